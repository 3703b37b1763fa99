/- What the proofs of the Trial statements need: part 6. -/
import Derived.Deep.AppendLies
import Derived.Maps.AppendAt
import Derived.Test.YtclphfojkggcpaaGreatZ3
set_option linter.unusedVariables false
set_option linter.unusedSimpArgs false
namespace Go.Proofs.YtclphfojkggcpaaGreat
open Go.Lib (hid)
open Go Go.RowKit
theorem infoI64:(Tryz.prog.info? 2).map (fun i=>(i.zero,i.size,i.bytes))=some (some (.int .i64 0),1,8):=by kernel_rfl
theorem owns_ints {w:World} {base e g n cap:Nat} {A:Nat→Prop} {k:IntKind}:∀{l:List Int} {o:Nat},(∀j u,(l.map (Value.int k))[j]? =some u→w.cell? ⟨g,o+j,none⟩=some u)→A g→k=.i64→RIs w A l (some ⟨g,o,none⟩)
 | [],_,_,_,_=>by simp only [RIs]
 | x::l,o,h,hA,hk=>by
  subst hk
  simp only [RIs]
  refine ⟨g,o,rfl,hA,?_,owns_ints (k:=.i64) (base:=base) (e:=e) (n:=n) (cap:=cap) (fun j u hj=>?_) hA rfl⟩
  ·simp only [At,and_true];exact h 0 _ (by simp)
  ·have:=h (j+1) u (by simpa using hj);rw [show o+1+j=o+(j+1) by omega];exact this
theorem RIs_of_owns {w:World} {base e g n cap:Nat} {l:List Int} (h:w.ownsRow base e 1 (.slice (some ⟨g,0,none⟩) n cap) n (l.map (Value.int .i64))):RIs w (fun b=>base≤b) l (some ⟨g,0,none⟩):=by
 have hg:=h.lt g rfl
 refine owns_ints (base:=base) (e:=e) (n:=n) (cap:=cap) (k:=.i64) (fun j u hj=>?_) hg.1 rfl
 have:=h.cells (g:=g) rfl j u hj
 simpa [Addr.add] using (by by_cases h0:j=0<;>simp_all [Addr.add])
def freqLoop (s:Int):List Int→Int
 | []=>if s=0 then 7 else 0
 | x::r=>if x < 0∨1048576 < x then 1 else freqLoop (s+x) r
def freqE (l:List Int):Int:=if l.length=0 then 4 else if 64 < l.length then 5 else freqLoop 0 l
def psums (s:Int):List Int→List Int
 | []=>[]
 | x::r=>(s+x)::psums (s+x) r
def sumI:List Int→Int
 | []=>0
 | x::r=>x+sumI r
theorem sumI_take (l:List Int) (j:Nat) (h:j < l.length):sumI (l.take (j+1))=sumI (l.take j)+l[j]:=by
 induction l generalizing j with
 | nil=>simp at h
 | cons x l ih=>cases j with
  | zero=>simp [sumI]
  | succ j=>have:=ih j (by simpa using h);simp only [List.take_succ_cons,sumI,List.getElem_cons_succ] at this ⊢;omega
theorem psums_take (s:Int) (l:List Int) (j:Nat) (h:j < l.length):psums s (l.take (j+1))=psums s (l.take j)++[s+sumI (l.take j)+l[j]]:=by
 induction l generalizing j s with
 | nil=>simp at h
 | cons x l ih=>cases j with
  | zero=>simp [psums,sumI]
  | succ j=>
   have:=ih (s+x) j (by simpa using h)
   simp only [List.take_succ_cons,psums,sumI,List.getElem_cons_succ,List.cons_append] at this ⊢
   rw [this,show s+(x+sumI (l.take j))=s+x+sumI (l.take j) by omega]
theorem psums_length (s:Int) (l:List Int):(psums s l).length=l.length:=by
 induction l generalizing s with
 | nil=>rfl
 | cons x l ih=>simp [psums,ih]
def okW (l:List Int):Prop:=∀x∈l,0≤x∧x≤1048576
theorem sumI_in:∀(l:List Int),okW l→0≤sumI l∧sumI l≤1048576*l.length
 | [],_=>by simp [sumI]
 | x::l,h=>by
  have h1:=h x (by simp)
  have h2:=sumI_in l (fun y hy=>h y (by simp [hy]))
  simp only [sumI,List.length_cons];omega
theorem freqLoop_take (s:Int):∀(l:List Int) (j:Nat),okW (l.take j)→freqLoop s l=freqLoop (s+sumI (l.take j)) (l.drop j)
 | [],j,_=>by simp [sumI]
 | x::l,0,_=>by simp [sumI]
 | x::l,j+1,h=>by
  have h1:=h x (by simp)
  have h2:=freqLoop_take (s+x) l j (fun y hy=>h y (by simp [hy]))
  simp only [List.take_succ_cons,List.drop_succ_cons,freqLoop,sumI]
  rw [if_neg (by omega),h2,show s+x+sumI (l.take j)=s+(x+sumI (l.take j)) by omega]
def FreqR (l:List Int) (w:World):Ending→World→Prop:=fun e w'=>Below w.heap.size w w' ∧
 ((freqE l≠0∧e=.returned (.tuple #[.pointer none,.int .i64 (freqE l)])) ∨
  (freqE l=0∧∃b a c,e=.returned (.tuple #[.pointer (some ⟨b,0,none⟩),.int .i64 0])∧w.heap.size≤b∧b < w'.heap.size∧w'.cell? ⟨b,0,none⟩=some (.slice a l.length c)∧RIs w' (fun k=>w.heap.size < k) (psums 0 l) a))
set_option maxRecDepth 100000 in
set_option maxHeartbeats 1000000 in
theorem freqNew_any (l:List Int) (w:World) (A:Nat→Prop) (wa:Option Addr) (wc:Nat) (ol:okIs l) (hln:l.length≤1048576) (hl:RIs w A l wa):
  Calls Tryz.prog 92 #[.slice wa l.length wc] w (FreqR l w):=by
 have HL:=hid hl
 have O:=hid ol
 clear hl ol
 obtain ⟨i0,hi,hz0,hz1,hz2⟩:=info_parts infoI64
 by_cases h0:l.length=0
 ·have h0':((l.length:Int)==0)=true:=beq_iff_eq.2 (by omega)
  have HE:=hid (show freqE l=4 by unfold freqE;rw [if_pos h0])
  clear h0
  go_enter Tryz.func92,Tryz.ntmps92
  go_wp2_with fail
  go_ret2
  exact ⟨Below.refl _ _,.inl ⟨by rw [HE.out];simp,by rw [HE.out];rfl⟩⟩
 have h0':((l.length:Int)==0)=false:=beq_eq_false_iff_ne.2 (by omega)
 by_cases h1:64 < l.length
 ·have HE:=hid (show freqE l=5 by unfold freqE;rw [if_neg h0,if_pos h1])
  have h1':decide ((64:Int) < (l.length:Int))=true:=decide_eq_true (by omega)
  clear h0 h1
  go_enter Tryz.func92,Tryz.ntmps92
  go_wp2_with fail
  go_ret2
  exact ⟨Below.refl _ _,.inl ⟨by rw [HE.out];simp,by rw [HE.out];rfl⟩⟩
 have h1':decide ((64:Int) < (l.length:Int))=false:=decide_eq_false (by omega)
 have HE:=hid (show freqE l=freqLoop 0 l by unfold freqE;rw [if_neg h0,if_neg h1])
 have h1'':l.length≤64:=by omega
 have hpos:0 < l.length:=by omega
 clear h0 h1
 go_enter Tryz.func92,Tryz.ntmps92
 go_wp2_with fail
 go_loopg [5,20] (l.length) (fun gk t5 i wr=>∃j:Nat,gk+j=l.length∧i=.int .i64 j∧t5=.int .i64 (sumI (l.take j))∧Hid (okW (l.take j))∧Below w.heap.size w wr∧w.heap.size < wr.heap.size ∧
   ∃v,wr.cell? ⟨w.heap.size,0,none⟩=some v∧wr.frozen? ⟨w.heap.size,0,none⟩=false∧Hid (wr.ownsRow (w.heap.size+1) 2 1 v j ((psums 0 (l.take j)).map (Value.int .i64))))
 case atStart=>exact ⟨0,by omega,rfl,by simp [sumI],fun x hx=>by simp at hx,Below.z,by simp,.slice none 0 0,by go_simp,by go_simp,hid (by simpa [psums] using World.ownsRow_nil _ _ _ _)⟩
 case round=>
  obtain ⟨j,hj,rfl,rfl,HW,hb,hz,v,hc,hf,HO⟩:=hrel
  by_cases hlt:j < l.length
  ·obtain ⟨b,o,rfl,hA,hbs,g0⟩:=HL.out.get j hlt
   have k0:wr.cell? ⟨b,o+j,none⟩=some (.int .i64 l[j]):=(hb.cell hbs).trans g0
   obtain ⟨r1,r2⟩:=O.out.get j hlt
   have hsum:=sumI_in _ HW.out
   have hjl:(l.take j).length=j:=by simp;omega
   rw [hjl] at hsum
   obtain ⟨s1,s2⟩:=hsum
   have hs1:b < wr.heap.size:=by omega
   clear g0 hjl
   by_cases hx:l[j] < 0∨1048576 < l[j]
   ·have HE2:=hid (show freqE l=1 by rw [HE.out,freqLoop_take 0 l j HW.out,List.drop_eq_getElem_cons hlt,freqLoop,if_pos hx])
    rcases hx with hx|hx
    all_goals go_wp2_with fail
    all_goals go_ret2
    all_goals exact ⟨hb,.inl ⟨by rw [HE2.out];simp,by rw [HE2.out];rfl⟩⟩
   ·have hx1:0≤l[j]:=by omega
    have hx2:l[j]≤1048576:=by omega
    have hst:=sumI_take l j hlt
    have hpt:=psums_take 0 l j hlt
    rw [show (0:Int)+sumI (l.take j)+l[j]=sumI (l.take j)+l[j] by omega] at hpt
    have HST:=hid hst
    have HPT:=hid hpt
    have HW2:=hid (show okW (l.take (j+1)) from fun y hy=>by
     rw [List.take_succ_eq_append_getElem hlt] at hy
     rcases List.mem_append.1 hy with h|h
     ·exact HW.out y h
     ·simp at h;subst h;exact ⟨hx1,hx2⟩)
    have hne:v.ownBlock≠some w.heap.size:=fun e=>by have:=(HO.out.lt _ e).1;omega
    have HNE:=hid hne
    clear hst hpt hx hne
    generalize hS:sumI (l.take j)=S at *
    have HS:=hid hS
    clear hS
    go_wp2_with (at_builtin;refine wpList_append_lies _ rfl _ _ 25 rfl (w.heap.size+1) 2 i0 (.int .i64 0) 1 8 Tryz.underlying25 hi hz0 hz1 hz2 rfl (by decide) v j _ (by rfl) (HO.out.alloc _) ⟨wr.heap.size,0,none⟩ 1 1 [.int .i64 (S+l[j])] (by rfl) rfl (cell_one_new _ _ _) (by simp [Value.oneCell']) (by decide) (by unfold maxLen;omega) (by omega) (by simp;omega) (wr.heap.size+1) (by simp) ?_;intro g cap w1 hown hgrow hat hlt1;have hc1:w1.cell? ⟨w.heap.size,0,none⟩=some v:=(hgrow.cell_far ⟨w.heap.size,0,none⟩ (by simp;omega) (Ne.symm HNE.out)).trans (by go_simp);have hf1:w1.frozen? ⟨w.heap.size,0,none⟩=false:=(hgrow.frozen_far ⟨w.heap.size,0,none⟩ (by simp;omega) (Ne.symm HNE.out)).trans (by go_simp))
    go_roundg (gk - 1)
    case measure=>omega
    case rel=>
     refine ⟨j+1,by omega,by go_num,by rw [HST.out],HW2,?_,?_,_,World.cell?_setCell_same' _ _ _ (by rw [hc1];rfl),by rw [World.frozen?_setCell];exact hf1,hid ?_⟩
     ·exact (((hb.alloc (by omega) _).grown hgrow (by simp;omega) (fun k e=>by have:=(HO.out.lt _ e).1;omega)).setCell (by simp) _)
     ·have:=hgrow.size;simp at this ⊢;omega
     ·rw [HPT.out,List.map_append];exact ownsRow_setCell_below hown (by simp) _
  ·have hjl:j=l.length:=by omega
   subst hjl
   have hfl:=freqLoop_take 0 l l.length HW.out
   rw [List.take_length,List.drop_length,freqLoop] at hfl
   rw [List.take_length] at HO
   simp only [List.take_length]
   have HFL:=hid hfl
   clear hfl
   by_cases hs:sumI l=0
   ·have hs':(sumI l==0)=true:=beq_iff_eq.2 hs
    have HE2:=hid (show freqE l=7 by rw [HE.out,HFL.out,if_pos (by omega)])
    clear hs
    go_wp2_with fail
    go_ret2
    exact ⟨hb,.inl ⟨by rw [HE2.out];simp,by rw [HE2.out];rfl⟩⟩
   ·have hs':(sumI l==0)=false:=beq_eq_false_iff_ne.2 hs
    have HE2:=hid (show freqE l=0 by rw [HE.out,HFL.out,if_neg (by omega)])
    clear hs
    go_wp2_with fail
    go_ret2
    obtain ⟨g,cap,rfl,hg1,hg2⟩:=HO.out.form (by omega)
    exact ⟨hb,.inr ⟨HE2.out,w.heap.size,_,_,rfl,Nat.le_refl _,hz,hc,RIs.mono (fun _ hb _=>hb) _ _ (RIs_of_owns HO.out)⟩⟩
end Go.Proofs.YtclphfojkggcpaaGreat
