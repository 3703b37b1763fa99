/- Part 6. -/
import Derived.Deep.AppendLies
import Derived.Maps.AppendAt
import Derived.Test.YtkdffbdnjfgpeaaGreatZ3
set_option linter.all false
namespace Go.Proofs.YtkdffbdnjfgpeaaGreat
open Go.Lib (hid)
open Go Go.RowKit Go.Proofs.Tryz
theorem Zde:(prog.info? 2).map (fun i=>(i.zero,i.size,i.bytes))=some (some (.int .i64 0),1,8):=kr
theorem ZcC {w:World} {base e g n cap:Nat} {A:Nat→Prop} {k:IntKind}:∀{l:List Int} {o:Nat},(∀j u,(l.map (Value.int k))[j]? =some u→w.cell? ⟨g,o+j,none⟩=some u)→A g→k=.i64→RIs w A l (some ⟨g,o,none⟩)
 | [],_,_,_,_=>by simp only [RIs]
 | x::l,o,h,hA,hk=>by
  subst hk
  simp only [RIs]
  refine ⟨g,o,rfl,hA,?_,ZcC (k:=.i64) (base:=base) (e:=e) (n:=n) (cap:=cap) (fun j u hj=>?_) hA rfl⟩
  ·simp only [At,and_true];exact h 0 _ sm
  have:=h (j+1) u (by simpa using hj);rw [show o+1+j=o+(j+1) by omega];exact this
theorem ZdI {w:World} {base e g n cap:Nat} {l:List Int} (h:w.ownsRow base e 1 (.slice (some ⟨g,0,none⟩) n cap) n (l.map (Value.int .i64))):RIs w (fun b=>base≤b) l (some ⟨g,0,none⟩):=by
 have hg:=h.lt g rfl
 refine ZcC (base:=base) (e:=e) (n:=n) (cap:=cap) (k:=.i64) (fun j u hj=>?_) hg.1 rfl
 have:=h.cells (g:=g) rfl j u hj
 simpa [Addr.add] using (by by_cases h0:j=0<;>simp_all [Addr.add])
def YM (s:Int):List Int→Int
 | []=>if s=0 then 7 else 0
 | x::r=>if x < 0∨1048576 < x then 1 else YM (s+x) r
def Yc (l:List Int):Int:=if l.length=0 then 4 else if 64 < l.length then 5 else YM 0 l
def Yy (s:Int):List Int→List Int
 | []=>[]
 | x::r=>(s+x)::Yy (s+x) r
def Zj:List Int→Int
 | []=>0
 | x::r=>x+Zj r
theorem WR (l:List Int) (j:Nat) (h:j < l.length):Zj (l.take (j+1))=Zj (l.take j)+l[j]:=by
 induction l generalizing j with
 | nil=>simp at h
 | cons x l ih=>cases j with
  | zero=>simp [Zj]
  | succ j=>have:=ih j (by simpa using h);simp only [List.take_succ_cons,Zj,List.getElem_cons_succ] at this ⊢;omega
theorem Zfq (s:Int) (l:List Int) (j:Nat) (h:j < l.length):Yy s (l.take (j+1))=Yy s (l.take j)++[s+Zj (l.take j)+l[j]]:=by
 induction l generalizing j s with
 | nil=>simp at h
 | cons x l ih=>cases j with
  | zero=>simp [Yy,Zj]
  | succ j=>
   have:=ih (s+x) j (by simpa using h)
   simp only [List.take_succ_cons,Yy,Zj,List.getElem_cons_succ,List.cons_append] at this ⊢
   rw [this,show s+(x+Zj (l.take j))=s+x+Zj (l.take j) by omega]
theorem Vw (s:Int) (l:List Int):(Yy s l).length=l.length:=by
 induction l generalizing s with
 | nil=>rfl
 | cons x l ih=>simp [Yy,ih]
def okW (l:List Int):Prop:=∀x∈l,0≤x∧x≤1048576
theorem WX:∀(l:List Int),okW l→0≤Zj l∧Zj l≤1048576*l.length
 | [],_=>by simp [Zj]
 | x::l,h=>by
  have h1:=h x sm
  have h2:=WX l (fun y hy=>h y (by simp [hy]))
  simp only [Zj,List.length_cons];omega
theorem Uq (s:Int):∀(l:List Int) (j:Nat),okW (l.take j)→YM s l=YM (s+Zj (l.take j)) (l.drop j)
 | [],j,_=>by simp [Zj]
 | x::l,0,_=>by simp [Zj]
 | x::l,j+1,h=>by
  have h1:=h x sm
  have h2:=Uq (s+x) l j (fun y hy=>h y (by simp [hy]))
  simp only [List.take_succ_cons,List.drop_succ_cons,YM,Zj]
  rw [if_neg om,h2,show s+x+Zj (l.take j)=s+(x+Zj (l.take j)) by omega]
def ZkI (l:List Int) (w:World):Ending→World→Prop:=fun e w'=>Below w.heap.size w w' ∧
 ((Yc l≠0∧e=.returned (.tuple #[.pointer none,.int .i64 (Yc l)])) ∨
  (Yc l=0∧∃b a c,e=.returned (.tuple #[.pointer (some ⟨b,0,none⟩),.int .i64 0])∧w.heap.size≤b∧b < w'.heap.size∧w'.cell? ⟨b,0,none⟩=some (.slice a l.length c)∧RIs w' (fun k=>w.heap.size < k) (Yy 0 l) a))
theorem q50 {p:Prop} (h:p:=by
 go_enter func144,ntmps144
 go_wp2_with fail
 go_ret2
 exact ⟨Below.refl _ _,.inl ⟨by rw [HE.out];simp,by rw [HE.out];rfl⟩⟩):p:=h
set_option maxRecDepth 100000
set_option maxHeartbeats 1000000
theorem Uf (l:List Int) (w:World) (A:Nat→Prop) (wa:Option Addr) (wc:Nat) (ol:okIs l) (hln:l.length≤1048576) (hl:RIs w A l wa):
  Calls prog 144 #[.slice wa l.length wc] w (ZkI l w):=by
 have HL:=hid hl
 have O:=hid ol
 clear hl ol
 obtain ⟨i0,hi,hz0,hz1,hz2⟩:=info_parts Zde
 by_cases h0:l.length=0
 ·have h0':((l.length:Int)==0)=true:=beq_iff_eq.2 om
  have HE:=hid (show Yc l=4 by unfold Yc;rw [if_pos h0])
  clear h0
  exact q50
 have h0':((l.length:Int)==0)=false:=beq_eq_false_iff_ne.2 om
 by_cases h1:64 < l.length
 ·have HE:=hid (show Yc l=5 by unfold Yc;rw [if_neg h0,if_pos h1])
  have h1':decide ((64:Int) < (l.length:Int))=true:=decide_eq_true om
  clear h0 h1
  exact q50
 have h1':decide ((64:Int) < (l.length:Int))=false:=decide_eq_false om
 have HE:=hid (show Yc l=YM 0 l by unfold Yc;rw [if_neg h0,if_neg h1])
 have h1'':l.length≤64:=om
 have hpos:0 < l.length:=om
 clear h0 h1
 go_enter func144,ntmps144
 go_wp2_with fail
 go_loopg [5,20] (l.length) (fun gk t5 i wr=>∃j:Nat,gk+j=l.length∧i=.int .i64 j∧t5=.int .i64 (Zj (l.take j))∧Hid (okW (l.take j))∧Below w.heap.size w wr∧w.heap.size < wr.heap.size ∧
   ∃v,wr.cell? ⟨w.heap.size,0,none⟩=some v∧wr.frozen? ⟨w.heap.size,0,none⟩=false∧Hid (wr.ownsRow (w.heap.size+1) 2 1 v j ((Yy 0 (l.take j)).map (Value.int .i64))))
 case atStart=>exact ⟨0,om,rfl,by simp [Zj],fun x hx=>by simp at hx,ZtX,sm,.slice none 0 0,gs,gs,hid (by simpa [Yy] using World.ownsRow_nil _ _ _ _)⟩
 case round=>
  obtain ⟨j,hj,rfl,rfl,HW,hb,hz,v,hc,hf,HO⟩:=hrel
  by_cases hlt:j < l.length
  ·obtain ⟨b,o,rfl,hA,hbs,g0⟩:=HL.out.get j hlt
   have k0:wr.cell? ⟨b,o+j,none⟩=some (.int .i64 l[j]):=(hb.cell hbs).trans g0
   obtain ⟨r1,r2⟩:=O.out.get j hlt
   have hsum:=WX _ HW.out
   have hjl:(l.take j).length=j:=by simp;omega
   rw [hjl] at hsum
   obtain ⟨s1,s2⟩:=hsum
   have hs1:b < wr.heap.size:=om
   clear g0 hjl
   by_cases hx:l[j] < 0∨1048576 < l[j]
   ·have HE2:=hid (show Yc l=1 by rw [HE.out,Uq 0 l j HW.out,List.drop_eq_getElem_cons hlt,YM,if_pos hx])
    rcases hx with hx|hx
    all_goals go_wp2_with fail
    all_goals go_ret2
    all_goals exact ⟨hb,.inl ⟨by rw [HE2.out];simp,by rw [HE2.out];rfl⟩⟩
   have hx1:0≤l[j]:=om
   have hx2:l[j]≤1048576:=om
   have hst:=WR l j hlt
   have hpt:=Zfq 0 l j hlt
   rw [show (0:Int)+Zj (l.take j)+l[j]=Zj (l.take j)+l[j] by omega] at hpt
   have HST:=hid hst
   have HPT:=hid hpt
   have HW2:=hid (show okW (l.take (j+1)) from fun y hy=>by
    rw [List.take_succ_eq_append_getElem hlt] at hy
    rcases List.mem_append.1 hy with h|h
    ·exact HW.out y h
    simp at h;subst h;exact ⟨hx1,hx2⟩)
   have hne:v.ownBlock≠some w.heap.size:=fun e=>by have:=(HO.out.lt _ e).1;omega
   have HNE:=hid hne
   clear hst hpt hx hne
   generalize hS:Zj (l.take j)=S at *
   have HS:=hid hS
   clear hS
   go_wp2_with (at_builtin;refine wpList_append_lies _ rfl _ _ 25 rfl (w.heap.size+1) 2 i0 (.int .i64 0) 1 8 underlying25 hi hz0 hz1 hz2 rfl (by decide) v j _ (by rfl) (HO.out.alloc _) ⟨wr.heap.size,0,none⟩ 1 1 [.int .i64 (S+l[j])] (by rfl) rfl (cell_one_new _ _ _) (by simp [Value.oneCell']) (by decide) (by unfold maxLen;omega) om (by simp;omega) (wr.heap.size+1) sm ?_;intro g cap w1 hown hgrow hat hlt1;have hc1:w1.cell? ⟨w.heap.size,0,none⟩=some v:=(hgrow.cell_far ⟨w.heap.size,0,none⟩ (by simp;omega) (Ne.symm HNE.out)).trans gs;have hf1:w1.frozen? ⟨w.heap.size,0,none⟩=false:=(hgrow.frozen_far ⟨w.heap.size,0,none⟩ (by simp;omega) (Ne.symm HNE.out)).trans gs)
   go_roundg (gk - 1)
   case measure=>omega
   case rel=>
    refine ⟨j+1,om,by go_num,by rw [HST.out],HW2,?_,?_,_,World.cell?_setCell_same' _ _ _ (by rw [hc1];rfl),by rw [World.frozen?_setCell];exact hf1,hid ?_⟩
    ·exact (((hb.alloc om _).grown hgrow (by simp;omega) (fun k e=>by have:=(HO.out.lt _ e).1;omega)).setCell sm _)
    ·have:=hgrow.size;simp at this ⊢;omega
    rw [HPT.out,List.map_append];exact ownsRow_setCell_below hown sm _
  have hjl:j=l.length:=om
  subst hjl
  have hfl:=Uq 0 l l.length HW.out
  rw [List.take_length,List.drop_length,YM] at hfl
  rw [List.take_length] at HO
  simp only [List.take_length]
  have HFL:=hid hfl
  clear hfl
  by_cases hs:Zj l=0
  ·have hs':(Zj l==0)=true:=beq_iff_eq.2 hs
   have HE2:=hid (show Yc l=7 by rw [HE.out,HFL.out,if_pos om])
   clear hs
   go_wp2_with fail
   go_ret2
   exact ⟨hb,.inl ⟨by rw [HE2.out];simp,by rw [HE2.out];rfl⟩⟩
  have hs':(Zj l==0)=false:=beq_eq_false_iff_ne.2 hs
  have HE2:=hid (show Yc l=0 by rw [HE.out,HFL.out,if_neg om])
  clear hs
  go_wp2_with fail
  go_ret2
  obtain ⟨g,cap,rfl,hg1,hg2⟩:=HO.out.form om
  exact ⟨hb,.inr ⟨HE2.out,w.heap.size,_,_,rfl,Nat.le_refl _,hz,hc,RIs.mono (fun _ hb _=>hb) _ _ (ZdI HO.out)⟩⟩
end Go.Proofs.YtkdffbdnjfgpeaaGreat
