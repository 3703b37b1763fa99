/- Part 13. -/
import Derived.OwnWalk
import Derived.Test.YtkdffbdnjfgpeaaGreatZ3
import Derived.Test.YtkdffbdnjfgpeaaGreatZ11
set_option linter.all false
namespace Go.Proofs.YtkdffbdnjfgpeaaGreat
open Go.Lib (hid)
open Go Go.RowKit Go.Proofs.Tryz
theorem US:(prog.info? 24).map (fun i=>(i.zero,i.size,i.bytes))=some (some (.agg #[.int .u8 0,.int .i64 0,.slice none 0 0]),3,40):=kr
theorem Zgq (n:Int) (w:World):Calls prog 142 #[.int .i64 n] w fun e w'=>e=.returned (VV ⟨1,n,[]⟩ ⟨none,0⟩)∧Below w.heap.size w w':=by
 go_enter func142,ntmps142
 go_wp2_with fail
 refine bodyPost_ret (v:=VV ⟨1,n,[]⟩ ⟨none,0⟩) (by first|(simp [results,Tryz.f142,go_sem];done)|(simp [results,Tryz.f142,go_sem, *];done)) rfl ?_
 exact ⟨rfl,ZtX⟩
theorem VX (l:List GV) (a:Option Addr) (cp:Nat) (w:World):Calls prog 150 #[.slice a l.length cp] w fun e w'=>e=.returned (VV ⟨4,0,l⟩ ⟨a,cp⟩)∧Below w.heap.size w w':=by
 go_enter func150,ntmps150
 go_wp2_with fail
 refine bodyPost_ret (v:=VV ⟨4,0,l⟩ ⟨a,cp⟩) (by first|(simp [results,Tryz.f150,go_sem];done)|(simp [results,Tryz.f150,go_sem, *];done)) rfl ?_
 exact ⟨rfl,ZtX⟩
def Zga (l:List GV) (w:World):Ending→World→Prop:=fun e w'=>Below w.heap.size w w'∧∃a c,e=.returned (.slice a l.length c)∧RVs w' (fun b=>w.heap.size≤b) l a
def ZhC (x:GV) (w:World):Ending→World→Prop:=fun e w'=>Below w.heap.size w w'∧∃m,e=.returned (VV x m)∧RV w' (fun b=>w.heap.size≤b) x m.a
set_option maxRecDepth 100000
theorem Zgj (x:GV) (m:VA) (w:World) (A:Nat→Prop) (ox:okV x) (h:∀W,RVs W A x.l m.a→Calls prog 60 #[.slice m.a x.l.length m.c] W (Zga x.l W)) (hl:RVs w A x.l m.a):
  Calls prog 90 #[VV x m] w (ZhC x w):=by
 obtain ⟨ma,mc⟩:=m
 have HX:=hid h
 have HL:=hid hl
 obtain ⟨⟨x1,x2⟩,⟨x3,x4⟩,x5,_⟩:=ZA.1 ox
 clear h hl ox
 go_enter func90,ntmps90
 go_wp2_with (go_at_call 60;refine (HX.out _ (by exact Zt8 az _ _ HL.out)).mono ?_;rintro e w1 ⟨hb1,a,c,rfl,hr1⟩;obtain ⟨hc1,hf1⟩:=Za hb1;have hz1:=hb1.size;simp at hz1;have HR1:=hid hr1;clear hr1;have p0:w1.cell? ⟨w.heap.size,0,none⟩=some (.int .u8 x.k):=gs;have p1:w1.cell? ⟨w.heap.size,1,none⟩=some (.int .i64 x.n):=gs;have p2:w1.cell? ⟨w.heap.size,2,none⟩=some (.slice ma x.l.length mc):=gs;have q0:w1.cell? ⟨w.heap.size+1,0,none⟩=some (.int .u8 0):=gs;have q1:w1.cell? ⟨w.heap.size+1,1,none⟩=some (.int .i64 0):=gs;have q2:w1.cell? ⟨w.heap.size+1,2,none⟩=some (.slice none 0 0):=gs)
 refine bodyPost_ret (v:=VV x ⟨a,c⟩) (by first|(simp [results,Tryz.f90,go_sem];done)|(simp [results,Tryz.f90,go_sem, *];done)) rfl ?_
 exact ⟨ZtX,⟨a,c⟩,rfl,Zl.2 (Zug (fun b hb _=>by simp at hb;omega) _ _ (Zt8 (((Zt4 so).trans (Zt4 so)).trans ((Zt4 so).trans (Zt4 so))) _ _ HR1.out))⟩
set_option maxRecDepth 512
theorem qc0 {p:Prop} (h:p:=by
 subst h0
 go_enter func60,ntmps60
 go_wp2_with fail
 go_ret
 exact ⟨ZtX,none,0,rfl,by simp only [RVs]⟩):p:=h
set_option maxRecDepth 100000
set_option maxHeartbeats 1000000
theorem Za8 (N:Nat):∀(l:List GV) (w:World) (A:Nat→Prop) (a:Option Addr) (cp:Nat),Zi l≤N→l.length≤1048576→okVs l→RVs w A l a →
  Calls prog 60 #[.slice a l.length cp] w (Zga l w):=by
 induction N with
 | zero=>
  intro l w A a cp hN hl ol hr
  have h0:l=[]:=by have:=WW l;exact List.eq_nil_of_length_eq_zero om
  exact qc0
 | succ N ih=>
  intro l w A a cp hN hln ol hr
  by_cases h0:l=[]
  ·exact qc0
  have hpos:0 < l.length:=by rcases l with _|⟨x,l⟩;exact absurd rfl h0;simp
  have h0':((l.length:Int)==0)=false:=beq_eq_false_iff_ne.2 om
  have IH:=hid ih
  have HL:=hid hr
  have O:=hid ol
  obtain ⟨i0,hi,hz0,hz1,hz2⟩:=info_parts US
  clear ih hr ol h0
  go_enter func60,ntmps60
  go_wp2_with (at_make;refine wpList_make_full _ rfl _ _ 22 rfl w.heap.size 24 i0 _ 3 rfl hi hz0 hz1 .i64 .i64 _ _ l.length rfl rfl rfl rfl (by rw [hz2];omega) (by unfold maxLen;omega) (Nat.le_refl _) ?_;intro w1 hown hgrow)
  have hz1:w.heap.size < w1.heap.size:=(hown.lt _ rfl).2
  have hb1:Below w.heap.size w w1:=Below.grown (Below.refl _ _) hgrow (Nat.le_refl _) (fun k e=>by cases e)
  simp only [Value.cells,Zbg] at hown
  have HO:=hid hown
  clear hown hgrow
  go_loopg [14] (l.length) (fun gk i wr=>∃j:Nat,gk+j=l.length∧i=.int .i64 j∧Below w.heap.size w wr∧w.heap.size < wr.heap.size∧∃ps:List (GV×VA),Hid (ps.length=l.length) ∧
   Hid (wr.ownsRow w.heap.size 24 3 (.slice (some ⟨w.heap.size,0,none⟩) l.length l.length) l.length (Xd ps)) ∧
   Hid (∀q (h:q < l.length) (h':q < ps.length),q < j→ps[q].1=l[q]∧RV wr (fun b=>w.heap.size < b) ps[q].1 ps[q].2.a))
  case atStart=>exact ⟨0,om,rfl,hb1,hz1,List.replicate l.length QL,hid sm,hid HO.out,fun q h h' hq=>absurd hq om⟩
  case round=>
   obtain ⟨j,hj,rfl,hb,hz,ps,HP,HW,HQ⟩:=hrel
   by_cases hlt:j < l.length
   ·obtain ⟨b,o,⟨mja,mjc⟩,rfl,hA,hbs,g0,gx⟩:=HL.out.get j hlt
    obtain ⟨k0,k1,k2⟩:=At3.1 (g0.ext (ZtY hb) (A:=fun _=>True) trivial)
    have hs1:b < wr.heap.size:=om
    clear g0
    go_wp2_with (go_at_call 90;refine (Zgj l[j] ⟨mja,mjc⟩ _ A (O.out.get j hlt) (fun W h=>IH.out l[j].l W A _ _ (by have:=ZX l j hlt;have:=XZ l[j];omega) (ZA.1 (O.out.get j hlt)).2.2.1 (ZA.1 (O.out.get j hlt)).2.2.2 h) (by exact Zl.1 (Zt5 az _ _ gx))).mono ?_;rintro e w2 ⟨hb2,m,rfl,hr2⟩;have HR2:=hid hr2;clear hr2;have hz2:=hb2.size;simp at hz2;have hbb:Below wr.heap.size wr w2:=ZtX;have HW2:=hid (ZR HW.out hbb (fun k e=>(by cases e;exact hz)));have hjp:j < ps.length:=(by rw [HP.out];exact hlt);obtain ⟨y0,y1,y2⟩:=QS ps j hjp;have z0:=(HW2.out.cellAt (j*3) om).trans y0;have z1:=(HW2.out.cellAt (j*3+1) om).trans y1;have z2:=(HW2.out.cellAt (j*3+2) om).trans y2;have hff:∀o,w2.frozen? ⟨w.heap.size,o,none⟩=false:=HW2.out.frozenAt;clear y0 y1 y2)
    obtain ⟨hst,hsg⟩:=Jn HW2.out j l[j] m hjp
    have hag:Agree (fun b=>w.heap.size < b) wr (((w2.setCell ⟨w.heap.size,j*3,none⟩ (.int .u8 l[j].k)).setCell ⟨w.heap.size,j*3+1,none⟩ (.int .i64 l[j].n)).setCell ⟨w.heap.size,j*3+2,none⟩ (.slice m.a l[j].l.length m.c)):=
     (ZtY hbb).trans (Agree.grown hsg fun b hb e=>by cases e;omega)
    go_roundg (gk - 1)
    case measure=>omega
    case rel=>
     refine ⟨j+1,om,by go_num,?_,by simp;omega,ps.set j (l[j],m),hid (by simp [HP.out]),hid hst,fun q h h' hq=>?_⟩
     ·exact ((hb.trans (hbb.mono om)).setCell (Nat.le_refl _) _).setCell (Nat.le_refl _) _ |>.setCell (Nat.le_refl _) _
     by_cases hqj:q=j
     ·subst hqj
      rw [List.getElem_set_self]
      exact ⟨rfl,Zt5 (Agree.grown hsg fun b hb e=>by cases e;omega) _ _ (Zt9 (fun b h _=>by simp at h;omega) _ _ HR2.out)⟩
     rw [List.getElem_set_ne (fun e=>hqj e.symm)]
     have h9:=HQ.out q h (by simpa using h') om
     exact ⟨h9.1,Zt5 hag _ _ h9.2⟩
   have hjl:j=l.length:=om
   subst hjl
   go_wp2_with fail
   go_ret
   refine ⟨hb,_,_,rfl,?_⟩
   have h1:=Qi (A:=fun b=>w.heap.size≤b) (Nat.le_refl _) HW.out (fun p hp=>by
    obtain ⟨q,hq,rfl⟩:=List.getElem_of_mem hp
    have:=HP.out
    exact Zt9 (fun b h _=>om) _ _ (HQ.out q om hq om).2)
   have h2:ps.map Prod.fst=l:=List.ext_getElem (by simp [HP.out]) fun q h h'=>by
    simp only [List.getElem_map]
    exact (HQ.out q h' (by simpa using h) om).1
   rw [h2] at h1
   exact h1
end Go.Proofs.YtkdffbdnjfgpeaaGreat
