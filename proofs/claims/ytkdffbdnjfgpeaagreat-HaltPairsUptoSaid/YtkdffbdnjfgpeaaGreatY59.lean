/- Part 60. -/
import Derived.Great.BuildSlice
import Derived.Test.YtkdffbdnjfgpeaaGreatY13
set_option linter.all false
namespace Go.Proofs.YtkdffbdnjfgpeaaGreat
open Go.Lib (hid)
open Go Go.RowKit Go.Proofs.Tryz
set_option maxRecDepth 100000
theorem Zvj (l:List GV) (w:World) (A:Nat→Prop) (a:Option Addr) (cp:Nat) (hln:l.length≤1048576) (ol:okVs l) (hr:RVs w A l a):
  Calls prog 34 #[.slice a l.length cp] w (ZhC ⟨3,0,l⟩ w):=by
 have HL:=hid hr
 have OL:=hid ol
 clear hr ol
 go_enter func34,ntmps34
 go_wp2_with (go_at_call 60;refine (Za8 (Zi l) l _ A a cp (Nat.le_refl _) hln OL.out (by exact Zt8 az _ _ HL.out)).mono ?_;rintro e w1 ⟨hb1,a1,c1,rfl,hr1⟩;obtain ⟨hc1,hf1⟩:=Za hb1;have hz1:=hb1.size;simp at hz1;have HR1:=hid hr1;clear hr1;have q0:w1.cell? ⟨w.heap.size,0,none⟩=some (.int .u8 0):=gs;have q1:w1.cell? ⟨w.heap.size,1,none⟩=some (.int .i64 0):=gs;have q2:w1.cell? ⟨w.heap.size,2,none⟩=some (.slice none 0 0):=gs)
 refine bodyPost_ret (v:=VV ⟨3,0,l⟩ ⟨a1,c1⟩) (by first|(simp [results,Tryz.f34,go_sem];done)|(simp [results,Tryz.f34,go_sem, *];done)) rfl ?_
 exact ⟨ZtX,⟨a1,c1⟩,rfl,Zl.2 (Zug (fun b hb _=>by simp at hb;omega) _ _ (Zt8 (((Zt4 so).trans (Zt4 so)).trans (Zt4 so)) _ _ HR1.out))⟩
set_option maxRecDepth 512
theorem Zvz {w:World} {b:Nat} {x y:GV} {m m2:VA} (h:At w b 0 [.int .u8 x.k,.int .i64 x.n,.slice m.a x.l.length m.c,.int .u8 y.k,.int .i64 y.n,.slice m2.a y.l.length m2.c]) (hx:RV w (fun _=>True) x m.a) (hy:RV w (fun _=>True) y m2.a):RVs w (fun _=>True) [x,y] (some ⟨b,0,none⟩):=by
 have fz:∀o,Fz w (fun _=>True) b o:=fun o=>fun ⟨N,h0,h⟩=>absurd (h 0 trivial) om
 obtain ⟨a0,a1,a2,a3,a4,a5, -⟩:=h
 simp only [RVs]
 exact ⟨b,0,m,rfl,trivial,⟨a0,a1,a2,trivial⟩,hx,⟨b,3,m2,rfl,trivial,⟨a3,a4,a5,trivial⟩,hy,trivial,fz _⟩,fz _⟩
theorem ZV {op:Oper} (h:op.guard=none) (f:Nat→Option Bool):Region.wanted op f=true:=by
 unfold Region.wanted
 rw [h]
theorem Zlr (k n k2 n2:Int) (b b2:Option Addr) (l c l2 c2:Nat) (w:World):(Instr.buildSlice 22 2 #[(0,.agg #[.int .u8 k,.int .i64 n,.slice b l c]),(1,.agg #[.int .u8 k2,.int .i64 n2,.slice b2 l2 c2])]).run prog w=.ok (.slice (some ⟨w.heap.size,0,none⟩) 2 2) (w.alloc (.cells #[.int .u8 k,.int .i64 n,.slice b l c,.int .u8 k2,.int .i64 n2,.slice b2 l2 c2] 24)):=by
 obtain ⟨ie,hie,y0,y1,y2⟩:=info_parts US
 exact run_buildSlice w 22 24 2 _ _ ie _ underlying22 hie y0 (by rw [y1];decide) (by rw [y1];decide) (by rw [y1];kernel_rfl)
theorem Zwj {o:Oper} {a:Act} {w:World} {d:Tmp} {K:Act→World→Prop} {Q:Exit→Act→World→Prop} {parts:Array (Nat×Operand)} {k n k2 n2:Int} {b b2:Option Addr} {l c l2 c2:Nat} (hd:o.dst=some d) (ho:o.op=.buildSlice 22 2 parts)
  (hp:(parts.map fun (i,x)=>(i,a.eval x))= #[(0,.agg #[.int .u8 k,.int .i64 n,.slice b l c]),(1,.agg #[.int .u8 k2,.int .i64 n2,.slice b2 l2 c2])])
  (h:K (a.put (some d) (.slice (some ⟨w.heap.size,0,none⟩) 2 2)) (w.alloc (.cells #[.int .u8 k,.int .i64 n,.slice b l c,.int .u8 k2,.int .i64 n2,.slice b2 l2 c2] 24))):o.wp prog a w K Q:=by
 unfold Oper.wp execOp
 rw [←hd] at h
 simp only [ho,Sem.run_bind,hp,Zlr,Result.andThen_ok]
 exact h
end Go.Proofs.YtkdffbdnjfgpeaaGreat
