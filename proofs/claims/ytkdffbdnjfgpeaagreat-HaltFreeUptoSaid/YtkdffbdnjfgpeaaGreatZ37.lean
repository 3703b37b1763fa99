/- Part 38. -/
import Derived.Test.YtkdffbdnjfgpeaaGreatZ7
import Derived.Test.YtkdffbdnjfgpeaaGreatZ36
set_option linter.all false
namespace Go.Proofs.YtkdffbdnjfgpeaaGreat
open Go.Lib (hid)
open Go Go.RowKit Go.Proofs.Tryz
theorem Zrm {x:Nat} (h:0 < x) (hx:x < 18446744073709551616):0 < Qq x∧Qq x≤64:=by
 unfold Qq
 rw [if_neg om]
 have:Nat.log2 x < 64:=(Nat.log2_lt om).2 (by simpa using hx)
 omega
theorem ZrM (x:Nat) (w:World) (hx:x < 18446744073709551616):
  Calls prog 106 #[.int .u64 x] w fun e w'=>Below w.heap.size w w'∧∃a c,e=.returned (.slice a (W7 x).length ((W7 x).length+c))∧RL w' (fun b=>w.heap.size≤b) (W7 x) a:=by
 go_enter func106,ntmps106
 go_wp2_with (go_at_call 105;refine (Zra (Zp6 x) _ (fun _=>True) (some ⟨w.heap.size,0,none⟩) 0 sm (.inr ⟨w.heap.size,0,rfl,trivial,fun i hi=>by obtain rfl:i=0:=(by simpa using hi);go_simp⟩)).mono ?_;rintro e w1 ⟨hb1,a',c',rfl,hr1⟩)
 go_ret
 exact ⟨ZtZ,a',c',rfl,Zt7 (fun b h _=>by (try simp at h);omega) hr1⟩
set_option maxRecDepth 100000
theorem Zsy (x:Nat) (w:World) (A:Nat→Prop) (a:Option Addr) (c:Nat) (hx:x < 18446744073709551616) (hr:RL w A (W7 x) a):
  Calls prog 159 #[.slice a (W7 x).length ((W7 x).length+c)] w fun e w'=>e=.returned (.int .i64 (Qq x))∧Below w.heap.size w w':=by
 rcases Nat.eq_zero_or_pos x with rfl|h0
 ·have hl0:((Qq 0:Nat):Int)=0:=by simp [Qq]
  rw [Zpu,hl0]
  clear hr
  go_enter func159,ntmps159
  go_wp2_with fail
  go_loopg [3] 1 (fun gk t3' wr=>gk=1∧t3'=.int .i64 (-1)∧wr=w)
  case atStart=>exact ⟨rfl,rfl,rfl⟩
  case round=>
   obtain ⟨rfl,rfl,rfl⟩:=hrel
   go_wp2_with fail
   go_ret
   exact ⟨rfl,Below.refl _ _⟩
 obtain ⟨h1,h2⟩:=Zrm h0 hx
 rw [W8 h0] at hr ⊢
 obtain ⟨b,o,rfl,hA,hb,hc⟩:=hr.get 0 sm
 simp only [List.getElem_cons_zero,Nat.add_zero] at hc
 have hxB:((x:Int) != 0)=true:=by simp;omega
 generalize hL:Qq x=L at h1 h2
 have HL:=hid hL
 have hw1:IntKind.i64.wrap ((L:Nat):Int)=(L:Int):=IntWalk.i64_in _ om
 clear hr hL
 go_enter func159,ntmps159
 go_wp2_with fail
 go_loopg [3] 1 (fun gk t3' wr=>gk=1∧t3'=.int .i64 0∧wr=w)
 case atStart=>exact ⟨rfl,rfl,rfl⟩
 case round=>
  obtain ⟨rfl,rfl,rfl⟩:=hrel
  go_wp2_with (go_at_call 161;refine (ZeM x _ hx).mono ?_;rw [HL.out];rintro e w1 ⟨rfl,hb1⟩)
  go_ret
  exact ⟨Zf sm,hb1⟩
set_option maxRecDepth 512
theorem Zr4 (x:Nat) (w:World) (A:Nat→Prop) (a:Option Addr) (c:Nat) (hx:x < 18446744073709551616) (hr:RL w A (W7 x) a):
  Calls prog 98 #[.slice a (W7 x).length ((W7 x).length+c)] w fun e w'=>e=.returned (.bool (x==0))∧Below w.heap.size w w':=by
 have he:(((Qq x:Nat):Int)==0)=(x==0):=by
  rcases Nat.eq_zero_or_pos x with rfl|h0
  ·simp [Qq]
  have:=Zrm h0 hx
  rw [show (x==0)=false from by simp;omega]
  simp
  omega
 have HE:=hid he
 have HR:=hid hr
 clear he hr
 go_enter func98,ntmps98
 go_wp2_with (go_at_call 159;refine (Zsy x _ A a c hx (by exact HR.out)).mono ?_;rintro e w1 ⟨rfl,hb1⟩)
 go_ret
 exact ⟨XW (by first|exact HE.out|(rw [←HE.out];done)|(rw [←HE.out];simp;done)),hb1⟩
def Zqb (x y:Nat):Int:=if x < y then -1 else if y < x then 1 else 0
def Zse (l m:List Nat) (x y:Nat):Prop:=∀(w:World) (A A2:Nat→Prop) (a b:Option Addr) (c d:Nat),RL w A l a→RL w A2 m b →
  Calls prog 110 #[.slice a l.length c,.slice b m.length d] w fun e w'=>e=.returned (.int .i64 (Zqb x y))∧w=w'
set_option maxRecDepth 100000
theorem ZsV (y:Nat) (hy:0 < y):Zse [] [y] 0 y:=by
 have hlt:(0:Int) < (y:Int):=om
 intro w A A2 a b c d hr hs
 have hix:Zv (0:Int):=by unfold Zv;omega
 have HX:=hid (ZpS _ 0 w A a c sm hix hr)
 have HY:=hid (ZpS _ 0 w A2 b d sm hix hs)
 simp only [Int.le_refl,if_true,Int.toNat_zero,List.getD_eq_getElem?_getD,List.getElem?_nil,Option.getD_none,List.getElem?_cons_zero,Option.getD_some] at HX HY
 simp only [List.length_cons,List.length_nil,Nat.zero_add] at HX HY ⊢
 generalize hF:Zqb 0 y=F
 have HF:=hid hF
 clear hr hs hF
 go_enter func110,ntmps110
 go_wp2_with fail
 go_loopg [5] 2 (fun gk t5' wr=>gk=2∧t5'=.int .i64 0∧wr=w)
 case atStart=>exact ⟨rfl,rfl,rfl⟩
 case round=>
  obtain ⟨rfl,rfl,rfl⟩:=hrel
  go_wp2_with (first
         | (go_at_call 179;(with_reducible refine HX.out.mono ?_);rintro e w1 ⟨rfl,rfl⟩)
         | (go_at_call 179;(with_reducible refine HY.out.mono ?_);rintro e w1 ⟨rfl,rfl⟩))
  go_ret
  exact ⟨Zf (by rw [←HF.out];unfold Zqb;rw [if_pos hy]),rfl⟩
theorem ZsW (x:Nat) (hx:0 < x):Zse [x] [] x 0:=by
 have hlt:¬(x:Int) < (0:Int):=om
 have hgt:(0:Int) < (x:Int):=om
 intro w A A2 a b c d hr hs
 have hix:Zv (0:Int):=by unfold Zv;omega
 have HX:=hid (ZpS _ 0 w A a c sm hix hr)
 have HY:=hid (ZpS _ 0 w A2 b d sm hix hs)
 simp only [Int.le_refl,if_true,Int.toNat_zero,List.getD_eq_getElem?_getD,List.getElem?_nil,Option.getD_none,List.getElem?_cons_zero,Option.getD_some] at HX HY
 simp only [List.length_cons,List.length_nil,Nat.zero_add] at HX HY ⊢
 generalize hF:Zqb x 0=F
 have HF:=hid hF
 clear hr hs hF
 go_enter func110,ntmps110
 go_wp2_with fail
 go_loopg [5] 2 (fun gk t5' wr=>gk=2∧t5'=.int .i64 0∧wr=w)
 case atStart=>exact ⟨rfl,rfl,rfl⟩
 case round=>
  obtain ⟨rfl,rfl,rfl⟩:=hrel
  go_wp2_with (first
         | (go_at_call 179;(with_reducible refine HX.out.mono ?_);rintro e w1 ⟨rfl,rfl⟩)
         | (go_at_call 179;(with_reducible refine HY.out.mono ?_);rintro e w1 ⟨rfl,rfl⟩))
  go_ret
  exact ⟨Zf (by rw [←HF.out];unfold Zqb;rw [if_neg om,if_pos hx]),rfl⟩
theorem ZsX (x y:Nat):Zse [x] [y] x y:=by
 intro w A A2 a b c d hr hs
 have hix:Zv (0:Int):=by unfold Zv;omega
 have HX:=hid (ZpS _ 0 w A a c sm hix hr)
 have HY:=hid (ZpS _ 0 w A2 b d sm hix hs)
 simp only [Int.le_refl,if_true,Int.toNat_zero,List.getD_eq_getElem?_getD,List.getElem?_nil,Option.getD_none,List.getElem?_cons_zero,Option.getD_some] at HX HY
 simp only [List.length_cons,List.length_nil,Nat.zero_add] at HX HY ⊢
 generalize hF:Zqb x y=F
 have HF:=hid hF
 clear hr hs hF
 go_enter func110,ntmps110
 go_wp2_with fail
 go_loopg [5] 2 (fun gk t5' wr=>(gk=2∧t5'=.int .i64 0∨gk=1∧t5'=.int .i64 (-1)∧x=y)∧wr=w)
 case atStart=>exact ⟨.inl ⟨rfl,rfl⟩,rfl⟩
 case round=>
  obtain ⟨⟨rfl,rfl⟩|⟨rfl,rfl,he⟩,rfl⟩:=hrel
  ·rcases Nat.lt_trichotomy x y with h1|h1|h1
   ·have hlt:(x:Int) < (y:Int):=om
    go_wp2_with (first
           | (go_at_call 179;(with_reducible refine HX.out.mono ?_);rintro e w1 ⟨rfl,rfl⟩)
           | (go_at_call 179;(with_reducible refine HY.out.mono ?_);rintro e w1 ⟨rfl,rfl⟩))
    go_ret
    exact ⟨Zf (by rw [←HF.out,Zqb,if_pos h1]),rfl⟩
   ·have hlt:¬(x:Int) < (y:Int):=om
    have hgt:¬(y:Int) < (x:Int):=om
    have H1:=hid h1
    clear h1
    go_wp2_with (first
           | (go_at_call 179;(with_reducible refine HX.out.mono ?_);rintro e w1 ⟨rfl,rfl⟩)
           | (go_at_call 179;(with_reducible refine HY.out.mono ?_);rintro e w1 ⟨rfl,rfl⟩))
    go_roundg 1
    case measure=>omega
    case rel=>exact ⟨.inr ⟨rfl,rfl,H1.out⟩,rfl⟩
   have hlt:¬(x:Int) < (y:Int):=om
   have hgt:(y:Int) < (x:Int):=om
   go_wp2_with (first
          | (go_at_call 179;(with_reducible refine HX.out.mono ?_);rintro e w1 ⟨rfl,rfl⟩)
          | (go_at_call 179;(with_reducible refine HY.out.mono ?_);rintro e w1 ⟨rfl,rfl⟩))
   go_ret
   exact ⟨Zf (by rw [←HF.out,Zqb,if_neg om,if_pos h1]),rfl⟩
  have HE:=hid he
  clear he
  go_wp2_with fail
  go_ret
  exact ⟨Zf (by have he:=HE.out;rw [←HF.out,Zqb,if_neg om,if_neg om]),rfl⟩
theorem Zro (x y:Nat) (w:World) (A A2:Nat→Prop) (a b:Option Addr) (c d:Nat) (hr:RL w A (W7 x) a) (hs:RL w A2 (W7 y) b):
  Calls prog 110 #[.slice a (W7 x).length ((W7 x).length+c),.slice b (W7 y).length ((W7 y).length+d)] w fun e w'=>e=.returned (.int .i64 (Zqb x y))∧w=w':=by
 rcases Nat.eq_zero_or_pos x with rfl|hx<;>rcases Nat.eq_zero_or_pos y with rfl|hy
 ·have hc0:Zqb 0 0=0:=rfl
  rw [Zpu,hc0]
  clear hr hs
  go_enter func110,ntmps110
  go_wp2_with fail
  go_loopg [5] 1 (fun gk t5' wr=>gk=1∧t5'=.int .i64 (-1)∧wr=w)
  case atStart=>exact ⟨rfl,rfl,rfl⟩
  case round=>
   obtain ⟨rfl,rfl,rfl⟩:=hrel
   go_wp2_with fail
   go_ret
   exact ⟨rfl,rfl⟩
 ·rw [W8 hy] at hs ⊢;exact ZsV y hy w A A2 a b _ _ hr hs
 ·rw [W8 hx] at hr ⊢;exact ZsW x hx w A A2 a b _ _ hr hs
 rw [W8 hy] at hs ⊢;rw [W8 hx] at hr ⊢;exact ZsX x y w A A2 a b _ _ hr hs
end Go.Proofs.YtkdffbdnjfgpeaaGreat
