/- Part 41. -/
import Derived.RegionTactic
import Derived.Test.YtkdffbdnjfgpeaaGreatY7
import Derived.Test.YtkdffbdnjfgpeaaGreatY43
set_option linter.all false
namespace Go.Proofs.YtkdffbdnjfgpeaaGreat
open Go.Lib (hid)
open Go Go.RowKit Go.Proofs.Tryz
theorem Zrm {x:Nat} (h:0 < x) (hx:x < 18446744073709551616):0 < Qq x∧Qq x≤64:=by
 unfold Qq
 rw [if_neg om]
 have:Nat.log2 x < 64:=(Nat.log2_lt om).2 (by simpa using hx)
 omega
theorem ZrM (x:Nat) (w:World) (hx:x < 18446744073709551616):
  Calls prog 106 #[.int .u64 x] w fun e w'=>Below w.heap.size w w'∧∃a c,e=.returned (.slice a (W7 x).length ((W7 x).length+c))∧RL w' (fun b=>w.heap.size≤b) (W7 x) a:=by
 go_enter func106,ntmps106
 go_wp2_with (go_at_call 105;refine (Zra (Zp6 x) _ (fun _=>True) (some ⟨w.heap.size,0,none⟩) 0 sm (.inr ⟨w.heap.size,0,rfl,trivial,fun i hi=>by obtain rfl:i=0:=(by simpa using hi);go_simp⟩)).mono ?_;rintro e w1 ⟨hb1,a',c',rfl,hr1⟩)
 go_ret
 exact ⟨ZtZ,a',c',rfl,Zt7 (fun b h _=>by (try simp at h);omega) hr1⟩
set_option maxRecDepth 100000
theorem Zsy (x:Nat) (w:World) (A:Nat→Prop) (a:Option Addr) (c:Nat) (hx:x < 18446744073709551616) (hr:RL w A (W7 x) a):
  Calls prog 159 #[.slice a (W7 x).length ((W7 x).length+c)] w fun e w'=>e=.returned (.int .i64 (Qq x))∧Below w.heap.size w w':=by
 rcases Nat.eq_zero_or_pos x with rfl|h0
 ·have hl0:((Qq 0:Nat):Int)=0:=by simp [Qq]
  rw [Zpu,hl0]
  clear hr
  go_enter func159,ntmps159
  go_wp2_with fail
  go_loopg [3] 1 (fun gk t3' wr=>gk=1∧t3'=.int .i64 (-1)∧wr=w)
  case atStart=>exact ⟨rfl,rfl,rfl⟩
  case round=>
   obtain ⟨rfl,rfl,rfl⟩:=hrel
   go_wp2_with fail
   go_ret
   exact ⟨rfl,Below.refl _ _⟩
 obtain ⟨h1,h2⟩:=Zrm h0 hx
 rw [W8 h0] at hr ⊢
 obtain ⟨b,o,rfl,hA,hb,hc⟩:=hr.get 0 sm
 simp only [List.getElem_cons_zero,Nat.add_zero] at hc
 have hxB:((x:Int) != 0)=true:=by simp;omega
 generalize hL:Qq x=L at h1 h2
 have HL:=hid hL
 have hw1:IntKind.i64.wrap ((L:Nat):Int)=(L:Int):=IntWalk.i64_in _ om
 clear hr hL
 go_enter func159,ntmps159
 go_wp2_with fail
 go_loopg [3] 1 (fun gk t3' wr=>gk=1∧t3'=.int .i64 0∧wr=w)
 case atStart=>exact ⟨rfl,rfl,rfl⟩
 case round=>
  obtain ⟨rfl,rfl,rfl⟩:=hrel
  go_wp2_with (go_at_call 161;refine (ZeM x _ hx).mono ?_;rw [HL.out];rintro e w1 ⟨rfl,hb1⟩)
  go_ret
  exact ⟨Zf sm,hb1⟩
set_option maxRecDepth 512
theorem Zr4 (x:Nat) (w:World) (A:Nat→Prop) (a:Option Addr) (c:Nat) (hx:x < 18446744073709551616) (hr:RL w A (W7 x) a):
  Calls prog 98 #[.slice a (W7 x).length ((W7 x).length+c)] w fun e w'=>e=.returned (.bool (x==0))∧Below w.heap.size w w':=by
 have he:(((Qq x:Nat):Int)==0)=(x==0):=by
  rcases Nat.eq_zero_or_pos x with rfl|h0
  ·simp [Qq]
  have:=Zrm h0 hx
  rw [show (x==0)=false from by simp;omega]
  simp
  omega
 have HE:=hid he
 have HR:=hid hr
 clear he hr
 go_enter func98,ntmps98
 go_wp2_with (go_at_call 159;refine (Zsy x _ A a c hx (by exact HR.out)).mono ?_;rintro e w1 ⟨rfl,hb1⟩)
 go_ret
 exact ⟨XW (by first|exact HE.out|(rw [←HE.out];done)|(rw [←HE.out];simp;done)),hb1⟩
def Zqb (x y:Nat):Int:=if x < y then -1 else if y < x then 1 else 0
def Zse (l m:List Nat) (x y:Nat):Prop:=∀(w:World) (A A2:Nat→Prop) (a b:Option Addr) (c d:Nat),RL w A l a→RL w A2 m b →
  Calls prog 110 #[.slice a l.length c,.slice b m.length d] w fun e w'=>e=.returned (.int .i64 (Zqb x y))∧w=w'
set_option maxRecDepth 100000
theorem ZsV (y:Nat) (hy:0 < y):Zse [] [y] 0 y:=by
 have hlt:(0:Int) < (y:Int):=om
 intro w A A2 a b c d hr hs
 have hix:Zv (0:Int):=by unfold Zv;omega
 have HX:=hid (ZpS _ 0 w A a c sm hix hr)
 have HY:=hid (ZpS _ 0 w A2 b d sm hix hs)
 simp only [Int.le_refl,if_true,Int.toNat_zero,List.getD_eq_getElem?_getD,List.getElem?_nil,Option.getD_none,List.getElem?_cons_zero,Option.getD_some] at HX HY
 simp only [List.length_cons,List.length_nil,Nat.zero_add] at HX HY ⊢
 generalize hF:Zqb 0 y=F
 have HF:=hid hF
 clear hr hs hF
 go_enter func110,ntmps110
 go_wp2_with fail
 go_loopg [5] 2 (fun gk t5' wr=>gk=2∧t5'=.int .i64 0∧wr=w)
 case atStart=>exact ⟨rfl,rfl,rfl⟩
 case round=>
  obtain ⟨rfl,rfl,rfl⟩:=hrel
  go_wp2_with (first
         | (go_at_call 179;(with_reducible refine HX.out.mono ?_);rintro e w1 ⟨rfl,rfl⟩)
         | (go_at_call 179;(with_reducible refine HY.out.mono ?_);rintro e w1 ⟨rfl,rfl⟩))
  go_ret
  exact ⟨Zf (by rw [←HF.out];unfold Zqb;rw [if_pos hy]),rfl⟩
theorem ZsW (x:Nat) (hx:0 < x):Zse [x] [] x 0:=by
 have hlt:¬(x:Int) < (0:Int):=om
 have hgt:(0:Int) < (x:Int):=om
 intro w A A2 a b c d hr hs
 have hix:Zv (0:Int):=by unfold Zv;omega
 have HX:=hid (ZpS _ 0 w A a c sm hix hr)
 have HY:=hid (ZpS _ 0 w A2 b d sm hix hs)
 simp only [Int.le_refl,if_true,Int.toNat_zero,List.getD_eq_getElem?_getD,List.getElem?_nil,Option.getD_none,List.getElem?_cons_zero,Option.getD_some] at HX HY
 simp only [List.length_cons,List.length_nil,Nat.zero_add] at HX HY ⊢
 generalize hF:Zqb x 0=F
 have HF:=hid hF
 clear hr hs hF
 go_enter func110,ntmps110
 go_wp2_with fail
 go_loopg [5] 2 (fun gk t5' wr=>gk=2∧t5'=.int .i64 0∧wr=w)
 case atStart=>exact ⟨rfl,rfl,rfl⟩
 case round=>
  obtain ⟨rfl,rfl,rfl⟩:=hrel
  go_wp2_with (first
         | (go_at_call 179;(with_reducible refine HX.out.mono ?_);rintro e w1 ⟨rfl,rfl⟩)
         | (go_at_call 179;(with_reducible refine HY.out.mono ?_);rintro e w1 ⟨rfl,rfl⟩))
  go_ret
  exact ⟨Zf (by rw [←HF.out];unfold Zqb;rw [if_neg om,if_pos hx]),rfl⟩
theorem ZsX (x y:Nat):Zse [x] [y] x y:=by
 intro w A A2 a b c d hr hs
 have hix:Zv (0:Int):=by unfold Zv;omega
 have HX:=hid (ZpS _ 0 w A a c sm hix hr)
 have HY:=hid (ZpS _ 0 w A2 b d sm hix hs)
 simp only [Int.le_refl,if_true,Int.toNat_zero,List.getD_eq_getElem?_getD,List.getElem?_nil,Option.getD_none,List.getElem?_cons_zero,Option.getD_some] at HX HY
 simp only [List.length_cons,List.length_nil,Nat.zero_add] at HX HY ⊢
 generalize hF:Zqb x y=F
 have HF:=hid hF
 clear hr hs hF
 go_enter func110,ntmps110
 go_wp2_with fail
 go_loopg [5] 2 (fun gk t5' wr=>(gk=2∧t5'=.int .i64 0∨gk=1∧t5'=.int .i64 (-1)∧x=y)∧wr=w)
 case atStart=>exact ⟨.inl ⟨rfl,rfl⟩,rfl⟩
 case round=>
  obtain ⟨⟨rfl,rfl⟩|⟨rfl,rfl,he⟩,rfl⟩:=hrel
  ·rcases Nat.lt_trichotomy x y with h1|h1|h1
   ·have hlt:(x:Int) < (y:Int):=om
    go_wp2_with (first
           | (go_at_call 179;(with_reducible refine HX.out.mono ?_);rintro e w1 ⟨rfl,rfl⟩)
           | (go_at_call 179;(with_reducible refine HY.out.mono ?_);rintro e w1 ⟨rfl,rfl⟩))
    go_ret
    exact ⟨Zf (by rw [←HF.out,Zqb,if_pos h1]),rfl⟩
   ·have hlt:¬(x:Int) < (y:Int):=om
    have hgt:¬(y:Int) < (x:Int):=om
    have H1:=hid h1
    clear h1
    go_wp2_with (first
           | (go_at_call 179;(with_reducible refine HX.out.mono ?_);rintro e w1 ⟨rfl,rfl⟩)
           | (go_at_call 179;(with_reducible refine HY.out.mono ?_);rintro e w1 ⟨rfl,rfl⟩))
    go_roundg 1
    case measure=>omega
    case rel=>exact ⟨.inr ⟨rfl,rfl,H1.out⟩,rfl⟩
   have hlt:¬(x:Int) < (y:Int):=om
   have hgt:(y:Int) < (x:Int):=om
   go_wp2_with (first
          | (go_at_call 179;(with_reducible refine HX.out.mono ?_);rintro e w1 ⟨rfl,rfl⟩)
          | (go_at_call 179;(with_reducible refine HY.out.mono ?_);rintro e w1 ⟨rfl,rfl⟩))
   go_ret
   exact ⟨Zf (by rw [←HF.out,Zqb,if_neg om,if_pos h1]),rfl⟩
  have HE:=hid he
  clear he
  go_wp2_with fail
  go_ret
  exact ⟨Zf (by have he:=HE.out;rw [←HF.out,Zqb,if_neg om,if_neg om]),rfl⟩
theorem Zro (x y:Nat) (w:World) (A A2:Nat→Prop) (a b:Option Addr) (c d:Nat) (hr:RL w A (W7 x) a) (hs:RL w A2 (W7 y) b):
  Calls prog 110 #[.slice a (W7 x).length ((W7 x).length+c),.slice b (W7 y).length ((W7 y).length+d)] w fun e w'=>e=.returned (.int .i64 (Zqb x y))∧w=w':=by
 rcases Nat.eq_zero_or_pos x with rfl|hx<;>rcases Nat.eq_zero_or_pos y with rfl|hy
 ·have hc0:Zqb 0 0=0:=rfl
  rw [Zpu,hc0]
  clear hr hs
  go_enter func110,ntmps110
  go_wp2_with fail
  go_loopg [5] 1 (fun gk t5' wr=>gk=1∧t5'=.int .i64 (-1)∧wr=w)
  case atStart=>exact ⟨rfl,rfl,rfl⟩
  case round=>
   obtain ⟨rfl,rfl,rfl⟩:=hrel
   go_wp2_with fail
   go_ret
   exact ⟨rfl,rfl⟩
 ·rw [W8 hy] at hs ⊢;exact ZsV y hy w A A2 a b _ _ hr hs
 ·rw [W8 hx] at hr ⊢;exact ZsW x hx w A A2 a b _ _ hr hs
 rw [W8 hy] at hs ⊢;rw [W8 hx] at hr ⊢;exact ZsX x y w A A2 a b _ _ hr hs
theorem ZrZ (x d:Nat) (w:World) (hx:x < 18446744073709551616) (hd:0 < d) (hd2:d < 18446744073709551616):
  Calls prog 271 #[.int .u64 0,.int .u64 x,.int .u64 d] w fun e w'=>e=.returned (.tuple #[.int .u64 (x / d:Nat),.int .u64 (x % d:Nat)])∧Below w.heap.size w w':=by
 have h1:((d:Int)==0)=false:=by simp;omega
 have h2:¬((d:Int)≤0):=om
 have h3:¬((d:Int)=0):=om
 have hq:IntKind.u64.wrap ((x:Int).tdiv (d:Int))=((x / d:Nat):Int):=by rw [IntWalk.u64_quo _ _ om];rfl
 have hr:(x:Int).tmod (d:Int)=((x % d:Nat):Int):=rfl
 have hr2:IntKind.u64.wrap ((x % d:Nat):Int)=((x % d:Nat):Int):=IntWalk.u64_in _ (by have:=Nat.mod_lt x hd;omega)
 go_enter func271,ntmps271
 go_wp2_with fail
 go_region
 all_goals go_wp2_with fail
 all_goals go_ret2
 all_goals exact ⟨YS hq rfl,ZtZ⟩
theorem ZsJ (x d:Nat) (w:World) (hx:x < 18446744073709551616) (hd:0 < d) (hd2:d < 18446744073709551616):
  Calls prog 232 #[.int .u64 0,.int .u64 x,.int .u64 d] w fun e w'=>e=.returned (.tuple #[.int .u64 (x / d:Nat),.int .u64 (x % d:Nat),.int .i64 0])∧Below w.heap.size w w':=by
 have h1:((d:Int)==0)=false:=by simp;omega
 have h2:¬((d:Int)≤0):=om
 go_enter func232,ntmps232
 go_wp2_with (go_at_call 271;refine (ZrZ x d _ hx hd hd2).mono ?_;rintro e w1 ⟨rfl,hb1⟩)
 go_ret3
 exact ⟨rfl,ZtZ⟩
theorem Zsb (x d:Nat) (w:World) (A:Nat→Prop) (a:Option Addr) (c:Nat) (h0:0 < x) (hx:x < 18446744073709551616) (hd:0 < d) (hd2:d < 18446744073709551616) (hr:RL w A [x] a):
  Calls prog 160 #[.slice a 1 (1+c),.int .u64 d] w fun e w'=>Below w.heap.size w w'∧∃a' c',e=.returned (.tuple #[.slice a' (W7 (x / d)).length ((W7 (x / d)).length+c'),.int .u64 (x % d:Nat)])∧RL w' (fun b=>w.heap.size≤b) (W7 (x / d)) a':=by
 obtain ⟨b,o,rfl,hA,hb,hc⟩:=hr.get 0 sm
 simp only [List.getElem_cons_zero,Nat.add_zero] at hc
 have hbne:¬w.heap.size=b:=om
 clear hr
 have hmk:=Zth
 go_enter func160,ntmps160
 go_wp2_with fail
 go_loopg [5,6] 2 (fun gk t5' t6' wr=>(gk=2∧t5'=.int .u64 0∧t6'=.int .i64 0∧Below w.heap.size w wr∧w.heap.size < wr.heap.size∧wr.cell? ⟨w.heap.size,0,none⟩=some (.int .u64 0)∧wr.frozen? ⟨w.heap.size,0,none⟩=false)∨(gk=1∧t5'=.int .u64 (x % d:Nat)∧t6'=.int .i64 (-1)∧Below w.heap.size w wr∧w.heap.size < wr.heap.size∧wr.cell? ⟨w.heap.size,0,none⟩=some (.int .u64 (x / d:Nat))))
 case atStart=>exact .inl ⟨rfl,rfl,rfl,ZtZ,sm,gs,gs⟩
 case round=>
  rcases hrel with ⟨rfl,rfl,rfl,hbr,hz,hq,hf⟩|⟨rfl,rfl,rfl,hbr,hz,hq⟩
  ·have hcr:wr.cell? ⟨b,o,none⟩=some (.int .u64 x):=(hbr.cell (p:=⟨b,o,none⟩) hb).trans hc
   go_wp2_with (go_at_call 232;refine (ZsJ x d _ hx hd hd2).mono ?_;rintro e w1 ⟨rfl,hb1⟩;obtain ⟨hc1,hf1⟩:=Za hb1;have hz1:=hb1.size)
   go_roundg 1
   case measure=>omega
   case rel=>exact .inr ⟨rfl,rfl,by go_num,ZtZ,by simp;omega,gs⟩
  go_wp2_with (go_at_call 105;refine (Zra (Zp6 (x / d)) _ (fun _=>True) (some ⟨w.heap.size,0,none⟩) 0 sm (.inr ⟨w.heap.size,0,rfl,trivial,fun i hi=>by obtain rfl:i=0:=(by simpa using hi);go_simp⟩)).mono ?_;rintro e w1 ⟨hb1,a',c',rfl,hr1⟩)
  go_ret2
  exact ⟨ZtZ,a',c',rfl,Zt7 (fun b h _=>by (try simp at h);omega) hr1⟩
theorem ZqU (x y:Nat) (w:World) (A A2:Nat→Prop) (a b:Option Addr) (c d:Nat) (hx:x < 18446744073709551616) (hy:y < 18446744073709551616) (h0:0 < y) (hr:RL w A (W7 x) a) (hs:RL w A2 (W7 y) b):
  Calls prog 100 #[.slice a (W7 x).length ((W7 x).length+c),.slice b (W7 y).length ((W7 y).length+d)] w fun e w'=>Below w.heap.size w w'∧∃a' c' b' d',e=.returned (.tuple #[.slice a' (W7 (x / y)).length ((W7 (x / y)).length+c'),.slice b' (W7 (x % y)).length ((W7 (x % y)).length+d'),.int .i64 0])∧RL w' (fun b=>w.heap.size≤b) (W7 (x / y)) a'∧RL w' (fun b=>w.heap.size≤b) (W7 (x % y)) b':=by
 have HR:=hid hr
 have HS:=hid hs
 clear hr hs
 by_cases hlt:x < y
 ·have hq:x / y=0:=Nat.div_eq_of_lt hlt
  have hm:x % y=x:=Nat.mod_eq_of_lt hlt
  have hcm:Zqb x y= -1:=if_pos hlt
  have HCM:=hid hcm
  rw [hq,hm,Zpu]
  clear hq hm hcm
  go_enter func100,ntmps100
  go_wp2_with (first
   | (go_at_call 105;(with_reducible refine (ZpV x _ A a c (by exact HR.out)).mono ?_);rintro e w1 ⟨hb1,a1,c1,rfl,hr1⟩;have hz1:=hb1.size;have HR1:=hid hr1;clear hr1)
   | (go_at_call 105;(with_reducible refine (ZpV y _ A2 b d (by exact Zt6 ar HS.out)).mono ?_);rw [W8 h0];rintro e w2 ⟨hb2,a2,c2,rfl,hr2⟩;have hz2:=hb2.size;have HR2:=hid hr2;clear hr2)
   | (go_at_call 110;refine (show Calls _ _ _ _ _ from by have:=Zro x y w2 (fun b=>w.heap.size≤b) (fun b=>w1.heap.size≤b) a1 a2 c1 c2 (by exact Zt6 ar HR1.out) (by rw [W8 h0];exact HR2.out);rw [HCM.out,W8 h0] at this;exact this).mono ?_;rintro e w3 ⟨rfl,rfl⟩))
  go_ret3
  exact ⟨ZtZ,none,0,a1,c1,rfl,RL.nil _ _ _,Zt6 ar HR1.out⟩
 have hx0:0 < x:=om
 have hcm:Zqb x y=0∨Zqb x y=1:=by unfold Zqb;rw [if_neg hlt];split<;>simp
 generalize hK:Zqb x y=K at hcm
 have HK:=hid hK
 have hKn:¬K < 0:=om
 clear hK
 go_enter func100,ntmps100
 go_wp2_with (first
  | (go_at_call 105;(with_reducible refine (ZpV x _ A a c (by exact HR.out)).mono ?_);rw [W8 hx0];rintro e w1 ⟨hb1,a1,c1,rfl,hr1⟩;have hz1:=hb1.size;have HR1:=hid hr1;clear hr1)
  | (go_at_call 105;(with_reducible refine (ZpV y _ A2 b d (by exact Zt6 ar HS.out)).mono ?_);rw [W8 h0];rintro e w2 ⟨hb2,a2,c2,rfl,hr2⟩;have hz2:=hb2.size;obtain ⟨b9,o9,rfl,hA9,hb9,hc9⟩:=hr2.get 0 sm;simp only [List.getElem_cons_zero,Nat.add_zero] at hc9;have HR2:=hid hr2;clear hr2)
  | (go_at_call 110;refine (show Calls _ _ _ _ _ from by have:=Zro x y w2 (fun b=>w.heap.size≤b) (fun b=>w1.heap.size≤b) a1 (some ⟨b9,o9,none⟩) c1 c2 (by rw [W8 hx0];exact Zt6 ar HR1.out) (by rw [W8 h0];exact HR2.out);rw [HK.out,W8 hx0,W8 h0] at this;exact this).mono ?_;rintro e w3 ⟨rfl,rfl⟩)
  | (go_at_call 160;refine (Zsb x y _ (fun b=>w.heap.size≤b) a1 c1 hx0 hx h0 hy (by exact Zt6 ar HR1.out)).mono ?_;rintro e w4 ⟨hb4,a4,c4,rfl,hr4⟩;have hz4:=hb4.size;have HR4:=hid hr4;clear hr4)
  | (go_at_call 106;refine (ZrM (x % y) _ (by have:=Nat.mod_lt x h0;omega)).mono ?_;rintro e w5 ⟨hb5,a5,c5,rfl,hr5⟩;have hz5:=hb5.size;have HR5:=hid hr5;clear hr5))
 go_ret3
 exact ⟨ZtZ,a4,c4,a5,c5,rfl,Zt7 (fun b h _=>by have:=hb1.size;have:=hb2.size;omega) (Zt6 ar HR4.out),Zt7 (fun b h _=>by have:=hb1.size;have:=hb2.size;have:=hb4.size;omega) HR5.out⟩
set_option maxRecDepth 512
def muG (a:Act) (w:World):Nat:=match a.tmps.getD 1 undef with
 | .slice (some ad) n _=>if n=0 then 0 else match w.cell? ad with
  | some (.int _ z)=>z.toNat
  | _=>0
 | _=>0
theorem Zsw {w:World} {A:Nat→Prop} {q:Nat} {sl:Option Addr} {c:Nat} {a:Act} (h:RL w A (W7 q) sl) (ha:a.tmps.getD 1 undef=.slice sl (W7 q).length c):muG a w=q:=by
 unfold muG
 rw [ha]
 rcases Nat.eq_zero_or_pos q with rfl|hq
 ·cases sl<;>rfl
 rw [W8 hq] at h ⊢
 obtain ⟨b,o,rfl, -, -,hc⟩:=h.get 0 sm
 simp only [List.getElem_cons_zero,Nat.add_zero] at hc
 simp [hc]
theorem ZqJ {P:Program} {Q:Exit→Act→World→Prop} {a:Act} {w:World} {c rest:Code} (l:Nat) (J:Act→World→Prop) (μ:Act→World→Nat) (hf:findLabel c l=some (.seq .skip rest))
  (pass:∀a w,J a w→rest.wp P (Exit.jump l (fun a' w'=>J a' w'∧μ a' w' < μ a w) Q) a w)
  (first:(∀a w,J a w→rest.wp P (Exit.jump l J Q) a w)→c.wp P (Exit.jump l J Q) a w):(Code.scope c).wp P Q a w:=
 wp_scope_jumps l J μ hf (first fun a w h=>Code.wp_mono (fun e a' w' k=>by
  cases e<;>first|exact k|exact ⟨k.1,k.2.1⟩) (pass a w h)) fun a w h=>wp_seq (wp_skip (pass a w h))
def ZtD (w:World) (x y:Nat) (a':Act) (w':World):Prop:=Below w.heap.size w w'∧∃(p q c0 c1:Nat) (s0 s1:Option Addr) (u5 u6 u7 u8 u9 u10 u11 u12 u13 u14 u15 u16 u17 u18 u19 u20 u21 u22 u23 u24:Value),a'={ tmps:=#[.slice s0 (W7 p).length ((W7 p).length+c0),.slice s1 (W7 q).length ((W7 q).length+c1),undef,undef,.slice none 0 0,u5,u6,u7,u8,u9,u10,u11,u12,u13,u14,u15,u16,u17,u18,u19,u20,u21,u22,u23,u24],defers:=[] }∧Nat.gcd p q=Nat.gcd x y∧p < 18446744073709551616∧q < 18446744073709551616∧RL w' (fun b=>w.heap.size≤b) (W7 p) s0∧RL w' (fun b=>w.heap.size≤b) (W7 q) s1
set_option maxRecDepth 100000
set_option maxHeartbeats 1000000
theorem ZsN (x y:Nat) (w:World) (A A2:Nat→Prop) (a b:Option Addr) (c d:Nat) (hx:x < 18446744073709551616) (hy:y < 18446744073709551616) (hr:RL w A (W7 x) a) (hs:RL w A2 (W7 y) b):
  Calls prog 99 #[.slice a (W7 x).length ((W7 x).length+c),.slice b (W7 y).length ((W7 y).length+d)] w fun e w'=>Below w.heap.size w w'∧∃a' c',e=.returned (.slice a' (W7 (Nat.gcd x y)).length ((W7 (Nat.gcd x y)).length+c'))∧RL w' (fun b=>w.heap.size≤b) (W7 (Nat.gcd x y)) a':=by
 have HR:=hid hr
 have HS:=hid hs
 clear hr hs
 go_enter func99,ntmps99
 go_wp2_with fail
 refine ZqJ 0 (ZtD w x y) muG rfl ?_ ?_
 ·rintro a' w0 ⟨hb,p,q,c0,c1,s0,s1,u5,u6,u7,u8,u9,u10,u11,u12,u13,u14,u15,u16,u17,u18,u19,u20,u21,u22,u23,u24,rfl,hg,hp,hq,hr0,hr1⟩
  have HG:=hid hg
  have HR0:=hid hr0
  have HR1:=hid hr1
  have HM:=hid (fun (ac:Act) (ha:ac.tmps.getD 1 undef=.slice s1 (W7 q).length ((W7 q).length+c1))=>Zsw (a:=ac) hr1 ha)
  have hz:=hb.size
  clear hg hr0 hr1
  rcases Nat.eq_zero_or_pos q with rfl|h0
  ·rw [Zpu]
   go_wp2_with fail
   simp only [Exit.jump]
   go_ret
   have hgp:Nat.gcd x y=p:=by rw [←HG.out,Nat.gcd_zero_right]
   rw [hgp]
   exact ⟨hb,s0,c0,rfl,HR0.out⟩
  have hl:(W7 q).length=1:=by rw [W8 h0];rfl
  have HL:=hid hl
  have hpos:(0:Int) < ((W7 q).length:Int):=om
  have hdm:p % q < q:=Nat.mod_lt _ h0
  clear hl
  go_wp2_with (go_at_call 100;refine (ZqU p q _ (fun b=>w.heap.size≤b) (fun b=>w.heap.size≤b) s0 s1 c0 c1 hp hq h0 (by exact HR0.out) (by exact HR1.out)).mono ?_;rintro e w1 ⟨hb1,a1,d1,a2,d2,rfl,hr1,hr2⟩;have H1:=hid hr2;clear hr1 hr2;have hz1:=hb1.size)
  go_step3
  refine ⟨rfl,⟨hb.trans (hb1.mono om),q,p % q,c1,d2,s1,a2,_,_,_,_,_,_,_,_,_,_,_,_,_,_,_,_,_,_,_,_,rfl,?_,hq,om,Zt6 (ZtY hb1) HR1.out,Zt7 (fun b h _=>om) H1.out⟩,?_⟩
  ·rw [←HG.out,Nat.gcd_comm p q,Nat.gcd_rec q p,Nat.gcd_comm]
  rw [HM.out _ rfl,Zsw H1.out rfl]
  exact hdm
 intro H
 go_wp2_with (first
  | (go_at_call 105;(with_reducible refine (ZpV x _ A a c (by exact HR.out)).mono ?_);rintro e w1 ⟨hb1,a1,c1,rfl,hr1⟩;have HR1:=hid hr1;clear hr1;have hz1:=hb1.size)
  | (go_at_call 105;(with_reducible refine (ZpV y _ A2 b d (by exact Zt6 ar HS.out)).mono ?_);rintro e w2 ⟨hb2,a2,c2,rfl,hr2⟩;have HR2:=hid hr2;clear hr2;have hz2:=hb2.size))
 go_step3
 rename_i hK
 exact hK _ _ (H _ _ ⟨ZtZ,x,y,c1,c2,a1,a2,_,_,_,_,_,_,_,_,_,_,_,_,_,_,_,_,_,_,_,_,rfl,rfl,hx,hy,Zt6 ar HR1.out,Zt7 (fun b h _=>om) HR2.out⟩)
end Go.Proofs.YtkdffbdnjfgpeaaGreat
