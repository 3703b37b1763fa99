/- Part 48. -/
import Derived.Test.YtkdffbdnjfgpeaaGreatZ34
import Derived.Test.YtkdffbdnjfgpeaaGreatZ45
import Derived.Test.YtkdffbdnjfgpeaaGreatZ46
set_option linter.all false
namespace Go.Proofs.YtkdffbdnjfgpeaaGreat
open Go.Lib (hid)
open Go Go.RowKit Go.Proofs.Tryz
set_option maxRecDepth 100000
set_option maxHeartbeats 1000000
theorem Zsg (a b:ByteArray) (w:World) (ha:a.size≤9223372036854775807) (hb:b.size≤9223372036854775807):
  Calls prog 36 #[.string a,.string b] w fun e w'=>e=.returned (.int .i64 (Zry a b))∧w=w':=by
 generalize hF:Zry a b=F
 have HF:=hid hF
 clear hF
 go_enter func36,ntmps36
 go_wp2_with (go_at_call 63;(with_reducible refine (ZsL a b _).mono ?_);rintro e w1 ⟨rfl,rfl⟩)
 all_goals go_ret
 all_goals refine ⟨Zf ?_,rfl⟩
 all_goals rw [←HF.out]
 all_goals unfold Zry
 all_goals (first|rfl|omega|((try simp only [beq_iff_eq,beq_eq_false_iff_ne,bne_iff_ne,bne_eq_false_iff_eq,decide_eq_true_eq,decide_eq_false_iff_not,ne_eq,Bool.and_eq_true,Bool.or_eq_true,Bool.and_eq_false_iff,Bool.or_eq_false_iff,Bool.not_eq_true',Bool.not_eq_false'] at *);(repeat' split)<;>first|rfl|omega|contradiction|(simp_all;done)|(simp_all;omega)))
set_option maxRecDepth 512
abbrev GHs:={ p:GH×VA // p.1.1.size≤1024 }
instance:Inhabited GHs:=⟨⟨((⟨#[]⟩,⟨0,0,[]⟩),⟨none,0⟩),Nat.zero_le _⟩⟩
def Zqc (x:GHs):List Value:=[.string x.1.1.1,.int .u8 x.1.1.2.k,.int .i64 x.1.1.2.n,.slice x.1.2.a x.1.1.2.l.length x.1.2.c]
def ZrW (x y:GHs):Int:=Zry x.1.1.1 y.1.1.1
open Go.Sort in
theorem ZqK (x y:GHs):ltOf ZrW x y=decide (Ka x.1.1.1 < Ka y.1.1.1):=by
 unfold ltOf ZrW
 rw [Zsi]
 unfold Vq
 split
 ·simp;omega
 split<;>simp<;>omega
open Go.Sort in
theorem Zsh:SWO (ltOf ZrW) where
 irrefl x:=by rw [ZqK];simp
 trans x y z h1 h2:=by rw [ZqK] at *;simp at *;omega
 ntrans x y z h1 h2:=by rw [ZqK] at *;simp at *;omega
set_option maxRecDepth 100000
theorem Zta (x y:GHs) (W:World):Calls prog 51 #[.agg (Zqc x).toArray,.agg (Zqc y).toArray] W fun e w'=>e=.returned (.int .i64 (ZrW x y))∧∃q os',w'=Go.Sort.grow (W.drewN q) os':=by
 obtain ⟨⟨⟨sx,x⟩,ax,cx⟩,hx⟩:=x
 obtain ⟨⟨⟨sy,y⟩,ay,cy⟩,hy⟩:=y
 have hc:=fun W=>Zsg sx sy W (by dsimp only at hx;omega) (by dsimp only at hy;omega)
 unfold ZrW Zqc
 dsimp only at hx hy ⊢
 generalize Zry sx sy=r at hc ⊢
 go_enter func51,ntmps51
 go_wp2_with (go_at_call 36;refine (hc _).mono ?_;rintro e w' ⟨rfl,rfl⟩)
 go_ret
 exact ⟨rfl,0,_,by rw [Go.Sort.alloc_eq_grow,Go.Sort.alloc_eq_grow,Go.Sort.grow_grow];rfl⟩
end Go.Proofs.YtkdffbdnjfgpeaaGreat
