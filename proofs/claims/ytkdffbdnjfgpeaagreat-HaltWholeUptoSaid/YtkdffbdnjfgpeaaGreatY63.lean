/- Part 64. -/
import Derived.Test.YtkdffbdnjfgpeaaGreatY19
set_option linter.all false
namespace Go.Proofs.YtkdffbdnjfgpeaaGreat
open Go.Lib (hid)
open Go Go.RowKit Go.Proofs.Tryz
theorem ZtQ (t:GT) (w:World) (A:Nat→Prop) (m:TA) (ox:okT t) (hs:Zb t≤1099511627776) (hl:RT w A t m):
  Calls prog 32 #[TV t m] w fun e w'=>e=.returned (.bool (ZtP t))∧Below w.heap.size w w':=by
 obtain ⟨ma,mb,mc,md,me,mf,mg,mh,mi,mj,mk,ml⟩:=m
 have HL:=hid hl
 have OX:=hid ox
 clear hl ox
 generalize hF:ZtP t=F
 have HF:=hid hF
 clear hF
 go_enter func32,ntmps32
 go_wp2_with (go_at_call 59;refine (Ub t _ A ⟨ma,mb,mc,md,me,mf,mg,mh,mi,mj,mk,ml⟩ OX.out hs (by exact Zt2 az _ _ HL.out)).mono ?_;rintro e w1 ⟨rfl,hb⟩;have hB1:=hb;clear hb;obtain ⟨hc1,hf1⟩:=Za hB1)
 all_goals go_ret
 all_goals exact ⟨by rw [←HF.out];simp [ZtP],ZtX⟩
end Go.Proofs.YtkdffbdnjfgpeaaGreat
