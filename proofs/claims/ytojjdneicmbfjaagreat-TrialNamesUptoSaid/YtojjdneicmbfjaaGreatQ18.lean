/- What the proofs of the Trial statements need: part 19. -/
import Derived.WalkArith
import Derived.Test.YtojjdneicmbfjaaGreatQ12
set_option linter.unusedVariables false
set_option linter.unusedSimpArgs false
namespace Go.Proofs.YtojjdneicmbfjaaGreat
open Go Go.RowKit
set_option maxRecDepth 100000 in
set_option maxHeartbeats 1000000 in
theorem search_any (L : List Int) (r : Int) (p q b cp : Nat) (a : Option Addr) (A : Nat → Prop) (w : World) (hL : L.length ≤ 64) (hm : ∀ i j (hi : i < L.length) (hj : j < L.length), i ≤ j → L[i] ≤ L[j])
  (hp : w.cell? ⟨p, 0, none⟩ = some (.pointer (some ⟨b, 0, none⟩))) (hq : w.cell? ⟨q, 0, none⟩ = some (.int .i64 r)) (hl : w.cell? ⟨b, 0, none⟩ = some (.slice a L.length cp)) (hr : RIs w A L a) :
  Calls Tryz.prog 159 #[.int .i64 L.length, .func (.func 160) #[] #[.pointer (some ⟨p, 0, none⟩), .pointer (some ⟨q, 0, none⟩)]] w fun e w' => e = .returned (.int .i64 (pickI L r)) ∧ Below w.heap.size w w' := by
 have HM := Lib.hid hm
 have HR := Lib.hid hr
 have hbs : b < w.heap.size := World.block_lt_of_cell? _ _ hl
 have hps : p < w.heap.size := World.block_lt_of_cell? _ _ hp
 have hqs : q < w.heap.size := World.block_lt_of_cell? _ _ hq
 clear hm hr
 go_enter Tryz.func159, Tryz.ntmps159
 go_wp2_with fail
 go_loopg [5, 6] (L.length) (fun gk t5 t6 wr => ∃ i j : Nat, gk = j - i ∧ t5 = .int .i64 i ∧ t6 = .int .i64 j ∧ i ≤ j ∧ j ≤ L.length ∧ Hid (∀ k (h : k < L.length), k < i → L[k] ≤ r) ∧ Hid (∀ k (h : k < L.length), j ≤ k → r < L[k]) ∧ Below w.heap.size w wr)
 case atStart => exact ⟨0, L.length, rfl, rfl, rfl, by omega, Nat.le_refl _, fun k h hk => absurd hk (by omega), fun k h hk => absurd hk (by omega), Below.z⟩
 case round =>
  obtain ⟨i, j, rfl, rfl, rfl, hij, hj, H1, H2, hb⟩ := hrel
  obtain ⟨hc, hf⟩ := bcells hb
  have hzr := hb.size
  by_cases hlt : i < j
  ·obtain ⟨h, hw2, hih, hhj⟩ : ∃ h : Nat, ((i : Int) + (j : Int)) / 2 = (h : Int) ∧ i ≤ h ∧ h < j := ⟨(i + j) / 2, by omega, by omega, by omega⟩
   have hm1 : h < L.length := by omega
   have hw1 : IntKind.i64.wrap ((i : Int) + (j : Int)) = (i : Int) + (j : Int) := IntWalk.i64_in _ (by omega)
   by_cases ht : r < L[h]
   ·have HT := Lib.hid (show decide (r < L[h]) = true from decide_eq_true ht)
    have HT2 := Lib.hid ht
    clear ht
    go_wp2_with (go_at_call 160; refine (pick1_any L r p q b cp h a A _ hm1 hL (by go_simp) (by go_simp) (by go_simp) (by exact RIs.ext (Agree.below Below.z) _ _ HR.out)).mono ?_; rw [HT.out]; rintro e w2 ⟨rfl, hb2⟩)
    go_roundg (h - i)
    case measure => omega
    case rel => exact ⟨i, h, rfl, rfl, rfl, hih, by omega, H1.out, fun k hk hk2 => by have := HM.out h k hm1 hk hk2; have := HT2.out; omega, Below.z⟩
   ·have HT := Lib.hid (show decide (r < L[h]) = false from decide_eq_false ht)
    have HT2 := Lib.hid ht
    clear ht
    go_wp2_with (go_at_call 160; refine (pick1_any L r p q b cp h a A _ hm1 hL (by go_simp) (by go_simp) (by go_simp) (by exact RIs.ext (Agree.below Below.z) _ _ HR.out)).mono ?_; rw [HT.out]; rintro e w2 ⟨rfl, hb2⟩)
    go_roundg (j - (h + 1))
    case measure => omega
    case rel => exact ⟨h + 1, j, rfl, by go_num, rfl, hhj, hj, fun k hk hk2 => by have := HM.out k h hk hm1 (by omega); have := HT2.out; omega, H2.out, Below.z⟩
  ·have hij2 : i = j := by omega
   subst hij2
   go_wp2_with fail
   go_ret
   exact ⟨ret_int (by rw [findIdx_eq L r i hj H1.out (fun h => H2.out i h (Nat.le_refl _))]), hb⟩
end Go.Proofs.YtojjdneicmbfjaaGreat
