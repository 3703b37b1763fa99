/- What the proofs of the Trial statements need: part 6. -/
import Derived.Laws.Strings
import Derived.Laws.Strings2
import Derived.Laws.Strings3
import Derived.Test.YtojjdneicmbfjaaGreatQ0
import Derived.Test.YtojjdneicmbfjaaGreatQ4
set_option linter.unusedVariables false
set_option linter.unusedSimpArgs false
namespace Go.Proofs.YtojjdneicmbfjaaGreat
open Go Go.RowKit
def oddB (s : ByteArray) : Bool := !(s.data.toList.all fun b => b.toNat == 48 || b.toNat == 49)
def isBits (s : ByteArray) : Bool := decide (s.size ≤ 1024) && !oddB s
theorem byte_at (s : ByteArray) (i : Nat) (h : i < s.size) : s[i] = s.data.toList[i]'(by simpa using h) := by
 simp [ByteArray.getElem_eq_getElem_data]
theorem oddB_false (s : ByteArray) (h : ∀ i (hi : i < s.size), s[i].toNat = 48 ∨ s[i].toNat = 49) : oddB s = false := by
 simp only [oddB, Bool.not_eq_false', List.all_eq_true, Bool.or_eq_true, beq_iff_eq]
 intro b hb
 obtain ⟨i, hi, rfl⟩ := List.getElem_of_mem hb
 have := h i (by simpa using hi)
 rwa [byte_at] at this
theorem oddB_true (s : ByteArray) (i : Nat) (hi : i < s.size) (h : ¬ s[i].toNat = 48) (h2 : ¬ s[i].toNat = 49) : oddB s = true := by
 simp only [oddB, Bool.not_eq_true', List.all_eq_false]
 refine ⟨s[i], by rw [byte_at s i hi]; exact List.getElem_mem _, ?_⟩
 simp [h, h2]
set_option maxRecDepth 100000 in
theorem odd_any (s : ByteArray) (w : World) (hs : s.size ≤ 9223372036854775807) :
  Calls Tryz.prog 89 #[.string s] w fun e w' => e = .returned (.bool (oddB s)) ∧ Below w.heap.size w w' := by
 generalize hF : oddB s = F
 have HF := Lib.hid hF
 clear hF
 go_enter Tryz.func89, Tryz.ntmps89
 go_wp2_with fail
 go_loopg [6] (s.size) (fun gk i wr => ∃ j : Nat, gk + j = s.size ∧ i = .int .i64 j ∧ Hid (∀ q (hq : q < s.size), q < j → s[q].toNat = 48 ∨ s[q].toNat = 49) ∧ wr = w)
 case atStart => exact ⟨0, by omega, rfl, fun q _ hq => absurd hq (by omega), rfl⟩
 case round =>
  obtain ⟨j, hj, rfl, HZ, rfl⟩ := hrel
  by_cases hlt : j < s.size
  ·go_wp2_with fail
   ·go_roundg (gk - 1)
    case measure => omega
    case rel => exact ⟨j + 1, by omega, by go_num, fun q hq hj' => (by
     by_cases hqj : q = j
     ·subst hqj; exact .inl (by omega)
     ·exact HZ.out q hq (by omega)), rfl⟩
   ·have h1 : ¬ s[j].toNat = 48 := by omega
    have h2 : ¬ s[j].toNat = 49 := by
     have h3 := ‹(_ != _) = true ∧ (_ != _) = true›.2
     simp at h3; omega
    go_ret
    exact ⟨ret_b1 (by rw [← HF.out, oddB_true s j hlt h1 h2]), Below.z⟩
   ·have h2 : s[j].toNat = 49 := by
     have h3 := ‹(_ != _) = false ∨ (_ != _) = false›
     simp at h3; omega
    go_roundg (gk - 1)
    case measure => omega
    case rel => exact ⟨j + 1, by omega, by go_num, fun q hq hj' => (by
     by_cases hqj : q = j
     ·subst hqj; exact .inr h2
     ·exact HZ.out q hq (by omega)), rfl⟩
  ·go_wp2_with fail
   go_ret
   exact ⟨ret_b1 (by rw [← HF.out, oddB_false s fun q hq => HZ.out q hq (by omega)]), Below.z⟩
set_option maxRecDepth 100000 in
theorem isBits_any (s : ByteArray) (w : World) (hs : s.size ≤ 9223372036854775807) :
  Calls Tryz.prog 62 #[.string s] w fun e w' => e = .returned (.bool (isBits s)) ∧ Below w.heap.size w w' := by
 generalize hF : isBits s = F
 have HF := Lib.hid hF
 clear hF
 go_enter Tryz.func62, Tryz.ntmps62
 go_wp2_with (go_at_call 89; refine (odd_any s _ hs).mono ?_; rintro e w1 ⟨rfl, hb⟩; have hB1 := hb; clear hb; obtain ⟨hc1, hf1⟩ := bcells hB1)
 all_goals go_ret
 all_goals refine ⟨ret_b1 ?_, Below.z⟩
 all_goals rw [← HF.out]
 all_goals unfold isBits
 all_goals (first | (simp [show s.size ≤ 1024 by omega]; done) | (simp [show ¬ s.size ≤ 1024 by omega]; done))
end Go.Proofs.YtojjdneicmbfjaaGreat
namespace Go.Proofs.YtojjdneicmbfjaaGreat
open Go Go.RowKit
/-- a cursor lies in block c: over the string s, at i, and whether it ran short -/
def Cur (w : World) (c : Nat) (s : ByteArray) (i : Nat) (o : Bool) : Prop :=
 (w.cell? ⟨c, 0, none⟩ = some (.string s) ∧ w.cell? ⟨c, 1, none⟩ = some (.int .i64 i) ∧ w.cell? ⟨c, 2, none⟩ = some (.bool o)) ∧
 (w.frozen? ⟨c, 0, none⟩ = false ∧ w.frozen? ⟨c, 1, none⟩ = false ∧ w.frozen? ⟨c, 2, none⟩ = false)
def CurNewR (s : ByteArray) (w : World) : Ending → World → Prop := fun e w' => Below w.heap.size w w' ∧
 ((isBits s = true ∧ ∃ c, w.heap.size ≤ c ∧ c < w'.heap.size ∧ e = .returned (.tuple #[.pointer (some ⟨c, 0, none⟩), .int .i64 0]) ∧ Cur w' c s 0 false) ∨
  (isBits s = false ∧ e = .returned (.tuple #[.pointer none, .int .i64 3])))
theorem curNew_any (s : ByteArray) (w : World) (hs : s.size ≤ 9223372036854775807) :
  Calls Tryz.prog 39 #[.string s] w (CurNewR s w) := by
 cases hF : isBits s
 ·have HF := Lib.hid hF
  clear hF
  go_enter Tryz.func39, Tryz.ntmps39
  go_wp2_with (go_at_call 62; refine (isBits_any s _ hs).mono ?_; rw [HF.out]; rintro e w1 ⟨rfl, hb1⟩; obtain ⟨hc1, hf1⟩ := bcells hb1)
  go_ret2
  exact ⟨Below.z, .inr ⟨HF.out, rfl⟩⟩
 ·have HF := Lib.hid hF
  clear hF
  go_enter Tryz.func39, Tryz.ntmps39
  go_wp2_with (go_at_call 62; refine (isBits_any s _ hs).mono ?_; rw [HF.out]; rintro e w1 ⟨rfl, hb1⟩; obtain ⟨hc1, hf1⟩ := bcells hb1; have hz1 := hb1.size)
  go_ret2
  exact ⟨Below.z, .inl ⟨HF.out, _, hz1, by simp, rfl, ⟨by go_simp, by go_simp, by go_simp⟩, by go_simp, by go_simp, by go_simp⟩⟩
theorem curAt_any (c : Nat) (s : ByteArray) (i : Nat) (o : Bool) (w : World) (hl : Cur w c s i o) :
  Calls Tryz.prog 63 #[.pointer (some ⟨c, 0, none⟩)] w fun e w' => e = .returned (.int .i64 i) ∧ Below w.heap.size w w' := by
 obtain ⟨⟨c0, c1, c2⟩, f0, f1, f2⟩ := hl
 go_enter Tryz.func63, Tryz.ntmps63
 go_wp2_with fail
 go_ret
 exact ⟨rfl, Below.z⟩
end Go.Proofs.YtojjdneicmbfjaaGreat
namespace Go.Proofs.YtojjdneicmbfjaaGreat
open Go Go.RowKit
set_option maxRecDepth 100000 in
theorem curRest_any (c : Nat) (s : ByteArray) (i : Nat) (o : Bool) (w : World) (hi : i ≤ s.size) (hs : s.size ≤ 9223372036854775807) (hl : Cur w c s i o) :
  Calls Tryz.prog 170 #[.pointer (some ⟨c, 0, none⟩)] w fun e w' => e = .returned (.string (s.extract i s.size)) ∧ Below w.heap.size w w' := by
 obtain ⟨⟨c0, c1, c2⟩, f0, f1, f2⟩ := hl
 go_enter Tryz.func170, Tryz.ntmps170
 go_wp2_with fail
 refine wp_tail 8 (by kernel_rfl) (by kernel_rfl) ?_
 simp only [List.take_succ_cons, List.take_zero, List.drop_succ_cons, List.drop_zero]
 repeat still_step
 refine wpStill_nil ?_
 go_wp2_with fail
 go_ret
 exact ⟨rfl, Below.z⟩
set_option maxRecDepth 100000 in
theorem curLeft_any (c : Nat) (s : ByteArray) (i : Nat) (o : Bool) (w : World) (hi : i ≤ s.size) (hs : s.size ≤ 9223372036854775807) (hl : Cur w c s i o) :
  Calls Tryz.prog 166 #[.pointer (some ⟨c, 0, none⟩)] w fun e w' => e = .returned (.int .i64 ((s.size - i : Nat) : Int)) ∧ Below w.heap.size w w' := by
 have HL := Lib.hid hl
 have hsz : (s.extract i s.size).size = s.size - i := by simp
 have HSZ := Lib.hid hsz
 clear hl hsz
 generalize hX : s.extract i s.size = X at *
 go_enter Tryz.func166, Tryz.ntmps166
 go_wp2_with (go_at_call 170; refine (curRest_any c s i o _ hi hs (by exact HL.out)).mono ?_; rw [hX]; rintro e w1 ⟨rfl, hb1⟩)
 go_ret
 exact ⟨ret_int (by rw [HSZ.out]), Below.z⟩
end Go.Proofs.YtojjdneicmbfjaaGreat
