/- What the proofs of the Trial statements need: part 10. -/
import Derived.Test.YtojjdneicmbfjaaGreatQ6
import Derived.Test.YtojjdneicmbfjaaGreatQ8
set_option linter.unusedVariables false
set_option linter.unusedSimpArgs false
namespace Go.Proofs.YtojjdneicmbfjaaGreat
open Go Go.RowKit
/-- a number below n out of the bits from i on, width q at a time: the number, and where it ended; or that it ran short, and where -/
def firstN (s : ByteArray) (n q : Nat) : Nat → Nat → Option Nat × Nat
 | 0, i => (none, i)
 | f + 1, i => if s.size < i + q then (none, i) else if takeV s i q < n then (some (takeV s i q), i + q) else firstN s n q f (i + q)
theorem firstN_bounds (s : ByteArray) (n q : Nat) : ∀ f i, i ≤ s.size → i ≤ (firstN s n q f i).2 ∧ (firstN s n q f i).2 ≤ s.size ∧ ∀ v, (firstN s n q f i).1 = some v → v < n
 | 0, i, h => by simp [firstN, h]
 | f + 1, i, h => by
  unfold firstN
  split
  ·simp [h]
  ·split
   ·rename_i h1 h2; refine ⟨by simp, by simp; omega, ?_⟩; intro v hv; simp at hv; omega
   ·rename_i h1 h2
    obtain ⟨a, b, c⟩ := firstN_bounds s n q f (i + q) (by omega)
    exact ⟨by omega, b, c⟩
end Go.Proofs.YtojjdneicmbfjaaGreat
namespace Go.Proofs.YtojjdneicmbfjaaGreat
open Go Go.RowKit
def drawR (c : Nat) (s : ByteArray) (r : Option Nat × Nat) (w : World) : Ending → World → Prop := fun e w' => But c w.heap.size w w' ∧
 match r with
 | (some v, j) => e = .returned (.tuple #[.int .u64 v, .bool true]) ∧ Cur w' c s j false
 | (none, j) => e = .returned (.tuple #[.int .u64 0, .bool false]) ∧ Cur w' c s j true
theorem widthN_le (n : Nat) (h : n < 18446744073709551616) : widthN n ≤ 64 := by
 unfold widthN lenN
 split
 ·omega
 ·split
  ·omega
  ·have := (Nat.log2_lt (n := n - 1) (k := 64) (by omega)).2 (by omega)
   omega
set_option maxRecDepth 100000 in
set_option maxHeartbeats 1000000 in
theorem first_any (c : Nat) (s : ByteArray) (i n : Nat) (w : World) (hb : isBits s = true) (hi : i ≤ s.size) (hn : 0 < n ∧ n < 18446744073709551616) (hl : Cur w c s i false) :
  Calls Tryz.prog 158 #[.func (.func 157) #[.pointer (some ⟨c, 0, none⟩)] #[], .int .u64 n] w (drawR c s (firstN s n (widthN n) (s.size + 1 - i) i) w) := by
 have HL := Lib.hid hl
 have HB := Lib.hid hb
 have hcs : c < w.heap.size := World.block_lt_of_cell? _ _ hl.1.1
 have hw := widthN_le n hn.2
 obtain ⟨hn0, hn1⟩ := hn
 clear hl hb
 generalize hR : firstN s n (widthN n) (s.size + 1 - i) i = R
 have HR := Lib.hid hR
 clear hR
 go_enter Tryz.func158, Tryz.ntmps158
 go_wp2_with (first | (go_at_call 167; refine (width_any n _ hn1).mono ?_; rintro e w1 ⟨rfl, hb⟩; have hB1 := hb; clear hb; obtain ⟨hc1, hf1⟩ := bcells hB1))
 go_loopg [4, 5] (s.size + 1 - i) (fun gk t4 t5 wr => ∃ j f : Nat, gk = s.size + 1 - j ∧ s.size + 1 - j ≤ f ∧ i ≤ j ∧ j ≤ s.size ∧ t4 = .int .u64 0 ∧ t5 = .bool false ∧ Hid (firstN s n (widthN n) f j = R) ∧ But c w.heap.size w wr ∧ Cur wr c s j false)
 case atStart => exact ⟨i, _, rfl, Nat.le_refl _, Nat.le_refl _, hi, rfl, rfl, HR.out, But.z, ⟨⟨by have h := HL.out.1.1; go_simp, by have h := HL.out.1.2.1; go_simp, by have h := HL.out.1.2.2; go_simp⟩, by have h := HL.out.2.1; go_simp, by have h := HL.out.2.2.1; go_simp, by have h := HL.out.2.2.2; go_simp⟩⟩
 case round =>
  obtain ⟨j, f, rfl, hjf, hj0, hj1, rfl, rfl, HF, hbt, hcur⟩ := hrel
  have HC := Lib.hid hcur
  have hz := hbt.size
  clear hcur
  obtain ⟨f, rfl⟩ : ∃ g, f = g + 1 := ⟨f - 1, by omega⟩
  have hd := HF.out
  rw [firstN] at hd
  by_cases hsh : s.size < j + widthN n
  ·rw [if_pos hsh] at hd
   have HD := Lib.hid hd
   have HS := Lib.hid hsh
   clear hd hsh
   go_wp2_with (go_at_call 157; refine (curTake_any c s j false (widthN n) _ HB.out hw hj1 (by exact HC.out)).mono ?_; rintro e w2 ⟨hb2, h7⟩; rw [if_neg (by have h9 := HS.out; simp; omega)] at h7; obtain ⟨rfl, hc2⟩ := h7; have HC2 := Lib.hid hc2; clear hc2)
   go_ret2
   rw [← HD.out]
   exact ⟨But.z, rfl, HC2.out⟩
  ·rw [if_neg hsh] at hd
   have HS := Lib.hid hsh
   by_cases hlt : takeV s j (widthN n) < n
   ·rw [if_pos hlt] at hd
    have HD := Lib.hid hd
    clear hd hsh
    go_wp2_with (go_at_call 157; refine (curTake_any c s j false (widthN n) _ HB.out hw hj1 (by exact HC.out)).mono ?_; rintro e w2 ⟨hb2, h7⟩; rw [if_pos (by have h9 := HS.out; simp; omega)] at h7; obtain ⟨rfl, hc2⟩ := h7; have HC2 := Lib.hid hc2; clear hc2)
    go_ret2
    rw [← HD.out]
    exact ⟨But.z, rfl, HC2.out⟩
   ·rw [if_neg hlt] at hd
    have hq : 1 ≤ widthN n := by
     rcases Nat.eq_zero_or_pos (widthN n) with h | h
     ·rw [h] at hlt; simp [takeV] at hlt; omega
     ·exact h
    have HD := Lib.hid hd
    clear hd
    go_wp2_with (go_at_call 157; refine (curTake_any c s j false (widthN n) _ HB.out hw hj1 (by exact HC.out)).mono ?_; rintro e w2 ⟨hb2, h7⟩; rw [if_pos (by have h9 := HS.out; simp; omega)] at h7; obtain ⟨rfl, hc2⟩ := h7; have HC2 := Lib.hid hc2; clear hc2)
    go_roundg (s.size + 1 - (j + widthN n))
    case measure => omega
    case rel => exact ⟨j + widthN n, f, rfl, by omega, by omega, by omega, rfl, rfl, HD.out, But.z, HC2.out⟩
end Go.Proofs.YtojjdneicmbfjaaGreat
