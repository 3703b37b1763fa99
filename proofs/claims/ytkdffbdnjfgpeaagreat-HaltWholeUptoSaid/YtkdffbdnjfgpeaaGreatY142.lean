/- Part 143. -/
import Derived.Test.YtkdffbdnjfgpeaaGreatY2
import Derived.Test.YtkdffbdnjfgpeaaGreatY40
import Derived.Test.YtkdffbdnjfgpeaaGreatY141
import Derived.Test.YtkdffbdnjfgpeaaGreatY140
set_option linter.all false
namespace Go.Proofs.YtkdffbdnjfgpeaaGreat
open Go Go.RowKit
theorem ratN_cross {a b c d : Nat} (hb : 0 < b) (hd : 0 < d) (h : a * d ≤ c * b) : (Zpw a b).1 * (Zpw c d).2 ≤ (Zpw c d).1 * (Zpw a b).2 := by
  obtain ⟨g, x, y, hg, rfl, rfl, -, hy, e⟩ := ZxJ (a := a) hb
  obtain ⟨g', x', y', hg', rfl, rfl, -, hy', e'⟩ := ZxJ (a := c) hd
  rw [e, e']
  show x * y' ≤ x' * y
  have h1 : (g * g') * (x * y') ≤ (g * g') * (x' * y) := by
    calc (g * g') * (x * y') = g * x * (g' * y') := by simp only [Nat.mul_assoc, Nat.mul_left_comm]
      _ ≤ g' * x' * (g * y) := h
      _ = (g * g') * (x' * y) := by simp only [Nat.mul_assoc, Nat.mul_left_comm, Nat.mul_comm]
  exact Nat.le_of_mul_le_mul_left h1 (Nat.mul_pos hg hg')
theorem cmpN_le {x y : Nat} (h : x ≤ y) : Zqb x y ≤ 0 := by
  unfold Zqb
  split
  · decide
  · rw [if_neg (by omega)]; decide
theorem cmpN_ge {x y : Nat} (h : y ≤ x) : 0 ≤ Zqb x y := by
  unfold Zqb
  rw [if_neg (by omega)]
  split <;> decide
theorem cmpN_gt {x y : Nat} (h : y < x) : Zqb x y = 1 := by
  unfold Zqb
  rw [if_neg (by omega), if_pos h]
def cmpQ (p q : Nat × Nat) : Int := Zqb ((Zpw p.1 p.2).1 * (Zpw q.1 q.2).2) ((Zpw q.1 q.2).1 * (Zpw p.1 p.2).2)
theorem cmpQ_le {a b c d : Nat} (hb : 0 < b) (hd : 0 < d) (h : a * d ≤ c * b) : cmpQ (Zpw a b) (Zpw c d) ≤ 0 := by
  unfold cmpQ
  rw [ZxV hb, ZxV hd]
  exact cmpN_le (ratN_cross hb hd h)
theorem cmpQ_ge {a b c d : Nat} (hb : 0 < b) (hd : 0 < d) (h : c * b ≤ a * d) : 0 ≤ cmpQ (Zpw a b) (Zpw c d) := by
  unfold cmpQ
  rw [ZxV hb, ZxV hd]
  exact cmpN_ge (ratN_cross hd hb h)
theorem cmpQ_zero {a b : Nat} (hb : 0 < b) : cmpQ (Zpw a b) (0, 1) = if a = 0 then 0 else 1 := by
  unfold cmpQ
  rw [ZxV hb]
  have h0 : Zpw 0 1 = (0, 1) := by decide
  show Zqb ((Zpw a b).1 * (Zpw 0 1).2) ((Zpw 0 1).1 * (Zpw a b).2) = _
  rw [h0]
  show Zqb ((Zpw a b).1 * 1) (0 * (Zpw a b).2) = _
  rw [Nat.mul_one, Nat.zero_mul]
  obtain ⟨g, x, y, hg, rfl, rfl, -, hy, e⟩ := ZxJ (a := a) hb
  rw [e]
  show Zqb x 0 = _
  rcases Nat.eq_zero_or_pos x with rfl | hx
  · rw [Nat.mul_zero]; rfl
  · rw [cmpN_gt hx, if_neg (by have := Nat.mul_pos hg hx; omega)]
def addQ (p q : Nat × Nat) : Nat × Nat := Zpw (p.1 * q.2 + q.1 * p.2) (p.2 * q.2)
theorem addQ_plus {a c b : Nat} (hb : 0 < b) : addQ (Zpw a b) (Zpw c b) = Zpw (a + c) b := by
  unfold addQ
  rw [Zx2 hb hb, ZxU hb]
section
variable {t : GT} (hT : (Z3 t).2 = 0) (ox : okT t)
include hT ox
theorem rises (q : GV → Bool) {n : Nat} (hn : n < 1024) :
    cmpQ (Zpw (W9 t (Zqz q) n ⟨#[]⟩) (2 ^ n)) (Zpw (W9 t (Zqz q) (n + 1) ⟨#[]⟩) (2 ^ (n + 1))) ≤ 0 ∧
    0 ≤ cmpQ (Zpw (W9 t ZpX n ⟨#[]⟩) (2 ^ n)) (Zpw (W9 t ZpX (n + 1) ⟨#[]⟩) (2 ^ (n + 1))) ∧
    cmpQ (Zpw (W9 t Zp3 n ⟨#[]⟩) (2 ^ n)) (Zpw (W9 t Zp3 (n + 1) ⟨#[]⟩) (2 ^ (n + 1))) ≤ 0 ∧
    ((W9 t Zp3 (n + 1) ⟨#[]⟩ ≠ 0 ∧ cmpQ (Zpw (W9 t Zp3 (n + 1) ⟨#[]⟩) (2 ^ (n + 1))) (0, 1) = 1) ∨
     (cmpQ (Zpw (W9 t Zp3 (n + 1) ⟨#[]⟩) (2 ^ (n + 1))) (0, 1) = 0 ∧ addQ (Zpw (W9 t Zp2 n ⟨#[]⟩) (2 ^ n)) (Zpw (W9 t ZpX n ⟨#[]⟩) (2 ^ n)) = Zpw (W9 t Zp2 (n + 1) ⟨#[]⟩) (2 ^ (n + 1)))) := by
  have p0 : 0 < 2 ^ n := Nat.pos_of_ne_zero (by simp)
  have p1 : 0 < 2 ^ (n + 1) := Nat.pos_of_ne_zero (by simp)
  have e : 2 ^ (n + 1) = 2 * 2 ^ n := by rw [Nat.pow_succ, Nat.mul_comm]
  have r1 : 2 * W9 t (Zqz q) n ⟨#[]⟩ ≤ W9 t (Zqz q) (n + 1) ⟨#[]⟩ := hSum_rise hT ox (fun r => Zqz q r 0) rfl hn
  have r2 : 2 * W9 t Zp3 n ⟨#[]⟩ ≤ W9 t Zp3 (n + 1) ⟨#[]⟩ := hSum_rise hT ox (fun r => Zp3 r 0) rfl hn
  have r3 := more_falls hT ox hn
  have r4 := bits_rise hT ox hn
  generalize W9 t (Zqz q) n ⟨#[]⟩ = a1 at *
  generalize W9 t (Zqz q) (n + 1) ⟨#[]⟩ = a2 at *
  generalize W9 t ZpX n ⟨#[]⟩ = m1 at *
  generalize W9 t ZpX (n + 1) ⟨#[]⟩ = m2 at *
  generalize W9 t Zp3 n ⟨#[]⟩ = s1 at *
  generalize W9 t Zp3 (n + 1) ⟨#[]⟩ = s2 at *
  generalize W9 t Zp2 n ⟨#[]⟩ = b1 at *
  generalize W9 t Zp2 (n + 1) ⟨#[]⟩ = b2 at *
  have mul_le : ∀ u v : Nat, 2 * u ≤ v → u * 2 ^ (n + 1) ≤ v * 2 ^ n := fun u v h => by
    rw [e, ← Nat.mul_assoc, Nat.mul_comm u 2]; exact Nat.mul_le_mul_right _ h
  refine ⟨cmpQ_le p0 p1 (mul_le _ _ r1), cmpQ_ge p0 p1 ?_, cmpQ_le p0 p1 (mul_le _ _ r2), ?_⟩
  · rw [e, ← Nat.mul_assoc, Nat.mul_comm m1 2]; exact Nat.mul_le_mul_right _ r3
  · rw [cmpQ_zero p1]
    by_cases h : s2 = 0
    · rw [if_pos h]
      refine .inr ⟨rfl, ?_⟩
      rw [addQ_plus p0, r4 h, (ZxN p0 p1).2]
      rw [e, ← Nat.mul_assoc, Nat.mul_comm (b1 + m1) 2, Nat.mul_add]
    · rw [if_neg h]
      exact .inl ⟨h, rfl⟩
end
end Go.Proofs.YtkdffbdnjfgpeaaGreat
