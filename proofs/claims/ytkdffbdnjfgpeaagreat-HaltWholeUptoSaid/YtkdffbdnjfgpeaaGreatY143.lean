/- Part 144. -/
import Derived.Test.YtkdffbdnjfgpeaaGreatY35
import Derived.Test.YtkdffbdnjfgpeaaGreatY36
import Derived.Test.YtkdffbdnjfgpeaaGreatY142
import Derived.Test.YtkdffbdnjfgpeaaGreatY140
set_option linter.all false
namespace Go.Proofs.YtkdffbdnjfgpeaaGreat
open Go Go.RowKit
theorem half_is {k m : Nat} (h : m ≤ k) : ((1, 2 ^ m) : Nat × Nat) = Zpw (2 ^ (k - m)) (2 ^ k) := by
  have e : 2 ^ k = 2 ^ (k - m) * 2 ^ m := by rw [← Nat.pow_add]; congr 1; omega
  have h0 : 0 < 2 ^ (k - m) := Nat.pos_of_ne_zero (by simp)
  have h1 : Nat.gcd (2 ^ (k - m)) (2 ^ k) = 2 ^ (k - m) := Nat.gcd_eq_left ⟨2 ^ m, e⟩
  unfold Zpw
  rw [h1, Nat.div_self h0]
  exact Prod.ext rfl (by show 2 ^ m = 2 ^ k / 2 ^ (k - m); rw [e, Nat.mul_div_cancel_left _ h0])
structure Sums (L : List GH) (K : Nat) (need stuck mine : Nat × Nat) (x : GV) (pf qf : Nat → Nat × Nat) : Prop where
  s0 : addQ need stuck = pf 0
  o0 : qf 0 = (0, 1)
  s1 : ∀ i (h : i < L.length), addQ (pf i) (1, 2 ^ L[i].1.size) = pf (i + 1)
  o1 : ∀ i (h : i < L.length), XX L[i].2 x = true → addQ (qf i) (1, 2 ^ L[i].1.size) = qf (i + 1)
  o2 : ∀ i (h : i < L.length), XX L[i].2 x = false → qf (i + 1) = qf i
  se : pf L.length = (1, 1)
  oe : qf L.length = mine
  ok : ∀ i, i ≤ L.length → (0 < (pf i).2 ∧ (pf i).2 < 65536 ∧ (pf i).1 < 65536) ∧ (0 < (qf i).2 ∧ (qf i).2 < 65536 ∧ (qf i).1 < 65536)
theorem sums_are {t : GT} (hT : (Z3 t).2 = 0) (ox : okT t) {K : Nat} (hK : K ≤ 8) (x : GV) : ∃ pf qf, Sums (Zpv t K) K (Zpw (W9 t ZpX K ⟨#[]⟩) (2 ^ K)) (Zpw (W9 t Zp3 K ⟨#[]⟩) (2 ^ K)) (Zpw (W9 t (Zqz fun y => XX y x) K ⟨#[]⟩) (2 ^ K)) x pf qf := by
  have hP : 0 < 2 ^ K := Nat.pos_of_ne_zero (by simp)
  have hP9 : 2 ^ K ≤ 256 := by have := Nat.pow_le_pow_right (n := 2) (by omega) hK; simpa using this
  have hall := ZxX t K ⟨#[]⟩
  have hw := Zx4 hT ox (fun _ => true) (n := K) (by omega)
  have hq := Zx4 hT ox (fun y => XX y x) (n := K) (by omega)
  have hin := fun p (hp : p ∈ Zpv t K) => (Zqk hT ox (n := K) (by omega) p hp).2.1
  have hqa : wQ (fun y => XX y x) K (Zpv t K) ≤ 2 ^ K := by
    rw [hq]
    have h1 := Zp5 t K ⟨#[]⟩
    have h2 := Zqp t (Zqz fun y => XX y x) (fun _ _ => 1) (fun r m => by cases r with
      | ok v k => show (if XX v x = true then 1 else 0) ≤ 1; split <;> omega
      | no k => exact Nat.zero_le _) K ⟨#[]⟩
    omega
  generalize Zpv t K = L at *
  generalize W9 t ZpX K ⟨#[]⟩ = M at *
  generalize W9 t Zp3 K ⟨#[]⟩ = S at *
  rw [← hq]
  rw [← hw] at hall
  have tl := fun i => ZrF (fun _ => true) K L i
  have tq := fun i => ZrF (fun y => XX y x) K L i
  refine ⟨fun i => Zpw (M + S + wQ (fun _ => true) K (L.take i)) (2 ^ K), fun i => Zpw (wQ (fun y => XX y x) K (L.take i)) (2 ^ K), ?_, ?_, ?_, ?_, ?_, ?_, ?_, ?_⟩
  · show _ = Zpw (M + S + 0) (2 ^ K)
    rw [addQ_plus hP, Nat.add_zero]
  · show Zpw 0 (2 ^ K) = _
    unfold Zpw
    rw [Nat.gcd_zero_left, Nat.zero_div, Nat.div_self hP]
  · intro i h
    have hs := hin _ (List.getElem_mem h)
    show addQ (Zpw _ _) _ = Zpw _ _
    rw [half_is hs, addQ_plus hP, Zrd _ _ _ _ h, if_pos rfl, Nat.add_assoc]
  · intro i h he
    have hs := hin _ (List.getElem_mem h)
    show addQ (Zpw _ _) _ = Zpw _ _
    rw [half_is hs, addQ_plus hP, Zrd _ _ _ _ h, if_pos he]
  · intro i h he
    show Zpw _ _ = Zpw _ _
    rw [Zrd _ _ _ _ h, if_neg (by rw [he]; simp), Nat.add_zero]
  · show Zpw (M + S + wQ _ K (L.take L.length)) (2 ^ K) = _
    rw [List.take_length, show M + S + wQ (fun _ => true) K L = 2 ^ K by omega]
    unfold Zpw
    rw [Nat.gcd_self, Nat.div_self hP]
  · show Zpw (wQ _ K (L.take L.length)) (2 ^ K) = _
    rw [List.take_length]
  · intro i hi
    have h1 := tl i
    have h2 := tq i
    have l1 := Zx5 (a := M + S + wQ (fun _ => true) K (L.take i)) (b := 2 ^ K)
    have l2 := Zx5 (a := wQ (fun y => XX y x) K (L.take i)) (b := 2 ^ K)
    exact ⟨⟨Zx3 hP, by omega, by omega⟩, Zx3 hP, by omega, by omega⟩
end Go.Proofs.YtkdffbdnjfgpeaaGreat
