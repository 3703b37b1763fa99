/- Part 142. -/
import Derived.Test.YtkdffbdnjfgpeaaGreatY35
import Derived.Test.YtkdffbdnjfgpeaaGreatY140
set_option linter.all false
namespace Go.Proofs.YtkdffbdnjfgpeaaGreat
open Go Go.RowKit
theorem map_le {α : Type} (f g : α → Nat) : ∀ l : List α, (∀ x ∈ l, f x ≤ g x) → (l.map f).sum ≤ (l.map g).sum
  | [], _ => Nat.le_refl _
  | x :: l, h => by
    rw [List.map_cons, List.map_cons, List.sum_cons, List.sum_cons]
    exact Nat.add_le_add (h x (List.mem_cons_self ..)) (map_le f g l fun y hy => h y (List.mem_cons_of_mem _ hy))
theorem map_eq {α : Type} (f g : α → Nat) : ∀ l : List α, (∀ x ∈ l, f x = g x) → (l.map f).sum = (l.map g).sum
  | [], _ => rfl
  | x :: l, h => by
    rw [List.map_cons, List.map_cons, List.sum_cons, List.sum_cons, h x (List.mem_cons_self ..), map_eq f g l fun y hy => h y (List.mem_cons_of_mem _ hy)]
theorem map_zero {α : Type} (f : α → Nat) : ∀ l : List α, (l.map f).sum = 0 → ∀ x ∈ l, f x = 0
  | [], _, x, hx => by cases hx
  | y :: l, h, x, hx => by
    rw [List.map_cons, List.sum_cons] at h
    rcases List.mem_cons.1 hx with rfl | hx
    · omega
    · exact map_zero f l (by omega) x hx
theorem map_two {α : Type} (f g : α → Nat) : ∀ l : List α, (l.map fun x => 2 * f x + 2 * g x).sum = 2 * (l.map f).sum + 2 * (l.map g).sum
  | [] => rfl
  | x :: l => by
    rw [List.map_cons, List.map_cons, List.map_cons, List.sum_cons, List.sum_cons, List.sum_cons, map_two f g l]
    omega
theorem ext_facts {n : Nat} (hn : n < 1024) {x : ByteArray} (hx : x ∈ Zqm n ⟨#[]⟩) : Zc (W3 x 48) = true ∧ Zc (W3 x 49) = true ∧ x.size = n := by
  have h0 : (⟨#[]⟩ : ByteArray).size = 0 := rfl
  have hz := ZpC hx
  have hb := Zp8 ZpA (by omega) hx
  exact ⟨Zpz hb (by omega) (.inl rfl), Zpz hb (by omega) (.inr rfl), by omega⟩
section
variable {t : GT} (hT : (Z3 t).2 = 0) (ox : okT t)
include hT ox
theorem hSum_here (φ : Res GV → Nat → Nat) {n : Nat} (hn : n ≤ 1024) : W9 t φ n ⟨#[]⟩ = ((Zqm n ⟨#[]⟩).map fun x => φ (Vm x t) n).sum := by
  have h0 : (⟨#[]⟩ : ByteArray).size = 0 := rfl
  rw [ZxL hT ox φ n _ ZpA (by omega)]
  exact map_eq _ _ _ fun x hx => by rw [ZpC hx, h0, Nat.zero_add]
theorem hSum_next (φ : Res GV → Nat → Nat) {n : Nat} (hn : n < 1024) : W9 t φ (n + 1) ⟨#[]⟩ = ((Zqm n ⟨#[]⟩).map fun x => φ (Vm (W3 x 48) t) (n + 1) + φ (Vm (W3 x 49) t) (n + 1)).sum := by
  have h0 : (⟨#[]⟩ : ByteArray).size = 0 := rfl
  rw [ZxL hT ox φ (n + 1) _ ZpA (by omega), Zqm]
  have key : ∀ l : List ByteArray, (∀ x ∈ l, x.size = n) → ((l.flatMap fun x => [W3 x 48, W3 x 49]).map fun x => φ (Vm x t) x.size).sum = (l.map fun x => φ (Vm (W3 x 48) t) (n + 1) + φ (Vm (W3 x 49) t) (n + 1)).sum := by
    intro l
    induction l with
    | nil => intro _; rfl
    | cons x l ih =>
      intro hl
      have h2 := hl x (List.mem_cons_self ..)
      rw [List.flatMap_cons, List.map_append, List.sum_append, ih fun y hy => hl y (List.mem_cons_of_mem _ hy), List.map_cons, List.sum_cons]
      simp only [List.map_cons, List.map_nil, List.sum_cons, List.sum_nil, QP, h2, Nat.add_zero]
  exact key _ fun x hx => by have := ZpC hx; omega
theorem run_child {x : ByteArray} {b : UInt8} (hb : Zc (W3 x b) = true) (h : ZpO (Vm x t) = false) : Vm (W3 x b) t = Vm x t := by
  rcases ZqL hT ox (s := x) (u := ⟨#[b]⟩) hb with e | e
  · rw [e] at h; cases h
  · exact e
theorem hSum_rise (φ : Res GV → Nat) (h2 : φ (.no 2) = 0) {n : Nat} (hn : n < 1024) : 2 * W9 t (fun r _ => φ r) n ⟨#[]⟩ ≤ W9 t (fun r _ => φ r) (n + 1) ⟨#[]⟩ := by
  rw [hSum_next hT ox _ hn, hSum_here hT ox _ (by omega)]
  have := map_two (fun x => φ (Vm x t)) (fun _ => 0) (Zqm n ⟨#[]⟩)
  have hz : ((Zqm n ⟨#[]⟩).map fun _ => 0).sum = 0 := by rw [ZxM (fun _ => 0) 0 _ fun _ _ => rfl]; rfl
  rw [hz] at this
  refine Nat.le_trans (Nat.le_of_eq (show _ = _ by rw [Nat.mul_zero, Nat.add_zero] at this; exact this.symm)) (map_le _ _ _ fun x hx => ?_)
  obtain ⟨b0, b1, -⟩ := ext_facts hn hx
  cases hm : ZpO (Vm x t) with
  | false => rw [run_child hT ox b0 hm, run_child hT ox b1 hm]; omega
  | true =>
    have : Vm x t = .no 2 := by
      cases hr : Vm x t with
      | ok v k => rw [hr] at hm; cases hm
      | no k => rw [hr] at hm; rw [show k = 2 by simpa [ZpO] using hm]
    rw [this, h2]; omega
theorem more_falls {n : Nat} (hn : n < 1024) : W9 t ZpX (n + 1) ⟨#[]⟩ ≤ 2 * W9 t ZpX n ⟨#[]⟩ := by
  rw [hSum_next hT ox _ hn, hSum_here hT ox _ (by omega)]
  have := map_two (fun x => ZpX (Vm x t) n) (fun _ => 0) (Zqm n ⟨#[]⟩)
  have hz : ((Zqm n ⟨#[]⟩).map fun _ => 0).sum = 0 := by rw [ZxM (fun _ => 0) 0 _ fun _ _ => rfl]; rfl
  rw [hz, Nat.mul_zero, Nat.add_zero] at this
  rw [← this]
  refine map_le _ _ _ fun x hx => ?_
  obtain ⟨b0, b1, -⟩ := ext_facts hn hx
  have h1 : ∀ r m, ZpX r m ≤ 1 := fun r m => by unfold ZpX; split <;> omega
  cases hm : ZpO (Vm x t) with
  | false =>
    have e0 : ZpX (Vm (W3 x 48) t) (n + 1) = 0 := by rw [run_child hT ox b0 hm]; simp [ZpX, hm]
    have e1 : ZpX (Vm (W3 x 49) t) (n + 1) = 0 := by rw [run_child hT ox b1 hm]; simp [ZpX, hm]
    omega
  | true =>
    have e0 := h1 (Vm (W3 x 48) t) (n + 1)
    have e1 := h1 (Vm (W3 x 49) t) (n + 1)
    have e2 : ZpX (Vm x t) n = 1 := by simp [ZpX, hm]
    omega
theorem bits_rise {n : Nat} (hn : n < 1024) (h : W9 t Zp3 (n + 1) ⟨#[]⟩ = 0) : W9 t Zp2 (n + 1) ⟨#[]⟩ = 2 * W9 t Zp2 n ⟨#[]⟩ + 2 * W9 t ZpX n ⟨#[]⟩ := by
  rw [hSum_next hT ox _ hn] at h
  rw [hSum_next hT ox _ hn, hSum_here hT ox Zp2 (n := n) (by omega), hSum_here hT ox ZpX (n := n) (by omega), ← map_two]
  refine map_eq _ _ _ fun x hx => ?_
  obtain ⟨b0, b1, hz⟩ := ext_facts hn hx
  have hs := map_zero _ _ h x hx
  cases hm : ZpO (Vm x t) with
  | false =>
    rw [run_child hT ox b0 hm, run_child hT ox b1 hm] at hs ⊢
    cases hr : Vm x t with
    | ok v k => simp only [Zp2, ZpX, ZpO, Bool.false_eq_true, if_false]; omega
    | no k =>
      rw [hr] at hm hs
      have hk : ¬ k = 2 := by simpa [ZpO] using hm
      simp [Zp3, hk] at hs
  | true =>
    have key : ∀ b : UInt8, Zc (W3 x b) = true → Zp3 (Vm (W3 x b) t) (n + 1) = 0 → Zp2 (Vm (W3 x b) t) (n + 1) = n + 1 := fun b hb hs => by
      cases hr : Vm (W3 x b) t with
      | ok v k =>
        have := ZpF hT ox hb hm v k hr
        rw [QP, hz] at this
        exact this
      | no k =>
        rw [hr] at hs
        by_cases hk : k = 2
        · simp [Zp2, hk]
        · simp [Zp3, hk] at hs
    rw [key 48 b0 (by omega), key 49 b1 (by omega)]
    have : Vm x t = .no 2 := by
      cases hr : Vm x t with
      | ok v k => rw [hr] at hm; cases hm
      | no k => rw [hr] at hm; rw [show k = 2 by simpa [ZpO] using hm]
    rw [this]
    show n + 1 + (n + 1) = 2 * n + 2 * 1
    omega
end
theorem dList_more (t : GT) (n : Nat) : Zpv t (n + 1) = Zpv t n ++ Zsj t (n + 1) (Zqm (n + 1) ⟨#[]⟩) := by
  unfold Zpv
  rw [List.range_succ, List.flatMap_append]
  simp
theorem dRow_size {t : GT} {k : Nat} : ∀ p ∈ Zsj t k (Zqm k ⟨#[]⟩), p.1.size = k := by
  rintro ⟨x, v⟩ h
  have := ZpC (Zql.1 h).1
  have h0 : (⟨#[]⟩ : ByteArray).size = 0 := rfl
  show x.size = k
  omega
end Go.Proofs.YtkdffbdnjfgpeaaGreat
