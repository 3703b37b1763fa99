/- What the proofs of the Trial statements need: part 52. -/
import Derived.Test.YtcbdfjeehimcfaaGreatQ29
import Derived.Test.YtcbdfjeehimcfaaGreatQ43
set_option linter.unusedVariables false
set_option linter.unusedSimpArgs false
namespace Go.Proofs.YtcbdfjeehimcfaaGreat
open Go Go.RowKit
/-- by a predicate that always holds none fails -/
theorem cut_yes (s : ByteArray) (t : GT) (p : GP) (hp : ∀ v, holdsP p v = true) : ∀ (n a : Nat), (cutT s t p n a).2 ≠ 1
 | 0, a => by simp [cutT]
 | n + 1, a => by
  rw [cutT_step]
  rcases runT (subS s a) t with ⟨v, u⟩ | ⟨k⟩
  ·dsimp only
   rw [if_pos (hp v)]
   exact cut_yes s t p hp n (a + u)
  ·dsimp only
   split <;> omega
/-- the first trial: there is one by all predicates, or by none -/
theorem cut_one (s : ByteArray) (t : GT) (n : Nat) : (∃ v u, 0 < n ∧ ∀ p, (cutT s t p n 0).1 ≠ [] ∧ (holdsP p v = false → cutT s t p n 0 = ([⟨(0 : Nat), (0 + u : Nat), v⟩], 1)) ∧ (holdsP p v = true → ((cutT s t p n 0).2 = 1 ∧ (cutT s t p n 0).1.length = 1) → False)) ∨ ∃ e, e ≠ 1 ∧ ∀ p, cutT s t p n 0 = ([], e) := by
 cases n with
 | zero => exact .inr ⟨2, by omega, fun p => rfl⟩
 | succ n =>
  rcases hr : runT (subS s 0) t with ⟨v, u⟩ | ⟨k⟩
  ·refine .inl ⟨v, u, by omega, fun p => ⟨?_, fun h => ?_, fun h => ?_⟩⟩
   ·rw [cutT_step, hr]; dsimp only; split <;> simp
   ·rw [cutT_step, hr]; dsimp only; rw [if_neg (by rw [h]; simp)]
   ·rw [cutT_step, hr]; dsimp only; rw [if_pos h]
    intro ⟨h1, h2⟩
    dsimp only at h1 h2
    have h3 : (cutT s t p n (0 + u)).1 = [] := List.eq_nil_of_length_eq_zero (by simpa using h2)
    exact cut_nil_ne (e := (cutT s t p n (0 + u)).2) (Prod.ext h3 rfl) h1
  ·refine .inr ⟨if k = 2 then 3 else 4, by split <;> omega, fun p => ?_⟩
   rw [cutT_step, hr]
end Go.Proofs.YtcbdfjeehimcfaaGreat
namespace Go.Proofs.YtcbdfjeehimcfaaGreat
open Go Go.RowKit
mutual
/-- what is right farther in is right farther out -/
theorem chkP_deep : ∀ (p : GP) (pl pl' d d' : Int), d' ≤ d → (chkP pl d p).2 = 0 → (chkP pl' d' p).2 = 0
 | ⟨k, v, n, l⟩, pl, pl', d, d', hd, h => by
  simp only [chkP] at h ⊢
  split at h
  ·simp at h
  ·rename_i h1
   rw [if_neg (by omega)]
   split at h
   ·rename_i h2; exact absurd h h2
   ·rename_i h2
    rw [if_neg h2]
    exact chkPs_deep l (pl + 1) (pl' + 1) (d + 1) (d' + 1) (by omega) h
theorem chkPs_deep : ∀ (l : List GP) (pl pl' d d' : Int), d' ≤ d → (chkPs pl d l).2 = 0 → (chkPs pl' d' l).2 = 0
 | [], pl, pl', d, d', _, _ => rfl
 | x :: l, pl, pl', d, d', hd, h => by
  simp only [chkPs] at h ⊢
  split at h
  ·rename_i h1; exact absurd h h1
  ·rename_i h1
   have h2 := chkP_deep x pl pl' d d' hd (by simpa using h1)
   rw [if_neg (by rw [h2]; simp)]
   exact chkPs_deep l _ _ d d' hd h
end
/-- of a predicate whose Not may be -/
theorem may_not {p : GP} (h : mayP ⟨5, ⟨0, 0, []⟩, 0, [p]⟩ = true) : mayP p = true ∧ ∀ v, holdsP ⟨5, ⟨0, 0, []⟩, 0, [p]⟩ v = !(holdsP p v) := by
 refine ⟨?_, fun v => by simp [holdsP, holds1]⟩
 unfold mayP checkPE at h ⊢
 have h := eq_of_beq h
 split at h
 ·rename_i h1; exact absurd h h1
 ·rename_i h1
  split at h
  ·simp at h
  ·rename_i h2
   have h1 : (chkP 0 1 ⟨5, ⟨0, 0, []⟩, 0, [p]⟩).2 = 0 := by simpa using h1
   rw [chkP_eq, if_neg (by omega)] at h1
   split at h1
   ·rename_i h3; exact absurd h1 h3
   ·have h4 : (chkP 1 2 p).2 = 0 := by
     simp only [chkPs] at h1
     split at h1
     ·rename_i h5; exact absurd h1 h5
     ·rename_i h5; simpa using h5
    have h5 := chkP_deep p 1 0 2 1 (by omega) h4
    rw [if_neg (by rw [h5]; simp), if_neg]
    ·rfl
    ·rw [nodesP_eq] at h2
     simp only [nodesPs] at h2
     omega
theorem cutE_may {t : GT} {p : GP} {s : ByteArray} {n : Int} (h : (checkPE p).2 = 0) (hE : cutE t p s n = 11) : mayT t = false := by
 unfold cutE at hE
 split at hE
 ·unfold runE at hE
  unfold mayT
  split at hE
  ·rename_i h1; simpa using h1
  ·split at hE <;> omega
 ·rw [if_neg (by rw [h]; simp)] at hE
  split at hE <;> omega
theorem cutE_same {t : GT} {p q : GP} {s : ByteArray} {n : Int} (h : (checkPE p).2 = 0) (h' : (checkPE q).2 = 0) : cutE t p s n = cutE t q s n := by
 unfold cutE
 rw [h, h']
theorem may_iff {p : GP} : mayP p = true ↔ (checkPE p).2 = 0 := by unfold mayP; simp
end Go.Proofs.YtcbdfjeehimcfaaGreat
