/- What the proofs of the Trial statements need: part 30. -/
import Derived.Test.YtcbdfjeehimcfaaGreatQ5
import Derived.Test.YtcbdfjeehimcfaaGreatQ12
import Derived.Test.YtcbdfjeehimcfaaGreatQ27
set_option linter.unusedVariables false
set_option linter.unusedSimpArgs false
namespace Go.Proofs.YtcbdfjeehimcfaaGreat
open Go Go.RowKit
/-- a trial -/
structure GR where
 f : Int
 t : Int
 v : GV
/-- what is left of a string behind a place -/
def subS (s : ByteArray) (a : Nat) : ByteArray := s.extract a s.size
/-- what a term comes to by a string -/
def runT (s : ByteArray) (t : GT) : Res GV := sampT s 4098 t [] 0
/-- why a term is not sampled -/
def runE (t : GT) (s : ByteArray) : Int := if (checkTE t).2 ≠ 0 then (checkTE t).2 else if isBits s = true then 0 else 3
/-- why there are no trials -/
def cutE (t : GT) (p : GP) (s : ByteArray) (m : Int) : Int :=
 if runE t s ≠ 0 then runE t s else if (checkPE p).2 ≠ 0 then (checkPE p).2 else if m < 0 ∨ 1000 < m then 1 else 0
/-- the trials from a place on, so many at most, and how they end -/
def cutT (s : ByteArray) (t : GT) (p : GP) : Nat → Nat → List GR × Int
 | 0, _ => ([], 2)
 | n + 1, i => match runT (subS s i) t with
  | .no k => ([], if k = 2 then 3 else 4)
  | .ok v u => if holdsP p v = true then (⟨i, (i + u : Nat), v⟩ :: (cutT s t p n (i + u)).1, (cutT s t p n (i + u)).2) else ([⟨i, (i + u : Nat), v⟩], 1)
theorem subS_size (s : ByteArray) (a : Nat) (h : a ≤ s.size) : (subS s a).size = s.size - a := by
 simp [subS]
theorem subS_list (s : ByteArray) (a : Nat) : (subS s a).data.toList = s.data.toList.drop a := by
 unfold subS
 rw [ByteArray.data_extract, Array.toList_extract, List.extract_eq_take_drop, List.take_of_length_le]
 simp
theorem subS_zero (s : ByteArray) : subS s 0 = s := by
 simp [subS]
theorem subS_subS (s : ByteArray) (a b : Nat) : subS (subS s a) b = subS s (a + b) := by
 have h : (subS (subS s a) b).data.toList = (subS s (a + b)).data.toList := by
  rw [subS_list, subS_list, subS_list, List.drop_drop]
 have h2 := Array.ext' h
 exact ByteArray.ext h2
theorem isBits_sub {s : ByteArray} (h : isBits s = true) (a : Nat) (ha : a ≤ s.size) : isBits (subS s a) = true := by
 unfold isBits at h ⊢
 rw [Bool.and_eq_true] at h ⊢
 obtain ⟨h1, h2⟩ := h
 have h1 := of_decide_eq_true h1
 refine ⟨decide_eq_true (by rw [subS_size s a ha]; omega), ?_⟩
 unfold oddB at h2 ⊢
 rw [Bool.not_not] at h2 ⊢
 rw [subS_list]
 rw [List.all_eq_true] at h2 ⊢
 exact fun b hb => h2 b (List.mem_of_mem_drop hb)
theorem runE_sub {t : GT} {s : ByteArray} (h : runE t s = 0) (a : Nat) (ha : a ≤ s.size) : runE t (subS s a) = 0 := by
 unfold runE at h ⊢
 split at h
 ·omega
 ·rename_i h1
  rw [if_neg h1]
  split at h
  ·rename_i h2; rw [if_pos (isBits_sub h2 a ha)]
  ·omega
/-- what a term comes to lies within the string -/
theorem runT_in {t : GT} {s : ByteArray} (h : runE t s = 0) (ox : okT t) : (runT s t).In okV 0 s.size := by
 have h1 : (chkT 0 1 12 false t).2 = 0 := by
  unfold runE checkTE at h
  by_cases h0 : (chkT 0 1 12 false t).2 = 0
  ·exact h0
  ·rw [if_pos h0] at h; rw [if_pos h0] at h; omega
 exact sampT_in s (sizeT t) 4098 t [] 0 (good_of_chk 12 t 0 1 false h1) ox (Nat.le_refl _) trivial (by omega)
end Go.Proofs.YtcbdfjeehimcfaaGreat
namespace Go.Proofs.YtcbdfjeehimcfaaGreat
open Go Go.RowKit
theorem cut_cons {s : ByteArray} {t : GT} {p : GP} {n a : Nat} {x : GR} {r : List GR} {e : Int} (h : cutT s t p n a = (x :: r, e)) :
  0 < n ∧ ∃ (v : GV) (u : Nat), runT (subS s a) t = .ok v u ∧ x = ⟨a, (a + u : Nat), v⟩ ∧ ((holdsP p v = true ∧ cutT s t p (n - 1) (a + u) = (r, e)) ∨ (holdsP p v = false ∧ r = [] ∧ e = 1)) := by
 cases n with
 | zero => simp [cutT] at h
 | succ n =>
  refine ⟨by omega, ?_⟩
  rcases hr : runT (subS s a) t with ⟨v, u⟩ | ⟨k⟩
  ·refine ⟨v, u, rfl, ?_⟩
   simp only [cutT, hr] at h
   cases hh : holdsP p v
   ·rw [hh, if_neg (by simp)] at h
    simp only [Prod.mk.injEq, List.cons.injEq] at h
    exact ⟨h.1.1.symm, .inr ⟨rfl, h.1.2.symm, h.2.symm⟩⟩
   ·rw [hh, if_pos rfl] at h
    simp only [Prod.mk.injEq, List.cons.injEq] at h
    refine ⟨h.1.1.symm, .inl ⟨rfl, ?_⟩⟩
    rw [Nat.add_sub_cancel, ← h.1.2, ← h.2]
  ·simp [cutT, hr] at h
theorem cut_nil {s : ByteArray} {t : GT} {p : GP} {n a : Nat} {e : Int} (h : cutT s t p n a = ([], e)) :
  (n = 0 ∧ e = 2) ∨ (0 < n ∧ ∃ k, runT (subS s a) t = .no k ∧ e = if k = 2 then 3 else 4) := by
 cases n with
 | zero => simp [cutT] at h; exact .inl ⟨rfl, h.symm⟩
 | succ n =>
  refine .inr ⟨by omega, ?_⟩
  rcases hr : runT (subS s a) t with ⟨v, u⟩ | ⟨k⟩
  ·simp only [cutT, hr] at h
   split at h <;> simp at h
  ·refine ⟨k, rfl, ?_⟩
   simp only [cutT, hr, Prod.mk.injEq] at h
   exact h.2.symm
theorem cut_len (s : ByteArray) (t : GT) (p : GP) : ∀ (n a : Nat) (l : List GR) (e : Int), cutT s t p n a = (l, e) → l.length ≤ n ∧ (e = 1 → 0 < l.length) ∧ (e = 2 → l.length = n) ∧ (e = 3 ∨ e = 4 → l.length < n) ∧ (e = 1 ∨ e = 2 ∨ e = 3 ∨ e = 4)
 | n, a, [], e, h => by
  rcases cut_nil h with ⟨rfl, rfl⟩ | ⟨h0, k, _, rfl⟩
  ·simp
  ·refine ⟨by simp, ?_, ?_, fun _ => by simpa using h0, ?_⟩
   ·split <;> omega
   ·split <;> omega
   ·split <;> omega
 | n, a, x :: r, e, h => by
  obtain ⟨h0, v, u, _, _, hc | ⟨_, rfl, rfl⟩⟩ := cut_cons h
  ·obtain ⟨h1, h2, h3, h4, h5⟩ := cut_len s t p (n - 1) (a + u) r e hc.2
   refine ⟨by simp; omega, fun _ => by simp, fun he => by have := h3 he; simp; omega, fun he => by have := h4 he; simp; omega, h5⟩
  ·exact ⟨by simp; omega, fun _ => by simp, fun he => by omega, fun he => by omega, .inl rfl⟩
 termination_by n a l => l.length
theorem cut_nil_ne {s : ByteArray} {t : GT} {p : GP} {n a : Nat} {e : Int} (h : cutT s t p n a = ([], e)) : e ≠ 1 := by
 intro he
 have := (cut_len s t p n a [] e h).2.1 he
 simp at this
end Go.Proofs.YtcbdfjeehimcfaaGreat
namespace Go.Proofs.YtcbdfjeehimcfaaGreat
open Go Go.RowKit
/-- with more wanted the trials are those, and perhaps others behind; they are just those, if it does not end by Cap -/
theorem cut_more (s : ByteArray) (t : GT) (p : GP) (k : Nat) : ∀ (n a : Nat) (l : List GR) (e : Int), cutT s t p n a = (l, e) → (e ≠ 2 → cutT s t p (n + k) a = (l, e)) ∧ (∃ r e', cutT s t p (n + k) a = (l ++ r, e'))
 | n, a, [], e, h => by
  rcases cut_nil h with ⟨rfl, rfl⟩ | ⟨h0, q, hr, rfl⟩
  ·exact ⟨fun h2 => absurd rfl h2, _, _, rfl⟩
  ·obtain ⟨n, rfl⟩ : ∃ n', n = n' + 1 := ⟨n - 1, by omega⟩
   have h1 : cutT s t p (n + 1 + k) a = ([], if q = 2 then 3 else 4) := by
    rw [show n + 1 + k = (n + k) + 1 by omega]
    simp only [cutT, hr]
   exact ⟨fun _ => h1, [], _, by rw [h1]; rfl⟩
 | n, a, x :: r, e, h => by
  obtain ⟨h0, v, u, hr, hx, hc⟩ := cut_cons h
  obtain ⟨n, rfl⟩ : ∃ n', n = n' + 1 := ⟨n - 1, by omega⟩
  rw [Nat.add_sub_cancel] at hc
  rw [show n + 1 + k = (n + k) + 1 by omega]
  rcases hc with ⟨hh, hn⟩ | ⟨hh, rfl, rfl⟩
  ·obtain ⟨g1, r', e', g2⟩ := cut_more s t p k n (a + u) r e hn
   refine ⟨fun he => ?_, r', e', ?_⟩
   ·simp only [cutT, hr, hh, if_pos, g1 he, hx]
   ·simp only [cutT, hr, hh, if_pos, g2, hx, List.cons_append]
  ·refine ⟨fun _ => ?_, [], 1, ?_⟩
   ·simp [cutT, hr, hh, hx]
   ·simp [cutT, hr, hh, hx]
 termination_by n a l => l.length
end Go.Proofs.YtcbdfjeehimcfaaGreat
