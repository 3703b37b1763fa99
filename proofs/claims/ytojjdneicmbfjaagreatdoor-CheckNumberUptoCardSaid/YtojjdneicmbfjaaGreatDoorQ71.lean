/- What the proofs of the Trial statements need: part 42. -/
import Derived.Test.YtojjdneicmbfjaaGreatDoorQ0
import Derived.Test.YtojjdneicmbfjaaGreatDoorQ11
set_option linter.unusedVariables false
set_option linter.unusedSimpArgs false
namespace Go.Proofs.YtojjdneicmbfjaaGreatDoor
open Go Go.RowKit
def leL : List UInt8 → List UInt8 → Prop
 | c :: C, x :: X => (c = 48 ∧ x = 49) ∨ (c = x ∧ leL C X)
 | _, _ => True
def difL : List UInt8 → List UInt8 → Nat
 | x :: X, c :: C => if x = c then difL X C else X.length + 1
 | _, _ => 0
def cntL : List UInt8 → Nat
 | [] => 0
 | x :: X => (if x = 49 then 1 else 0) + cntL X
def lowL : List UInt8 → List UInt8 → Prop
 | x :: X, l :: L => (x = l ∨ (x = 48 ∧ l = 49)) ∧ lowL X L
 | [], [] => True
 | _, _ => False
theorem difL_le : ∀ (X C : List UInt8), difL X C ≤ X.length
 | [], _ => by simp [difL]
 | x :: X, [] => by simp [difL]
 | x :: X, c :: C => by
  have := difL_le X C
  simp only [difL, List.length_cons]
  split <;> omega
theorem cntL_le : ∀ (X : List UInt8), cntL X ≤ X.length
 | [] => by simp [cntL]
 | x :: X => by
  have := cntL_le X
  simp only [cntL, List.length_cons]
  split <;> omega
theorem lowL_cnt : ∀ {X L : List UInt8}, lowL X L → cntL X ≤ cntL L ∧ (cntL X = cntL L → X = L) ∧ X.length = L.length
 | [], [], _ => ⟨Nat.le_refl _, fun _ => rfl, rfl⟩
 | x :: X, l :: L, h => by
  obtain ⟨h1, h2⟩ := h
  obtain ⟨i1, i2, i3⟩ := lowL_cnt h2
  simp only [cntL, List.length_cons]
  rcases h1 with rfl | ⟨rfl, rfl⟩
  ·exact ⟨by omega, fun h => by rw [i2 (by omega)], by omega⟩
  ·simp only [show ¬ ((48 : UInt8) = 49) by decide, if_false, if_true]
   exact ⟨by omega, fun h => by omega, by omega⟩
theorem near_clr : ∀ {X L C : List UInt8}, lowL X L → BitsL C → leL C X → C.length = X.length → difL X C ≤ difL L C ∧ (difL X C = difL L C → cntL X = cntL L → X = L)
 | [], [], C, _, _, _, hl => by
  obtain rfl : C = [] := List.eq_nil_of_length_eq_zero hl
  exact ⟨Nat.le_refl _, fun _ _ => rfl⟩
 | x :: X, l :: L, c :: C, h, hb, hle, hl => by
  have hlow := lowL_cnt h
  obtain ⟨h1, h2⟩ := h
  have hc := hb c (by simp)
  refine ⟨?_, fun _ he => hlow.2.1 he⟩
  have hll := (lowL_cnt h2).2.2
  simp only [difL]
  rcases h1 with rfl | ⟨rfl, rfl⟩
  ·by_cases hx : x = c
   ·rw [if_pos hx, if_pos hx]
    refine (near_clr h2 (fun b hb' => hb b (by simp [hb'])) ?_ (by simpa using hl)).1
    rcases hle with ⟨rfl, rfl⟩ | ⟨_, h⟩
    ·exact absurd hx (by decide)
    ·exact h
   ·rw [if_neg hx, if_neg hx]; omega
  ·rcases hle with ⟨rfl, hx⟩ | ⟨rfl, h⟩
   ·exact absurd hx (by decide)
   ·rw [if_pos rfl, if_neg (by decide)]
    have := difL_le X C
    omega
theorem len_cons_eq {α : Type} {x y : α} {X Y : List α} (h : (x :: X).length = (y :: Y).length) : X.length = Y.length := by simpa using h
def dwnN (L : List UInt8) (a : Nat) : List UInt8 := L.take a ++ 48 :: List.replicate (L.length - a - 1) 49
def clrN (L : List UInt8) (a : Nat) : List UInt8 := L.take a ++ 48 :: L.drop (a + 1)
theorem dwnN_cons (l : UInt8) (L : List UInt8) (a : Nat) : dwnN (l :: L) (a + 1) = l :: dwnN L a := by
 unfold dwnN
 simp [Nat.add_sub_add_right]
theorem clrN_cons (l : UInt8) (L : List UInt8) (a : Nat) : clrN (l :: L) (a + 1) = l :: clrN L a := by
 unfold clrN
 simp
theorem dwnN_len {L : List UInt8} {a : Nat} (h : a < L.length) : (dwnN L a).length = L.length := by
 unfold dwnN
 simp
 omega
theorem near_dwn : ∀ {L C : List UInt8} (a : Nat), BitsL L → BitsL C → C.length = L.length → a < L.length → L.getD a 48 = 49 → leL C (dwnN L a) → ¬ leL C (clrN L a) → difL (dwnN L a) C < difL L C
 | l :: L, c :: C, 0, hbl, hbc, hlen, ha, h49, hle, hno => by
  have hl : l = 49 := by simpa using h49
  subst hl
  have e1 : dwnN (49 :: L) 0 = 48 :: List.replicate L.length 49 := by simp [dwnN]
  rw [e1] at hle ⊢
  rcases hle with ⟨_, h⟩ | ⟨rfl, h⟩
  ·exact absurd h (by decide)
  ·have h1 : difL (48 :: List.replicate L.length 49) (48 :: C) = difL (List.replicate L.length 49) C := by simp only [difL, if_true]
   have h2 : difL (49 :: L) (48 :: C) = L.length + 1 := by simp [difL]
   have := difL_le (List.replicate L.length 49) C
   rw [List.length_replicate] at this
   omega
 | l :: L, c :: C, a + 1, hbl, hbc, hlen, ha, h49, hle, hno => by
  rw [dwnN_cons] at hle ⊢
  rw [clrN_cons] at hno
  rcases hle with ⟨rfl, rfl⟩ | ⟨rfl, h⟩
  ·exact absurd (.inl ⟨rfl, rfl⟩) hno
  ·simp only [difL, if_true]
   exact near_dwn a (fun b hb => hbl b (by simp [hb])) (fun b hb => hbc b (by simp [hb])) (len_cons_eq hlen) (by simpa using ha) (by simpa using h49) h (fun hn => hno (.inr ⟨rfl, hn⟩))
theorem leL_ones : ∀ {C : List UInt8}, BitsL C → leL C (List.replicate C.length 49)
 | [], _ => trivial
 | c :: C, h => by
  rw [List.length_cons, List.replicate_succ]
  rcases h c (by simp) with rfl | rfl
  ·exact .inl ⟨rfl, rfl⟩
  ·exact .inr ⟨rfl, leL_ones (fun b hb => h b (by simp [hb]))⟩
theorem some_dwn : ∀ {L C : List UInt8}, BitsL L → BitsL C → C.length = L.length → leL C L → L ≠ C → ∃ a, a < L.length ∧ L.getD a 48 = 49 ∧ leL C (dwnN L a)
 | [], [], _, _, _, _, h => absurd rfl h
 | l :: L, c :: C, hbl, hbc, hlen, hle, hne => by
  have hbl' : BitsL L := fun b hb => hbl b (by simp [hb])
  have hbc' : BitsL C := fun b hb => hbc b (by simp [hb])
  rcases hle with ⟨rfl, rfl⟩ | ⟨rfl, h⟩
  ·by_cases hs : ∃ a, a < L.length ∧ L.getD a 48 = 49
   ·obtain ⟨a, h1, h2⟩ := hs
    exact ⟨a + 1, by simpa using h1, by simpa using h2, by rw [dwnN_cons]; exact .inl ⟨rfl, rfl⟩⟩
   ·refine ⟨0, by simp, rfl, ?_⟩
    have e1 : dwnN (49 :: L) 0 = 48 :: List.replicate L.length 49 := by simp [dwnN]
    rw [e1]
    refine .inr ⟨rfl, ?_⟩
    rw [← len_cons_eq hlen]
    exact leL_ones hbc'
  ·obtain ⟨a, h1, h2, h3⟩ := some_dwn hbl' hbc' (len_cons_eq hlen) h (fun e => hne (by rw [e]))
   exact ⟨a + 1, by simpa using h1, by simpa using h2, by rw [dwnN_cons]; exact .inr ⟨rfl, h3⟩⟩
def bitN (b : UInt8) : Nat := if b = 49 then 1 else 0
def numL : Nat → List UInt8 → Nat
 | p, [] => p
 | p, b :: l => numL (2 * p + bitN b) l
theorem numL_cons (p : Nat) (b : UInt8) (l : List UInt8) : numL p (b :: l) = numL (2 * p + bitN b) l := by simp only [numL]
theorem numL_snoc : ∀ (l : List UInt8) (p : Nat) (b : UInt8), numL p (l ++ [b]) = 2 * numL p l + bitN b
 | [], p, b => by simp only [numL, List.nil_append]
 | x :: l, p, b => by rw [List.cons_append, numL_cons, numL_cons, numL_snoc l]
theorem bit_le {b : UInt8} (_h : b = 48 ∨ b = 49) : bitN b ≤ 1 := by
 unfold bitN; split <;> omega
theorem bit0 : bitN 48 = 0 := rfl
theorem bit1 : bitN 49 = 1 := rfl
theorem bit_nat {b : UInt8} (h : b = 48 ∨ b = 49) : b.toNat - 48 = bitN b := by
 rcases h with h | h <;> rw [h] <;> rfl
theorem numL_bounds : ∀ {l : List UInt8} (p : Nat), BitsL l → p * 2 ^ l.length ≤ numL p l ∧ numL p l < (p + 1) * 2 ^ l.length
 | [], p, _ => by simp [numL]
 | b :: l, p, h => by
  obtain ⟨h1, h2⟩ := numL_bounds (l := l) (2 * p + bitN b) (fun x hx => h x (by simp [hx]))
  have hb : bitN b ≤ 1 := bit_le (h b (by simp))
  rw [numL_cons, List.length_cons, Nat.pow_succ, Nat.mul_comm (2 ^ l.length) 2, ← Nat.mul_assoc, ← Nat.mul_assoc]
  exact ⟨Nat.le_trans (Nat.mul_le_mul_right _ (by omega)) h1, Nat.lt_of_lt_of_le h2 (Nat.mul_le_mul_right _ (by omega))⟩
theorem numL_lt {C X : List UInt8} {p q : Nat} (hpq : p < q) (hc : BitsL C) (hx : BitsL X) (hl : C.length = X.length) : numL p C < numL q X := by
 have h1 := (numL_bounds p hc).2
 have h2 := (numL_bounds q hx).1
 rw [hl] at h1
 exact Nat.lt_of_lt_of_le h1 (Nat.le_trans (Nat.mul_le_mul_right _ hpq) h2)
theorem numL_le : ∀ {C X : List UInt8} (p : Nat), BitsL C → BitsL X → C.length = X.length → (numL p C ≤ numL p X ↔ leL C X)
 | [], [], p, _, _, _ => by simp [leL]
 | c :: C, x :: X, p, hc, hx, hl => by
  have hc' : BitsL C := fun b hb => hc b (by simp [hb])
  have hx' : BitsL X := fun b hb => hx b (by simp [hb])
  have hl' := len_cons_eq hl
  rw [numL_cons, numL_cons]
  have hcb := hc c (by simp)
  have hxb := hx x (by simp)
  by_cases he : c = x
  ·subst he
   rw [numL_le _ hc' hx' hl']
   refine ⟨fun h => .inr ⟨rfl, h⟩, fun h => ?_⟩
   rcases h with ⟨h1, h2⟩ | ⟨_, h⟩
   ·rw [h1] at h2; exact absurd h2 (by decide)
   ·exact h
  ·by_cases h0 : c = 48
   ·have h9 : x = 49 := by rcases hxb with h | h; exact absurd (h0.trans h.symm) he; exact h
    have := numL_lt (p := 2 * p + bitN c) (q := 2 * p + bitN x) (by rw [h0, h9, bit0, bit1]; omega) hc' hx' hl'
    exact ⟨fun _ => .inl ⟨h0, h9⟩, fun _ => Nat.le_of_lt this⟩
   ·have h1 : c = 49 := by rcases hcb with h | h; exact absurd h h0; exact h
    have h8 : x = 48 := by rcases hxb with h | h; exact h; exact absurd (h1.trans h.symm) he
    have := numL_lt (p := 2 * p + bitN x) (q := 2 * p + bitN c) (by rw [h1, h8, bit0, bit1]; omega) hx' hc' hl'.symm
    refine ⟨fun h => by omega, fun h => ?_⟩
    rcases h with ⟨h, _⟩ | ⟨h, _⟩
    ·exact absurd h h0
    ·exact absurd h he
theorem numL_inj : ∀ {C X : List UInt8} (p : Nat), BitsL C → BitsL X → C.length = X.length → numL p C = numL p X → C = X
 | [], [], p, _, _, _, _ => rfl
 | c :: C, x :: X, p, hc, hx, hl, h => by
  have h1 := (numL_le p hc hx hl).1 (by omega)
  have h2 := (numL_le p hx hc hl.symm).1 (by omega)
  have hcx : c = x := by
   rcases h1 with ⟨h3, h4⟩ | ⟨h, _⟩
   ·rcases h2 with ⟨h5, _⟩ | ⟨h, _⟩
    ·rw [h4] at h5; exact absurd h5 (by decide)
    ·exact h.symm
   ·exact h
  subst hcx
  rw [numL_cons, numL_cons] at h
  rw [numL_inj _ (fun b hb => hc b (by simp [hb])) (fun b hb => hx b (by simp [hb])) (len_cons_eq hl) h]
theorem takeV_num {s : ByteArray} (hb : isBits s = true) : ∀ j, j ≤ s.size → takeV s 0 j = numL 0 (s.data.toList.take j)
 | 0, _ => by simp [takeV, numL]
 | j + 1, h => by
  rw [takeV, takeV_num hb j (by omega), List.take_add_one, Nat.zero_add]
  rw [size_list] at h
  rw [List.getElem?_eq_getElem (by omega), Option.toList_some, numL_snoc, List.getD_eq_getElem?_getD, List.getElem?_eq_getElem (by omega)]
  rw [Option.getD_some, bit_nat ((isBits_iff.1 hb).2 _ (List.getElem_mem _))]
end Go.Proofs.YtojjdneicmbfjaaGreatDoor
