/- What the proofs of the Trial statements need: part 43. -/
import Derived.ProofKit
import Derived.Test.YtojjdneicmbfjaaGreatDoorQ11
import Derived.Test.YtojjdneicmbfjaaGreatDoorQ71
set_option linter.unusedVariables false
set_option linter.unusedSimpArgs false
namespace Go.Proofs.YtojjdneicmbfjaaGreatDoor
open Go Go.RowKit
section
theorem widthN_two (b : Nat) (hb : 1 ≤ b) : widthN (2 ^ b) = b := by
 unfold widthN lenN
 have h0 : 0 < 2 ^ b := Nat.two_pow_pos b
 have h1 : 2 ≤ 2 ^ b := by
  calc 2 = 2 ^ 1 := rfl
   _ ≤ 2 ^ b := Nat.pow_le_pow_right (by omega) hb
 rw [if_neg (by omega), if_neg (by omega)]
 have h2 : Nat.log2 (2 ^ b - 1) < b := (Nat.log2_lt (by omega)).2 (by omega)
 have h3 : ¬ Nat.log2 (2 ^ b - 1) < b - 1 := fun h => by
  have h4 := (Nat.log2_lt (by omega)).1 h
  have h5 : 2 ^ b = 2 ^ (b - 1) * 2 := by rw [← Nat.pow_succ]; congr 1; omega
  omega
 omega
def upT (b : Nat) : GT := spanT 0 (((2 ^ b - 1 : Nat)) : Int)
theorem runT_up {u : ByteArray} {b : Nat} (hb : 1 ≤ b) (hu : isBits u = true) : runT u (upT b) = if u.size < b then .no 2 else .ok ⟨1, ((takeV u 0 b : Nat) : Int), []⟩ b := by
 have h0 : 0 < 2 ^ b := Nat.two_pow_pos b
 have hm : ((((2 ^ b - 1 : Nat)) : Int) - 0 + 1).toNat = 2 ^ b := by omega
 unfold runT
 rw [sampT_2 _ _ _ _ _ rfl]
 show (numD u 0 (((2 ^ b - 1 : Nat)) : Int) 0).map _ = _
 unfold numD drawD drawP
 rw [hm, widthN_two b hb, show u.size + 1 - 0 = u.size + 1 by omega, firstN, Nat.zero_add]
 by_cases h : u.size < b
 ·rw [if_pos h, if_pos h]; rfl
 ·rw [if_neg h, if_neg h, if_pos (takeV_lt u 0 hu b)]
  simp [needR, Res.map]
theorem holds_less (c : Int) (n : Int) : holdsP (lessP c) ⟨1, n, []⟩ = decide (n < c) := by
 simp only [lessP, holdsP]
 simp [cmpV, cmpI]
 by_cases h : n < c
 ·simp [h]
 ·simp only [h, if_false]
  by_cases h2 : n = c <;> simp [h2]
theorem preS_all (u : ByteArray) : preS u u.size = u := by
 refine ByteArray.ext (Array.ext' ?_)
 rw [preS_list, size_list, List.take_length]
section
variable {b c : Nat} (hb : 1 ≤ b ∧ b ≤ 12) (hT : (checkTE (upT b)).2 = 0)
include hb hT
theorem fail_up {u : ByteArray} (hu : isBits u = true) : failT (upT b) (lessP c) u = if u.size < b ∨ takeV u 0 b < c then none else some (preS u b, ⟨1, ((takeV u 0 b : Nat) : Int), []⟩) := by
 unfold failT
 rw [if_neg (by simp [runE_of hT hu]), runT_up hb.1 hu]
 by_cases h : u.size < b
 ·rw [if_pos h, if_pos (.inl h)]
 ·rw [if_neg h]
  simp only []
  rw [holds_less]
  by_cases h2 : takeV u 0 b < c
  ·rw [if_pos (by simp; omega), if_pos (.inr h2)]
  ·rw [if_neg (by simp; omega), if_neg (by omega)]
end
theorem lowL_of : ∀ {X L : List UInt8}, X.length = L.length → (∀ i, X.getD i 48 = L.getD i 48 ∨ (X.getD i 48 = 48 ∧ L.getD i 48 = 49)) → lowL X L
 | [], [], _, _ => trivial
 | x :: X, l :: L, h, hi => ⟨by simpa using hi 0, lowL_of (by simpa using h) (fun i => by simpa using hi (i + 1))⟩
theorem clr_low {u : ByteArray} (hu : isBits u = true) {a n : Nat} (h : a + n ≤ u.size) : lowL (clrS u a n).data.toList u.data.toList := by
 have hb := (isBits_iff.1 hu).2
 have hz : u.data.toList.length = u.size := (size_list u).symm
 refine lowL_of ?_ fun i => ?_
 ·rw [clrS_list]; simp only [List.length_append, List.length_take, List.length_drop, List.length_replicate, hz]; omega
 ·rw [clrS_list]
  rcases Nat.lt_or_ge i a with h1 | h1
  ·refine .inl ?_
   rw [List.getD_eq_getElem?_getD, List.getElem?_append_left (by rw [List.length_take, hz]; omega), List.getElem?_take, if_pos h1, ← List.getD_eq_getElem?_getD]
  ·rcases Nat.lt_or_ge i (a + n) with h2 | h2
   ·have e : (u.data.toList.take a ++ (List.replicate n 48 ++ u.data.toList.drop (a + n))).getD i 48 = 48 := by
     rw [List.getD_eq_getElem?_getD, List.getElem?_append_right (by rw [List.length_take, hz]; omega), List.length_take, hz, List.getElem?_append_left (by rw [List.length_replicate]; omega), List.getElem?_replicate]
     rw [if_pos (by omega)]
     rfl
    rw [e]
    rw [List.getD_eq_getElem?_getD, List.getElem?_eq_getElem (by rw [hz]; omega), Option.getD_some]
    rcases hb _ (List.getElem_mem (l := u.data.toList) (n := i) (by rw [hz]; omega)) with e | e
    ·exact .inl e.symm
    ·exact .inr ⟨rfl, e⟩
   ·refine .inl ?_
    rw [List.getD_eq_getElem?_getD, List.getElem?_append_right (by rw [List.length_take, hz]; omega), List.length_take, hz, List.getElem?_append_right (by rw [List.length_replicate]; omega), List.length_replicate, List.getElem?_drop, ← List.getD_eq_getElem?_getD]
    congr 1
    omega
theorem leL_key : ∀ {C X : List UInt8} (p q : Nat), p ≤ q → BitsL C → BitsL X → C.length = X.length → leL C X → keyL p C ≤ keyL q X
 | [], [], p, q, hp, _, _, _, _ => hp
 | c :: C, x :: X, p, q, hp, hc, hx, hl, h => by
  rw [keyL, keyL]
  rcases h with ⟨rfl, rfl⟩ | ⟨rfl, h⟩
  ·have e1 : (48 : UInt8).toNat = 48 := rfl
   have e2 : (49 : UInt8).toNat = 49 := rfl
   exact Nat.le_of_lt (keyL_lt (by omega) (len_cons_eq hl))
  ·exact leL_key _ _ (by omega) (fun b hb => hc b (by simp [hb])) (fun b hb => hx b (by simp [hb])) (len_cons_eq hl) h
theorem scanT_rest {t : GT} {p : GP} {l r : List ByteArray} (h : ∀ x ∈ l, failT t p x = none) : scanT t p (l ++ r) = scanT t p r := by
 rw [scanT_app, scanT_none.2 h]
def farN (u C : ByteArray) : Nat := difL u.data.toList C.data.toList * 13 + cntL u.data.toList
section
variable {b : Nat} {C : ByteArray} (hb : 1 ≤ b ∧ b ≤ 12) (hT : (checkTE (upT b)).2 = 0) (hC : isBits C = true) (hCs : C.size = b)
include hb hT hC hCs
theorem fail_at {x : ByteArray} (hx : isBits x = true) (hs : x.size = b) : (leL C.data.toList x.data.toList → failT (upT b) (lessP ((takeV C 0 b : Nat) : Int)) x = some (x, ⟨1, ((takeV x 0 b : Nat) : Int), []⟩)) ∧ (¬ leL C.data.toList x.data.toList → failT (upT b) (lessP ((takeV C 0 b : Nat) : Int)) x = none) := by
 have h1 := fail_up (c := takeV C 0 b) hb hT hx
 have h2 := takeV_num hx b (by omega)
 have h3 := takeV_num hC b (by omega)
 rw [List.take_of_length_le (by rw [← size_list]; omega)] at h2 h3
 have h4 := numL_le 0 (isBits_iff.1 hC).2 (isBits_iff.1 hx).2 (by rw [← size_list, ← size_list]; omega)
 rw [← h2, ← h3] at h4
 rw [h1]
 refine ⟨fun h => ?_, fun h => ?_⟩
 ·rw [if_neg (by have := h4.2 h; omega)]
  have : preS x b = x := by
   refine ByteArray.ext (Array.ext' ?_)
   rw [preS_list, List.take_of_length_le (by rw [← size_list]; omega)]
  rw [this]
 ·rw [if_pos (.inr (by have := mt h4.1 h; omega))]
theorem scan_up {u : ByteArray} (hu : isBits u = true) (hs : u.size = b) (hle : leL C.data.toList u.data.toList) :
  (u = C → scanT (upT b) (lessP ((takeV C 0 b : Nat) : Int)) (candL u) = none) ∧
  (u ≠ C → ∃ x, isBits x = true ∧ x.size = b ∧ leL C.data.toList x.data.toList ∧ farN x C < farN u C ∧ scanT (upT b) (lessP ((takeV C 0 b : Nat) : Int)) (candL u) = some (x, ⟨1, ((takeV x 0 b : Nat) : Int), []⟩)) := by
 have hbu := (isBits_iff.1 hu).2
 have hbC := (isBits_iff.1 hC).2
 have hzu : u.data.toList.length = b := by rw [← size_list]; exact hs
 have hzC : C.data.toList.length = b := by rw [← size_list]; exact hCs
 have hcut : ∀ x ∈ waysL cutS u, failT (upT b) (lessP ((takeV C 0 b : Nat) : Int)) x = none := fun x hx => by
  obtain ⟨n, a, h1, h2, rfl, h3⟩ := waysL_mem hx
  rw [fail_up hb hT (cutS_bits hu h2)]
  refine if_pos (.inl ?_)
  rw [size_list, cutS_list, List.length_append, List.length_take, List.length_drop, hzu]
  omega
 have hrest := scanT_rest (r := waysL clrS u ++ dwnL u) hcut
 refine ⟨fun he => ?_, fun hne => ?_⟩
 ·refine scanT_none.2 fun x hx => ?_
  obtain ⟨k1, k2, k3⟩ := cand_less hu hx
  rw [fail_up hb hT k2]
  by_cases hsx : x.size < b
  ·exact if_pos (.inl hsx)
  ·have hsx' : x.size = b := by omega
   have := fail_at hb hT hC hCs k2 hsx'
   have hno : ¬ leL C.data.toList x.data.toList := fun h => by
    have := leL_key 1 1 (Nat.le_refl _) hbC (isBits_iff.1 k2).2 (by rw [hzC, ← size_list]; omega) h
    have h2 : keyS C ≤ keyS x := this
    rw [he] at k1
    omega
   have h5 := this.2 hno
   rw [fail_up hb hT k2] at h5
   exact h5
 ·have hcx : candL u = waysL cutS u ++ (waysL clrS u ++ dwnL u) := rfl
  rw [hcx, hrest, scanT_app]
  cases hsc : scanT (upT b) (lessP ((takeV C 0 b : Nat) : Int)) (waysL clrS u) with
  | some r =>
   obtain ⟨x, hx, hf⟩ := scanT_some hsc
   obtain ⟨n, a, h1, h2, rfl, h3⟩ := waysL_mem hx
   have k2 := clrS_bits hu h2
   have hsx : (clrS u a n).size = b := by
    rw [size_list, clrS_list, List.length_append, List.length_append, List.length_take, List.length_drop, List.length_replicate, hzu]; omega
   have hfa := fail_at hb hT hC hCs k2 hsx
   have hl : leL C.data.toList (clrS u a n).data.toList := by
    by_cases h : leL C.data.toList (clrS u a n).data.toList
    ·exact h
    ·rw [hfa.2 h] at hf; cases hf
   rw [hfa.1 hl] at hf
   cases hf
   refine ⟨_, k2, hsx, hl, ?_, rfl⟩
   obtain ⟨n1, n2⟩ := near_clr (clr_low hu h2) hbC hl (by rw [hzC, ← size_list]; omega)
   have hcn := (lowL_cnt (clr_low hu h2)).1
   have hne2 : (clrS u a n).data.toList ≠ u.data.toList := fun e => h3 (ByteArray.ext (Array.ext' e))
   unfold farN
   rcases Nat.lt_or_eq_of_le n1 with h | h
   ·have h5 := cntL_le (clrS u a n).data.toList
    rw [← size_list, hsx] at h5
    omega
   ·have h6 : cntL (clrS u a n).data.toList ≠ cntL u.data.toList := fun e => hne2 (n2 h e)
    omega
  | none =>
   simp only []
   have hno := scanT_none.1 hsc
   have hnear : ∀ a, a < u.size → u.data.toList.getD a 48 = 49 → ¬ leL C.data.toList (clrN u.data.toList a) := fun a ha h49 hle => by
    have hls : (clrS u a 1).data.toList = clrN u.data.toList a := by rw [clrS_list]; rfl
    have hneu : clrS u a 1 ≠ u := fun e => by
     rw [e] at hls
     have : (clrN u.data.toList a).getD a 48 = 49 := by rw [← hls]; exact h49
     unfold clrN at this
     rw [List.getD_eq_getElem?_getD, List.getElem?_append_right (by rw [List.length_take]; omega), List.length_take, hzu, show a - min a b = 0 by omega] at this
     simp at this
    have hm : clrS u a 1 ∈ waysL clrS u := by
     unfold waysL
     refine List.mem_append_right _ (List.mem_append_right _ (List.mem_append_right _ ?_))
     exact wayL_mem.2 ⟨⟨a, by omega, rfl⟩, hneu⟩
    have k2 := clrS_bits hu (a := a) (n := 1) (by omega)
    have hsx : (clrS u a 1).size = b := by
     rw [size_list, clrS_list, List.length_append, List.length_append, List.length_take, List.length_drop, List.length_replicate, hzu]; omega
    have := (fail_at hb hT hC hCs k2 hsx).1 (by rw [hls]; exact hle)
    rw [hno _ hm] at this
    cases this
   have hdl : ∀ a, (dwnS u a).data.toList = dwnN u.data.toList a := fun a => by rw [dwnS_list, size_list]; rfl
   obtain ⟨a0, a1, a2, a3⟩ := some_dwn hbu hbC (by rw [hzC, hzu]) hle (fun e => hne (ByteArray.ext (Array.ext' e)))
   have hsz : ∀ a, a < u.size → (dwnS u a).size = b := fun a ha => by
    rw [size_list, hdl, dwnN_len (by rw [hzu]; omega), hzu]
   cases hsd : scanT (upT b) (lessP ((takeV C 0 b : Nat) : Int)) (dwnL u) with
   | none =>
    have := scanT_none.1 hsd (dwnS u a0) (dwnL_mem.2 ⟨a0, by rw [hs]; omega, a2, rfl⟩)
    rw [(fail_at hb hT hC hCs (dwnS_bits hu (by rw [hs]; omega)) (hsz a0 (by rw [hs]; omega))).1 (by rw [hdl]; exact a3)] at this
    cases this
   | some r =>
    obtain ⟨x, hx, hf⟩ := scanT_some hsd
    obtain ⟨a, h1, h2, rfl⟩ := dwnL_mem.1 hx
    have k2 := dwnS_bits hu h1
    have hfa := fail_at hb hT hC hCs k2 (hsz a h1)
    have hl : leL C.data.toList (dwnS u a).data.toList := by
     by_cases h : leL C.data.toList (dwnS u a).data.toList
     ·exact h
     ·rw [hfa.2 h] at hf; cases hf
    rw [hfa.1 hl] at hf
    cases hf
    refine ⟨_, k2, hsz a h1, hl, ?_, rfl⟩
    have hn := near_dwn (C := C.data.toList) a hbu hbC (by rw [hzC, hzu]) (by rw [hzu]; omega) h2 (by rw [← hdl]; exact hl) (hnear a h1 h2)
    unfold farN
    rw [← hdl] at hn
    have h5 := cntL_le (dwnS u a).data.toList
    rw [← size_list, hsz a h1] at h5
    omega
theorem shr_up : ∀ (n : Nat) (u : ByteArray) (k : Nat), isBits u = true → u.size = b → leL C.data.toList u.data.toList → farN u C < n →
  ∃ j, j ≤ k + farN u C ∧ shrT (upT b) (lessP ((takeV C 0 b : Nat) : Int)) n u ⟨1, ((takeV u 0 b : Nat) : Int), []⟩ k = (C, ⟨1, ((takeV C 0 b : Nat) : Int), []⟩, j)
 | 0, u, k, _, _, _, h => absurd h (Nat.not_lt_zero _)
 | n + 1, u, k, hu, hs, hle, h => by
  obtain ⟨s1, s2⟩ := scan_up hb hT hC hCs hu hs hle
  rw [shrT]
  by_cases he : u = C
  ·rw [s1 he]
   exact ⟨k, by omega, by rw [he]⟩
  ·obtain ⟨x, x1, x2, x3, x4, x5⟩ := s2 he
   rw [x5]
   simp only []
   obtain ⟨j, j1, j2⟩ := shr_up n x (k + 1) x1 x2 x3 (by omega)
   exact ⟨j, by omega, j2⟩
end
theorem far_le {b : Nat} (hb : 1 ≤ b ∧ b ≤ 12) (u C : ByteArray) (hs : u.size = b) : farN u C ≤ 168 := by
 have h1 := difL_le u.data.toList C.data.toList
 have h2 := cntL_le u.data.toList
 rw [← size_list, hs] at h1 h2
 unfold farN
 omega
end
set_option maxRecDepth 1000000 in
theorem up_ok : ∀ b : Nat, 1 ≤ b → b ≤ 12 → (checkTE (upT b)).2 = 0
 | 1, _, _ => by decide +kernel
 | 2, _, _ => by decide +kernel
 | 3, _, _ => by decide +kernel
 | 4, _, _ => by decide +kernel
 | 5, _, _ => by decide +kernel
 | 6, _, _ => by decide +kernel
 | 7, _, _ => by decide +kernel
 | 8, _, _ => by decide +kernel
 | 9, _, _ => by decide +kernel
 | 10, _, _ => by decide +kernel
 | 11, _, _ => by decide +kernel
 | 12, _, _ => by decide +kernel
 | 0, h, _ => absurd h (by omega)
 | b + 13, _, h => absurd h (by omega)
end Go.Proofs.YtojjdneicmbfjaaGreatDoor
