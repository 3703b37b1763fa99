/- What the proofs of the Trial statements need: part 7. -/
import Derived.IntWalk
import Derived.Laws.Bits64b
import Derived.Test.YtojjdneicmbfjaaGreatQ5
set_option linter.unusedVariables false
set_option linter.unusedSimpArgs false
namespace Go.Proofs.YtojjdneicmbfjaaGreat
open Go Go.RowKit
/-- the number that so many bits from i on make -/
def takeV (s : ByteArray) (i : Nat) : Nat → Nat
 | 0 => 0
 | j + 1 => 2 * takeV s i j + ((s.data.toList.getD (i + j) 48).toNat - 48)
theorem takeV_lt (s : ByteArray) (i : Nat) (hb : isBits s = true) : ∀ j, takeV s i j < 2 ^ j
 | 0 => by simp [takeV]
 | j + 1 => by
  have h := takeV_lt s i hb j
  have hd : (s.data.toList.getD (i + j) 48).toNat - 48 ≤ 1 := by
   simp only [isBits, Bool.and_eq_true, Bool.not_eq_true', oddB, Bool.not_eq_false', List.all_eq_true, Bool.or_eq_true, beq_iff_eq] at hb
   rcases Nat.lt_or_ge (i + j) s.data.toList.length with hl | hl
   ·simp only [List.getD_eq_getElem?_getD, List.getElem?_eq_getElem hl, Option.getD_some]
    have := hb.2 _ (List.getElem_mem hl)
    omega
   ·simp only [List.getD_eq_getElem?_getD, List.getElem?_eq_none hl, Option.getD_none]; decide
  rw [takeV, Nat.pow_succ]
  omega
theorem isBits_at (s : ByteArray) (hb : isBits s = true) (i : Nat) (h : i < s.size) : s[i].toNat = 48 ∨ s[i].toNat = 49 := by
 simp only [isBits, Bool.and_eq_true, Bool.not_eq_true', oddB, Bool.not_eq_false', List.all_eq_true, Bool.or_eq_true, beq_iff_eq] at hb
 rw [byte_at s i h]
 exact hb.2 _ (List.getElem_mem _)
theorem take_step (s : ByteArray) (hb : isBits s = true) (i j : Nat) (hj : j < 64) (h : i + j < s.size) :
  bits BinOp.or IntKind.u64 (IntKind.u64.wrap ((takeV s i j : Int) * 2)) (IntKind.u64.wrap (((s[i + j].toNat : Int) - 48) % 256)) = (takeV s i (j + 1) : Int) := by
 have h1 := takeV_lt s i hb j
 have h2 : 2 ^ j ≤ 2 ^ 63 := Nat.pow_le_pow_right (by omega) (by omega)
 have h3 := isBits_at s hb (i + j) h
 have h4 : (s.data.toList.getD (i + j) 48) = s[i + j] := by
  rw [byte_at s (i + j) h]
  simp only [List.getD_eq_getElem?_getD, List.getElem?_eq_getElem (show i + j < s.data.toList.length by simpa using h), Option.getD_some]
 rw [takeV, h4]
 have h5 : IntKind.u64.wrap ((takeV s i j : Int) * 2) = ((2 * takeV s i j : Nat) : Int) := by rw [IntKind.wrap_u64]; omega
 have h6 : IntKind.u64.wrap (((s[i + j].toNat : Int) - 48) % 256) = ((s[i + j].toNat - 48 : Nat) : Int) := by rw [IntKind.wrap_u64]; omega
 rw [h5, h6, bits_or_u64_nat _ _ (by omega) (by omega)]
 have h7 := Nat.two_pow_add_eq_or_of_lt (i := 1) (b := s[i + j].toNat - 48) (by omega) (takeV s i j)
 simp only [Nat.pow_one] at h7
 rw [h7]
/-- how Take ends: the number and true, so much farther on; or false, and short -/
def TakeR (c : Nat) (s : ByteArray) (i k : Nat) (o : Bool) (w : World) : Ending → World → Prop := fun e w' => But c w.heap.size w w' ∧
 if o = false ∧ i + k ≤ s.size then e = .returned (.tuple #[.int .u64 (takeV s i k), .bool true]) ∧ Cur w' c s (i + k) false
 else e = .returned (.tuple #[.int .u64 0, .bool false]) ∧ Cur w' c s i true
set_option maxRecDepth 100000 in
set_option maxHeartbeats 1000000 in
theorem curTake_any (c : Nat) (s : ByteArray) (i : Nat) (o : Bool) (k : Nat) (w : World) (hb : isBits s = true) (hk : k ≤ 64) (hi : i ≤ s.size) (hl : Cur w c s i o) :
  Calls Tryz.prog 157 #[.pointer (some ⟨c, 0, none⟩), .int .i64 k] w (TakeR c s i k o w) := by
 have HL := Lib.hid hl
 have HB := Lib.hid hb
 have hs : s.size ≤ 1024 := by simp [isBits] at hb; exact hb.1
 clear hb
 obtain ⟨⟨c0, c1, c2⟩, f0, f1, f2⟩ := hl
 have hcs : c < w.heap.size := World.block_lt_of_cell? _ _ c0
 unfold TakeR
 cases o
 case true =>
  simp only [show ¬ (true = false ∧ i + k ≤ s.size) by simp, if_false]
  go_enter Tryz.func157, Tryz.ntmps157
  go_wp2_with fail
  go_ret2
  exact ⟨But.z, rfl, HL.out⟩
 by_cases hik : i + k ≤ s.size
 case neg =>
  simp only [show ¬ (false = false ∧ i + k ≤ s.size) by simp; omega, if_false]
  go_enter Tryz.func157, Tryz.ntmps157
  go_wp2_with (go_at_call 166; refine (curLeft_any c s i false _ hi (by omega) (by exact HL.out)).mono ?_; rintro e w1 ⟨rfl, hb1⟩; obtain ⟨hc1, hf1⟩ := bcells hb1)
  go_ret2
  exact ⟨But.z, rfl, ⟨by go_simp, by go_simp, by go_simp⟩, by go_simp, by go_simp, by go_simp⟩
 simp only [show (false = false ∧ i + k ≤ s.size) from ⟨rfl, hik⟩, if_true, and_self]
 have hnl : ¬ s.size - i < k := by omega
 go_enter Tryz.func157, Tryz.ntmps157
 go_wp2_with (go_at_call 166; refine (curLeft_any c s i false _ hi (by omega) (by exact HL.out)).mono ?_; rintro e w1 ⟨rfl, hb1⟩; obtain ⟨hc1, hf1⟩ := bcells hb1)
 go_loopg [4, 27] k (fun gk v i' wr => ∃ j : Nat, gk + j = k ∧ i' = .int .i64 j ∧ v = .int .u64 (takeV s i j) ∧ Below w.heap.size w wr)
 case atStart => exact ⟨0, by omega, rfl, rfl, Below.z⟩
 case round =>
  obtain ⟨j, hj, rfl, rfl, hb⟩ := hrel
  obtain ⟨hc2, hf2⟩ := bcells hb
  by_cases hlt : j < k
  ·have hij : i + j < s.size := by omega
   have hw1 : IntKind.i64.wrap ((i : Int) + (j : Int)) = (i : Int) + (j : Int) := IntWalk.i64_in _ (by omega)
   have hw2 : (0 : Int) ≤ (i : Int) + (j : Int) := by omega
   have hw3 : (i : Int) + (j : Int) < (s.size : Int) := by omega
   have hw4 : ((i : Int) + (j : Int)).toNat = i + j := by omega
   go_wp2_with fail
   refine wp_tail 15 (by kernel_rfl) (by kernel_rfl) ?_
   simp only [List.take_succ_cons, List.take_zero, List.drop_succ_cons, List.drop_zero]
   repeat still_step
   refine wpStill_nil ?_
   go_wp2_with fail
   go_roundg (gk - 1)
   case measure => omega
   case rel => exact ⟨j + 1, by omega, by go_num, by rw [take_step s HB.out i j (by omega) hij], Below.z⟩
  ·have hjk : j = k := by omega
   subst hjk
   go_wp2_with fail
   go_ret2
   exact ⟨But.z, rfl, ⟨by go_simp, by go_simp, by go_simp⟩, by go_simp, by go_simp, by go_simp⟩
end Go.Proofs.YtojjdneicmbfjaaGreat
