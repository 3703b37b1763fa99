/- What the proofs of the Trial statements need: part 44. -/
import Derived.Laws.Bits64b
import Derived.Test.YtojjdneicmbfjaaGreatDoorQ15
import Derived.Test.YtojjdneicmbfjaaGreatDoorQ19
import Derived.Test.YtojjdneicmbfjaaGreatDoorQ25
import Derived.Test.YtojjdneicmbfjaaGreatDoorQ36
import Derived.Test.YtojjdneicmbfjaaGreatDoorQ72
set_option linter.unusedVariables false
set_option linter.unusedSimpArgs false
namespace Go.Proofs.YtojjdneicmbfjaaGreatDoor
open Go Go.RowKit
theorem mk_byt {P : Program} {t e : TypeId} (ht : P.underlying t = some (.slice e)) (hi : (P.info? e).map (fun i => (i.zero, i.size, i.bytes)) = some (some (.int .u8 0), 1, 1)) (n : Nat) (hn : n ≤ 1048576) (w : World) :
  (Instr.makeSlice t (.int .i64 (n : Int)) (.int .i64 (n : Int))).run P w = .ok (.slice (some ⟨w.heap.size, 0, none⟩) n n) (w.alloc (.cells (List.replicate n (Value.int .u8 0)).toArray e)) := by
 obtain ⟨i, h1, h2, h3, h4⟩ := info_parts hi
 have h := run_make (P := P) w t e i _ ht h1 h2 .i64 .i64 n n (by omega) (Int.le_refl _) (by rw [h4]; omega) (by omega)
 rw [h, h3, Nat.mul_one, Int.toNat_natCast]
 congr 3
 apply Array.ext'
 exact toList_madeCells_one _ _
theorem infoByt : (Tryz.prog.info? 5).map (fun i => (i.zero, i.size, i.bytes)) = some (some (.int .u8 0), 1, 1) := by kernel_rfl
def bitC (m : Nat) : UInt8 := if m % 2 = 1 then 49 else 48
def ofL : Nat → Nat → List UInt8
 | 0, _ => []
 | k + 1, n => bitC (n / 2 ^ k) :: ofL k n
theorem ofL_len : ∀ (k n : Nat), (ofL k n).length = k
 | 0, _ => rfl
 | k + 1, n => by rw [ofL, List.length_cons, ofL_len k]
theorem bitC_or (m : Nat) : bitC m = 48 ∨ bitC m = 49 := by
 unfold bitC; split <;> simp
theorem bitC_num (m : Nat) : bitN (bitC m) = m % 2 := by
 unfold bitC
 split
 ·rename_i h; rw [h]; rfl
 ·rename_i h; rw [show m % 2 = 0 by omega]; rfl
theorem bitC_val (m : Nat) : ((48 + ((m % 2 : Nat) : Int)) % 256) = ((bitC m).toNat : Int) := by
 unfold bitC
 split
 ·rename_i h; rw [h]; rfl
 ·rename_i h; rw [show m % 2 = 0 by omega]; rfl
theorem ofL_bits : ∀ (k n : Nat), ∀ b ∈ ofL k n, b = 48 ∨ b = 49
 | 0, _, b, h => by simp [ofL] at h
 | k + 1, n, b, h => by
  rw [ofL] at h
  rcases List.mem_cons.1 h with h | h
  ·rw [h]; exact bitC_or _
  ·exact ofL_bits k n b h
theorem ofL_num : ∀ (k n p : Nat), numL p (ofL k n) = p * 2 ^ k + n % 2 ^ k
 | 0, n, p => by simp [ofL, numL, Nat.mod_one]
 | k + 1, n, p => by
  rw [ofL, numL_cons, ofL_num k n, bitC_num, Nat.pow_succ, Nat.mod_mul]
  have : (2 * p + n / 2 ^ k % 2) * 2 ^ k = p * (2 ^ k * 2) + 2 ^ k * (n / 2 ^ k % 2) := by
   rw [Nat.add_mul, Nat.mul_comm (n / 2 ^ k % 2), Nat.mul_comm 2 p, Nat.mul_assoc, Nat.mul_comm 2]
  omega
def ofB (b n : Nat) : ByteArray := ⟨(ofL b n).toArray⟩
abbrev byV (x : UInt8) : Value := .int .u8 (x.toNat : Int)
theorem and_one (q : Nat) (h : q ≤ 4096) : bits .and .u64 (q : Int) 1 = ((q % 2 : Nat) : Int) := by
 have := bits_and_u64_nat q 1 (by omega) (by omega)
 rw [Nat.and_one_is_mod] at this
 exact this
set_option maxRecDepth 100000 in
set_option maxHeartbeats 8000000 in
theorem bitsOf_any (n b : Nat) (hb : 1 ≤ b ∧ b ≤ 12) (hn : n < 2 ^ b) (w : World) :
  Calls Tryz.prog 25 #[.int .u64 n, .int .i64 b] w fun e w' => e = .returned (.tuple #[.string (ofB b n), .int .i64 0]) ∧ Below w.heap.size w w' := by
 have c1 : decide ((b : Int) < 0) = false := decide_eq_false (by omega)
 have c2 : decide ((64 : Int) < (b : Int)) = false := decide_eq_false (by omega)
 have c3 : decide ((b : Int) < 64) = true := decide_eq_true (by omega)
 have d2 : decide (64 < b) = false := decide_eq_false (by omega)
 have d3 : decide (b < 64) = true := decide_eq_true (by omega)
 have e1 : (0 : Int) ≤ (b : Int) := by omega
 have e2 : (0 : Int) ≤ (n : Int) := by omega
 have e3 : (b : Int) ≤ 12 := by omega
 have hn2 : n ≤ 4096 := by
  have : 2 ^ b ≤ 2 ^ 12 := Nat.pow_le_pow_right (by omega) hb.2
  omega
 have hlt : (n : Int) < 2 ^ b := by exact_mod_cast hn
 have c4 : ((n : Int) / 2 ^ b != 0) = false := by
  rw [Int.ediv_eq_zero_of_lt (by omega) hlt]; rfl
 have hmk := mk_byt (P := Tryz.prog) (t := 95) (e := 5) Tryz.underlying95 infoByt b (by omega)
 clear hlt hn
 go_enter Tryz.func25, Tryz.ntmps25
 go_wp2_with fail
 clear hmk
 go_loopg [0, 7] b (fun gk v0 v7 wr => ∃ (k q : Nat) (z : Int), gk + k = b ∧ v0 = .int .u64 q ∧ v7 = .int .i64 z ∧ z = (b : Int) - 1 - k ∧ q ≤ 4096 ∧ Hid (q = n / 2 ^ k) ∧ Below w.heap.size w wr ∧ w.heap.size < wr.heap.size ∧ Hid (wr.there w.heap.size 0 b) ∧ Hid (wr.rangeAt w.heap.size 0 (List.replicate (b - k) (.int .u8 0) ++ (ofL k n).map byV)))
 case atStart =>
  exact ⟨0, n, (b : Int) - 1, by omega, rfl, rfl, by omega, hn2, Lib.hid (by simp), Below.r, by simp, Lib.hid (thereM_new rfl (by simp)), Lib.hid (by
   have h := At_whole (W := w) (l := List.replicate b (Value.int .u8 0)) (T := 5) rfl
   simpa [ofL] using (show (w.alloc (.cells (List.replicate b (Value.int .u8 0)).toArray 5)).rangeAt w.heap.size 0 _ from At_cellM h))⟩
 case round =>
  obtain ⟨k, q, z, hk, rfl, rfl, hz, hq, HQ, hb2, hs2, HT, HG⟩ := hrel
  by_cases hlt : k < b
  ·obtain ⟨i, rfl⟩ : ∃ i : Nat, z = i := ⟨z.toNat, by omega⟩
   have hib : i < b := by omega
   have hib2 : (i : Int) < (b : Int) := by omega
   have hi0 : (0 : Int) ≤ (i : Int) := by omega
   have hi1 : (i : Int) ≤ 12 := by omega
   obtain ⟨h1, f0⟩ := HT.out i hib
   obtain ⟨u, c0⟩ := Option.isSome_iff_exists.1 h1
   rw [Nat.zero_add] at c0 f0
   have hq0 : (0 : Int) ≤ (q : Int) := by omega
   have hq1 : (q : Int) ≤ 4096 := by omega
   have HZ := Lib.hid (show b - k = i + 1 by omega)
   have HKK := Lib.hid hk
   clear h1 hz hk
   go_wp2_with fail
   go_roundg (gk - 1)
   case measure => have := HKK.out; omega
   case rel =>
    have hw : ((48 + bits BinOp.and IntKind.u64 (q : Int) 1) % 256) = ((bitC q).toNat : Int) := by rw [and_one q hq]; exact bitC_val q
    have hr := range_set (o := i) (vs := [byV (bitC q)]) HG.out (by simpa [ofL_len, HZ.out, show i + 1 + k = b by have := HZ.out; omega] using HT.out) (by simp [HZ.out])
    refine ⟨k + 1, q / 2, (i : Int) - 1, by have := HKK.out; omega, by simp, rfl, by have := HZ.out; omega, by omega, Lib.hid (by rw [HQ.out, Nat.pow_succ, Nat.div_div_eq_div_mul]), Below.setCell hb2 (Nat.le_refl _) _, by simpa using hs2, Lib.hid (World.there_setCells HT.out w.heap.size i [_]), Lib.hid ?_⟩
    rw [hw]
    have e : (List.replicate (b - k) (Value.int .u8 0) ++ (ofL k n).map byV).take i ++ ([byV (bitC q)] ++ (List.replicate (b - k) (Value.int .u8 0) ++ (ofL k n).map byV).drop (i + [byV (bitC q)].length)) = List.replicate (b - (k + 1)) (Value.int .u8 0) ++ (ofL (k + 1) n).map byV := by
     rw [HZ.out, show b - (k + 1) = i by have := HZ.out; omega, List.take_append_of_le_length (by simp), List.take_replicate, Nat.min_eq_left (by omega), ofL, ← HQ.out, List.map_cons]
     congr 1
     rw [List.drop_append_of_le_length (by simp), List.drop_replicate]
     simp
    rw [e] at hr
    exact hr
  ·obtain rfl : k = b := by omega
   obtain rfl : z = -1 := by omega
   have hcv : (convert 95 9 (.slice (some ⟨w.heap.size, 0, none⟩) k k)).run Tryz.prog wr = .ok (.string (ofB k n)) wr := by
    have h := run_convert_bytes_back (P := Tryz.prog) wr 95 9 5 ⟨w.heap.size, 0, none⟩ k (ofL k n) Tryz.underlying95 Tryz.underlying5 Tryz.underlying9 (fun j hj => by
     rw [Addr.add_mid]
     refine HG.out j _ ?_
     rw [Nat.sub_self]
     simp [List.getElem?_eq_getElem hj])
    rw [ofL_len] at h
    exact h
   clear hz
   go_wp2_with fail
   go_ret2
   exact ⟨rfl, hb2⟩
end Go.Proofs.YtojjdneicmbfjaaGreatDoor
