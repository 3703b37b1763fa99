/- What the proofs of the Trial statements need: part 45. -/
import Derived.Test.YtojjdneicmbfjaaGreatDoorQ15
import Derived.Test.YtojjdneicmbfjaaGreatDoorQ38
import Derived.Test.YtojjdneicmbfjaaGreatDoorQ72
import Derived.Test.YtojjdneicmbfjaaGreatDoorQ73
import Derived.Test.YtojjdneicmbfjaaGreatDoorQTk
set_option linter.unusedVariables false
set_option linter.unusedSimpArgs false
namespace Go.Proofs.YtojjdneicmbfjaaGreatDoor
open Go Go.RowKit
theorem same_num (c : Int) (hc : isI64 c) (my : VA) (w : World) : Calls Tryz.prog 26 #[.agg #[.int .u8 1, .int .i64 c, .slice my.a 0 my.c], VV ⟨1, c, []⟩ ⟨none, 0⟩] w fun e w' => e = .returned (.bool true) ∧ Below w.heap.size w w' :=
 same_self ⟨1, c, []⟩ w (fun _ => True) (fun _ => True) my ⟨none, 0⟩ (okV_leaf (by unfold isU8; omega) hc) (by simp [RV, RVs]) (by simp [RV, RVs])
set_option maxRecDepth 100000 in
set_option maxHeartbeats 32000000 in
theorem cnumber_w (k n f : Int) (hk : 0 ≤ k ∧ k ≤ 255) (hn : 0 ≤ n ∧ n ≤ 65535) (hf : 0 ≤ f ∧ f ≤ 65535) (b : Nat) (hb : 1 ≤ b ∧ b ≤ 12) (hkb : 1 + k % 12 = (b : Int)) (M c u : Nat) (hM : M + 1 = 2 ^ b) (hM2 : M ≤ 4095) (hM1 : 1 ≤ M) (hcN : 1 + n % (M : Int) = (c : Int)) (hc : 1 ≤ c ∧ c ≤ M) (hu : (c : Int) + f % ((M : Int) - c + 1) = (u : Int)) (hu2 : c ≤ u ∧ u ≤ M) (j : Int) (hj : decide (j < 1024) = true) (w : World) (hG : GW w)
  (hSH : ∀ W, GW W → Calls Tryz.prog 14 #[TV (spanT 0 M) nilTA, PV (lessP c) nilPA, .string (ofB b u)] W fun e w' => Below W.heap.size W w' ∧ ∃ my : VA, e = .returned (.tuple #[.string (ofB b c), .agg #[.int .u8 1, .int .i64 c, .slice my.a 0 my.c], .int .i64 j, .int .i64 0])) :
  Calls Tryz.prog 6 #[.int .u8 k, .int .u16 n, .int .u16 f] w fun e w' => e = .returned (.bool true) ∧ Below w.heap.size w w' := by
 obtain ⟨k1, k2⟩ := hk
 obtain ⟨n1, n2⟩ := hn
 obtain ⟨f1, f2⟩ := hf
 have hb0 : (0 : Int) ≤ (b : Int) := by omega
 have hb12 : (b : Int) ≤ 12 := by omega
 have m0 : (0 : Int) ≤ (M : Int) := by omega
 have m1 : (1 : Int) ≤ (M : Int) := by omega
 have m2 : (M : Int) ≤ 4095 := by omega
 have c0 : (1 : Int) ≤ (c : Int) := by omega
 have c1 : (c : Int) ≤ (M : Int) := by omega
 have hP2 : ((2 : Int) ^ b) = (M : Int) + 1 := by exact_mod_cast hM.symm
 have hP : IntKind.u64.wrap ((2 : Int) ^ b) = (M : Int) + 1 := by rw [hP2]; exact IntWalk.u64_in _ (by omega)
 have hP3 : IntKind.u64.wrap ((M : Int) + 1 - 1) = (M : Int) := by rw [show (M : Int) + 1 - 1 = (M : Int) by omega]; exact IntWalk.u64_in _ (by omega)
 have hP4 : IntKind.u64.wrap (M : Int) = (M : Int) := IntWalk.u64_in _ (by omega)
 have HOU := Lib.hid (fun W => bitsOf_any u b hb (by omega) W)
 have HOC := Lib.hid (fun W => bitsOf_any c b hb (by omega) W)
 have HSH := Lib.hid hSH
 have HG := Lib.hid hG
 have OKV := Lib.hid (show isI64 (c : Int) from by unfold isI64; omega)
 have u0 : (0 : Int) ≤ (u : Int) := by omega
 have u2 : IntKind.i64.wrap (c : Int) = (c : Int) := IntWalk.i64_in _ (by omega)
 have u3 : IntKind.i64.wrap (M : Int) = (M : Int) := IntWalk.i64_in _ (by omega)
 have u1 : IntKind.u64.wrap (u : Int) = (u : Int) := IntWalk.u64_in _ (by omega)
 clear hP2 hM hc hu2 hM2 hM1 hb hSH hG
 go_enter Tryz.func6, Tryz.ntmps6
 go_wp2_with (first
  | (go_at_call 12; (with_reducible refine (cawake_any _ HG.out).mono ?_); rintro e wa ⟨rfl, hba⟩; have hza := hba.size; (try simp at hza))
  | (go_at_call 25; (with_reducible refine (HOU.out _).mono ?_); rintro e w1 ⟨rfl, hb1⟩; have hz1 := hb1.size; (try simp at hz1))
  | (go_at_call 25; (with_reducible refine (HOC.out _).mono ?_); rintro e w2 ⟨rfl, hb2⟩; have hz2 := hb2.size; (try simp at hz2))
  | (go_at_call 20; (with_reducible refine (cspan_any _ _ _).mono ?_); rintro e w3 ⟨rfl, hb3⟩; have hz3 := hb3.size; (try simp at hz3))
  | (go_at_call 24; (with_reducible refine (cless_any _ _).mono ?_); rintro e w4 ⟨rfl, hb4⟩; have hz4 := hb4.size; (try simp at hz4))
  | (go_at_call 14; (refine (HSH.out _ (HG.out.below Below.r)).mono ?_); rintro e w5 ⟨hb5, my, rfl⟩; have hz5 := hb5.size; (try simp at hz5)))
 refine wp_named (fun W => Below w.heap.size w W ∧ w5.heap.size < W.heap.size ∧ Hid (At W w5.heap.size 0 [.int .u8 1, .int .i64 c, .slice my.a 0 my.c])) ⟨Below.r, by simp, Lib.hid (At3z.2 ⟨by go_simp, by go_simp, by go_simp⟩)⟩ ?_
 intro W9 ⟨hb9, hz9, HZ⟩
 obtain ⟨z0, z1, z2⟩ := At3z.1 HZ.out
 have hzB := hb9.size
 clear hba hb1 hb2 hb3 hb4 hb5 hkb hcN hu hP hP3 hP4 u1 HOU HOC
 as_aux_lemma =>
  (try dsimp only [List.append])
  refine wp_region_noPanic ?_
  refine wp_region_held_drew (S := (fun W => ∀ c k, c < W9.heap.size → W.cell? ⟨c, k, none⟩ = W9.cell? ⟨c, k, none⟩)) (by kernel_rfl) ?_ (fun hHeld => ?_)
  ·((try dsimp only); (refine keepA ?_; (exact Below.r)))
  refine tz 0 ?_
  try simp only [Act.put, sl, s0, ss]
  refine tz 1 ?_
  try simp only [Act.put, sl, s0, ss]
  refine tz 2 ?_
  try simp only [Act.put, sl, s0, ss]
  refine tz 3 ?_
  try simp only [Act.put, sl, s0, ss]
  refine tz 4 ?_
  try simp only [Act.put, sl, s0, ss]
  refine tz 5 ?_
  try simp only [Act.put, sl, s0, ss]
  refine tz 6 ?_
  try simp only [Act.put, sl, s0, ss]
  as_aux_lemma =>
   refine tz 7 ?_
   try simp only [Act.put, sl, s0, ss]
   refine tz 8 ?_
   try simp only [Act.put, sl, s0, ss]
   refine tz 9 ?_
   try simp only [Act.put, sl, s0, ss]
   refine tz 10 ?_
   try simp only [Act.put, sl, s0, ss]
   refine tz 11 ?_
   try simp only [Act.put, sl, s0, ss]
   refine tz 12 ?_
   try simp only [Act.put, sl, s0, ss]
   refine tz 13 ?_
   try simp only [Act.put, sl, s0, ss]
   refine tz 14 ?_
   try simp only [Act.put, sl, s0, ss]
   as_aux_lemma =>
    refine tz 15 ?_
    try simp only [Act.put, sl, s0, ss]
    refine tz 16 ?_
    try simp only [Act.put, sl, s0, ss]
    refine tz 17 ?_
    try simp only [Act.put, sl, s0, ss]
    refine tz 18 ?_
    try simp only [Act.put, sl, s0, ss]
    refine wrh1 19 fun K hK => ?_
    go_simp
    go_wp2_with (go_at_call 27; (with_reducible refine (num_any _ _).mono ?_); rintro e w6 ⟨rfl, hb6⟩; have hz6 := hb6.size; (try simp at hz6))
    refine hK.out _ _ ?_ (fun hHeld => ?_)
    ·((try dsimp only); (refine keepA ?_; (exact Below.r)))
    clear hK K
    refine wrh1 20 fun K hK => ?_
    go_simp
    go_wp2_with (go_at_call 26; (with_reducible refine (same_num _ OKV.out my _).mono ?_); rintro e w7 ⟨rfl, hb7⟩; have hz7 := hb7.size; (try simp at hz7))
    refine hK.out _ _ ?_ (fun hHeld => ?_)
    ·((try dsimp only); (refine keepA ?_; (exact Below.r)))
    clear hK K
    refine tz 21 ?_
    try simp only [Act.put, sl, s0, ss]
    refine tz 22 ?_
    try simp only [Act.put, sl, s0, ss]
    as_aux_lemma =>
     refine tz 23 ?_
     try simp only [Act.put, sl, s0, ss]
     refine tz 24 ?_
     try simp only [Act.put, sl, s0, ss]
     refine tz 25 ?_
     try simp only [Act.put, sl, s0, ss]
     refine tz 26 ?_
     try simp only [Act.put, sl, s0, ss]
     refine wpAnyH_done (by kernel_rfl) ?_ _
     as_aux_lemma =>
      (refine NoPanic.normal ?_; go_wp2_with fail; go_ret; exact ⟨rfl, Below.r⟩)
theorem ofB_bits (b n : Nat) (hb : b ≤ 12) : isBits (ofB b n) = true ∧ (ofB b n).size = b := by
 have hs : (ofB b n).size = b := by
  rw [size_list]
  exact ofL_len b n
 exact ⟨isBits_iff.2 ⟨by omega, fun x hx => ofL_bits b n x hx⟩, hs⟩
theorem ofB_take (b n : Nat) (hb : b ≤ 12) (hn : n < 2 ^ b) : takeV (ofB b n) 0 b = n := by
 obtain ⟨h1, h2⟩ := ofB_bits b n hb
 have hl : (ofB b n).data.toList = ofL b n := rfl
 rw [takeV_num h1 b (by omega), hl, List.take_of_length_le (by rw [ofL_len]; omega), ofL_num, Nat.zero_mul, Nat.zero_add, Nat.mod_eq_of_lt hn]
set_option maxRecDepth 1000000 in
theorem less_all : ((List.range 4096).all fun c => (checkPE (lessP (c : Int))).2 == 0) = true := by kernel_rfl
theorem less_sound (c : Nat) (h : c ≤ 4095) : (checkPE (lessP (c : Int))).2 = 0 := by
 have := List.all_eq_true.1 less_all c (List.mem_range.2 (by omega))
 simpa using this
set_option maxRecDepth 100000 in
theorem cnumber_any (w : World) (k : Int) (hk : 0 ≤ k ∧ k ≤ 255) (n : Int) (hn : 0 ≤ n ∧ n ≤ 65535) (f : Int) (hf : 0 ≤ f ∧ f ≤ 65535) (hG : GW w) :
  Calls Tryz.prog 6 #[.int .u8 k, .int .u16 n, .int .u16 f] w fun e w' => e = .returned (.bool true) ∧ Below w.heap.size w w' := by
 obtain ⟨b, hkb⟩ : ∃ b : Nat, 1 + k % 12 = (b : Int) := ⟨(1 + k % 12).toNat, by omega⟩
 have hb : 1 ≤ b ∧ b ≤ 12 := by omega
 have hp1 : 2 ^ 1 ≤ 2 ^ b := Nat.pow_le_pow_right (by omega) hb.1
 have hp2 : 2 ^ b ≤ 2 ^ 12 := Nat.pow_le_pow_right (by omega) hb.2
 obtain ⟨M, hM⟩ : ∃ M : Nat, M = 2 ^ b - 1 := ⟨_, rfl⟩
 have hM0 : M + 1 = 2 ^ b := by omega
 have hM1 : 1 ≤ M := by omega
 have hM2 : M ≤ 4095 := by omega
 have hr1 : 0 ≤ n % (M : Int) := Int.emod_nonneg _ (by omega)
 have hr2 : n % (M : Int) < (M : Int) := Int.emod_lt_of_pos _ (by omega)
 obtain ⟨c, hc⟩ : ∃ c : Nat, 1 + n % (M : Int) = (c : Int) := ⟨(1 + n % (M : Int)).toNat, by omega⟩
 have hc1 : 1 ≤ c ∧ c ≤ M := by omega
 have hr3 : 0 ≤ f % ((M : Int) - c + 1) := Int.emod_nonneg _ (by omega)
 have hr4 : f % ((M : Int) - c + 1) < (M : Int) - c + 1 := Int.emod_lt_of_pos _ (by omega)
 obtain ⟨u, hu⟩ : ∃ u : Nat, (c : Int) + f % ((M : Int) - c + 1) = (u : Int) := ⟨((c : Int) + f % ((M : Int) - c + 1)).toNat, by omega⟩
 have hu1 : c ≤ u ∧ u ≤ M := by omega
 have hT := up_ok b hb.1 hb.2
 obtain ⟨bC, sC⟩ := ofB_bits b c hb.2
 obtain ⟨bU, sU⟩ := ofB_bits b u hb.2
 have tC := ofB_take b c hb.2 (by omega)
 have tU := ofB_take b u hb.2 (by omega)
 have hle : leL (ofB b c).data.toList (ofB b u).data.toList := by
  refine (numL_le 0 (isBits_iff.1 bC).2 (isBits_iff.1 bU).2 (by rw [← size_list, ← size_list, sC, sU])).1 ?_
  have e1 : (ofB b c).data.toList = ofL b c := rfl
  have e2 : (ofB b u).data.toList = ofL b u := rfl
  rw [e1, e2, ofL_num, ofL_num, Nat.mod_eq_of_lt (by omega), Nat.mod_eq_of_lt (by omega)]
  omega
 have hfar := far_le hb (ofB b u) (ofB b c) sU
 have hF := (fail_at hb hT bC sC bU sU).1 hle
 obtain ⟨j, hj, hS⟩ := shr_up hb hT bC sC 1024 (ofB b u) 0 bU sU hle (by omega)
 rw [tC] at hF hS
 rw [tU] at hF hS
 have hT2 : upT b = spanT 0 (M : Int) := by rw [hM]; rfl
 have hE : shrE (spanT 0 (M : Int)) (lessP (c : Int)) (ofB b u) = 0 := by
  rw [← hT2]
  have hr : runE (upT b) (ofB b u) = 0 := by
   unfold runE
   rw [if_neg (by omega), if_pos bU]
  have hp := less_sound c (by omega)
  unfold shrE
  rw [if_neg (by omega), if_neg (by omega), hF]
  simp
 rw [hT2] at hF hS
 refine cnumber_w k n f hk hn hf b hb hkb M c u hM0 hM2 hM1 hc hc1 hu hu1 (j : Int) (decide_eq_true (by omega)) w hG (fun W hW => ?_)
 have := shrink_ok (spanT 0 (M : Int)) (lessP (c : Int)) (ofB b u) W (fun _ => True) (fun _ => True) nilTA nilPA (span_ok 0 M (by unfold isI64; omega) (by unfold isI64; omega)) (size_span 0 M) (spanR 0 M) (lessP_ok c (by unfold isI64; omega)) (size_less c) (lessR c) hE _ hF hW
 rw [hS] at this
 exact this.mono fun e w' ⟨h1, my, h2, _⟩ => ⟨h1, my, h2⟩
end Go.Proofs.YtojjdneicmbfjaaGreatDoor
