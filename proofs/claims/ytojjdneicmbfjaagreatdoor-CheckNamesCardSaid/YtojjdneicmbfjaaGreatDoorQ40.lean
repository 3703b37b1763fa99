/- What the proofs of the Trial statements need: part 41. -/
import Derived.Test.YtojjdneicmbfjaaGreatDoorQ38
import Derived.Test.YtojjdneicmbfjaaGreatDoorQTk
set_option linter.unusedVariables false
set_option linter.unusedSimpArgs false
namespace Go.Proofs.YtojjdneicmbfjaaGreatDoor
open Go Go.RowKit
abbrev nvL (k : Int) : List Value := [.int .u8 k, .int .u8 0, .int .i64 0, .slice none 0 0, .int .i64 0, .slice none 0 0]
def zT : GT := ⟨0, noV, [], 0, 0, [], noP, []⟩
abbrev zTL : List Value := [.int .u8 0, .int .u8 0, .int .i64 0, .slice none 0 0, .slice none 0 0, .int .i64 0, .int .i64 0, .slice none 0 0, .int .u8 0, .int .u8 0, .int .i64 0, .slice none 0 0, .int .i64 0, .slice none 0 0, .slice none 0 0]
theorem zT_ok : okT zT := by
 refine okT_iff.2 ⟨by unfold isU8 zT; simp, okV_iff.2 ⟨by unfold isU8 zT noV; simp, by unfold isI64 zT noV; simp, by simp [zT, noV], by simp [zT, noV, okVs]⟩, ⟨by simp [zT], by simp [zT, okVs]⟩, by unfold isI64 zT; simp, by unfold isI64 zT; simp, ⟨by simp [zT], by simp [zT, okIs]⟩, okP_iff.2 ⟨by unfold isU8 zT noP; simp, okV_iff.2 ⟨by unfold isU8 zT noP noV; simp, by unfold isI64 zT noP noV; simp, by simp [zT, noP, noV], by simp [zT, noP, noV, okVs]⟩, by unfold isI64 zT noP; simp, by simp [zT, noP], by simp [zT, noP, okPs]⟩, by simp [zT], by simp [zT, okTs]⟩
theorem zTR {w : World} {A : Nat → Prop} : RT w A zT nilTA := RT_nil rfl rfl rfl rfl rfl rfl
theorem size_zT : sizeT zT ≤ 1099511627776 := by simp [zT, sizeT, sizeV, sizeVs, sizeP, sizePs, sizeTs, noV, noP]
theorem shk4 (w : World) (hG : GW w) : Calls Tryz.prog 21 #[.agg (spanL 0 5).toArray, .agg (nvL 2).toArray, .string ⟨#[49, 49, 49, 49, 49, 48, 49, 48, 49]⟩, .string ⟨#[48, 48, 48]⟩, .int .i64 3] w fun e w' => e = .returned (.bool true) ∧ Below w.heap.size w w' :=
 shrinks_any sx4 w (fun _ => True) (fun _ => True) nilTA nilPA (span_ok 0 5 (by unfold isI64; omega) (by unfold isI64; omega)) (size_span 0 5) (spanR 0 5) (nv_ok 2 (by unfold isU8; omega)) (size_nv 2) (nvR 2) hG
theorem shk5 (w : World) (hG : GW w) : Calls Tryz.prog 21 #[TV (numT 1) nilTA, .agg (nvL 2).toArray, .string ⟨#[]⟩, .string ⟨#[]⟩, .int .i64 0] w fun e w' => e = .returned (.bool true) ∧ Below w.heap.size w w' :=
 shrinks_any sx5 w (fun _ => True) (fun _ => True) nilTA nilPA (num_ok 1 (by unfold isI64; omega)) (size_num 1) (numR 1) (nv_ok 2 (by unfold isU8; omega)) (size_nv 2) (nvR 2) hG
theorem shk6 (w : World) (hG : GW w) : Calls Tryz.prog 21 #[TV (spanT 0 255) nilTA, .agg (nvL 2).toArray, .string ⟨#[49, 48, 49, 49, 48, 49, 48, 49]⟩, .string ⟨#[48, 48, 48, 48, 48, 48, 48, 48]⟩, .int .i64 1] w fun e w' => e = .returned (.bool true) ∧ Below w.heap.size w w' :=
 shrinks_any sx6 w (fun _ => True) (fun _ => True) nilTA nilPA (span_ok 0 255 (by unfold isI64; omega) (by unfold isI64; omega)) (size_span 0 255) (spanR 0 255) (nv_ok 2 (by unfold isU8; omega)) (size_nv 2) (nvR 2) hG
theorem ref_n {u : ByteArray} {p k : Int} (h : shrE (spanT 0 5) (nvP p) u = k) (hk : k ≠ 0) (hp : isU8 p) (hu : u.size ≤ 9223372036854775807) (w : World) : Calls Tryz.prog 23 #[.agg (spanL 0 5).toArray, .agg (nvL p).toArray, .string u, .int .i64 k] w fun e w' => e = .returned (.bool true) ∧ Below w.heap.size w w' :=
 refused_any h hk w (fun _ => True) (fun _ => True) nilTA nilPA (span_ok 0 5 (by unfold isI64; omega) (by unfold isI64; omega)) (size_span 0 5) (spanR 0 5) (nv_ok p hp) (size_nv p) (nvR p) hu
theorem ref1 (w : World) : Calls Tryz.prog 23 #[.agg (spanL 0 5).toArray, .agg (nvL 2).toArray, .string ⟨#[49]⟩, .int .i64 1] w fun e w' => e = .returned (.bool true) ∧ Below w.heap.size w w' := ref_n se1 (by decide) (by unfold isU8; omega) (by decide) w
theorem ref2 (w : World) : Calls Tryz.prog 23 #[.agg (spanL 0 5).toArray, .agg (nvL 2).toArray, .string ⟨#[49, 48, 49, 48]⟩, .int .i64 1] w fun e w' => e = .returned (.bool true) ∧ Below w.heap.size w w' := ref_n se2 (by decide) (by unfold isU8; omega) (by decide) w
theorem ref3 (w : World) : Calls Tryz.prog 23 #[.agg (spanL 0 5).toArray, .agg (nvL 1).toArray, .string ⟨#[49, 48, 49]⟩, .int .i64 1] w fun e w' => e = .returned (.bool true) ∧ Below w.heap.size w w' := ref_n se3 (by decide) (by unfold isU8; omega) (by decide) w
theorem ref4 (w : World) : Calls Tryz.prog 23 #[.agg (spanL 0 5).toArray, .agg (nvL 0).toArray, .string ⟨#[49, 48, 49]⟩, .int .i64 11] w fun e w' => e = .returned (.bool true) ∧ Below w.heap.size w w' := ref_n se4 (by decide) (by unfold isU8; omega) (by decide) w
theorem ref5 (w : World) : Calls Tryz.prog 23 #[.agg (spanL 0 5).toArray, .agg (nvL 0).toArray, .string ⟨#[50]⟩, .int .i64 3] w fun e w' => e = .returned (.bool true) ∧ Below w.heap.size w w' := ref_n se5 (by decide) (by unfold isU8; omega) (by decide) w
theorem ref6 (w : World) : Calls Tryz.prog 23 #[.agg zTL.toArray, .agg (nvL 2).toArray, .string ⟨#[50]⟩, .int .i64 11] w fun e w' => e = .returned (.bool true) ∧ Below w.heap.size w w' :=
 refused_any (t := zT) se6 (by decide) w (fun _ => True) (fun _ => True) nilTA nilPA zT_ok size_zT zTR (nv_ok 2 (by unfold isU8; omega)) (size_nv 2) (nvR 2) (by decide)
theorem rs3 (my : VA) (w : World) : Calls Tryz.prog 19 #[.agg #[.int .u8 3, .int .i64 3, .int .i64 0, .string ⟨#[]⟩, .int .u8 0, .int .i64 0, .slice my.a 0 my.c], .agg #[.int .u8 3, .int .i64 3, .int .i64 0, .string ⟨#[]⟩, .int .u8 0, .int .i64 0, .slice none 0 0]] w fun e w' => e = .returned (.bool true) ∧ Below w.heap.size w w' :=
 rsame_x 3 3 0 ⟨#[]⟩ 0 0 (by unfold isU8; omega) (by unfold isI64; omega) w my ⟨none, 0⟩
theorem rs4 (my : VA) (w : World) : Calls Tryz.prog 19 #[.agg #[.int .u8 1, .int .i64 3, .int .i64 0, .string ⟨#[48, 49, 48]⟩, .int .u8 1, .int .i64 2, .slice my.a 0 my.c], .agg #[.int .u8 1, .int .i64 3, .int .i64 0, .string ⟨#[48, 49, 48]⟩, .int .u8 1, .int .i64 2, .slice none 0 0]] w fun e w' => e = .returned (.bool true) ∧ Below w.heap.size w w' :=
 rsame_x 1 3 0 ⟨#[48, 49, 48]⟩ 1 2 (by unfold isU8; omega) (by unfold isI64; omega) w my ⟨none, 0⟩
set_option maxRecDepth 100000 in
set_option maxHeartbeats 200000000 in
theorem cnames_any (w : World) (hG : GW w) : Calls Tryz.prog 5 #[] w fun e w' => e = .returned (.bool true) ∧ Below w.heap.size w w' := by
 have HG := Lib.hid hG
 clear hG
 go_enter Tryz.func5, Tryz.ntmps5
 go_upto_region 5 with (first
  | (go_at_call 12; (with_reducible refine (cawake_any _ (HG.out.below Below.r)).mono ?_); rintro e wa ⟨rfl, hba⟩; have hza := hba.size; (try simp at hza))
  | (go_at_call 20; (with_reducible refine (cspan_any _ _ _).mono ?_); rintro e ws ⟨rfl, hbs⟩; have hzs := hbs.size; (try simp at hzs))
  | (refine wpList_store_newM rfl 31 _ _ rfl _ _ (by rfl) (by rfl) (by kernel_rfl) (by rfl) (by simp [Value.oneCell', spanT, nilTA, noV, noP]) ?_; try simp only [Act.put, sl, s0, ss]))
 refine wp_named (fun W => Below w.heap.size w W ∧ wa.heap.size < ws.heap.size ∧ ws.heap.size < W.heap.size ∧ Hid (At W wa.heap.size 0 (nvL 2)) ∧ Hid (At W ws.heap.size 0 (spanL 0 5))) ⟨Below.r, by omega, by simp, Lib.hid (At_old (At_below (At_whole (l := nvL 2) rfl) hbs) (by omega)), Lib.hid (At_whole (l := spanL 0 5) rfl)⟩ ?_
 clear hba hbs hza hzs
 intro wb ⟨hbb, hq1, hq0, HP, HD⟩
 go_cut [36] from 21 to 35 (fun v wx => v = .bool false ∧ Below wb.heap.size wb wx)
 case first =>
  obtain ⟨n0, n1, n2, n3, n4, n5, n6, n7, n8, n9, na, nb, nc, nd, ne⟩ := At15z.1 HD.out
  obtain ⟨p0, p1, p2, p3, p4, p5⟩ := At6z.1 HP.out
  have hq2 : wa.heap.size < wb.heap.size := by omega
  have hz0 := hbb.size
  as_aux_lemma =>
   (try dsimp only [List.append])
   refine wp_region_noPanic ?_
   refine wp_region_held_drew (S := (fun W => ∀ c k, c < wb.heap.size → W.cell? ⟨c, k, none⟩ = wb.cell? ⟨c, k, none⟩)) (by kernel_rfl) ?_ (fun hHeld => ?_)
   ·((try dsimp only); (refine keepA ?_; (exact Below.r)))
   refine tz 0 ?_
   try simp only [Act.put, sl, s0, ss]
   refine tz 1 ?_
   try simp only [Act.put, sl, s0, ss]
   refine wrh1 2 fun K hK => ?_
   go_simp
   go_wp2_with (go_at_call 21; (with_reducible refine (shk4 _ (HG.out.below Below.r)).mono ?_); rintro e w6 ⟨rfl, hb6⟩; have hz6 := hb6.size; (try simp at hz6))
   refine hK.out _ _ ?_ (fun hHeld => ?_)
   ·((try dsimp only); (refine keepA ?_; (exact Below.r)))
   clear hK K
   refine tz 3 ?_
   try simp only [Act.put, sl, s0, ss]
   refine tz 4 ?_
   try simp only [Act.put, sl, s0, ss]
   refine tz 6 ?_
   try simp only [Act.put, sl, s0, ss]
   refine wrh1 5 fun K hK => ?_
   go_simp
   go_wp2_with (go_at_call 22; (with_reducible refine (cnum_any _ _).mono ?_); rintro e w5 ⟨rfl, hb5⟩; have hz5 := hb5.size; (try simp at hz5))
   refine hK.out _ _ ?_ (fun hHeld => ?_)
   ·((try dsimp only); (refine keepA ?_; (exact Below.r)))
   clear hK K
   as_aux_lemma =>
    refine wrh1 7 fun K hK => ?_
    go_simp
    go_wp2_with (go_at_call 21; (with_reducible refine (shk5 _ (HG.out.below Below.r)).mono ?_); rintro e w6 ⟨rfl, hb6⟩; have hz6 := hb6.size; (try simp at hz6))
    refine hK.out _ _ ?_ (fun hHeld => ?_)
    ·((try dsimp only); (refine keepA ?_; (exact Below.r)))
    clear hK K
    refine tz 8 ?_
    try simp only [Act.put, sl, s0, ss]
    refine tz 9 ?_
    try simp only [Act.put, sl, s0, ss]
    refine tz 10 ?_
    try simp only [Act.put, sl, s0, ss]
    refine tz 12 ?_
    try simp only [Act.put, sl, s0, ss]
    refine wrh1 11 fun K hK => ?_
    go_simp
    go_wp2_with (go_at_call 20; (with_reducible refine (cspan_any _ _ _).mono ?_); rintro e w5 ⟨rfl, hb5⟩; have hz5 := hb5.size; (try simp at hz5))
    refine hK.out _ _ ?_ (fun hHeld => ?_)
    ·((try dsimp only); (refine keepA ?_; (exact Below.r)))
    clear hK K
    refine wrh1 13 fun K hK => ?_
    go_simp
    go_wp2_with (go_at_call 21; (with_reducible refine (shk6 _ (HG.out.below Below.r)).mono ?_); rintro e w6 ⟨rfl, hb6⟩; have hz6 := hb6.size; (try simp at hz6))
    refine hK.out _ _ ?_ (fun hHeld => ?_)
    ·((try dsimp only); (refine keepA ?_; (exact Below.r)))
    clear hK K
    refine tz 14 ?_
    try simp only [Act.put, sl, s0, ss]
    as_aux_lemma =>
     refine tz 15 ?_
     try simp only [Act.put, sl, s0, ss]
     refine wpAnyH_done (by kernel_rfl) ?_ _
     as_aux_lemma =>
      (go_wp2_with fail; (first | go_meet | (refine Met.intro ?_; go_step; go_meet)); exact ⟨rfl, Below.r⟩)
 case rest =>
  obtain ⟨rfl, hbc⟩ := hcut
  have hzc := hbc.size
  have HD := Lib.hid (At_below HD.out hbc)
  have HP := Lib.hid (At_below HP.out hbc)
  obtain ⟨n0, n1, n2, n3, n4, n5, n6, n7, n8, n9, na, nb, nc, nd, ne⟩ := At15z.1 HD.out
  obtain ⟨p0, p1, p2, p3, p4, p5⟩ := At6z.1 HP.out
  have hbd : Below w.heap.size w wc := Below.trans hbb (Below.mono hbc (by have := hbb.size; omega))
  have hq2 : wa.heap.size < wc.heap.size := by omega
  have hq3 : ws.heap.size < wc.heap.size := by omega
  have hz0 := hbb.size
  clear hbc hbb
  as_aux_lemma =>
   go_upto_region 9 with (first | (go_at_call 23; (with_reducible refine (ref1 _).mono ?_); rintro e w6 ⟨rfl, hb6⟩; have hz6 := hb6.size; (try simp at hz6); obtain ⟨hc6, hf6⟩ := bcells hb6; have v0 : ws.heap.size < w6.heap.size := (by omega); have v1 : wa.heap.size < w6.heap.size := (by omega)) | (go_at_call 23; (with_reducible refine (ref2 _).mono ?_); rintro e w6 ⟨rfl, hb6⟩; have hz6 := hb6.size; (try simp at hz6); obtain ⟨hc6, hf6⟩ := bcells hb6; have v0 : ws.heap.size < w6.heap.size := (by omega); have v1 : wa.heap.size < w6.heap.size := (by omega)) | (go_at_call 23; (with_reducible refine (ref3 _).mono ?_); rintro e w6 ⟨rfl, hb6⟩; have hz6 := hb6.size; (try simp at hz6); obtain ⟨hc6, hf6⟩ := bcells hb6; have v0 : ws.heap.size < w6.heap.size := (by omega); have v1 : wa.heap.size < w6.heap.size := (by omega)) | (go_at_call 23; (with_reducible refine (ref4 _).mono ?_); rintro e w6 ⟨rfl, hb6⟩; have hz6 := hb6.size; (try simp at hz6); obtain ⟨hc6, hf6⟩ := bcells hb6; have v0 : ws.heap.size < w6.heap.size := (by omega); have v1 : wa.heap.size < w6.heap.size := (by omega)) | (go_at_call 23; (with_reducible refine (ref5 _).mono ?_); rintro e w6 ⟨rfl, hb6⟩; have hz6 := hb6.size; (try simp at hz6); obtain ⟨hc6, hf6⟩ := bcells hb6; have v0 : ws.heap.size < w6.heap.size := (by omega); have v1 : wa.heap.size < w6.heap.size := (by omega)) | (go_at_call 23; (with_reducible refine (ref6 _).mono ?_); rintro e w6 ⟨rfl, hb6⟩; have hz6 := hb6.size; (try simp at hz6); obtain ⟨hc6, hf6⟩ := bcells hb6; have v0 : ws.heap.size < w6.heap.size := (by omega); have v1 : wa.heap.size < w6.heap.size := (by omega)))
   refine wp_named (fun W => Below w.heap.size w W ∧ wa.heap.size < W.heap.size ∧ ws.heap.size < W.heap.size ∧ Hid (At W ws.heap.size 0 (spanL 0 5))) ⟨Below.r, by omega, by omega, Lib.hid (At.ext (A := fun _ => True) (Agree.below (show Below wc.heap.size wc _ from Below.r)) trivial _ _ HD.out)⟩ ?_
   clear hbd hz0 HP n0 n1 n2 n3 n4 n5 n6 n7 n8 n9 na nb nc nd ne p0 p1 p2 p3 p4 p5
   clear HD
   intro w9 ⟨hbb, hq1, hq0, HD⟩
   go_cut [3, 4] from 71 to 76 (fun p q wx => ∃ (D : Nat) (my : VA), p = .pointer (some ⟨D, 0, none⟩) ∧ q = .int .i64 0 ∧ w9.heap.size ≤ D ∧ D < wx.heap.size ∧ Below w9.heap.size w9 wx ∧ Hid (At wx D 0 [.int .u8 3, .int .i64 3, .int .i64 0, .string ⟨#[]⟩, .int .u8 0, .int .i64 0, .slice my.a 0 my.c]))
   case first =>
    obtain ⟨n0, n1, n2, n3, n4, n5, n6, n7, n8, n9, na, nb, nc, nd, ne⟩ := At15z.1 HD.out
    have hzB := hbb.size
    as_aux_lemma =>
     (try dsimp only [List.append])
     refine wp_region_noPanic ?_
     refine wp_region_held_drew (S := (fun W => ∀ k, W.cell? ⟨ws.heap.size, k, none⟩ = w9.cell? ⟨ws.heap.size, k, none⟩)) (by kernel_rfl) ?_ (fun hHeld => ?_)
     ·((try dsimp only); (refine keep1 hq0 ?_; (exact Below.r)))
     refine tz 0 ?_
     try simp only [Act.put, sl, s0, ss]
     refine wrh [1, 6] ?_
     refine rch (fun K hK => ?_) ?_
     ·go_simp
      go_wp2_with (go_at_call 24; (with_reducible refine (cless_any _ _).mono ?_); rintro e w5 ⟨rfl, hb5⟩; have hz5 := hb5.size; (try simp at hz5))
      refine hK.out _ _ ?_ (fun hHeld => ?_)
      ·((try dsimp only); (refine keep1 hq0 ?_; (exact Below.r)))
      clear hK K
      refine wrh [2, 6] ?_
      refine rch (fun K hK => ?_) ?_
      ·go_simp
       go_wp2_with (go_at_call 18; (refine (run3 _ (HG.out.below Below.r)).mono ?_); rintro e w6 ⟨hb6, my, rfl⟩; have hz6 := hb6.size; (try simp at hz6))
       refine hK.out _ _ ?_ (fun hHeld => ?_)
       ·((try dsimp only); (refine keep1 hq0 ?_; (exact Below.r)))
       clear hK K
       as_aux_lemma =>
        refine tz 3 ?_
        try simp only [Act.put, sl, s0, ss]
        refine tz 4 ?_
        try simp only [Act.put, sl, s0, ss]
        refine tz 5 ?_
        try simp only [Act.put, sl, s0, ss]
        refine wrh1 6 fun K hK => ?_
        go_simp
        refine hK.out _ _ ?_ (fun hHeld => ?_)
        ·((try dsimp only); (refine keep1 hq0 ?_; (exact Below.r)))
        clear hK K
        as_aux_lemma =>
         refine wrh1 7 fun K hK => ?_
         (rw [if_pos (wanted_none rfl _)]; refine wp_store_mid 44 _ _ rfl _ 0 _ rfl rfl thz (by kernel_rfl) (by simp [Value.oneCell']) ?_; simp only [Act.put, sl, s0, ss])
         refine hK.out _ _ ?_ (fun hHeld => ?_)
         ·((try dsimp only); (refine keep1 hq0 (belowM_set sz ?_); (exact Below.r)))
         clear hK K
         refine tz 8 ?_
         try simp only [Act.put, sl, s0, ss]
         refine wpAnyH_done (by kernel_rfl) ?_ _
         as_aux_lemma =>
          (go_wp2_with fail; (first | go_meet | (refine Met.intro ?_; go_step; go_meet)); exact ⟨_, my, rfl, rfl, sz, (by rw [sizeM_set]; first | omega | (simp; done) | (simp; omega)), belowM_set sz Below.r, Lib.hid (AtM_same thz)⟩)
      refine rch (fun K hK => ?_) ?_
      ·go_simp
       refine hK.out _ _ ?_ (fun hHeld => ?_)
       ·((try dsimp only); (refine keep1 hq0 ?_; (exact Below.r)))
       clear hK K
       refine wrh1 2 fun K hK => ?_
       go_simp
       go_wp2_with (go_at_call 18; (refine (run3 _ (HG.out.below Below.r)).mono ?_); rintro e w6 ⟨hb6, my, rfl⟩; have hz6 := hb6.size; (try simp at hz6))
       refine hK.out _ _ ?_ (fun hHeld => ?_)
       ·((try dsimp only); (refine keep1 hq0 ?_; (exact Below.r)))
       clear hK K
       as_aux_lemma =>
        refine tz 3 ?_
        try simp only [Act.put, sl, s0, ss]
        refine tz 4 ?_
        try simp only [Act.put, sl, s0, ss]
        refine tz 5 ?_
        try simp only [Act.put, sl, s0, ss]
        refine wrh1 7 fun K hK => ?_
        (rw [if_pos (wanted_none rfl _)]; refine wp_store_mid 44 _ _ rfl _ 0 _ rfl rfl thz (by kernel_rfl) (by simp [Value.oneCell']) ?_; simp only [Act.put, sl, s0, ss])
        refine hK.out _ _ ?_ (fun hHeld => ?_)
        ·((try dsimp only); (refine keep1 hq0 (belowM_set sz ?_); (exact Below.r)))
        clear hK K
        as_aux_lemma =>
         refine tz 8 ?_
         try simp only [Act.put, sl, s0, ss]
         refine wpAnyH_done (by kernel_rfl) ?_ _
         as_aux_lemma =>
          (go_wp2_with fail; (first | go_meet | (refine Met.intro ?_; go_step; go_meet)); exact ⟨_, my, rfl, rfl, sz, (by rw [sizeM_set]; first | omega | (simp; done) | (simp; omega)), belowM_set sz Below.r, Lib.hid (AtM_same thz)⟩)
      exact AllReadyH.nil
     refine rch (fun K hK => ?_) ?_
     ·go_simp
      refine hK.out _ _ ?_ (fun hHeld => ?_)
      ·((try dsimp only); (refine keep1 hq0 ?_; (exact Below.r)))
      clear hK K
      refine wrh1 1 fun K hK => ?_
      go_simp
      go_wp2_with (go_at_call 24; (with_reducible refine (cless_any _ _).mono ?_); rintro e w5 ⟨rfl, hb5⟩; have hz5 := hb5.size; (try simp at hz5))
      refine hK.out _ _ ?_ (fun hHeld => ?_)
      ·((try dsimp only); (refine keep1 hq0 ?_; (exact Below.r)))
      clear hK K
      refine wrh1 2 fun K hK => ?_
      go_simp
      go_wp2_with (go_at_call 18; (refine (run3 _ (HG.out.below Below.r)).mono ?_); rintro e w6 ⟨hb6, my, rfl⟩; have hz6 := hb6.size; (try simp at hz6))
      refine hK.out _ _ ?_ (fun hHeld => ?_)
      ·((try dsimp only); (refine keep1 hq0 ?_; (exact Below.r)))
      clear hK K
      as_aux_lemma =>
       refine tz 3 ?_
       try simp only [Act.put, sl, s0, ss]
       refine tz 4 ?_
       try simp only [Act.put, sl, s0, ss]
       refine tz 5 ?_
       try simp only [Act.put, sl, s0, ss]
       refine wrh1 7 fun K hK => ?_
       (rw [if_pos (wanted_none rfl _)]; refine wp_store_mid 44 _ _ rfl _ 0 _ rfl rfl thz (by kernel_rfl) (by simp [Value.oneCell']) ?_; simp only [Act.put, sl, s0, ss])
       refine hK.out _ _ ?_ (fun hHeld => ?_)
       ·((try dsimp only); (refine keep1 hq0 (belowM_set sz ?_); (exact Below.r)))
       clear hK K
       as_aux_lemma =>
        refine tz 8 ?_
        try simp only [Act.put, sl, s0, ss]
        refine wpAnyH_done (by kernel_rfl) ?_ _
        as_aux_lemma =>
         (go_wp2_with fail; (first | go_meet | (refine Met.intro ?_; go_step; go_meet)); exact ⟨_, my, rfl, rfl, sz, (by rw [sizeM_set]; first | omega | (simp; done) | (simp; omega)), belowM_set sz Below.r, Lib.hid (AtM_same thz)⟩)
     exact AllReadyH.nil
   case rest =>
    obtain ⟨D1, m1, rfl, rfl, d0, d1, hbc, HA1⟩ := hcut
    have hzc := hbc.size
    go_upto_region 10 with fail
    refine wp_named (fun W => Below w.heap.size w W ∧ ws.heap.size < W.heap.size ∧ D1 < W.heap.size ∧ Hid (At W ws.heap.size 0 (spanL 0 5)) ∧ Hid (At W D1 0 [.int .u8 3, .int .i64 3, .int .i64 0, .string ⟨#[]⟩, .int .u8 0, .int .i64 0, .slice m1.a 0 m1.c])) ⟨Below.trans hbb (Below.mono hbc (by have := hbb.size; omega)), by omega, d1, Lib.hid (At_below HD.out hbc), HA1⟩ ?_
    clear hbc hzc d1 HD HA1 hbb hq0
    intro w10 ⟨hbb, hq0, d1, HD, HA1⟩
    go_cut [5, 6] from 77 to 82 (fun p q wx => ∃ (D : Nat) (my : VA), p = .pointer (some ⟨D, 0, none⟩) ∧ q = .int .i64 0 ∧ w10.heap.size ≤ D ∧ D < wx.heap.size ∧ Below w10.heap.size w10 wx ∧ Hid (At wx D 0 [.int .u8 1, .int .i64 3, .int .i64 0, .string ⟨#[48, 49, 48]⟩, .int .u8 1, .int .i64 2, .slice my.a 0 my.c]))
    case first =>
     obtain ⟨n0, n1, n2, n3, n4, n5, n6, n7, n8, n9, na, nb, nc, nd, ne⟩ := At15z.1 HD.out
     have hzB := hbb.size
     as_aux_lemma =>
      (try dsimp only [List.append])
      refine wp_region_noPanic ?_
      refine wp_region_held_drew (S := (fun W => ∀ k, W.cell? ⟨ws.heap.size, k, none⟩ = w10.cell? ⟨ws.heap.size, k, none⟩)) (by kernel_rfl) ?_ (fun hHeld => ?_)
      ·((try dsimp only); (refine keep1 hq0 ?_; (exact Below.r)))
      refine tz 0 ?_
      try simp only [Act.put, sl, s0, ss]
      refine wrh [1, 6] ?_
      refine rch (fun K hK => ?_) ?_
      ·go_simp
       go_wp2_with (go_at_call 24; (with_reducible refine (cless_any _ _).mono ?_); rintro e w5 ⟨rfl, hb5⟩; have hz5 := hb5.size; (try simp at hz5))
       refine hK.out _ _ ?_ (fun hHeld => ?_)
       ·((try dsimp only); (refine keep1 hq0 ?_; (exact Below.r)))
       clear hK K
       refine wrh [2, 6] ?_
       refine rch (fun K hK => ?_) ?_
       ·go_simp
        go_wp2_with (go_at_call 18; (refine (run4 _ (HG.out.below Below.r)).mono ?_); rintro e w6 ⟨hb6, my, rfl⟩; have hz6 := hb6.size; (try simp at hz6))
        refine hK.out _ _ ?_ (fun hHeld => ?_)
        ·((try dsimp only); (refine keep1 hq0 ?_; (exact Below.r)))
        clear hK K
        as_aux_lemma =>
         refine tz 3 ?_
         try simp only [Act.put, sl, s0, ss]
         refine tz 4 ?_
         try simp only [Act.put, sl, s0, ss]
         refine tz 5 ?_
         try simp only [Act.put, sl, s0, ss]
         refine wrh1 6 fun K hK => ?_
         go_simp
         refine hK.out _ _ ?_ (fun hHeld => ?_)
         ·((try dsimp only); (refine keep1 hq0 ?_; (exact Below.r)))
         clear hK K
         as_aux_lemma =>
          refine wrh1 7 fun K hK => ?_
          (rw [if_pos (wanted_none rfl _)]; refine wp_store_mid 44 _ _ rfl _ 0 _ rfl rfl thz (by kernel_rfl) (by simp [Value.oneCell']) ?_; simp only [Act.put, sl, s0, ss])
          refine hK.out _ _ ?_ (fun hHeld => ?_)
          ·((try dsimp only); (refine keep1 hq0 (belowM_set sz ?_); (exact Below.r)))
          clear hK K
          refine tz 8 ?_
          try simp only [Act.put, sl, s0, ss]
          refine wpAnyH_done (by kernel_rfl) ?_ _
          as_aux_lemma =>
           (go_wp2_with fail; (first | go_meet | (refine Met.intro ?_; go_step; go_meet)); exact ⟨_, my, rfl, rfl, sz, (by rw [sizeM_set]; first | omega | (simp; done) | (simp; omega)), belowM_set sz Below.r, Lib.hid (AtM_same thz)⟩)
       refine rch (fun K hK => ?_) ?_
       ·go_simp
        refine hK.out _ _ ?_ (fun hHeld => ?_)
        ·((try dsimp only); (refine keep1 hq0 ?_; (exact Below.r)))
        clear hK K
        refine wrh1 2 fun K hK => ?_
        go_simp
        go_wp2_with (go_at_call 18; (refine (run4 _ (HG.out.below Below.r)).mono ?_); rintro e w6 ⟨hb6, my, rfl⟩; have hz6 := hb6.size; (try simp at hz6))
        refine hK.out _ _ ?_ (fun hHeld => ?_)
        ·((try dsimp only); (refine keep1 hq0 ?_; (exact Below.r)))
        clear hK K
        as_aux_lemma =>
         refine tz 3 ?_
         try simp only [Act.put, sl, s0, ss]
         refine tz 4 ?_
         try simp only [Act.put, sl, s0, ss]
         refine tz 5 ?_
         try simp only [Act.put, sl, s0, ss]
         refine wrh1 7 fun K hK => ?_
         (rw [if_pos (wanted_none rfl _)]; refine wp_store_mid 44 _ _ rfl _ 0 _ rfl rfl thz (by kernel_rfl) (by simp [Value.oneCell']) ?_; simp only [Act.put, sl, s0, ss])
         refine hK.out _ _ ?_ (fun hHeld => ?_)
         ·((try dsimp only); (refine keep1 hq0 (belowM_set sz ?_); (exact Below.r)))
         clear hK K
         as_aux_lemma =>
          refine tz 8 ?_
          try simp only [Act.put, sl, s0, ss]
          refine wpAnyH_done (by kernel_rfl) ?_ _
          as_aux_lemma =>
           (go_wp2_with fail; (first | go_meet | (refine Met.intro ?_; go_step; go_meet)); exact ⟨_, my, rfl, rfl, sz, (by rw [sizeM_set]; first | omega | (simp; done) | (simp; omega)), belowM_set sz Below.r, Lib.hid (AtM_same thz)⟩)
       exact AllReadyH.nil
      refine rch (fun K hK => ?_) ?_
      ·go_simp
       refine hK.out _ _ ?_ (fun hHeld => ?_)
       ·((try dsimp only); (refine keep1 hq0 ?_; (exact Below.r)))
       clear hK K
       refine wrh1 1 fun K hK => ?_
       go_simp
       go_wp2_with (go_at_call 24; (with_reducible refine (cless_any _ _).mono ?_); rintro e w5 ⟨rfl, hb5⟩; have hz5 := hb5.size; (try simp at hz5))
       refine hK.out _ _ ?_ (fun hHeld => ?_)
       ·((try dsimp only); (refine keep1 hq0 ?_; (exact Below.r)))
       clear hK K
       refine wrh1 2 fun K hK => ?_
       go_simp
       go_wp2_with (go_at_call 18; (refine (run4 _ (HG.out.below Below.r)).mono ?_); rintro e w6 ⟨hb6, my, rfl⟩; have hz6 := hb6.size; (try simp at hz6))
       refine hK.out _ _ ?_ (fun hHeld => ?_)
       ·((try dsimp only); (refine keep1 hq0 ?_; (exact Below.r)))
       clear hK K
       as_aux_lemma =>
        refine tz 3 ?_
        try simp only [Act.put, sl, s0, ss]
        refine tz 4 ?_
        try simp only [Act.put, sl, s0, ss]
        refine tz 5 ?_
        try simp only [Act.put, sl, s0, ss]
        refine wrh1 7 fun K hK => ?_
        (rw [if_pos (wanted_none rfl _)]; refine wp_store_mid 44 _ _ rfl _ 0 _ rfl rfl thz (by kernel_rfl) (by simp [Value.oneCell']) ?_; simp only [Act.put, sl, s0, ss])
        refine hK.out _ _ ?_ (fun hHeld => ?_)
        ·((try dsimp only); (refine keep1 hq0 (belowM_set sz ?_); (exact Below.r)))
        clear hK K
        as_aux_lemma =>
         refine tz 8 ?_
         try simp only [Act.put, sl, s0, ss]
         refine wpAnyH_done (by kernel_rfl) ?_ _
         as_aux_lemma =>
          (go_wp2_with fail; (first | go_meet | (refine Met.intro ?_; go_step; go_meet)); exact ⟨_, my, rfl, rfl, sz, (by rw [sizeM_set]; first | omega | (simp; done) | (simp; omega)), belowM_set sz Below.r, Lib.hid (AtM_same thz)⟩)
      exact AllReadyH.nil
    case rest =>
     obtain ⟨D2, m2, rfl, rfl, d2, d3, hbc, HA2⟩ := hcut
     have hzc := hbc.size
     go_upto_region 11 with fail
     refine wp_named (fun W => Below w.heap.size w W ∧ ws.heap.size < W.heap.size ∧ D1 < W.heap.size ∧ D2 < W.heap.size ∧ Hid (At W ws.heap.size 0 (spanL 0 5)) ∧ Hid (At W D1 0 [.int .u8 3, .int .i64 3, .int .i64 0, .string ⟨#[]⟩, .int .u8 0, .int .i64 0, .slice m1.a 0 m1.c]) ∧ Hid (At W D2 0 [.int .u8 1, .int .i64 3, .int .i64 0, .string ⟨#[48, 49, 48]⟩, .int .u8 1, .int .i64 2, .slice m2.a 0 m2.c])) ⟨Below.trans hbb (Below.mono hbc (by have := hbb.size; omega)), by omega, by omega, d3, Lib.hid (At_below HD.out hbc), Lib.hid (At_below HA1.out hbc), HA2⟩ ?_
     clear hbc hzc d1 d3 HD HA1 HA2 hbb hq0
     intro w11 ⟨hbb, hq0, d1, d3, HD, HA1, HA2⟩
     go_cut [7, 8] from 83 to 88 (fun p q wx => ∃ (D : Nat) (my : VA), p = .pointer (some ⟨D, 0, none⟩) ∧ q = .int .i64 0 ∧ w11.heap.size ≤ D ∧ D < wx.heap.size ∧ Below w11.heap.size w11 wx ∧ Hid (At wx D 0 [.int .u8 2, .int .i64 1, .int .i64 0, .string ⟨#[]⟩, .int .u8 0, .int .i64 0, .slice my.a 0 my.c]))
     case first =>
      obtain ⟨n0, n1, n2, n3, n4, n5, n6, n7, n8, n9, na, nb, nc, nd, ne⟩ := At15z.1 HD.out
      have hzB := hbb.size
      as_aux_lemma =>
       (try dsimp only [List.append])
       refine wp_region_noPanic ?_
       refine wp_region_held_drew (S := (fun W => ∀ k, W.cell? ⟨ws.heap.size, k, none⟩ = w11.cell? ⟨ws.heap.size, k, none⟩)) (by kernel_rfl) ?_ (fun hHeld => ?_)
       ·((try dsimp only); (refine keep1 hq0 ?_; (exact Below.r)))
       refine tz 0 ?_
       try simp only [Act.put, sl, s0, ss]
       refine wrh [1, 6] ?_
       refine rch (fun K hK => ?_) ?_
       ·go_simp
        go_wp2_with (go_at_call 24; (with_reducible refine (cless_any _ _).mono ?_); rintro e w5 ⟨rfl, hb5⟩; have hz5 := hb5.size; (try simp at hz5))
        refine hK.out _ _ ?_ (fun hHeld => ?_)
        ·((try dsimp only); (refine keep1 hq0 ?_; (exact Below.r)))
        clear hK K
        refine wrh [2, 6] ?_
        refine rch (fun K hK => ?_) ?_
        ·go_simp
         go_wp2_with (go_at_call 18; (refine (run5 _ (HG.out.below Below.r)).mono ?_); rintro e w6 ⟨hb6, my, rfl⟩; have hz6 := hb6.size; (try simp at hz6))
         refine hK.out _ _ ?_ (fun hHeld => ?_)
         ·((try dsimp only); (refine keep1 hq0 ?_; (exact Below.r)))
         clear hK K
         as_aux_lemma =>
          refine tz 3 ?_
          try simp only [Act.put, sl, s0, ss]
          refine tz 4 ?_
          try simp only [Act.put, sl, s0, ss]
          refine tz 5 ?_
          try simp only [Act.put, sl, s0, ss]
          refine wrh1 6 fun K hK => ?_
          go_simp
          refine hK.out _ _ ?_ (fun hHeld => ?_)
          ·((try dsimp only); (refine keep1 hq0 ?_; (exact Below.r)))
          clear hK K
          as_aux_lemma =>
           refine wrh1 7 fun K hK => ?_
           (rw [if_pos (wanted_none rfl _)]; refine wp_store_mid 44 _ _ rfl _ 0 _ rfl rfl thz (by kernel_rfl) (by simp [Value.oneCell']) ?_; simp only [Act.put, sl, s0, ss])
           refine hK.out _ _ ?_ (fun hHeld => ?_)
           ·((try dsimp only); (refine keep1 hq0 (belowM_set sz ?_); (exact Below.r)))
           clear hK K
           refine tz 8 ?_
           try simp only [Act.put, sl, s0, ss]
           refine wpAnyH_done (by kernel_rfl) ?_ _
           as_aux_lemma =>
            (go_wp2_with fail; (first | go_meet | (refine Met.intro ?_; go_step; go_meet)); exact ⟨_, my, rfl, rfl, sz, (by rw [sizeM_set]; first | omega | (simp; done) | (simp; omega)), belowM_set sz Below.r, Lib.hid (AtM_same thz)⟩)
        refine rch (fun K hK => ?_) ?_
        ·go_simp
         refine hK.out _ _ ?_ (fun hHeld => ?_)
         ·((try dsimp only); (refine keep1 hq0 ?_; (exact Below.r)))
         clear hK K
         refine wrh1 2 fun K hK => ?_
         go_simp
         go_wp2_with (go_at_call 18; (refine (run5 _ (HG.out.below Below.r)).mono ?_); rintro e w6 ⟨hb6, my, rfl⟩; have hz6 := hb6.size; (try simp at hz6))
         refine hK.out _ _ ?_ (fun hHeld => ?_)
         ·((try dsimp only); (refine keep1 hq0 ?_; (exact Below.r)))
         clear hK K
         as_aux_lemma =>
          refine tz 3 ?_
          try simp only [Act.put, sl, s0, ss]
          refine tz 4 ?_
          try simp only [Act.put, sl, s0, ss]
          refine tz 5 ?_
          try simp only [Act.put, sl, s0, ss]
          refine wrh1 7 fun K hK => ?_
          (rw [if_pos (wanted_none rfl _)]; refine wp_store_mid 44 _ _ rfl _ 0 _ rfl rfl thz (by kernel_rfl) (by simp [Value.oneCell']) ?_; simp only [Act.put, sl, s0, ss])
          refine hK.out _ _ ?_ (fun hHeld => ?_)
          ·((try dsimp only); (refine keep1 hq0 (belowM_set sz ?_); (exact Below.r)))
          clear hK K
          as_aux_lemma =>
           refine tz 8 ?_
           try simp only [Act.put, sl, s0, ss]
           refine wpAnyH_done (by kernel_rfl) ?_ _
           as_aux_lemma =>
            (go_wp2_with fail; (first | go_meet | (refine Met.intro ?_; go_step; go_meet)); exact ⟨_, my, rfl, rfl, sz, (by rw [sizeM_set]; first | omega | (simp; done) | (simp; omega)), belowM_set sz Below.r, Lib.hid (AtM_same thz)⟩)
        exact AllReadyH.nil
       refine rch (fun K hK => ?_) ?_
       ·go_simp
        refine hK.out _ _ ?_ (fun hHeld => ?_)
        ·((try dsimp only); (refine keep1 hq0 ?_; (exact Below.r)))
        clear hK K
        refine wrh1 1 fun K hK => ?_
        go_simp
        go_wp2_with (go_at_call 24; (with_reducible refine (cless_any _ _).mono ?_); rintro e w5 ⟨rfl, hb5⟩; have hz5 := hb5.size; (try simp at hz5))
        refine hK.out _ _ ?_ (fun hHeld => ?_)
        ·((try dsimp only); (refine keep1 hq0 ?_; (exact Below.r)))
        clear hK K
        refine wrh1 2 fun K hK => ?_
        go_simp
        go_wp2_with (go_at_call 18; (refine (run5 _ (HG.out.below Below.r)).mono ?_); rintro e w6 ⟨hb6, my, rfl⟩; have hz6 := hb6.size; (try simp at hz6))
        refine hK.out _ _ ?_ (fun hHeld => ?_)
        ·((try dsimp only); (refine keep1 hq0 ?_; (exact Below.r)))
        clear hK K
        as_aux_lemma =>
         refine tz 3 ?_
         try simp only [Act.put, sl, s0, ss]
         refine tz 4 ?_
         try simp only [Act.put, sl, s0, ss]
         refine tz 5 ?_
         try simp only [Act.put, sl, s0, ss]
         refine wrh1 7 fun K hK => ?_
         (rw [if_pos (wanted_none rfl _)]; refine wp_store_mid 44 _ _ rfl _ 0 _ rfl rfl thz (by kernel_rfl) (by simp [Value.oneCell']) ?_; simp only [Act.put, sl, s0, ss])
         refine hK.out _ _ ?_ (fun hHeld => ?_)
         ·((try dsimp only); (refine keep1 hq0 (belowM_set sz ?_); (exact Below.r)))
         clear hK K
         as_aux_lemma =>
          refine tz 8 ?_
          try simp only [Act.put, sl, s0, ss]
          refine wpAnyH_done (by kernel_rfl) ?_ _
          as_aux_lemma =>
           (go_wp2_with fail; (first | go_meet | (refine Met.intro ?_; go_step; go_meet)); exact ⟨_, my, rfl, rfl, sz, (by rw [sizeM_set]; first | omega | (simp; done) | (simp; omega)), belowM_set sz Below.r, Lib.hid (AtM_same thz)⟩)
       exact AllReadyH.nil
     case rest =>
      obtain ⟨D3, m3, rfl, rfl, d4, d5, hbc, HA3⟩ := hcut
      have hzc := hbc.size
      go_upto_region 12 with fail
      refine wp_named (fun W => Below w.heap.size w W ∧ ws.heap.size < W.heap.size ∧ D1 < W.heap.size ∧ D2 < W.heap.size ∧ D3 < W.heap.size ∧ Hid (At W ws.heap.size 0 (spanL 0 5)) ∧ Hid (At W D1 0 [.int .u8 3, .int .i64 3, .int .i64 0, .string ⟨#[]⟩, .int .u8 0, .int .i64 0, .slice m1.a 0 m1.c]) ∧ Hid (At W D2 0 [.int .u8 1, .int .i64 3, .int .i64 0, .string ⟨#[48, 49, 48]⟩, .int .u8 1, .int .i64 2, .slice m2.a 0 m2.c]) ∧ Hid (At W D3 0 [.int .u8 2, .int .i64 1, .int .i64 0, .string ⟨#[]⟩, .int .u8 0, .int .i64 0, .slice m3.a 0 m3.c])) ⟨Below.trans hbb (Below.mono hbc (by have := hbb.size; omega)), by omega, by omega, by omega, d5, Lib.hid (At_below HD.out hbc), Lib.hid (At_below HA1.out hbc), Lib.hid (At_below HA2.out hbc), HA3⟩ ?_
      clear hbc hzc d1 d3 d5 HD HA1 HA2 HA3 hbb hq0
      intro w12 ⟨hbb, hq0, d1, d3, d5, HD, HA1, HA2, HA3⟩
      go_cut [9, 10] from 89 to 94 (fun p q wx => ∃ (D : Nat) (my : VA), p = .pointer (some ⟨D, 0, none⟩) ∧ q = .int .i64 1 ∧ w12.heap.size ≤ D ∧ D < wx.heap.size ∧ Below w12.heap.size w12 wx ∧ Hid (At wx D 0 [.int .u8 0, .int .i64 0, .int .i64 0, .string ⟨#[]⟩, .int .u8 0, .int .i64 0, .slice my.a 0 my.c]))
      case first =>
       obtain ⟨n0, n1, n2, n3, n4, n5, n6, n7, n8, n9, na, nb, nc, nd, ne⟩ := At15z.1 HD.out
       have hzB := hbb.size
       as_aux_lemma =>
        (try dsimp only [List.append])
        refine wp_region_noPanic ?_
        refine wp_region_held_drew (S := (fun W => ∀ k, W.cell? ⟨ws.heap.size, k, none⟩ = w12.cell? ⟨ws.heap.size, k, none⟩)) (by kernel_rfl) ?_ (fun hHeld => ?_)
        ·((try dsimp only); (refine keep1 hq0 ?_; (exact Below.r)))
        refine tz 0 ?_
        try simp only [Act.put, sl, s0, ss]
        refine wrh [1, 6] ?_
        refine rch (fun K hK => ?_) ?_
        ·go_simp
         go_wp2_with (go_at_call 24; (with_reducible refine (cless_any _ _).mono ?_); rintro e w5 ⟨rfl, hb5⟩; have hz5 := hb5.size; (try simp at hz5))
         refine hK.out _ _ ?_ (fun hHeld => ?_)
         ·((try dsimp only); (refine keep1 hq0 ?_; (exact Below.r)))
         clear hK K
         refine wrh [2, 6] ?_
         refine rch (fun K hK => ?_) ?_
         ·go_simp
          go_wp2_with (go_at_call 18; (refine (run6 _ (HG.out.below Below.r)).mono ?_); rintro e w6 ⟨hb6, my, rfl⟩; have hz6 := hb6.size; (try simp at hz6))
          refine hK.out _ _ ?_ (fun hHeld => ?_)
          ·((try dsimp only); (refine keep1 hq0 ?_; (exact Below.r)))
          clear hK K
          as_aux_lemma =>
           refine tz 3 ?_
           try simp only [Act.put, sl, s0, ss]
           refine tz 4 ?_
           try simp only [Act.put, sl, s0, ss]
           refine tz 5 ?_
           try simp only [Act.put, sl, s0, ss]
           refine wrh1 6 fun K hK => ?_
           go_simp
           refine hK.out _ _ ?_ (fun hHeld => ?_)
           ·((try dsimp only); (refine keep1 hq0 ?_; (exact Below.r)))
           clear hK K
           as_aux_lemma =>
            refine wrh1 7 fun K hK => ?_
            (rw [if_pos (wanted_none rfl _)]; refine wp_store_mid 44 _ _ rfl _ 0 _ rfl rfl thz (by kernel_rfl) (by simp [Value.oneCell']) ?_; simp only [Act.put, sl, s0, ss])
            refine hK.out _ _ ?_ (fun hHeld => ?_)
            ·((try dsimp only); (refine keep1 hq0 (belowM_set sz ?_); (exact Below.r)))
            clear hK K
            refine tz 8 ?_
            try simp only [Act.put, sl, s0, ss]
            refine wpAnyH_done (by kernel_rfl) ?_ _
            as_aux_lemma =>
             (go_wp2_with fail; (first | go_meet | (refine Met.intro ?_; go_step; go_meet)); exact ⟨_, my, rfl, rfl, sz, (by rw [sizeM_set]; first | omega | (simp; done) | (simp; omega)), belowM_set sz Below.r, Lib.hid (AtM_same thz)⟩)
         refine rch (fun K hK => ?_) ?_
         ·go_simp
          refine hK.out _ _ ?_ (fun hHeld => ?_)
          ·((try dsimp only); (refine keep1 hq0 ?_; (exact Below.r)))
          clear hK K
          refine wrh1 2 fun K hK => ?_
          go_simp
          go_wp2_with (go_at_call 18; (refine (run6 _ (HG.out.below Below.r)).mono ?_); rintro e w6 ⟨hb6, my, rfl⟩; have hz6 := hb6.size; (try simp at hz6))
          refine hK.out _ _ ?_ (fun hHeld => ?_)
          ·((try dsimp only); (refine keep1 hq0 ?_; (exact Below.r)))
          clear hK K
          as_aux_lemma =>
           refine tz 3 ?_
           try simp only [Act.put, sl, s0, ss]
           refine tz 4 ?_
           try simp only [Act.put, sl, s0, ss]
           refine tz 5 ?_
           try simp only [Act.put, sl, s0, ss]
           refine wrh1 7 fun K hK => ?_
           (rw [if_pos (wanted_none rfl _)]; refine wp_store_mid 44 _ _ rfl _ 0 _ rfl rfl thz (by kernel_rfl) (by simp [Value.oneCell']) ?_; simp only [Act.put, sl, s0, ss])
           refine hK.out _ _ ?_ (fun hHeld => ?_)
           ·((try dsimp only); (refine keep1 hq0 (belowM_set sz ?_); (exact Below.r)))
           clear hK K
           as_aux_lemma =>
            refine tz 8 ?_
            try simp only [Act.put, sl, s0, ss]
            refine wpAnyH_done (by kernel_rfl) ?_ _
            as_aux_lemma =>
             (go_wp2_with fail; (first | go_meet | (refine Met.intro ?_; go_step; go_meet)); exact ⟨_, my, rfl, rfl, sz, (by rw [sizeM_set]; first | omega | (simp; done) | (simp; omega)), belowM_set sz Below.r, Lib.hid (AtM_same thz)⟩)
         exact AllReadyH.nil
        refine rch (fun K hK => ?_) ?_
        ·go_simp
         refine hK.out _ _ ?_ (fun hHeld => ?_)
         ·((try dsimp only); (refine keep1 hq0 ?_; (exact Below.r)))
         clear hK K
         refine wrh1 1 fun K hK => ?_
         go_simp
         go_wp2_with (go_at_call 24; (with_reducible refine (cless_any _ _).mono ?_); rintro e w5 ⟨rfl, hb5⟩; have hz5 := hb5.size; (try simp at hz5))
         refine hK.out _ _ ?_ (fun hHeld => ?_)
         ·((try dsimp only); (refine keep1 hq0 ?_; (exact Below.r)))
         clear hK K
         refine wrh1 2 fun K hK => ?_
         go_simp
         go_wp2_with (go_at_call 18; (refine (run6 _ (HG.out.below Below.r)).mono ?_); rintro e w6 ⟨hb6, my, rfl⟩; have hz6 := hb6.size; (try simp at hz6))
         refine hK.out _ _ ?_ (fun hHeld => ?_)
         ·((try dsimp only); (refine keep1 hq0 ?_; (exact Below.r)))
         clear hK K
         as_aux_lemma =>
          refine tz 3 ?_
          try simp only [Act.put, sl, s0, ss]
          refine tz 4 ?_
          try simp only [Act.put, sl, s0, ss]
          refine tz 5 ?_
          try simp only [Act.put, sl, s0, ss]
          refine wrh1 7 fun K hK => ?_
          (rw [if_pos (wanted_none rfl _)]; refine wp_store_mid 44 _ _ rfl _ 0 _ rfl rfl thz (by kernel_rfl) (by simp [Value.oneCell']) ?_; simp only [Act.put, sl, s0, ss])
          refine hK.out _ _ ?_ (fun hHeld => ?_)
          ·((try dsimp only); (refine keep1 hq0 (belowM_set sz ?_); (exact Below.r)))
          clear hK K
          as_aux_lemma =>
           refine tz 8 ?_
           try simp only [Act.put, sl, s0, ss]
           refine wpAnyH_done (by kernel_rfl) ?_ _
           as_aux_lemma =>
            (go_wp2_with fail; (first | go_meet | (refine Met.intro ?_; go_step; go_meet)); exact ⟨_, my, rfl, rfl, sz, (by rw [sizeM_set]; first | omega | (simp; done) | (simp; omega)), belowM_set sz Below.r, Lib.hid (AtM_same thz)⟩)
        exact AllReadyH.nil
      case rest =>
       obtain ⟨D4, m4, rfl, rfl, d6, d7, hbc, HA4⟩ := hcut
       have hzc := hbc.size
       go_upto_region 13 with fail
       refine wp_named (fun W => Below w.heap.size w W ∧ D1 < W.heap.size ∧ D2 < W.heap.size ∧ D3 < W.heap.size ∧ Hid (At W D1 0 [.int .u8 3, .int .i64 3, .int .i64 0, .string ⟨#[]⟩, .int .u8 0, .int .i64 0, .slice m1.a 0 m1.c]) ∧ Hid (At W D2 0 [.int .u8 1, .int .i64 3, .int .i64 0, .string ⟨#[48, 49, 48]⟩, .int .u8 1, .int .i64 2, .slice m2.a 0 m2.c]) ∧ Hid (At W D3 0 [.int .u8 2, .int .i64 1, .int .i64 0, .string ⟨#[]⟩, .int .u8 0, .int .i64 0, .slice m3.a 0 m3.c])) ⟨Below.trans hbb (Below.mono hbc (by have := hbb.size; omega)), by omega, by omega, by omega, Lib.hid (At_below HA1.out hbc), Lib.hid (At_below HA2.out hbc), Lib.hid (At_below HA3.out hbc)⟩ ?_
       clear hbc hzc d1 d3 d5 HD HA1 HA2 HA3 HA4 hbb hq0
       intro w13 ⟨hbb, d1, d3, d5, HA1, HA2, HA3⟩
       obtain ⟨x0, x1, x2, x3, x4, x5, x6⟩ := At7z.1 HA1.out
       obtain ⟨y0, y1, y2, y3, y4, y5, y6⟩ := At7z.1 HA2.out
       obtain ⟨z0, z1, z2, z3, z4, z5, z6⟩ := At7z.1 HA3.out
       have hzB := hbb.size
       as_aux_lemma =>
        go_wp2_with (first | (go_at_call 19; (with_reducible refine (rs3 m1 _).mono ?_); rintro e w6 ⟨rfl, hb6⟩; have hz6 := hb6.size; (try simp at hz6); obtain ⟨hc6, hf6⟩ := bcells hb6; have v0 : D1 < w6.heap.size := (by omega); have v1 : D2 < w6.heap.size := (by omega); have v2 : D3 < w6.heap.size := (by omega)) | (go_at_call 19; (with_reducible refine (rs4 m2 _).mono ?_); rintro e w6 ⟨rfl, hb6⟩; have hz6 := hb6.size; (try simp at hz6); obtain ⟨hc6, hf6⟩ := bcells hb6; have v0 : D1 < w6.heap.size := (by omega); have v1 : D2 < w6.heap.size := (by omega); have v2 : D3 < w6.heap.size := (by omega)))
        go_ret
        exact ⟨rfl, Below.r⟩
end Go.Proofs.YtojjdneicmbfjaaGreatDoor
