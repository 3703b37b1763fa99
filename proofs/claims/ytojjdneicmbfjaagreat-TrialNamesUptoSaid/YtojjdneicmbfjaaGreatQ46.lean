/- What the proofs of the Trial statements need: part 47. -/
import Derived.Test.YtojjdneicmbfjaaGreatQ0
import Derived.Test.YtojjdneicmbfjaaGreatQ42
import Derived.Test.YtojjdneicmbfjaaGreatQ45
set_option linter.unusedVariables false
set_option linter.unusedSimpArgs false
namespace Go.Proofs.YtojjdneicmbfjaaGreat
open Go Go.RowKit
theorem RTs_1 {w : World} {A : Nat → Prop} {x : GT} {m : TA} {b : Nat} (hA : A b) (hc : At w b 0 [.int .u8 x.k, .int .u8 x.v.k, .int .i64 x.v.n, .slice m.va x.v.l.length m.vc, .slice m.vsa x.vs.length m.vsc, .int .i64 x.lo, .int .i64 x.hi, .slice m.wa x.w.length m.wc, .int .u8 x.p.k, .int .u8 x.p.v.k, .int .i64 x.p.v.n, .slice m.pva x.p.v.l.length m.pvc, .int .i64 x.p.n, .slice m.pa x.p.a.length m.pc, .slice m.a x.a.length m.c]) (hr : RT w A x m) : RTs w A [x] (some ⟨b, 0, none⟩) := by
 simp only [RTs]
 exact ⟨b, 0, m, rfl, hA, hc, hr, trivial⟩
theorem ends_ex {t : GT} {p : GP} {s : ByteArray} {N : Nat} {en : Int} {many : Nat} {to : Int} (h : Ex t p s N en many to) (w : World) (A A2 : Nat → Prop) (m : TA) (mp : PA) (ox : okT t) (hs : sizeT t ≤ 1099511627776) (hl : RT w A t m) (op : okP p) (hp : sizeP p ≤ 1099511627776) (hr : RP w A2 p mp) (hm : many ≤ 1000) :
  Calls Tryz.prog 13 #[TV t m, PV p mp, .string s, .int .i64 N, .int .u8 en, .int .i64 many, .int .i64 to] w fun e w' => e = .returned (.bool true) ∧ Below w.heap.size w w' :=
 ends_ok t p s N _ en many to w A A2 m mp ox hs hl op hp hr h.1 (Prod.ext rfl h.2.1) h.2.2.1 hm (fun hlt => by
  have h3 : (cutT s t p N 0).1.length = many := h.2.2.1
  have hne : many ≠ 0 := fun h0 => by rw [h0] at h3 hlt; rw [h3] at hlt; exact absurd hlt (by decide)
  have h4 : ((cutT s t p N 0).1.map GR.t)[many - 1]? = some to := h.2.2.2 hne
  rw [List.getElem?_map, List.getElem?_eq_getElem hlt] at h4
  simpa using h4)
/-- where the terms of the examples lie -/
def mS (b : Nat) : TA := ⟨none, 0, none, 0, none, 0, none, 0, none, 0, some ⟨b, 0, none⟩, 1⟩
def mH (a b : Nat) : TA := ⟨none, 0, none, 0, some ⟨a, 0, none⟩, 2, none, 0, none, 0, some ⟨b, 0, none⟩, 2⟩
theorem nP_ok : okP nP := okP_iff.2 ⟨by unfold isU8 nP; simp, okV_iff.2 ⟨by unfold isU8 nP noV; simp, by unfold isI64 nP noV; simp, by simp [nP, noV], by simp [nP, noV, okVs]⟩, by unfold isI64 nP; simp, by simp [nP], by simp [nP, okPs]⟩
theorem kP_ok (k : Int) (h : isU8 k) : okP (kP k) := okP_iff.2 ⟨h, okV_iff.2 ⟨by unfold isU8 kP noV; simp, by unfold isI64 kP noV; simp, by simp [kP, noV], by simp [kP, noV, okVs]⟩, by unfold isI64 kP; simp, by simp [kP], by simp [kP, okPs]⟩
theorem kT_ok (k : Int) (h : isU8 k) : okT (kT k) := okT_iff.2 ⟨h, okV_iff.2 ⟨by unfold isU8 kT noV; simp, by unfold isI64 kT noV; simp, by simp [kT, noV], by simp [kT, noV, okVs]⟩, ⟨by simp [kT], by simp [kT, okVs]⟩, by unfold isI64 kT; simp, by unfold isI64 kT; simp, ⟨by simp [kT], by simp [kT, okIs]⟩, kP_ok 0 (by unfold isU8; omega), by simp [kT], by simp [kT, okTs]⟩
theorem stuck_ok : okT stuckT := okT_iff.2 ⟨by unfold isU8 stuckT; simp, okV_iff.2 ⟨by unfold isU8 stuckT noV; simp, by unfold isI64 stuckT noV; simp, by simp [stuckT, noV], by simp [stuckT, noV, okVs]⟩, ⟨by simp [stuckT], by simp [stuckT, okVs]⟩, by unfold isI64 stuckT; simp, by unfold isI64 stuckT; simp, ⟨by simp [stuckT], by simp [stuckT, okIs]⟩, nP_ok, by simp [stuckT], by
 simp only [stuckT, okTs, and_true]; exact num_ok 1 (by unfold isI64; omega)⟩
theorem half_ok : okT halfT := okT_iff.2 ⟨by unfold isU8 halfT; simp, okV_iff.2 ⟨by unfold isU8 halfT noV; simp, by unfold isI64 halfT noV; simp, by simp [halfT, noV], by simp [halfT, noV, okVs]⟩, ⟨by simp [halfT], by simp [halfT, okVs]⟩, by unfold isI64 halfT; simp, by unfold isI64 halfT; simp, ⟨by simp [halfT], by simp [halfT, okIs, isI64]⟩, (okT_iff.1 (num_ok 1 (by unfold isI64; omega))).2.2.2.2.2.2.1, by simp [halfT], by
 simp only [halfT, okTs, and_true]; exact ⟨stuck_ok, num_ok 1 (by unfold isI64; omega)⟩⟩
theorem nP_R {w : World} {A : Nat → Prop} : RP w A nP nilPA := RP_nil rfl rfl
theorem kP_R {w : World} {A : Nat → Prop} (k : Int) : RP w A (kP k) nilPA := RP_nil rfl rfl
theorem kT_R {w : World} {A : Nat → Prop} (k : Int) : RT w A (kT k) nilTA := RT_nil rfl rfl rfl rfl rfl rfl
theorem size_nP : sizeP nP ≤ 1099511627776 := by simp [nP, noV, sizeV, sizeVs, sizeP, sizePs]
theorem size_kP (k : Int) : sizeP (kP k) ≤ 1099511627776 := by simp [kP, noV, sizeV, sizeVs, sizeP, sizePs]
theorem size_kT (k : Int) : sizeT (kT k) ≤ 1099511627776 := by simp [kT, sizeT, sizeV, sizeVs, sizeP, sizePs, sizeTs, noV, noP]
theorem size_stuck : sizeT stuckT ≤ 1099511627776 := by simp [stuckT, numT, nP, sizeT, sizeV, sizeVs, sizeP, sizePs, sizeTs, noV, noP]
theorem size_half : sizeT halfT ≤ 1099511627776 := by simp [halfT, stuckT, numT, nP, sizeT, sizeV, sizeVs, sizeP, sizePs, sizeTs, noV, noP]
theorem stuck_R {w : World} {b : Nat} (h : At w b 0 [.int .u8 1, .int .u8 1, .int .i64 1, .slice none 0 0, .slice none 0 0, .int .i64 0, .int .i64 0, .slice none 0 0, .int .u8 0, .int .u8 0, .int .i64 0, .slice none 0 0, .int .i64 0, .slice none 0 0, .slice none 0 0]) : RT w (fun _ => True) stuckT (mS b) :=
 RT_iff.2 ⟨by rw [RV_iff]; simp [stuckT, noV, RVs], by simp [stuckT, RVs], by simp [stuckT, RIs], nP_R, RTs_1 (m := nilTA) trivial h (numR 1)⟩
theorem half_R {w : World} {a b c : Nat} (h0 : At w c 0 [.int .u8 1, .int .u8 1, .int .i64 1, .slice none 0 0, .slice none 0 0, .int .i64 0, .int .i64 0, .slice none 0 0, .int .u8 0, .int .u8 0, .int .i64 0, .slice none 0 0, .int .i64 0, .slice none 0 0, .slice none 0 0])
  (h1 : w.cell? ⟨a, 0, none⟩ = some (.int .i64 1) ∧ w.cell? ⟨a, 1, none⟩ = some (.int .i64 1))
  (h2 : At w b 0 [.int .u8 9, .int .u8 0, .int .i64 0, .slice none 0 0, .slice none 0 0, .int .i64 0, .int .i64 0, .slice none 0 0, .int .u8 2, .int .u8 0, .int .i64 0, .slice none 0 0, .int .i64 0, .slice none 0 0, .slice (some ⟨c, 0, none⟩) 1 1])
  (h3 : At w b 15 [.int .u8 1, .int .u8 1, .int .i64 1, .slice none 0 0, .slice none 0 0, .int .i64 0, .int .i64 0, .slice none 0 0, .int .u8 0, .int .u8 0, .int .i64 0, .slice none 0 0, .int .i64 0, .slice none 0 0, .slice none 0 0]) : RT w (fun _ => True) halfT (mH a b) := by
 refine RT_iff.2 ⟨by rw [RV_iff]; simp [halfT, noV, RVs], by simp [halfT, RVs], ?_, RP_nil rfl rfl, ?_⟩
 ·show RIs w (fun _ => True) [1, 1] (some ⟨a, 0, none⟩)
  simp only [RIs]
  exact ⟨a, 0, rfl, trivial, ⟨h1.1, trivial⟩, a, 1, rfl, trivial, ⟨h1.2, trivial⟩, trivial⟩
 ·show RTs w (fun _ => True) [stuckT, numT 1] (some ⟨b, 0, none⟩)
  simp only [RTs]
  exact ⟨b, 0, mS c, rfl, trivial, h2, stuck_R h0, b, 15, nilTA, rfl, trivial, h3, numR 1, trivial⟩
section
variable (w W0 : World)
theorem en1 (b : Nat) (hl : RT w (fun _ => True) stuckT (mS b)) : Calls Tryz.prog 13 #[.agg #[.int .u8 9, .int .u8 0, .int .i64 0, .slice none 0 0, .slice none 0 0, .int .i64 0, .int .i64 0, .slice none 0 0, .int .u8 2, .int .u8 0, .int .i64 0, .slice none 0 0, .int .i64 0, .slice none 0 0, .slice (some ⟨b, 0, none⟩) 1 1], .agg #[.int .u8 1, .int .u8 0, .int .i64 0, .slice none 0 0, .int .i64 0, .slice none 0 0], .string ⟨#[]⟩, .int .i64 5, .int .u8 4, .int .i64 0, .int .i64 0] w fun e w' => e = .returned (.bool true) ∧ Below w.heap.size w w' :=
 ends_ex ex1 w _ (fun _ => True) (mS b) nilPA stuck_ok size_stuck hl yes_ok size_yes yesR (by omega)
theorem en2 (b : Nat) (hl : RT w (fun _ => True) stuckT (mS b)) : Calls Tryz.prog 13 #[.agg #[.int .u8 9, .int .u8 0, .int .i64 0, .slice none 0 0, .slice none 0 0, .int .i64 0, .int .i64 0, .slice none 0 0, .int .u8 2, .int .u8 0, .int .i64 0, .slice none 0 0, .int .i64 0, .slice none 0 0, .slice (some ⟨b, 0, none⟩) 1 1], .agg #[.int .u8 1, .int .u8 0, .int .i64 0, .slice none 0 0, .int .i64 0, .slice none 0 0], .string ⟨#[]⟩, .int .i64 0, .int .u8 2, .int .i64 0, .int .i64 0] w fun e w' => e = .returned (.bool true) ∧ Below w.heap.size w w' :=
 ends_ex ex2 w _ (fun _ => True) (mS b) nilPA stuck_ok size_stuck hl yes_ok size_yes yesR (by omega)
theorem en3 (a b : Nat) (hl : RT w (fun _ => True) halfT (mH a b)) : Calls Tryz.prog 13 #[.agg #[.int .u8 3, .int .u8 0, .int .i64 0, .slice none 0 0, .slice none 0 0, .int .i64 0, .int .i64 0, .slice (some ⟨a, 0, none⟩) 2 2, .int .u8 0, .int .u8 0, .int .i64 0, .slice none 0 0, .int .i64 0, .slice none 0 0, .slice (some ⟨b, 0, none⟩) 2 2], .agg #[.int .u8 1, .int .u8 0, .int .i64 0, .slice none 0 0, .int .i64 0, .slice none 0 0], .string ⟨#[49, 49, 48, 49]⟩, .int .i64 5, .int .u8 4, .int .i64 2, .int .i64 2] w fun e w' => e = .returned (.bool true) ∧ Below w.heap.size w w' :=
 ends_ex ex3 w _ (fun _ => True) (mH a b) nilPA half_ok size_half hl yes_ok size_yes yesR (by omega)
theorem en4 (a b : Nat) (hl : RT w (fun _ => True) halfT (mH a b)) : Calls Tryz.prog 13 #[.agg #[.int .u8 3, .int .u8 0, .int .i64 0, .slice none 0 0, .slice none 0 0, .int .i64 0, .int .i64 0, .slice (some ⟨a, 0, none⟩) 2 2, .int .u8 0, .int .u8 0, .int .i64 0, .slice none 0 0, .int .i64 0, .slice none 0 0, .slice (some ⟨b, 0, none⟩) 2 2], .agg #[.int .u8 1, .int .u8 0, .int .i64 0, .slice none 0 0, .int .i64 0, .slice none 0 0], .string ⟨#[49, 49]⟩, .int .i64 5, .int .u8 3, .int .i64 2, .int .i64 2] w fun e w' => e = .returned (.bool true) ∧ Below w.heap.size w w' :=
 ends_ex ex4 w _ (fun _ => True) (mH a b) nilPA half_ok size_half hl yes_ok size_yes yesR (by omega)
theorem en5 (a b : Nat) (hl : RT w (fun _ => True) halfT (mH a b)) : Calls Tryz.prog 13 #[.agg #[.int .u8 3, .int .u8 0, .int .i64 0, .slice none 0 0, .slice none 0 0, .int .i64 0, .int .i64 0, .slice (some ⟨a, 0, none⟩) 2 2, .int .u8 0, .int .u8 0, .int .i64 0, .slice none 0 0, .int .i64 0, .slice none 0 0, .slice (some ⟨b, 0, none⟩) 2 2], .agg #[.int .u8 1, .int .u8 0, .int .i64 0, .slice none 0 0, .int .i64 0, .slice none 0 0], .string ⟨#[49, 49]⟩, .int .i64 2, .int .u8 2, .int .i64 2, .int .i64 2] w fun e w' => e = .returned (.bool true) ∧ Below w.heap.size w w' :=
 ends_ex ex5 w _ (fun _ => True) (mH a b) nilPA half_ok size_half hl yes_ok size_yes yesR (by omega)
theorem en6 (a b : Nat) (hl : RT w (fun _ => True) halfT (mH a b)) : Calls Tryz.prog 13 #[.agg #[.int .u8 3, .int .u8 0, .int .i64 0, .slice none 0 0, .slice none 0 0, .int .i64 0, .int .i64 0, .slice (some ⟨a, 0, none⟩) 2 2, .int .u8 0, .int .u8 0, .int .i64 0, .slice none 0 0, .int .i64 0, .slice none 0 0, .slice (some ⟨b, 0, none⟩) 2 2], .agg #[.int .u8 2, .int .u8 0, .int .i64 0, .slice none 0 0, .int .i64 0, .slice none 0 0], .string ⟨#[49, 49]⟩, .int .i64 2, .int .u8 1, .int .i64 1, .int .i64 1] w fun e w' => e = .returned (.bool true) ∧ Below w.heap.size w w' :=
 ends_ex ex6 w _ (fun _ => True) (mH a b) nilPA half_ok size_half hl nP_ok size_nP nP_R (by omega)
theorem en7 (a b : Nat) (hl : RT w (fun _ => True) halfT (mH a b)) : Calls Tryz.prog 13 #[.agg #[.int .u8 3, .int .u8 0, .int .i64 0, .slice none 0 0, .slice none 0 0, .int .i64 0, .int .i64 0, .slice (some ⟨a, 0, none⟩) 2 2, .int .u8 0, .int .u8 0, .int .i64 0, .slice none 0 0, .int .i64 0, .slice none 0 0, .slice (some ⟨b, 0, none⟩) 2 2], .agg #[.int .u8 2, .int .u8 0, .int .i64 0, .slice none 0 0, .int .i64 0, .slice none 0 0], .string ⟨#[]⟩, .int .i64 2, .int .u8 3, .int .i64 0, .int .i64 0] w fun e w' => e = .returned (.bool true) ∧ Below w.heap.size w w' :=
 ends_ex ex7 w _ (fun _ => True) (mH a b) nilPA half_ok size_half hl nP_ok size_nP nP_R (by omega)
theorem en8 : Calls Tryz.prog 13 #[.agg #[.int .u8 1, .int .u8 1, .int .i64 1, .slice none 0 0, .slice none 0 0, .int .i64 0, .int .i64 0, .slice none 0 0, .int .u8 0, .int .u8 0, .int .i64 0, .slice none 0 0, .int .i64 0, .slice none 0 0, .slice none 0 0], .agg #[.int .u8 1, .int .u8 0, .int .i64 0, .slice none 0 0, .int .i64 0, .slice none 0 0], .string ⟨#[48, 49]⟩, .int .i64 1000, .int .u8 2, .int .i64 1000, .int .i64 0] w fun e w' => e = .returned (.bool true) ∧ Below w.heap.size w w' :=
 ends_ex ex8 w (fun _ => True) (fun _ => True) nilTA nilPA (num_ok 1 (by unfold isI64; omega)) (size_num 1) (numR 1) yes_ok size_yes yesR (by omega)
theorem en9 : Calls Tryz.prog 13 #[.agg #[.int .u8 1, .int .u8 1, .int .i64 1, .slice none 0 0, .slice none 0 0, .int .i64 0, .int .i64 0, .slice none 0 0, .int .u8 0, .int .u8 0, .int .i64 0, .slice none 0 0, .int .i64 0, .slice none 0 0, .slice none 0 0], .agg #[.int .u8 2, .int .u8 0, .int .i64 0, .slice none 0 0, .int .i64 0, .slice none 0 0], .string ⟨#[]⟩, .int .i64 1000, .int .u8 1, .int .i64 1, .int .i64 0] w fun e w' => e = .returned (.bool true) ∧ Below w.heap.size w w' :=
 ends_ex ex9 w (fun _ => True) (fun _ => True) nilTA nilPA (num_ok 1 (by unfold isI64; omega)) (size_num 1) (numR 1) nP_ok size_nP nP_R (by omega)
theorem ct1 : Calls Tryz.prog 8 #[.agg #[.int .u8 0, .int .u8 0, .int .i64 0, .slice none 0 0, .slice none 0 0, .int .i64 0, .int .i64 0, .slice none 0 0, .int .u8 0, .int .u8 0, .int .i64 0, .slice none 0 0, .int .i64 0, .slice none 0 0, .slice none 0 0], .agg #[.int .u8 99, .int .u8 0, .int .i64 0, .slice none 0 0, .int .i64 0, .slice none 0 0], .string ⟨#[50]⟩, .int .i64 (-1)] w fun e w' => e = .returned (.tuple #[.slice none 0 0, .int .u8 0, .int .i64 11]) ∧ Below w.heap.size w w' := by
 have h := cut_err (kT 0) (kP 99) ⟨#[50]⟩ (-1) w (fun _ => True) (fun _ => True) nilTA nilPA (kT_ok 0 (by unfold isU8; omega)) (size_kT 0) (kT_R 0) (kP_ok 99 (by unfold isU8; omega)) (size_kP 99) (kP_R 99) (by decide) (by rw [er1]; omega)
 rw [er1] at h
 exact h
theorem ct2 : Calls Tryz.prog 8 #[.agg #[.int .u8 1, .int .u8 1, .int .i64 1, .slice none 0 0, .slice none 0 0, .int .i64 0, .int .i64 0, .slice none 0 0, .int .u8 0, .int .u8 0, .int .i64 0, .slice none 0 0, .int .i64 0, .slice none 0 0, .slice none 0 0], .agg #[.int .u8 99, .int .u8 0, .int .i64 0, .slice none 0 0, .int .i64 0, .slice none 0 0], .string ⟨#[50]⟩, .int .i64 (-1)] w fun e w' => e = .returned (.tuple #[.slice none 0 0, .int .u8 0, .int .i64 3]) ∧ Below w.heap.size w w' := by
 have h := cut_err (numT 1) (kP 99) ⟨#[50]⟩ (-1) w (fun _ => True) (fun _ => True) nilTA nilPA (num_ok 1 (by unfold isI64; omega)) (size_num 1) (numR 1) (kP_ok 99 (by unfold isU8; omega)) (size_kP 99) (kP_R 99) (by decide) (by rw [er2]; omega)
 rw [er2] at h
 exact h
theorem ct3 : Calls Tryz.prog 8 #[.agg #[.int .u8 1, .int .u8 1, .int .i64 1, .slice none 0 0, .slice none 0 0, .int .i64 0, .int .i64 0, .slice none 0 0, .int .u8 0, .int .u8 0, .int .i64 0, .slice none 0 0, .int .i64 0, .slice none 0 0, .slice none 0 0], .agg #[.int .u8 5, .int .u8 0, .int .i64 0, .slice none 0 0, .int .i64 0, .slice none 0 0], .string ⟨#[49]⟩, .int .i64 (-1)] w fun e w' => e = .returned (.tuple #[.slice none 0 0, .int .u8 0, .int .i64 4]) ∧ Below w.heap.size w w' := by
 have h := cut_err (numT 1) (kP 5) ⟨#[49]⟩ (-1) w (fun _ => True) (fun _ => True) nilTA nilPA (num_ok 1 (by unfold isI64; omega)) (size_num 1) (numR 1) (kP_ok 5 (by unfold isU8; omega)) (size_kP 5) (kP_R 5) (by decide) (by rw [er3]; omega)
 rw [er3] at h
 exact h
theorem ct4 : Calls Tryz.prog 8 #[.agg #[.int .u8 1, .int .u8 1, .int .i64 1, .slice none 0 0, .slice none 0 0, .int .i64 0, .int .i64 0, .slice none 0 0, .int .u8 0, .int .u8 0, .int .i64 0, .slice none 0 0, .int .i64 0, .slice none 0 0, .slice none 0 0], .agg #[.int .u8 1, .int .u8 0, .int .i64 0, .slice none 0 0, .int .i64 0, .slice none 0 0], .string ⟨#[49]⟩, .int .i64 (-1)] w fun e w' => e = .returned (.tuple #[.slice none 0 0, .int .u8 0, .int .i64 1]) ∧ Below w.heap.size w w' := by
 have h := cut_err (numT 1) yesP ⟨#[49]⟩ (-1) w (fun _ => True) (fun _ => True) nilTA nilPA (num_ok 1 (by unfold isI64; omega)) (size_num 1) (numR 1) yes_ok size_yes yesR (by decide) (by rw [er4]; omega)
 rw [er4] at h
 exact h
theorem ct5 : Calls Tryz.prog 8 #[.agg #[.int .u8 1, .int .u8 1, .int .i64 1, .slice none 0 0, .slice none 0 0, .int .i64 0, .int .i64 0, .slice none 0 0, .int .u8 0, .int .u8 0, .int .i64 0, .slice none 0 0, .int .i64 0, .slice none 0 0, .slice none 0 0], .agg #[.int .u8 1, .int .u8 0, .int .i64 0, .slice none 0 0, .int .i64 0, .slice none 0 0], .string ⟨#[49]⟩, .int .i64 1001] w fun e w' => e = .returned (.tuple #[.slice none 0 0, .int .u8 0, .int .i64 1]) ∧ Below w.heap.size w w' := by
 have h := cut_err (numT 1) yesP ⟨#[49]⟩ 1001 w (fun _ => True) (fun _ => True) nilTA nilPA (num_ok 1 (by unfold isI64; omega)) (size_num 1) (numR 1) yes_ok size_yes yesR (by decide) (by rw [er5]; omega)
 rw [er5] at h
 exact h
theorem ct6 : Calls Tryz.prog 8 #[.agg #[.int .u8 11, .int .u8 0, .int .i64 0, .slice none 0 0, .slice none 0 0, .int .i64 0, .int .i64 0, .slice none 0 0, .int .u8 0, .int .u8 0, .int .i64 0, .slice none 0 0, .int .i64 0, .slice none 0 0, .slice none 0 0], .agg #[.int .u8 1, .int .u8 0, .int .i64 0, .slice none 0 0, .int .i64 0, .slice none 0 0], .string ⟨#[]⟩, .int .i64 0] w fun e w' => e = .returned (.tuple #[.slice none 0 0, .int .u8 0, .int .i64 10]) ∧ Below w.heap.size w w' := by
 have h := cut_err (kT 11) yesP ByteArray.empty 0 w (fun _ => True) (fun _ => True) nilTA nilPA (kT_ok 11 (by unfold isU8; omega)) (size_kT 11) (kT_R 11) yes_ok size_yes yesR (by decide) (by rw [er6]; omega)
 rw [er6] at h
 exact h
end
/-- the rows of the errors' table -/
def row1 : List Value := [.int .u8 0, .int .u8 0, .int .i64 0, .slice none 0 0, .slice none 0 0, .int .i64 0, .int .i64 0, .slice none 0 0, .int .u8 0, .int .u8 0, .int .i64 0, .slice none 0 0, .int .i64 0, .slice none 0 0, .slice none 0 0, .int .u8 99, .int .u8 0, .int .i64 0, .slice none 0 0, .int .i64 0, .slice none 0 0, .string ⟨#[50]⟩, .int .i64 (-1), .int .i64 11]
def row2 : List Value := [.int .u8 1, .int .u8 1, .int .i64 1, .slice none 0 0, .slice none 0 0, .int .i64 0, .int .i64 0, .slice none 0 0, .int .u8 0, .int .u8 0, .int .i64 0, .slice none 0 0, .int .i64 0, .slice none 0 0, .slice none 0 0, .int .u8 99, .int .u8 0, .int .i64 0, .slice none 0 0, .int .i64 0, .slice none 0 0, .string ⟨#[50]⟩, .int .i64 (-1), .int .i64 3]
def row3 : List Value := [.int .u8 1, .int .u8 1, .int .i64 1, .slice none 0 0, .slice none 0 0, .int .i64 0, .int .i64 0, .slice none 0 0, .int .u8 0, .int .u8 0, .int .i64 0, .slice none 0 0, .int .i64 0, .slice none 0 0, .slice none 0 0, .int .u8 5, .int .u8 0, .int .i64 0, .slice none 0 0, .int .i64 0, .slice none 0 0, .string ⟨#[49]⟩, .int .i64 (-1), .int .i64 4]
def row4 : List Value := [.int .u8 1, .int .u8 1, .int .i64 1, .slice none 0 0, .slice none 0 0, .int .i64 0, .int .i64 0, .slice none 0 0, .int .u8 0, .int .u8 0, .int .i64 0, .slice none 0 0, .int .i64 0, .slice none 0 0, .slice none 0 0, .int .u8 1, .int .u8 0, .int .i64 0, .slice none 0 0, .int .i64 0, .slice none 0 0, .string ⟨#[49]⟩, .int .i64 (-1), .int .i64 1]
def row5 : List Value := [.int .u8 1, .int .u8 1, .int .i64 1, .slice none 0 0, .slice none 0 0, .int .i64 0, .int .i64 0, .slice none 0 0, .int .u8 0, .int .u8 0, .int .i64 0, .slice none 0 0, .int .i64 0, .slice none 0 0, .slice none 0 0, .int .u8 1, .int .u8 0, .int .i64 0, .slice none 0 0, .int .i64 0, .slice none 0 0, .string ⟨#[49]⟩, .int .i64 1001, .int .i64 1]
def row6 : List Value := [.int .u8 11, .int .u8 0, .int .i64 0, .slice none 0 0, .slice none 0 0, .int .i64 0, .int .i64 0, .slice none 0 0, .int .u8 0, .int .u8 0, .int .i64 0, .slice none 0 0, .int .i64 0, .slice none 0 0, .slice none 0 0, .int .u8 1, .int .u8 0, .int .i64 0, .slice none 0 0, .int .i64 0, .slice none 0 0, .string ⟨#[]⟩, .int .i64 0, .int .i64 10]
theorem At_app {w : World} {b : Nat} : ∀ (l r : List Value) (o : Nat), At w b o (l ++ r) → At w b o l ∧ At w b (o + l.length) r
 | [], r, o, h => ⟨trivial, h⟩
 | v :: l, r, o, h => by
  obtain ⟨h1, h2⟩ := h
  obtain ⟨h3, h4⟩ := At_app l r (o + 1) h2
  refine ⟨⟨h1, h3⟩, ?_⟩
  rw [List.length_cons, show o + (l.length + 1) = o + 1 + l.length by omega]
  exact h4
theorem rows6 {w : World} {b : Nat} (h : At w b 0 (row1 ++ (row2 ++ (row3 ++ (row4 ++ (row5 ++ row6)))))) : At w b 0 row1 ∧ At w b 24 row2 ∧ At w b 48 row3 ∧ At w b 72 row4 ∧ At w b 96 row5 ∧ At w b 120 row6 := by
 obtain ⟨h1, h⟩ := At_app _ _ _ h
 obtain ⟨h2, h⟩ := At_app _ _ _ h
 obtain ⟨h3, h⟩ := At_app _ _ _ h
 obtain ⟨h4, h⟩ := At_app _ _ _ h
 obtain ⟨h5, h6⟩ := At_app _ _ _ h
 exact ⟨h1, h2, h3, h4, h5, h6⟩
/-- the values of the table, under names -/
def vN1 : Value := .agg #[.int .u8 1, .int .u8 1, .int .i64 1, .slice none 0 0, .slice none 0 0, .int .i64 0, .int .i64 0, .slice none 0 0, .int .u8 0, .int .u8 0, .int .i64 0, .slice none 0 0, .int .i64 0, .slice none 0 0, .slice none 0 0]
def vT0 : Value := .agg #[.int .u8 0, .int .u8 0, .int .i64 0, .slice none 0 0, .slice none 0 0, .int .i64 0, .int .i64 0, .slice none 0 0, .int .u8 0, .int .u8 0, .int .i64 0, .slice none 0 0, .int .i64 0, .slice none 0 0, .slice none 0 0]
def vT11 : Value := .agg #[.int .u8 11, .int .u8 0, .int .i64 0, .slice none 0 0, .slice none 0 0, .int .i64 0, .int .i64 0, .slice none 0 0, .int .u8 0, .int .u8 0, .int .i64 0, .slice none 0 0, .int .i64 0, .slice none 0 0, .slice none 0 0]
def vP99 : Value := .agg #[.int .u8 99, .int .u8 0, .int .i64 0, .slice none 0 0, .int .i64 0, .slice none 0 0]
def vP5 : Value := .agg #[.int .u8 5, .int .u8 0, .int .i64 0, .slice none 0 0, .int .i64 0, .slice none 0 0]
def vP1 : Value := .agg #[.int .u8 1, .int .u8 0, .int .i64 0, .slice none 0 0, .int .i64 0, .slice none 0 0]
def vR1 : Value := .agg #[.int .u8 0, .int .u8 0, .int .i64 0, .slice none 0 0, .slice none 0 0, .int .i64 0, .int .i64 0, .slice none 0 0, .int .u8 0, .int .u8 0, .int .i64 0, .slice none 0 0, .int .i64 0, .slice none 0 0, .slice none 0 0, .int .u8 99, .int .u8 0, .int .i64 0, .slice none 0 0, .int .i64 0, .slice none 0 0, .string ⟨#[50]⟩, .int .i64 (-1), .int .i64 11]
def vR2 : Value := .agg #[.int .u8 1, .int .u8 1, .int .i64 1, .slice none 0 0, .slice none 0 0, .int .i64 0, .int .i64 0, .slice none 0 0, .int .u8 0, .int .u8 0, .int .i64 0, .slice none 0 0, .int .i64 0, .slice none 0 0, .slice none 0 0, .int .u8 99, .int .u8 0, .int .i64 0, .slice none 0 0, .int .i64 0, .slice none 0 0, .string ⟨#[50]⟩, .int .i64 (-1), .int .i64 3]
def vR3 : Value := .agg #[.int .u8 1, .int .u8 1, .int .i64 1, .slice none 0 0, .slice none 0 0, .int .i64 0, .int .i64 0, .slice none 0 0, .int .u8 0, .int .u8 0, .int .i64 0, .slice none 0 0, .int .i64 0, .slice none 0 0, .slice none 0 0, .int .u8 5, .int .u8 0, .int .i64 0, .slice none 0 0, .int .i64 0, .slice none 0 0, .string ⟨#[49]⟩, .int .i64 (-1), .int .i64 4]
def vR4 : Value := .agg #[.int .u8 1, .int .u8 1, .int .i64 1, .slice none 0 0, .slice none 0 0, .int .i64 0, .int .i64 0, .slice none 0 0, .int .u8 0, .int .u8 0, .int .i64 0, .slice none 0 0, .int .i64 0, .slice none 0 0, .slice none 0 0, .int .u8 1, .int .u8 0, .int .i64 0, .slice none 0 0, .int .i64 0, .slice none 0 0, .string ⟨#[49]⟩, .int .i64 (-1), .int .i64 1]
def vR5 : Value := .agg #[.int .u8 1, .int .u8 1, .int .i64 1, .slice none 0 0, .slice none 0 0, .int .i64 0, .int .i64 0, .slice none 0 0, .int .u8 0, .int .u8 0, .int .i64 0, .slice none 0 0, .int .i64 0, .slice none 0 0, .slice none 0 0, .int .u8 1, .int .u8 0, .int .i64 0, .slice none 0 0, .int .i64 0, .slice none 0 0, .string ⟨#[49]⟩, .int .i64 1001, .int .i64 1]
def vR6 : Value := .agg #[.int .u8 11, .int .u8 0, .int .i64 0, .slice none 0 0, .slice none 0 0, .int .i64 0, .int .i64 0, .slice none 0 0, .int .u8 0, .int .u8 0, .int .i64 0, .slice none 0 0, .int .i64 0, .slice none 0 0, .slice none 0 0, .int .u8 1, .int .u8 0, .int .i64 0, .slice none 0 0, .int .i64 0, .slice none 0 0, .string ⟨#[]⟩, .int .i64 0, .int .i64 10]
theorem lnumV (w : World) : Calls Tryz.prog 12 #[.int .i64 1] w fun e w' => e = .returned vN1 ∧ Below w.heap.size w w' := lnum_any 1 w
end Go.Proofs.YtojjdneicmbfjaaGreat
