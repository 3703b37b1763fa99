/- HaltWhole: for every term and value of bulk at most 1048576 and every number, the statement's function returns true, and its arguments read as they did. -/
import Derived.Carry
import Derived.ChangeMaps5
import Derived.JoinedCond
import Derived.OpenShut
import Derived.ProofKit
import Derived.Test.YtkdffbdnjfgpeaaGreatRows
import Derived.WalkKit
import Derived.Test.YtkdffbdnjfgpeaaGreatY1
import Derived.Test.YtkdffbdnjfgpeaaGreatY151
import Derived.Test.YtkdffbdnjfgpeaaGreatY140
set_option linter.all false
namespace Go.Proofs.YtkdffbdnjfgpeaaGreat.haltWhole
open Go.ChangeShapes Go.WideShapes Go.ChangeAt Go.ChangeMaps Go.RowKit
open Go.Proofs.YtkdffbdnjfgpeaaGreat

theorem own : ownKnob Tryz.prog.godebug = none := by kernel_rfl
theorem laidOut : laidOutB Tryz.prog = true := by kernel_rfl

theorem wfB {n : Int} (h : (Lit.int .u8 n).wf = true) : 0 ≤ n ∧ n ≤ 255 := by
  have h1 : (decide (0 ≤ n) && decide (n ≤ 255)) = true := h
  simpa using h1
set_option maxRecDepth 100000 in
theorem contract (H : Type) (enc : TypeId × Value → H) (W : World) (base : Nat) (args : Array Value) (ds gs : List (DataW H)) (before : List MemPlace)
    (hval : ∀ (j : Nat) t v, Tryz.f8.params[j]? = some t → args[j]? = some v → Value.okWide Tryz.prog W .any base t v)
    (hW : DataW.Whole enc Tryz.prog Tryz.f8.params.toList Rows.haltWholeSpec.vars false W args.toList ds gs before) (hk : Rows.uptoSmall H (ds ++ gs) = true) :
    Calls Tryz.prog 8 args W fun e W' => ∃ v, e = .returned v ∧ Rows.haltWholeSpec.post enc Tryz.prog Tryz.f8 false true false false W args v W' := by
  have hW' := hW
  obtain ⟨p, q, hA0, hV, rfl, hfz, hnd⟩ := hW
  have hA : DataW.TrodAll enc Tryz.prog W 0 (fun _ => true) true Tryz.f8.params.toList args.toList ds p := hA0
  rw [Tryz.params8] at hA hval
  obtain ⟨v0, vs0, d0, ds0, p0, q0, hargs, rfl, rfl, h0, r0⟩ := trodAll_cons hA
  obtain ⟨v1, vs1, d1, ds1, p1, q1, rfl, rfl, rfl, h1, r1⟩ := trodAll_cons r0
  obtain ⟨v2, vs2, d2, ds2, p2, q2, rfl, rfl, rfl, h2, r2⟩ := trodAll_cons r1
  obtain ⟨rfl, rfl, rfl⟩ := trodAll_nil r2
  obtain rfl : args = #[v0, v1, v2] := by cases args; simp_all
  obtain ⟨rfl, rfl⟩ := trodVars_none hV
  clear hA0
  simp only [List.append_nil] at hW' hk
  have hbulk : Rows.uptoBulkAll [d0, d1, d2] ≤ 1048576 := of_decide_eq_true hk
  have hlt : ∀ x ∈ p0 ++ (p1 ++ (p2)), x.block < W.heap.size := fun x hx => hW'.lt x (by simpa using hx)
  obtain ⟨n1, rfl, rfl, rfl, w1⟩ := open_int Tryz.underlying5 (hval 1 5 v1 rfl rfl) h1
  have hb : Rows.uptoBulk d0 + 1 + Rows.uptoBulk d2 ≤ 1048576 := by
    simp [Rows.uptoBulkAll, Rows.uptoBulk] at hbulk
    omega
  obtain ⟨c0, rfl, _⟩ := okWide_struct Tryz.underlying31 (hval 0 31 v0 rfl rfl)
  have h0k := h0
  obtain ⟨f0, hf0⟩ := h0
  obtain ⟨x0, m0, e0, a0, b0, z0⟩ := Zkr (B := 1048576) (Nat.le_refl _) _ _ _ hf0 (by show Rows.uptoBulk d0 ≤ _; omega)
  have hc0 : (Value.agg c0) = TV x0 m0 := by
    have : c0.toList = _ := e0
    congr 1
    exact Array.ext' this
  rw [hc0]
  have y0 : Zb x0 ≤ Rows.uptoBulk d0 := z0
  obtain ⟨c2, rfl, _⟩ := okWide_struct Tryz.underlying24 (hval 2 24 v2 rfl rfl)
  have h2k := h2
  obtain ⟨f2, hf2⟩ := h2
  obtain ⟨x2, m2, e2, a2, b2, z2⟩ := Zfl (B := 1048576) (Nat.le_refl _) _ _ _ hf2 (by show Rows.uptoBulk d2 ≤ _; omega)
  have hc2 : (Value.agg c2) = VV x2 m2 := by
    have : c2.toList = _ := e2
    congr 1
    exact Array.ext' this
  rw [hc2]
  have y2 : Zg x2 ≤ Rows.uptoBulk d2 := z2
  refine (hwhole_any W x0 (fun _ => True) m0 b0 (by omega) a0 n1 (wfB w1) x2 (fun _ => True) m2 b2 (by omega) a2).mono fun e W' ⟨he, hB⟩ => ?_
  subst he
  have g0 := Below.trod laidOut (by kernel_rfl) (of_decide_eq_true (by kernel_rfl)) h0k hB (fun x hx => hlt x (by simp [hx]))
  rw [hc0] at g0
  have g2 := Below.trod laidOut (by kernel_rfl) (of_decide_eq_true (by kernel_rfl)) h2k hB (fun x hx => hlt x (by simp [hx]))
  rw [hc2] at g2
  rw [hc0, hc2] at hW'
  refine ⟨_, rfl, _, _, _, [], p0 ++ ([] ++ (p2 ++ ([]))), [], hW', ?_, ?_, ?_, hB.frame _, fun h => by cases h⟩
  · exact trodAll_cons_mk (shut_bool Tryz.underlying4 _) trodAll_mk0
  · exact trodAll_cons_mk g0 (trodAll_cons_mk (shut_int Tryz.underlying5 w1) (trodAll_cons_mk g2 trodAll_mk0))
  · rfl

set_option maxRecDepth 100000 in
theorem lifted (os : Os) (started : os.Started) (H : Type) (enc : TypeId × Value → H) (F : Stop.Interp) :
    ReturnsInHanded {} Tryz.checked os 8 .any ((Rows.OpenSpec.upto Rows.haltWholeSpec).pre6 enc Tryz.prog Tryz.f8 Rows.haltWholeUptoRow.domain false) (((Rows.OpenSpec.upto Rows.haltWholeSpec).at F).post enc Tryz.prog Tryz.f8 false true false false) := by
  refine returnsInHanded_of_cond (C := Tryz.checked) (s := Rows.OpenSpec.upto Rows.haltWholeSpec) (k := Rows.uptoSmall) rfl own started (by kernel_rfl) Tryz.func8
    (OpenSpec.witness (enc := enc) (C := Tryz.checked) (s := Rows.OpenSpec.upto Rows.haltWholeSpec) (k := Rows.uptoSmall) rfl false ⟨#[], #[.agg #[.int .u8 0, .int .u8 0, .int .i64 0, .slice none 0 0, .slice none 0 0, .int .i64 0, .int .i64 0, .slice none 0 0, .int .u8 0, .int .u8 0, .int .i64 0, .slice none 0 0, .int .i64 0, .slice none 0 0, .slice none 0 0], .int .u8 0, .agg #[.int .u8 0, .int .i64 0, .slice none 0 0]], []⟩ 12 (by kernel_rfl) (by kernel_rfl) (by kernel_rfl)
      (x := ([.agg [.lit (.int .u8 0), .agg [.lit (.int .u8 0), .lit (.int .i64 0), .nil], .nil, .lit (.int .i64 0), .lit (.int .i64 0), .nil, .agg [.lit (.int .u8 0), .agg [.lit (.int .u8 0), .lit (.int .i64 0), .nil], .lit (.int .i64 0), .nil], .nil], .lit (.int .u8 0), .agg [.lit (.int .u8 0), .lit (.int .i64 0), .nil]], [], [])) (by kernel_rfl) rfl (by kernel_rfl)) ?_
  intro W base args ds gs before hval hW _ hk _
  exact contract H enc W base args ds gs before hval hW hk

theorem jf1 : (Rows.haltWholeUptoRow.inPlace == Tryz.pinned.checked.prog.inPlace 8) = true := by kernel_rfl
theorem jf2 : (Rows.haltWholeUptoRow.unfollowed == Tryz.pinned.checked.prog.unfollowed 8) = true := by kernel_rfl
theorem jf3 : (Rows.haltWholeUptoRow.recurses == Tryz.pinned.checked.prog.recurses 8) = true := by kernel_rfl
theorem jf4 : (Rows.haltWholeUptoRow.named == Tryz.pinned.checked.prog.varsNamed 8) = true := by kernel_rfl
theorem Zui : joinedFacts Tryz.pinned.checked.prog 8 Tryz.f8 (Rows.OpenSpec.upto Rows.haltWholeSpec).bare Rows.haltWholeUptoRow = true := by
  unfold joinedFacts
  rw [jf1, jf2, jf3, jf4]
  kernel_rfl
theorem W6 : Rows.haltWholeUptoRow.holds Tryz.pinned (Rows.OpenSpec.upto Rows.haltWholeSpec) :=
  OpenClaim.holds_of_cond 8 Tryz.f8 rfl rfl rfl rfl rfl rfl rfl ⟨rfl, rfl, rfl, rfl, rfl⟩ rfl rfl rfl rfl rfl (by kernel_rfl) Tryz.func8 Zui
    (of_decide_eq_true (by kernel_rfl)) (by unfold Func.isWrapper; first | (rw [if_pos (by decide +kernel)]; kernel_rfl) | (rw [if_neg (by decide +kernel)]; exact ⟨rfl, rfl⟩))
    (fun os started H enc _ F => lifted os started H enc F)

theorem proved : Rows.HaltWholeUptoSaid :=
  W6
end Go.Proofs.YtkdffbdnjfgpeaaGreat.haltWhole
