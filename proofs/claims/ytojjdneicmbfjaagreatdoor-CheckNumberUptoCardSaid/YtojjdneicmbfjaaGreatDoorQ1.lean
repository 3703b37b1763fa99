/- What the proofs of the Trial statements need: part 2. -/
import Derived.Test.YtojjdneicmbfjaaGreatDoorProg
import Derived.Test.YtojjdneicmbfjaaGreatDoorQ0
set_option linter.unusedVariables false
set_option linter.unusedSimpArgs false
namespace Go.Proofs.YtojjdneicmbfjaaGreatDoor
open Go Go.RowKit
theorem ret_int {k : IntKind} {a b : Int} (h : a = b) : Ending.returned (.int k a) = .returned (.int k b) := by rw [h]
theorem ret_bool {a b : Bool} (h : a = b) : Ending.returned (.bool a) = .returned (.bool b) := by rw [h]
theorem ret_ii {j k : IntKind} {a b c d : Int} (h : a = c) (h' : b = d) : Ending.returned (.tuple #[.int j a, .int k b]) = .returned (.tuple #[.int j c, .int k d]) := by rw [h, h']
theorem ret_ib {j : IntKind} {a c : Int} {b d : Bool} (h : a = c) (h' : b = d) : Ending.returned (.tuple #[.int j a, .bool b]) = .returned (.tuple #[.int j c, .bool d]) := by rw [h, h']
def nodeV (x : GV) : Int :=
 if x.k = 1 then (if x.n < -1099511627776 ∨ 1099511627776 < x.n then 1 else if 0 < (x.l.length : Int) then 3 else 0)
 else if x.k = 2 then (if x.n ≠ 0 ∧ x.n ≠ 1 then 1 else if 0 < (x.l.length : Int) then 3 else 0)
 else if x.k = 3 ∨ x.k = 4 then (if x.n ≠ 0 then 3 else if 64 < (x.l.length : Int) then 5 else 0)
 else 11
def leafB (k : Int) : Bool := k == 1 || k == 2
theorem leaf_any (k : Int) (w : World) (hk : isU8 k) : Calls Tryz.prog 223 #[.int .u8 k] w fun e w' => e = .returned (.bool (leafB k)) ∧ w = w' := by
 obtain ⟨h0, h1⟩ := hk
 generalize hF : leafB k = F
 have HF := Lib.hid hF
 clear hF
 go_enter Tryz.func223, Tryz.ntmps223
 go_wp2_with fail
 all_goals go_ret
 all_goals exact ⟨ret_bool (by rw [← HF.out]; simp [leafB, *]), rfl⟩
set_option maxRecDepth 100000 in
theorem wrong_any (x : GV) (m : VA) (w : World) (ox : isU8 x.k ∧ isI64 x.n ∧ x.l.length ≤ 1048576) :
  Calls Tryz.prog 202 #[VV x m] w fun e w' => e = .returned (.int .i64 (nodeV x)) ∧ Below w.heap.size w w' := by
 obtain ⟨⟨x1, x2⟩, ⟨x3, x4⟩, x5⟩ := ox
 obtain ⟨ma, mc⟩ := m
 have hu8 := Lib.hid (show isU8 x.k from ⟨x1, x2⟩)
 generalize hF : nodeV x = F
 have HF := Lib.hid hF
 clear hF
 go_enter Tryz.func202, Tryz.ntmps202
 go_wp2_with (go_at_call 223; refine (leaf_any _ _ hu8.out).mono ?_; rintro e w' ⟨rfl, rfl⟩)
 all_goals go_ret
 all_goals refine ⟨ret_int ?_, Below.z⟩
 all_goals rw [← HF.out]
 all_goals unfold nodeV
 all_goals (try unfold leafB at *)
 all_goals (first | rfl | omega | ((try simp only [beq_iff_eq, beq_eq_false_iff_ne, bne_iff_ne, bne_eq_false_iff_eq, decide_eq_true_eq, decide_eq_false_iff_not, ne_eq, Bool.and_eq_true, Bool.or_eq_true, Bool.and_eq_false_iff, Bool.or_eq_false_iff, Bool.not_eq_true', Bool.not_eq_false'] at *); (repeat' split) <;> first | rfl | omega | contradiction | (simp_all; done) | (simp_all; omega)))
def noneV (x : GV) : Bool := x.k == 0 && x.n == 0 && (x.l.length : Int) == 0
set_option maxRecDepth 100000 in
theorem none_any (x : GV) (m : VA) (w : World) (ox : isU8 x.k ∧ isI64 x.n ∧ x.l.length ≤ 1048576) :
  Calls Tryz.prog 161 #[VV x m] w fun e w' => e = .returned (.bool (noneV x)) ∧ Below w.heap.size w w' := by
 obtain ⟨⟨x1, x2⟩, ⟨x3, x4⟩, x5⟩ := ox
 obtain ⟨ma, mc⟩ := m
 generalize hF : noneV x = F
 have HF := Lib.hid hF
 clear hF
 go_enter Tryz.func161, Tryz.ntmps161
 go_wp2_with fail
 all_goals go_ret
 all_goals refine ⟨ret_bool ?_, Below.z⟩
 all_goals rw [← HF.out]
 all_goals unfold noneV
 all_goals (first | (simp; done) | (simp [*]; done) | (simp_all; done) | (simp_all; omega) | (simp; omega))
set_option maxRecDepth 100000 in
theorem tnone_any (x : GV) (m : VA) (w : World) (ox : isU8 x.k ∧ isI64 x.n ∧ x.l.length ≤ 1048576) :
  Calls Tryz.prog 206 #[VV x m] w fun e w' => e = .returned (.bool (noneV x)) ∧ Below w.heap.size w w' := by
 obtain ⟨⟨x1, x2⟩, ⟨x3, x4⟩, x5⟩ := ox
 obtain ⟨ma, mc⟩ := m
 generalize hF : noneV x = F
 have HF := Lib.hid hF
 clear hF
 go_enter Tryz.func206, Tryz.ntmps206
 go_wp2_with fail
 all_goals go_ret
 all_goals refine ⟨ret_bool ?_, Below.z⟩
 all_goals rw [← HF.out]
 all_goals unfold noneV
 all_goals (first | (simp; done) | (simp [*]; done) | (simp_all; done) | (simp_all; omega) | (simp; omega))
set_option maxRecDepth 100000 in
theorem r19none_any (x : GV) (m : VA) (w : World) (ox : isU8 x.k ∧ isI64 x.n ∧ x.l.length ≤ 1048576) :
  Calls Tryz.prog 190 #[VV x m] w fun e w' => e = .returned (.bool (noneV x)) ∧ Below w.heap.size w w' := by
 obtain ⟨⟨x1, x2⟩, ⟨x3, x4⟩, x5⟩ := ox
 obtain ⟨ma, mc⟩ := m
 generalize hF : noneV x = F
 have HF := Lib.hid hF
 clear hF
 go_enter Tryz.func190, Tryz.ntmps190
 go_wp2_with fail
 all_goals go_ret
 all_goals refine ⟨ret_bool ?_, Below.z⟩
 all_goals rw [← HF.out]
 all_goals unfold noneV
 all_goals (first | (simp; done) | (simp [*]; done) | (simp_all; done) | (simp_all; omega) | (simp; omega))
set_option maxRecDepth 100000 in
theorem r17none_any (x : GV) (m : VA) (w : World) (ox : isU8 x.k ∧ isI64 x.n ∧ x.l.length ≤ 1048576) :
  Calls Tryz.prog 155 #[VV x m] w fun e w' => e = .returned (.bool (noneV x)) ∧ Below w.heap.size w w' := by
 obtain ⟨⟨x1, x2⟩, ⟨x3, x4⟩, x5⟩ := ox
 obtain ⟨ma, mc⟩ := m
 generalize hF : noneV x = F
 have HF := Lib.hid hF
 clear hF
 go_enter Tryz.func155, Tryz.ntmps155
 go_wp2_with fail
 all_goals go_ret
 all_goals refine ⟨ret_bool ?_, Below.z⟩
 all_goals rw [← HF.out]
 all_goals unfold noneV
 all_goals (first | (simp; done) | (simp [*]; done) | (simp_all; done) | (simp_all; omega) | (simp; omega))
def hasValueB (k : Int) : Bool := k == 3 || k == 4
theorem hasValue_any (k : Int) (w : World) (hk : isU8 k) : Calls Tryz.prog 110 #[.int .u8 k] w fun e w' => e = .returned (.bool (hasValueB k)) ∧ Below w.heap.size w w' := by
 obtain ⟨h0, h1⟩ := hk
 generalize hF : hasValueB k = F
 have HF := Lib.hid hF
 clear hF
 go_enter Tryz.func110, Tryz.ntmps110
 go_wp2_with fail
 all_goals go_ret
 all_goals refine ⟨ret_bool ?_, Below.z⟩
 all_goals rw [← HF.out]
 all_goals unfold hasValueB
 all_goals (first | (simp; done) | (simp [*]; done) | (simp_all; done) | (simp_all; omega) | (simp; omega))
def rowB (k : Int) : Bool := k == 3 || k == 4
set_option maxRecDepth 100000 in
theorem row_any (x : GV) (m : VA) (w : World) (hk : isU8 x.k) : Calls Tryz.prog 275 #[VV x m] w fun e w' => e = .returned (.bool (rowB x.k)) ∧ Below w.heap.size w w' := by
 obtain ⟨h0, h1⟩ := hk
 obtain ⟨ma, mc⟩ := m
 generalize hF : rowB x.k = F
 have HF := Lib.hid hF
 clear hF
 go_enter Tryz.func275, Tryz.ntmps275
 go_wp2_with fail
 all_goals go_ret
 all_goals refine ⟨ret_bool ?_, Below.z⟩
 all_goals rw [← HF.out]
 all_goals unfold rowB
 all_goals (first | (simp; done) | (simp [*]; done) | (simp_all; done) | (simp_all; omega) | (simp; omega))
set_option maxRecDepth 100000 in
theorem r17row_any (x : GV) (m : VA) (w : World) (hk : isU8 x.k) : Calls Tryz.prog 157 #[VV x m] w fun e w' => e = .returned (.bool (rowB x.k)) ∧ Below w.heap.size w w' := by
 obtain ⟨h0, h1⟩ := hk
 obtain ⟨ma, mc⟩ := m
 generalize hF : rowB x.k = F
 have HF := Lib.hid hF
 clear hF
 go_enter Tryz.func157, Tryz.ntmps157
 go_wp2_with fail
 all_goals go_ret
 all_goals refine ⟨ret_bool ?_, Below.z⟩
 all_goals rw [← HF.out]
 all_goals unfold rowB
 all_goals (first | (simp; done) | (simp [*]; done) | (simp_all; done) | (simp_all; omega) | (simp; omega))
def unlessE (b : Bool) : Int := if b then 0 else 3
theorem unless_any (b : Bool) (w : World) : Calls Tryz.prog 205 #[.bool b] w fun e w' => e = .returned (.int .i64 (unlessE b)) ∧ Below w.heap.size w w' := by
 generalize hF : unlessE b = F
 have HF := Lib.hid hF
 clear hF
 cases b
 ·go_enter Tryz.func205, Tryz.ntmps205
  go_wp2_with fail
  all_goals go_ret
  all_goals refine ⟨ret_int ?_, Below.z⟩
  all_goals rw [← HF.out]
  all_goals unfold unlessE
  all_goals (first | rfl | omega | ((try simp only [beq_iff_eq, beq_eq_false_iff_ne, bne_iff_ne, bne_eq_false_iff_eq, decide_eq_true_eq, decide_eq_false_iff_not, ne_eq, Bool.and_eq_true, Bool.or_eq_true, Bool.and_eq_false_iff, Bool.or_eq_false_iff, Bool.not_eq_true', Bool.not_eq_false'] at *); (repeat' split) <;> first | rfl | omega | contradiction | (simp_all; done) | (simp_all; omega)))
 ·go_enter Tryz.func205, Tryz.ntmps205
  go_wp2_with fail
  all_goals go_ret
  all_goals refine ⟨ret_int ?_, Below.z⟩
  all_goals rw [← HF.out]
  all_goals unfold unlessE
  all_goals (first | rfl | omega | ((try simp only [beq_iff_eq, beq_eq_false_iff_ne, bne_iff_ne, bne_eq_false_iff_eq, decide_eq_true_eq, decide_eq_false_iff_not, ne_eq, Bool.and_eq_true, Bool.or_eq_true, Bool.and_eq_false_iff, Bool.or_eq_false_iff, Bool.not_eq_true', Bool.not_eq_false'] at *); (repeat' split) <;> first | rfl | omega | contradiction | (simp_all; done) | (simp_all; omega)))
def withinB (n a b : Int) : Bool := decide (a ≤ n) && decide (n ≤ b)
theorem within_any (n a b : Int) (w : World) (hn : isI64 n) (ha : isI64 a) (hb : isI64 b) : Calls Tryz.prog 208 #[.int .i64 n, .int .i64 a, .int .i64 b] w fun e w' => e = .returned (.bool (withinB n a b)) ∧ Below w.heap.size w w' := by
 obtain ⟨h0, h1⟩ := hn
 obtain ⟨h2, h3⟩ := ha
 obtain ⟨h4, h5⟩ := hb
 generalize hF : withinB n a b = F
 have HF := Lib.hid hF
 clear hF
 go_enter Tryz.func208, Tryz.ntmps208
 go_wp2_with fail
 all_goals go_ret
 all_goals refine ⟨ret_bool ?_, Below.z⟩
 all_goals rw [← HF.out]
 all_goals unfold withinB
 all_goals (first | (simp; done) | (simp [*]; done) | (simp_all; done) | (simp_all; omega) | (simp; omega))
def manyE (n a b : Int) : Int := if n < a then 4 else if b < n then 5 else 0
theorem many_any (n a b : Int) (w : World) (hn : isI64 n) (ha : isI64 a) (hb : isI64 b) : Calls Tryz.prog 209 #[.int .i64 n, .int .i64 a, .int .i64 b] w fun e w' => e = .returned (.int .i64 (manyE n a b)) ∧ Below w.heap.size w w' := by
 obtain ⟨h0, h1⟩ := hn
 obtain ⟨h2, h3⟩ := ha
 obtain ⟨h4, h5⟩ := hb
 generalize hF : manyE n a b = F
 have HF := Lib.hid hF
 clear hF
 go_enter Tryz.func209, Tryz.ntmps209
 go_wp2_with fail
 all_goals go_ret
 all_goals refine ⟨ret_int ?_, Below.z⟩
 all_goals rw [← HF.out]
 all_goals unfold manyE
 all_goals (first | rfl | omega | ((try simp only [beq_iff_eq, beq_eq_false_iff_ne, bne_iff_ne, bne_eq_false_iff_eq, decide_eq_true_eq, decide_eq_false_iff_not, ne_eq, Bool.and_eq_true, Bool.or_eq_true, Bool.and_eq_false_iff, Bool.or_eq_false_iff, Bool.not_eq_true', Bool.not_eq_false'] at *); (repeat' split) <;> first | rfl | omega | contradiction | (simp_all; done) | (simp_all; omega)))
theorem r19many_any (n a b : Int) (w : World) (hn : isI64 n) (ha : isI64 a) (hb : isI64 b) : Calls Tryz.prog 141 #[.int .i64 n, .int .i64 a, .int .i64 b] w fun e w' => e = .returned (.int .i64 (manyE n a b)) ∧ Below w.heap.size w w' := by
 obtain ⟨h0, h1⟩ := hn
 obtain ⟨h2, h3⟩ := ha
 obtain ⟨h4, h5⟩ := hb
 generalize hF : manyE n a b = F
 have HF := Lib.hid hF
 clear hF
 go_enter Tryz.func141, Tryz.ntmps141
 go_wp2_with fail
 all_goals go_ret
 all_goals refine ⟨ret_int ?_, Below.z⟩
 all_goals rw [← HF.out]
 all_goals unfold manyE
 all_goals (first | rfl | omega | ((try simp only [beq_iff_eq, beq_eq_false_iff_ne, bne_iff_ne, bne_eq_false_iff_eq, decide_eq_true_eq, decide_eq_false_iff_not, ne_eq, Bool.and_eq_true, Bool.or_eq_true, Bool.and_eq_false_iff, Bool.or_eq_false_iff, Bool.not_eq_true', Bool.not_eq_false'] at *); (repeat' split) <;> first | rfl | omega | contradiction | (simp_all; done) | (simp_all; omega)))
def mayB (k n : Int) : Bool := decide (0 ≤ n) && decide (n ≤ 64) && decide (0 ≤ k) && decide (k ≤ n)
theorem may_any (k n : Int) (w : World) (hn : isI64 n) (hk : isI64 k) : Calls Tryz.prog 182 #[.int .i64 k, .int .i64 n] w fun e w' => e = .returned (.bool (mayB k n)) ∧ Below w.heap.size w w' := by
 obtain ⟨h0, h1⟩ := hn
 obtain ⟨h2, h3⟩ := hk
 generalize hF : mayB k n = F
 have HF := Lib.hid hF
 clear hF
 go_enter Tryz.func182, Tryz.ntmps182
 go_wp2_with fail
 all_goals go_ret
 all_goals refine ⟨ret_bool ?_, Below.z⟩
 all_goals rw [← HF.out]
 all_goals unfold mayB
 all_goals (first | (simp; done) | (simp [*]; done) | (simp_all; done) | (simp_all; omega) | (simp; omega))
theorem r13may_any (k n : Int) (w : World) (hn : isI64 n) (hk : isI64 k) : Calls Tryz.prog 199 #[.int .i64 k, .int .i64 n] w fun e w' => e = .returned (.bool (mayB k n)) ∧ Below w.heap.size w w' := by
 obtain ⟨h0, h1⟩ := hn
 obtain ⟨h2, h3⟩ := hk
 generalize hF : mayB k n = F
 have HF := Lib.hid hF
 clear hF
 go_enter Tryz.func199, Tryz.ntmps199
 go_wp2_with fail
 all_goals go_ret
 all_goals refine ⟨ret_bool ?_, Below.z⟩
 all_goals rw [← HF.out]
 all_goals unfold mayB
 all_goals (first | (simp; done) | (simp [*]; done) | (simp_all; done) | (simp_all; omega) | (simp; omega))
mutual
def sameV : GV → GV → Bool
 | ⟨k, n, l⟩, ⟨k', n', l'⟩ => k == k' && n == n' && sameVs l l'
def sameVs : List GV → List GV → Bool
 | [], [] => true
 | x :: l, y :: l' => sameV x y && sameVs l l'
 | _, _ => false
end
theorem sameV_eq (x y : GV) : sameV x y = (x.k == y.k && x.n == y.n && sameVs x.l y.l) := by cases x; cases y; simp only [sameV]
theorem sameVs_len : ∀ (l l' : List GV), l.length ≠ l'.length → sameVs l l' = false
 | [], [], h => absurd rfl h
 | [], _ :: _, _ => by simp [sameVs]
 | _ :: _, [], _ => by simp [sameVs]
 | x :: l, y :: l', h => by simp [sameVs, sameVs_len l l' (by simpa using h)]
theorem sameVs_all : ∀ (l l' : List GV), l.length = l'.length → (∀ i (h : i < l.length) (h' : i < l'.length), sameV l[i] l'[i] = true) → sameVs l l' = true
 | [], [], _, _ => by simp [sameVs]
 | x :: l, y :: l', h, g => by
  have g0 := g 0 (by simp) (by simp)
  simp at g0
  simp only [sameVs, g0, Bool.true_and]
  exact sameVs_all l l' (by simpa using h) fun i hi hi' => by have := g (i + 1) (by simpa using hi) (by simpa using hi'); simpa only [List.getElem_cons_succ] using this
theorem sameVs_one : ∀ (l l' : List GV) i (h : i < l.length) (h' : i < l'.length), sameV l[i] l'[i] = false → sameVs l l' = false
 | x :: l, y :: l', 0, _, _, g => by simp at g; simp [sameVs, g]
 | x :: l, y :: l', i + 1, h, h', g => by
  have := sameVs_one l l' i (by simpa using h) (by simpa using h') (by simpa using g)
  simp [sameVs, this]
set_option maxRecDepth 100000 in
theorem same_any (N : Nat) : ∀ (x y : GV) (w : World) (A A' : Nat → Prop) (m m' : VA), sizeV x ≤ N → okV x → okV y → RVs w A x.l m.a → RVs w A' y.l m'.a →
  Calls Tryz.prog 26 #[VV x m, VV y m'] w fun e w' => e = .returned (.bool (sameV x y)) ∧ Below w.heap.size w w' := by
 induction N with
 | zero => intro x; have := sizeV_pos x; intros; omega
 | succ N ih =>
  rintro x y w A A' ⟨ma, mc⟩ ⟨ma', mc'⟩ hN ox oy hl hl'
  dsimp only at hl hl'
  have IH := Lib.hid ih
  have HL := Lib.hid hl
  have HL' := Lib.hid hl'
  rw [sizeV_eq] at hN
  clear hl hl' ih
  obtain ⟨⟨x1, x2⟩, ⟨x3, x4⟩, x5, ox'⟩ := okV_iff.1 ox
  obtain ⟨⟨y1, y2⟩, ⟨y3, y4⟩, y5, oy'⟩ := okV_iff.1 oy
  have O := Lib.hid (And.intro ox' oy')
  clear ox oy ox' oy'
  rw [sameV_eq]
  generalize hF : (x.k == y.k && x.n == y.n && sameVs x.l y.l) = F
  by_cases hk : x.k = y.k
  case neg =>
   have hk' : (x.k != y.k) = true := by simpa using hk
   go_enter Tryz.func26, Tryz.ntmps26
   go_wp2_with fail
   go_ret
   exact ⟨by rw [← hF]; simp [hk], ((Below.refl _ _).alloc (by simp) _).alloc (by simp) _⟩
  have hk' : (x.k != y.k) = false := by simpa using hk
  have HK := Lib.hid hk
  by_cases hn : x.n = y.n
  case neg =>
   have hn' : (x.n != y.n) = true := by simpa using hn
   clear hk
   go_enter Tryz.func26, Tryz.ntmps26
   go_wp2_with fail
   go_ret
   exact ⟨by rw [← hF]; simp [hn], ((Below.refl _ _).alloc (by simp) _).alloc (by simp) _⟩
  have hn' : (x.n != y.n) = false := by simpa using hn
  have HN := Lib.hid hn
  by_cases hll : x.l.length = y.l.length
  case neg =>
   have hll' : ((x.l.length : Int) != (y.l.length : Int)) = true := by simp; omega
   clear hk hn
   go_enter Tryz.func26, Tryz.ntmps26
   go_wp2_with fail
   go_ret
   exact ⟨by rw [← hF]; simp [sameVs_len _ _ hll], ((Below.refl _ _).alloc (by simp) _).alloc (by simp) _⟩
  have hll' : ((x.l.length : Int) != (y.l.length : Int)) = false := by simp; omega
  have HLL := Lib.hid hll
  clear hk hn hll
  have HF := Lib.hid hF
  clear hF
  go_enter Tryz.func26, Tryz.ntmps26
  go_wp2_with fail
  go_loopg [31] (x.l.length) (fun gk i wr => ∃ j : Nat, gk + j = x.l.length ∧ i = .int .i64 j ∧ Hid (∀ q (h : q < x.l.length) (h' : q < y.l.length), q < j → sameV x.l[q] y.l[q] = true) ∧ Below w.heap.size w wr ∧ w.heap.size + 1 < wr.heap.size ∧ wr.cell? ⟨w.heap.size + 1, 2, none⟩ = some (.slice ma' y.l.length mc'))
  case atStart => exact ⟨0, by omega, rfl, fun q h h' hq => absurd hq (by omega), ((Below.refl _ _).alloc (by simp) _).alloc (by simp) _, by simp, by go_simp⟩
  case round =>
   obtain ⟨j, hj, rfl, HS, hb, hz, hcell⟩ := hrel
   by_cases hlt : j < x.l.length
   ·have hlt' : j < y.l.length := by have := HLL.out; omega
    obtain ⟨b, o, mj, rfl, hA, hbs, g0, gx⟩ := HL.out.get j hlt
    obtain ⟨b', o', mj', rfl, hA', hbs', g0', gy⟩ := HL'.out.get j hlt'
    obtain ⟨k0, k1, k2⟩ := At3.1 (g0.ext (Agree.below hb) (A := fun _ => True) trivial)
    obtain ⟨k0', k1', k2'⟩ := At3.1 (g0'.ext (Agree.below hb) (A := fun _ => True) trivial)
    have hs1 : b < wr.heap.size := by omega
    have hs2 : b' < wr.heap.size := by omega
    clear hbs hbs' g0 g0'
    go_wp2_with fail
    refine wp_tail 6 (by kernel_rfl) (by kernel_rfl) ?_
    simp only [List.take_succ_cons, List.take_zero, List.drop_succ_cons, List.drop_zero]
    repeat still_step
    refine wpStill_nil ?_
    go_wp2_with (go_at_call 26; refine (IH.out x.l[j] y.l[j] _ A A' mj mj' (by have := sizeVs_get x.l j hlt; omega) (O.out.1.get j hlt) (O.out.2.get j hlt')
      (by exact RV_iff.1 (RV.ext (Agree.below (hb.alloc (by omega) _).drew) _ _ gx)) (by exact RV_iff.1 (RV.ext (Agree.below (hb.alloc (by omega) _).drew) _ _ gy))).mono ?_; rintro e2 w2 ⟨rfl, hb2⟩)
    all_goals have hbb : Below w.heap.size w w2 := ((hb.alloc (by omega) _).drew).trans (hb2.mono (by simp; omega))
    ·have hne : sameV x.l[j] y.l[j] = false := by simpa using ‹(!sameV x.l[j] y.l[j]) = true›
     go_ret
     exact ⟨by rw [← HF.out]; simp [sameVs_one _ _ j hlt hlt' hne], hbb⟩
    ·have hne : sameV x.l[j] y.l[j] = true := by simpa using ‹(!sameV x.l[j] y.l[j]) = false›
     have hz2 := hb2.size
     have hcell2 : w2.cell? ⟨w.heap.size + 1, 2, none⟩ = some (.slice (some ⟨b', o', none⟩) y.l.length mc') := by
      rw [hb2.cell (by simp; omega)]; go_simp
     go_roundg (gk - 1)
     case rel => exact ⟨j + 1, by omega, by go_num, fun q h h' hq => (by
      by_cases hqj : q = j
      ·subst hqj; exact hne
      ·exact HS.out q h h' (by omega)), hbb, by simp at hz2; omega, hcell2⟩
     case measure => omega
   ·have hjl : j = x.l.length := by omega
    go_wp2_with fail
    go_ret
    refine ⟨?_, hb⟩
    rw [← HF.out]; simp [HK.out, HN.out, sameVs_all _ _ HLL.out fun i h h' => HS.out i h h' (by omega)]
set_option maxRecDepth 100000 in
theorem r14same_any (N : Nat) : ∀ (x y : GV) (w : World) (A A' : Nat → Prop) (m m' : VA), sizeV x ≤ N → okV x → okV y → RVs w A x.l m.a → RVs w A' y.l m'.a →
  Calls Tryz.prog 15 #[VV x m, VV y m'] w fun e w' => e = .returned (.bool (sameV x y)) ∧ Below w.heap.size w w' := by
 induction N with
 | zero => intro x; have := sizeV_pos x; intros; omega
 | succ N ih =>
  rintro x y w A A' ⟨ma, mc⟩ ⟨ma', mc'⟩ hN ox oy hl hl'
  dsimp only at hl hl'
  have IH := Lib.hid ih
  have HL := Lib.hid hl
  have HL' := Lib.hid hl'
  rw [sizeV_eq] at hN
  clear hl hl' ih
  obtain ⟨⟨x1, x2⟩, ⟨x3, x4⟩, x5, ox'⟩ := okV_iff.1 ox
  obtain ⟨⟨y1, y2⟩, ⟨y3, y4⟩, y5, oy'⟩ := okV_iff.1 oy
  have O := Lib.hid (And.intro ox' oy')
  clear ox oy ox' oy'
  rw [sameV_eq]
  generalize hF : (x.k == y.k && x.n == y.n && sameVs x.l y.l) = F
  by_cases hk : x.k = y.k
  case neg =>
   have hk' : (x.k != y.k) = true := by simpa using hk
   go_enter Tryz.func15, Tryz.ntmps15
   go_wp2_with fail
   go_ret
   exact ⟨by rw [← hF]; simp [hk], ((Below.refl _ _).alloc (by simp) _).alloc (by simp) _⟩
  have hk' : (x.k != y.k) = false := by simpa using hk
  have HK := Lib.hid hk
  by_cases hn : x.n = y.n
  case neg =>
   have hn' : (x.n != y.n) = true := by simpa using hn
   clear hk
   go_enter Tryz.func15, Tryz.ntmps15
   go_wp2_with fail
   go_ret
   exact ⟨by rw [← hF]; simp [hn], ((Below.refl _ _).alloc (by simp) _).alloc (by simp) _⟩
  have hn' : (x.n != y.n) = false := by simpa using hn
  have HN := Lib.hid hn
  by_cases hll : x.l.length = y.l.length
  case neg =>
   have hll' : ((x.l.length : Int) != (y.l.length : Int)) = true := by simp; omega
   clear hk hn
   go_enter Tryz.func15, Tryz.ntmps15
   go_wp2_with fail
   go_ret
   exact ⟨by rw [← hF]; simp [sameVs_len _ _ hll], ((Below.refl _ _).alloc (by simp) _).alloc (by simp) _⟩
  have hll' : ((x.l.length : Int) != (y.l.length : Int)) = false := by simp; omega
  have HLL := Lib.hid hll
  clear hk hn hll
  have HF := Lib.hid hF
  clear hF
  go_enter Tryz.func15, Tryz.ntmps15
  go_wp2_with fail
  go_loopg [5] (x.l.length) (fun gk i wr => ∃ j : Nat, gk + j = x.l.length ∧ i = .int .i64 j ∧ Hid (∀ q (h : q < x.l.length) (h' : q < y.l.length), q < j → sameV x.l[q] y.l[q] = true) ∧ Below w.heap.size w wr ∧ w.heap.size + 1 < wr.heap.size ∧ wr.cell? ⟨w.heap.size, 2, none⟩ = some (.slice ma x.l.length mc) ∧ wr.cell? ⟨w.heap.size + 1, 2, none⟩ = some (.slice ma' y.l.length mc'))
  case atStart => exact ⟨0, by omega, rfl, fun q h h' hq => absurd hq (by omega), ((Below.refl _ _).alloc (by simp) _).alloc (by simp) _, by simp, by go_simp, by go_simp⟩
  case round =>
   obtain ⟨j, hj, rfl, HS, hb, hz, hcx, hcell⟩ := hrel
   by_cases hlt : j < x.l.length
   ·have hlt' : j < y.l.length := by have := HLL.out; omega
    obtain ⟨b, o, mj, rfl, hA, hbs, g0, gx⟩ := HL.out.get j hlt
    obtain ⟨b', o', mj', rfl, hA', hbs', g0', gy⟩ := HL'.out.get j hlt'
    obtain ⟨k0, k1, k2⟩ := At3.1 (g0.ext (Agree.below hb) (A := fun _ => True) trivial)
    obtain ⟨k0', k1', k2'⟩ := At3.1 (g0'.ext (Agree.below hb) (A := fun _ => True) trivial)
    have hs1 : b < wr.heap.size := by omega
    have hs2 : b' < wr.heap.size := by omega
    clear hbs hbs' g0 g0'
    go_wp2_with fail
    refine wp_tail 10 (by kernel_rfl) (by kernel_rfl) ?_
    simp only [List.take_succ_cons, List.take_zero, List.drop_succ_cons, List.drop_zero]
    repeat still_step
    refine wpStill_nil ?_
    go_wp2_with (go_at_call 15; refine (IH.out x.l[j] y.l[j] _ A A' mj mj' (by have := sizeVs_get x.l j hlt; omega) (O.out.1.get j hlt) (O.out.2.get j hlt')
      (by exact RV_iff.1 (RV.ext (Agree.below hb.drew) _ _ gx)) (by exact RV_iff.1 (RV.ext (Agree.below hb.drew) _ _ gy))).mono ?_; rintro e2 w2 ⟨rfl, hb2⟩)
    all_goals have hbb : Below w.heap.size w w2 := hb.drew.trans (hb2.mono (by simp; omega))
    ·have hne : sameV x.l[j] y.l[j] = false := by simpa using ‹(!sameV x.l[j] y.l[j]) = true›
     go_ret
     exact ⟨by rw [← HF.out]; simp [sameVs_one _ _ j hlt hlt' hne], hbb⟩
    ·have hne : sameV x.l[j] y.l[j] = true := by simpa using ‹(!sameV x.l[j] y.l[j]) = false›
     have hz2 := hb2.size
     have hcell2 : w2.cell? ⟨w.heap.size + 1, 2, none⟩ = some (.slice (some ⟨b', o', none⟩) y.l.length mc') := by
      rw [hb2.cell (by simp; omega)]; go_simp
     have hcellx : w2.cell? ⟨w.heap.size, 2, none⟩ = some (.slice (some ⟨b, o, none⟩) x.l.length mc) := by
      rw [hb2.cell (by simp; omega)]; go_simp
     go_roundg (gk - 1)
     case rel => exact ⟨j + 1, by omega, by go_num, fun q h h' hq => (by
      by_cases hqj : q = j
      ·subst hqj; exact hne
      ·exact HS.out q h h' (by omega)), hbb, by simp at hz2; omega, hcellx, hcell2⟩
     case measure => omega
   ·have hjl : j = x.l.length := by omega
    go_wp2_with fail
    go_ret
    refine ⟨?_, hb⟩
    rw [← HF.out]; simp [HK.out, HN.out, sameVs_all _ _ HLL.out fun i h h' => HS.out i h h' (by omega)]
mutual
theorem sameV_self : ∀ x : GV, sameV x x = true
 | ⟨k, n, l⟩ => by simp only [sameV, sameVs_self l, beq_self_eq_true, Bool.and_self]
theorem sameVs_self : ∀ l : List GV, sameVs l l = true
 | [] => rfl
 | x :: l => by simp only [sameVs, sameV_self x, sameVs_self l, Bool.and_self]
end
theorem same_self (x : GV) (w : World) (A A' : Nat → Prop) (m m' : VA) (ox : okV x) (h1 : RV w A x m.a) (h2 : RV w A' x m'.a) :
  Calls Tryz.prog 26 #[VV x m, VV x m'] w fun e w' => e = .returned (.bool true) ∧ Below w.heap.size w w' := by
 have h := same_any (sizeV x) x x w A A' m m' (Nat.le_refl _) ox ox (RV_iff.1 h1) (RV_iff.1 h2)
 rw [sameV_self] at h
 exact h
end Go.Proofs.YtojjdneicmbfjaaGreatDoor
