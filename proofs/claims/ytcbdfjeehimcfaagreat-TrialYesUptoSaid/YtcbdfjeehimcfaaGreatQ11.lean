/- What the proofs of the Trial statements need: part 12. -/
import Derived.WalkSmall
import Derived.Test.YtcbdfjeehimcfaaGreatQ0
import Derived.Test.YtcbdfjeehimcfaaGreatQ10
set_option maxRecDepth 100000
set_option maxHeartbeats 32000000
set_option linter.unusedVariables false
set_option linter.unusedSimpArgs false
namespace Go.Proofs.YtcbdfjeehimcfaaGreat
open Go Go.RowKit
def spendN (n k : Int) : Option Int := if 4096 < n + k then none else some (n + k)
def foldA (g : Int → GT → Option (Int × Int)) : List GT → Int → Int → Option (Int × Int)
 | [], d, n => some (d, n)
 | x :: l, d, n => match g n x with
  | none => none
  | some (d', n') => foldA g l (max d d') n'
def foldVs (k : Int) : List GV → Int → Int → Option (Int × Int)
 | [], d, n => some (d, n)
 | x :: l, d, n => match spendN n (k * sizeV x) with
  | none => none
  | some n' => foldVs k l (max d (deepV x)) n'
abbrev Env := List (GT × Int)
def stepS (g : GT → Env → Int → Int → Option (Int × Int)) (t : GT) (m : Int) (up : Env) (k n : Int) : Option (Int × Int) :=
 match spendN n k with
 | none => none
 | some n1 => if m = 0 then (match t.a[0]? with | some x => g x up k n1 | none => none) else (match t.a[1]? with | some x => g x ((t, m - 1) :: up) k n1 | none => none)
def plus1 : Option (Int × Int) → Option (Int × Int)
 | none => none
 | some (d, n) => some (1 + d, n)
/-- how deep a term's unfolding goes, and how many nodes it has, counted on from n, k times: none beyond 4096 -/
def wkT : Nat → GT → Env → Int → Int → Option (Int × Int)
 | 0, _, _, _, _ => none
 | f + 1, t, e, k, n =>
  if t.k = 1 then (match spendN n (k * sizeV t.v) with | none => none | some n' => some (deepV t.v, n'))
  else if t.k = 11 then (match e with | [] => none | (t', m) :: up => stepS (wkT f) t' m up k n)
  else if t.k = 10 then stepS (wkT f) t t.lo e k n
  else match spendN n k with
   | none => none
   | some n1 =>
    if t.k = 2 then some (1, n1)
    else if t.k = 4 then foldVs k t.vs 0 n1
    else if t.k = 6 then (match foldA (fun n x => wkT f x e (k * max 1 t.hi) n) t.a 0 n1 with | none => none | some (d, n2) => if t.hi = 0 then some (1, n2) else some (1 + d, n2))
    else if t.k = 3 ∨ t.k = 9 then foldA (fun n x => wkT f x e k n) t.a 0 n1
    else plus1 (foldA (fun n x => wkT f x e k n) t.a 0 n1)
mutual
/-- no node by itself is wrong, and each Ref stands in a Step -/
def goodT (inn : Bool) : GT → Prop
 | ⟨k, v, vs, lo, hi, ws, p, l⟩ => nodeT ⟨k, v, vs, lo, hi, ws, p, l⟩ = 0 ∧ (k = 11 → inn = true) ∧ goodTs inn k 0 l
def goodTs (inn : Bool) (k : Int) (i : Nat) : List GT → Prop
 | [] => True
 | x :: l => goodT (inn || stepB k i) x ∧ goodTs inn k (i + 1) l
end
theorem goodT_eq {inn : Bool} {t : GT} : goodT inn t ↔ nodeT t = 0 ∧ (t.k = 11 → inn = true) ∧ goodTs inn t.k 0 t.a := by cases t; simp only [goodT]
theorem goodTs.get {inn : Bool} {k : Int} : ∀ {l : List GT} {i : Nat}, goodTs inn k i l → ∀ j (h : j < l.length), goodT (inn || stepB k (i + j)) l[j]
 | [], _, _, j, h => absurd h (by simp)
 | x :: l, i, hx, 0, _ => by simp only [goodTs] at hx; exact hx.1
 | x :: l, i, hx, j + 1, h => by simp only [goodTs] at hx; have := goodTs.get hx.2 j (by simpa using h); rw [show i + (j + 1) = i + 1 + j by omega]; exact this
mutual
theorem good_of_chk (mo : Int) : ∀ (t : GT) (pl d : Int) (inn : Bool), (chkT pl d mo inn t).2 = 0 → goodT inn t
 | ⟨k, v, vs, lo, hi, ws, p, l⟩, pl, d, inn, h => by
  simp only [chkT] at h
  split at h
  ·simp at h
  ·split at h
   ·rename_i h1; exact absurd h h1
   ·rename_i h1
    split at h
    ·simp at h
    ·rename_i h2
     simp only [goodT]
     refine ⟨by simpa using h1, fun h3 => ?_, goods_of_chk mo l _ _ inn k 0 h⟩
     cases inn
     ·exact absurd ⟨h3, rfl⟩ h2
     ·rfl
theorem goods_of_chk (mo : Int) : ∀ (l : List GT) (pl d : Int) (inn : Bool) (k : Int) (i : Nat), (chkTs pl d mo inn k i l).2 = 0 → goodTs inn k i l
 | [], pl, d, inn, k, i, h => by simp only [goodTs]
 | x :: l, pl, d, inn, k, i, h => by
  simp only [chkTs] at h
  split at h
  ·rename_i h1; exact absurd h h1
  ·rename_i h1
   simp only [goodTs]
   exact ⟨good_of_chk mo x _ _ _ (by simpa using h1), goods_of_chk mo l _ _ _ _ _ h⟩
end
/-- what is known of a node that is not wrong -/
theorem node_ok {t : GT} (h : nodeT t = 0) : (1 ≤ t.k ∧ t.k ≤ 11) ∧ valuesE t = 0 ∧ weightsE t = 0 ∧ endsE t = 0 ∧ argumentsE t = 0 := by
 unfold nodeT at h
 (repeat' split at h) <;> simp_all <;> omega
theorem node_many {n a b : Int} (h : manyE n a b = 0) : a ≤ n ∧ n ≤ b := by
 unfold manyE at h; (repeat' split at h) <;> simp_all <;> omega
theorem node_sized {t : GT} (h : nodeT t = 0) (hk : t.k = 10) : t.a.length = 2 ∧ 0 ≤ t.lo ∧ t.lo ≤ 8 := by
 obtain ⟨_, _, _, h1, h2⟩ := node_ok h
 simp only [argumentsE, endsE, hk] at h1 h2
 simp [withinB] at h1
 have := node_many h2
 split at h1 <;> omega
theorem node_list {t : GT} (h : nodeT t = 0) (hk : t.k = 6) : t.a.length = 1 ∧ 0 ≤ t.lo ∧ t.lo ≤ t.hi ∧ t.hi ≤ 16 := by
 obtain ⟨_, _, _, h1, h2⟩ := node_ok h
 simp only [argumentsE, endsE, hk] at h1 h2
 simp [withinB] at h1
 have := node_many h2
 omega
/-- the frames of Sized that are about, the innermost first -/
def envOk (S : Nat) : Env → Prop
 | [] => True
 | (t, m) :: up => goodT (!up.isEmpty) t ∧ t.k = 10 ∧ okT t ∧ sizeT t ≤ S ∧ 0 ≤ m ∧ m ≤ 8 ∧ envOk S up
def REnv (w : World) (A : Nat → Prop) : Env → Option Addr → Prop
 | [], a => a = none
 | (t, m) :: up, a => ∃ b x a', a = some ⟨b, 0, none⟩ ∧ A b ∧ At w b 0 [.int .u8 t.k, .int .u8 t.v.k, .int .i64 t.v.n, .slice (TA.va x) t.v.l.length (TA.vc x), .slice (TA.vsa x) t.vs.length (TA.vsc x), .int .i64 t.lo, .int .i64 t.hi,
    .slice (TA.wa x) t.w.length (TA.wc x), .int .u8 t.p.k, .int .u8 t.p.v.k, .int .i64 t.p.v.n, .slice (TA.pva x) t.p.v.l.length (TA.pvc x), .int .i64 t.p.n, .slice (TA.pa x) t.p.a.length (TA.pc x), .slice (TA.a x) t.a.length (TA.c x), .int .i64 m, .pointer a'] ∧
   RT w A t x ∧ REnv w A up a'
theorem REnv.ext {w w' : World} {A : Nat → Prop} (h : Agree A w w') : ∀ (e : Env) a, REnv w A e a → REnv w' A e a
 | [], _, hx => hx
 | (t, m) :: up, a, hx => by
  simp only [REnv] at hx ⊢
  obtain ⟨b, x, a', e, hA, h0, h1, h2⟩ := hx
  exact ⟨b, x, a', e, hA, h0.ext h hA, RT.ext h t _ h1, REnv.ext h up _ h2⟩
theorem At17 {w b c0 c1 c2 c3 c4 c5 c6 c7 c8 c9 ca cb cc cd ce cf cg} : At w b 0 [c0, c1, c2, c3, c4, c5, c6, c7, c8, c9, ca, cb, cc, cd, ce, cf, cg] ↔ w.cell? ⟨b, 0, none⟩ = some c0 ∧ w.cell? ⟨b, 1, none⟩ = some c1 ∧ w.cell? ⟨b, 2, none⟩ = some c2 ∧
  w.cell? ⟨b, 3, none⟩ = some c3 ∧ w.cell? ⟨b, 4, none⟩ = some c4 ∧ w.cell? ⟨b, 5, none⟩ = some c5 ∧ w.cell? ⟨b, 6, none⟩ = some c6 ∧ w.cell? ⟨b, 7, none⟩ = some c7 ∧ w.cell? ⟨b, 8, none⟩ = some c8 ∧
  w.cell? ⟨b, 9, none⟩ = some c9 ∧ w.cell? ⟨b, 10, none⟩ = some ca ∧ w.cell? ⟨b, 11, none⟩ = some cb ∧ w.cell? ⟨b, 12, none⟩ = some cc ∧ w.cell? ⟨b, 13, none⟩ = some cd ∧ w.cell? ⟨b, 14, none⟩ = some ce ∧ w.cell? ⟨b, 15, none⟩ = some cf ∧ w.cell? ⟨b, 16, none⟩ = some cg := by
 simp only [At, Nat.add_assoc, Nat.reduceAdd, and_true, Nat.zero_add]
/-- the counter's cell -/
def Ctr (w : World) (c : Nat) (n : Int) : Prop := w.cell? ⟨c, 0, none⟩ = some (.int .i64 n) ∧ w.frozen? ⟨c, 0, none⟩ = false
/-- how a walk over terms ends: with how deep, the counter at n', or by the panic -/
def WkR (c : Nat) (w : World) (r : Option (Int × Int)) : Ending → World → Prop := fun e w' => But c w.heap.size w w' ∧
 match r with
 | some (d, n) => e = .returned (.int .i64 d) ∧ Ctr w' c n
 | none => e = .panicked [{ v := .iface 128 (.agg #[]), recovered := false }]
/-- how spend ends -/
def SpR (c : Nat) (w : World) (r : Option Int) : Ending → World → Prop := fun e w' => But c w.heap.size w w' ∧
 match r with
 | some n => e = .returned (.tuple #[]) ∧ Ctr w' c n
 | none => e = .panicked [{ v := .iface 128 (.agg #[]), recovered := false }]
theorem spend_any (c : Nat) (n k : Int) (w : World) (hc : c < w.heap.size) (hn : 0 ≤ n ∧ n ≤ 4096) (hk : 0 ≤ k ∧ k ≤ 144115188075855872) (hl : Ctr w c n) :
  Calls Tryz.prog 124 #[.pointer (some ⟨c, 0, none⟩), .int .i64 k] w (SpR c w (spendN n k)) := by
 obtain ⟨h1, h2⟩ := hl
 obtain ⟨n1, n2⟩ := hn
 obtain ⟨k1, k2⟩ := hk
 by_cases h : 4096 < n + k
 ·rw [spendN, if_pos h]
  go_enter Tryz.func124, Tryz.ntmps124
  go_wp2_with fail
  exact ⟨rfl, But.z, rfl⟩
 ·rw [spendN, if_neg h]
  go_enter Tryz.func124, Tryz.ntmps124
  go_wp2_with fail
  go_end0
  exact ⟨But.z, rfl, by go_simp, by go_simp⟩
end Go.Proofs.YtcbdfjeehimcfaaGreat
namespace Go.Proofs.YtcbdfjeehimcfaaGreat
open Go Go.RowKit
mutual
/-- a term, with s for each Self that belongs to no Sized in it -/
def putT (s : GT) : GT → GT
 | ⟨k, v, vs, lo, hi, ws, p, l⟩ => if k = 11 then s else ⟨k, v, vs, lo, hi, ws, p, putTs s k 0 l⟩
def putTs (s : GT) (k : Int) (i : Nat) : List GT → List GT
 | [] => []
 | x :: l => (if stepB k i = true then x else putT s x) :: putTs s k (i + 1) l
end
theorem putT_eq (s t : GT) : putT s t = if t.k = 11 then s else ⟨t.k, t.v, t.vs, t.lo, t.hi, t.w, t.p, putTs s t.k 0 t.a⟩ := by cases t; simp only [putT]
theorem putTs_length (s : GT) (k : Int) : ∀ (l : List GT) (i : Nat), (putTs s k i l).length = l.length
 | [], _ => by simp [putTs]
 | x :: l, i => by simp [putTs, putTs_length s k l (i + 1)]
theorem putTs_get (s : GT) (k : Int) : ∀ (l : List GT) (i j : Nat) (h : j < l.length) (h' : j < (putTs s k i l).length), (putTs s k i l)[j] = if stepB k (i + j) = true then l[j] else putT s l[j]
 | x :: l, i, 0, _, _ => by simp [putTs]
 | x :: l, i, j + 1, h, h' => by
  have := putTs_get s k l (i + 1) j (by simpa using h) (by rw [putTs_length]; simpa using h)
  simp only [putTs, List.getElem_cons_succ]
  rw [this, show i + 1 + j = i + (j + 1) by omega]
theorem putTs_take (s : GT) (k : Int) (l : List GT) (j : Nat) (h : j < l.length) : (putTs s k 0 l).take (j + 1) = (putTs s k 0 l).take j ++ [if stepB k j = true then l[j] else putT s l[j]] := by
 have h' : j < (putTs s k 0 l).length := by rw [putTs_length]; exact h
 rw [List.take_succ_eq_append_getElem h', putTs_get s k l 0 j h h', Nat.zero_add]
theorem nodeT_args (k : Int) (v : GV) (vs : List GV) (lo hi : Int) (ws : List Int) (p : GP) (l l' : List GT) (h : l'.length = l.length) : nodeT ⟨k, v, vs, lo, hi, ws, p, l'⟩ = nodeT ⟨k, v, vs, lo, hi, ws, p, l⟩ := by
 simp only [nodeT, valuesE, restV, weightsE, restW, endsE, argumentsE, h]
mutual
theorem putT_good {b : Bool} {s : GT} (hs : goodT b s) : ∀ (t : GT), goodT true t → goodT b (putT s t)
 | ⟨k, v, vs, lo, hi, ws, p, l⟩, h => by
  simp only [putT]
  split
  ·exact hs
  ·rename_i hk
   simp only [goodT] at h ⊢
   refine ⟨?_, fun e => absurd e hk, putTs_good hs k l 0 h.2.2⟩
   rw [nodeT_args k v vs lo hi ws p l _ (putTs_length s k l 0)]
   exact h.1
theorem putTs_good {b : Bool} {s : GT} (hs : goodT b s) (k : Int) : ∀ (l : List GT) (i : Nat), goodTs true k i l → goodTs b k i (putTs s k i l)
 | [], _, _ => by simp only [putTs, goodTs]
 | x :: l, i, h => by
  simp only [goodTs, putTs] at h ⊢
  refine ⟨?_, putTs_good hs k l (i + 1) h.2⟩
  cases hb : stepB k i
  ·have := putT_good hs x (by simpa using h.1)
   simpa using this
  ·simpa using h.1
end
mutual
theorem putT_ok {s : GT} (hs : okT s) : ∀ (t : GT), okT t → okT (putT s t)
 | ⟨k, v, vs, lo, hi, ws, p, l⟩, h => by
  simp only [putT]
  split
  ·exact hs
  ·simp only [okT] at h ⊢
   obtain ⟨h1, h2, h3, h4, h5, h6, h7, h8, h9⟩ := h
   exact ⟨h1, h2, h3, h4, h5, h6, h7, by rw [putTs_length]; exact h8, putTs_ok hs k l 0 h9⟩
theorem putTs_ok {s : GT} (hs : okT s) (k : Int) : ∀ (l : List GT) (i : Nat), okTs l → okTs (putTs s k i l)
 | [], _, _ => by simp only [putTs, okTs]
 | x :: l, i, h => by
  simp only [okTs, putTs] at h ⊢
  refine ⟨?_, putTs_ok hs k l (i + 1) h.2⟩
  split
  ·exact h.1
  ·exact putT_ok hs x h.1
end
/-- a Sized with one step less -/
def lessT (t : GT) : GT := ⟨t.k, t.v, t.vs, t.lo - 1, t.hi, t.w, t.p, t.a⟩
theorem sizeT_less (t : GT) : sizeT (lessT t) = sizeT t := by cases t; simp only [lessT, sizeT]
theorem within_pos {t : GT} (hk : t.k = 10) (hn : nodeT t = 0) : 0 ≤ t.lo ∧ t.lo ≤ 8 ∧ t.a.length = 2 := by
 unfold nodeT at hn
 rw [if_neg (by omega)] at hn
 by_cases h1 : valuesE t = 0
 case neg => rw [if_pos h1] at hn; exact absurd hn h1
 rw [if_neg (by simp [h1])] at hn
 by_cases h2 : weightsE t = 0
 case neg => rw [if_pos h2] at hn; exact absurd hn h2
 rw [if_neg (by simp [h2])] at hn
 by_cases h3 : endsE t = 0
 case neg => rw [if_pos h3] at hn; exact absurd hn h3
 rw [if_neg (by simp [h3])] at hn
 unfold endsE at h3
 rw [if_neg (by omega), if_neg (by omega), if_neg (by omega), if_pos hk] at h3
 unfold argumentsE manyE at hn
 rw [if_neg (by omega), if_neg (by omega), if_neg (by omega), if_pos hk] at hn
 have hw : withinB t.lo 0 8 = true := by
  cases h : withinB t.lo 0 8
  ·simp [h] at h3
  ·rfl
 have hw' : 0 ≤ t.lo ∧ t.lo ≤ 8 := by simpa [withinB] using hw
 refine ⟨hw'.1, hw'.2, ?_⟩
 split at hn
 ·omega
 ·split at hn
  ·omega
  ·omega
theorem less_node {t : GT} (hk : t.k = 10) (hl : t.lo ≠ 0) (hn : nodeT t = 0) : nodeT (lessT t) = 0 := by
 obtain ⟨h0, h1, _⟩ := within_pos hk hn
 obtain ⟨k, v, vs, lo, hi, ws, p, l⟩ := t
 dsimp only at hk hl h0 h1
 subst hk
 have e1 : withinB lo 0 8 = true := by simp [withinB]; omega
 have e2 : withinB (lo - 1) 0 8 = true := by simp [withinB]; omega
 have : endsE ⟨10, v, vs, lo - 1, hi, ws, p, l⟩ = endsE ⟨10, v, vs, lo, hi, ws, p, l⟩ := by simp [endsE, e1, e2]
 simp only [nodeT, lessT, valuesE, restV, weightsE, restW, argumentsE] at hn ⊢
 rw [this]
 exact hn
theorem less_good {t : GT} {b : Bool} (hk : t.k = 10) (hl : t.lo ≠ 0) (hg : goodT b t) : goodT b (lessT t) := by
 have h := goodT_eq.1 hg
 exact goodT_eq.2 ⟨less_node hk hl h.1, h.2.1, h.2.2⟩
theorem less_ok {t : GT} (h0 : 0 < t.lo) (h : okT t) : okT (lessT t) := by
 obtain ⟨h1, h2, h3, ⟨h4, h4'⟩, h5⟩ := okT_iff.1 h
 exact okT_iff.2 ⟨h1, h2, h3, ⟨by show _ ≤ t.lo - 1; omega, by show t.lo - 1 ≤ _; omega⟩, h5⟩
/-- what a Sized is unfolded to by one step -/
def stepT (t : GT) (a b : GT) : GT := if t.lo = 0 then a else putT (lessT t) b
theorem step_good {t : GT} (hk : t.k = 10) (hg : goodT false t) (h2 : 1 < t.a.length) : goodT false (stepT t t.a[0] t.a[1]) := by
 have h := goodT_eq.1 hg
 have g0 := h.2.2.get 0 (by omega)
 have g1 := h.2.2.get 1 h2
 unfold stepT
 split
 ·simpa [stepB] using g0
 ·rename_i hl
  exact putT_good (less_good hk hl hg) _ (by simpa [stepB, hk] using g1)
/-- sizes of what stands in a term that is in order -/
theorem size_of_checkV {v : GV} (h : checkV v = 0) : sizeV v ≤ 4096 := by
 unfold checkV at h
 split at h
 ·omega
 ·split at h
  ·omega
  ·split at h
   ·omega
   ·omega
end Go.Proofs.YtcbdfjeehimcfaaGreat
namespace Go.Proofs.YtcbdfjeehimcfaaGreat
open Go Go.RowKit
/-- a bulk is told, at least 1 and at most one above M -/
def BulkR (M : Int) (w : World) (e : Ending) (w' : World) : Prop := (∃ r : Int, e = .returned (.int .i64 r) ∧ 1 ≤ r ∧ r ≤ M + 1) ∧ Below w.heap.size w w'
theorem head_of_node {t : GT} (hn : nodeT t = 0) : headE t = 0 ∧ weightsE t = 0 ∧ endsE t = 0 ∧ argumentsE t = 0 ∧ restV t = 0 ∧ 1 ≤ t.k ∧ t.k ≤ 11 := by
 unfold nodeT at hn
 by_cases hk : t.k < 1 ∨ 11 < t.k
 ·rw [if_pos hk] at hn; omega
 rw [if_neg hk] at hn
 by_cases h1 : valuesE t = 0
 case neg => rw [if_pos h1] at hn; exact absurd hn h1
 rw [if_neg (by simp [h1])] at hn
 by_cases h2 : weightsE t = 0
 case neg => rw [if_pos h2] at hn; exact absurd hn h2
 rw [if_neg (by simp [h2])] at hn
 by_cases h3 : endsE t = 0
 case neg => rw [if_pos h3] at hn; exact absurd hn h3
 rw [if_neg (by simp [h3])] at hn
 have hv := valuesE_head t
 rw [h1] at hv
 by_cases h4 : headE t = 0
 case neg => rw [if_pos h4] at hv; omega
 rw [if_neg (by simp [h4])] at hv
 exact ⟨h4, h2, h3, hn, hv.symm, by omega, by omega⟩
theorem many_at {n a b : Int} (h : manyE n a b = 0) : a ≤ n ∧ n ≤ b := by
 unfold manyE at h
 split at h
 ·omega
 ·split at h
  ·omega
  ·omega
theorem freq_len {l : List Int} (h : freqE l = 0) : l.length ≤ 64 := by
 unfold freqE at h
 split at h
 ·omega
 ·split at h
  ·omega
  ·omega
theorem firstVs_all : ∀ (l : List GV), firstVs l = 0 → ∀ j (hj : j < l.length), checkV l[j] = 0
 | [], _, j, hj => absurd hj (by simp)
 | x :: l, h, j, hj => by
  unfold firstVs at h
  by_cases hx : checkV x = 0
  ·rw [if_neg (by simp [hx])] at h
   cases j with
   | zero => exact hx
   | succ j => exact firstVs_all l h j (by simpa using hj)
  ·rw [if_pos hx] at h; exact absurd h hx
theorem row_at {t : GT} (hk : t.k = 4) (hn : nodeT t = 0) : t.vs.length ≤ 64 ∧ ∀ j (hj : j < t.vs.length), checkV t.vs[j] = 0 := by
 obtain ⟨_, h2, _, h4, h5, _, _⟩ := head_of_node hn
 unfold restV at h5
 rw [if_neg (by omega)] at h5
 unfold weightsE at h2
 rw [if_neg (by omega)] at h2
 have h6 : restW t = 0 := by
  split at h2
  ·exact h2
  ·omega
 unfold restW at h6
 rw [if_neg (by omega)] at h6
 have h7 := freq_len h6
 unfold argumentsE at h4
 rw [if_neg (by omega), if_neg (by omega), if_neg (by omega), if_neg (by omega), if_pos hk] at h4
 have h8 : manyE (t.vs.length : Int) (t.w.length : Int) (t.w.length : Int) = 0 := by
  split at h4
  ·omega
  ·omega
 have := many_at h8
 exact ⟨by omega, firstVs_all _ h5⟩
theorem one_at {t : GT} (hk : t.k = 6) (hn : nodeT t = 0) : t.a.length = 1 ∧ 0 ≤ t.lo ∧ t.hi ≤ 16 ∧ 0 ≤ t.hi := by
 obtain ⟨_, _, h3, h4, _, _, _⟩ := head_of_node hn
 unfold endsE at h3
 rw [if_neg (by omega), if_pos hk] at h3
 unfold argumentsE at h4
 rw [if_neg (by omega), if_neg (by omega), if_pos (by omega)] at h4
 have := many_at h4
 have h9 : (withinB t.lo 0 t.hi && withinB t.hi t.lo 16) = true := by
  split at h3
  ·assumption
  ·omega
 simp [withinB] at h9
 omega
theorem value_at {t : GT} (hk : t.k = 1) (hn : nodeT t = 0) : checkV t.v = 0 := by
 have := (head_of_node hn).1
 unfold headE at this
 rw [if_pos hk] at this
 exact this
end Go.Proofs.YtcbdfjeehimcfaaGreat
