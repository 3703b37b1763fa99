/- What the proofs of the Trial statements need: part 48. -/
import Derived.Deep.MidRow
import Derived.Deep.WholeRow
import Derived.Great.BuildSlice
import Derived.Test.YtojjdneicmbfjaaGreatQ20
import Derived.Test.YtojjdneicmbfjaaGreatQ21
import Derived.Test.YtojjdneicmbfjaaGreatQ46
set_option linter.unusedVariables false
set_option linter.unusedSimpArgs false
namespace Go.Proofs.YtojjdneicmbfjaaGreat
open Go Go.RowKit
theorem At_cell {w : World} {b : Nat} : ∀ {l : List Value} {o : Nat}, At w b o l → ∀ j v, l[j]? = some v → w.cell? ⟨b, o + j, none⟩ = some v
 | [], _, _, j, v, h => by simp at h
 | x :: l, o, h, 0, v, e => by simp at e; rw [← e]; exact h.1
 | x :: l, o, h, j + 1, v, e => by
  have := At_cell h.2 j v (by simpa using e)
  rwa [show o + 1 + j = o + (j + 1) by omega] at this
theorem At_range {w : World} {b o : Nat} {l : List Value} (h : At w b o l) : w.rangeAt b o l := At_cell h
theorem wpl_named {P : Program} {ops : Array Oper} {Q : Exit → Act → World → Prop} {rest : List Oper} {a : Act} {W : World} (F : World → Prop) (hF : F W) (h : ∀ W1, F W1 → wpList P ops Q rest a W1) : wpList P ops Q rest a W := h W hF
theorem wpList_store_new {P : Program} {ops : Array Oper} {rest : List Oper} {op : Oper} {a : Act} {w : World} {Q : Exit → Act → World → Prop} (hgd : op.guard = none) (ty : TypeId) (x y : Operand) (ho : op.op = .store ty x y)
  (c c' : Array Value) (hx : a.eval x = .pointer (some ⟨w.heap.size, 0, none⟩)) (hy : a.eval y = .agg c') (hi : (P.info? ty).map (·.size) = some c'.size) (hs : c.size = c'.size) (h1 : c'.all (·.oneCell') = true)
  (h : wpList P ops Q rest (a.put op.dst undef) (w.alloc (.cells c' ty))) : wpList P ops Q (op :: rest) a (w.alloc (.cells c ty)) :=
 wpList_plain hgd fun _ hK => by
  unfold Oper.wp execOp
  simp only [ho, hx, hy, Instr.storeAt, Instr.sureAddr, Sem.run_bind, Sem.run_pure, Result.andThen_ok, run_storeVar_new w ty c c' hi hs h1]
  exact hK _ _ h
theorem wanted_none {op : Oper} (h : op.guard = none) (f : Nat → Option Bool) : Region.wanted op f = true := by
 unfold Region.wanted
 rw [h]
theorem bR1 (w : World) : (Instr.build 46 #[(0, vT0), (1, vP99), (2, .string ⟨#[50]⟩), (3, .int .i64 (-1)), (4, .int .i64 11)]).run Tryz.prog w = .ok vR1 w := by
 simp only [vT0, vP99, vR1]
 go_simp
theorem bR2 (w : World) : (Instr.build 46 #[(0, vN1), (1, vP99), (2, .string ⟨#[50]⟩), (3, .int .i64 (-1)), (4, .int .i64 3)]).run Tryz.prog w = .ok vR2 w := by
 simp only [vN1, vP99, vR2]
 go_simp
theorem bR3 (w : World) : (Instr.build 46 #[(0, vN1), (1, vP5), (2, .string ⟨#[49]⟩), (3, .int .i64 (-1)), (4, .int .i64 4)]).run Tryz.prog w = .ok vR3 w := by
 simp only [vN1, vP5, vR3]
 go_simp
theorem bR4 (w : World) : (Instr.build 46 #[(0, vN1), (1, vP1), (2, .string ⟨#[49]⟩), (3, .int .i64 (-1)), (4, .int .i64 1)]).run Tryz.prog w = .ok vR4 w := by
 simp only [vN1, vP1, vR4]
 go_simp
theorem bR5 (w : World) : (Instr.build 46 #[(0, vN1), (1, vP1), (2, .string ⟨#[49]⟩), (3, .int .i64 1001), (4, .int .i64 1)]).run Tryz.prog w = .ok vR5 w := by
 simp only [vN1, vP1, vR5]
 go_simp
theorem bR6 (w : World) : (Instr.build 46 #[(0, vT11), (1, vP1), (2, .string ⟨#[]⟩), (3, .int .i64 0), (4, .int .i64 10)]).run Tryz.prog w = .ok vR6 w := by
 simp only [vT11, vP1, vR6]
 go_simp
theorem infoRow : (Tryz.prog.info? 46).map (fun i => (i.zero, i.size, i.bytes)) = some (some (.agg #[.int .u8 0, .int .u8 0, .int .i64 0, .slice none 0 0, .slice none 0 0, .int .i64 0, .int .i64 0, .slice none 0 0, .int .u8 0, .int .u8 0, .int .i64 0, .slice none 0 0, .int .i64 0, .slice none 0 0, .slice none 0 0, .int .u8 0, .int .u8 0, .int .i64 0, .slice none 0 0, .int .i64 0, .slice none 0 0, .string ⟨#[]⟩, .int .i64 0, .int .i64 0]), 24, 328) := by kernel_rfl
theorem bSl (w : World) : (Instr.buildSlice 47 6 #[(0, vR1), (1, vR2), (2, vR3), (3, vR4), (4, vR5), (5, vR6)]).run Tryz.prog w = .ok (.slice (some ⟨w.heap.size, 0, none⟩) 6 6) (w.alloc (.cells (row1 ++ (row2 ++ (row3 ++ (row4 ++ (row5 ++ row6))))).toArray 46)) := by
 obtain ⟨ie, hie, y0, y1, y2⟩ := info_parts infoRow
 exact run_buildSlice w 47 46 6 _ _ ie _ Tryz.underlying47 hie y0 (by rw [y1]; decide) (by rw [y1]; decide) (by rw [y1]; kernel_rfl)
theorem wp_bSl {o : Oper} {a : Act} {w : World} {d : Tmp} {K : Act → World → Prop} {Q : Exit → Act → World → Prop} {parts : Array (Nat × Operand)} (hd : o.dst = some d) (ho : o.op = .buildSlice 47 6 parts)
  (hp : (parts.map fun (i, x) => (i, a.eval x)) = #[(0, vR1), (1, vR2), (2, vR3), (3, vR4), (4, vR5), (5, vR6)])
  (h : K (a.put (some d) (.slice (some ⟨w.heap.size, 0, none⟩) 6 6)) (w.alloc (.cells (row1 ++ (row2 ++ (row3 ++ (row4 ++ (row5 ++ row6))))).toArray 46))) : o.wp Tryz.prog a w K Q := by
 unfold Oper.wp execOp
 rw [← hd] at h
 simp only [ho, Sem.run_bind, hp, bSl, Result.andThen_ok]
 exact h
theorem yields_build {P : Program} {ops : Array Oper} {S : World → Prop} {op : Oper} {a : Act} {t : TypeId} {parts : Array (Nat × Operand)} {ps : Array (Nat × Value)} {v : Value} (hg : op.guard = none) (ho : op.op = .build t parts)
  (hb : ∀ w, (Instr.build t ps).run P w = .ok v w) (hp : (parts.map fun (i, x) => (i, a.eval x)) = ps) : YieldsIf P ops S op v a :=
 .inl ⟨wanted_none hg _, fun w _ => by
  unfold execOp
  simp only [ho, Sem.run_bind, hp, hb, Result.andThen_ok, Sem.run_pure]⟩
theorem there_new {w : World} {cs : Array Value} {T : TypeId} {b n : Nat} (hb : b = w.heap.size) (hn : n ≤ cs.size) : (w.alloc (.cells cs T)).there b 0 n := fun j hj => by
 subst hb
 have h0 : (w.alloc (.cells cs T)).heap[w.heap.size]? = some (.cells cs T (0, 0)) := heap_alloc_last w _
 constructor
 ·rw [cell_of_row _ _ (0 + j) cs T (0, 0) h0]
  rw [Nat.zero_add, Array.getElem?_eq_getElem (by omega)]
  rfl
 ·unfold World.frozen?
  rw [h0]
  simp
theorem there_old {w : World} {o : Obj} {b n : Nat} (h : w.there b 0 n) : (w.alloc o).there b 0 n := World.there_alloc h o
theorem there_drew {w : World} {b n : Nat} (h : w.there b 0 n) : w.drew.there b 0 n := (World.there_drew w b 0 n).2 h
theorem there_below {w w' : World} {b n : Nat} (h : w.there b 0 n) (hb : Below w.heap.size w w') : w'.there b 0 n := fun j hj => by
 obtain ⟨h1, h2⟩ := h j hj
 obtain ⟨v, hv⟩ := Option.isSome_iff_exists.1 h1
 have hlt := World.block_lt_of_cell? _ _ hv
 refine ⟨by rw [hb.cell hlt]; exact h1, ?_⟩
 have := (bcells hb).2 b (0 + j) hlt
 rw [this]; exact h2
theorem At_set {w : World} {b o : Nat} {l vs : List Value} {c : Nat} (h : At w b o l) (hne : b ≠ c) : At (w.setCells c 0 vs) b o l :=
 At_all l o fun j v hj => (World.rangeAt_setCells_apart (At_range h) c 0 vs (.inl hne)) j v hj
theorem At_same {w : World} {c : Nat} {vs : List Value} (h : w.there c 0 vs.length) : At (w.setCells c 0 vs) c 0 vs :=
 At_all vs 0 fun j v hj => World.rangeAt_setCells_same w c 0 vs h j v hj
theorem below_set {B : Nat} {a w : World} {c : Nat} {vs : List Value} (h : Below B a w) (hc : B ≤ c) : Below B a (w.setCells c 0 vs) := by
 have : ∀ (vs : List Value) (o : Nat) (w : World), Below B a w → Below B a (w.setCells c o vs) := by
  intro vs
  induction vs with
  | nil => intro o w h; exact h
  | cons v r ih => intro o w h; rw [World.setCells]; exact ih (o + 1) _ (h.setCell (p := ⟨c, o, none⟩) hc v)
 exact this vs 0 w h
theorem size_set {w : World} {c : Nat} {vs : List Value} : (w.setCells c 0 vs).heap.size = w.heap.size := by
 have : ∀ (vs : List Value) (o : Nat) (w : World), (w.setCells c o vs).heap.size = w.heap.size := by
  intro vs
  induction vs with
  | nil => intro o w; rfl
  | cons v r ih => intro o w; rw [World.setCells, ih]; simp
 exact this vs 0 w
theorem At2 {w : World} {b : Nat} {x y : Value} (h : At w b 0 [x, y]) : w.cell? ⟨b, 0, none⟩ = some x ∧ w.cell? ⟨b, 1, none⟩ = some y := ⟨h.1, h.2.1⟩
end Go.Proofs.YtojjdneicmbfjaaGreat
