/- Part 147. -/
import Derived.Test.YtkdffbdnjfgpeaaGreatY145
import Derived.Test.YtkdffbdnjfgpeaaGreatY140
set_option linter.all false
namespace Go.Proofs.YtkdffbdnjfgpeaaGreat
open Go Go.RowKit
set_option maxRecDepth 100000 in
theorem each_any (x y : Nat) (h64 : x + y < 18446744073709551616) (B : Nat) (w : World) (A A2 : Nat → Prop) (a b : Option Addr) (c d : Nat) (hB : B < w.heap.size) (hAB : ¬ A B) (hAB2 : ¬ A2 B) (hr : RL w A (W7 x) a) (hs : RL w A2 (W7 y) b) (h0 : w.cell? ⟨B, 0, none⟩ = some (.int .u64 0)) (hf : w.frozen? ⟨B, 0, none⟩ = false) :
    Calls Tryz.prog 234 #[.slice a (W7 x).length c, .slice b (W7 y).length d, .func (.func 235) #[] #[.pointer (some ⟨B, 0, none⟩)]] w fun e w' => But B w.heap.size w w' ∧ ∃ a' c', e = .returned (.slice a' (W7 (x + y)).length ((W7 (x + y)).length + c')) ∧ RL w' (fun b => w.heap.size ≤ b) (W7 (x + y)) a' := by
  rcases Nat.eq_zero_or_pos x with rfl | hx0 <;> rcases Nat.eq_zero_or_pos y with rfl | hy0
  · exact each_zz B w A A2 a b c d hB hAB hAB2 hr hs h0 hf
  · have := each_zy y hy0 (0 + y) rfl h64 B w A A2 a b c d hB hAB hAB2 hr hs h0 hf
    rw [show (W7 y).length = 1 by rw [W8 hy0]; rfl]; exact this
  · have := each_xz x hx0 (x + 0) rfl h64 B w A A2 a b c d hB hAB hAB2 hr hs h0 hf
    rw [show (W7 x).length = 1 by rw [W8 hx0]; rfl]; exact this
  · have := each_xy x hx0 y hy0 (x + y) rfl h64 B w A A2 a b c d hB hAB hAB2 hr hs h0 hf
    rw [show (W7 x).length = 1 by rw [W8 hx0]; rfl, show (W7 y).length = 1 by rw [W8 hy0]; rfl]; exact this
set_option maxRecDepth 100000 in
theorem nadd_any (x y : Nat) (w : World) (A A2 : Nat → Prop) (a b : Option Addr) (c d : Nat) (h64 : x + y < 18446744073709551616) (hr : RL w A (W7 x) a) (hs : RL w A2 (W7 y) b) :
    Calls Tryz.prog 168 #[.slice a (W7 x).length c, .slice b (W7 y).length d] w fun e w' => Below w.heap.size w w' ∧ ∃ a' c', e = .returned (.slice a' (W7 (x + y)).length ((W7 (x + y)).length + c')) ∧ RL w' (fun b => w.heap.size ≤ b) (W7 (x + y)) a' := by
  have HE := Lib.hid (fun (W : World) (A A2 : Nat → Prop) (B : Nat) h1 h2 h3 h4 h5 h6 h7 => each_any x y h64 B W A A2 a b c d h1 h2 h3 h4 h5 h6 h7)
  have HR := Lib.hid (RL.mono (A' := fun b => b < w.heap.size) (fun b h hb => hb) hr)
  have HS := Lib.hid (RL.mono (A' := fun b => b < w.heap.size) (fun b h hb => hb) hs)
  generalize W7 (x + y) = lz at *
  generalize W7 x = lx at *
  generalize W7 y = ly at *
  clear hr hs
  go_enter Tryz.func168, Tryz.ntmps168
  go_wp2_with (go_at_call 234; refine (HE.out _ (fun b => b < w.heap.size) (fun b => b < w.heap.size) w.heap.size (by simp) (by simp) (by simp) (by exact RL.ext (Agree.below (by (repeat (first | with_reducible exact Below.refl _ _ | with_reducible assumption | with_reducible refine Below.trans ?_ (Below.mono (by with_reducible assumption) (by first | omega | (simp; done) | (simp; omega))) | with_reducible refine Below.drew ?_ | with_reducible refine Below.alloc ?_ (by first | omega | (simp; done) | (simp; omega)) _ | with_reducible refine Below.setCell ?_ (by first | omega | (simp; done) | (simp; omega)) _)))) HR.out) (by exact RL.ext (Agree.below (by (repeat (first | with_reducible exact Below.refl _ _ | with_reducible assumption | with_reducible refine Below.trans ?_ (Below.mono (by with_reducible assumption) (by first | omega | (simp; done) | (simp; omega))) | with_reducible refine Below.drew ?_ | with_reducible refine Below.alloc ?_ (by first | omega | (simp; done) | (simp; omega)) _ | with_reducible refine Below.setCell ?_ (by first | omega | (simp; done) | (simp; omega)) _)))) HS.out) (by go_simp) (by go_simp)).mono ?_; rintro e w1 ⟨hb1, a1, c1, rfl, hr1⟩; have HR1 := Lib.hid hr1; clear hr1; have hz1 := hb1.size; (try simp at hz1))
  go_ret
  exact ⟨Below.trans (b := w.alloc _) (by (repeat (first | with_reducible exact Below.refl _ _ | with_reducible assumption | with_reducible refine Below.trans ?_ (Below.mono (by with_reducible assumption) (by first | omega | (simp; done) | (simp; omega))) | with_reducible refine Below.drew ?_ | with_reducible refine Below.alloc ?_ (by first | omega | (simp; done) | (simp; omega)) _ | with_reducible refine Below.setCell ?_ (by first | omega | (simp; done) | (simp; omega)) _))) ((hb1.mono (by simp)).below (Nat.le_refl _)), a1, c1, rfl, RL.mono (fun b h _ => by (try simp at h); omega) HR1.out⟩
theorem nmul_z (y : Nat) (hy0 : 0 < y) (w : World) (a b : Option Addr) (c d : Nat) :
    Calls Tryz.prog 69 #[.slice a 0 c, .slice b 1 d] w fun e w' => Below w.heap.size w w' ∧ ∃ a' c', e = .returned (.slice a' 0 (0 + c')) := by
  have hmk := Zth
  go_enter Tryz.func69, Tryz.ntmps69
  go_wp2_with fail
  go_loopg [22] 0 (fun gk t22' wr => gk = 0 ∧ t22' = .int .i64 0 ∧ Below w.heap.size w wr ∧ w.heap.size < wr.heap.size ∧ wr.cell? ⟨w.heap.size, 0, none⟩ = some (.int .u64 0))
  case atStart => exact ⟨rfl, rfl, (by (repeat (first | with_reducible exact Below.refl _ _ | with_reducible assumption | with_reducible refine Below.trans ?_ (Below.mono (by with_reducible assumption) (by first | omega | (simp; done) | (simp; omega))) | with_reducible refine Below.drew ?_ | with_reducible refine Below.alloc ?_ (by first | omega | (simp; done) | (simp; omega)) _ | with_reducible refine Below.setCell ?_ (by first | omega | (simp; done) | (simp; omega)) _))), by simp, by go_simp⟩
  case round =>
    obtain ⟨rfl, rfl, hb, hz, n0⟩ := hrel
    go_wp2_with (go_at_call 105; refine (Zra (l := [0]) (x := 0) (Zp6 0) _ (fun _ => True) (some ⟨w.heap.size, 0, none⟩) 0 (by simp) (.inr ⟨w.heap.size, 0, rfl, trivial, fun i hi => (by rcases (by have h9 := hi; simp at h9; omega : i = 0) with rfl; simp only [Nat.zero_add, List.getElem_cons_zero]; go_simp)⟩)).mono ?_; rintro e w3 ⟨hb3, a', c', rfl, hr3⟩)
    go_ret
    exact ⟨(by (repeat (first | with_reducible exact Below.refl _ _ | with_reducible assumption | with_reducible refine Below.trans ?_ (Below.mono (by with_reducible assumption) (by first | omega | (simp; done) | (simp; omega))) | with_reducible refine Below.drew ?_ | with_reducible refine Below.alloc ?_ (by first | omega | (simp; done) | (simp; omega)) _ | with_reducible refine Below.setCell ?_ (by first | omega | (simp; done) | (simp; omega)) _))), a', c', rfl⟩
set_option maxRecDepth 100000 in
set_option maxHeartbeats 1000000 in
theorem nmul_p (x y z : Nat) (hz : z = x * y) (hx : x < 4294967296) (hy : y < 4294967296) (hm : z < 4294967296) (w : World) (A A2 : Nat → Prop) (a b : Option Addr) (c d : Nat) (hr : RL w A [x] a) (hs : RL w A2 [y] b) :
    Calls Tryz.prog 69 #[.slice a 1 c, .slice b 1 d] w fun e w' => Below w.heap.size w w' ∧ ∃ a' c', e = .returned (.slice a' (W7 z).length ((W7 z).length + c')) ∧ RL w' (fun b => w.heap.size ≤ b) (W7 z) a' := by
  obtain ⟨g, o, rfl, -, hg, hc⟩ := hr.get 0 (by simp)
  obtain ⟨g2, o2, rfl, -, hg2, hc2⟩ := hs.get 0 (by simp)
  simp only [List.getElem_cons_zero, Nat.add_zero] at hc hc2
  have HMUL : Hid (∀ W, Calls Tryz.prog 103 #[.int .u64 x, .int .u64 y] W fun e w' => e = .returned (.tuple #[.int .u64 0, .int .u64 z]) ∧ W = w') := Lib.hid (fun W => by have := wmul_any x y W hx hy (by rw [← hz]; exact hm); rw [← hz] at this; exact this)
  have HADD : Hid (∀ W, Calls Tryz.prog 104 #[.int .u64 z, .int .u64 0, .int .u64 0] W fun e w' => e = .returned (.tuple #[.int .u64 z, .int .u64 0]) ∧ W = w') := Lib.hid (fun W => by have := wadd_any z 0 W (by omega); rw [Nat.add_zero] at this; exact this)
  have hmk := mkNat2
  have hw0 : IntKind.u64.wrap 0 = 0 := by rfl
  clear hr hs hz
  go_enter Tryz.func69, Tryz.ntmps69
  go_wp2_with fail
  go_loopg [22] 1 (fun gk t22' wr => Below w.heap.size w wr ∧ w.heap.size < wr.heap.size ∧ (∀ k, wr.frozen? ⟨w.heap.size, k, none⟩ = false) ∧ wr.cell? ⟨w.heap.size, 1, none⟩ = some (.int .u64 0) ∧ (gk = 1 ∧ t22' = .int .i64 0 ∧ wr.cell? ⟨w.heap.size, 0, none⟩ = some (.int .u64 0) ∨ gk = 0 ∧ t22' = .int .i64 1 ∧ wr.cell? ⟨w.heap.size, 0, none⟩ = some (.int .u64 z)))
  case atStart => exact ⟨(by (repeat (first | with_reducible exact Below.refl _ _ | with_reducible assumption | with_reducible refine Below.trans ?_ (Below.mono (by with_reducible assumption) (by first | omega | (simp; done) | (simp; omega))) | with_reducible refine Below.drew ?_ | with_reducible refine Below.alloc ?_ (by first | omega | (simp; done) | (simp; omega)) _ | with_reducible refine Below.setCell ?_ (by first | omega | (simp; done) | (simp; omega)) _))), by simp, fun k => by go_simp, by go_simp, .inl ⟨rfl, rfl, by go_simp⟩⟩
  case round =>
    obtain ⟨hb, hz, nf, n1, ⟨rfl, rfl, n0⟩ | ⟨rfl, rfl, n0⟩⟩ := hrel
    · have k1 := (hb.cell (p := ⟨g, o, none⟩) hg).trans hc
      go_wp2_with fail
      go_loopg [29, 8] 1 (fun gk t29' t8' wr => Below w.heap.size w wr ∧ w.heap.size < wr.heap.size ∧ t8' = .int .u64 0 ∧ (∀ k, wr.frozen? ⟨w.heap.size, k, none⟩ = false) ∧ wr.cell? ⟨w.heap.size, 1, none⟩ = some (.int .u64 0) ∧ (gk = 1 ∧ t29' = .int .i64 0 ∧ wr.cell? ⟨w.heap.size, 0, none⟩ = some (.int .u64 0) ∨ gk = 0 ∧ t29' = .int .i64 1 ∧ wr.cell? ⟨w.heap.size, 0, none⟩ = some (.int .u64 z)))
      case atStart => exact ⟨hb, hz, rfl, nf, n1, .inl ⟨rfl, rfl, n0⟩⟩
      case round =>
        clear hb hz nf n1 n0 k1
        obtain ⟨hb, hz, rfl, nf, n1, ⟨rfl, rfl, n0⟩ | ⟨rfl, rfl, n0⟩⟩ := hrel
        · have k2 := (hb.cell (p := ⟨g2, o2, none⟩) hg2).trans hc2
          have hne : ¬ g2 = w.heap.size := by omega
          go_wp2_with (first
            | (go_at_call 103; refine (HMUL.out _).mono ?_; rintro e w1 ⟨rfl, rfl⟩)
            | (go_at_call 104; refine (HADD.out _).mono ?_; rintro e w1 ⟨rfl, rfl⟩))
          go_roundg 0
          case measure => omega
          case rel => exact ⟨(by (repeat (first | with_reducible exact Below.refl _ _ | with_reducible assumption | with_reducible refine Below.trans ?_ (Below.mono (by with_reducible assumption) (by first | omega | (simp; done) | (simp; omega))) | with_reducible refine Below.drew ?_ | with_reducible refine Below.alloc ?_ (by first | omega | (simp; done) | (simp; omega)) _ | with_reducible refine Below.setCell ?_ (by first | omega | (simp; done) | (simp; omega)) _))), by simp; omega, by go_num, fun k => by go_simp, by go_simp, .inr ⟨rfl, by go_num, by go_simp⟩⟩
        · go_wp2_with fail
          go_roundg 0
          case measure => omega
          case rel => exact ⟨(by (repeat (first | with_reducible exact Below.refl _ _ | with_reducible assumption | with_reducible refine Below.trans ?_ (Below.mono (by with_reducible assumption) (by first | omega | (simp; done) | (simp; omega))) | with_reducible refine Below.drew ?_ | with_reducible refine Below.alloc ?_ (by first | omega | (simp; done) | (simp; omega)) _ | with_reducible refine Below.setCell ?_ (by first | omega | (simp; done) | (simp; omega)) _))), by simp; omega, fun k => by go_simp, by go_simp, .inr ⟨rfl, by go_num, by go_simp⟩⟩
    · go_wp2_with (go_at_call 105; refine (Zra (l := [z, 0]) (x := z) (.inr ⟨1, rfl⟩) _ (fun _ => True) (some ⟨w.heap.size, 0, none⟩) 0 (by simp) (.inr ⟨w.heap.size, 0, rfl, trivial, fun i hi => (by rcases (by have h9 := hi; simp at h9; omega : i = 0 ∨ i = 1) with rfl | rfl <;> (simp only [Nat.zero_add, List.getElem_cons_zero, List.getElem_cons_succ]; go_simp))⟩)).mono ?_; rintro e w3 ⟨hb3, a', c', rfl, hr3⟩)
      go_ret
      exact ⟨(by (repeat (first | with_reducible exact Below.refl _ _ | with_reducible assumption | with_reducible refine Below.trans ?_ (Below.mono (by with_reducible assumption) (by first | omega | (simp; done) | (simp; omega))) | with_reducible refine Below.drew ?_ | with_reducible refine Below.alloc ?_ (by first | omega | (simp; done) | (simp; omega)) _ | with_reducible refine Below.setCell ?_ (by first | omega | (simp; done) | (simp; omega)) _))), a', c', rfl, RL.mono (fun b h _ => by omega) hr3⟩
theorem nmul_any (x y : Nat) (w : World) (A A2 : Nat → Prop) (a b : Option Addr) (c d : Nat) (hy0 : 0 < y) (hx : x < 4294967296) (hy : y < 4294967296) (hm : x * y < 4294967296) (hr : RL w A (W7 x) a) (hs : RL w A2 (W7 y) b) :
    Calls Tryz.prog 69 #[.slice a (W7 x).length c, .slice b (W7 y).length d] w fun e w' => Below w.heap.size w w' ∧ ∃ a' c', e = .returned (.slice a' (W7 (x * y)).length ((W7 (x * y)).length + c')) ∧ RL w' (fun b => w.heap.size ≤ b) (W7 (x * y)) a' := by
  rw [W8 hy0] at hs ⊢
  rcases Nat.eq_zero_or_pos x with rfl | hx0
  · rw [Nat.zero_mul, Zpu]
    exact (nmul_z y hy0 w a b c d).mono fun e w' ⟨h1, a', c', h2⟩ => ⟨h1, a', c', h2, by cases a' <;> exact .inl rfl⟩
  · rw [W8 hx0] at hr ⊢
    exact nmul_p x y (x * y) rfl hx hy hm w A A2 a b c d hr hs
end Go.Proofs.YtkdffbdnjfgpeaaGreat
