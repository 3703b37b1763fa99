/- Part 130. -/
import Derived.Test.YtkdffbdnjfgpeaaGreatY4
import Derived.Test.YtkdffbdnjfgpeaaGreatY35
import Derived.Test.YtkdffbdnjfgpeaaGreatY36
import Derived.Test.YtkdffbdnjfgpeaaGreatY41
import Derived.Test.YtkdffbdnjfgpeaaGreatY42
import Derived.Test.YtkdffbdnjfgpeaaGreatY51
import Derived.Test.YtkdffbdnjfgpeaaGreatY54
import Derived.Test.YtkdffbdnjfgpeaaGreatY58
import Derived.Test.YtkdffbdnjfgpeaaGreatY63
import Derived.Test.YtkdffbdnjfgpeaaGreatY128
import Derived.Test.YtkdffbdnjfgpeaaGreatY122
import Derived.Test.YtkdffbdnjfgpeaaGreatY127
import Derived.Test.YtkdffbdnjfgpeaaGreatY120
set_option linter.all false
namespace Go.Proofs.YtkdffbdnjfgpeaaGreat
open Go Go.RowKit
set_option maxRecDepth 100000 in
set_option maxHeartbeats 16000000 in
theorem hrises_run (w : World) (t : GT) (A : Nat → Prop) (ma : Option Addr) (mb : Nat) (mc : Option Addr) (md : Nat) (me : Option Addr) (mf : Nat) (mg : Option Addr) (mh : Nat) (mi : Option Addr) (mj : Nat) (mk : Option Addr) (ml : Nat) (kn K : Nat) (hK8 : K ≤ 7) (hK1 : (kn : Int) % 8 = (K : Int)) (hn : 0 ≤ (kn : Int) ∧ (kn : Int) ≤ 255) (x : GV) (A2 : Nat → Prop) (xa : Option Addr) (xc : Nat)
    (L1 L2 : List (ByteArray × GV)) (p1 p2 p3 p4 p5 p6 p7 p8 pa q0 : Nat × Nat) (k1 k2 k3 k4 : Int)
    (HL : Hid (RT w A t ⟨ma, mb, mc, md, me, mf, mg, mh, mi, mj, mk, ml⟩)) (HV : Hid (RV w A2 x xa))
    (hle : L1.length ≤ L2.length) (ln2 : L2.length ≤ 4096) (hk1 : ¬ (0 : Int) < k1) (hk2 : ¬ k2 < 0) (hk3 : ¬ (0 : Int) < k3) (HQ4 : Hid (k4 = 1 ∨ (k4 = 0 ∧ pa = p8)))
    (HPRE : Hid (∀ (i : Nat) (h1 : i < L1.length) (h2 : i < L2.length), L2[i] = L1[i])) (HSUF : Hid (∀ (i : Nat) (h1 : L1.length ≤ i) (h2 : i < L2.length), L2[i].1.size = K + 1)) (HOK : Hid (∀ p ∈ L2, okV p.2))
    (HLONG : Hid (∀ W, RT W A t ⟨ma, mb, mc, md, me, mf, mg, mh, mi, mj, mk, ml⟩ → Calls Tryz.prog 10 #[TV t ⟨ma, mb, mc, md, me, mf, mg, mh, mi, mj, mk, ml⟩, .int .i64 ((K : Int) + 1)] W (KY W)))
    (HL14 : Hid (∀ (W : World) b, At W b 0 [.int .u8 x.k, .int .i64 x.n, .slice xa x.l.length xc] → RV W A2 x xa → Calls Tryz.prog 16 #[.slice (some ⟨b, 0, none⟩) 1 1] W (KY W)))
    (HSZ : Hid (∀ (W : World), RV W A2 x xa → Calls Tryz.prog 39 #[.agg #[.int .u8 x.k, .int .i64 x.n, .slice xa x.l.length xc]] W fun e w' => e = .returned (.int .i64 (Zg x)) ∧ Below W.heap.size W w'))
    (HA1 : Hid (∀ W, RT W A t ⟨ma, mb, mc, md, me, mf, mg, mh, mi, mj, mk, ml⟩ → Calls Tryz.prog 13 #[TV t ⟨ma, mb, mc, md, me, mf, mg, mh, mi, mj, mk, ml⟩, .int .i64 K] W fun e w' => Below W.heap.size W w' ∧ ∃ a c, e = .returned (.tuple #[.slice a L1.length c, .int .i64 0]) ∧ RJs w' (fun _ => True) L1 a))
    (HA2 : Hid (∀ W, RT W A t ⟨ma, mb, mc, md, me, mf, mg, mh, mi, mj, mk, ml⟩ → Calls Tryz.prog 13 #[TV t ⟨ma, mb, mc, md, me, mf, mg, mh, mi, mj, mk, ml⟩, .int .i64 ((K : Int) + 1)] W fun e w' => Below W.heap.size W w' ∧ ∃ a c, e = .returned (.tuple #[.slice a L2.length c, .int .i64 0]) ∧ RJs w' (fun _ => True) L2 a))
    (HP1 : Hid (∀ W, RT W A t ⟨ma, mb, mc, md, me, mf, mg, mh, mi, mj, mk, ml⟩ → RV W A2 x xa → Calls Tryz.prog 17 #[TV t ⟨ma, mb, mc, md, me, mf, mg, mh, mi, mj, mk, ml⟩, .int .i64 K, .agg #[.int .u8 x.k, .int .i64 x.n, .slice xa x.l.length xc]] W (Zqu p1 W)))
    (HP2 : Hid (∀ W, RT W A t ⟨ma, mb, mc, md, me, mf, mg, mh, mi, mj, mk, ml⟩ → RV W A2 x xa → Calls Tryz.prog 17 #[TV t ⟨ma, mb, mc, md, me, mf, mg, mh, mi, mj, mk, ml⟩, .int .i64 ((K : Int) + 1), .agg #[.int .u8 x.k, .int .i64 x.n, .slice xa x.l.length xc]] W (Zqu p2 W)))
    (HP3 : Hid (∀ W, RT W A t ⟨ma, mb, mc, md, me, mf, mg, mh, mi, mj, mk, ml⟩ → Calls Tryz.prog 18 #[TV t ⟨ma, mb, mc, md, me, mf, mg, mh, mi, mj, mk, ml⟩, .int .i64 K] W (Zqu p3 W)))
    (HP4 : Hid (∀ W, RT W A t ⟨ma, mb, mc, md, me, mf, mg, mh, mi, mj, mk, ml⟩ → Calls Tryz.prog 18 #[TV t ⟨ma, mb, mc, md, me, mf, mg, mh, mi, mj, mk, ml⟩, .int .i64 ((K : Int) + 1)] W (Zqu p4 W)))
    (HP5 : Hid (∀ W, RT W A t ⟨ma, mb, mc, md, me, mf, mg, mh, mi, mj, mk, ml⟩ → Calls Tryz.prog 19 #[TV t ⟨ma, mb, mc, md, me, mf, mg, mh, mi, mj, mk, ml⟩, .int .i64 K] W (Zqu p5 W)))
    (HP6 : Hid (∀ W, RT W A t ⟨ma, mb, mc, md, me, mf, mg, mh, mi, mj, mk, ml⟩ → Calls Tryz.prog 19 #[TV t ⟨ma, mb, mc, md, me, mf, mg, mh, mi, mj, mk, ml⟩, .int .i64 ((K : Int) + 1)] W (Zqu p6 W)))
    (HP7 : Hid (∀ W, RT W A t ⟨ma, mb, mc, md, me, mf, mg, mh, mi, mj, mk, ml⟩ → Calls Tryz.prog 20 #[TV t ⟨ma, mb, mc, md, me, mf, mg, mh, mi, mj, mk, ml⟩, .int .i64 K] W (Zqu p7 W)))
    (HP8 : Hid (∀ W, RT W A t ⟨ma, mb, mc, md, me, mf, mg, mh, mi, mj, mk, ml⟩ → Calls Tryz.prog 20 #[TV t ⟨ma, mb, mc, md, me, mf, mg, mh, mi, mj, mk, ml⟩, .int .i64 ((K : Int) + 1)] W (Zqu p8 W)))
    (HC1 : Hid (∀ (W : World) (a b a' b' : Option Addr) (c d c' d' : Nat), RL W (fun _ => True) (W7 p1.1) a → RL W (fun _ => True) (W7 p1.2) b → RL W (fun _ => True) (W7 p2.1) a' → RL W (fun _ => True) (W7 p2.2) b' → Calls Tryz.prog 43 #[.agg #[.bool false, .slice a (W7 p1.1).length ((W7 p1.1).length + c), .slice b (W7 p1.2).length ((W7 p1.2).length + d)], .agg #[.bool false, .slice a' (W7 p2.1).length ((W7 p2.1).length + c'), .slice b' (W7 p2.2).length ((W7 p2.2).length + d')]] W fun e w' => e = .returned (.int .i64 k1) ∧ Below W.heap.size W w'))
    (HC2 : Hid (∀ (W : World) (a b a' b' : Option Addr) (c d c' d' : Nat), RL W (fun _ => True) (W7 p3.1) a → RL W (fun _ => True) (W7 p3.2) b → RL W (fun _ => True) (W7 p4.1) a' → RL W (fun _ => True) (W7 p4.2) b' → Calls Tryz.prog 43 #[.agg #[.bool false, .slice a (W7 p3.1).length ((W7 p3.1).length + c), .slice b (W7 p3.2).length ((W7 p3.2).length + d)], .agg #[.bool false, .slice a' (W7 p4.1).length ((W7 p4.1).length + c'), .slice b' (W7 p4.2).length ((W7 p4.2).length + d')]] W fun e w' => e = .returned (.int .i64 k2) ∧ Below W.heap.size W w'))
    (HC3 : Hid (∀ (W : World) (a b a' b' : Option Addr) (c d c' d' : Nat), RL W (fun _ => True) (W7 p5.1) a → RL W (fun _ => True) (W7 p5.2) b → RL W (fun _ => True) (W7 p6.1) a' → RL W (fun _ => True) (W7 p6.2) b' → Calls Tryz.prog 43 #[.agg #[.bool false, .slice a (W7 p5.1).length ((W7 p5.1).length + c), .slice b (W7 p5.2).length ((W7 p5.2).length + d)], .agg #[.bool false, .slice a' (W7 p6.1).length ((W7 p6.1).length + c'), .slice b' (W7 p6.2).length ((W7 p6.2).length + d')]] W fun e w' => e = .returned (.int .i64 k3) ∧ Below W.heap.size W w'))
    (HC4 : Hid (∀ (W : World) (a b a' b' : Option Addr) (c d c' d' : Nat), RL W (fun _ => True) (W7 p6.1) a → RL W (fun _ => True) (W7 p6.2) b → RL W (fun _ => True) (W7 q0.1) a' → RL W (fun _ => True) (W7 q0.2) b' → Calls Tryz.prog 43 #[.agg #[.bool false, .slice a (W7 p6.1).length ((W7 p6.1).length + c), .slice b (W7 p6.2).length ((W7 p6.2).length + d)], .agg #[.bool false, .slice a' (W7 q0.1).length ((W7 q0.1).length + c'), .slice b' (W7 q0.2).length ((W7 q0.2).length + d')]] W fun e w' => e = .returned (.int .i64 k4) ∧ Below W.heap.size W w'))
    (HADD : Hid (∀ (W : World) (a b a' b' : Option Addr) (c d c' d' : Nat), RL W (fun _ => True) (W7 p7.1) a → RL W (fun _ => True) (W7 p7.2) b → RL W (fun _ => True) (W7 p3.1) a' → RL W (fun _ => True) (W7 p3.2) b' → Calls Tryz.prog 40 #[.agg #[.bool false, .slice a (W7 p7.1).length ((W7 p7.1).length + c), .slice b (W7 p7.2).length ((W7 p7.2).length + d)], .agg #[.bool false, .slice a' (W7 p3.1).length ((W7 p3.1).length + c'), .slice b' (W7 p3.2).length ((W7 p3.2).length + d')]] W (ZtE pa W)))
    (HOF : Hid (∀ W, Calls Tryz.prog 41 #[.int .i64 0] W (ZtE q0 W)))
    : Calls Tryz.prog 9 #[TV t ⟨ma, mb, mc, md, me, mf, mg, mh, mi, mj, mk, ml⟩, .int .u8 (kn : Int), .agg #[.int .u8 x.k, .int .i64 x.n, .slice xa x.l.length xc]] w fun e w' => e = .returned (.bool true) ∧ Below w.heap.size w w' := by
  have hleI : ¬ (L2.length : Int) < (L1.length : Int) := by omega
  have hK2 : IntKind.i64.wrap ((K : Int) + 1) = ((K : Int) + 1) := IntWalk.i64_in _ (by omega)
  go_enter Tryz.func9, Tryz.ntmps9
  go_upto_region 4 with (first
    | (go_at_call 10; (with_reducible refine (HLONG.out _ (by exact RT.ext (Agree.below (by (repeat (first | with_reducible exact Below.refl _ _ | with_reducible assumption | with_reducible refine Below.trans ?_ (Below.mono (by with_reducible assumption) (by first | omega | (simp; done) | (simp; omega))) | with_reducible refine Below.drew ?_ | with_reducible refine Below.alloc ?_ (by first | omega | (simp; done) | (simp; omega)) _ | with_reducible refine Below.setCell ?_ (by first | omega | (simp; done) | (simp; omega)) _)))) _ _ HL.out)).mono ?_); rintro e v1 ⟨⟨b1, rfl⟩, hvb1⟩; obtain ⟨hvc1, hvf1⟩ := Za hvb1; have hvz1 := hvb1.size; (try simp at hvz1); have x10 : w.heap.size < v1.heap.size := (by omega); have x11 : w.heap.size + 1 < v1.heap.size := (by omega); cases b1)
    | (go_at_call 16; (with_reducible refine (HL14.out _ v1.heap.size (by exact (At3.2 ⟨by go_simp, by go_simp, by go_simp⟩)) (by exact RV.ext (Agree.below (by (repeat (first | with_reducible exact Below.refl _ _ | with_reducible assumption | with_reducible refine Below.trans ?_ (Below.mono (by with_reducible assumption) (by first | omega | (simp; done) | (simp; omega))) | with_reducible refine Below.drew ?_ | with_reducible refine Below.alloc ?_ (by first | omega | (simp; done) | (simp; omega)) _ | with_reducible refine Below.setCell ?_ (by first | omega | (simp; done) | (simp; omega)) _)))) _ _ HV.out)).mono ?_); rintro e v2 ⟨⟨b2, rfl⟩, hvb2⟩; obtain ⟨hvc2, hvf2⟩ := Za hvb2; have hvz2 := hvb2.size; (try simp at hvz2); have x20 : w.heap.size < v2.heap.size := (by omega); have x21 : w.heap.size + 1 < v2.heap.size := (by omega); cases b2)
    | (go_at_call 39; (with_reducible refine (HSZ.out _ (by exact RV.ext (Agree.below (by (repeat (first | with_reducible exact Below.refl _ _ | with_reducible assumption | with_reducible refine Below.trans ?_ (Below.mono (by with_reducible assumption) (by first | omega | (simp; done) | (simp; omega))) | with_reducible refine Below.drew ?_ | with_reducible refine Below.alloc ?_ (by first | omega | (simp; done) | (simp; omega)) _ | with_reducible refine Below.setCell ?_ (by first | omega | (simp; done) | (simp; omega)) _)))) _ _ HV.out)).mono ?_); rintro e v3 ⟨rfl, hvb3⟩; obtain ⟨hvc3, hvf3⟩ := Za hvb3; have hvz3 := hvb3.size; (try simp at hvz3); have x30 : w.heap.size < v3.heap.size := (by omega); have x31 : w.heap.size + 1 < v3.heap.size := (by omega); generalize Zg x = sx; (rcases (by omega : ¬ (500 : Int) < (sx : Int) ∨ (500 : Int) < (sx : Int)) with hsx | hsx))
    | (go_at_call 11; (with_reducible refine (ZrU _).mono ?_); rintro e va ⟨rfl, hva⟩; obtain ⟨hvac, hvaf⟩ := Za hva; have hvza := hva.size; (try simp at hvza); have xa0 : w.heap.size < va.heap.size := (by omega); have xa1 : w.heap.size + 1 < va.heap.size := (by omega))
    | fail "no arm")
  rotate_right
  · go_ret
    exact ⟨rfl, (by (repeat (first | with_reducible exact Below.refl _ _ | with_reducible assumption | with_reducible refine Below.trans ?_ (Below.mono (by with_reducible assumption) (by first | omega | (simp; done) | (simp; omega))) | with_reducible refine Below.drew ?_ | with_reducible refine Below.alloc ?_ (by first | omega | (simp; done) | (simp; omega)) _ | with_reducible refine Below.setCell ?_ (by first | omega | (simp; done) | (simp; omega)) _)))⟩
  rotate_right
  · go_ret
    exact ⟨rfl, (by (repeat (first | with_reducible exact Below.refl _ _ | with_reducible assumption | with_reducible refine Below.trans ?_ (Below.mono (by with_reducible assumption) (by first | omega | (simp; done) | (simp; omega))) | with_reducible refine Below.drew ?_ | with_reducible refine Below.alloc ?_ (by first | omega | (simp; done) | (simp; omega)) _ | with_reducible refine Below.setCell ?_ (by first | omega | (simp; done) | (simp; omega)) _)))⟩
  rotate_right
  · go_ret
    exact ⟨rfl, (by (repeat (first | with_reducible exact Below.refl _ _ | with_reducible assumption | with_reducible refine Below.trans ?_ (Below.mono (by with_reducible assumption) (by first | omega | (simp; done) | (simp; omega))) | with_reducible refine Below.drew ?_ | with_reducible refine Below.alloc ?_ (by first | omega | (simp; done) | (simp; omega)) _ | with_reducible refine Below.setCell ?_ (by first | omega | (simp; done) | (simp; omega)) _)))⟩
  as_aux_lemma =>
    go_upto_region 10 with (first
      | (go_at_call 13; (with_reducible refine (HA1.out _ (by exact RT.ext (Agree.below (by (repeat (first | with_reducible exact Below.refl _ _ | with_reducible assumption | with_reducible refine Below.trans ?_ (Below.mono (by with_reducible assumption) (by first | omega | (simp; done) | (simp; omega))) | with_reducible refine Below.drew ?_ | with_reducible refine Below.alloc ?_ (by first | omega | (simp; done) | (simp; omega)) _ | with_reducible refine Below.setCell ?_ (by first | omega | (simp; done) | (simp; omega)) _)))) _ _ HL.out)).mono ?_); rintro e w1 ⟨hb1, a1, c1, rfl, hx1⟩; have HX1 := Lib.hid hx1; clear hx1; obtain ⟨hc1, hf1⟩ := Za hb1; have hz1 := hb1.size; (try simp at hz1); have y1 : w.heap.size < w1.heap.size := (by omega); have z1 : w.heap.size + 1 < w1.heap.size := (by omega))
      | (go_at_call 13; (with_reducible refine (HA2.out _ (by exact RT.ext (Agree.below (by (repeat (first | with_reducible exact Below.refl _ _ | with_reducible assumption | with_reducible refine Below.trans ?_ (Below.mono (by with_reducible assumption) (by first | omega | (simp; done) | (simp; omega))) | with_reducible refine Below.drew ?_ | with_reducible refine Below.alloc ?_ (by first | omega | (simp; done) | (simp; omega)) _ | with_reducible refine Below.setCell ?_ (by first | omega | (simp; done) | (simp; omega)) _)))) _ _ HL.out)).mono ?_); rintro e w2 ⟨hb2, a2, c2, rfl, hx2⟩; have HX2 := Lib.hid hx2; clear hx2; obtain ⟨hc2, hf2⟩ := Za hb2; have hz2 := hb2.size; (try simp at hz2); have y2 : w.heap.size < w2.heap.size := (by omega); have z2 : w.heap.size + 1 < w2.heap.size := (by omega))
      | fail "no arm")
    as_aux_lemma =>
      refine ZT (fun W => Below w.heap.size w W ∧ w.heap.size + 1 < W.heap.size ∧ Hid (At W w.heap.size 0 [.int .u8 t.k, .int .u8 t.v.k, .int .i64 t.v.n, .slice ma t.v.l.length mb, .slice mc t.vs.length md, .int .i64 t.lo, .int .i64 t.hi, .slice me t.w.length mf, .int .u8 t.p.k, .int .u8 t.p.v.k, .int .i64 t.p.v.n, .slice mg t.p.v.l.length mh, .int .i64 t.p.n, .slice mi t.p.a.length mj, .slice mk t.a.length ml]) ∧ Hid (At W (w.heap.size + 1) 0 [.int .u8 x.k, .int .i64 x.n, .slice xa x.l.length xc]) ∧ Hid (RJs W (fun _ => True) L1 a1) ∧ Hid (RJs W (fun _ => True) L2 a2)) ⟨(by (repeat (first | with_reducible exact Below.refl _ _ | with_reducible assumption | with_reducible refine Below.trans ?_ (Below.mono (by with_reducible assumption) (by first | omega | (simp; done) | (simp; omega))) | with_reducible refine Below.drew ?_ | with_reducible refine Below.alloc ?_ (by first | omega | (simp; done) | (simp; omega)) _ | with_reducible refine Below.setCell ?_ (by first | omega | (simp; done) | (simp; omega)) _))), by omega, Lib.hid (ZO.2 ⟨by go_simp, by go_simp, by go_simp, by go_simp, by go_simp, by go_simp, by go_simp, by go_simp, by go_simp, by go_simp, by go_simp, by go_simp, by go_simp, by go_simp, by go_simp⟩), Lib.hid (At3.2 ⟨by go_simp, by go_simp, by go_simp⟩), Lib.hid (RJs.ext (A := fun _ => True) (Agree.below (by (repeat (first | with_reducible exact Below.refl _ _ | with_reducible assumption | with_reducible refine Below.trans ?_ (Below.mono (by with_reducible assumption) (by first | omega | (simp; done) | (simp; omega))) | with_reducible refine Below.drew ?_ | with_reducible refine Below.alloc ?_ (by first | omega | (simp; done) | (simp; omega)) _ | with_reducible refine Below.setCell ?_ (by first | omega | (simp; done) | (simp; omega)) _)))) _ _ HX1.out), Lib.hid (RJs.ext (A := fun _ => True) (Agree.below (by (repeat (first | with_reducible exact Below.refl _ _ | with_reducible assumption | with_reducible refine Below.trans ?_ (Below.mono (by with_reducible assumption) (by first | omega | (simp; done) | (simp; omega))) | with_reducible refine Below.drew ?_ | with_reducible refine Below.alloc ?_ (by first | omega | (simp; done) | (simp; omega)) _ | with_reducible refine Below.setCell ?_ (by first | omega | (simp; done) | (simp; omega)) _)))) _ _ HX2.out)⟩ ?_
      rintro wa ⟨hba, hza, HBT, HBX, HX1, HX2⟩
      have hbaw := hba
      rw [show decide (L2.length < L1.length) = false from decide_eq_false (by omega)]
      clear hba hsx hleI hle
      go_wp2_with fail
      go_loopg [12] (L2.length) (fun gk t12' wr => ∃ i : Nat, gk + i = L2.length ∧ t12' = .int .i64 i ∧ Below wa.heap.size wa wr)
      case atStart => exact ⟨0, by omega, rfl, Below.refl _ _⟩
      case round =>
        obtain ⟨i, hi, rfl, hbr⟩ := hrel
        have hzr := hbr.size
        by_cases hlt : i < L2.length
        · as_aux_lemma =>
            clear HP1 HP2 HP3 HP4 HP5 HP6 HP7 HP8 HC1 HC2 HC3 HC4 HADD HOF HQ4 HBT HBX HLONG HL14 HSZ HA1 HA2 HL HV
            obtain ⟨b2', o2', mv2, rfl, -, hbs2, gg2, gx2⟩ := HX2.out.get i hlt
            have ok2 := HOK.out _ (List.getElem_mem hlt)
            have hiI : (i : Int) < (L2.length : Int) := by omega
            have hi0 : (0 : Int) ≤ (i : Int) := by omega
            obtain ⟨xa2, xc2⟩ := mv2
            obtain ⟨g0, g1, g2, g3⟩ := Zsd.1 (At.ext (Agree.below hbr) (A := fun _ => True) trivial _ _ gg2)
            have gx2 := RV.ext (Agree.below hbr) _ _ gx2
            have zb2 : b2' < wr.heap.size := by omega
            clear gg2
            by_cases h1 : i < L1.length
            · obtain ⟨b1', o1', mv1, rfl, -, hbs1, gg1, gx1⟩ := HX1.out.get i h1
              have hy := HPRE.out i h1 hlt
              obtain ⟨xa1, xc1⟩ := mv1
              obtain ⟨f0, f1, f2, f3⟩ := Zsd.1 (At.ext (Agree.below hbr) (A := fun _ => True) trivial _ _ gg1)
              have gx1 := RV.ext (Agree.below hbr) _ _ gx1
              have zb1 : b1' < wr.heap.size := by omega
              rw [hy] at g0 g1 g2 g3 gx2 ok2
              have h1I : (i : Int) < (L1.length : Int) := by omega
              have h1N : ¬ L1.length ≤ i := by omega
              have h1O : ¬ (L1.length : Int) ≤ (i : Int) := by omega
              have HG1 := Lib.hid gx1
              have HG2 := Lib.hid gx2
              have OV2 := Lib.hid ok2
              clear hy gg1 gx1 gx2 ok2 HX1 HX2 HPRE HSUF HOK
              generalize L1[i] = Y at *
              obtain ⟨s, y⟩ := Y
              dsimp only at g0 g1 g2 g3 f0 f1 f2 f3 HG1 HG2 OV2
              go_wp2_with fail
              refine wp_region_held_drew (S := (fun W => ∀ c k, c < wr.heap.size → W.cell? ⟨c, k, none⟩ = wr.cell? ⟨c, k, none⟩)) (by kernel_rfl) ?_ (fun hHeld => ?_)
              · ((try dsimp only); (intro c k hc; refine Below.cell (B := wr.heap.size) (w := wr) (p := ⟨c, k, none⟩) ?_ hc; ((repeat (first | with_reducible exact Below.refl _ _ | with_reducible assumption | with_reducible refine Below.trans ?_ (Below.mono (by with_reducible assumption) (by first | omega | (simp; done) | (simp; omega))) | with_reducible refine Below.drew ?_ | with_reducible refine Below.alloc ?_ (by first | omega | (simp; done) | (simp; omega)) _ | with_reducible refine Below.setCell ?_ (by first | omega | (simp; done) | (simp; omega)) _)); done)))
              refine tq 0 (v := ?_) rfl (.inl ⟨by rfl, ?_⟩) ?_
              rotate_left
              · ((intro w hSw; (try dsimp only at hSw); go_simp) <;> with_reducible rfl)
              ((try simp only [Act.put, List.setIfInBounds_toArray, ZxI]); (try simp only [List.set_cons_zero, List.set_cons_succ]))
              refine tq 1 (v := ?_) rfl (.inl ⟨by rfl, ?_⟩) ?_
              rotate_left
              · ((intro w hSw; (try dsimp only at hSw); go_simp) <;> with_reducible rfl)
              ((try simp only [Act.put, List.setIfInBounds_toArray, ZxI]); (try simp only [List.set_cons_zero, List.set_cons_succ]))
              refine tq 2 (v := ?_) rfl (.inl ⟨by rfl, ?_⟩) ?_
              rotate_left
              · ((intro w hSw; (try dsimp only at hSw); go_simp) <;> with_reducible rfl)
              ((try simp only [Act.put, List.setIfInBounds_toArray, ZxI]); (try simp only [List.set_cons_zero, List.set_cons_succ]))
              refine tq 3 (v := ?_) rfl (.inl ⟨by rfl, ?_⟩) ?_
              rotate_left
              · ((intro w hSw; (try dsimp only at hSw); go_simp) <;> with_reducible rfl)
              ((try simp only [Act.put, List.setIfInBounds_toArray, ZxI]); (try simp only [List.set_cons_zero, List.set_cons_succ]))
              refine tq 4 (v := ?_) rfl (.inl ⟨by rfl, ?_⟩) ?_
              rotate_left
              · ((intro w hSw; (try dsimp only at hSw); go_simp) <;> with_reducible rfl)
              ((try simp only [Act.put, List.setIfInBounds_toArray, ZxI]); (try simp only [List.set_cons_zero, List.set_cons_succ]))
              refine tq 5 (v := ?_) rfl (.inl ⟨by rfl, ?_⟩) ?_
              rotate_left
              · ((intro w hSw; (try dsimp only at hSw); go_simp) <;> with_reducible rfl)
              ((try simp only [Act.put, List.setIfInBounds_toArray, ZxI]); (try simp only [List.set_cons_zero, List.set_cons_succ]))
              refine tq 6 (v := ?_) rfl (.inl ⟨by rfl, ?_⟩) ?_
              rotate_left
              · ((intro w hSw; (try dsimp only at hSw); go_simp) <;> with_reducible rfl)
              ((try simp only [Act.put, List.setIfInBounds_toArray, ZxI]); (try simp only [List.set_cons_zero, List.set_cons_succ]))
              as_aux_lemma =>
                refine tq 7 (v := ?_) rfl (.inl ⟨by rfl, ?_⟩) ?_
                rotate_left
                · ((intro w hSw; (try dsimp only at hSw); go_simp) <;> with_reducible rfl)
                ((try simp only [Act.put, List.setIfInBounds_toArray, ZxI]); (try simp only [List.set_cons_zero, List.set_cons_succ]))
                refine tq 8 (v := ?_) rfl (.inl ⟨by rfl, ?_⟩) ?_
                rotate_left
                · ((intro w hSw; (try dsimp only at hSw); go_simp) <;> with_reducible rfl)
                ((try simp only [Act.put, List.setIfInBounds_toArray, ZxI]); (try simp only [List.set_cons_zero, List.set_cons_succ]))
                refine tq 9 (v := ?_) rfl (.inl ⟨by rfl, ?_⟩) ?_
                rotate_left
                · ((intro w hSw; (try dsimp only at hSw); go_simp) <;> with_reducible rfl)
                ((try simp only [Act.put, List.setIfInBounds_toArray, ZxI]); (try simp only [List.set_cons_zero, List.set_cons_succ]))
                refine tq 10 (v := ?_) rfl (.inl ⟨by rfl, ?_⟩) ?_
                rotate_left
                · ((intro w hSw; (try dsimp only at hSw); go_simp) <;> with_reducible rfl)
                ((try simp only [Act.put, List.setIfInBounds_toArray, ZxI]); (try simp only [List.set_cons_zero, List.set_cons_succ]))
                refine tq 11 (v := ?_) rfl (.inl ⟨by rfl, ?_⟩) ?_
                rotate_left
                · ((intro w hSw; (try dsimp only at hSw); go_simp) <;> with_reducible rfl)
                ((try simp only [Act.put, List.setIfInBounds_toArray, ZxI]); (try simp only [List.set_cons_zero, List.set_cons_succ]))
                refine tq 12 (v := ?_) rfl (.inl ⟨by rfl, ?_⟩) ?_
                rotate_left
                · ((intro w hSw; (try dsimp only at hSw); go_simp) <;> with_reducible rfl)
                ((try simp only [Act.put, List.setIfInBounds_toArray, ZxI]); (try simp only [List.set_cons_zero, List.set_cons_succ]))
                refine tq 13 (v := ?_) rfl (.inl ⟨by rfl, ?_⟩) ?_
                rotate_left
                · ((intro w hSw; (try dsimp only at hSw); go_simp) <;> with_reducible rfl)
                ((try simp only [Act.put, List.setIfInBounds_toArray, ZxI]); (try simp only [List.set_cons_zero, List.set_cons_succ]))
                refine tq 14 (v := ?_) rfl (.inl ⟨by rfl, ?_⟩) ?_
                rotate_left
                · ((intro w hSw; (try dsimp only at hSw); go_simp) <;> with_reducible rfl)
                ((try simp only [Act.put, List.setIfInBounds_toArray, ZxI]); (try simp only [List.set_cons_zero, List.set_cons_succ]))
                as_aux_lemma =>
                  refine tq 15 (v := ?_) rfl (.inl ⟨by rfl, ?_⟩) ?_
                  rotate_left
                  · ((intro w hSw; (try dsimp only at hSw); go_simp) <;> with_reducible rfl)
                  ((try simp only [Act.put, List.setIfInBounds_toArray, ZxI]); (try simp only [List.set_cons_zero, List.set_cons_succ]))
                  refine tq 16 (v := ?_) rfl (.inl ⟨by rfl, ?_⟩) ?_
                  rotate_left
                  · ((intro w hSw; (try dsimp only at hSw); go_simp) <;> with_reducible rfl)
                  ((try simp only [Act.put, List.setIfInBounds_toArray, ZxI]); (try simp only [List.set_cons_zero, List.set_cons_succ]))
                  refine tq 17 (v := ?_) rfl (.inl ⟨by rfl, ?_⟩) ?_
                  rotate_left
                  · ((intro w hSw; (try dsimp only at hSw); go_simp) <;> with_reducible rfl)
                  ((try simp only [Act.put, List.setIfInBounds_toArray, ZxI]); (try simp only [List.set_cons_zero, List.set_cons_succ]))
                  refine tq 18 (v := ?_) rfl (.inl ⟨by rfl, ?_⟩) ?_
                  rotate_left
                  · ((intro w hSw; (try dsimp only at hSw); go_simp) <;> with_reducible rfl)
                  ((try simp only [Act.put, List.setIfInBounds_toArray, ZxI]); (try simp only [List.set_cons_zero, List.set_cons_succ]))
                  refine tq 19 (v := ?_) rfl (.inl ⟨by rfl, ?_⟩) ?_
                  rotate_left
                  · ((intro w hSw; (try dsimp only at hSw); go_simp) <;> with_reducible rfl)
                  ((try simp only [Act.put, List.setIfInBounds_toArray, ZxI]); (try simp only [List.set_cons_zero, List.set_cons_succ]))
                  refine tq 20 (v := ?_) rfl (.inl ⟨by rfl, ?_⟩) ?_
                  rotate_left
                  · ((intro w hSw; (try dsimp only at hSw); go_simp) <;> with_reducible rfl)
                  ((try simp only [Act.put, List.setIfInBounds_toArray, ZxI]); (try simp only [List.set_cons_zero, List.set_cons_succ]))
                  refine tq 21 (v := ?_) rfl (.inl ⟨by rfl, ?_⟩) ?_
                  rotate_left
                  · ((intro w hSw; (try dsimp only at hSw); go_simp) <;> with_reducible rfl)
                  ((try simp only [Act.put, List.setIfInBounds_toArray, ZxI]); (try simp only [List.set_cons_zero, List.set_cons_succ]))
                  refine tq 22 (v := ?_) rfl (.inl ⟨by rfl, ?_⟩) ?_
                  rotate_left
                  · ((intro w hSw; (try dsimp only at hSw); go_simp) <;> with_reducible rfl)
                  ((try simp only [Act.put, List.setIfInBounds_toArray, ZxI]); (try simp only [List.set_cons_zero, List.set_cons_succ]))
                  as_aux_lemma =>
                    refine tq 23 (v := ?_) rfl (.inl ⟨by rfl, ?_⟩) ?_
                    rotate_left
                    · ((intro w hSw; (try dsimp only at hSw); go_simp) <;> with_reducible rfl)
                    ((try simp only [Act.put, List.setIfInBounds_toArray, ZxI]); (try simp only [List.set_cons_zero, List.set_cons_succ]))
                    refine tq 24 (v := ?_) rfl (.inl ⟨by rfl, ?_⟩) ?_
                    rotate_left
                    · ((intro w hSw; (try dsimp only at hSw); go_simp) <;> with_reducible rfl)
                    ((try simp only [Act.put, List.setIfInBounds_toArray, ZxI]); (try simp only [List.set_cons_zero, List.set_cons_succ]))
                    refine tq 25 (v := ?_) rfl (.inl ⟨by rfl, ?_⟩) ?_
                    rotate_left
                    · ((intro w hSw; (try dsimp only at hSw); go_simp) <;> with_reducible rfl)
                    ((try simp only [Act.put, List.setIfInBounds_toArray, ZxI]); (try simp only [List.set_cons_zero, List.set_cons_succ]))
                    refine tq 26 (v := ?_) rfl (.inl ⟨by rfl, ?_⟩) ?_
                    rotate_left
                    · ((intro w hSw; (try dsimp only at hSw); go_simp) <;> with_reducible rfl)
                    ((try simp only [Act.put, List.setIfInBounds_toArray, ZxI]); (try simp only [List.set_cons_zero, List.set_cons_succ]))
                    refine wpAnyH_ready (rs := [27]) (by kernel_rfl) (by simp) ?_
                    refine AllReadyH.cons rfl (fun K hK => ?_) ?_
                    · go_simp
                      go_wp2_with (go_at_call 33; refine (Zhm y _ (fun _ => True) (fun _ => True) ⟨xa2, xc2⟩ ⟨xa1, xc1⟩ OV2.out (by exact RV.ext (Agree.below (by (repeat (first | with_reducible exact Below.refl _ _ | with_reducible assumption | with_reducible refine Below.trans ?_ (Below.mono (by with_reducible assumption) (by first | omega | (simp; done) | (simp; omega))) | with_reducible refine Below.drew ?_ | with_reducible refine Below.alloc ?_ (by first | omega | (simp; done) | (simp; omega)) _ | with_reducible refine Below.setCell ?_ (by first | omega | (simp; done) | (simp; omega)) _)))) _ _ HG2.out) (by exact RV.ext (Agree.below (by (repeat (first | with_reducible exact Below.refl _ _ | with_reducible assumption | with_reducible refine Below.trans ?_ (Below.mono (by with_reducible assumption) (by first | omega | (simp; done) | (simp; omega))) | with_reducible refine Below.drew ?_ | with_reducible refine Below.alloc ?_ (by first | omega | (simp; done) | (simp; omega)) _ | with_reducible refine Below.setCell ?_ (by first | omega | (simp; done) | (simp; omega)) _)))) _ _ HG1.out)).mono ?_; rintro e w9 ⟨rfl, hb9⟩; have hz9 := hb9.size; (try simp at hz9))
                      refine hK.out _ _ ?_ (fun hHeld => ?_)
                      · ((try dsimp only); (intro c k hc; refine Below.cell (B := wr.heap.size) (w := wr) (p := ⟨c, k, none⟩) ?_ hc; ((repeat (first | with_reducible exact Below.refl _ _ | with_reducible assumption | with_reducible refine Below.trans ?_ (Below.mono (by with_reducible assumption) (by first | omega | (simp; done) | (simp; omega))) | with_reducible refine Below.drew ?_ | with_reducible refine Below.alloc ?_ (by first | omega | (simp; done) | (simp; omega)) _ | with_reducible refine Below.setCell ?_ (by first | omega | (simp; done) | (simp; omega)) _)); done)))
                      clear hK K
                      refine tq 28 (v := ?_) rfl (.inl ⟨by rfl, ?_⟩) ?_
                      rotate_left
                      · ((intro w hSw; (try dsimp only at hSw); go_simp) <;> with_reducible rfl)
                      ((try simp only [Act.put, List.setIfInBounds_toArray, ZxI]); (try simp only [List.set_cons_zero, List.set_cons_succ]))
                      refine tq 29 (v := ?_) rfl (.inl ⟨by rfl, ?_⟩) ?_
                      rotate_left
                      · ((intro w hSw; (try dsimp only at hSw); go_simp) <;> with_reducible rfl)
                      ((try simp only [Act.put, List.setIfInBounds_toArray, ZxI]); (try simp only [List.set_cons_zero, List.set_cons_succ]))
                      refine tq 30 (v := ?_) rfl (.inl ⟨by rfl, ?_⟩) ?_
                      rotate_left
                      · ((intro w hSw; (try dsimp only at hSw); go_simp) <;> with_reducible rfl)
                      ((try simp only [Act.put, List.setIfInBounds_toArray, ZxI]); (try simp only [List.set_cons_zero, List.set_cons_succ]))
                      as_aux_lemma =>
                        refine tq 31 (v := ?_) rfl (.inl ⟨by rfl, ?_⟩) ?_
                        rotate_left
                        · ((intro w hSw; (try dsimp only at hSw); go_simp) <;> with_reducible rfl)
                        ((try simp only [Act.put, List.setIfInBounds_toArray, ZxI]); (try simp only [List.set_cons_zero, List.set_cons_succ]))
                        refine tq 32 (v := ?_) rfl (.inl ⟨by rfl, ?_⟩) ?_
                        rotate_left
                        · ((intro w hSw; (try dsimp only at hSw); go_simp) <;> with_reducible rfl)
                        ((try simp only [Act.put, List.setIfInBounds_toArray, ZxI]); (try simp only [List.set_cons_zero, List.set_cons_succ]))
                        refine tq 33 (v := ?_) rfl (.inl ⟨by rfl, ?_⟩) ?_
                        rotate_left
                        · ((intro w hSw; (try dsimp only at hSw); go_simp) <;> with_reducible rfl)
                        ((try simp only [Act.put, List.setIfInBounds_toArray, ZxI]); (try simp only [List.set_cons_zero, List.set_cons_succ]))
                        refine tq 34 (v := ?_) rfl (.inl ⟨by rfl, ?_⟩) ?_
                        rotate_left
                        · ((intro w hSw; (try dsimp only at hSw); go_simp) <;> with_reducible rfl)
                        ((try simp only [Act.put, List.setIfInBounds_toArray, ZxI]); (try simp only [List.set_cons_zero, List.set_cons_succ]))
                        refine tq 35 (v := ?_) rfl (.inl ⟨by rfl, ?_⟩) ?_
                        rotate_left
                        · ((intro w hSw; (try dsimp only at hSw); go_simp) <;> with_reducible rfl)
                        ((try simp only [Act.put, List.setIfInBounds_toArray, ZxI]); (try simp only [List.set_cons_zero, List.set_cons_succ]))
                        refine tq 36 (v := ?_) rfl (.inl ⟨by rfl, ?_⟩) ?_
                        rotate_left
                        · ((intro w hSw; (try dsimp only at hSw); go_simp) <;> with_reducible rfl)
                        ((try simp only [Act.put, List.setIfInBounds_toArray, ZxI]); (try simp only [List.set_cons_zero, List.set_cons_succ]))
                        refine tq 37 (v := undef) rfl (.inr ⟨by kernel_rfl, rfl⟩) ?_
                        ((try simp only [Act.put, List.setIfInBounds_toArray, ZxI]); (try simp only [List.set_cons_zero, List.set_cons_succ]))
                        refine tq 38 (v := undef) rfl (.inr ⟨by kernel_rfl, rfl⟩) ?_
                        ((try simp only [Act.put, List.setIfInBounds_toArray, ZxI]); (try simp only [List.set_cons_zero, List.set_cons_succ]))
                        as_aux_lemma =>
                          refine tq 39 (v := undef) rfl (.inr ⟨by kernel_rfl, rfl⟩) ?_
                          ((try simp only [Act.put, List.setIfInBounds_toArray, ZxI]); (try simp only [List.set_cons_zero, List.set_cons_succ]))
                          refine tq 40 (v := undef) rfl (.inr ⟨by kernel_rfl, rfl⟩) ?_
                          ((try simp only [Act.put, List.setIfInBounds_toArray, ZxI]); (try simp only [List.set_cons_zero, List.set_cons_succ]))
                          refine tq 41 (v := undef) rfl (.inr ⟨by kernel_rfl, rfl⟩) ?_
                          ((try simp only [Act.put, List.setIfInBounds_toArray, ZxI]); (try simp only [List.set_cons_zero, List.set_cons_succ]))
                          refine tq 42 (v := undef) rfl (.inr ⟨by kernel_rfl, rfl⟩) ?_
                          ((try simp only [Act.put, List.setIfInBounds_toArray, ZxI]); (try simp only [List.set_cons_zero, List.set_cons_succ]))
                          refine tq 43 (v := undef) rfl (.inr ⟨by kernel_rfl, rfl⟩) ?_
                          ((try simp only [Act.put, List.setIfInBounds_toArray, ZxI]); (try simp only [List.set_cons_zero, List.set_cons_succ]))
                          refine tq 44 (v := undef) rfl (.inr ⟨by kernel_rfl, rfl⟩) ?_
                          ((try simp only [Act.put, List.setIfInBounds_toArray, ZxI]); (try simp only [List.set_cons_zero, List.set_cons_succ]))
                          refine tq 45 (v := undef) rfl (.inr ⟨by kernel_rfl, rfl⟩) ?_
                          ((try simp only [Act.put, List.setIfInBounds_toArray, ZxI]); (try simp only [List.set_cons_zero, List.set_cons_succ]))
                          refine tq 46 (v := ?_) rfl (.inl ⟨by rfl, ?_⟩) ?_
                          rotate_left
                          · ((intro w hSw; (try dsimp only at hSw); go_simp) <;> with_reducible rfl)
                          ((try simp only [Act.put, List.setIfInBounds_toArray, ZxI]); (try simp only [List.set_cons_zero, List.set_cons_succ]))
                          as_aux_lemma =>
                            refine tq 47 (v := ?_) rfl (.inl ⟨by rfl, ?_⟩) ?_
                            rotate_left
                            · ((intro w hSw; (try dsimp only at hSw); go_simp) <;> with_reducible rfl)
                            ((try simp only [Act.put, List.setIfInBounds_toArray, ZxI]); (try simp only [List.set_cons_zero, List.set_cons_succ]))
                            refine wpAnyH_done (by kernel_rfl) ?_ _
                            as_aux_lemma =>
                              (go_wp2_with fail; go_roundg (gk - 1); (case measure => omega); (case rel => exact ⟨i + 1, by omega, by go_num, (by (repeat (first | with_reducible exact Below.refl _ _ | with_reducible assumption | with_reducible refine Below.trans ?_ (Below.mono (by with_reducible assumption) (by first | omega | (simp; done) | (simp; omega))) | with_reducible refine Below.drew ?_ | with_reducible refine Below.alloc ?_ (by first | omega | (simp; done) | (simp; omega)) _ | with_reducible refine Below.setCell ?_ (by first | omega | (simp; done) | (simp; omega)) _)))⟩))
                    exact AllReadyH.nil
            · have hsz := HSUF.out i (by omega) hlt
              have h1I : ¬ (i : Int) < (L1.length : Int) := by omega
              have h1J : (L1.length : Int) ≤ (i : Int) := by omega
              have h1N : L1.length ≤ i := by omega
              clear gx2 ok2 HX1 HX2 HPRE HSUF HOK
              generalize L2[i] = Y at *
              obtain ⟨s, y⟩ := Y
              dsimp only at g0 g1 g2 g3 hsz
              have hszB : (((s.size : Nat) : Int) != (K : Int) + 1) = false := by rw [hsz]; simp
              clear hsz
              go_wp2_with fail
              refine wp_region_held_drew (S := (fun W => ∀ c k, c < wr.heap.size → W.cell? ⟨c, k, none⟩ = wr.cell? ⟨c, k, none⟩)) (by kernel_rfl) ?_ (fun hHeld => ?_)
              · ((try dsimp only); (intro c k hc; refine Below.cell (B := wr.heap.size) (w := wr) (p := ⟨c, k, none⟩) ?_ hc; ((repeat (first | with_reducible exact Below.refl _ _ | with_reducible assumption | with_reducible refine Below.trans ?_ (Below.mono (by with_reducible assumption) (by first | omega | (simp; done) | (simp; omega))) | with_reducible refine Below.drew ?_ | with_reducible refine Below.alloc ?_ (by first | omega | (simp; done) | (simp; omega)) _ | with_reducible refine Below.setCell ?_ (by first | omega | (simp; done) | (simp; omega)) _)); done)))
              refine tq 0 (v := ?_) rfl (.inl ⟨by rfl, ?_⟩) ?_
              rotate_left
              · ((intro w hSw; (try dsimp only at hSw); go_simp) <;> with_reducible rfl)
              ((try simp only [Act.put, List.setIfInBounds_toArray, ZxI]); (try simp only [List.set_cons_zero, List.set_cons_succ]))
              refine tq 1 (v := ?_) rfl (.inl ⟨by rfl, ?_⟩) ?_
              rotate_left
              · ((intro w hSw; (try dsimp only at hSw); go_simp) <;> with_reducible rfl)
              ((try simp only [Act.put, List.setIfInBounds_toArray, ZxI]); (try simp only [List.set_cons_zero, List.set_cons_succ]))
              refine tq 2 (v := ?_) rfl (.inl ⟨by rfl, ?_⟩) ?_
              rotate_left
              · ((intro w hSw; (try dsimp only at hSw); go_simp) <;> with_reducible rfl)
              ((try simp only [Act.put, List.setIfInBounds_toArray, ZxI]); (try simp only [List.set_cons_zero, List.set_cons_succ]))
              refine tq 3 (v := ?_) rfl (.inl ⟨by rfl, ?_⟩) ?_
              rotate_left
              · ((intro w hSw; (try dsimp only at hSw); go_simp) <;> with_reducible rfl)
              ((try simp only [Act.put, List.setIfInBounds_toArray, ZxI]); (try simp only [List.set_cons_zero, List.set_cons_succ]))
              refine tq 4 (v := ?_) rfl (.inl ⟨by rfl, ?_⟩) ?_
              rotate_left
              · ((intro w hSw; (try dsimp only at hSw); go_simp) <;> with_reducible rfl)
              ((try simp only [Act.put, List.setIfInBounds_toArray, ZxI]); (try simp only [List.set_cons_zero, List.set_cons_succ]))
              refine tq 5 (v := undef) rfl (.inr ⟨by kernel_rfl, rfl⟩) ?_
              ((try simp only [Act.put, List.setIfInBounds_toArray, ZxI]); (try simp only [List.set_cons_zero, List.set_cons_succ]))
              refine tq 6 (v := undef) rfl (.inr ⟨by kernel_rfl, rfl⟩) ?_
              ((try simp only [Act.put, List.setIfInBounds_toArray, ZxI]); (try simp only [List.set_cons_zero, List.set_cons_succ]))
              as_aux_lemma =>
                refine tq 7 (v := undef) rfl (.inr ⟨by kernel_rfl, rfl⟩) ?_
                ((try simp only [Act.put, List.setIfInBounds_toArray, ZxI]); (try simp only [List.set_cons_zero, List.set_cons_succ]))
                refine tq 8 (v := undef) rfl (.inr ⟨by kernel_rfl, rfl⟩) ?_
                ((try simp only [Act.put, List.setIfInBounds_toArray, ZxI]); (try simp only [List.set_cons_zero, List.set_cons_succ]))
                refine tq 9 (v := undef) rfl (.inr ⟨by kernel_rfl, rfl⟩) ?_
                ((try simp only [Act.put, List.setIfInBounds_toArray, ZxI]); (try simp only [List.set_cons_zero, List.set_cons_succ]))
                refine tq 10 (v := undef) rfl (.inr ⟨by kernel_rfl, rfl⟩) ?_
                ((try simp only [Act.put, List.setIfInBounds_toArray, ZxI]); (try simp only [List.set_cons_zero, List.set_cons_succ]))
                refine tq 11 (v := undef) rfl (.inr ⟨by kernel_rfl, rfl⟩) ?_
                ((try simp only [Act.put, List.setIfInBounds_toArray, ZxI]); (try simp only [List.set_cons_zero, List.set_cons_succ]))
                refine tq 12 (v := undef) rfl (.inr ⟨by kernel_rfl, rfl⟩) ?_
                ((try simp only [Act.put, List.setIfInBounds_toArray, ZxI]); (try simp only [List.set_cons_zero, List.set_cons_succ]))
                refine tq 13 (v := undef) rfl (.inr ⟨by kernel_rfl, rfl⟩) ?_
                ((try simp only [Act.put, List.setIfInBounds_toArray, ZxI]); (try simp only [List.set_cons_zero, List.set_cons_succ]))
                refine tq 14 (v := undef) rfl (.inr ⟨by kernel_rfl, rfl⟩) ?_
                ((try simp only [Act.put, List.setIfInBounds_toArray, ZxI]); (try simp only [List.set_cons_zero, List.set_cons_succ]))
                as_aux_lemma =>
                  refine tq 15 (v := undef) rfl (.inr ⟨by kernel_rfl, rfl⟩) ?_
                  ((try simp only [Act.put, List.setIfInBounds_toArray, ZxI]); (try simp only [List.set_cons_zero, List.set_cons_succ]))
                  refine tq 16 (v := undef) rfl (.inr ⟨by kernel_rfl, rfl⟩) ?_
                  ((try simp only [Act.put, List.setIfInBounds_toArray, ZxI]); (try simp only [List.set_cons_zero, List.set_cons_succ]))
                  refine tq 17 (v := undef) rfl (.inr ⟨by kernel_rfl, rfl⟩) ?_
                  ((try simp only [Act.put, List.setIfInBounds_toArray, ZxI]); (try simp only [List.set_cons_zero, List.set_cons_succ]))
                  refine tq 18 (v := undef) rfl (.inr ⟨by kernel_rfl, rfl⟩) ?_
                  ((try simp only [Act.put, List.setIfInBounds_toArray, ZxI]); (try simp only [List.set_cons_zero, List.set_cons_succ]))
                  refine tq 19 (v := undef) rfl (.inr ⟨by kernel_rfl, rfl⟩) ?_
                  ((try simp only [Act.put, List.setIfInBounds_toArray, ZxI]); (try simp only [List.set_cons_zero, List.set_cons_succ]))
                  refine tq 20 (v := undef) rfl (.inr ⟨by kernel_rfl, rfl⟩) ?_
                  ((try simp only [Act.put, List.setIfInBounds_toArray, ZxI]); (try simp only [List.set_cons_zero, List.set_cons_succ]))
                  refine tq 21 (v := undef) rfl (.inr ⟨by kernel_rfl, rfl⟩) ?_
                  ((try simp only [Act.put, List.setIfInBounds_toArray, ZxI]); (try simp only [List.set_cons_zero, List.set_cons_succ]))
                  refine tq 22 (v := undef) rfl (.inr ⟨by kernel_rfl, rfl⟩) ?_
                  ((try simp only [Act.put, List.setIfInBounds_toArray, ZxI]); (try simp only [List.set_cons_zero, List.set_cons_succ]))
                  as_aux_lemma =>
                    refine tq 23 (v := undef) rfl (.inr ⟨by kernel_rfl, rfl⟩) ?_
                    ((try simp only [Act.put, List.setIfInBounds_toArray, ZxI]); (try simp only [List.set_cons_zero, List.set_cons_succ]))
                    refine tq 24 (v := undef) rfl (.inr ⟨by kernel_rfl, rfl⟩) ?_
                    ((try simp only [Act.put, List.setIfInBounds_toArray, ZxI]); (try simp only [List.set_cons_zero, List.set_cons_succ]))
                    refine tq 25 (v := undef) rfl (.inr ⟨by kernel_rfl, rfl⟩) ?_
                    ((try simp only [Act.put, List.setIfInBounds_toArray, ZxI]); (try simp only [List.set_cons_zero, List.set_cons_succ]))
                    refine tq 26 (v := undef) rfl (.inr ⟨by kernel_rfl, rfl⟩) ?_
                    ((try simp only [Act.put, List.setIfInBounds_toArray, ZxI]); (try simp only [List.set_cons_zero, List.set_cons_succ]))
                    refine tq 27 (v := undef) rfl (.inr ⟨by kernel_rfl, rfl⟩) ?_
                    ((try simp only [Act.put, List.setIfInBounds_toArray, ZxI]); (try simp only [List.set_cons_zero, List.set_cons_succ]))
                    refine tq 28 (v := undef) rfl (.inr ⟨by kernel_rfl, rfl⟩) ?_
                    ((try simp only [Act.put, List.setIfInBounds_toArray, ZxI]); (try simp only [List.set_cons_zero, List.set_cons_succ]))
                    refine tq 29 (v := undef) rfl (.inr ⟨by kernel_rfl, rfl⟩) ?_
                    ((try simp only [Act.put, List.setIfInBounds_toArray, ZxI]); (try simp only [List.set_cons_zero, List.set_cons_succ]))
                    refine tq 30 (v := ?_) rfl (.inl ⟨by rfl, ?_⟩) ?_
                    rotate_left
                    · ((intro w hSw; (try dsimp only at hSw); go_simp) <;> with_reducible rfl)
                    ((try simp only [Act.put, List.setIfInBounds_toArray, ZxI]); (try simp only [List.set_cons_zero, List.set_cons_succ]))
                    as_aux_lemma =>
                      refine tq 31 (v := ?_) rfl (.inl ⟨by rfl, ?_⟩) ?_
                      rotate_left
                      · ((intro w hSw; (try dsimp only at hSw); go_simp) <;> with_reducible rfl)
                      ((try simp only [Act.put, List.setIfInBounds_toArray, ZxI]); (try simp only [List.set_cons_zero, List.set_cons_succ]))
                      refine tq 32 (v := ?_) rfl (.inl ⟨by rfl, ?_⟩) ?_
                      rotate_left
                      · ((intro w hSw; (try dsimp only at hSw); go_simp) <;> with_reducible rfl)
                      ((try simp only [Act.put, List.setIfInBounds_toArray, ZxI]); (try simp only [List.set_cons_zero, List.set_cons_succ]))
                      refine tq 33 (v := ?_) rfl (.inl ⟨by rfl, ?_⟩) ?_
                      rotate_left
                      · ((intro w hSw; (try dsimp only at hSw); go_simp) <;> with_reducible rfl)
                      ((try simp only [Act.put, List.setIfInBounds_toArray, ZxI]); (try simp only [List.set_cons_zero, List.set_cons_succ]))
                      refine tq 34 (v := ?_) rfl (.inl ⟨by rfl, ?_⟩) ?_
                      rotate_left
                      · ((intro w hSw; (try dsimp only at hSw); go_simp) <;> with_reducible rfl)
                      ((try simp only [Act.put, List.setIfInBounds_toArray, ZxI]); (try simp only [List.set_cons_zero, List.set_cons_succ]))
                      refine tq 35 (v := ?_) rfl (.inl ⟨by rfl, ?_⟩) ?_
                      rotate_left
                      · ((intro w hSw; (try dsimp only at hSw); go_simp) <;> with_reducible rfl)
                      ((try simp only [Act.put, List.setIfInBounds_toArray, ZxI]); (try simp only [List.set_cons_zero, List.set_cons_succ]))
                      refine tq 36 (v := ?_) rfl (.inl ⟨by rfl, ?_⟩) ?_
                      rotate_left
                      · ((intro w hSw; (try dsimp only at hSw); go_simp) <;> with_reducible rfl)
                      ((try simp only [Act.put, List.setIfInBounds_toArray, ZxI]); (try simp only [List.set_cons_zero, List.set_cons_succ]))
                      refine tq 37 (v := ?_) rfl (.inl ⟨by rfl, ?_⟩) ?_
                      rotate_left
                      · ((intro w hSw; (try dsimp only at hSw); go_simp) <;> with_reducible rfl)
                      ((try simp only [Act.put, List.setIfInBounds_toArray, ZxI]); (try simp only [List.set_cons_zero, List.set_cons_succ]))
                      refine tq 38 (v := ?_) rfl (.inl ⟨by rfl, ?_⟩) ?_
                      rotate_left
                      · ((intro w hSw; (try dsimp only at hSw); go_simp) <;> with_reducible rfl)
                      ((try simp only [Act.put, List.setIfInBounds_toArray, ZxI]); (try simp only [List.set_cons_zero, List.set_cons_succ]))
                      as_aux_lemma =>
                        refine tq 39 (v := ?_) rfl (.inl ⟨by rfl, ?_⟩) ?_
                        rotate_left
                        · ((intro w hSw; (try dsimp only at hSw); go_simp) <;> with_reducible rfl)
                        ((try simp only [Act.put, List.setIfInBounds_toArray, ZxI]); (try simp only [List.set_cons_zero, List.set_cons_succ]))
                        refine tq 40 (v := ?_) rfl (.inl ⟨by rfl, ?_⟩) ?_
                        rotate_left
                        · ((intro w hSw; (try dsimp only at hSw); go_simp) <;> with_reducible rfl)
                        ((try simp only [Act.put, List.setIfInBounds_toArray, ZxI]); (try simp only [List.set_cons_zero, List.set_cons_succ]))
                        refine tq 41 (v := ?_) rfl (.inl ⟨by rfl, ?_⟩) ?_
                        rotate_left
                        · ((intro w hSw; (try dsimp only at hSw); go_simp) <;> with_reducible rfl)
                        ((try simp only [Act.put, List.setIfInBounds_toArray, ZxI]); (try simp only [List.set_cons_zero, List.set_cons_succ]))
                        refine tq 42 (v := ?_) rfl (.inl ⟨by rfl, ?_⟩) ?_
                        rotate_left
                        · ((intro w hSw; (try dsimp only at hSw); go_simp) <;> with_reducible rfl)
                        ((try simp only [Act.put, List.setIfInBounds_toArray, ZxI]); (try simp only [List.set_cons_zero, List.set_cons_succ]))
                        refine tq 43 (v := ?_) rfl (.inl ⟨by rfl, ?_⟩) ?_
                        rotate_left
                        · ((intro w hSw; (try dsimp only at hSw); go_simp) <;> with_reducible rfl)
                        ((try simp only [Act.put, List.setIfInBounds_toArray, ZxI]); (try simp only [List.set_cons_zero, List.set_cons_succ]))
                        refine tq 44 (v := ?_) rfl (.inl ⟨by rfl, ?_⟩) ?_
                        rotate_left
                        · ((intro w hSw; (try dsimp only at hSw); go_simp) <;> with_reducible rfl)
                        ((try simp only [Act.put, List.setIfInBounds_toArray, ZxI]); (try simp only [List.set_cons_zero, List.set_cons_succ]))
                        refine tq 45 (v := ?_) rfl (.inl ⟨by rfl, ?_⟩) ?_
                        rotate_left
                        · ((intro w hSw; (try dsimp only at hSw); go_simp) <;> with_reducible rfl)
                        ((try simp only [Act.put, List.setIfInBounds_toArray, ZxI]); (try simp only [List.set_cons_zero, List.set_cons_succ]))
                        refine tq 46 (v := ?_) rfl (.inl ⟨by rfl, ?_⟩) ?_
                        rotate_left
                        · ((intro w hSw; (try dsimp only at hSw); go_simp) <;> with_reducible rfl)
                        ((try simp only [Act.put, List.setIfInBounds_toArray, ZxI]); (try simp only [List.set_cons_zero, List.set_cons_succ]))
                        as_aux_lemma =>
                          refine tq 47 (v := ?_) rfl (.inl ⟨by rfl, ?_⟩) ?_
                          rotate_left
                          · ((intro w hSw; (try dsimp only at hSw); go_simp) <;> with_reducible rfl)
                          ((try simp only [Act.put, List.setIfInBounds_toArray, ZxI]); (try simp only [List.set_cons_zero, List.set_cons_succ]))
                          refine wpAnyH_done (by kernel_rfl) ?_ _
                          as_aux_lemma =>
                            (go_wp2_with fail; go_roundg (gk - 1); (case measure => omega); (case rel => exact ⟨i + 1, by omega, by go_num, (by (repeat (first | with_reducible exact Below.refl _ _ | with_reducible assumption | with_reducible refine Below.trans ?_ (Below.mono (by with_reducible assumption) (by first | omega | (simp; done) | (simp; omega))) | with_reducible refine Below.drew ?_ | with_reducible refine Below.alloc ?_ (by first | omega | (simp; done) | (simp; omega)) _ | with_reducible refine Below.setCell ?_ (by first | omega | (simp; done) | (simp; omega)) _)))⟩))
        · as_aux_lemma =>
            have hiL : ¬ (i : Int) < (L2.length : Int) := by omega
            obtain ⟨c0', c1', c2', c3', c4', c5, c6, c7, c8, c9, ca, cb, cc, cd, ce⟩ := ZO.1 (At.ext (Agree.below hbr) (A := fun _ => True) trivial _ _ HBT.out)
            obtain ⟨xk0, xk1, xk2⟩ := At3.1 (At.ext (Agree.below hbr) (A := fun _ => True) trivial _ _ HBX.out)
            have hbw : Below w.heap.size w wr := hbaw.trans (hbr.mono hbaw.size)
            have HLr := Lib.hid (RT.ext (Agree.below hbw) _ _ HL.out)
            have HVr := Lib.hid (RV.ext (Agree.below hbw) _ _ HV.out)
            have u0 : w.heap.size < wr.heap.size := by omega
            have u1 : w.heap.size + 1 < wr.heap.size := by omega
            clear HX1 HX2 HPRE HSUF HOK HBT HBX HLONG HL14 HSZ HA1 HA2 HL HV hbr hbaw
            go_upto_region 15 with fail
            as_aux_lemma =>
              go_upto_region 16 with (first
                | (go_at_call 17; (with_reducible refine (HP1.out _ (by exact RT.ext (Agree.below (by (repeat (first | with_reducible exact Below.refl _ _ | with_reducible assumption | with_reducible refine Below.trans ?_ (Below.mono (by with_reducible assumption) (by first | omega | (simp; done) | (simp; omega))) | with_reducible refine Below.drew ?_ | with_reducible refine Below.alloc ?_ (by first | omega | (simp; done) | (simp; omega)) _ | with_reducible refine Below.setCell ?_ (by first | omega | (simp; done) | (simp; omega)) _)))) _ _ HLr.out) (by exact RV.ext (Agree.below (by (repeat (first | with_reducible exact Below.refl _ _ | with_reducible assumption | with_reducible refine Below.trans ?_ (Below.mono (by with_reducible assumption) (by first | omega | (simp; done) | (simp; omega))) | with_reducible refine Below.drew ?_ | with_reducible refine Below.alloc ?_ (by first | omega | (simp; done) | (simp; omega)) _ | with_reducible refine Below.setCell ?_ (by first | omega | (simp; done) | (simp; omega)) _)))) _ _ HVr.out)).mono ?_); rintro e ww1 ⟨hb1, ra1, rb1, rc1, rd1, rfl, hr1, hs1⟩; have HR1 := Lib.hid hr1; have HS1 := Lib.hid hs1; clear hr1 hs1; obtain ⟨hc1, hf1⟩ := Za hb1; have hz1 := hb1.size; (try simp at hz1); have y10 : w.heap.size < ww1.heap.size := (by omega); have y11 : w.heap.size + 1 < ww1.heap.size := (by omega))
                | fail "no arm")
              as_aux_lemma =>
                go_upto_region 17 with (first
                  | (go_at_call 17; (with_reducible refine (HP2.out _ (by exact RT.ext (Agree.below (by (repeat (first | with_reducible exact Below.refl _ _ | with_reducible assumption | with_reducible refine Below.trans ?_ (Below.mono (by with_reducible assumption) (by first | omega | (simp; done) | (simp; omega))) | with_reducible refine Below.drew ?_ | with_reducible refine Below.alloc ?_ (by first | omega | (simp; done) | (simp; omega)) _ | with_reducible refine Below.setCell ?_ (by first | omega | (simp; done) | (simp; omega)) _)))) _ _ HLr.out) (by exact RV.ext (Agree.below (by (repeat (first | with_reducible exact Below.refl _ _ | with_reducible assumption | with_reducible refine Below.trans ?_ (Below.mono (by with_reducible assumption) (by first | omega | (simp; done) | (simp; omega))) | with_reducible refine Below.drew ?_ | with_reducible refine Below.alloc ?_ (by first | omega | (simp; done) | (simp; omega)) _ | with_reducible refine Below.setCell ?_ (by first | omega | (simp; done) | (simp; omega)) _)))) _ _ HVr.out)).mono ?_); rintro e ww2 ⟨hb2, ra2, rb2, rc2, rd2, rfl, hr2, hs2⟩; have HR2 := Lib.hid hr2; have HS2 := Lib.hid hs2; clear hr2 hs2; obtain ⟨hc2, hf2⟩ := Za hb2; have hz2 := hb2.size; (try simp at hz2); have y20 : w.heap.size < ww2.heap.size := (by omega); have y21 : w.heap.size + 1 < ww2.heap.size := (by omega); have y22 : ww1.heap.size < ww2.heap.size := (by omega))
                  | fail "no arm")
                as_aux_lemma =>
                  go_upto_region 18 with (first
                    | (go_at_call 18; (with_reducible refine (HP3.out _ (by exact RT.ext (Agree.below (by (repeat (first | with_reducible exact Below.refl _ _ | with_reducible assumption | with_reducible refine Below.trans ?_ (Below.mono (by with_reducible assumption) (by first | omega | (simp; done) | (simp; omega))) | with_reducible refine Below.drew ?_ | with_reducible refine Below.alloc ?_ (by first | omega | (simp; done) | (simp; omega)) _ | with_reducible refine Below.setCell ?_ (by first | omega | (simp; done) | (simp; omega)) _)))) _ _ HLr.out)).mono ?_); rintro e ww3 ⟨hb3, ra3, rb3, rc3, rd3, rfl, hr3, hs3⟩; have HR3 := Lib.hid hr3; have HS3 := Lib.hid hs3; clear hr3 hs3; obtain ⟨hc3, hf3⟩ := Za hb3; have hz3 := hb3.size; (try simp at hz3); have y30 : w.heap.size < ww3.heap.size := (by omega); have y31 : w.heap.size + 1 < ww3.heap.size := (by omega); have y32 : ww1.heap.size < ww3.heap.size := (by omega); have y33 : ww2.heap.size < ww3.heap.size := (by omega))
                    | fail "no arm")
                  as_aux_lemma =>
                    go_upto_region 19 with (first
                      | (go_at_call 18; (with_reducible refine (HP4.out _ (by exact RT.ext (Agree.below (by (repeat (first | with_reducible exact Below.refl _ _ | with_reducible assumption | with_reducible refine Below.trans ?_ (Below.mono (by with_reducible assumption) (by first | omega | (simp; done) | (simp; omega))) | with_reducible refine Below.drew ?_ | with_reducible refine Below.alloc ?_ (by first | omega | (simp; done) | (simp; omega)) _ | with_reducible refine Below.setCell ?_ (by first | omega | (simp; done) | (simp; omega)) _)))) _ _ HLr.out)).mono ?_); rintro e ww4 ⟨hb4, ra4, rb4, rc4, rd4, rfl, hr4, hs4⟩; have HR4 := Lib.hid hr4; have HS4 := Lib.hid hs4; clear hr4 hs4; obtain ⟨hc4, hf4⟩ := Za hb4; have hz4 := hb4.size; (try simp at hz4); have y40 : w.heap.size < ww4.heap.size := (by omega); have y41 : w.heap.size + 1 < ww4.heap.size := (by omega); have y42 : ww1.heap.size < ww4.heap.size := (by omega); have y43 : ww2.heap.size < ww4.heap.size := (by omega); have y44 : ww3.heap.size < ww4.heap.size := (by omega))
                      | fail "no arm")
                    as_aux_lemma =>
                      go_upto_region 20 with (first
                        | (go_at_call 19; (with_reducible refine (HP5.out _ (by exact RT.ext (Agree.below (by (repeat (first | with_reducible exact Below.refl _ _ | with_reducible assumption | with_reducible refine Below.trans ?_ (Below.mono (by with_reducible assumption) (by first | omega | (simp; done) | (simp; omega))) | with_reducible refine Below.drew ?_ | with_reducible refine Below.alloc ?_ (by first | omega | (simp; done) | (simp; omega)) _ | with_reducible refine Below.setCell ?_ (by first | omega | (simp; done) | (simp; omega)) _)))) _ _ HLr.out)).mono ?_); rintro e ww5 ⟨hb5, ra5, rb5, rc5, rd5, rfl, hr5, hs5⟩; have HR5 := Lib.hid hr5; have HS5 := Lib.hid hs5; clear hr5 hs5; obtain ⟨hc5, hf5⟩ := Za hb5; have hz5 := hb5.size; (try simp at hz5); have y50 : w.heap.size < ww5.heap.size := (by omega); have y51 : w.heap.size + 1 < ww5.heap.size := (by omega); have y52 : ww1.heap.size < ww5.heap.size := (by omega); have y53 : ww2.heap.size < ww5.heap.size := (by omega); have y54 : ww3.heap.size < ww5.heap.size := (by omega); have y55 : ww4.heap.size < ww5.heap.size := (by omega))
                        | fail "no arm")
                      as_aux_lemma =>
                        go_upto_region 21 with (first
                          | (go_at_call 19; (with_reducible refine (HP6.out _ (by exact RT.ext (Agree.below (by (repeat (first | with_reducible exact Below.refl _ _ | with_reducible assumption | with_reducible refine Below.trans ?_ (Below.mono (by with_reducible assumption) (by first | omega | (simp; done) | (simp; omega))) | with_reducible refine Below.drew ?_ | with_reducible refine Below.alloc ?_ (by first | omega | (simp; done) | (simp; omega)) _ | with_reducible refine Below.setCell ?_ (by first | omega | (simp; done) | (simp; omega)) _)))) _ _ HLr.out)).mono ?_); rintro e ww6 ⟨hb6, ra6, rb6, rc6, rd6, rfl, hr6, hs6⟩; have HR6 := Lib.hid hr6; have HS6 := Lib.hid hs6; clear hr6 hs6; obtain ⟨hc6, hf6⟩ := Za hb6; have hz6 := hb6.size; (try simp at hz6); have y60 : w.heap.size < ww6.heap.size := (by omega); have y61 : w.heap.size + 1 < ww6.heap.size := (by omega); have y62 : ww1.heap.size < ww6.heap.size := (by omega); have y63 : ww2.heap.size < ww6.heap.size := (by omega); have y64 : ww3.heap.size < ww6.heap.size := (by omega); have y65 : ww4.heap.size < ww6.heap.size := (by omega); have y66 : ww5.heap.size < ww6.heap.size := (by omega))
                          | fail "no arm")
                        as_aux_lemma =>
                          go_upto_region 22 with (first
                            | (go_at_call 20; (with_reducible refine (HP7.out _ (by exact RT.ext (Agree.below (by (repeat (first | with_reducible exact Below.refl _ _ | with_reducible assumption | with_reducible refine Below.trans ?_ (Below.mono (by with_reducible assumption) (by first | omega | (simp; done) | (simp; omega))) | with_reducible refine Below.drew ?_ | with_reducible refine Below.alloc ?_ (by first | omega | (simp; done) | (simp; omega)) _ | with_reducible refine Below.setCell ?_ (by first | omega | (simp; done) | (simp; omega)) _)))) _ _ HLr.out)).mono ?_); rintro e ww7 ⟨hb7, ra7, rb7, rc7, rd7, rfl, hr7, hs7⟩; have HR7 := Lib.hid hr7; have HS7 := Lib.hid hs7; clear hr7 hs7; obtain ⟨hc7, hf7⟩ := Za hb7; have hz7 := hb7.size; (try simp at hz7); have y70 : w.heap.size < ww7.heap.size := (by omega); have y71 : w.heap.size + 1 < ww7.heap.size := (by omega); have y72 : ww1.heap.size < ww7.heap.size := (by omega); have y73 : ww2.heap.size < ww7.heap.size := (by omega); have y74 : ww3.heap.size < ww7.heap.size := (by omega); have y75 : ww4.heap.size < ww7.heap.size := (by omega); have y76 : ww5.heap.size < ww7.heap.size := (by omega); have y77 : ww6.heap.size < ww7.heap.size := (by omega))
                            | fail "no arm")
                          as_aux_lemma =>
                            go_upto_region 23 with (first
                              | (go_at_call 20; (with_reducible refine (HP8.out _ (by exact RT.ext (Agree.below (by (repeat (first | with_reducible exact Below.refl _ _ | with_reducible assumption | with_reducible refine Below.trans ?_ (Below.mono (by with_reducible assumption) (by first | omega | (simp; done) | (simp; omega))) | with_reducible refine Below.drew ?_ | with_reducible refine Below.alloc ?_ (by first | omega | (simp; done) | (simp; omega)) _ | with_reducible refine Below.setCell ?_ (by first | omega | (simp; done) | (simp; omega)) _)))) _ _ HLr.out)).mono ?_); rintro e ww8 ⟨hb8, ra8, rb8, rc8, rd8, rfl, hr8, hs8⟩; have HR8 := Lib.hid hr8; have HS8 := Lib.hid hs8; clear hr8 hs8; obtain ⟨hc8, hf8⟩ := Za hb8; have hz8 := hb8.size; (try simp at hz8); have y80 : w.heap.size < ww8.heap.size := (by omega); have y81 : w.heap.size + 1 < ww8.heap.size := (by omega); have y82 : ww1.heap.size < ww8.heap.size := (by omega); have y83 : ww2.heap.size < ww8.heap.size := (by omega); have y84 : ww3.heap.size < ww8.heap.size := (by omega); have y85 : ww4.heap.size < ww8.heap.size := (by omega); have y86 : ww5.heap.size < ww8.heap.size := (by omega); have y87 : ww6.heap.size < ww8.heap.size := (by omega); have y88 : ww7.heap.size < ww8.heap.size := (by omega))
                              | fail "no arm")
                            as_aux_lemma =>
                              refine ZT (fun W => Below w.heap.size w W ∧ ww8.heap.size < W.heap.size ∧ W.cell? ⟨ww1.heap.size, 0, none⟩ = some (.bool false) ∧ W.cell? ⟨ww1.heap.size, 1, none⟩ = some (.slice ra1 (W7 p1.1).length ((W7 p1.1).length + rc1)) ∧ W.cell? ⟨ww1.heap.size, 2, none⟩ = some (.slice rb1 (W7 p1.2).length ((W7 p1.2).length + rd1)) ∧ W.cell? ⟨ww2.heap.size, 0, none⟩ = some (.bool false) ∧ W.cell? ⟨ww2.heap.size, 1, none⟩ = some (.slice ra2 (W7 p2.1).length ((W7 p2.1).length + rc2)) ∧ W.cell? ⟨ww2.heap.size, 2, none⟩ = some (.slice rb2 (W7 p2.2).length ((W7 p2.2).length + rd2)) ∧ W.cell? ⟨ww3.heap.size, 0, none⟩ = some (.bool false) ∧ W.cell? ⟨ww3.heap.size, 1, none⟩ = some (.slice ra3 (W7 p3.1).length ((W7 p3.1).length + rc3)) ∧ W.cell? ⟨ww3.heap.size, 2, none⟩ = some (.slice rb3 (W7 p3.2).length ((W7 p3.2).length + rd3)) ∧ W.cell? ⟨ww4.heap.size, 0, none⟩ = some (.bool false) ∧ W.cell? ⟨ww4.heap.size, 1, none⟩ = some (.slice ra4 (W7 p4.1).length ((W7 p4.1).length + rc4)) ∧ W.cell? ⟨ww4.heap.size, 2, none⟩ = some (.slice rb4 (W7 p4.2).length ((W7 p4.2).length + rd4)) ∧ W.cell? ⟨ww5.heap.size, 0, none⟩ = some (.bool false) ∧ W.cell? ⟨ww5.heap.size, 1, none⟩ = some (.slice ra5 (W7 p5.1).length ((W7 p5.1).length + rc5)) ∧ W.cell? ⟨ww5.heap.size, 2, none⟩ = some (.slice rb5 (W7 p5.2).length ((W7 p5.2).length + rd5)) ∧ W.cell? ⟨ww6.heap.size, 0, none⟩ = some (.bool false) ∧ W.cell? ⟨ww6.heap.size, 1, none⟩ = some (.slice ra6 (W7 p6.1).length ((W7 p6.1).length + rc6)) ∧ W.cell? ⟨ww6.heap.size, 2, none⟩ = some (.slice rb6 (W7 p6.2).length ((W7 p6.2).length + rd6)) ∧ W.cell? ⟨ww7.heap.size, 0, none⟩ = some (.bool false) ∧ W.cell? ⟨ww7.heap.size, 1, none⟩ = some (.slice ra7 (W7 p7.1).length ((W7 p7.1).length + rc7)) ∧ W.cell? ⟨ww7.heap.size, 2, none⟩ = some (.slice rb7 (W7 p7.2).length ((W7 p7.2).length + rd7)) ∧ W.cell? ⟨ww8.heap.size, 0, none⟩ = some (.bool false) ∧ W.cell? ⟨ww8.heap.size, 1, none⟩ = some (.slice ra8 (W7 p8.1).length ((W7 p8.1).length + rc8)) ∧ W.cell? ⟨ww8.heap.size, 2, none⟩ = some (.slice rb8 (W7 p8.2).length ((W7 p8.2).length + rd8)) ∧ Hid (RL W (fun _ => True) (W7 p1.1) ra1) ∧ Hid (RL W (fun _ => True) (W7 p1.2) rb1) ∧ Hid (RL W (fun _ => True) (W7 p2.1) ra2) ∧ Hid (RL W (fun _ => True) (W7 p2.2) rb2) ∧ Hid (RL W (fun _ => True) (W7 p3.1) ra3) ∧ Hid (RL W (fun _ => True) (W7 p3.2) rb3) ∧ Hid (RL W (fun _ => True) (W7 p4.1) ra4) ∧ Hid (RL W (fun _ => True) (W7 p4.2) rb4) ∧ Hid (RL W (fun _ => True) (W7 p5.1) ra5) ∧ Hid (RL W (fun _ => True) (W7 p5.2) rb5) ∧ Hid (RL W (fun _ => True) (W7 p6.1) ra6) ∧ Hid (RL W (fun _ => True) (W7 p6.2) rb6) ∧ Hid (RL W (fun _ => True) (W7 p7.1) ra7) ∧ Hid (RL W (fun _ => True) (W7 p7.2) rb7) ∧ Hid (RL W (fun _ => True) (W7 p8.1) ra8) ∧ Hid (RL W (fun _ => True) (W7 p8.2) rb8)) ⟨(by (repeat (first | with_reducible exact Below.refl _ _ | with_reducible assumption | with_reducible refine Below.trans ?_ (Below.mono (by with_reducible assumption) (by first | omega | (simp; done) | (simp; omega))) | with_reducible refine Below.drew ?_ | with_reducible refine Below.alloc ?_ (by first | omega | (simp; done) | (simp; omega)) _ | with_reducible refine Below.setCell ?_ (by first | omega | (simp; done) | (simp; omega)) _))), by simp, by go_simp, by go_simp, by go_simp, by go_simp, by go_simp, by go_simp, by go_simp, by go_simp, by go_simp, by go_simp, by go_simp, by go_simp, by go_simp, by go_simp, by go_simp, by go_simp, by go_simp, by go_simp, by go_simp, by go_simp, by go_simp, by go_simp, by go_simp, by go_simp, Lib.hid (RL.mono (fun _ _ _ => trivial) (RL.ext (A := fun b => w.heap.size ≤ b) (Agree.below (by (repeat (first | with_reducible exact Below.refl _ _ | with_reducible assumption | with_reducible refine Below.trans ?_ (Below.mono (by with_reducible assumption) (by first | omega | (simp; done) | (simp; omega))) | with_reducible refine Below.drew ?_ | with_reducible refine Below.alloc ?_ (by first | omega | (simp; done) | (simp; omega)) _ | with_reducible refine Below.setCell ?_ (by first | omega | (simp; done) | (simp; omega)) _)))) (RL.mono (fun b h _ => by (try simp at h); omega) HR1.out))), Lib.hid (RL.mono (fun _ _ _ => trivial) (RL.ext (A := fun b => w.heap.size ≤ b) (Agree.below (by (repeat (first | with_reducible exact Below.refl _ _ | with_reducible assumption | with_reducible refine Below.trans ?_ (Below.mono (by with_reducible assumption) (by first | omega | (simp; done) | (simp; omega))) | with_reducible refine Below.drew ?_ | with_reducible refine Below.alloc ?_ (by first | omega | (simp; done) | (simp; omega)) _ | with_reducible refine Below.setCell ?_ (by first | omega | (simp; done) | (simp; omega)) _)))) (RL.mono (fun b h _ => by (try simp at h); omega) HS1.out))), Lib.hid (RL.mono (fun _ _ _ => trivial) (RL.ext (A := fun b => w.heap.size ≤ b) (Agree.below (by (repeat (first | with_reducible exact Below.refl _ _ | with_reducible assumption | with_reducible refine Below.trans ?_ (Below.mono (by with_reducible assumption) (by first | omega | (simp; done) | (simp; omega))) | with_reducible refine Below.drew ?_ | with_reducible refine Below.alloc ?_ (by first | omega | (simp; done) | (simp; omega)) _ | with_reducible refine Below.setCell ?_ (by first | omega | (simp; done) | (simp; omega)) _)))) (RL.mono (fun b h _ => by (try simp at h); omega) HR2.out))), Lib.hid (RL.mono (fun _ _ _ => trivial) (RL.ext (A := fun b => w.heap.size ≤ b) (Agree.below (by (repeat (first | with_reducible exact Below.refl _ _ | with_reducible assumption | with_reducible refine Below.trans ?_ (Below.mono (by with_reducible assumption) (by first | omega | (simp; done) | (simp; omega))) | with_reducible refine Below.drew ?_ | with_reducible refine Below.alloc ?_ (by first | omega | (simp; done) | (simp; omega)) _ | with_reducible refine Below.setCell ?_ (by first | omega | (simp; done) | (simp; omega)) _)))) (RL.mono (fun b h _ => by (try simp at h); omega) HS2.out))), Lib.hid (RL.mono (fun _ _ _ => trivial) (RL.ext (A := fun b => w.heap.size ≤ b) (Agree.below (by (repeat (first | with_reducible exact Below.refl _ _ | with_reducible assumption | with_reducible refine Below.trans ?_ (Below.mono (by with_reducible assumption) (by first | omega | (simp; done) | (simp; omega))) | with_reducible refine Below.drew ?_ | with_reducible refine Below.alloc ?_ (by first | omega | (simp; done) | (simp; omega)) _ | with_reducible refine Below.setCell ?_ (by first | omega | (simp; done) | (simp; omega)) _)))) (RL.mono (fun b h _ => by (try simp at h); omega) HR3.out))), Lib.hid (RL.mono (fun _ _ _ => trivial) (RL.ext (A := fun b => w.heap.size ≤ b) (Agree.below (by (repeat (first | with_reducible exact Below.refl _ _ | with_reducible assumption | with_reducible refine Below.trans ?_ (Below.mono (by with_reducible assumption) (by first | omega | (simp; done) | (simp; omega))) | with_reducible refine Below.drew ?_ | with_reducible refine Below.alloc ?_ (by first | omega | (simp; done) | (simp; omega)) _ | with_reducible refine Below.setCell ?_ (by first | omega | (simp; done) | (simp; omega)) _)))) (RL.mono (fun b h _ => by (try simp at h); omega) HS3.out))), Lib.hid (RL.mono (fun _ _ _ => trivial) (RL.ext (A := fun b => w.heap.size ≤ b) (Agree.below (by (repeat (first | with_reducible exact Below.refl _ _ | with_reducible assumption | with_reducible refine Below.trans ?_ (Below.mono (by with_reducible assumption) (by first | omega | (simp; done) | (simp; omega))) | with_reducible refine Below.drew ?_ | with_reducible refine Below.alloc ?_ (by first | omega | (simp; done) | (simp; omega)) _ | with_reducible refine Below.setCell ?_ (by first | omega | (simp; done) | (simp; omega)) _)))) (RL.mono (fun b h _ => by (try simp at h); omega) HR4.out))), Lib.hid (RL.mono (fun _ _ _ => trivial) (RL.ext (A := fun b => w.heap.size ≤ b) (Agree.below (by (repeat (first | with_reducible exact Below.refl _ _ | with_reducible assumption | with_reducible refine Below.trans ?_ (Below.mono (by with_reducible assumption) (by first | omega | (simp; done) | (simp; omega))) | with_reducible refine Below.drew ?_ | with_reducible refine Below.alloc ?_ (by first | omega | (simp; done) | (simp; omega)) _ | with_reducible refine Below.setCell ?_ (by first | omega | (simp; done) | (simp; omega)) _)))) (RL.mono (fun b h _ => by (try simp at h); omega) HS4.out))), Lib.hid (RL.mono (fun _ _ _ => trivial) (RL.ext (A := fun b => w.heap.size ≤ b) (Agree.below (by (repeat (first | with_reducible exact Below.refl _ _ | with_reducible assumption | with_reducible refine Below.trans ?_ (Below.mono (by with_reducible assumption) (by first | omega | (simp; done) | (simp; omega))) | with_reducible refine Below.drew ?_ | with_reducible refine Below.alloc ?_ (by first | omega | (simp; done) | (simp; omega)) _ | with_reducible refine Below.setCell ?_ (by first | omega | (simp; done) | (simp; omega)) _)))) (RL.mono (fun b h _ => by (try simp at h); omega) HR5.out))), Lib.hid (RL.mono (fun _ _ _ => trivial) (RL.ext (A := fun b => w.heap.size ≤ b) (Agree.below (by (repeat (first | with_reducible exact Below.refl _ _ | with_reducible assumption | with_reducible refine Below.trans ?_ (Below.mono (by with_reducible assumption) (by first | omega | (simp; done) | (simp; omega))) | with_reducible refine Below.drew ?_ | with_reducible refine Below.alloc ?_ (by first | omega | (simp; done) | (simp; omega)) _ | with_reducible refine Below.setCell ?_ (by first | omega | (simp; done) | (simp; omega)) _)))) (RL.mono (fun b h _ => by (try simp at h); omega) HS5.out))), Lib.hid (RL.mono (fun _ _ _ => trivial) (RL.ext (A := fun b => w.heap.size ≤ b) (Agree.below (by (repeat (first | with_reducible exact Below.refl _ _ | with_reducible assumption | with_reducible refine Below.trans ?_ (Below.mono (by with_reducible assumption) (by first | omega | (simp; done) | (simp; omega))) | with_reducible refine Below.drew ?_ | with_reducible refine Below.alloc ?_ (by first | omega | (simp; done) | (simp; omega)) _ | with_reducible refine Below.setCell ?_ (by first | omega | (simp; done) | (simp; omega)) _)))) (RL.mono (fun b h _ => by (try simp at h); omega) HR6.out))), Lib.hid (RL.mono (fun _ _ _ => trivial) (RL.ext (A := fun b => w.heap.size ≤ b) (Agree.below (by (repeat (first | with_reducible exact Below.refl _ _ | with_reducible assumption | with_reducible refine Below.trans ?_ (Below.mono (by with_reducible assumption) (by first | omega | (simp; done) | (simp; omega))) | with_reducible refine Below.drew ?_ | with_reducible refine Below.alloc ?_ (by first | omega | (simp; done) | (simp; omega)) _ | with_reducible refine Below.setCell ?_ (by first | omega | (simp; done) | (simp; omega)) _)))) (RL.mono (fun b h _ => by (try simp at h); omega) HS6.out))), Lib.hid (RL.mono (fun _ _ _ => trivial) (RL.ext (A := fun b => w.heap.size ≤ b) (Agree.below (by (repeat (first | with_reducible exact Below.refl _ _ | with_reducible assumption | with_reducible refine Below.trans ?_ (Below.mono (by with_reducible assumption) (by first | omega | (simp; done) | (simp; omega))) | with_reducible refine Below.drew ?_ | with_reducible refine Below.alloc ?_ (by first | omega | (simp; done) | (simp; omega)) _ | with_reducible refine Below.setCell ?_ (by first | omega | (simp; done) | (simp; omega)) _)))) (RL.mono (fun b h _ => by (try simp at h); omega) HR7.out))), Lib.hid (RL.mono (fun _ _ _ => trivial) (RL.ext (A := fun b => w.heap.size ≤ b) (Agree.below (by (repeat (first | with_reducible exact Below.refl _ _ | with_reducible assumption | with_reducible refine Below.trans ?_ (Below.mono (by with_reducible assumption) (by first | omega | (simp; done) | (simp; omega))) | with_reducible refine Below.drew ?_ | with_reducible refine Below.alloc ?_ (by first | omega | (simp; done) | (simp; omega)) _ | with_reducible refine Below.setCell ?_ (by first | omega | (simp; done) | (simp; omega)) _)))) (RL.mono (fun b h _ => by (try simp at h); omega) HS7.out))), Lib.hid (RL.mono (fun _ _ _ => trivial) (RL.ext (A := fun b => w.heap.size ≤ b) (Agree.below (by (repeat (first | with_reducible exact Below.refl _ _ | with_reducible assumption | with_reducible refine Below.trans ?_ (Below.mono (by with_reducible assumption) (by first | omega | (simp; done) | (simp; omega))) | with_reducible refine Below.drew ?_ | with_reducible refine Below.alloc ?_ (by first | omega | (simp; done) | (simp; omega)) _ | with_reducible refine Below.setCell ?_ (by first | omega | (simp; done) | (simp; omega)) _)))) (RL.mono (fun b h _ => by (try simp at h); omega) HR8.out))), Lib.hid (RL.mono (fun _ _ _ => trivial) (RL.ext (A := fun b => w.heap.size ≤ b) (Agree.below (by (repeat (first | with_reducible exact Below.refl _ _ | with_reducible assumption | with_reducible refine Below.trans ?_ (Below.mono (by with_reducible assumption) (by first | omega | (simp; done) | (simp; omega))) | with_reducible refine Below.drew ?_ | with_reducible refine Below.alloc ?_ (by first | omega | (simp; done) | (simp; omega)) _ | with_reducible refine Below.setCell ?_ (by first | omega | (simp; done) | (simp; omega)) _)))) (RL.mono (fun b h _ => by (try simp at h); omega) HS8.out)))⟩ ?_
                              rintro wz ⟨hbz, hzz, q10, q11, q12, q20, q21, q22, q30, q31, q32, q40, q41, q42, q50, q51, q52, q60, q61, q62, q70, q71, q72, q80, q81, q82, HA1, HB1, HA2, HB2, HA3, HB3, HA4, HB4, HA5, HB5, HA6, HB6, HA7, HB7, HA8, HB8⟩
                              have zz : ww1.heap.size < wz.heap.size ∧ ww2.heap.size < wz.heap.size ∧ ww3.heap.size < wz.heap.size ∧ ww4.heap.size < wz.heap.size ∧ ww5.heap.size < wz.heap.size ∧ ww6.heap.size < wz.heap.size ∧ ww7.heap.size < wz.heap.size := by omega
                              obtain ⟨e1, e2, e3, e4, e5, e6, e7⟩ := zz
                              have hbzs := hbz.size
                              clear hb1 hc1 hf1 hz1 HP1 HR1 HS1 y10 y11 hb2 hc2 hf2 hz2 HP2 HR2 HS2 y20 y21 y22 hb3 hc3 hf3 hz3 HP3 HR3 HS3 y30 y31 y32 y33 hb4 hc4 hf4 hz4 HP4 HR4 HS4 y40 y41 y42 y43 y44 hb5 hc5 hf5 hz5 HP5 HR5 HS5 y50 y51 y52 y53 y54 y55 hb6 hc6 hf6 hz6 HP6 HR6 HS6 y60 y61 y62 y63 y64 y65 y66 hb7 hc7 hf7 hz7 HP7 HR7 HS7 y70 y71 y72 y73 y74 y75 y76 y77 hb8 hc8 hf8 hz8 HP8 HR8 HS8 y80 y81 y82 y83 y84 y85 y86 y87 y88 c0' c1' c2' c3' c4' c5 c6 c7 c8 c9 ca cb cc cd ce xk0 xk1 xk2 hbw HLr HVr u0 u1
                              go_upto_region 25 with (first
                                | (go_at_call 43; (with_reducible refine (HC1.out _ ra1 rb1 ra2 rb2 _ _ _ _ (by exact RL.ext (Agree.below (by (repeat (first | with_reducible exact Below.refl _ _ | with_reducible assumption | with_reducible refine Below.trans ?_ (Below.mono (by with_reducible assumption) (by first | omega | (simp; done) | (simp; omega))) | with_reducible refine Below.drew ?_ | with_reducible refine Below.alloc ?_ (by first | omega | (simp; done) | (simp; omega)) _ | with_reducible refine Below.setCell ?_ (by first | omega | (simp; done) | (simp; omega)) _)))) HA1.out) (by exact RL.ext (Agree.below (by (repeat (first | with_reducible exact Below.refl _ _ | with_reducible assumption | with_reducible refine Below.trans ?_ (Below.mono (by with_reducible assumption) (by first | omega | (simp; done) | (simp; omega))) | with_reducible refine Below.drew ?_ | with_reducible refine Below.alloc ?_ (by first | omega | (simp; done) | (simp; omega)) _ | with_reducible refine Below.setCell ?_ (by first | omega | (simp; done) | (simp; omega)) _)))) HB1.out) (by exact RL.ext (Agree.below (by (repeat (first | with_reducible exact Below.refl _ _ | with_reducible assumption | with_reducible refine Below.trans ?_ (Below.mono (by with_reducible assumption) (by first | omega | (simp; done) | (simp; omega))) | with_reducible refine Below.drew ?_ | with_reducible refine Below.alloc ?_ (by first | omega | (simp; done) | (simp; omega)) _ | with_reducible refine Below.setCell ?_ (by first | omega | (simp; done) | (simp; omega)) _)))) HA2.out) (by exact RL.ext (Agree.below (by (repeat (first | with_reducible exact Below.refl _ _ | with_reducible assumption | with_reducible refine Below.trans ?_ (Below.mono (by with_reducible assumption) (by first | omega | (simp; done) | (simp; omega))) | with_reducible refine Below.drew ?_ | with_reducible refine Below.alloc ?_ (by first | omega | (simp; done) | (simp; omega)) _ | with_reducible refine Below.setCell ?_ (by first | omega | (simp; done) | (simp; omega)) _)))) HB2.out)).mono ?_); rintro e vv1 ⟨rfl, hv1⟩; obtain ⟨hvc1, hvf1⟩ := Za hv1; have hvz1 := hv1.size; (try simp at hvz1); have yy11 : ww1.heap.size < vv1.heap.size := (by omega); have yy12 : ww2.heap.size < vv1.heap.size := (by omega); have yy13 : ww3.heap.size < vv1.heap.size := (by omega); have yy14 : ww4.heap.size < vv1.heap.size := (by omega); have yy15 : ww5.heap.size < vv1.heap.size := (by omega); have yy16 : ww6.heap.size < vv1.heap.size := (by omega); have yy17 : ww7.heap.size < vv1.heap.size := (by omega); have yy18 : ww8.heap.size < vv1.heap.size := (by omega))
                                | (go_at_call 43; (with_reducible refine (HC2.out _ ra3 rb3 ra4 rb4 _ _ _ _ (by exact RL.ext (Agree.below (by (repeat (first | with_reducible exact Below.refl _ _ | with_reducible assumption | with_reducible refine Below.trans ?_ (Below.mono (by with_reducible assumption) (by first | omega | (simp; done) | (simp; omega))) | with_reducible refine Below.drew ?_ | with_reducible refine Below.alloc ?_ (by first | omega | (simp; done) | (simp; omega)) _ | with_reducible refine Below.setCell ?_ (by first | omega | (simp; done) | (simp; omega)) _)))) HA3.out) (by exact RL.ext (Agree.below (by (repeat (first | with_reducible exact Below.refl _ _ | with_reducible assumption | with_reducible refine Below.trans ?_ (Below.mono (by with_reducible assumption) (by first | omega | (simp; done) | (simp; omega))) | with_reducible refine Below.drew ?_ | with_reducible refine Below.alloc ?_ (by first | omega | (simp; done) | (simp; omega)) _ | with_reducible refine Below.setCell ?_ (by first | omega | (simp; done) | (simp; omega)) _)))) HB3.out) (by exact RL.ext (Agree.below (by (repeat (first | with_reducible exact Below.refl _ _ | with_reducible assumption | with_reducible refine Below.trans ?_ (Below.mono (by with_reducible assumption) (by first | omega | (simp; done) | (simp; omega))) | with_reducible refine Below.drew ?_ | with_reducible refine Below.alloc ?_ (by first | omega | (simp; done) | (simp; omega)) _ | with_reducible refine Below.setCell ?_ (by first | omega | (simp; done) | (simp; omega)) _)))) HA4.out) (by exact RL.ext (Agree.below (by (repeat (first | with_reducible exact Below.refl _ _ | with_reducible assumption | with_reducible refine Below.trans ?_ (Below.mono (by with_reducible assumption) (by first | omega | (simp; done) | (simp; omega))) | with_reducible refine Below.drew ?_ | with_reducible refine Below.alloc ?_ (by first | omega | (simp; done) | (simp; omega)) _ | with_reducible refine Below.setCell ?_ (by first | omega | (simp; done) | (simp; omega)) _)))) HB4.out)).mono ?_); rintro e vv2 ⟨rfl, hv2⟩; obtain ⟨hvc2, hvf2⟩ := Za hv2; have hvz2 := hv2.size; (try simp at hvz2); have yy21 : ww1.heap.size < vv2.heap.size := (by omega); have yy22 : ww2.heap.size < vv2.heap.size := (by omega); have yy23 : ww3.heap.size < vv2.heap.size := (by omega); have yy24 : ww4.heap.size < vv2.heap.size := (by omega); have yy25 : ww5.heap.size < vv2.heap.size := (by omega); have yy26 : ww6.heap.size < vv2.heap.size := (by omega); have yy27 : ww7.heap.size < vv2.heap.size := (by omega); have yy28 : ww8.heap.size < vv2.heap.size := (by omega))
                                | (go_at_call 43; (with_reducible refine (HC3.out _ ra5 rb5 ra6 rb6 _ _ _ _ (by exact RL.ext (Agree.below (by (repeat (first | with_reducible exact Below.refl _ _ | with_reducible assumption | with_reducible refine Below.trans ?_ (Below.mono (by with_reducible assumption) (by first | omega | (simp; done) | (simp; omega))) | with_reducible refine Below.drew ?_ | with_reducible refine Below.alloc ?_ (by first | omega | (simp; done) | (simp; omega)) _ | with_reducible refine Below.setCell ?_ (by first | omega | (simp; done) | (simp; omega)) _)))) HA5.out) (by exact RL.ext (Agree.below (by (repeat (first | with_reducible exact Below.refl _ _ | with_reducible assumption | with_reducible refine Below.trans ?_ (Below.mono (by with_reducible assumption) (by first | omega | (simp; done) | (simp; omega))) | with_reducible refine Below.drew ?_ | with_reducible refine Below.alloc ?_ (by first | omega | (simp; done) | (simp; omega)) _ | with_reducible refine Below.setCell ?_ (by first | omega | (simp; done) | (simp; omega)) _)))) HB5.out) (by exact RL.ext (Agree.below (by (repeat (first | with_reducible exact Below.refl _ _ | with_reducible assumption | with_reducible refine Below.trans ?_ (Below.mono (by with_reducible assumption) (by first | omega | (simp; done) | (simp; omega))) | with_reducible refine Below.drew ?_ | with_reducible refine Below.alloc ?_ (by first | omega | (simp; done) | (simp; omega)) _ | with_reducible refine Below.setCell ?_ (by first | omega | (simp; done) | (simp; omega)) _)))) HA6.out) (by exact RL.ext (Agree.below (by (repeat (first | with_reducible exact Below.refl _ _ | with_reducible assumption | with_reducible refine Below.trans ?_ (Below.mono (by with_reducible assumption) (by first | omega | (simp; done) | (simp; omega))) | with_reducible refine Below.drew ?_ | with_reducible refine Below.alloc ?_ (by first | omega | (simp; done) | (simp; omega)) _ | with_reducible refine Below.setCell ?_ (by first | omega | (simp; done) | (simp; omega)) _)))) HB6.out)).mono ?_); rintro e vv3 ⟨rfl, hv3⟩; obtain ⟨hvc3, hvf3⟩ := Za hv3; have hvz3 := hv3.size; (try simp at hvz3); have yy31 : ww1.heap.size < vv3.heap.size := (by omega); have yy32 : ww2.heap.size < vv3.heap.size := (by omega); have yy33 : ww3.heap.size < vv3.heap.size := (by omega); have yy34 : ww4.heap.size < vv3.heap.size := (by omega); have yy35 : ww5.heap.size < vv3.heap.size := (by omega); have yy36 : ww6.heap.size < vv3.heap.size := (by omega); have yy37 : ww7.heap.size < vv3.heap.size := (by omega); have yy38 : ww8.heap.size < vv3.heap.size := (by omega))
                                | fail "no arm")
                              refine ZT (fun W => Below w.heap.size w W ∧ ww8.heap.size < W.heap.size ∧ ww3.heap.size < W.heap.size ∧ ww6.heap.size < W.heap.size ∧ ww7.heap.size < W.heap.size ∧ W.cell? ⟨ww3.heap.size, 0, none⟩ = some (.bool false) ∧ W.cell? ⟨ww3.heap.size, 1, none⟩ = some (.slice ra3 (W7 p3.1).length ((W7 p3.1).length + rc3)) ∧ W.cell? ⟨ww3.heap.size, 2, none⟩ = some (.slice rb3 (W7 p3.2).length ((W7 p3.2).length + rd3)) ∧ W.cell? ⟨ww6.heap.size, 0, none⟩ = some (.bool false) ∧ W.cell? ⟨ww6.heap.size, 1, none⟩ = some (.slice ra6 (W7 p6.1).length ((W7 p6.1).length + rc6)) ∧ W.cell? ⟨ww6.heap.size, 2, none⟩ = some (.slice rb6 (W7 p6.2).length ((W7 p6.2).length + rd6)) ∧ W.cell? ⟨ww7.heap.size, 0, none⟩ = some (.bool false) ∧ W.cell? ⟨ww7.heap.size, 1, none⟩ = some (.slice ra7 (W7 p7.1).length ((W7 p7.1).length + rc7)) ∧ W.cell? ⟨ww7.heap.size, 2, none⟩ = some (.slice rb7 (W7 p7.2).length ((W7 p7.2).length + rd7)) ∧ W.cell? ⟨ww8.heap.size, 0, none⟩ = some (.bool false) ∧ W.cell? ⟨ww8.heap.size, 1, none⟩ = some (.slice ra8 (W7 p8.1).length ((W7 p8.1).length + rc8)) ∧ W.cell? ⟨ww8.heap.size, 2, none⟩ = some (.slice rb8 (W7 p8.2).length ((W7 p8.2).length + rd8)) ∧ Hid (RL W (fun _ => True) (W7 p3.1) ra3) ∧ Hid (RL W (fun _ => True) (W7 p3.2) rb3) ∧ Hid (RL W (fun _ => True) (W7 p6.1) ra6) ∧ Hid (RL W (fun _ => True) (W7 p6.2) rb6) ∧ Hid (RL W (fun _ => True) (W7 p7.1) ra7) ∧ Hid (RL W (fun _ => True) (W7 p7.2) rb7) ∧ Hid (RL W (fun _ => True) (W7 p8.1) ra8) ∧ Hid (RL W (fun _ => True) (W7 p8.2) rb8)) ⟨(by (repeat (first | with_reducible exact Below.refl _ _ | with_reducible assumption | with_reducible refine Below.trans ?_ (Below.mono (by with_reducible assumption) (by first | omega | (simp; done) | (simp; omega))) | with_reducible refine Below.drew ?_ | with_reducible refine Below.alloc ?_ (by first | omega | (simp; done) | (simp; omega)) _ | with_reducible refine Below.setCell ?_ (by first | omega | (simp; done) | (simp; omega)) _))), by first | omega | (simp; omega), by first | omega | (simp; omega), by first | omega | (simp; omega), by first | omega | (simp; omega), by go_simp, by go_simp, by go_simp, by go_simp, by go_simp, by go_simp, by go_simp, by go_simp, by go_simp, by go_simp, by go_simp, by go_simp, Lib.hid (RL.ext (Agree.below (by (repeat (first | with_reducible exact Below.refl _ _ | with_reducible assumption | with_reducible refine Below.trans ?_ (Below.mono (by with_reducible assumption) (by first | omega | (simp; done) | (simp; omega))) | with_reducible refine Below.drew ?_ | with_reducible refine Below.alloc ?_ (by first | omega | (simp; done) | (simp; omega)) _ | with_reducible refine Below.setCell ?_ (by first | omega | (simp; done) | (simp; omega)) _)))) HA3.out), Lib.hid (RL.ext (Agree.below (by (repeat (first | with_reducible exact Below.refl _ _ | with_reducible assumption | with_reducible refine Below.trans ?_ (Below.mono (by with_reducible assumption) (by first | omega | (simp; done) | (simp; omega))) | with_reducible refine Below.drew ?_ | with_reducible refine Below.alloc ?_ (by first | omega | (simp; done) | (simp; omega)) _ | with_reducible refine Below.setCell ?_ (by first | omega | (simp; done) | (simp; omega)) _)))) HB3.out), Lib.hid (RL.ext (Agree.below (by (repeat (first | with_reducible exact Below.refl _ _ | with_reducible assumption | with_reducible refine Below.trans ?_ (Below.mono (by with_reducible assumption) (by first | omega | (simp; done) | (simp; omega))) | with_reducible refine Below.drew ?_ | with_reducible refine Below.alloc ?_ (by first | omega | (simp; done) | (simp; omega)) _ | with_reducible refine Below.setCell ?_ (by first | omega | (simp; done) | (simp; omega)) _)))) HA6.out), Lib.hid (RL.ext (Agree.below (by (repeat (first | with_reducible exact Below.refl _ _ | with_reducible assumption | with_reducible refine Below.trans ?_ (Below.mono (by with_reducible assumption) (by first | omega | (simp; done) | (simp; omega))) | with_reducible refine Below.drew ?_ | with_reducible refine Below.alloc ?_ (by first | omega | (simp; done) | (simp; omega)) _ | with_reducible refine Below.setCell ?_ (by first | omega | (simp; done) | (simp; omega)) _)))) HB6.out), Lib.hid (RL.ext (Agree.below (by (repeat (first | with_reducible exact Below.refl _ _ | with_reducible assumption | with_reducible refine Below.trans ?_ (Below.mono (by with_reducible assumption) (by first | omega | (simp; done) | (simp; omega))) | with_reducible refine Below.drew ?_ | with_reducible refine Below.alloc ?_ (by first | omega | (simp; done) | (simp; omega)) _ | with_reducible refine Below.setCell ?_ (by first | omega | (simp; done) | (simp; omega)) _)))) HA7.out), Lib.hid (RL.ext (Agree.below (by (repeat (first | with_reducible exact Below.refl _ _ | with_reducible assumption | with_reducible refine Below.trans ?_ (Below.mono (by with_reducible assumption) (by first | omega | (simp; done) | (simp; omega))) | with_reducible refine Below.drew ?_ | with_reducible refine Below.alloc ?_ (by first | omega | (simp; done) | (simp; omega)) _ | with_reducible refine Below.setCell ?_ (by first | omega | (simp; done) | (simp; omega)) _)))) HB7.out), Lib.hid (RL.ext (Agree.below (by (repeat (first | with_reducible exact Below.refl _ _ | with_reducible assumption | with_reducible refine Below.trans ?_ (Below.mono (by with_reducible assumption) (by first | omega | (simp; done) | (simp; omega))) | with_reducible refine Below.drew ?_ | with_reducible refine Below.alloc ?_ (by first | omega | (simp; done) | (simp; omega)) _ | with_reducible refine Below.setCell ?_ (by first | omega | (simp; done) | (simp; omega)) _)))) HA8.out), Lib.hid (RL.ext (Agree.below (by (repeat (first | with_reducible exact Below.refl _ _ | with_reducible assumption | with_reducible refine Below.trans ?_ (Below.mono (by with_reducible assumption) (by first | omega | (simp; done) | (simp; omega))) | with_reducible refine Below.drew ?_ | with_reducible refine Below.alloc ?_ (by first | omega | (simp; done) | (simp; omega)) _ | with_reducible refine Below.setCell ?_ (by first | omega | (simp; done) | (simp; omega)) _)))) HB8.out)⟩ ?_
                              rintro wy ⟨hby, hzy, n3, n6, n7, q30y, q31y, q32y, q60y, q61y, q62y, q70y, q71y, q72y, q80y, q81y, q82y, GA3, GB3, GA6, GB6, GA7, GB7, GA8, GB8⟩
                              have hbys := hby.size
                              clear hv1 hv2 hv3 hvc1 hvc2 hvc3 hvf1 hvf2 hvf3 hvz1 hvz2 hvz3 hbz q10 q11 q12 q20 q21 q22 q30 q31 q32 q40 q41 q42 q50 q51 q52 q60 q61 q62 q70 q71 q72 q80 q81 q82 HA1 HB1 HA2 HB2 HA3 HB3 HA4 HB4 HA5 HB5 HA6 HB6 HA7 HB7 HA8 HB8 yy11 yy12 yy13 yy14 yy15 yy16 yy17 yy18 yy21 yy22 yy23 yy24 yy25 yy26 yy27 yy28 yy31 yy32 yy33 yy34 yy35 yy36 yy37 yy38 HC1 HC2 HC3
                              rcases HQ4.out with h4 | ⟨h4, hpa⟩
                              · subst h4
                                clear HQ4 HADD
                                refine wp_region_held_drew (S := (fun W => ∀ c k, c < wy.heap.size → W.cell? ⟨c, k, none⟩ = wy.cell? ⟨c, k, none⟩)) (by kernel_rfl) ?_ (fun hHeld => ?_)
                                · ((try dsimp only); (intro c k hc; refine Below.cell (B := wy.heap.size) (w := wy) (p := ⟨c, k, none⟩) ?_ hc; ((repeat (first | with_reducible exact Below.refl _ _ | with_reducible assumption | with_reducible refine Below.trans ?_ (Below.mono (by with_reducible assumption) (by first | omega | (simp; done) | (simp; omega))) | with_reducible refine Below.drew ?_ | with_reducible refine Below.alloc ?_ (by first | omega | (simp; done) | (simp; omega)) _ | with_reducible refine Below.setCell ?_ (by first | omega | (simp; done) | (simp; omega)) _)); done)))
                                refine tq 0 (v := ?_) rfl (.inl ⟨by rfl, ?_⟩) ?_
                                rotate_left
                                · ((intro w hSw; (try dsimp only at hSw); go_simp) <;> with_reducible rfl)
                                ((try simp only [Act.put, List.setIfInBounds_toArray, ZxI]); (try simp only [List.set_cons_zero, List.set_cons_succ]))
                                refine wpAnyH_ready (rs := [1]) (by kernel_rfl) (by simp) ?_
                                refine AllReadyH.cons rfl (fun K hK => ?_) ?_
                                · go_simp
                                  go_wp2_with (first | (go_at_call 41; (with_reducible refine (HOF.out _).mono ?_); rintro e u1 ⟨hbu, oa, ob, oc, od, rfl, hru, hsu⟩; have HRU := Lib.hid (RL.mono (A' := fun _ => True) (fun _ _ _ => trivial) hru); have HSU := Lib.hid (RL.mono (A' := fun _ => True) (fun _ _ _ => trivial) hsu); clear hru hsu; have hzu := hbu.size; (try simp at hzu)) | fail "no arm")
                                  refine hK.out _ _ ?_ (fun hHeld => ?_)
                                  · ((try dsimp only); (intro c k hc; refine Below.cell (B := wy.heap.size) (w := wy) (p := ⟨c, k, none⟩) ?_ hc; ((repeat (first | with_reducible exact Below.refl _ _ | with_reducible assumption | with_reducible refine Below.trans ?_ (Below.mono (by with_reducible assumption) (by first | omega | (simp; done) | (simp; omega))) | with_reducible refine Below.drew ?_ | with_reducible refine Below.alloc ?_ (by first | omega | (simp; done) | (simp; omega)) _ | with_reducible refine Below.setCell ?_ (by first | omega | (simp; done) | (simp; omega)) _)); done)))
                                  clear hK K
                                  refine wpAnyH_ready (rs := [2]) (by kernel_rfl) (by simp) ?_
                                  refine AllReadyH.cons rfl (fun K hK => ?_) ?_
                                  · go_simp
                                    go_wp2_with (first | (go_at_call 43; (with_reducible refine (HC4.out _ ra6 rb6 oa ob _ _ _ _ (by exact RL.ext (Agree.below (by (repeat (first | with_reducible exact Below.refl _ _ | with_reducible assumption | with_reducible refine Below.trans ?_ (Below.mono (by with_reducible assumption) (by first | omega | (simp; done) | (simp; omega))) | with_reducible refine Below.drew ?_ | with_reducible refine Below.alloc ?_ (by first | omega | (simp; done) | (simp; omega)) _ | with_reducible refine Below.setCell ?_ (by first | omega | (simp; done) | (simp; omega)) _)))) GA6.out) (by exact RL.ext (Agree.below (by (repeat (first | with_reducible exact Below.refl _ _ | with_reducible assumption | with_reducible refine Below.trans ?_ (Below.mono (by with_reducible assumption) (by first | omega | (simp; done) | (simp; omega))) | with_reducible refine Below.drew ?_ | with_reducible refine Below.alloc ?_ (by first | omega | (simp; done) | (simp; omega)) _ | with_reducible refine Below.setCell ?_ (by first | omega | (simp; done) | (simp; omega)) _)))) GB6.out) (by exact RL.ext (Agree.below (by (repeat (first | with_reducible exact Below.refl _ _ | with_reducible assumption | with_reducible refine Below.trans ?_ (Below.mono (by with_reducible assumption) (by first | omega | (simp; done) | (simp; omega))) | with_reducible refine Below.drew ?_ | with_reducible refine Below.alloc ?_ (by first | omega | (simp; done) | (simp; omega)) _ | with_reducible refine Below.setCell ?_ (by first | omega | (simp; done) | (simp; omega)) _)))) HRU.out) (by exact RL.ext (Agree.below (by (repeat (first | with_reducible exact Below.refl _ _ | with_reducible assumption | with_reducible refine Below.trans ?_ (Below.mono (by with_reducible assumption) (by first | omega | (simp; done) | (simp; omega))) | with_reducible refine Below.drew ?_ | with_reducible refine Below.alloc ?_ (by first | omega | (simp; done) | (simp; omega)) _ | with_reducible refine Below.setCell ?_ (by first | omega | (simp; done) | (simp; omega)) _)))) HSU.out)).mono ?_); rintro e u2 ⟨rfl, hbu2⟩; have hzu2 := hbu2.size; (try simp at hzu2)) | fail "no arm")
                                    refine hK.out _ _ ?_ (fun hHeld => ?_)
                                    · ((try dsimp only); (intro c k hc; refine Below.cell (B := wy.heap.size) (w := wy) (p := ⟨c, k, none⟩) ?_ hc; ((repeat (first | with_reducible exact Below.refl _ _ | with_reducible assumption | with_reducible refine Below.trans ?_ (Below.mono (by with_reducible assumption) (by first | omega | (simp; done) | (simp; omega))) | with_reducible refine Below.drew ?_ | with_reducible refine Below.alloc ?_ (by first | omega | (simp; done) | (simp; omega)) _ | with_reducible refine Below.setCell ?_ (by first | omega | (simp; done) | (simp; omega)) _)); done)))
                                    clear hK K
                                    refine tq 3 (v := ?_) rfl (.inl ⟨by rfl, ?_⟩) ?_
                                    rotate_left
                                    · ((intro w hSw; (try dsimp only at hSw); go_simp) <;> with_reducible rfl)
                                    ((try simp only [Act.put, List.setIfInBounds_toArray, ZxI]); (try simp only [List.set_cons_zero, List.set_cons_succ]))
                                    refine tq 4 (v := ?_) rfl (.inl ⟨by rfl, ?_⟩) ?_
                                    rotate_left
                                    · ((intro w hSw; (try dsimp only at hSw); go_simp) <;> with_reducible rfl)
                                    ((try simp only [Act.put, List.setIfInBounds_toArray, ZxI]); (try simp only [List.set_cons_zero, List.set_cons_succ]))
                                    refine tq 5 (v := undef) rfl (.inr ⟨by kernel_rfl, rfl⟩) ?_
                                    ((try simp only [Act.put, List.setIfInBounds_toArray, ZxI]); (try simp only [List.set_cons_zero, List.set_cons_succ]))
                                    refine tq 6 (v := undef) rfl (.inr ⟨by kernel_rfl, rfl⟩) ?_
                                    ((try simp only [Act.put, List.setIfInBounds_toArray, ZxI]); (try simp only [List.set_cons_zero, List.set_cons_succ]))
                                    as_aux_lemma =>
                                      refine tq 7 (v := undef) rfl (.inr ⟨by kernel_rfl, rfl⟩) ?_
                                      ((try simp only [Act.put, List.setIfInBounds_toArray, ZxI]); (try simp only [List.set_cons_zero, List.set_cons_succ]))
                                      refine tq 8 (v := undef) rfl (.inr ⟨by kernel_rfl, rfl⟩) ?_
                                      ((try simp only [Act.put, List.setIfInBounds_toArray, ZxI]); (try simp only [List.set_cons_zero, List.set_cons_succ]))
                                      refine tq 9 (v := undef) rfl (.inr ⟨by kernel_rfl, rfl⟩) ?_
                                      ((try simp only [Act.put, List.setIfInBounds_toArray, ZxI]); (try simp only [List.set_cons_zero, List.set_cons_succ]))
                                      refine tq 10 (v := ?_) rfl (.inl ⟨by rfl, ?_⟩) ?_
                                      rotate_left
                                      · ((intro w hSw; (try dsimp only at hSw); go_simp) <;> with_reducible rfl)
                                      ((try simp only [Act.put, List.setIfInBounds_toArray, ZxI]); (try simp only [List.set_cons_zero, List.set_cons_succ]))
                                      refine tq 11 (v := ?_) rfl (.inl ⟨by rfl, ?_⟩) ?_
                                      rotate_left
                                      · ((intro w hSw; (try dsimp only at hSw); go_simp) <;> with_reducible rfl)
                                      ((try simp only [Act.put, List.setIfInBounds_toArray, ZxI]); (try simp only [List.set_cons_zero, List.set_cons_succ]))
                                      refine wpAnyH_done (by kernel_rfl) ?_ _
                                      as_aux_lemma =>
                                        (go_wp2_with fail; go_ret; exact ⟨rfl, (by (repeat (first | with_reducible exact Below.refl _ _ | with_reducible assumption | with_reducible refine Below.trans ?_ (Below.mono (by with_reducible assumption) (by first | omega | (simp; done) | (simp; omega))) | with_reducible refine Below.drew ?_ | with_reducible refine Below.alloc ?_ (by first | omega | (simp; done) | (simp; omega)) _ | with_reducible refine Below.setCell ?_ (by first | omega | (simp; done) | (simp; omega)) _)))⟩)
                                  exact AllReadyH.nil
                                exact AllReadyH.nil
                              · subst h4
                                rw [hpa] at HADD
                                clear HQ4 hpa
                                go_region_held3 (fun W => ∀ c k, c < wy.heap.size → W.cell? ⟨c, k, none⟩ = wy.cell? ⟨c, k, none⟩) ((intro c k hc; refine Below.cell (B := wy.heap.size) (w := wy) (p := ⟨c, k, none⟩) ?_ hc; ((repeat (first | with_reducible exact Below.refl _ _ | with_reducible assumption | with_reducible refine Below.trans ?_ (Below.mono (by with_reducible assumption) (by first | omega | (simp; done) | (simp; omega))) | with_reducible refine Below.drew ?_ | with_reducible refine Below.alloc ?_ (by first | omega | (simp; done) | (simp; omega)) _ | with_reducible refine Below.setCell ?_ (by first | omega | (simp; done) | (simp; omega)) _)); done))) ((first | (go_at_call 41; (with_reducible refine (HOF.out _).mono ?_); rintro e u1 ⟨hbu, oa, ob, oc, od, rfl, hru, hsu⟩; have HRU := Lib.hid (RL.mono (A' := fun _ => True) (fun _ _ _ => trivial) hru); have HSU := Lib.hid (RL.mono (A' := fun _ => True) (fun _ _ _ => trivial) hsu); clear hru hsu; have hzu := hbu.size; (try simp at hzu)) | (go_at_call 43; (with_reducible refine (HC4.out _ ra6 rb6 oa ob _ _ _ _ (by exact RL.ext (Agree.below (by (repeat (first | with_reducible exact Below.refl _ _ | with_reducible assumption | with_reducible refine Below.trans ?_ (Below.mono (by with_reducible assumption) (by first | omega | (simp; done) | (simp; omega))) | with_reducible refine Below.drew ?_ | with_reducible refine Below.alloc ?_ (by first | omega | (simp; done) | (simp; omega)) _ | with_reducible refine Below.setCell ?_ (by first | omega | (simp; done) | (simp; omega)) _)))) GA6.out) (by exact RL.ext (Agree.below (by (repeat (first | with_reducible exact Below.refl _ _ | with_reducible assumption | with_reducible refine Below.trans ?_ (Below.mono (by with_reducible assumption) (by first | omega | (simp; done) | (simp; omega))) | with_reducible refine Below.drew ?_ | with_reducible refine Below.alloc ?_ (by first | omega | (simp; done) | (simp; omega)) _ | with_reducible refine Below.setCell ?_ (by first | omega | (simp; done) | (simp; omega)) _)))) GB6.out) (by exact RL.ext (Agree.below (by (repeat (first | with_reducible exact Below.refl _ _ | with_reducible assumption | with_reducible refine Below.trans ?_ (Below.mono (by with_reducible assumption) (by first | omega | (simp; done) | (simp; omega))) | with_reducible refine Below.drew ?_ | with_reducible refine Below.alloc ?_ (by first | omega | (simp; done) | (simp; omega)) _ | with_reducible refine Below.setCell ?_ (by first | omega | (simp; done) | (simp; omega)) _)))) HRU.out) (by exact RL.ext (Agree.below (by (repeat (first | with_reducible exact Below.refl _ _ | with_reducible assumption | with_reducible refine Below.trans ?_ (Below.mono (by with_reducible assumption) (by first | omega | (simp; done) | (simp; omega))) | with_reducible refine Below.drew ?_ | with_reducible refine Below.alloc ?_ (by first | omega | (simp; done) | (simp; omega)) _ | with_reducible refine Below.setCell ?_ (by first | omega | (simp; done) | (simp; omega)) _)))) HSU.out)).mono ?_); rintro e u2 ⟨rfl, hbu2⟩; have hzu2 := hbu2.size; (try simp at hzu2)) | (go_at_call 40; (with_reducible refine (HADD.out _ ra7 rb7 ra3 rb3 _ _ _ _ (by exact RL.ext (Agree.below (by (repeat (first | with_reducible exact Below.refl _ _ | with_reducible assumption | with_reducible refine Below.trans ?_ (Below.mono (by with_reducible assumption) (by first | omega | (simp; done) | (simp; omega))) | with_reducible refine Below.drew ?_ | with_reducible refine Below.alloc ?_ (by first | omega | (simp; done) | (simp; omega)) _ | with_reducible refine Below.setCell ?_ (by first | omega | (simp; done) | (simp; omega)) _)))) GA7.out) (by exact RL.ext (Agree.below (by (repeat (first | with_reducible exact Below.refl _ _ | with_reducible assumption | with_reducible refine Below.trans ?_ (Below.mono (by with_reducible assumption) (by first | omega | (simp; done) | (simp; omega))) | with_reducible refine Below.drew ?_ | with_reducible refine Below.alloc ?_ (by first | omega | (simp; done) | (simp; omega)) _ | with_reducible refine Below.setCell ?_ (by first | omega | (simp; done) | (simp; omega)) _)))) GB7.out) (by exact RL.ext (Agree.below (by (repeat (first | with_reducible exact Below.refl _ _ | with_reducible assumption | with_reducible refine Below.trans ?_ (Below.mono (by with_reducible assumption) (by first | omega | (simp; done) | (simp; omega))) | with_reducible refine Below.drew ?_ | with_reducible refine Below.alloc ?_ (by first | omega | (simp; done) | (simp; omega)) _ | with_reducible refine Below.setCell ?_ (by first | omega | (simp; done) | (simp; omega)) _)))) GA3.out) (by exact RL.ext (Agree.below (by (repeat (first | with_reducible exact Below.refl _ _ | with_reducible assumption | with_reducible refine Below.trans ?_ (Below.mono (by with_reducible assumption) (by first | omega | (simp; done) | (simp; omega))) | with_reducible refine Below.drew ?_ | with_reducible refine Below.alloc ?_ (by first | omega | (simp; done) | (simp; omega)) _ | with_reducible refine Below.setCell ?_ (by first | omega | (simp; done) | (simp; omega)) _)))) GB3.out)).mono ?_); rintro e u3 ⟨hbu3, sa, sb, sc, sd, rfl, hr3, hs3⟩; have HR3 := Lib.hid (RL.mono (A' := fun _ => True) (fun _ _ _ => trivial) hr3); have HS3 := Lib.hid (RL.mono (A' := fun _ => True) (fun _ _ _ => trivial) hs3); clear hr3 hs3; have hzu3 := hbu3.size; (try simp at hzu3)) | (go_at_call 22; (with_reducible refine (ZrJ p8 p8 _ (fun _ => True) (fun _ => True) (fun _ => True) (fun _ => True) ra8 rb8 sa sb _ _ _ _ (by exact RL.ext (Agree.below (by (repeat (first | with_reducible exact Below.refl _ _ | with_reducible assumption | with_reducible refine Below.trans ?_ (Below.mono (by with_reducible assumption) (by first | omega | (simp; done) | (simp; omega))) | with_reducible refine Below.drew ?_ | with_reducible refine Below.alloc ?_ (by first | omega | (simp; done) | (simp; omega)) _ | with_reducible refine Below.setCell ?_ (by first | omega | (simp; done) | (simp; omega)) _)))) GA8.out) (by exact RL.ext (Agree.below (by (repeat (first | with_reducible exact Below.refl _ _ | with_reducible assumption | with_reducible refine Below.trans ?_ (Below.mono (by with_reducible assumption) (by first | omega | (simp; done) | (simp; omega))) | with_reducible refine Below.drew ?_ | with_reducible refine Below.alloc ?_ (by first | omega | (simp; done) | (simp; omega)) _ | with_reducible refine Below.setCell ?_ (by first | omega | (simp; done) | (simp; omega)) _)))) GB8.out) (by exact RL.ext (Agree.below (by (repeat (first | with_reducible exact Below.refl _ _ | with_reducible assumption | with_reducible refine Below.trans ?_ (Below.mono (by with_reducible assumption) (by first | omega | (simp; done) | (simp; omega))) | with_reducible refine Below.drew ?_ | with_reducible refine Below.alloc ?_ (by first | omega | (simp; done) | (simp; omega)) _ | with_reducible refine Below.setCell ?_ (by first | omega | (simp; done) | (simp; omega)) _)))) HR3.out) (by exact RL.ext (Agree.below (by (repeat (first | with_reducible exact Below.refl _ _ | with_reducible assumption | with_reducible refine Below.trans ?_ (Below.mono (by with_reducible assumption) (by first | omega | (simp; done) | (simp; omega))) | with_reducible refine Below.drew ?_ | with_reducible refine Below.alloc ?_ (by first | omega | (simp; done) | (simp; omega)) _ | with_reducible refine Below.setCell ?_ (by first | omega | (simp; done) | (simp; omega)) _)))) HS3.out)).mono ?_); rw [Zqr]; rintro e u4 ⟨rfl, hbu4⟩; have hzu4 := hbu4.size; (try simp at hzu4)) | fail "no arm"))
                                go_wp2_with fail
                                go_ret
                                exact ⟨rfl, (by (repeat (first | with_reducible exact Below.refl _ _ | with_reducible assumption | with_reducible refine Below.trans ?_ (Below.mono (by with_reducible assumption) (by first | omega | (simp; done) | (simp; omega))) | with_reducible refine Below.drew ?_ | with_reducible refine Below.alloc ?_ (by first | omega | (simp; done) | (simp; omega)) _ | with_reducible refine Below.setCell ?_ (by first | omega | (simp; done) | (simp; omega)) _)))⟩
end Go.Proofs.YtkdffbdnjfgpeaaGreat
