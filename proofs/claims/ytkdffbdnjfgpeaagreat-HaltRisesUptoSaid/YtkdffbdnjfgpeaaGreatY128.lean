/- Part 129. -/
import Derived.Test.YtkdffbdnjfgpeaaGreatY4
import Derived.Test.YtkdffbdnjfgpeaaGreatY35
import Derived.Test.YtkdffbdnjfgpeaaGreatY36
import Derived.Test.YtkdffbdnjfgpeaaGreatY41
import Derived.Test.YtkdffbdnjfgpeaaGreatY42
import Derived.Test.YtkdffbdnjfgpeaaGreatY51
import Derived.Test.YtkdffbdnjfgpeaaGreatY54
import Derived.Test.YtkdffbdnjfgpeaaGreatY58
import Derived.Test.YtkdffbdnjfgpeaaGreatY63
import Derived.Test.YtkdffbdnjfgpeaaGreatY122
import Derived.Test.YtkdffbdnjfgpeaaGreatY127
import Derived.Test.YtkdffbdnjfgpeaaGreatY120
set_option linter.all false
namespace Go.Proofs.YtkdffbdnjfgpeaaGreat
open Go Go.RowKit
set_option maxRecDepth 100000 in
set_option maxHeartbeats 8000000 in
theorem hrises_err (w : World) (t : GT) (A : Nat → Prop) (m : TA) (ox : okT t) (hs1 : Zb t ≤ 1048576) (hl : RT w A t m) (n : Int) (hn : 0 ≤ n ∧ n ≤ 255) (x : GV) (A2 : Nat → Prop) (mx : VA) (hx : okV x) (hsx : Zg x ≤ 1048576) (hv : RV w A2 x mx.a) (hE : (Z3 t).2 ≠ 0) :
    Calls Tryz.prog 9 #[TV t m, .int .u8 n, VV x mx] w fun e w' => e = .returned (.bool true) ∧ Below w.heap.size w w' := by
  obtain ⟨ma, mb, mc, md, me, mf, mg, mh, mi, mj, mk, ml⟩ := m
  obtain ⟨xa, xc⟩ := mx
  have HL := Lib.hid hl
  have HV := Lib.hid hv
  obtain ⟨kn, rfl⟩ : ∃ kn : Nat, n = kn := ⟨n.toNat, by omega⟩
  obtain ⟨K, hK⟩ : ∃ K, K = kn % 8 := ⟨_, rfl⟩
  have hK8 : K ≤ 7 := by omega
  have hK1 : (kn : Int) % 8 = (K : Int) := by omega
  have hs : Zb t ≤ 1099511627776 := by omega
  have hs4 : Zb t ≤ 4194304 := by omega
  have HLONG : Hid (∀ W, RT W A t ⟨ma, mb, mc, md, me, mf, mg, mh, mi, mj, mk, ml⟩ → Calls Tryz.prog 10 #[TV t ⟨ma, mb, mc, md, me, mf, mg, mh, mi, mj, mk, ml⟩, .int .i64 ((K : Int) + 1)] W (KY W)) := Lib.hid (fun W h => ZrA t ((K : Int) + 1) W A _ ox hs4 h)
  have HL14 : Hid (∀ (W : World) b, At W b 0 [.int .u8 x.k, .int .i64 x.n, .slice xa x.l.length xc] → RV W A2 x xa → Calls Tryz.prog 16 #[.slice (some ⟨b, 0, none⟩) 1 1] W (KY W)) := Lib.hid (fun W b h1 h2 => Zfa x W A2 b ⟨xa, xc⟩ hx h1 h2)
  have HSZ : Hid (∀ (W : World), RV W A2 x xa → Calls Tryz.prog 39 #[.agg #[.int .u8 x.k, .int .i64 x.n, .slice xa x.l.length xc]] W fun e w' => e = .returned (.int .i64 (Zg x)) ∧ Below W.heap.size W w') := Lib.hid (fun W h => V3 x A2 ⟨xa, xc⟩ W hx (by omega) (Zl.1 h))
  have hE1 : Zqq t (K : Int) = (Z3 t).2 := by unfold Zqq; rw [if_neg (by omega)]
  have hE2 : Zqq t ((K : Int) + 1) = (Z3 t).2 := by unfold Zqq; rw [if_neg (by omega)]
  have hm : ZtP t = false := by unfold ZtP; simp [hE]
  have HA1 : Hid (∀ W, RT W A t ⟨ma, mb, mc, md, me, mf, mg, mh, mi, mj, mk, ml⟩ → Calls Tryz.prog 13 #[TV t ⟨ma, mb, mc, md, me, mf, mg, mh, mi, mj, mk, ml⟩, .int .i64 K] W fun e w' => e = .returned (.tuple #[.slice none 0 0, .int .i64 (Z3 t).2]) ∧ Below W.heap.size W w') := Lib.hid (fun W h => by have := Zrk t (K : Int) W A _ ox hs h (by rw [hE1]; exact hE); rw [hE1] at this; exact this)
  have HA2 : Hid (∀ W, RT W A t ⟨ma, mb, mc, md, me, mf, mg, mh, mi, mj, mk, ml⟩ → Calls Tryz.prog 13 #[TV t ⟨ma, mb, mc, md, me, mf, mg, mh, mi, mj, mk, ml⟩, .int .i64 ((K : Int) + 1)] W fun e w' => e = .returned (.tuple #[.slice none 0 0, .int .i64 (Z3 t).2]) ∧ Below W.heap.size W w') := Lib.hid (fun W h => by have := Zrk t ((K : Int) + 1) W A _ ox hs h (by rw [hE2]; exact hE); rw [hE2] at this; exact this)
  have HMAY : Hid (∀ W, RT W A t ⟨ma, mb, mc, md, me, mf, mg, mh, mi, mj, mk, ml⟩ → Calls Tryz.prog 32 #[TV t ⟨ma, mb, mc, md, me, mf, mg, mh, mi, mj, mk, ml⟩] W fun e w' => e = .returned (.bool false) ∧ Below W.heap.size W w') := Lib.hid (fun W h => by have := ZtQ t W A _ ox hs h; rw [hm] at this; exact this)
  have hK2 : IntKind.i64.wrap ((K : Int) + 1) = ((K : Int) + 1) := IntWalk.i64_in _ (by omega)
  generalize (Z3 t).2 = E at *
  have hEB : (E != 0) = true := by simpa using hE
  have hEE : (E == E) = true := beq_self_eq_true E
  clear hl hv ox hx hE hE1 hE2 hm hs1 hsx hs hs4 hK
  go_enter Tryz.func9, Tryz.ntmps9
  go_wp2_with (first
    | (go_at_call 10; (with_reducible refine (HLONG.out _ (by exact RT.ext (Agree.below (by (repeat (first | with_reducible exact Below.refl _ _ | with_reducible assumption | with_reducible refine Below.trans ?_ (Below.mono (by with_reducible assumption) (by first | omega | (simp; done) | (simp; omega))) | with_reducible refine Below.drew ?_ | with_reducible refine Below.alloc ?_ (by first | omega | (simp; done) | (simp; omega)) _ | with_reducible refine Below.setCell ?_ (by first | omega | (simp; done) | (simp; omega)) _)))) _ _ HL.out)).mono ?_); rintro e v1 ⟨⟨b1, rfl⟩, hvb1⟩; obtain ⟨hvc1, hvf1⟩ := Za hvb1; have hvz1 := hvb1.size; (try simp at hvz1); have x10 : w.heap.size < v1.heap.size := (by omega); have x11 : w.heap.size + 1 < v1.heap.size := (by omega); cases b1)
    | (go_at_call 16; (with_reducible refine (HL14.out _ v1.heap.size (by exact (At3.2 ⟨by go_simp, by go_simp, by go_simp⟩)) (by exact RV.ext (Agree.below (by (repeat (first | with_reducible exact Below.refl _ _ | with_reducible assumption | with_reducible refine Below.trans ?_ (Below.mono (by with_reducible assumption) (by first | omega | (simp; done) | (simp; omega))) | with_reducible refine Below.drew ?_ | with_reducible refine Below.alloc ?_ (by first | omega | (simp; done) | (simp; omega)) _ | with_reducible refine Below.setCell ?_ (by first | omega | (simp; done) | (simp; omega)) _)))) _ _ HV.out)).mono ?_); rintro e v2 ⟨⟨b2, rfl⟩, hvb2⟩; obtain ⟨hvc2, hvf2⟩ := Za hvb2; have hvz2 := hvb2.size; (try simp at hvz2); have x20 : w.heap.size < v2.heap.size := (by omega); have x21 : w.heap.size + 1 < v2.heap.size := (by omega); cases b2)
    | (go_at_call 39; (with_reducible refine (HSZ.out _ (by exact RV.ext (Agree.below (by (repeat (first | with_reducible exact Below.refl _ _ | with_reducible assumption | with_reducible refine Below.trans ?_ (Below.mono (by with_reducible assumption) (by first | omega | (simp; done) | (simp; omega))) | with_reducible refine Below.drew ?_ | with_reducible refine Below.alloc ?_ (by first | omega | (simp; done) | (simp; omega)) _ | with_reducible refine Below.setCell ?_ (by first | omega | (simp; done) | (simp; omega)) _)))) _ _ HV.out)).mono ?_); rintro e v3 ⟨rfl, hvb3⟩; obtain ⟨hvc3, hvf3⟩ := Za hvb3; have hvz3 := hvb3.size; (try simp at hvz3); have x30 : w.heap.size < v3.heap.size := (by omega); have x31 : w.heap.size + 1 < v3.heap.size := (by omega); generalize Zg x = sx; (by_cases hsx : (500 : Int) < (sx : Int)))
    | (go_at_call 11; (with_reducible refine (ZrU _).mono ?_); rintro e va ⟨rfl, hva⟩; obtain ⟨hvac, hvaf⟩ := Za hva; have hvza := hva.size; (try simp at hvza); have xa0 : w.heap.size < va.heap.size := (by omega); have xa1 : w.heap.size + 1 < va.heap.size := (by omega))
    | (go_at_call 13; (with_reducible refine (HA1.out _ (by exact RT.ext (Agree.below (by (repeat (first | with_reducible exact Below.refl _ _ | with_reducible assumption | with_reducible refine Below.trans ?_ (Below.mono (by with_reducible assumption) (by first | omega | (simp; done) | (simp; omega))) | with_reducible refine Below.drew ?_ | with_reducible refine Below.alloc ?_ (by first | omega | (simp; done) | (simp; omega)) _ | with_reducible refine Below.setCell ?_ (by first | omega | (simp; done) | (simp; omega)) _)))) _ _ HL.out)).mono ?_); rintro e w1 ⟨rfl, hb1⟩; obtain ⟨hc1, hf1⟩ := Za hb1; have hz1 := hb1.size; (try simp at hz1); have y1 : w.heap.size < w1.heap.size := (by omega); have z1 : w.heap.size + 1 < w1.heap.size := (by omega))
    | (go_at_call 13; (with_reducible refine (HA2.out _ (by exact RT.ext (Agree.below (by (repeat (first | with_reducible exact Below.refl _ _ | with_reducible assumption | with_reducible refine Below.trans ?_ (Below.mono (by with_reducible assumption) (by first | omega | (simp; done) | (simp; omega))) | with_reducible refine Below.drew ?_ | with_reducible refine Below.alloc ?_ (by first | omega | (simp; done) | (simp; omega)) _ | with_reducible refine Below.setCell ?_ (by first | omega | (simp; done) | (simp; omega)) _)))) _ _ HL.out)).mono ?_); rintro e w2 ⟨rfl, hb2⟩; obtain ⟨hc2, hf2⟩ := Za hb2; have hz2 := hb2.size; (try simp at hz2); have y2 : w.heap.size < w2.heap.size := (by omega); have z2 : w.heap.size + 1 < w2.heap.size := (by omega))
    | (go_at_call 32; (with_reducible refine (HMAY.out _ (by exact RT.ext (Agree.below (by (repeat (first | with_reducible exact Below.refl _ _ | with_reducible assumption | with_reducible refine Below.trans ?_ (Below.mono (by with_reducible assumption) (by first | omega | (simp; done) | (simp; omega))) | with_reducible refine Below.drew ?_ | with_reducible refine Below.alloc ?_ (by first | omega | (simp; done) | (simp; omega)) _ | with_reducible refine Below.setCell ?_ (by first | omega | (simp; done) | (simp; omega)) _)))) _ _ HL.out)).mono ?_); rintro e w3 ⟨rfl, hb3⟩; have hz3 := hb3.size; (try simp at hz3))
    | fail "no arm")
  all_goals go_ret
  all_goals exact ⟨rfl, (by (repeat (first | with_reducible exact Below.refl _ _ | with_reducible assumption | with_reducible refine Below.trans ?_ (Below.mono (by with_reducible assumption) (by first | omega | (simp; done) | (simp; omega))) | with_reducible refine Below.drew ?_ | with_reducible refine Below.alloc ?_ (by first | omega | (simp; done) | (simp; omega)) _ | with_reducible refine Below.setCell ?_ (by first | omega | (simp; done) | (simp; omega)) _)))⟩
end Go.Proofs.YtkdffbdnjfgpeaaGreat
