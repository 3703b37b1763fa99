/- Part 131. -/
import Derived.Test.YtkdffbdnjfgpeaaGreatY4
import Derived.Test.YtkdffbdnjfgpeaaGreatY35
import Derived.Test.YtkdffbdnjfgpeaaGreatY36
import Derived.Test.YtkdffbdnjfgpeaaGreatY41
import Derived.Test.YtkdffbdnjfgpeaaGreatY42
import Derived.Test.YtkdffbdnjfgpeaaGreatY51
import Derived.Test.YtkdffbdnjfgpeaaGreatY54
import Derived.Test.YtkdffbdnjfgpeaaGreatY58
import Derived.Test.YtkdffbdnjfgpeaaGreatY63
import Derived.Test.YtkdffbdnjfgpeaaGreatY128
import Derived.Test.YtkdffbdnjfgpeaaGreatY129
import Derived.Test.YtkdffbdnjfgpeaaGreatY122
import Derived.Test.YtkdffbdnjfgpeaaGreatY127
import Derived.Test.YtkdffbdnjfgpeaaGreatY120
set_option linter.all false
namespace Go.Proofs.YtkdffbdnjfgpeaaGreat
open Go Go.RowKit
theorem dList_pre {t : GT} {n i : Nat} (h1 : i < (Zpv t n).length) (h2 : i < (Zpv t (n + 1)).length) : (Zpv t (n + 1))[i] = (Zpv t n)[i] := by
  have h := dList_more t n
  rw [List.getElem_of_eq h, List.getElem_append_left h1]
theorem dList_suf {t : GT} {n i : Nat} (h1 : (Zpv t n).length ≤ i) (h2 : i < (Zpv t (n + 1)).length) : (Zpv t (n + 1))[i].1.size = n + 1 := by
  have h := dList_more t n
  rw [List.getElem_of_eq h, List.getElem_append_right h1]
  exact dRow_size _ (List.getElem_mem _)
set_option maxRecDepth 100000 in
set_option maxHeartbeats 16000000 in
theorem hrises_ok (w : World) (t : GT) (A : Nat → Prop) (m : TA) (ox : okT t) (hs1 : Zb t ≤ 1048576) (hl : RT w A t m) (n : Int) (hn : 0 ≤ n ∧ n ≤ 255) (x : GV) (A2 : Nat → Prop) (mx : VA) (hx : okV x) (hsx : Zg x ≤ 1048576) (hv : RV w A2 x mx.a) (hE : (Z3 t).2 = 0) :
    Calls Tryz.prog 9 #[TV t m, .int .u8 n, VV x mx] w fun e w' => e = .returned (.bool true) ∧ Below w.heap.size w w' := by
  obtain ⟨ma, mb, mc, md, me, mf, mg, mh, mi, mj, mk, ml⟩ := m
  obtain ⟨xa, xc⟩ := mx
  have HL := Lib.hid hl
  have HV := Lib.hid hv
  obtain ⟨kn, rfl⟩ : ∃ kn : Nat, n = kn := ⟨n.toNat, by omega⟩
  obtain ⟨K, hK⟩ : ∃ K, K = kn % 8 := ⟨_, rfl⟩
  have hK8 : K ≤ 7 := by omega
  have hK1 : (kn : Int) % 8 = (K : Int) := by omega
  have hs : Zb t ≤ 1099511627776 := by omega
  have hs4 : Zb t ≤ 4194304 := by omega
  have HLONG : Hid (∀ W, RT W A t ⟨ma, mb, mc, md, me, mf, mg, mh, mi, mj, mk, ml⟩ → Calls Tryz.prog 10 #[TV t ⟨ma, mb, mc, md, me, mf, mg, mh, mi, mj, mk, ml⟩, .int .i64 ((K : Int) + 1)] W (KY W)) := Lib.hid (fun W h => ZrA t ((K : Int) + 1) W A _ ox hs4 h)
  have HL14 : Hid (∀ (W : World) b, At W b 0 [.int .u8 x.k, .int .i64 x.n, .slice xa x.l.length xc] → RV W A2 x xa → Calls Tryz.prog 16 #[.slice (some ⟨b, 0, none⟩) 1 1] W (KY W)) := Lib.hid (fun W b h1 h2 => Zfa x W A2 b ⟨xa, xc⟩ hx h1 h2)
  have HSZ : Hid (∀ (W : World), RV W A2 x xa → Calls Tryz.prog 39 #[.agg #[.int .u8 x.k, .int .i64 x.n, .slice xa x.l.length xc]] W fun e w' => e = .returned (.int .i64 (Zg x)) ∧ Below W.heap.size W w') := Lib.hid (fun W h => V3 x A2 ⟨xa, xc⟩ W hx (by omega) (Zl.1 h))
  have eK : ((K + 1 : Nat) : Int) = ((K : Int) + 1) := by push_cast; rfl
  have HA1 : Hid (∀ W, RT W A t ⟨ma, mb, mc, md, me, mf, mg, mh, mi, mj, mk, ml⟩ → Calls Tryz.prog 13 #[TV t ⟨ma, mb, mc, md, me, mf, mg, mh, mi, mj, mk, ml⟩, .int .i64 K] W fun e w' => Below W.heap.size W w' ∧ ∃ a c, e = .returned (.tuple #[.slice a (Zpv t K).length c, .int .i64 0]) ∧ RJs w' (fun _ => True) (Zpv t K) a) := Lib.hid (fun W h => (ZrI t K W A _ ox hs h (by omega) hE).mono fun e w' ⟨h1, a, c, h2, h3⟩ => ⟨h1, a, c, h2, RJs.mono (fun _ _ _ => trivial) _ _ h3.1⟩)
  have HA2 : Hid (∀ W, RT W A t ⟨ma, mb, mc, md, me, mf, mg, mh, mi, mj, mk, ml⟩ → Calls Tryz.prog 13 #[TV t ⟨ma, mb, mc, md, me, mf, mg, mh, mi, mj, mk, ml⟩, .int .i64 ((K : Int) + 1)] W fun e w' => Below W.heap.size W w' ∧ ∃ a c, e = .returned (.tuple #[.slice a (Zpv t (K + 1)).length c, .int .i64 0]) ∧ RJs w' (fun _ => True) (Zpv t (K + 1)) a) := Lib.hid (fun W h => by rw [← eK]; exact (ZrI t (K + 1) W A _ ox hs h (by omega) hE).mono fun e w' ⟨h1, a, c, h2, h3⟩ => ⟨h1, a, c, h2, RJs.mono (fun _ _ _ => trivial) _ _ h3.1⟩)
  have HPRE := Lib.hid (fun i (h1 : i < (Zpv t K).length) (h2 : i < (Zpv t (K + 1)).length) => dList_pre h1 h2)
  have HSUF := Lib.hid (fun i (h1 : (Zpv t K).length ≤ i) (h2 : i < (Zpv t (K + 1)).length) => dList_suf h1 h2)
  have hle : (Zpv t K).length ≤ (Zpv t (K + 1)).length := by rw [dList_more, List.length_append]; omega
  have ln2 : (Zpv t (K + 1)).length ≤ 4096 := by
    rw [(ZtL hE ox (n := K + 1) (by omega)).length_eq]
    exact Nat.le_trans (ZqO (K + 1) ⟨#[]⟩) (ZpP (by omega))
  have HOK := Lib.hid (fun p (hp : p ∈ Zpv t (K + 1)) => (Zqk hE ox (n := K + 1) (by omega) p hp).2.2.2)
  have h12 := ZpP (k := K + 1) (by omega)
  have h11 := ZpP (k := K) (by omega)
  have pw0 : 0 < 2 ^ K := Nat.pos_of_ne_zero (by simp)
  have pw1 : 0 < 2 ^ (K + 1) := Nat.pos_of_ne_zero (by simp)
  have hMQ : ∀ k, k ≤ 12 → W9 t (Zqz fun y => XX y x) k ⟨#[]⟩ < 65536 := fun k hk => by
    have h1 := Zp5 t k ⟨#[]⟩
    have h2 := Zqp t (Zqz fun y => XX y x) (fun _ _ => 1) (fun r m => by cases r with
      | ok v k => show (if XX v x = true then 1 else 0) ≤ 1; split <;> omega
      | no k => exact Nat.zero_le _) k ⟨#[]⟩
    have := ZpP hk
    omega
  have hMM : ∀ k, k ≤ 12 → W9 t ZpX k ⟨#[]⟩ < 65536 := fun k hk => by have h1 := Zsn (t := t) k ⟨#[]⟩; have := ZpP hk; omega
  have hMS : ∀ k, k ≤ 12 → W9 t Zp3 k ⟨#[]⟩ < 65536 := fun k hk => by have h1 := Zso (t := t) k ⟨#[]⟩; have := ZpP hk; omega
  have hMB : ∀ k, k ≤ 12 → W9 t Zp2 k ⟨#[]⟩ < 65536 := fun k hk => by have h1 := Zq7 hE ox k ⟨#[]⟩ ZpA (by rw [show (⟨#[]⟩ : ByteArray).size = 0 from rfl, Nat.zero_add]; exact hk); have := ZpP hk; omega
  have HP1 : Hid (∀ W, RT W A t ⟨ma, mb, mc, md, me, mf, mg, mh, mi, mj, mk, ml⟩ → RV W A2 x xa → Calls Tryz.prog 17 #[TV t ⟨ma, mb, mc, md, me, mf, mg, mh, mi, mj, mk, ml⟩, .int .i64 K, .agg #[.int .u8 x.k, .int .i64 x.n, .slice xa x.l.length xc]] W (Zqu (Zpw (W9 t (Zqz fun y => XX y x) K ⟨#[]⟩) (2 ^ K)) W)) := Lib.hid (fun W h h2 => ZaM t K x ⟨xa, xc⟩ W A A2 _ ox hs h hx h2 (by omega) hE)
  have gp1 : 0 < (Zpw (W9 t (Zqz fun y => XX y x) K ⟨#[]⟩) (2 ^ K)).2 ∧ (Zpw (W9 t (Zqz fun y => XX y x) K ⟨#[]⟩) (2 ^ K)).2 < 65536 ∧ (Zpw (W9 t (Zqz fun y => XX y x) K ⟨#[]⟩) (2 ^ K)).1 < 65536 := by have h1 := Zx5 (a := W9 t (Zqz fun y => XX y x) K ⟨#[]⟩) (b := 2 ^ K); have h2 := hMQ K (by omega); exact ⟨Zx3 pw0, by omega, by omega⟩
  have HP2 : Hid (∀ W, RT W A t ⟨ma, mb, mc, md, me, mf, mg, mh, mi, mj, mk, ml⟩ → RV W A2 x xa → Calls Tryz.prog 17 #[TV t ⟨ma, mb, mc, md, me, mf, mg, mh, mi, mj, mk, ml⟩, .int .i64 ((K : Int) + 1), .agg #[.int .u8 x.k, .int .i64 x.n, .slice xa x.l.length xc]] W (Zqu (Zpw (W9 t (Zqz fun y => XX y x) (K + 1) ⟨#[]⟩) (2 ^ (K + 1))) W)) := Lib.hid (fun W h h2 => by rw [← eK]; exact ZaM t (K + 1) x ⟨xa, xc⟩ W A A2 _ ox hs h hx h2 (by omega) hE)
  have gp2 : 0 < (Zpw (W9 t (Zqz fun y => XX y x) (K + 1) ⟨#[]⟩) (2 ^ (K + 1))).2 ∧ (Zpw (W9 t (Zqz fun y => XX y x) (K + 1) ⟨#[]⟩) (2 ^ (K + 1))).2 < 65536 ∧ (Zpw (W9 t (Zqz fun y => XX y x) (K + 1) ⟨#[]⟩) (2 ^ (K + 1))).1 < 65536 := by have h1 := Zx5 (a := W9 t (Zqz fun y => XX y x) (K + 1) ⟨#[]⟩) (b := 2 ^ (K + 1)); have h2 := hMQ (K + 1) (by omega); exact ⟨Zx3 pw1, by omega, by omega⟩
  have HP3 : Hid (∀ W, RT W A t ⟨ma, mb, mc, md, me, mf, mg, mh, mi, mj, mk, ml⟩ → Calls Tryz.prog 18 #[TV t ⟨ma, mb, mc, md, me, mf, mg, mh, mi, mj, mk, ml⟩, .int .i64 K] W (Zqu (Zpw (W9 t ZpX K ⟨#[]⟩) (2 ^ K)) W)) := Lib.hid (fun W h => Zsx t K W A _ ox hs h (by omega) hE)
  have gp3 : 0 < (Zpw (W9 t ZpX K ⟨#[]⟩) (2 ^ K)).2 ∧ (Zpw (W9 t ZpX K ⟨#[]⟩) (2 ^ K)).2 < 65536 ∧ (Zpw (W9 t ZpX K ⟨#[]⟩) (2 ^ K)).1 < 65536 := by have h1 := Zx5 (a := W9 t ZpX K ⟨#[]⟩) (b := 2 ^ K); have h2 := hMM K (by omega); exact ⟨Zx3 pw0, by omega, by omega⟩
  have HP4 : Hid (∀ W, RT W A t ⟨ma, mb, mc, md, me, mf, mg, mh, mi, mj, mk, ml⟩ → Calls Tryz.prog 18 #[TV t ⟨ma, mb, mc, md, me, mf, mg, mh, mi, mj, mk, ml⟩, .int .i64 ((K : Int) + 1)] W (Zqu (Zpw (W9 t ZpX (K + 1) ⟨#[]⟩) (2 ^ (K + 1))) W)) := Lib.hid (fun W h => by rw [← eK]; exact Zsx t (K + 1) W A _ ox hs h (by omega) hE)
  have gp4 : 0 < (Zpw (W9 t ZpX (K + 1) ⟨#[]⟩) (2 ^ (K + 1))).2 ∧ (Zpw (W9 t ZpX (K + 1) ⟨#[]⟩) (2 ^ (K + 1))).2 < 65536 ∧ (Zpw (W9 t ZpX (K + 1) ⟨#[]⟩) (2 ^ (K + 1))).1 < 65536 := by have h1 := Zx5 (a := W9 t ZpX (K + 1) ⟨#[]⟩) (b := 2 ^ (K + 1)); have h2 := hMM (K + 1) (by omega); exact ⟨Zx3 pw1, by omega, by omega⟩
  have HP5 : Hid (∀ W, RT W A t ⟨ma, mb, mc, md, me, mf, mg, mh, mi, mj, mk, ml⟩ → Calls Tryz.prog 19 #[TV t ⟨ma, mb, mc, md, me, mf, mg, mh, mi, mj, mk, ml⟩, .int .i64 K] W (Zqu (Zpw (W9 t Zp3 K ⟨#[]⟩) (2 ^ K)) W)) := Lib.hid (fun W h => ZsI t K W A _ ox hs h (by omega) hE)
  have gp5 : 0 < (Zpw (W9 t Zp3 K ⟨#[]⟩) (2 ^ K)).2 ∧ (Zpw (W9 t Zp3 K ⟨#[]⟩) (2 ^ K)).2 < 65536 ∧ (Zpw (W9 t Zp3 K ⟨#[]⟩) (2 ^ K)).1 < 65536 := by have h1 := Zx5 (a := W9 t Zp3 K ⟨#[]⟩) (b := 2 ^ K); have h2 := hMS K (by omega); exact ⟨Zx3 pw0, by omega, by omega⟩
  have HP6 : Hid (∀ W, RT W A t ⟨ma, mb, mc, md, me, mf, mg, mh, mi, mj, mk, ml⟩ → Calls Tryz.prog 19 #[TV t ⟨ma, mb, mc, md, me, mf, mg, mh, mi, mj, mk, ml⟩, .int .i64 ((K : Int) + 1)] W (Zqu (Zpw (W9 t Zp3 (K + 1) ⟨#[]⟩) (2 ^ (K + 1))) W)) := Lib.hid (fun W h => by rw [← eK]; exact ZsI t (K + 1) W A _ ox hs h (by omega) hE)
  have gp6 : 0 < (Zpw (W9 t Zp3 (K + 1) ⟨#[]⟩) (2 ^ (K + 1))).2 ∧ (Zpw (W9 t Zp3 (K + 1) ⟨#[]⟩) (2 ^ (K + 1))).2 < 65536 ∧ (Zpw (W9 t Zp3 (K + 1) ⟨#[]⟩) (2 ^ (K + 1))).1 < 65536 := by have h1 := Zx5 (a := W9 t Zp3 (K + 1) ⟨#[]⟩) (b := 2 ^ (K + 1)); have h2 := hMS (K + 1) (by omega); exact ⟨Zx3 pw1, by omega, by omega⟩
  have HP7 : Hid (∀ W, RT W A t ⟨ma, mb, mc, md, me, mf, mg, mh, mi, mj, mk, ml⟩ → Calls Tryz.prog 20 #[TV t ⟨ma, mb, mc, md, me, mf, mg, mh, mi, mj, mk, ml⟩, .int .i64 K] W (Zqu (Zpw (W9 t Zp2 K ⟨#[]⟩) (2 ^ K)) W)) := Lib.hid (fun W h => ZsE t K W A _ ox hs h (by omega) hE)
  have gp7 : 0 < (Zpw (W9 t Zp2 K ⟨#[]⟩) (2 ^ K)).2 ∧ (Zpw (W9 t Zp2 K ⟨#[]⟩) (2 ^ K)).2 < 65536 ∧ (Zpw (W9 t Zp2 K ⟨#[]⟩) (2 ^ K)).1 < 65536 := by have h1 := Zx5 (a := W9 t Zp2 K ⟨#[]⟩) (b := 2 ^ K); have h2 := hMB K (by omega); exact ⟨Zx3 pw0, by omega, by omega⟩
  have HP8 : Hid (∀ W, RT W A t ⟨ma, mb, mc, md, me, mf, mg, mh, mi, mj, mk, ml⟩ → Calls Tryz.prog 20 #[TV t ⟨ma, mb, mc, md, me, mf, mg, mh, mi, mj, mk, ml⟩, .int .i64 ((K : Int) + 1)] W (Zqu (Zpw (W9 t Zp2 (K + 1) ⟨#[]⟩) (2 ^ (K + 1))) W)) := Lib.hid (fun W h => by rw [← eK]; exact ZsE t (K + 1) W A _ ox hs h (by omega) hE)
  have gp8 : 0 < (Zpw (W9 t Zp2 (K + 1) ⟨#[]⟩) (2 ^ (K + 1))).2 ∧ (Zpw (W9 t Zp2 (K + 1) ⟨#[]⟩) (2 ^ (K + 1))).2 < 65536 ∧ (Zpw (W9 t Zp2 (K + 1) ⟨#[]⟩) (2 ^ (K + 1))).1 < 65536 := by have h1 := Zx5 (a := W9 t Zp2 (K + 1) ⟨#[]⟩) (b := 2 ^ (K + 1)); have h2 := hMB (K + 1) (by omega); exact ⟨Zx3 pw1, by omega, by omega⟩
  obtain ⟨hq1, hq2, hq3, hq4⟩ := rises hE ox (fun y => XX y x) (n := K) (by omega)
  replace hq4 := hq4.imp And.right id
  obtain ⟨q0, hq0⟩ : ∃ q : Nat × Nat, q = (0, 1) := ⟨_, rfl⟩
  rw [← hq0] at hq4
  have gq0 : 0 < q0.2 ∧ q0.2 < 65536 ∧ q0.1 < 65536 := by rw [hq0]; decide
  have HC1 : Hid (∀ (W : World) (a b a' b' : Option Addr) (c d c' d' : Nat), RL W (fun _ => True) (W7 (Zpw (W9 t (Zqz fun y => XX y x) K ⟨#[]⟩) (2 ^ K)).1) a → RL W (fun _ => True) (W7 (Zpw (W9 t (Zqz fun y => XX y x) K ⟨#[]⟩) (2 ^ K)).2) b → RL W (fun _ => True) (W7 (Zpw (W9 t (Zqz fun y => XX y x) (K + 1) ⟨#[]⟩) (2 ^ (K + 1))).1) a' → RL W (fun _ => True) (W7 (Zpw (W9 t (Zqz fun y => XX y x) (K + 1) ⟨#[]⟩) (2 ^ (K + 1))).2) b' → Calls Tryz.prog 43 #[.agg #[.bool false, .slice a (W7 (Zpw (W9 t (Zqz fun y => XX y x) K ⟨#[]⟩) (2 ^ K)).1).length ((W7 (Zpw (W9 t (Zqz fun y => XX y x) K ⟨#[]⟩) (2 ^ K)).1).length + c), .slice b (W7 (Zpw (W9 t (Zqz fun y => XX y x) K ⟨#[]⟩) (2 ^ K)).2).length ((W7 (Zpw (W9 t (Zqz fun y => XX y x) K ⟨#[]⟩) (2 ^ K)).2).length + d)], .agg #[.bool false, .slice a' (W7 (Zpw (W9 t (Zqz fun y => XX y x) (K + 1) ⟨#[]⟩) (2 ^ (K + 1))).1).length ((W7 (Zpw (W9 t (Zqz fun y => XX y x) (K + 1) ⟨#[]⟩) (2 ^ (K + 1))).1).length + c'), .slice b' (W7 (Zpw (W9 t (Zqz fun y => XX y x) (K + 1) ⟨#[]⟩) (2 ^ (K + 1))).2).length ((W7 (Zpw (W9 t (Zqz fun y => XX y x) (K + 1) ⟨#[]⟩) (2 ^ (K + 1))).2).length + d')]] W fun e w' => e = .returned (.int .i64 (cmpQ (Zpw (W9 t (Zqz fun y => XX y x) K ⟨#[]⟩) (2 ^ K)) (Zpw (W9 t (Zqz fun y => XX y x) (K + 1) ⟨#[]⟩) (2 ^ (K + 1))))) ∧ Below W.heap.size W w') := Lib.hid (fun W a b a' b' c d c' d' h1 h2 h3 h4 => rcmp_any (Zpw (W9 t (Zqz fun y => XX y x) K ⟨#[]⟩) (2 ^ K)).1 (Zpw (W9 t (Zqz fun y => XX y x) K ⟨#[]⟩) (2 ^ K)).2 (Zpw (W9 t (Zqz fun y => XX y x) (K + 1) ⟨#[]⟩) (2 ^ (K + 1))).1 (Zpw (W9 t (Zqz fun y => XX y x) (K + 1) ⟨#[]⟩) (2 ^ (K + 1))).2 W _ _ _ _ a b a' b' c d c' d' gp1.1 gp2.1 gp1.2.2 gp1.2.1 gp2.2.2 gp2.2.1 h1 h2 h3 h4)
  have HC2 : Hid (∀ (W : World) (a b a' b' : Option Addr) (c d c' d' : Nat), RL W (fun _ => True) (W7 (Zpw (W9 t ZpX K ⟨#[]⟩) (2 ^ K)).1) a → RL W (fun _ => True) (W7 (Zpw (W9 t ZpX K ⟨#[]⟩) (2 ^ K)).2) b → RL W (fun _ => True) (W7 (Zpw (W9 t ZpX (K + 1) ⟨#[]⟩) (2 ^ (K + 1))).1) a' → RL W (fun _ => True) (W7 (Zpw (W9 t ZpX (K + 1) ⟨#[]⟩) (2 ^ (K + 1))).2) b' → Calls Tryz.prog 43 #[.agg #[.bool false, .slice a (W7 (Zpw (W9 t ZpX K ⟨#[]⟩) (2 ^ K)).1).length ((W7 (Zpw (W9 t ZpX K ⟨#[]⟩) (2 ^ K)).1).length + c), .slice b (W7 (Zpw (W9 t ZpX K ⟨#[]⟩) (2 ^ K)).2).length ((W7 (Zpw (W9 t ZpX K ⟨#[]⟩) (2 ^ K)).2).length + d)], .agg #[.bool false, .slice a' (W7 (Zpw (W9 t ZpX (K + 1) ⟨#[]⟩) (2 ^ (K + 1))).1).length ((W7 (Zpw (W9 t ZpX (K + 1) ⟨#[]⟩) (2 ^ (K + 1))).1).length + c'), .slice b' (W7 (Zpw (W9 t ZpX (K + 1) ⟨#[]⟩) (2 ^ (K + 1))).2).length ((W7 (Zpw (W9 t ZpX (K + 1) ⟨#[]⟩) (2 ^ (K + 1))).2).length + d')]] W fun e w' => e = .returned (.int .i64 (cmpQ (Zpw (W9 t ZpX K ⟨#[]⟩) (2 ^ K)) (Zpw (W9 t ZpX (K + 1) ⟨#[]⟩) (2 ^ (K + 1))))) ∧ Below W.heap.size W w') := Lib.hid (fun W a b a' b' c d c' d' h1 h2 h3 h4 => rcmp_any (Zpw (W9 t ZpX K ⟨#[]⟩) (2 ^ K)).1 (Zpw (W9 t ZpX K ⟨#[]⟩) (2 ^ K)).2 (Zpw (W9 t ZpX (K + 1) ⟨#[]⟩) (2 ^ (K + 1))).1 (Zpw (W9 t ZpX (K + 1) ⟨#[]⟩) (2 ^ (K + 1))).2 W _ _ _ _ a b a' b' c d c' d' gp3.1 gp4.1 gp3.2.2 gp3.2.1 gp4.2.2 gp4.2.1 h1 h2 h3 h4)
  have HC3 : Hid (∀ (W : World) (a b a' b' : Option Addr) (c d c' d' : Nat), RL W (fun _ => True) (W7 (Zpw (W9 t Zp3 K ⟨#[]⟩) (2 ^ K)).1) a → RL W (fun _ => True) (W7 (Zpw (W9 t Zp3 K ⟨#[]⟩) (2 ^ K)).2) b → RL W (fun _ => True) (W7 (Zpw (W9 t Zp3 (K + 1) ⟨#[]⟩) (2 ^ (K + 1))).1) a' → RL W (fun _ => True) (W7 (Zpw (W9 t Zp3 (K + 1) ⟨#[]⟩) (2 ^ (K + 1))).2) b' → Calls Tryz.prog 43 #[.agg #[.bool false, .slice a (W7 (Zpw (W9 t Zp3 K ⟨#[]⟩) (2 ^ K)).1).length ((W7 (Zpw (W9 t Zp3 K ⟨#[]⟩) (2 ^ K)).1).length + c), .slice b (W7 (Zpw (W9 t Zp3 K ⟨#[]⟩) (2 ^ K)).2).length ((W7 (Zpw (W9 t Zp3 K ⟨#[]⟩) (2 ^ K)).2).length + d)], .agg #[.bool false, .slice a' (W7 (Zpw (W9 t Zp3 (K + 1) ⟨#[]⟩) (2 ^ (K + 1))).1).length ((W7 (Zpw (W9 t Zp3 (K + 1) ⟨#[]⟩) (2 ^ (K + 1))).1).length + c'), .slice b' (W7 (Zpw (W9 t Zp3 (K + 1) ⟨#[]⟩) (2 ^ (K + 1))).2).length ((W7 (Zpw (W9 t Zp3 (K + 1) ⟨#[]⟩) (2 ^ (K + 1))).2).length + d')]] W fun e w' => e = .returned (.int .i64 (cmpQ (Zpw (W9 t Zp3 K ⟨#[]⟩) (2 ^ K)) (Zpw (W9 t Zp3 (K + 1) ⟨#[]⟩) (2 ^ (K + 1))))) ∧ Below W.heap.size W w') := Lib.hid (fun W a b a' b' c d c' d' h1 h2 h3 h4 => rcmp_any (Zpw (W9 t Zp3 K ⟨#[]⟩) (2 ^ K)).1 (Zpw (W9 t Zp3 K ⟨#[]⟩) (2 ^ K)).2 (Zpw (W9 t Zp3 (K + 1) ⟨#[]⟩) (2 ^ (K + 1))).1 (Zpw (W9 t Zp3 (K + 1) ⟨#[]⟩) (2 ^ (K + 1))).2 W _ _ _ _ a b a' b' c d c' d' gp5.1 gp6.1 gp5.2.2 gp5.2.1 gp6.2.2 gp6.2.1 h1 h2 h3 h4)
  have HC4 : Hid (∀ (W : World) (a b a' b' : Option Addr) (c d c' d' : Nat), RL W (fun _ => True) (W7 (Zpw (W9 t Zp3 (K + 1) ⟨#[]⟩) (2 ^ (K + 1))).1) a → RL W (fun _ => True) (W7 (Zpw (W9 t Zp3 (K + 1) ⟨#[]⟩) (2 ^ (K + 1))).2) b → RL W (fun _ => True) (W7 q0.1) a' → RL W (fun _ => True) (W7 q0.2) b' → Calls Tryz.prog 43 #[.agg #[.bool false, .slice a (W7 (Zpw (W9 t Zp3 (K + 1) ⟨#[]⟩) (2 ^ (K + 1))).1).length ((W7 (Zpw (W9 t Zp3 (K + 1) ⟨#[]⟩) (2 ^ (K + 1))).1).length + c), .slice b (W7 (Zpw (W9 t Zp3 (K + 1) ⟨#[]⟩) (2 ^ (K + 1))).2).length ((W7 (Zpw (W9 t Zp3 (K + 1) ⟨#[]⟩) (2 ^ (K + 1))).2).length + d)], .agg #[.bool false, .slice a' (W7 q0.1).length ((W7 q0.1).length + c'), .slice b' (W7 q0.2).length ((W7 q0.2).length + d')]] W fun e w' => e = .returned (.int .i64 (cmpQ (Zpw (W9 t Zp3 (K + 1) ⟨#[]⟩) (2 ^ (K + 1))) q0)) ∧ Below W.heap.size W w') := Lib.hid (fun W a b a' b' c d c' d' h1 h2 h3 h4 => rcmp_any (Zpw (W9 t Zp3 (K + 1) ⟨#[]⟩) (2 ^ (K + 1))).1 (Zpw (W9 t Zp3 (K + 1) ⟨#[]⟩) (2 ^ (K + 1))).2 q0.1 q0.2 W _ _ _ _ a b a' b' c d c' d' gp6.1 gq0.1 gp6.2.2 gp6.2.1 gq0.2.2 gq0.2.1 h1 h2 h3 h4)
  have HADD : Hid (∀ (W : World) (a b a' b' : Option Addr) (c d c' d' : Nat), RL W (fun _ => True) (W7 (Zpw (W9 t Zp2 K ⟨#[]⟩) (2 ^ K)).1) a → RL W (fun _ => True) (W7 (Zpw (W9 t Zp2 K ⟨#[]⟩) (2 ^ K)).2) b → RL W (fun _ => True) (W7 (Zpw (W9 t ZpX K ⟨#[]⟩) (2 ^ K)).1) a' → RL W (fun _ => True) (W7 (Zpw (W9 t ZpX K ⟨#[]⟩) (2 ^ K)).2) b' → Calls Tryz.prog 40 #[.agg #[.bool false, .slice a (W7 (Zpw (W9 t Zp2 K ⟨#[]⟩) (2 ^ K)).1).length ((W7 (Zpw (W9 t Zp2 K ⟨#[]⟩) (2 ^ K)).1).length + c), .slice b (W7 (Zpw (W9 t Zp2 K ⟨#[]⟩) (2 ^ K)).2).length ((W7 (Zpw (W9 t Zp2 K ⟨#[]⟩) (2 ^ K)).2).length + d)], .agg #[.bool false, .slice a' (W7 (Zpw (W9 t ZpX K ⟨#[]⟩) (2 ^ K)).1).length ((W7 (Zpw (W9 t ZpX K ⟨#[]⟩) (2 ^ K)).1).length + c'), .slice b' (W7 (Zpw (W9 t ZpX K ⟨#[]⟩) (2 ^ K)).2).length ((W7 (Zpw (W9 t ZpX K ⟨#[]⟩) (2 ^ K)).2).length + d')]] W (ZtE (addQ (Zpw (W9 t Zp2 K ⟨#[]⟩) (2 ^ K)) (Zpw (W9 t ZpX K ⟨#[]⟩) (2 ^ K))) W)) := Lib.hid (fun W a b a' b' c d c' d' h1 h2 h3 h4 => radd_any (Zpw (W9 t Zp2 K ⟨#[]⟩) (2 ^ K)).1 (Zpw (W9 t Zp2 K ⟨#[]⟩) (2 ^ K)).2 (Zpw (W9 t ZpX K ⟨#[]⟩) (2 ^ K)).1 (Zpw (W9 t ZpX K ⟨#[]⟩) (2 ^ K)).2 W _ _ _ _ a b a' b' c d c' d' gp7.1 gp3.1 gp7.2.2 gp7.2.1 gp3.2.2 gp3.2.1 h1 h2 h3 h4)
  have HOF : Hid (∀ W, Calls Tryz.prog 41 #[.int .i64 0] W (ZtE q0 W)) := Lib.hid (fun W => by rw [hq0]; exact rof_any 0 W (by omega))
  exact hrises_run w t A ma mb mc md me mf mg mh mi mj mk ml kn K hK8 hK1 hn x A2 xa xc _ _ _ _ _ _ _ _ _ _ _ _ _ _ _ _ HL HV hle ln2 (by omega) (by omega) (by omega) (Lib.hid hq4) HPRE HSUF (Lib.hid HOK.out) HLONG HL14 HSZ HA1 HA2 HP1 HP2 HP3 HP4 HP5 HP6 HP7 HP8 HC1 HC2 HC3 HC4 HADD HOF
theorem hrises_any (w : World) (t : GT) (A : Nat → Prop) (m : TA) (ox : okT t) (hs1 : Zb t ≤ 1048576) (hl : RT w A t m) (n : Int) (hn : 0 ≤ n ∧ n ≤ 255) (x : GV) (A2 : Nat → Prop) (mx : VA) (hx : okV x) (hsx : Zg x ≤ 1048576) (hv : RV w A2 x mx.a) :
    Calls Tryz.prog 9 #[TV t m, .int .u8 n, VV x mx] w fun e w' => e = .returned (.bool true) ∧ Below w.heap.size w w' := by
  by_cases hE : (Z3 t).2 = 0
  · exact hrises_ok w t A m ox hs1 hl n hn x A2 mx hx hsx hv hE
  · exact hrises_err w t A m ox hs1 hl n hn x A2 mx hx hsx hv hE
end Go.Proofs.YtkdffbdnjfgpeaaGreat
