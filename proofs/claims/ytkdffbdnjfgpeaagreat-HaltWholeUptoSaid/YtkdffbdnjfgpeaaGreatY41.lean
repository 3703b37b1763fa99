/- Part 42. -/
import Derived.Test.YtkdffbdnjfgpeaaGreatY40
import Derived.Test.YtkdffbdnjfgpeaaGreatY45
set_option linter.all false
namespace Go.Proofs.YtkdffbdnjfgpeaaGreat
open Go.Lib (hid)
open Go Go.RowKit Go.Proofs.Tryz
theorem Zqd {W:World} {n:Nat} (v0 v1:Value):Agree (fun b=>n+1≤b) W ((W.setCell ⟨n,0,none⟩ v0).setCell ⟨n,1,none⟩ v1):=
 (Zt4 (p:=⟨n,0,none⟩) (fun h=>absurd h (Nat.not_succ_le_self n))).trans (Zt4 (p:=⟨n,1,none⟩) (fun h=>absurd h (Nat.not_succ_le_self n)))
theorem WN {W:World} {n:Nat} (v0 v1 v2:Value):Agree (fun b=>n+1≤b) W (((W.setCell ⟨n,0,none⟩ v0).setCell ⟨n,1,none⟩ v1).setCell ⟨n,2,none⟩ v2):=
 (Zqd v0 v1).trans (Zt4 (p:=⟨n,2,none⟩) (fun h=>absurd h (Nat.not_succ_le_self n)))
theorem Zwb {p:Prop} (h:p:=by exact ⟨ZtZ,a1,c1,rfl,Zt7 (fun b h _=>om) (Zt6 (A:=fun b=>w.heap.size+1≤b) (Zqd _ _) (Zt7 (fun b h _=>by (try simp at h);omega) HR1.out))⟩):p:=h
set_option maxRecDepth 100000
theorem ZqB (x:Nat) (w:World) (A:Nat→Prop) (a:Option Addr) (c:Nat) (hr:RL w A (W7 x) a):
  Calls prog 101 #[.bool false,.slice a (W7 x).length ((W7 x).length+c)] w fun e w'=>Below w.heap.size w w'∧∃a' c',e=.returned (.agg #[.bool false,.slice a' (W7 x).length ((W7 x).length+c')])∧RL w' (fun b=>w.heap.size≤b) (W7 x) a':=by
 have HR:=hid hr
 clear hr
 go_enter func101,ntmps101
 go_wp2_with (go_at_call 105;(with_reducible refine (ZpV x _ A a c (by exact Zt6 ar HR.out)).mono ?_);rintro e w1 ⟨hb1,a1,c1,rfl,hr1⟩;have HR1:=hid hr1;clear hr1;obtain ⟨hc1,hf1⟩:=Za hb1;have hz1:=hb1.size;(try simp at hz1);have y1:w.heap.size < w1.heap.size:=om)
 refine bodyPost_ret (v:=.agg #[.bool false,.slice a1 (W7 x).length ((W7 x).length+c1)]) (by first|(simp [results,Tryz.f101,go_sem];done)|(simp [results,Tryz.f101,go_sem, *];done)) rfl ?_
 exact Zwb
theorem ZrS (x:Nat) (w:World) (hx:x≤9223372036854775807):
  Calls prog 70 #[.int .i64 x] w fun e w'=>Below w.heap.size w w'∧∃a' c',e=.returned (.agg #[.bool false,.slice a' (W7 x).length ((W7 x).length+c')])∧RL w' (fun b=>w.heap.size≤b) (W7 x) a':=by
 have h0:¬((x:Int) < 0):=om
 have hw:IntKind.u64.wrap (x:Int)=(x:Int):=IntWalk.u64_in _ om
 go_enter func70,ntmps70
 go_wp2_with (first
  | (go_at_call 106;(with_reducible refine (ZrM x _ om).mono ?_);rintro e w1 ⟨hb1,a1,c1,rfl,hr1⟩;have HR1:=hid hr1;clear hr1;obtain ⟨hc1,hf1⟩:=Za hb1;have hz1:=hb1.size;(try simp at hz1);have y1:w.heap.size < w1.heap.size:=om)
  | (go_at_call 101;(with_reducible refine (ZqB x _ _ a1 c1 (by exact HR1.out)).mono ?_);rintro e w2 ⟨hb2,a2,c2,rfl,hr2⟩;have HR2:=hid hr2;clear hr2;obtain ⟨hc2,hf2⟩:=Za hb2;have hz2:=hb2.size;(try simp at hz2);have y2:w.heap.size < w2.heap.size:=om))
 refine bodyPost_ret (v:=.agg #[.bool false,.slice a2 (W7 x).length ((W7 x).length+c2)]) (by first|(simp [results,Tryz.f70,go_sem];done)|(simp [results,Tryz.f70,go_sem, *];done)) rfl ?_
 exact ⟨ZtZ,a2,c2,rfl,Zt7 (fun b h _=>om) (Zt6 (A:=fun b=>w.heap.size+1≤b) (Zqd _ _) (Zt7 (fun b h _=>by (try simp at h);omega) HR2.out))⟩
set_option maxRecDepth 512
def Zqu (p:Nat×Nat) (w:World) (e:Ending) (w':World):Prop:=Below w.heap.size w w'∧∃(a b:Option Addr) (c d:Nat),e=.returned (.tuple #[.agg #[.bool false,.slice a (W7 p.1).length ((W7 p.1).length+c),.slice b (W7 p.2).length ((W7 p.2).length+d)],.int .i64 0])∧RL w' (fun b=>w.heap.size≤b) (W7 p.1) a∧RL w' (fun b=>w.heap.size≤b) (W7 p.2) b
theorem ZvG {p:Prop} (h:p:=by exact ⟨ZtZ,a5,a4,c5,c4,rfl,Zt7 (fun b h _=>om) (Zt6 (A:=fun b=>w.heap.size+1+1≤b) (WN _ _ _) (Zt7 (fun b h _=>by (try simp at h);omega) HR5.out)),Zt7 (fun b h _=>om) (Zt6 (A:=fun b=>w.heap.size+1+1≤b) (WN _ _ _) (Zt6 (ZtY hb5) (Zt7 (fun b h _=>by (try simp at h);omega) HR4.out)))⟩):p:=h
set_option maxRecDepth 100000
set_option maxHeartbeats 1000000
theorem Zr5 (x y:Nat) (w:World) (A A2:Nat→Prop) (a b:Option Addr) (c d:Nat) (hx:x < 18446744073709551616) (hy:y < 18446744073709551616) (h0:0 < y) (hr:RL w A (W7 x) a) (hs:RL w A2 (W7 y) b):
  Calls prog 66 #[.agg #[.bool false,.slice a (W7 x).length ((W7 x).length+c)],.slice b (W7 y).length ((W7 y).length+d)] w (Zqu (Zpw x y) w):=by
 have HR:=hid hr
 have HS:=hid hs
 obtain ⟨g,hg⟩:∃g,g=Nat.gcd x y:=⟨_,rfl⟩
 have hg0:0 < g:=by rw [hg];exact Nat.gcd_pos_of_pos_right _ h0
 have hgy:g≤y:=by rw [hg];exact Nat.gcd_le_right _ h0
 have hn:Zpw x y=(x / g,y / g):=by rw [hg];rfl
 rw [hn]
 have hyz:(y==0)=false:=by simp;omega
 have HYZ:=hid hyz
 have HG:=hid hg
 clear hr hs hg hn hyz
 go_enter func66,ntmps66
 go_wp2_with (first
  | (go_at_call 98;(with_reducible refine (Zr4 y _ A2 b d hy (by exact Zt6 ar HS.out)).mono ?_);rw [HYZ.out];rintro e w1 ⟨rfl,hb1⟩;obtain ⟨hc1,hf1⟩:=Za hb1;have hz1:=hb1.size;(try simp at hz1);have y1:w.heap.size < w1.heap.size:=om;have z1:w.heap.size+1 < w1.heap.size:=om)
  | (go_at_call 99;(with_reducible refine (ZsN x y _ A A2 a b c d om hy (by exact Zt6 ar HR.out) (by exact Zt6 ar HS.out)).mono ?_);rw [←HG.out];rintro e w2 ⟨hb2,a2,c2,rfl,hr2⟩;have HR2:=hid hr2;clear hr2;obtain ⟨hc2,hf2⟩:=Za hb2;have hz2:=hb2.size;(try simp at hz2);have y2:w.heap.size < w2.heap.size:=om;have z2:w.heap.size+1 < w2.heap.size:=om)
  | (go_at_call 100;(with_reducible refine (ZqU x g _ A (fun q=>w1.heap.size≤q) a a2 c c2 hx om hg0 (by exact Zt6 ar HR.out) (by exact HR2.out)).mono ?_);rintro e w3 ⟨hb3,a3,c3,b3,d3,rfl,hr3,hs3⟩;have HR3:=hid hr3;clear hr3 hs3;obtain ⟨hc3,hf3⟩:=Za hb3;have hz3:=hb3.size;(try simp at hz3);have y3:w.heap.size < w3.heap.size:=om;have z3:w.heap.size+1 < w3.heap.size:=om)
  | (go_at_call 100;(with_reducible refine (ZqU y g _ A2 (fun q=>w1.heap.size≤q) b a2 d c2 hy om hg0 (by exact Zt6 ar HS.out) (by exact Zt6 ar HR2.out)).mono ?_);rintro e w4 ⟨hb4,a4,c4,b4,d4,rfl,hr4,hs4⟩;have HR4:=hid hr4;clear hr4 hs4;obtain ⟨hc4,hf4⟩:=Za hb4;have hz4:=hb4.size;(try simp at hz4);have y4:w.heap.size < w4.heap.size:=om;have z4:w.heap.size+1 < w4.heap.size:=om)
  | (go_at_call 101;(with_reducible refine (ZqB (x / g) _ (fun q=>w2.heap.size≤q) a3 c3 (by exact Zt6 ar HR3.out)).mono ?_);rintro e w5 ⟨hb5,a5,c5,rfl,hr5⟩;have HR5:=hid hr5;clear hr5;obtain ⟨hc5,hf5⟩:=Za hb5;have hz5:=hb5.size;(try simp at hz5);have y5:w.heap.size < w5.heap.size:=om;have z5:w.heap.size+1 < w5.heap.size:=om))
 refine bodyPost_ret (v:=.tuple #[.agg #[.bool false,.slice a5 (W7 (x / g)).length ((W7 (x / g)).length+c5),.slice a4 (W7 (y / g)).length ((W7 (y / g)).length+c4)],.int .i64 0]) (by first|(simp [results,Tryz.f66,go_sem];done)|(simp [results,Tryz.f66,go_sem, *];done)) rfl ?_
 exact ZvG
theorem Zr6 (x y:Nat) (w:World) (hx:x≤9223372036854775807) (hy:y≤9223372036854775807) (h0:0 < y):
  Calls prog 82 #[.int .i64 x,.int .i64 y] w (Zqu (Zpw x y) w):=by
 generalize hp:Zpw x y=p
 have HP:=hid hp
 clear hp
 go_enter func82,ntmps82
 go_wp2_with (first
  | (go_at_call 70;(with_reducible refine (ZrS x _ hx).mono ?_);rintro e w1 ⟨hb1,a1,c1,rfl,hr1⟩;have HR1:=hid hr1;clear hr1;obtain ⟨hc1,hf1⟩:=Za hb1;have hz1:=hb1.size;(try simp at hz1);have y1:w.heap.size < w1.heap.size:=om)
  | (go_at_call 70;(with_reducible refine (ZrS y _ hy).mono ?_);rintro e w2 ⟨hb2,a2,c2,rfl,hr2⟩;have HR2:=hid hr2;clear hr2;obtain ⟨hc2,hf2⟩:=Za hb2;have hz2:=hb2.size;(try simp at hz2);have y2:w.heap.size < w2.heap.size:=om))
 refine ZT (fun W=>Below w2.heap.size w2 W∧w2.heap.size+1 < W.heap.size∧W.cell? ⟨w2.heap.size,0,none⟩=some (.bool false)∧W.cell? ⟨w2.heap.size,1,none⟩=some (.slice a1 (W7 x).length ((W7 x).length+c1))∧W.cell? ⟨w2.heap.size+1,0,none⟩=some (.bool false)∧W.cell? ⟨w2.heap.size+1,1,none⟩=some (.slice a2 (W7 y).length ((W7 y).length+c2))) ⟨ZtZ,sm,gs,gs,gs,gs⟩ ?_
 rintro wa ⟨hba,hza,k0,k1,k2,k3⟩
 obtain ⟨hca,hfa⟩:=Za hba
 have n0:wa.cell? ⟨w.heap.size,0,none⟩=some (.bool false):=gs
 have n1:wa.cell? ⟨w.heap.size,1,none⟩=some (.slice none 0 0):=gs
 have n2:wa.cell? ⟨w.heap.size,2,none⟩=some (.slice none 0 0):=gs
 have nf:∀k,wa.frozen? ⟨w.heap.size,k,none⟩=false:=fun k=>gs
 have hbwa:Below w.heap.size w wa:=ZtZ
 have HRX:=hid (show RL wa (fun q=>w.heap.size≤q) (W7 x) a1 from Zt7 (fun b h _=>by (try simp at h);omega) (Zt6 (ZtY (hb2.trans (hba.mono om))) HR1.out))
 have HRY:=hid (show RL wa (fun q=>w.heap.size≤q) (W7 y) a2 from Zt7 (fun b h _=>by (try simp at h);omega) (Zt6 (ZtY hba) HR2.out))
 have ya:w.heap.size < wa.heap.size:=om
 have yb:w2.heap.size < wa.heap.size:=om
 clear hba hca hfa hc1 hf1 hc2 hf2 hb1 hb2 HR1 HR2
 have ne1:¬w.heap.size=w2.heap.size:=om
 have ne2:¬w.heap.size=w2.heap.size+1:=om
 go_region_held3 (fun W=>W.cell? ⟨w2.heap.size,0,none⟩=some (.bool false)∧W.cell? ⟨w2.heap.size,1,none⟩=some (.slice a1 (W7 x).length ((W7 x).length+c1))∧W.cell? ⟨w2.heap.size+1,0,none⟩=some (.bool false)∧W.cell? ⟨w2.heap.size+1,1,none⟩=some (.slice a2 (W7 y).length ((W7 y).length+c2))) ((refine ⟨gs,gs,gs,gs⟩)) ((first|(go_at_call 101;(with_reducible refine (ZqB x _ (fun q=>w.heap.size≤q) a1 c1 (by exact Zt6 ar HRX.out)).mono ?_);rintro e w3 ⟨hb3,a3,c3,rfl,hr3⟩;have HR3:=hid hr3;clear hr3;have hz3:=hb3.size;(try simp at hz3);have y3:w.heap.size < w3.heap.size:=om;have z3:w2.heap.size < w3.heap.size:=om;have v3:w2.heap.size+1 < w3.heap.size:=om;have hby:Below wa.heap.size wa w3:=ZtZ;have q0:=(hby.cell (p:=⟨w2.heap.size,0,none⟩) yb).trans k0;have q1:=(hby.cell (p:=⟨w2.heap.size,1,none⟩) yb).trans k1;have q2:=(hby.cell (p:=⟨w2.heap.size+1,0,none⟩) hza).trans k2;have q3:=(hby.cell (p:=⟨w2.heap.size+1,1,none⟩) hza).trans k3)|(go_at_call 66;(with_reducible refine (Zr5 x y _ (fun q=>wa.heap.size≤q) (fun q=>w.heap.size≤q) a3 a2 c3 c2 om om h0 (by exact Zt7 (fun b h _=>by (try simp at h);omega) (Zt6 ar HR3.out)) (by exact Zt6 ar HRY.out)).mono ?_);rw [HP.out];rintro e w4 ⟨hb4,a4,b4,c4,d4,rfl,hr4,hs4⟩;have HR4:=hid hr4;have HS4:=hid hs4;clear hr4 hs4;have hz4:=hb4.size;(try simp at hz4);have y4:w.heap.size < w4.heap.size:=om;have hbx:Below wa.heap.size wa w4:=ZtZ;have m0:=(hbx.cell (p:=⟨w.heap.size,0,none⟩) ya).trans n0;have m1:=(hbx.cell (p:=⟨w.heap.size,1,none⟩) ya).trans n1;have m2:=(hbx.cell (p:=⟨w.heap.size,2,none⟩) ya).trans n2;clear q0 q1 q2 q3;have q0:=(hbx.cell (p:=⟨w2.heap.size,0,none⟩) yb).trans k0;have q1:=(hbx.cell (p:=⟨w2.heap.size,1,none⟩) yb).trans k1;have q2:=(hbx.cell (p:=⟨w2.heap.size+1,0,none⟩) hza).trans k2;have q3:=(hbx.cell (p:=⟨w2.heap.size+1,1,none⟩) hza).trans k3;have mf:=fun k=>(hbx.frozen (p:=⟨w.heap.size,k,none⟩) ya).trans (nf k))))
 go_wp2_with fail
 refine bodyPost_ret (v:=.tuple #[.agg #[.bool false,.slice a4 (W7 p.1).length ((W7 p.1).length+c4),.slice b4 (W7 p.2).length ((W7 p.2).length+d4)],.int .i64 0]) (by first|(simp [results,Tryz.f82,go_sem];done)|(simp [results,Tryz.f82,go_sem, *];done)) rfl ?_
 exact ⟨ZtZ,a4,b4,c4,d4,rfl,Zt7 (fun b h _=>om) (Zt6 (A:=fun b=>w.heap.size+1≤b) (WN _ _ _) (Zt7 (fun b h _=>by (try simp at h);omega) HR4.out)),Zt7 (fun b h _=>om) (Zt6 (A:=fun b=>w.heap.size+1≤b) (WN _ _ _) (Zt7 (fun b h _=>by (try simp at h);omega) HS4.out))⟩
theorem Zsk (x y:Nat) (w:World) (A A2:Nat→Prop) (a b:Option Addr) (c d:Nat) (hx:x < 65536) (hy:y < 65536) (h0:0 < y) (hr:RL w A (W7 x) a) (hs:RL w A2 (W7 y) b):
  Calls prog 133 #[.slice a (W7 x).length ((W7 x).length+c),.slice b (W7 y).length ((W7 y).length+d)] w fun e w'=>Below w.heap.size w w'∧∃a' c' v,e=.returned (.tuple #[.slice a' (W7 (x / y)).length ((W7 (x / y)).length+c'),v])∧RL w' (fun b=>w.heap.size≤b) (W7 (x / y)) a':=by
 have HR:=hid hr
 have HS:=hid hs
 obtain ⟨q,hq⟩:∃q,q=x / y:=⟨_,rfl⟩
 obtain ⟨r,hr9⟩:∃r,r=x % y:=⟨_,rfl⟩
 have hq1:(x:Int) / (y:Int)=(q:Int):=by rw [hq];rfl
 have hr1:(x:Int) % (y:Int)=(r:Int):=by rw [hr9];rfl
 have hqx:q < 65536:=by rw [hq];exact Nat.lt_of_le_of_lt (Nat.div_le_self _ _) hx
 have hrx:r < 65536:=by rw [hr9];exact Nat.lt_of_le_of_lt (Nat.mod_le _ _) hx
 have hw1:IntKind.u64.wrap (q:Int)=(q:Int):=IntWalk.u64_in _ om
 have hyB:((y:Int)==0)=false:=by simp;omega
 have hyN:¬y=0:=om
 have hyP:(0:Int) < (y:Int):=om
 have ht1:(x:Int).tdiv (y:Int)=(q:Int):=by rw [←hq1];rfl
 have ht2:(x:Int).tmod (y:Int)=(r:Int):=by rw [←hr1];rfl
 rw [←hq]
 clear hr hs hq hr9
 go_enter func133,ntmps133
 go_wp2_with (first
  | (go_at_call 206;(with_reducible refine (ZqW x _ A a c hx (by exact HR.out)).mono ?_);rintro e w1 ⟨rfl,hb1⟩;have hz1:=hb1.size)
  | (go_at_call 206;(with_reducible refine (ZqW y _ A2 b d hy (by exact Zt6 ar HS.out)).mono ?_);rintro e w2 ⟨rfl,hb2⟩;have hz2:=hb2.size))
 go_region_held3 (fun W=>Below w2.heap.size w2 W) (((exact ZtZ))) ((first|(go_at_call 135;(with_reducible refine (ZrN q _ hqx).mono ?_);rintro e w3 ⟨hb3,a3,c3,rfl,hr3⟩;have HR3:=hid hr3;clear hr3;have hz3:=hb3.size;(try simp at hz3))|(go_at_call 135;(with_reducible refine (ZrN r _ hrx).mono ?_);rintro e w4 ⟨hb4,a4,c4,rfl,hr4⟩;clear hr4;have hz4:=hb4.size;(try simp at hz4))))
 go_wp2_with fail
 go_ret2
 exact ⟨ZtZ,a3,c3,_,rfl,Zt7 (fun b h _=>by (try simp at h);omega) (Zt6 ar HR3.out)⟩
theorem Zs2 (x:Nat) (w:World) (A:Nat→Prop) (a:Option Addr) (c:Nat) (hx:x < 65536) (hr:RL w A (W7 x) a):
  Calls prog 134 #[.bool false,.slice a (W7 x).length ((W7 x).length+c)] w fun e w'=>Below w.heap.size w w'∧∃a' c',e=.returned (.agg #[.bool false,.slice a' (W7 x).length ((W7 x).length+c')])∧RL w' (fun b=>w.heap.size≤b) (W7 x) a':=by
 have HR:=hid hr
 clear hr
 go_enter func134,ntmps134
 go_wp2_with (go_at_call 131;(with_reducible refine (ZpK (W7 x) x (QT x) _ A a c hx (by exact Zt6 ar HR.out)).mono ?_);rintro e w1 ⟨hb1,a1,c1,rfl,hr1⟩;have HR1:=hid hr1;clear hr1;obtain ⟨hc1,hf1⟩:=Za hb1;have hz1:=hb1.size;(try simp at hz1);have y1:w.heap.size < w1.heap.size:=om)
 refine bodyPost_ret (v:=.agg #[.bool false,.slice a1 (W7 x).length ((W7 x).length+c1)]) (by first|(simp [results,Tryz.f134,go_sem];done)|(simp [results,Tryz.f134,go_sem, *];done)) rfl ?_
 exact Zwb
theorem ZrR (x:Nat) (w:World) (hx:x < 65536):
  Calls prog 86 #[.int .i64 x] w fun e w'=>Below w.heap.size w w'∧∃a' c',e=.returned (.slice a' (W7 x).length ((W7 x).length+c'))∧RL w' (fun b=>w.heap.size≤b) (W7 x) a':=by
 have h0:(0:Int)≤(x:Int):=om
 have hw:IntKind.u64.wrap (x:Int)=(x:Int):=IntWalk.u64_in _ om
 go_enter func86,ntmps86
 go_wp2_with (go_at_call 135;(with_reducible refine (ZrN x _ hx).mono ?_);rintro e w1 ⟨hb1,a1,c1,rfl,hr1⟩;have HR1:=hid hr1;clear hr1;have hz1:=hb1.size;(try simp at hz1))
 go_ret
 exact ⟨hb1,a1,c1,rfl,HR1.out⟩
theorem ZsU (x y:Nat) (w:World) (A A2:Nat→Prop) (a b:Option Addr) (c d:Nat) (hx:x < 65536) (hy:y < 65536) (h0:0 < y) (hr:RL w A (W7 x) a) (hs:RL w A2 (W7 y) b):
  Calls prog 85 #[.agg #[.bool false,.slice a (W7 x).length ((W7 x).length+c)],.slice b (W7 y).length ((W7 y).length+d)] w (Zqu (Zpw x y) w):=by
 have HR:=hid hr
 have HS:=hid hs
 obtain ⟨g,hg⟩:∃g,g=Nat.gcd x y:=⟨_,rfl⟩
 have hg0:0 < g:=by rw [hg];exact Nat.gcd_pos_of_pos_right _ h0
 have hgy:g≤y:=by rw [hg];exact Nat.gcd_le_right _ h0
 have hn:Zpw x y=(x / g,y / g):=by rw [hg];rfl
 rw [hn]
 have HG:=hid hg
 have hly:(((W7 y).length:Int)==0)=false:=by rw [W8 h0];rfl
 have hly2:¬W7 y=[]:=by rw [W8 h0];simp
 have hxg:x / g < 65536:=Nat.lt_of_le_of_lt (Nat.div_le_self _ _) hx
 clear hr hs hg hn
 go_enter func85,ntmps85
 go_wp2_with (first
  | (go_at_call 131;(with_reducible refine (ZpK (W7 y) y (QT y) _ A2 b d hy (by exact Zt6 ar HS.out)).mono ?_);rintro e w1 ⟨hb1,a1,c1,rfl,hr1⟩;have HR1:=hid hr1;clear hr1;obtain ⟨hc1,hf1⟩:=Za hb1;have hz1:=hb1.size;(try simp at hz1);have y1:w.heap.size < w1.heap.size:=om;have z1:w.heap.size+1 < w1.heap.size:=om)
  | (go_at_call 132;(with_reducible refine (Ztb x y _ A (fun q=>w.heap.size≤q) a a1 c c1 hx hy h0 (by exact Zt6 ar HR.out) (by exact Zt7 (fun b h _=>by (try simp at h);omega) HR1.out)).mono ?_);rw [←HG.out];rintro e w2 ⟨hb2,a2,c2,rfl,hr2⟩;have HR2:=hid hr2;clear hr2;obtain ⟨hc2,hf2⟩:=Za hb2;have hz2:=hb2.size;(try simp at hz2);have y2:w.heap.size < w2.heap.size:=om;have z2:w.heap.size+1 < w2.heap.size:=om)
  | (go_at_call 133;(with_reducible refine (Zsk x g _ A (fun q=>w1.heap.size≤q) a a2 c c2 hx om hg0 (by exact Zt6 ar HR.out) (by exact HR2.out)).mono ?_);rintro e w3 ⟨hb3,a3,c3,v3,rfl,hr3⟩;have HR3:=hid hr3;clear hr3;obtain ⟨hc3,hf3⟩:=Za hb3;have hz3:=hb3.size;(try simp at hz3);have y3:w.heap.size < w3.heap.size:=om;have z3:w.heap.size+1 < w3.heap.size:=om)
  | (go_at_call 133;(with_reducible refine (Zsk y g _ (fun q=>w.heap.size≤q) (fun q=>w1.heap.size≤q) a1 a2 c1 c2 hy om hg0 (by exact Zt6 ar (Zt7 (fun b h _=>by (try simp at h);omega) HR1.out)) (by exact Zt6 ar HR2.out)).mono ?_);rintro e w4 ⟨hb4,a4,c4,v4,rfl,hr4⟩;have HR4:=hid hr4;clear hr4;obtain ⟨hc4,hf4⟩:=Za hb4;have hz4:=hb4.size;(try simp at hz4);have y4:w.heap.size < w4.heap.size:=om;have z4:w.heap.size+1 < w4.heap.size:=om)
  | (go_at_call 134;(with_reducible refine (Zs2 (x / g) _ (fun q=>w2.heap.size≤q) a3 c3 hxg (by exact Zt6 ar HR3.out)).mono ?_);rintro e w5 ⟨hb5,a5,c5,rfl,hr5⟩;have HR5:=hid hr5;clear hr5;obtain ⟨hc5,hf5⟩:=Za hb5;have hz5:=hb5.size;(try simp at hz5);have y5:w.heap.size < w5.heap.size:=om;have z5:w.heap.size+1 < w5.heap.size:=om))
 refine bodyPost_ret (v:=.tuple #[.agg #[.bool false,.slice a5 (W7 (x / g)).length ((W7 (x / g)).length+c5),.slice a4 (W7 (y / g)).length ((W7 (y / g)).length+c4)],.int .i64 0]) (by first|(simp [results,Tryz.f85,go_sem];done)|(simp [results,Tryz.f85,go_sem, *];done)) rfl ?_
 exact ZvG
theorem ZsY (x y:Nat) (w:World) (hx:x < 65536) (hy:y < 65536) (h0:0 < y):
  Calls prog 57 #[.int .i64 x,.int .i64 y] w (Zqu (Zpw x y) w):=by
 have h1:decide ((x:Int) < 0)=false:=sm
 have h2:decide ((y:Int) < 0)=false:=sm
 generalize hp:Zpw x y=p
 have HP:=hid hp
 clear hp
 go_enter func57,ntmps57
 go_wp2_with (first
  | (go_at_call 86;(with_reducible refine (ZrR x _ hx).mono ?_);rintro e w1 ⟨hb1,a1,c1,rfl,hr1⟩;have HR1:=hid hr1;clear hr1;obtain ⟨hc1,hf1⟩:=Za hb1;have hz1:=hb1.size;(try simp at hz1);have y1:w.heap.size < w1.heap.size:=om)
  | (go_at_call 86;(with_reducible refine (ZrR y _ hy).mono ?_);rintro e w2 ⟨hb2,a2,c2,rfl,hr2⟩;have HR2:=hid hr2;clear hr2;obtain ⟨hc2,hf2⟩:=Za hb2;have hz2:=hb2.size;(try simp at hz2);have y2:w.heap.size < w2.heap.size:=om)
  | (go_at_call 85;(with_reducible refine (ZsU x y _ (fun q=>w.heap.size≤q) (fun q=>w1.heap.size≤q) a1 a2 c1 c2 hx hy h0 (by exact Zt7 (fun b h _=>by (try simp at h);omega) (Zt6 ar HR1.out)) (by exact HR2.out)).mono ?_);rw [HP.out];rintro e w3 ⟨hb3,a3,b3,c3,d3,rfl,hr3,hs3⟩;have HR3:=hid hr3;have HS3:=hid hs3;clear hr3 hs3;obtain ⟨hc3,hf3⟩:=Za hb3;have hz3:=hb3.size;(try simp at hz3);have y3:w.heap.size < w3.heap.size:=om))
 refine bodyPost_ret (v:=.tuple #[.agg #[.bool false,.slice a3 (W7 p.1).length ((W7 p.1).length+c3),.slice b3 (W7 p.2).length ((W7 p.2).length+d3)],.int .i64 0]) (by first|(simp [results,Tryz.f57,go_sem];done)|(simp [results,Tryz.f57,go_sem, *];done)) rfl ?_
 exact ⟨ZtZ,a3,b3,c3,d3,rfl,Zt7 (fun b h _=>om) (Zt6 (A:=fun b=>w.heap.size+1≤b) (WN _ _ _) (Zt7 (fun b h _=>by (try simp at h);omega) HR3.out)),Zt7 (fun b h _=>om) (Zt6 (A:=fun b=>w.heap.size+1≤b) (WN _ _ _) (Zt7 (fun b h _=>by (try simp at h);omega) HS3.out))⟩
set_option maxRecDepth 512
abbrev QV (p:Nat×Nat) (a b:Option Addr) (c d:Nat):Value:=.agg #[.bool false,.slice a (W7 p.1).length c,.slice b (W7 p.2).length d]
def isQ (p q:Nat×Nat):Bool:=p.1==q.1&&p.2==q.2
theorem Zqr (p:Nat×Nat):isQ p p=true:=by simp [isQ]
theorem Zx6 {p q:Nat×Nat} (h:isQ p q=true):p=q:=by
 unfold isQ at h
 simp at h
 exact Prod.ext h.1 h.2
set_option maxRecDepth 100000
theorem ZrJ (p q:Nat×Nat) (w:World) (A A2 B B2:Nat→Prop) (a b a' b':Option Addr) (c d c' d':Nat) (ha:RL w A (W7 p.1) a) (hb:RL w A2 (W7 p.2) b) (ha':RL w B (W7 q.1) a') (hb':RL w B2 (W7 q.2) b'):
  Calls prog 22 #[QV p a b c d,QV q a' b' c' d'] w fun e w'=>e=.returned (.bool (isQ p q))∧Below w.heap.size w w':=by
 have HA:=hid ha
 have HB:=hid hb
 have HA':=hid ha'
 have HB':=hid hb'
 cases h1:p.1==q.1
 ·have h2:isQ p q=false:=by unfold isQ;rw [h1];rfl
  rw [h2]
  have H1:=hid h1
  clear ha hb ha' hb' h1 h2
  go_enter func22,ntmps22
  go_wp2_with (go_at_call 56;(with_reducible refine (Zrc p.1 q.1 _ A B a a' c c' (by exact Zt6 ar HA.out) (by exact Zt6 ar HA'.out)).mono ?_);rw [H1.out];rintro e w1 ⟨rfl,hb1⟩;have hz1:=hb1.size;(try simp at hz1))
  go_ret
  exact ⟨rfl,ZtZ⟩
 have H1:=hid h1
 have h2:isQ p q=(p.2==q.2):=by unfold isQ;rw [h1];rfl
 rw [h2]
 have H2:=hid (show ∀W A2 B2 b b' d d',RL W A2 (W7 p.2) b→RL W B2 (W7 q.2) b'→Calls prog 56 #[.slice b (W7 p.2).length d,.slice b' (W7 q.2).length d'] W fun e w'=>e=.returned (.bool (p.2==q.2))∧Below W.heap.size W w' from fun W A2 B2 b b' d d' h h'=>Zrc p.2 q.2 W A2 B2 b b' d d' h h')
 generalize (p.2==q.2)=R at *
 clear ha hb ha' hb' h1 h2
 go_enter func22,ntmps22
 go_wp2_with (first
  | (go_at_call 56;(with_reducible refine (Zrc p.1 q.1 _ A B a a' c c' (by exact Zt6 ar HA.out) (by exact Zt6 ar HA'.out)).mono ?_);rw [H1.out];rintro e w1 ⟨rfl,hb1⟩;obtain ⟨hc1,hf1⟩:=Za hb1;have hz1:=hb1.size;(try simp at hz1);have y1:w.heap.size < w1.heap.size:=om;have z1:w.heap.size+1 < w1.heap.size:=om)
  | (go_at_call 56;(with_reducible refine (H2.out _ A2 B2 b b' d d' (by exact Zt6 ar HB.out) (by exact Zt6 ar HB'.out)).mono ?_);rintro e w2 ⟨rfl,hb2⟩;have hz2:=hb2.size;(try simp at hz2)))
 go_ret
 exact ⟨rfl,ZtZ⟩
set_option maxRecDepth 512
theorem ZxZ (w:World):Calls prog 22 #[.agg #[.bool false,.slice none 0 0,.slice none 0 0],.agg #[.bool false,.slice none 0 0,.slice none 0 0]] w fun e w'=>e=.returned (.bool true)∧Below w.heap.size w w':=
 ZrJ (0,0) (0,0) w (fun _=>True) (fun _=>True) (fun _=>True) (fun _=>True) none none none none 0 0 0 0 (RL.nil _ _ _) (RL.nil _ _ _) (RL.nil _ _ _) (RL.nil _ _ _)
end Go.Proofs.YtkdffbdnjfgpeaaGreat
