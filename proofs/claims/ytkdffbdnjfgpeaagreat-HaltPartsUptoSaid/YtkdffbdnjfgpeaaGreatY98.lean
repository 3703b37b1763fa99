/- Part 99. -/
import Derived.Test.YtkdffbdnjfgpeaaGreatY51
import Derived.Test.YtkdffbdnjfgpeaaGreatY97
set_option linter.all false
namespace Go.Proofs.YtkdffbdnjfgpeaaGreat
open Go.Lib (hid)
open Go Go.RowKit Go.Proofs.Tryz
set_option maxRecDepth 100000
set_option maxHeartbeats 1000000
theorem Zyc (x n:Nat) (w:World) (hx:x < 65536) (hn:n≤12):
  Calls prog 24 #[.int .i64 x,.int .i64 n] w (ZtE (Zpw x (2 ^ n)) w):=by
 have hw:=ZqY hn
 have hp:=ZpP hn
 have hp0:0 < 2 ^ n:=Nat.pos_of_ne_zero sm
 have HO:=hid (fun W=>ZsY x (2 ^ n) W hx om hp0)
 generalize 2 ^ n=P at *
 generalize Zpw x P=p at *
 clear hp hp0
 go_enter func24,ntmps24
 go_wp2_with (go_at_call 57;refine (HO.out _).mono ?_;rintro e w1 ⟨hb1,a1,b1,c1,d1,rfl,hr1,hs1⟩;have HR1:=hid hr1;have HS1:=hid hs1;clear hr1 hs1;obtain ⟨hc1,hf1⟩:=Za hb1;have hz1:=hb1.size;(try simp at hz1);have y0:w.heap.size < w1.heap.size:=om)
 refine bodyPost_ret (v:=.agg #[.bool false,.slice a1 (W7 p.1).length ((W7 p.1).length+c1),.slice b1 (W7 p.2).length ((W7 p.2).length+d1)]) (by first|(simp [results,Tryz.f24,go_sem];done)|(simp [results,Tryz.f24,go_sem, *];done)) rfl ?_
 have hag:∀(v0 v1 v2:Value) (o:Obj),Agree (fun b=>w.heap.size+1≤b) w1 ((((w1.setCell ⟨w.heap.size,0,none⟩ v0).setCell ⟨w.heap.size,1,none⟩ v1).setCell ⟨w.heap.size,2,none⟩ v2).alloc o):=fun v0 v1 v2 o=>(WN v0 v1 v2).trans (ZtY ((Below.refl _ _).alloc (Nat.le_refl _) _))
 exact ⟨ZtZ,a1,b1,c1,d1,rfl,Zt7 (fun b h _=>om) (Zt6 (hag _ _ _ _) (Zt7 (fun b h _=>by (try simp at h);omega) HR1.out)),Zt7 (fun b h _=>om) (Zt6 (hag _ _ _ _) (Zt7 (fun b h _=>by (try simp at h);omega) HS1.out))⟩
set_option maxHeartbeats 8000000
theorem Zyi (t:GT) (n:Int) (x:GV) (mx:VA) (w:World) (A A2:Nat→Prop) (m:TA) (ox:okT t) (hs1:Zb t≤1048576) (hl:RT w A t m) (hx:okV x) (hv:RV w A2 x mx.a) (hE:Zqq t n≠0):
  Calls prog 4 #[TV t m,.int .i64 n,VV x mx] w fun e w'=>e=.returned (.bool true)∧Below w.heap.size w w':=by
 obtain ⟨ma,mb,mc,md,me,mf,mg,mh,mi,mj,mk,ml⟩:=m
 obtain ⟨xa,xc⟩:=mx
 have HL:=hid hl
 have HV:=hid hv
 have hs:Zb t≤1099511627776:=om
 have hs4:Zb t≤4194304:=om
 have HLONG:Hid (∀W,RT W A t ⟨ma,mb,mc,md,me,mf,mg,mh,mi,mj,mk,ml⟩→Calls prog 10 #[TV t ⟨ma,mb,mc,md,me,mf,mg,mh,mi,mj,mk,ml⟩,.int .i64 n] W (KY W)):=hid (fun W h=>ZrA t n W A _ ox hs4 h)
 have HL14:Hid (∀(W:World) b,At W b 0 [.int .u8 x.k,.int .i64 x.n,.slice xa x.l.length xc]→RV W A2 x xa→Calls prog 16 #[.slice (some ⟨b,0,none⟩) 1 1] W (KY W)):=hid (fun W b h1 h2=>Zfa x W A2 b ⟨xa,xc⟩ hx h1 h2)
 have HP:Hid (∀W,RT W A t ⟨ma,mb,mc,md,me,mf,mg,mh,mi,mj,mk,ml⟩→Calls prog 17 #[TV t ⟨ma,mb,mc,md,me,mf,mg,mh,mi,mj,mk,ml⟩,.int .i64 n,.agg #[.int .u8 x.k,.int .i64 x.n,.slice xa x.l.length xc]] W fun e w'=>e=.returned (.tuple #[.agg #[.bool false,.slice none 0 0,.slice none 0 0],.int .i64 (Zqq t n)])∧Below W.heap.size W w'):=hid (fun W h=>Zxg t n x ⟨xa,xc⟩ W A _ ox hs h hE)
 have HN:Hid (∀W,RT W A t ⟨ma,mb,mc,md,me,mf,mg,mh,mi,mj,mk,ml⟩→Calls prog 18 #[TV t ⟨ma,mb,mc,md,me,mf,mg,mh,mi,mj,mk,ml⟩,.int .i64 n] W fun e w'=>e=.returned (.tuple #[.agg #[.bool false,.slice none 0 0,.slice none 0 0],.int .i64 (Zqq t n)])∧Below W.heap.size W w'):=hid (fun W h=>ZxT t n W A _ ox hs h hE)
 have HS:Hid (∀W,RT W A t ⟨ma,mb,mc,md,me,mf,mg,mh,mi,mj,mk,ml⟩→Calls prog 19 #[TV t ⟨ma,mb,mc,md,me,mf,mg,mh,mi,mj,mk,ml⟩,.int .i64 n] W fun e w'=>e=.returned (.tuple #[.agg #[.bool false,.slice none 0 0,.slice none 0 0],.int .i64 (Zqq t n)])∧Below W.heap.size W w'):=hid (fun W h=>ZxW t n W A _ ox hs h hE)
 have HR:Hid (∀W,RT W A t ⟨ma,mb,mc,md,me,mf,mg,mh,mi,mj,mk,ml⟩→Calls prog 20 #[TV t ⟨ma,mb,mc,md,me,mf,mg,mh,mi,mj,mk,ml⟩,.int .i64 n] W fun e w'=>e=.returned (.tuple #[.agg #[.bool false,.slice none 0 0,.slice none 0 0],.int .i64 (Zqq t n)])∧Below W.heap.size W w'):=hid (fun W h=>Zxd t n W A _ ox hs h hE)
 have HW:Hid (∀W,RT W A t ⟨ma,mb,mc,md,me,mf,mg,mh,mi,mj,mk,ml⟩→Calls prog 21 #[TV t ⟨ma,mb,mc,md,me,mf,mg,mh,mi,mj,mk,ml⟩,.int .i64 n] W fun e w'=>e=.returned (.int .i64 (Zqq t n))∧Below W.heap.size W w'):=hid (fun W h=>ZwT t n W A _ ox hs1 h)
 generalize Zqq t n=E at *
 have hEB:(E != 0)=true:=by simpa using hE
 clear hl hv ox hx hE
 go_enter func4,ntmps4
 go_wp2_with (first
  | (go_at_call 10;(with_reducible refine (HLONG.out _ (by exact Zt2 ar _ _ HL.out)).mono ?_);rintro e v1 ⟨⟨b1,rfl⟩,hvb1⟩;obtain ⟨hvc1,hvf1⟩:=Za hvb1;have hvz1:=hvb1.size;(try simp at hvz1);have x10:w.heap.size < v1.heap.size:=om;have x11:w.heap.size+1 < v1.heap.size:=om;cases b1)
  | (go_at_call 16;(with_reducible refine (HL14.out _ v1.heap.size (by exact (At3.2 ⟨gs,gs,gs⟩)) (by exact Zt5 ar _ _ HV.out)).mono ?_);rintro e v2 ⟨⟨b2,rfl⟩,hvb2⟩;obtain ⟨hvc2,hvf2⟩:=Za hvb2;have hvz2:=hvb2.size;(try simp at hvz2);have x20:w.heap.size < v2.heap.size:=om;have x21:w.heap.size+1 < v2.heap.size:=om;cases b2)
  | (go_at_call 11;(with_reducible refine (ZrU _).mono ?_);rintro e va ⟨rfl,hva⟩;have hvza:=hva.size;(try simp at hvza))
  | (go_at_call 17;(with_reducible refine (HP.out _ (by exact Zt2 ar _ _ HL.out)).mono ?_);rintro e w1 ⟨rfl,hb1⟩;obtain ⟨hc1,hf1⟩:=Za hb1;have hz1:=hb1.size;(try simp at hz1);have y10:w.heap.size < w1.heap.size:=om;have y11:w.heap.size+1 < w1.heap.size:=om)
  | (go_at_call 18;(with_reducible refine (HN.out _ (by exact Zt2 ar _ _ HL.out)).mono ?_);rintro e w2 ⟨rfl,hb2⟩;obtain ⟨hc2,hf2⟩:=Za hb2;have hz2:=hb2.size;(try simp at hz2);have y20:w.heap.size < w2.heap.size:=om;have y21:w.heap.size+1 < w2.heap.size:=om;have y22:w1.heap.size < w2.heap.size:=om)
  | (go_at_call 19;(with_reducible refine (HS.out _ (by exact Zt2 ar _ _ HL.out)).mono ?_);rintro e w3 ⟨rfl,hb3⟩;obtain ⟨hc3,hf3⟩:=Za hb3;have hz3:=hb3.size;(try simp at hz3);have y30:w.heap.size < w3.heap.size:=om;have y31:w.heap.size+1 < w3.heap.size:=om;have y32:w1.heap.size < w3.heap.size:=om;have y33:w2.heap.size < w3.heap.size:=om)
  | (go_at_call 20;(with_reducible refine (HR.out _ (by exact Zt2 ar _ _ HL.out)).mono ?_);rintro e w4 ⟨rfl,hb4⟩;obtain ⟨hc4,hf4⟩:=Za hb4;have hz4:=hb4.size;(try simp at hz4);have y40:w.heap.size < w4.heap.size:=om;have y41:w.heap.size+1 < w4.heap.size:=om;have y42:w1.heap.size < w4.heap.size:=om;have y43:w2.heap.size < w4.heap.size:=om;have y44:w3.heap.size < w4.heap.size:=om)
  | (go_at_call 21;(with_reducible refine (HW.out _ (by exact Zt2 ar _ _ HL.out)).mono ?_);rintro e w5 ⟨rfl,hb5⟩;obtain ⟨hc5,hf5⟩:=Za hb5;have hz5:=hb5.size;(try simp at hz5);have y50:w.heap.size < w5.heap.size:=om;have y51:w.heap.size+1 < w5.heap.size:=om;have y52:w1.heap.size < w5.heap.size:=om;have y53:w2.heap.size < w5.heap.size:=om;have y54:w3.heap.size < w5.heap.size:=om;have y55:w4.heap.size < w5.heap.size:=om)
  | (go_at_call 22;(with_reducible refine (ZxZ _).mono ?_);rintro e w6 ⟨rfl,hb6⟩;obtain ⟨hc6,hf6⟩:=Za hb6;have hz6:=hb6.size;(try simp at hz6);have y60:w1.heap.size < w6.heap.size:=om;have y61:w2.heap.size < w6.heap.size:=om;have y62:w3.heap.size < w6.heap.size:=om;have y63:w4.heap.size < w6.heap.size:=om)
  | fail "no arm")
 all_goals go_ret
 all_goals exact ⟨rfl,ZtZ⟩
set_option maxHeartbeats 16000000
theorem Zyj (t:GT) (n:Nat) (x:GV) (mx:VA) (w:World) (A A2:Nat→Prop) (m:TA) (ox:okT t) (hs1:Zb t≤1048576) (hl:RT w A t m) (hx:okV x) (hv:RV w A2 x mx.a) (hn:n≤12) (hE:(Z3 t).2=0):
  Calls prog 4 #[TV t m,.int .i64 n,VV x mx] w fun e w'=>e=.returned (.bool true)∧Below w.heap.size w w':=by
 obtain ⟨ma,mb,mc,md,me,mf,mg,mh,mi,mj,mk,ml⟩:=m
 obtain ⟨xa,xc⟩:=mx
 have HL:=hid hl
 have HV:=hid hv
 have hs:Zb t≤1099511627776:=om
 have hs4:Zb t≤4194304:=om
 have HLONG:Hid (∀W,RT W A t ⟨ma,mb,mc,md,me,mf,mg,mh,mi,mj,mk,ml⟩→Calls prog 10 #[TV t ⟨ma,mb,mc,md,me,mf,mg,mh,mi,mj,mk,ml⟩,.int .i64 n] W (KY W)):=hid (fun W h=>ZrA t n W A _ ox hs4 h)
 have HL14:Hid (∀(W:World) b,At W b 0 [.int .u8 x.k,.int .i64 x.n,.slice xa x.l.length xc]→RV W A2 x xa→Calls prog 16 #[.slice (some ⟨b,0,none⟩) 1 1] W (KY W)):=hid (fun W b h1 h2=>Zfa x W A2 b ⟨xa,xc⟩ hx h1 h2)
 have hE0:Zqq t n=0:=by unfold Zqq;rw [if_neg om,hE]
 have h12:=ZpP hn
 have hM1:W9 t (Zqz fun y=>XX y x) n ⟨#[]⟩ < 65536:=by
  have h1:=Zp5 t n ⟨#[]⟩
  have h2:=Zqp t (Zqz fun y=>XX y x) (fun _ _=>1) (fun r m=>by cases r with
   | ok v k=>show (if XX v x=true then 1 else 0)≤1;split<;>omega
   | no k=>exact Nat.zero_le _) n ⟨#[]⟩
  omega
 have hM2:W9 t ZpX n ⟨#[]⟩ < 65536:=by have h1:=Zsn (t:=t) n ⟨#[]⟩;omega
 have hM3:W9 t Zp3 n ⟨#[]⟩ < 65536:=by have h1:=Zso (t:=t) n ⟨#[]⟩;omega
 have hM4:W9 t Zp2 n ⟨#[]⟩ < 65536:=by have h1:=Zq7 hE ox n ⟨#[]⟩ ZpA (by rw [show (⟨#[]⟩:ByteArray).size=0 from rfl,Nat.zero_add];exact hn);omega
 have HP:Hid (∀W,RT W A t ⟨ma,mb,mc,md,me,mf,mg,mh,mi,mj,mk,ml⟩→RV W A2 x xa→Calls prog 17 #[TV t ⟨ma,mb,mc,md,me,mf,mg,mh,mi,mj,mk,ml⟩,.int .i64 n,.agg #[.int .u8 x.k,.int .i64 x.n,.slice xa x.l.length xc]] W (Zqu (Zpw (W9 t (Zqz fun y=>XX y x) n ⟨#[]⟩) (2 ^ n)) W)):=hid (fun W h h2=>ZaM t n x ⟨xa,xc⟩ W A A2 _ ox hs h hx h2 hn hE)
 have HN:Hid (∀W,RT W A t ⟨ma,mb,mc,md,me,mf,mg,mh,mi,mj,mk,ml⟩→Calls prog 18 #[TV t ⟨ma,mb,mc,md,me,mf,mg,mh,mi,mj,mk,ml⟩,.int .i64 n] W (Zqu (Zpw (W9 t ZpX n ⟨#[]⟩) (2 ^ n)) W)):=hid (fun W h=>Zsx t n W A _ ox hs h hn hE)
 have HS:Hid (∀W,RT W A t ⟨ma,mb,mc,md,me,mf,mg,mh,mi,mj,mk,ml⟩→Calls prog 19 #[TV t ⟨ma,mb,mc,md,me,mf,mg,mh,mi,mj,mk,ml⟩,.int .i64 n] W (Zqu (Zpw (W9 t Zp3 n ⟨#[]⟩) (2 ^ n)) W)):=hid (fun W h=>ZsI t n W A _ ox hs h hn hE)
 have HR:Hid (∀W,RT W A t ⟨ma,mb,mc,md,me,mf,mg,mh,mi,mj,mk,ml⟩→Calls prog 20 #[TV t ⟨ma,mb,mc,md,me,mf,mg,mh,mi,mj,mk,ml⟩,.int .i64 n] W (Zqu (Zpw (W9 t Zp2 n ⟨#[]⟩) (2 ^ n)) W)):=hid (fun W h=>ZsE t n W A _ ox hs h hn hE)
 have HW:Hid (∀W,RT W A t ⟨ma,mb,mc,md,me,mf,mg,mh,mi,mj,mk,ml⟩→Calls prog 21 #[TV t ⟨ma,mb,mc,md,me,mf,mg,mh,mi,mj,mk,ml⟩,.int .i64 n] W fun e w'=>e=.returned (.int .i64 0)∧Below W.heap.size W w'):=hid (fun W h=>by have:=ZwT t n W A _ ox hs1 h;rw [hE0] at this;exact this)
 have HCT:Hid (∀W,RT W A t ⟨ma,mb,mc,md,me,mf,mg,mh,mi,mj,mk,ml⟩→RV W A2 x xa→Calls prog 23 #[TV t ⟨ma,mb,mc,md,me,mf,mg,mh,mi,mj,mk,ml⟩,.int .i64 n,.agg #[.int .u8 x.k,.int .i64 x.n,.slice xa x.l.length xc]] W fun e w'=>e=.returned (.agg #[.int .i64 (W9 t (Zqz fun y=>XX y x) n ⟨#[]⟩:Nat),.int .i64 (W9 t ZpX n ⟨#[]⟩:Nat),.int .i64 (W9 t Zp3 n ⟨#[]⟩:Nat),.int .i64 (W9 t Zp2 n ⟨#[]⟩:Nat)])∧Below W.heap.size W w'):=hid (fun W h h2=>Zyf t n x ⟨xa,xc⟩ W A A2 _ ox hs1 h hx h2 hn hE)
 have HO1:=hid (fun W=>Zyc (W9 t (Zqz fun y=>XX y x) n ⟨#[]⟩) n W hM1 hn)
 have HO2:=hid (fun W=>Zyc (W9 t ZpX n ⟨#[]⟩) n W hM2 hn)
 have HO3:=hid (fun W=>Zyc (W9 t Zp3 n ⟨#[]⟩) n W hM3 hn)
 have HO4:=hid (fun W=>Zyc (W9 t Zp2 n ⟨#[]⟩) n W hM4 hn)
 generalize W9 t (Zqz fun y=>XX y x) n ⟨#[]⟩=M1 at *
 generalize W9 t ZpX n ⟨#[]⟩=M2 at *
 generalize W9 t Zp3 n ⟨#[]⟩=M3 at *
 generalize W9 t Zp2 n ⟨#[]⟩=M4 at *
 generalize Zpw M1 (2 ^ n)=p1 at *
 generalize Zpw M2 (2 ^ n)=p2 at *
 generalize Zpw M3 (2 ^ n)=p3 at *
 generalize Zpw M4 (2 ^ n)=p4 at *
 clear hl hv ox hx hE hE0 h12 hM1 hM2 hM3 hM4
 go_enter func4,ntmps4
 go_upto_region 13 with (first
  | (go_at_call 10;(with_reducible refine (HLONG.out _ (by exact Zt2 ar _ _ HL.out)).mono ?_);rintro e v1 ⟨⟨b1,rfl⟩,hvb1⟩;obtain ⟨hvc1,hvf1⟩:=Za hvb1;have hvz1:=hvb1.size;(try simp at hvz1);have x10:w.heap.size < v1.heap.size:=om;have x11:w.heap.size+1 < v1.heap.size:=om;cases b1)
  | (go_at_call 16;(with_reducible refine (HL14.out _ v1.heap.size (by exact (At3.2 ⟨gs,gs,gs⟩)) (by exact Zt5 ar _ _ HV.out)).mono ?_);rintro e v2 ⟨⟨b2,rfl⟩,hvb2⟩;obtain ⟨hvc2,hvf2⟩:=Za hvb2;have hvz2:=hvb2.size;(try simp at hvz2);have x20:w.heap.size < v2.heap.size:=om;have x21:w.heap.size+1 < v2.heap.size:=om;cases b2)
  | (go_at_call 11;(with_reducible refine (ZrU _).mono ?_);rintro e va ⟨rfl,hva⟩;have hvza:=hva.size;(try simp at hvza))
  | (go_at_call 17;(with_reducible refine (HP.out _ (by exact Zt2 ar _ _ HL.out) (by exact Zt5 ar _ _ HV.out)).mono ?_);rintro e w1 ⟨hb1,a1,b1,c1,d1,rfl,hr1,hs1⟩;have HR1:=hid hr1;have HS1:=hid hs1;clear hr1 hs1;obtain ⟨hc1,hf1⟩:=Za hb1;have hz1:=hb1.size;(try simp at hz1);have y10:w.heap.size < w1.heap.size:=om;have y11:w.heap.size+1 < w1.heap.size:=om)
  | (go_at_call 18;(with_reducible refine (HN.out _ (by exact Zt2 ar _ _ HL.out)).mono ?_);rintro e w2 ⟨hb2,a2,b2,c2,d2,rfl,hr2,hs2⟩;have HR2:=hid hr2;have HS2:=hid hs2;clear hr2 hs2;obtain ⟨hc2,hf2⟩:=Za hb2;have hz2:=hb2.size;(try simp at hz2);have y20:w.heap.size < w2.heap.size:=om;have y21:w.heap.size+1 < w2.heap.size:=om;have y22:w1.heap.size < w2.heap.size:=om)
  | (go_at_call 19;(with_reducible refine (HS.out _ (by exact Zt2 ar _ _ HL.out)).mono ?_);rintro e w3 ⟨hb3,a3,b3,c3,d3,rfl,hr3,hs3⟩;have HR3:=hid hr3;have HS3:=hid hs3;clear hr3 hs3;obtain ⟨hc3,hf3⟩:=Za hb3;have hz3:=hb3.size;(try simp at hz3);have y30:w.heap.size < w3.heap.size:=om;have y31:w.heap.size+1 < w3.heap.size:=om;have y32:w1.heap.size < w3.heap.size:=om;have y33:w2.heap.size < w3.heap.size:=om)
  | (go_at_call 20;(with_reducible refine (HR.out _ (by exact Zt2 ar _ _ HL.out)).mono ?_);rintro e w4 ⟨hb4,a4,b4,c4,d4,rfl,hr4,hs4⟩;have HR4:=hid hr4;have HS4:=hid hs4;clear hr4 hs4;obtain ⟨hc4,hf4⟩:=Za hb4;have hz4:=hb4.size;(try simp at hz4);have y40:w.heap.size < w4.heap.size:=om;have y41:w.heap.size+1 < w4.heap.size:=om;have y42:w1.heap.size < w4.heap.size:=om;have y43:w2.heap.size < w4.heap.size:=om;have y44:w3.heap.size < w4.heap.size:=om)
  | (go_at_call 21;(with_reducible refine (HW.out _ (by exact Zt2 ar _ _ HL.out)).mono ?_);rintro e w5 ⟨rfl,hb5⟩;obtain ⟨hc5,hf5⟩:=Za hb5;have hz5:=hb5.size;(try simp at hz5);have y50:w.heap.size < w5.heap.size:=om;have y51:w.heap.size+1 < w5.heap.size:=om;have y52:w1.heap.size < w5.heap.size:=om;have y53:w2.heap.size < w5.heap.size:=om;have y54:w3.heap.size < w5.heap.size:=om;have y55:w4.heap.size < w5.heap.size:=om)
  | (go_at_call 23;(with_reducible refine (HCT.out _ (by exact Zt2 ar _ _ HL.out) (by exact Zt5 ar _ _ HV.out)).mono ?_);rintro e w6 ⟨rfl,hb6⟩;obtain ⟨hc6,hf6⟩:=Za hb6;have hz6:=hb6.size;(try simp at hz6);have y60:w.heap.size < w6.heap.size:=om;have y61:w.heap.size+1 < w6.heap.size:=om;have y62:w1.heap.size < w6.heap.size:=om;have y63:w2.heap.size < w6.heap.size:=om;have y64:w3.heap.size < w6.heap.size:=om;have y65:w4.heap.size < w6.heap.size:=om)
  | fail "no arm")
 rotate_right
 ·go_ret
  exact ⟨rfl,ZtZ⟩
 rotate_right
 ·go_ret
  exact ⟨rfl,ZtZ⟩
 as_aux_lemma=>
  refine ZT (fun W=>Below w.heap.size w W∧w6.heap.size < W.heap.size∧W.cell? ⟨w6.heap.size,0,none⟩=some (.int .i64 M1)∧W.cell? ⟨w6.heap.size,1,none⟩=some (.int .i64 M2)∧W.cell? ⟨w6.heap.size,2,none⟩=some (.int .i64 M3)∧W.cell? ⟨w6.heap.size,3,none⟩=some (.int .i64 M4)∧W.cell? ⟨w1.heap.size,0,none⟩=some (.bool false)∧W.cell? ⟨w1.heap.size,1,none⟩=some (.slice a1 (W7 p1.1).length ((W7 p1.1).length+c1))∧W.cell? ⟨w1.heap.size,2,none⟩=some (.slice b1 (W7 p1.2).length ((W7 p1.2).length+d1))∧W.cell? ⟨w2.heap.size,0,none⟩=some (.bool false)∧W.cell? ⟨w2.heap.size,1,none⟩=some (.slice a2 (W7 p2.1).length ((W7 p2.1).length+c2))∧W.cell? ⟨w2.heap.size,2,none⟩=some (.slice b2 (W7 p2.2).length ((W7 p2.2).length+d2))∧W.cell? ⟨w3.heap.size,0,none⟩=some (.bool false)∧W.cell? ⟨w3.heap.size,1,none⟩=some (.slice a3 (W7 p3.1).length ((W7 p3.1).length+c3))∧W.cell? ⟨w3.heap.size,2,none⟩=some (.slice b3 (W7 p3.2).length ((W7 p3.2).length+d3))∧W.cell? ⟨w4.heap.size,0,none⟩=some (.bool false)∧W.cell? ⟨w4.heap.size,1,none⟩=some (.slice a4 (W7 p4.1).length ((W7 p4.1).length+c4))∧W.cell? ⟨w4.heap.size,2,none⟩=some (.slice b4 (W7 p4.2).length ((W7 p4.2).length+d4))∧Hid (RL W (fun _=>True) (W7 p1.1) a1)∧Hid (RL W (fun _=>True) (W7 p1.2) b1)∧Hid (RL W (fun _=>True) (W7 p2.1) a2)∧Hid (RL W (fun _=>True) (W7 p2.2) b2)∧Hid (RL W (fun _=>True) (W7 p3.1) a3)∧Hid (RL W (fun _=>True) (W7 p3.2) b3)∧Hid (RL W (fun _=>True) (W7 p4.1) a4)∧Hid (RL W (fun _=>True) (W7 p4.2) b4)) ⟨ZtZ,sm,gs,gs,gs,gs,gs,gs,gs,gs,gs,gs,gs,gs,gs,gs,gs,gs,hid (Zt7 (fun _ _ _=>trivial) (Zt6 (A:=fun b=>w.heap.size≤b) ar (Zt7 (fun b h _=>by (try simp at h);omega) HR1.out))),hid (Zt7 (fun _ _ _=>trivial) (Zt6 (A:=fun b=>w.heap.size≤b) ar (Zt7 (fun b h _=>by (try simp at h);omega) HS1.out))),hid (Zt7 (fun _ _ _=>trivial) (Zt6 (A:=fun b=>w.heap.size≤b) ar (Zt7 (fun b h _=>by (try simp at h);omega) HR2.out))),hid (Zt7 (fun _ _ _=>trivial) (Zt6 (A:=fun b=>w.heap.size≤b) ar (Zt7 (fun b h _=>by (try simp at h);omega) HS2.out))),hid (Zt7 (fun _ _ _=>trivial) (Zt6 (A:=fun b=>w.heap.size≤b) ar (Zt7 (fun b h _=>by (try simp at h);omega) HR3.out))),hid (Zt7 (fun _ _ _=>trivial) (Zt6 (A:=fun b=>w.heap.size≤b) ar (Zt7 (fun b h _=>by (try simp at h);omega) HS3.out))),hid (Zt7 (fun _ _ _=>trivial) (Zt6 (A:=fun b=>w.heap.size≤b) ar (Zt7 (fun b h _=>by (try simp at h);omega) HR4.out))),hid (Zt7 (fun _ _ _=>trivial) (Zt6 (A:=fun b=>w.heap.size≤b) ar (Zt7 (fun b h _=>by (try simp at h);omega) HS4.out)))⟩ ?_
  rintro wa ⟨hba,hza,k0,k1,k2,k3,q10,q11,q12,q20,q21,q22,q30,q31,q32,q40,q41,q42,HA1,HB1,HA2,HB2,HA3,HB3,HA4,HB4⟩
  have zz:w1.heap.size < wa.heap.size∧w2.heap.size < wa.heap.size∧w3.heap.size < wa.heap.size∧w4.heap.size < wa.heap.size:=om
  obtain ⟨z1,z2,z3,z4⟩:=zz
  have hzw:=hba.size
  as_aux_lemma=>
   clear hvb1 hvc1 hvf1 hvz1 x10 x11 hvb2 hvc2 hvf2 hvz2 x20 x21 hb1 hb2 hb3 hb4 hb5 hb6 hc1 hc2 hc3 hc4 hc5 hc6 hf1 hf2 hf3 hf4 hf5 hf6 HP HN HS HR HW HCT HL HV HLONG HL14 HR1 HR2 HR3 HR4 HS1 HS2 HS3 HS4 hz1 hz2 hz3 hz4 hz5 hz6 y10 y11 y20 y21 y22 y30 y31 y32 y33 y40 y41 y42 y43 y44 y50 y51 y52 y53 y54 y55 y60 y61 y62 y63 y64 y65
   go_region_held3 (fun W=>∀c k,c < wa.heap.size→W.cell? ⟨c,k,none⟩=wa.cell? ⟨c,k,none⟩) ((intro c k hc;refine Below.cell (B:=wa.heap.size) (w:=wa) (p:=⟨c,k,none⟩) ?_ hc;(exact ZtZ))) ((first|(go_at_call 24;(with_reducible refine (HO1.out _).mono ?_);rintro e w9 ⟨hb9,a9,b9,c9,d9,rfl,hr9,hs9⟩;have HR9:=hid (Zt7 (A':=fun _=>True) (fun _ _ _=>trivial) hr9);have HS9:=hid (Zt7 (A':=fun _=>True) (fun _ _ _=>trivial) hs9);clear hr9 hs9;have hz9:=hb9.size;(try simp at hz9))|(go_at_call 24;(with_reducible refine (HO2.out _).mono ?_);rintro e w9 ⟨hb9,a9,b9,c9,d9,rfl,hr9,hs9⟩;have HR9:=hid (Zt7 (A':=fun _=>True) (fun _ _ _=>trivial) hr9);have HS9:=hid (Zt7 (A':=fun _=>True) (fun _ _ _=>trivial) hs9);clear hr9 hs9;have hz9:=hb9.size;(try simp at hz9))|(go_at_call 24;(with_reducible refine (HO3.out _).mono ?_);rintro e w9 ⟨hb9,a9,b9,c9,d9,rfl,hr9,hs9⟩;have HR9:=hid (Zt7 (A':=fun _=>True) (fun _ _ _=>trivial) hr9);have HS9:=hid (Zt7 (A':=fun _=>True) (fun _ _ _=>trivial) hs9);clear hr9 hs9;have hz9:=hb9.size;(try simp at hz9))|(go_at_call 24;(with_reducible refine (HO4.out _).mono ?_);rintro e w9 ⟨hb9,a9,b9,c9,d9,rfl,hr9,hs9⟩;have HR9:=hid (Zt7 (A':=fun _=>True) (fun _ _ _=>trivial) hr9);have HS9:=hid (Zt7 (A':=fun _=>True) (fun _ _ _=>trivial) hs9);clear hr9 hs9;have hz9:=hb9.size;(try simp at hz9))|(go_at_call 22;(with_reducible refine (ZrJ p1 p1 _ (fun _=>True) (fun _=>True) (fun _=>True) (fun _=>True) a1 b1 a9 b9 _ _ _ _ (by exact Zt6 ar HA1.out) (by exact Zt6 ar HB1.out) (by exact Zt6 ar HR9.out) (by exact Zt6 ar HS9.out)).mono ?_);rw [Zqr];rintro e w8 ⟨rfl,hb8⟩;have hz8:=hb8.size;(try simp at hz8))|(go_at_call 22;(with_reducible refine (ZrJ p2 p2 _ (fun _=>True) (fun _=>True) (fun _=>True) (fun _=>True) a2 b2 a9 b9 _ _ _ _ (by exact Zt6 ar HA2.out) (by exact Zt6 ar HB2.out) (by exact Zt6 ar HR9.out) (by exact Zt6 ar HS9.out)).mono ?_);rw [Zqr];rintro e w8 ⟨rfl,hb8⟩;have hz8:=hb8.size;(try simp at hz8))|(go_at_call 22;(with_reducible refine (ZrJ p3 p3 _ (fun _=>True) (fun _=>True) (fun _=>True) (fun _=>True) a3 b3 a9 b9 _ _ _ _ (by exact Zt6 ar HA3.out) (by exact Zt6 ar HB3.out) (by exact Zt6 ar HR9.out) (by exact Zt6 ar HS9.out)).mono ?_);rw [Zqr];rintro e w8 ⟨rfl,hb8⟩;have hz8:=hb8.size;(try simp at hz8))|(go_at_call 22;(with_reducible refine (ZrJ p4 p4 _ (fun _=>True) (fun _=>True) (fun _=>True) (fun _=>True) a4 b4 a9 b9 _ _ _ _ (by exact Zt6 ar HA4.out) (by exact Zt6 ar HB4.out) (by exact Zt6 ar HR9.out) (by exact Zt6 ar HS9.out)).mono ?_);rw [Zqr];rintro e w8 ⟨rfl,hb8⟩;have hz8:=hb8.size;(try simp at hz8))|(go_at_call 11;(with_reducible refine (ZrU _).mono ?_);rintro e w7 ⟨rfl,hb7⟩;have hz7:=hb7.size;(try simp at hz7))|fail "no arm"))
   go_wp2_with fail
   go_ret
   exact ⟨rfl,ZtZ⟩
set_option maxRecDepth 512
theorem Zyh (w:World) (t:GT) (A:Nat→Prop) (m:TA) (ox:okT t) (hs:Zb t≤1048576) (hl:RT w A t m) (n:Int) (x:GV) (A2:Nat→Prop) (mx:VA) (hx:okV x) (hsx:Zg x≤1048576) (hv:RV w A2 x mx.a):
  Calls prog 4 #[TV t m,.int .i64 n,VV x mx] w fun e w'=>e=.returned (.bool true)∧Below w.heap.size w w':=by
 by_cases hE:Zqq t n=0
 ·have h:(0≤n∧n≤12)∧(Z3 t).2=0:=by
   unfold Zqq at hE
   split at hE
   ·omega
   exact ⟨om,hE⟩
  obtain ⟨N,rfl⟩:∃N:Nat,n=N:=⟨n.toNat,om⟩
  exact Zyj t N x mx w A A2 m ox hs hl hx hv om h.2
 exact Zyi t n x mx w A A2 m ox hs hl hx hv hE
end Go.Proofs.YtkdffbdnjfgpeaaGreat
