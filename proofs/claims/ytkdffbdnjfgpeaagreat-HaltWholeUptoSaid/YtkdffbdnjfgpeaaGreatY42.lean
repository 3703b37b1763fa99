/- Part 43. -/
import Derived.Test.YtkdffbdnjfgpeaaGreatY37
import Derived.Test.YtkdffbdnjfgpeaaGreatY41
set_option linter.all false
namespace Go.Proofs.YtkdffbdnjfgpeaaGreat
open Go.Lib (hid)
open Go Go.RowKit Go.Proofs.Tryz
def Zqq (t:GT) (n:Int):Int:=if n < 0∨12 < n then 1 else (Z3 t).2
theorem ZlS {p:Prop} (h:p:=by
 go_enter func49,ntmps49
 go_wp2_with fail
 refine bodyPost_ret (v:=.tuple #[.agg #[.slice none 0 0,.int .i64 0,.int .i64 0,.int .i64 0],.int .i64 1]) (by first|(simp [results,Tryz.f49,go_sem];done)|(simp [results,Tryz.f49,go_sem, *];done)) rfl ?_
 exact ⟨rfl,ZtZ⟩):p:=h
set_option maxRecDepth 100000
set_option maxHeartbeats 2000000
theorem ZrX (t:GT) (n:Int) (w:World) (A:Nat→Prop) (m:TA) (ox:okT t) (hs:Zb t≤1099511627776) (hl:RT w A t m) (hE:Zqq t n≠0):
  Calls prog 49 #[TV t m,.int .i64 n] w fun e w'=>e=.returned (.tuple #[.agg #[.slice none 0 0,.int .i64 0,.int .i64 0,.int .i64 0],.int .i64 (Zqq t n)])∧Below w.heap.size w w':=by
 have HL:=hid hl
 have OX:=hid ox
 obtain ⟨ma,mb,mc,md,me,mf,mg,mh,mi,mj,mk,ml⟩:=m
 unfold Zqq at hE ⊢
 by_cases h:n < 0∨12 < n
 ·rw [if_pos h]
  clear hl ox hE
  rcases h with h|h
  ·exact ZlS
  have h0:¬n < 0:=om
  exact ZlS
 rw [if_neg h] at hE ⊢
 have h0:¬n < 0:=om
 have h1:¬12 < n:=om
 have HCK:Hid (∀W,RT W A t ⟨ma,mb,mc,md,me,mf,mg,mh,mi,mj,mk,ml⟩→Calls prog 59 #[TV t ⟨ma,mb,mc,md,me,mf,mg,mh,mi,mj,mk,ml⟩] W fun e w'=>e=.returned (.tuple #[.int .i64 (Z3 t).1,.int .i64 (Z3 t).2])∧Below W.heap.size W w'):=hid (fun W h=>Ub t W A ⟨ma,mb,mc,md,me,mf,mg,mh,mi,mj,mk,ml⟩ ox hs h)
 generalize (Z3 t).2=E at *
 have hEB:(E != 0)=true:=by simpa using hE
 clear hl ox hE h
 go_enter func49,ntmps49
 go_wp2_with (go_at_call 59;refine (HCK.out _ (by exact Zt2 ar _ _ HL.out)).mono ?_;rintro e w1 ⟨rfl,hb1⟩;obtain ⟨hc1,hf1⟩:=Za hb1;have hz1:=hb1.size;(try simp at hz1);have y1:w.heap.size+1 < w1.heap.size:=om)
 refine bodyPost_ret (v:=.tuple #[.agg #[.slice none 0 0,.int .i64 0,.int .i64 0,.int .i64 0],.int .i64 E]) (by first|(simp [results,Tryz.f49,go_sem];done)|(simp [results,Tryz.f49,go_sem, *];done)) rfl ?_
 exact ⟨rfl,ZtZ⟩
set_option maxRecDepth 512
theorem ZsS (w:World) (t:GT) (m:TA) (n:Nat) (T:TypeId):HkW (w.alloc (.cells #[.slice none 0 0,.int .i64 0,.int .i64 0,.int .i64 0,.int .u8 t.k,.int .u8 t.v.k,.int .i64 t.v.n,.slice m.va t.v.l.length m.vc,.slice m.vsa t.vs.length m.vsc,.int .i64 t.lo,.int .i64 t.hi,.slice m.wa t.w.length m.wc,.int .u8 t.p.k,.int .u8 t.p.v.k,.int .i64 t.p.v.n,.slice m.pva t.p.v.l.length m.pvc,.int .i64 t.p.n,.slice m.pa t.p.a.length m.pc,.slice m.a t.a.length m.c,.int .i64 n] T)) w.heap.size t m n (.slice none 0 0) [] 0 0 0:=
 ⟨⟨gs,gs,gs,gs,gs,fun k=>gs⟩,⟨World.ownsRow_nil _ _ _ _,fun q hq=>by simp at hq⟩,Zre.2 ⟨gs,gs,gs,gs,gs,gs,gs,gs,gs,gs,gs,gs,gs,gs,gs⟩,sm⟩
theorem ZrB {w:World} {base e sz n:Nat} {v:Value} {xs:List Value} (h:w.ownsRow base e sz v n xs):∃a c,v=.slice a n c:=by
 rcases h.2 with ⟨rfl,rfl⟩|⟨g,cap,cur,rfl,_⟩
 ·exact ⟨none,0,rfl⟩
 exact ⟨_,_,rfl⟩
theorem ZsA {w:World} {base base' e sz n:Nat} {v:Value} {xs:List Value} (h:w.ownsRow base e sz v n xs) (hb:base'≤base):w.ownsRow base' e sz v n xs:=
 ⟨h.1,h.2.imp id fun ⟨g,cap,cur,e,hb',r⟩=>⟨g,cap,cur,e,om,r⟩⟩
def Zqt (t:GT) (n:Nat) (w:World) (e:Ending) (w':World):Prop:=
 Below w.heap.size w w'∧∃a c ps,e=.returned (.tuple #[.agg #[.slice a ps.length c,.int .i64 (W9 t ZpX n ⟨#[]⟩:Nat),.int .i64 (W9 t Zp3 n ⟨#[]⟩:Nat),.int .i64 (W9 t Zp2 n ⟨#[]⟩:Nat)],.int .i64 0])∧ps.map Prod.fst=hL t n ⟨#[]⟩ ∧
  w'.ownsRow w.heap.size 71 4 (.slice a ps.length c) ps.length (W0 ps)∧∀q∈ps,RV w' (Own w.heap.size (fun _=>False) (.slice a ps.length c)) q.1.2 q.2.a
set_option maxRecDepth 100000
set_option maxHeartbeats 4000000
theorem Zp4 (t:GT) (n:Nat) (w:World) (A:Nat→Prop) (m:TA) (ox:okT t) (hs:Zb t≤1099511627776) (hl:RT w A t m) (hn:n≤12) (hE:(Z3 t).2=0):
  Calls prog 49 #[TV t m,.int .i64 n] w (Zqt t n w):=by
 obtain ⟨ma,mb,mc,md,me,mf,mg,mh,mi,mj,mk,ml⟩:=m
 have HL:=hid (Zud (A':=fun b=>b < w.heap.size) (fun b _ h=>h) _ _ hl)
 have OX:=hid ox
 have h0:¬((n:Int) < 0):=om
 have h1:¬((12:Int) < (n:Int)):=om
 have HCK:Hid (∀W,RT W (fun b=>b < w.heap.size) t ⟨ma,mb,mc,md,me,mf,mg,mh,mi,mj,mk,ml⟩→Calls prog 59 #[TV t ⟨ma,mb,mc,md,me,mf,mg,mh,mi,mj,mk,ml⟩] W fun e w'=>e=.returned (.tuple #[.int .i64 (Z3 t).1,.int .i64 0])∧Below W.heap.size W w'):=hid (fun W h=>by have:=Ub t W _ ⟨ma,mb,mc,md,me,mf,mg,mh,mi,mj,mk,ml⟩ ox hs h;rw [hE] at this;exact this)
 have HE:=hid hE
 clear hl ox hE
 go_enter func49,ntmps49
 have hp9:=ZpP hn
 go_wp2_with (first
  | (go_at_call 59;(with_reducible refine (HCK.out _ (by exact Zt2 ar _ _ HL.out)).mono ?_);rintro e w1 ⟨rfl,hb1⟩;obtain ⟨hc1,hf1⟩:=Za hb1;have hz1:=hb1.size;(try simp at hz1);have y0:w.heap.size < w1.heap.size:=om;have y1:w.heap.size+1 < w1.heap.size:=om;have HTT:Hid (RT w1 (fun b=>b < w1.heap.size) t ⟨ma,mb,mc,md,me,mf,mg,mh,mi,mj,mk,ml⟩):=hid (Zud (fun b h _=>om) _ _ (Zt2 ar _ _ HL.out)))
  | (go_at_call 79;refine (Zsl HE.out OX.out hs ⟨ma,mb,mc,md,me,mf,mg,mh,mi,mj,mk,ml⟩ n w1.heap.size hn n ⟨#[]⟩ _ (.slice none 0 0) [] 0 0 0 (Nat.zero_add n) ZpA (ZpR HE.out OX.out) (ZsS w1 t ⟨ma,mb,mc,md,me,mf,mg,mh,mi,mj,mk,ml⟩ n _) (Zt2 ar _ _ HTT.out) om om om (by simp;omega)).mono ?_;rintro e w3 ⟨rfl,hb3,v3,ps3,hW3,hl3⟩;have HW3:=hid hW3;have HL3:=hid hl3;clear hW3 hl3;obtain ⟨a3,c3,rfl⟩:=ZrB HW3.out.2.1.1;obtain ⟨⟨k0,k1,k2,k3, -, -⟩, -, -,hBz⟩:=HW3.out;simp only [Nat.zero_add] at k1 k2 k3;have n0:=(hb3.cell (p:=⟨w.heap.size+1,0,none⟩) y1).trans (show _=some (.slice none 0 0) from gs);have n1:=(hb3.cell (p:=⟨w.heap.size+1,1,none⟩) y1).trans (show _=some (.int .i64 0) from gs);have n2:=(hb3.cell (p:=⟨w.heap.size+1,2,none⟩) y1).trans (show _=some (.int .i64 0) from gs);have n3:=(hb3.cell (p:=⟨w.heap.size+1,3,none⟩) y1).trans (show _=some (.int .i64 0) from gs);have nf:∀k,w3.frozen? ⟨w.heap.size+1,k,none⟩=false:=fun k=>(hb3.frozen (p:=⟨w.heap.size+1,k,none⟩) y1).trans gs))
 refine bodyPost_ret (v:=.tuple #[.agg #[.slice a3 ps3.length c3,.int .i64 (W9 t ZpX n ⟨#[]⟩:Nat),.int .i64 (W9 t Zp3 n ⟨#[]⟩:Nat),.int .i64 (W9 t Zp2 n ⟨#[]⟩:Nat)],.int .i64 0]) (by first|(simp [results,Tryz.f49,go_sem];done)|(simp [results,Tryz.f49,go_sem, *];done)) rfl ?_
 have hbw:Below w.heap.size w w3:=ZtZ
 have hset:∀v0 v1 v2 v3,Agree (fun b=>w.heap.size+1+1≤b) w3 ((((w3.setCell ⟨w.heap.size+1,0,none⟩ v0).setCell ⟨w.heap.size+1,1,none⟩ v1).setCell ⟨w.heap.size+1,2,none⟩ v2).setCell ⟨w.heap.size+1,3,none⟩ v3):=fun v0 v1 v2 v3=>(WN v0 v1 v2).trans (Zt4 (p:=⟨w.heap.size+1,3,none⟩) (fun h=>absurd h (Nat.not_succ_le_self _)))
 refine ⟨ZtZ,a3,c3,ps3,rfl,HL3.out,?_,?_⟩
 ·exact ZsA (ZpH (ZpH (ZpH (ZpH HW3.out.2.1.1 _ _ (by simp;omega)) _ _ (by simp;omega)) _ _ (by simp;omega)) _ _ (by simp;omega)) om
 intro q hq
 refine Zt9 (A:=Own (w1.heap.size+1) (fun _=>False) (.slice a3 ps3.length c3)) ?_ _ _ (Zt5 (fun p u hp hc=>hset _ _ _ _ p u ?_ hc) _ _ (HW3.out.2.1.2 q hq))
 ·rintro b (⟨h, -⟩|⟨h,h'⟩) _
  ·exact absurd h id
  exact .inr ⟨om,h'⟩
 rcases hp with ⟨h, -⟩|⟨h, -⟩
 ·exact absurd h id
 omega
theorem Zp9 (x n:Nat) (w:World) (hx:x≤1000000) (hn:n≤12):
  Calls prog 54 #[.int .i64 x,.int .i64 n] w (Zqu (Zpw x (2 ^ n)) w):=by
 have hw:=ZqY hn
 have hp:=ZpP hn
 have hp0:0 < 2 ^ n:=Nat.pos_of_ne_zero sm
 have HRO:=hid (fun W=>Zr6 x (2 ^ n) W om om hp0)
 generalize 2 ^ n=P at *
 generalize Zpw x P=p at *
 clear hp hp0
 go_enter func54,ntmps54
 go_wp2_with (go_at_call 82;refine (HRO.out _).mono ?_;rintro e w1 ⟨hb1,a1,b1,c1,d1,rfl,hr1,hs1⟩;have HR1:=hid hr1;have HS1:=hid hs1;clear hr1 hs1;obtain ⟨hc1,hf1⟩:=Za hb1;have hz1:=hb1.size;(try simp at hz1);have y1:w.heap.size < w1.heap.size:=om)
 refine bodyPost_ret (v:=.tuple #[.agg #[.bool false,.slice a1 (W7 p.1).length ((W7 p.1).length+c1),.slice b1 (W7 p.2).length ((W7 p.2).length+d1)],.int .i64 0]) (by first|(simp [results,Tryz.f54,go_sem];done)|(simp [results,Tryz.f54,go_sem, *];done)) rfl ?_
 exact ⟨ZtZ,a1,b1,c1,d1,rfl,Zt7 (fun b h _=>om) (Zt6 (A:=fun b=>w.heap.size+1≤b) (WN _ _ _) (Zt7 (fun b h _=>by (try simp at h);omega) HR1.out)),Zt7 (fun b h _=>om) (Zt6 (A:=fun b=>w.heap.size+1≤b) (WN _ _ _) (Zt7 (fun b h _=>by (try simp at h);omega) HS1.out))⟩
theorem ZxT (t:GT) (n:Int) (w:World) (A:Nat→Prop) (m:TA) (ox:okT t) (hs:Zb t≤1099511627776) (hl:RT w A t m) (hE:Zqq t n≠0):
  Calls prog 18 #[TV t m,.int .i64 n] w fun e w'=>e=.returned (.tuple #[.agg #[.bool false,.slice none 0 0,.slice none 0 0],.int .i64 (Zqq t n)])∧Below w.heap.size w w':=by
 obtain ⟨ma,mb,mc,md,me,mf,mg,mh,mi,mj,mk,ml⟩:=m
 have HL:=hid hl
 have HC:Hid (∀W,RT W A t ⟨ma,mb,mc,md,me,mf,mg,mh,mi,mj,mk,ml⟩→Calls prog 49 #[TV t ⟨ma,mb,mc,md,me,mf,mg,mh,mi,mj,mk,ml⟩,.int .i64 n] W fun e w'=>e=.returned (.tuple #[.agg #[.slice none 0 0,.int .i64 0,.int .i64 0,.int .i64 0],.int .i64 (Zqq t n)])∧Below W.heap.size W w'):=hid (fun W h=>ZrX t n W A _ ox hs h hE)
 generalize Zqq t n=E at *
 have hEB:(E != 0)=true:=by simpa using hE
 clear hl ox hE
 go_enter func18,ntmps18
 go_wp2_with (go_at_call 49;refine (HC.out _ (by exact Zt2 ar _ _ HL.out)).mono ?_;rintro e w1 ⟨rfl,hb1⟩;obtain ⟨hc1,hf1⟩:=Za hb1;have hz1:=hb1.size;(try simp at hz1);have y0:w.heap.size < w1.heap.size:=om;have y1:w.heap.size+1 < w1.heap.size:=om)
 refine bodyPost_ret (v:=.tuple #[.agg #[.bool false,.slice none 0 0,.slice none 0 0],.int .i64 E]) (by first|(simp [results,Tryz.f18,go_sem];done)|(simp [results,Tryz.f18,go_sem, *];done)) rfl ?_
 exact ⟨rfl,ZtZ⟩
set_option maxRecDepth 512
theorem ZmB {p:Prop} (h:p:=by exact ⟨ZtZ,a2,b2,c2,d2,rfl,Zt7 (fun b h _=>om) (Zt6 (A:=fun b=>w.heap.size+1+1≤b) (WN _ _ _) (Zt7 (fun b h _=>by (try simp at h);omega) HR2.out)),Zt7 (fun b h _=>om) (Zt6 (A:=fun b=>w.heap.size+1+1≤b) (WN _ _ _) (Zt7 (fun b h _=>by (try simp at h);omega) HS2.out))⟩):p:=h
set_option maxRecDepth 100000
theorem Zsx (t:GT) (n:Nat) (w:World) (A:Nat→Prop) (m:TA) (ox:okT t) (hs:Zb t≤1099511627776) (hl:RT w A t m) (hn:n≤12) (hE:(Z3 t).2=0):
  Calls prog 18 #[TV t m,.int .i64 n] w (Zqu (Zpw (W9 t ZpX n ⟨#[]⟩) (2 ^ n)) w):=by
 obtain ⟨ma,mb,mc,md,me,mf,mg,mh,mi,mj,mk,ml⟩:=m
 have HL:=hid hl
 have HC:Hid (∀W,RT W A t ⟨ma,mb,mc,md,me,mf,mg,mh,mi,mj,mk,ml⟩→Calls prog 49 #[TV t ⟨ma,mb,mc,md,me,mf,mg,mh,mi,mj,mk,ml⟩,.int .i64 n] W (Zqt t n W)):=hid (fun W h=>Zp4 t n W A _ ox hs h hn hE)
 have HOV:=hid (fun W=>Zp9 (W9 t ZpX n ⟨#[]⟩) n W (by have h1:=Zsn (t:=t) n ⟨#[]⟩;have h2:=ZpP hn;omega) hn)
 generalize Zpw (W9 t ZpX n ⟨#[]⟩) (2 ^ n)=p at *
 clear hl ox hE
 go_enter func18,ntmps18
 go_wp2_with (first
  | (go_at_call 49;(with_reducible refine (HC.out _ (by exact Zt2 ar _ _ HL.out)).mono ?_);rintro e w1 ⟨hb1,a1,c1,ps,rfl, -⟩;obtain ⟨hc1,hf1⟩:=Za hb1;have hz1:=hb1.size;(try simp at hz1);have y0:w.heap.size < w1.heap.size:=om;have y1:w.heap.size+1 < w1.heap.size:=om)
  | (go_at_call 54;(with_reducible refine (HOV.out _).mono ?_);rintro e w2 ⟨hb2,a2,b2,c2,d2,rfl,hr2,hs2⟩;have HR2:=hid hr2;have HS2:=hid hs2;clear hr2 hs2;obtain ⟨hc2,hf2⟩:=Za hb2;have hz2:=hb2.size;(try simp at hz2);have z0:w.heap.size < w2.heap.size:=om;have z1:w.heap.size+1 < w2.heap.size:=om))
 refine bodyPost_ret (v:=.tuple #[.agg #[.bool false,.slice a2 (W7 p.1).length ((W7 p.1).length+c2),.slice b2 (W7 p.2).length ((W7 p.2).length+d2)],.int .i64 0]) (by first|(simp [results,Tryz.f18,go_sem];done)|(simp [results,Tryz.f18,go_sem, *];done)) rfl ?_
 exact ZmB
theorem ZxW (t:GT) (n:Int) (w:World) (A:Nat→Prop) (m:TA) (ox:okT t) (hs:Zb t≤1099511627776) (hl:RT w A t m) (hE:Zqq t n≠0):
  Calls prog 19 #[TV t m,.int .i64 n] w fun e w'=>e=.returned (.tuple #[.agg #[.bool false,.slice none 0 0,.slice none 0 0],.int .i64 (Zqq t n)])∧Below w.heap.size w w':=by
 obtain ⟨ma,mb,mc,md,me,mf,mg,mh,mi,mj,mk,ml⟩:=m
 have HL:=hid hl
 have HC:Hid (∀W,RT W A t ⟨ma,mb,mc,md,me,mf,mg,mh,mi,mj,mk,ml⟩→Calls prog 49 #[TV t ⟨ma,mb,mc,md,me,mf,mg,mh,mi,mj,mk,ml⟩,.int .i64 n] W fun e w'=>e=.returned (.tuple #[.agg #[.slice none 0 0,.int .i64 0,.int .i64 0,.int .i64 0],.int .i64 (Zqq t n)])∧Below W.heap.size W w'):=hid (fun W h=>ZrX t n W A _ ox hs h hE)
 generalize Zqq t n=E at *
 have hEB:(E != 0)=true:=by simpa using hE
 clear hl ox hE
 go_enter func19,ntmps19
 go_wp2_with (go_at_call 49;refine (HC.out _ (by exact Zt2 ar _ _ HL.out)).mono ?_;rintro e w1 ⟨rfl,hb1⟩;obtain ⟨hc1,hf1⟩:=Za hb1;have hz1:=hb1.size;(try simp at hz1);have y0:w.heap.size < w1.heap.size:=om;have y1:w.heap.size+1 < w1.heap.size:=om)
 refine bodyPost_ret (v:=.tuple #[.agg #[.bool false,.slice none 0 0,.slice none 0 0],.int .i64 E]) (by first|(simp [results,Tryz.f19,go_sem];done)|(simp [results,Tryz.f19,go_sem, *];done)) rfl ?_
 exact ⟨rfl,ZtZ⟩
theorem ZsI (t:GT) (n:Nat) (w:World) (A:Nat→Prop) (m:TA) (ox:okT t) (hs:Zb t≤1099511627776) (hl:RT w A t m) (hn:n≤12) (hE:(Z3 t).2=0):
  Calls prog 19 #[TV t m,.int .i64 n] w (Zqu (Zpw (W9 t Zp3 n ⟨#[]⟩) (2 ^ n)) w):=by
 obtain ⟨ma,mb,mc,md,me,mf,mg,mh,mi,mj,mk,ml⟩:=m
 have HL:=hid hl
 have HC:Hid (∀W,RT W A t ⟨ma,mb,mc,md,me,mf,mg,mh,mi,mj,mk,ml⟩→Calls prog 49 #[TV t ⟨ma,mb,mc,md,me,mf,mg,mh,mi,mj,mk,ml⟩,.int .i64 n] W (Zqt t n W)):=hid (fun W h=>Zp4 t n W A _ ox hs h hn hE)
 have HOV:=hid (fun W=>Zp9 (W9 t Zp3 n ⟨#[]⟩) n W (by have h1:=Zso (t:=t) n ⟨#[]⟩;have h2:=ZpP hn;omega) hn)
 generalize Zpw (W9 t Zp3 n ⟨#[]⟩) (2 ^ n)=p at *
 clear hl ox hE
 go_enter func19,ntmps19
 go_wp2_with (first
  | (go_at_call 49;(with_reducible refine (HC.out _ (by exact Zt2 ar _ _ HL.out)).mono ?_);rintro e w1 ⟨hb1,a1,c1,ps,rfl, -⟩;obtain ⟨hc1,hf1⟩:=Za hb1;have hz1:=hb1.size;(try simp at hz1);have y0:w.heap.size < w1.heap.size:=om;have y1:w.heap.size+1 < w1.heap.size:=om)
  | (go_at_call 54;(with_reducible refine (HOV.out _).mono ?_);rintro e w2 ⟨hb2,a2,b2,c2,d2,rfl,hr2,hs2⟩;have HR2:=hid hr2;have HS2:=hid hs2;clear hr2 hs2;obtain ⟨hc2,hf2⟩:=Za hb2;have hz2:=hb2.size;(try simp at hz2);have z0:w.heap.size < w2.heap.size:=om;have z1:w.heap.size+1 < w2.heap.size:=om))
 refine bodyPost_ret (v:=.tuple #[.agg #[.bool false,.slice a2 (W7 p.1).length ((W7 p.1).length+c2),.slice b2 (W7 p.2).length ((W7 p.2).length+d2)],.int .i64 0]) (by first|(simp [results,Tryz.f19,go_sem];done)|(simp [results,Tryz.f19,go_sem, *];done)) rfl ?_
 exact ZmB
theorem Zxd (t:GT) (n:Int) (w:World) (A:Nat→Prop) (m:TA) (ox:okT t) (hs:Zb t≤1099511627776) (hl:RT w A t m) (hE:Zqq t n≠0):
  Calls prog 20 #[TV t m,.int .i64 n] w fun e w'=>e=.returned (.tuple #[.agg #[.bool false,.slice none 0 0,.slice none 0 0],.int .i64 (Zqq t n)])∧Below w.heap.size w w':=by
 obtain ⟨ma,mb,mc,md,me,mf,mg,mh,mi,mj,mk,ml⟩:=m
 have HL:=hid hl
 have HC:Hid (∀W,RT W A t ⟨ma,mb,mc,md,me,mf,mg,mh,mi,mj,mk,ml⟩→Calls prog 49 #[TV t ⟨ma,mb,mc,md,me,mf,mg,mh,mi,mj,mk,ml⟩,.int .i64 n] W fun e w'=>e=.returned (.tuple #[.agg #[.slice none 0 0,.int .i64 0,.int .i64 0,.int .i64 0],.int .i64 (Zqq t n)])∧Below W.heap.size W w'):=hid (fun W h=>ZrX t n W A _ ox hs h hE)
 generalize Zqq t n=E at *
 have hEB:(E != 0)=true:=by simpa using hE
 clear hl ox hE
 go_enter func20,ntmps20
 go_wp2_with (go_at_call 49;refine (HC.out _ (by exact Zt2 ar _ _ HL.out)).mono ?_;rintro e w1 ⟨rfl,hb1⟩;obtain ⟨hc1,hf1⟩:=Za hb1;have hz1:=hb1.size;(try simp at hz1);have y0:w.heap.size < w1.heap.size:=om;have y1:w.heap.size+1 < w1.heap.size:=om)
 refine bodyPost_ret (v:=.tuple #[.agg #[.bool false,.slice none 0 0,.slice none 0 0],.int .i64 E]) (by first|(simp [results,Tryz.f20,go_sem];done)|(simp [results,Tryz.f20,go_sem, *];done)) rfl ?_
 exact ⟨rfl,ZtZ⟩
theorem ZsE (t:GT) (n:Nat) (w:World) (A:Nat→Prop) (m:TA) (ox:okT t) (hs:Zb t≤1099511627776) (hl:RT w A t m) (hn:n≤12) (hE:(Z3 t).2=0):
  Calls prog 20 #[TV t m,.int .i64 n] w (Zqu (Zpw (W9 t Zp2 n ⟨#[]⟩) (2 ^ n)) w):=by
 obtain ⟨ma,mb,mc,md,me,mf,mg,mh,mi,mj,mk,ml⟩:=m
 have HL:=hid hl
 have HC:Hid (∀W,RT W A t ⟨ma,mb,mc,md,me,mf,mg,mh,mi,mj,mk,ml⟩→Calls prog 49 #[TV t ⟨ma,mb,mc,md,me,mf,mg,mh,mi,mj,mk,ml⟩,.int .i64 n] W (Zqt t n W)):=hid (fun W h=>Zp4 t n W A _ ox hs h hn hE)
 have HOV:=hid (fun W=>Zp9 (W9 t Zp2 n ⟨#[]⟩) n W (by have h1:=Zq7 hE ox n ⟨#[]⟩ ZpA (by rw [show (⟨#[]⟩:ByteArray).size=0 from rfl,Nat.zero_add];exact hn);have h2:=ZpP hn;omega) hn)
 generalize Zpw (W9 t Zp2 n ⟨#[]⟩) (2 ^ n)=p at *
 clear hl ox hE
 go_enter func20,ntmps20
 go_wp2_with (first
  | (go_at_call 49;(with_reducible refine (HC.out _ (by exact Zt2 ar _ _ HL.out)).mono ?_);rintro e w1 ⟨hb1,a1,c1,ps,rfl, -⟩;obtain ⟨hc1,hf1⟩:=Za hb1;have hz1:=hb1.size;(try simp at hz1);have y0:w.heap.size < w1.heap.size:=om;have y1:w.heap.size+1 < w1.heap.size:=om)
  | (go_at_call 54;(with_reducible refine (HOV.out _).mono ?_);rintro e w2 ⟨hb2,a2,b2,c2,d2,rfl,hr2,hs2⟩;have HR2:=hid hr2;have HS2:=hid hs2;clear hr2 hs2;obtain ⟨hc2,hf2⟩:=Za hb2;have hz2:=hb2.size;(try simp at hz2);have z0:w.heap.size < w2.heap.size:=om;have z1:w.heap.size+1 < w2.heap.size:=om))
 refine bodyPost_ret (v:=.tuple #[.agg #[.bool false,.slice a2 (W7 p.1).length ((W7 p.1).length+c2),.slice b2 (W7 p.2).length ((W7 p.2).length+d2)],.int .i64 0]) (by first|(simp [results,Tryz.f20,go_sem];done)|(simp [results,Tryz.f20,go_sem, *];done)) rfl ?_
 exact ZmB
theorem Zxg (t:GT) (n:Int) (x:GV) (mx:VA) (w:World) (A:Nat→Prop) (m:TA) (ox:okT t) (hs:Zb t≤1099511627776) (hl:RT w A t m) (hE:Zqq t n≠0):
  Calls prog 17 #[TV t m,.int .i64 n,VV x mx] w fun e w'=>e=.returned (.tuple #[.agg #[.bool false,.slice none 0 0,.slice none 0 0],.int .i64 (Zqq t n)])∧Below w.heap.size w w':=by
 obtain ⟨ma,mb,mc,md,me,mf,mg,mh,mi,mj,mk,ml⟩:=m
 obtain ⟨xa,xc⟩:=mx
 have HL:=hid hl
 have HC:Hid (∀W,RT W A t ⟨ma,mb,mc,md,me,mf,mg,mh,mi,mj,mk,ml⟩→Calls prog 49 #[TV t ⟨ma,mb,mc,md,me,mf,mg,mh,mi,mj,mk,ml⟩,.int .i64 n] W fun e w'=>e=.returned (.tuple #[.agg #[.slice none 0 0,.int .i64 0,.int .i64 0,.int .i64 0],.int .i64 (Zqq t n)])∧Below W.heap.size W w'):=hid (fun W h=>ZrX t n W A _ ox hs h hE)
 generalize Zqq t n=E at *
 have hEB:(E != 0)=true:=by simpa using hE
 clear hl ox hE
 go_enter func17,ntmps17
 go_wp2_with (go_at_call 49;refine (HC.out _ (by exact Zt2 ar _ _ HL.out)).mono ?_;rintro e w1 ⟨rfl,hb1⟩;obtain ⟨hc1,hf1⟩:=Za hb1;have hz1:=hb1.size;(try simp at hz1);have y0:w.heap.size < w1.heap.size:=om;have y1:w.heap.size+1 < w1.heap.size:=om;have y2:w.heap.size+2 < w1.heap.size:=om;have y3:w.heap.size+1+1 < w1.heap.size:=om)
 refine bodyPost_ret (v:=.tuple #[.agg #[.bool false,.slice none 0 0,.slice none 0 0],.int .i64 E]) (by first|(simp [results,Tryz.f17,go_sem];done)|(simp [results,Tryz.f17,go_sem, *];done)) rfl ?_
 exact ⟨rfl,ZtZ⟩
theorem ZaM (t:GT) (n:Nat) (x:GV) (mx:VA) (w:World) (A A2:Nat→Prop) (m:TA) (ox:okT t) (hs:Zb t≤1099511627776) (hl:RT w A t m) (hx:okV x) (hv:RV w A2 x mx.a) (hn:n≤12) (hE:(Z3 t).2=0):
  Calls prog 17 #[TV t m,.int .i64 n,VV x mx] w (Zqu (Zpw (W9 t (Zqz fun y=>XX y x) n ⟨#[]⟩) (2 ^ n)) w):=by
 obtain ⟨ma,mb,mc,md,me,mf,mg,mh,mi,mj,mk,ml⟩:=m
 obtain ⟨xa,xc⟩:=mx
 have HL:=hid hl
 have HV:=hid hv
 have HX:=hid hx
 have HC:Hid (∀W,RT W A t ⟨ma,mb,mc,md,me,mf,mg,mh,mi,mj,mk,ml⟩→Calls prog 49 #[TV t ⟨ma,mb,mc,md,me,mf,mg,mh,mi,mj,mk,ml⟩,.int .i64 n] W (Zqt t n W)):=hid (fun W h=>Zp4 t n W A _ ox hs h hn hE)
 have hM9:W9 t (Zqz fun y=>XX y x) n ⟨#[]⟩≤4096:=by
  have h1:=Zp5 t n ⟨#[]⟩
  have h2:=Zqp t (Zqz fun y=>XX y x) (fun _ _=>1) (fun r m=>by cases r with
   | ok v k=>show (if XX v x=true then 1 else 0)≤1;split<;>omega
   | no k=>exact Nat.zero_le _) n ⟨#[]⟩
  have h3:=ZpP hn
  omega
 have hW0:wQ (fun y=>XX y x) n (hL t n ⟨#[]⟩)=W9 t (Zqz fun y=>XX y x) n ⟨#[]⟩:=by
  have:=Ztc t (fun y=>XX y x) n ⟨#[]⟩
  rwa [show (⟨#[]⟩:ByteArray).size=0 from rfl,Nat.zero_add] at this
 have hin:∀p∈hL t n ⟨#[]⟩,p.1.size≤n∧okV p.2:=fun p hp=>by
  obtain ⟨k,hk,he,hr⟩:=(ZqP hE ox n ⟨#[]⟩ ZpA (by show 0+n≤1024;omega) (ZpR hE ox) p.1 p.2).1 hp
  have hz:=ZpC he
  have hb:=Zp8 ZpA (by show 0+k≤1024;omega) he
  have h2:=Zp7 hE ox hb
  rw [hr] at h2
  exact ⟨by rw [hz];show 0+k≤n;omega,h2.2.2⟩
 have HOV:=hid (fun W=>Zp9 (W9 t (Zqz fun y=>XX y x) n ⟨#[]⟩) n W om hn)
 generalize W9 t (Zqz fun y=>XX y x) n ⟨#[]⟩=M at *
 generalize Zpw M (2 ^ n)=p at *
 have hll:(hL t n ⟨#[]⟩).length≤4096:=Nat.le_trans (ZqO n ⟨#[]⟩) (ZpP hn)
 have HW0:=hid hW0
 have HIN:=hid hin
 clear hl ox hE hv hx hW0 hin
 go_enter func17,ntmps17
 go_wp2_with (go_at_call 49;(with_reducible refine (HC.out _ (by exact Zt2 ar _ _ HL.out)).mono ?_);rintro e w1 ⟨hb1,a1,c1,ps,rfl,hps,hown,hrv⟩;have HPS:=hid hps;have HOWN:=hid hown;have HRV:=hid hrv;clear hps hown hrv;obtain ⟨hc1,hf1⟩:=Za hb1;have hz1:=hb1.size;(try simp at hz1);have y0:w.heap.size < w1.heap.size:=om;have y1:w.heap.size+1 < w1.heap.size:=om;have y2:w.heap.size+2 < w1.heap.size:=om)
 obtain ⟨a9,c9,he9,hrj⟩:=ZqM (A:=fun b=>w.heap.size≤b) HOWN.out (fun b h=>by (try simp at h);omega) (fun q hq=>Zt9 (fun b h _=>by rcases h with ⟨h, -⟩|⟨h, -⟩;exact absurd h id;(try simp at h);show w.heap.size≤b;omega) _ _ (HRV.out q hq))
 have hlen:ps.length=(hL t n ⟨#[]⟩).length:=by rw [←HPS.out,List.length_map]
 rw [HPS.out] at hrj he9
 obtain ⟨e1,e2,e3⟩:=Value.slice.inj he9
 subst e1
 clear he9 e3
 rw [hlen]
 generalize hL t n ⟨#[]⟩=L at *
 refine ZT (fun W=>Below w.heap.size w W∧w.heap.size+2 < W.heap.size∧Hid (RJs W (fun b=>w.heap.size≤b) L a1)∧W.cell? ⟨w.heap.size+1,0,none⟩=some (.int .u8 x.k)∧W.cell? ⟨w.heap.size+1,1,none⟩=some (.int .i64 x.n)∧W.cell? ⟨w.heap.size+1,2,none⟩=some (.slice xa x.l.length xc)∧W.cell? ⟨w.heap.size+2,0,none⟩=some (.bool false)∧W.cell? ⟨w.heap.size+2,1,none⟩=some (.slice none 0 0)∧W.cell? ⟨w.heap.size+2,2,none⟩=some (.slice none 0 0)∧∀k,W.frozen? ⟨w.heap.size+2,k,none⟩=false) ⟨ZtZ,by simp;omega,hid (RJs.ext ar _ _ hrj),gs,gs,gs,gs,gs,gs,fun k=>gs⟩ ?_
 rintro wa ⟨hba,hza,HRJ,k0,k1,k2,n0,n1,n2,nf⟩
 clear hc1 hf1 hb1 HPS HOWN HRV hrj hlen e2
 go_loopg [10,26] (L.length) (fun gk t10' t26' wr=>∃j:Nat,gk+j=L.length∧t26'=.int .i64 j∧t10'=.int .i64 (wQ (fun y=>XX y x) n (L.take j):Nat)∧Below wa.heap.size wa wr)
 case atStart=>exact ⟨0,rfl,rfl,rfl,Below.refl _ _⟩
 case round=>
  obtain ⟨j,hj,rfl,rfl,hbr⟩:=hrel
  by_cases hlt:j < L.length
  ·have hj9:=Zrd (fun y=>XX y x) n L j hlt
   have hle1:=ZrF (fun y=>XX y x) n L (j+1)
   have hle:=HW0.out
   obtain ⟨b,o,m,rfl,hA,hbs,gg,gx⟩:=HRJ.out.get j hlt
   obtain ⟨i1,i2⟩:=HIN.out _ (List.getElem_mem hlt)
   obtain ⟨g0,g1,g2,g3⟩:=Zsd.1 gg
   obtain ⟨va,vc⟩:=m
   replace g0:=(hbr.cell (p:=⟨b,o+j*4,none⟩) hbs).trans g0
   replace g1:=(hbr.cell (p:=⟨b,o+j*4+1,none⟩) hbs).trans g1
   replace g2:=(hbr.cell (p:=⟨b,o+j*4+2,none⟩) hbs).trans g2
   replace g3:=(hbr.cell (p:=⟨b,o+j*4+3,none⟩) hbs).trans g3
   have hx1:w.heap.size+1 < wa.heap.size:=om
   have k0:=(hbr.cell (p:=⟨w.heap.size+1,0,none⟩) hx1).trans k0
   have k1:=(hbr.cell (p:=⟨w.heap.size+1,1,none⟩) hx1).trans k1
   have k2:=(hbr.cell (p:=⟨w.heap.size+1,2,none⟩) hx1).trans k2
   have hz:=hbr.size
   have hbz:b < wr.heap.size:=om
   have hxz:w.heap.size+1 < wr.heap.size:=om
   have HGX:=hid (Zl.1 (Zt5 (ZtY hbr) _ _ gx))
   have HOKY:=hid i2
   have hjI:(j:Int) < (L.length:Int):=om
   have hd:(n:Int) - (L[j].1.size:Int)=((n - L[j].1.size:Nat):Int):=om
   have hdw:IntKind.i64.wrap ((n:Int) - (L[j].1.size:Int))=((n - L[j].1.size:Nat):Int):=by rw [IntWalk.i64_in _ om];exact hd
   have hsh:=ZqY (k:=n - L[j].1.size) om
   have hbw:Below w.heap.size w wr:=hba.trans (hbr.mono om)
   clear gx i2 gg
   generalize n - L[j].1.size=q at *
   generalize hS:XX L[j].2 x=S at hj9
   have HS:=hid hS
   generalize hQ:wQ (fun y=>XX y x) n (L.take j)=Q at *
   generalize hQ1:wQ (fun y=>XX y x) n (L.take (j+1))=Q1 at *
   have HQ1:=hid hQ1
   clear hS hQ hQ1
   generalize hY:L[j]=Y at *
   obtain ⟨sy,y⟩:=Y
   clear hY
   dsimp only at *
   generalize 2 ^ q=P at *
   cases S
   ·have hq1:Q1=Q:=by simpa using hj9
    have HQE:=hid hq1
    clear hj9 hq1 hle hle1
    go_wp2_with (go_at_call 33;refine (Zez (Zg y) y x _ (fun b=>w.heap.size≤b) A2 ⟨va,vc⟩ ⟨xa,xc⟩ (Nat.le_refl _) HOKY.out HX.out (by exact Zt8 ar _ _ HGX.out) (by exact Zt8 ar _ _ (Zl.1 HV.out))).mono ?_;rw [HS.out];rintro e w3 ⟨rfl,hb3⟩;have hz3:=hb3.size;(try simp at hz3))
    go_roundg (gk - 1)
    case measure=>omega
    case rel=>exact ⟨j+1,om,by go_num,by rw [HQ1.out,HQE.out],ZtZ⟩
   have hq1:Q1=Q+P:=by simpa using hj9
   have hsum:IntKind.i64.wrap ((Q:Int)+(P:Int))=(Q:Int)+(P:Int):=IntWalk.i64_in _ om
   have HQE:=hid hq1
   clear hj9 hq1 hle hle1
   go_wp2_with (go_at_call 33;refine (Zez (Zg y) y x _ (fun b=>w.heap.size≤b) A2 ⟨va,vc⟩ ⟨xa,xc⟩ (Nat.le_refl _) HOKY.out HX.out (by exact Zt8 ar _ _ HGX.out) (by exact Zt8 ar _ _ (Zl.1 HV.out))).mono ?_;rw [HS.out];rintro e w3 ⟨rfl,hb3⟩;have hz3:=hb3.size;(try simp at hz3);have q0:=(hb3.cell (p:=⟨wr.heap.size,0,none⟩) sm).trans (show _=some (.string sy) from gs))
   go_roundg (gk - 1)
   case measure=>omega
   case rel=>exact ⟨j+1,om,by go_num,by rw [HQ1.out,HQE.out];go_num,ZtZ⟩
  obtain rfl:j=L.length:=om
  rw [List.take_length,HW0.out]
  have n0:=(hbr.cell (p:=⟨w.heap.size+2,0,none⟩) hza).trans n0
  have n1:=(hbr.cell (p:=⟨w.heap.size+2,1,none⟩) hza).trans n1
  have n2:=(hbr.cell (p:=⟨w.heap.size+2,2,none⟩) hza).trans n2
  have nf:∀k,wr.frozen? ⟨w.heap.size+2,k,none⟩=false:=fun k=>(hbr.frozen (p:=⟨w.heap.size+2,k,none⟩) hza).trans (nf k)
  have hz:=hbr.size
  have hbw:Below w.heap.size w wr:=hba.trans (hbr.mono om)
  have hy2:w.heap.size+2 < wr.heap.size:=om
  go_wp2_with (go_at_call 54;(with_reducible refine (HOV.out _).mono ?_);rintro e w2 ⟨hb2,a2,b2,c2,d2,rfl,hr2,hs2⟩;have HR2:=hid hr2;have HS2:=hid hs2;clear hr2 hs2;obtain ⟨hc2,hf2⟩:=Za hb2;have hz2:=hb2.size;have z2:w.heap.size+2 < w2.heap.size:=om)
  refine bodyPost_ret (v:=.tuple #[.agg #[.bool false,.slice a2 (W7 p.1).length ((W7 p.1).length+c2),.slice b2 (W7 p.2).length ((W7 p.2).length+d2)],.int .i64 0]) (by first|(simp [results,Tryz.f17,go_sem];done)|(simp [results,Tryz.f17,go_sem, *];done)) rfl ?_
  exact ⟨ZtZ,a2,b2,c2,d2,rfl,Zt7 (fun b h _=>om) (Zt6 (A:=fun b=>w.heap.size+2+1≤b) (WN _ _ _) (Zt7 (fun b h _=>by (try simp at h);omega) HR2.out)),Zt7 (fun b h _=>om) (Zt6 (A:=fun b=>w.heap.size+2+1≤b) (WN _ _ _) (Zt7 (fun b h _=>by (try simp at h);omega) HS2.out))⟩
theorem ZsH (lo hi:Int) (w:World):Calls prog 27 #[.int .i64 lo,.int .i64 hi] w fun e w'=>e=.returned (TV (Yh lo hi) VZ)∧Below w.heap.size w w':=by
 go_enter func27,ntmps27
 go_wp2_with fail
 refine bodyPost_ret (v:=TV (Yh lo hi) VZ) (by simp [results,Tryz.f27,go_sem,Yh,VZ,noV,noP]) rfl ?_
 exact ⟨rfl,ZtZ⟩
theorem Zsv (n:Int) (w:World):Calls prog 26 #[.int .i64 n] w fun e w'=>e=.returned (TV (ZpB n) VZ)∧Below w.heap.size w w':=by
 go_enter func26,ntmps26
 go_wp2_with fail
 refine bodyPost_ret (v:=TV (ZpB n) VZ) (by simp [results,Tryz.f26,go_sem,ZpB,VZ,noV,noP]) rfl ?_
 exact ⟨rfl,ZtZ⟩
theorem Zqe (n:Int) (w:World):Calls prog 46 #[.int .i64 n] w fun e w'=>e=.returned (VV ⟨1,n,[]⟩ ⟨none,0⟩)∧Below w.heap.size w w':=by
 go_enter func46,ntmps46
 go_wp2_with fail
 refine bodyPost_ret (v:=VV ⟨1,n,[]⟩ ⟨none,0⟩) (by simp [results,Tryz.f46,go_sem]) rfl ?_
 exact ⟨rfl,ZtZ⟩
set_option maxRecDepth 512
def ZtE (p:Nat×Nat) (w:World) (e:Ending) (w':World):Prop:=Below w.heap.size w w'∧∃(a b:Option Addr) (c d:Nat),e=.returned (.agg #[.bool false,.slice a (W7 p.1).length ((W7 p.1).length+c),.slice b (W7 p.2).length ((W7 p.2).length+d)])∧RL w' (fun b=>w.heap.size≤b) (W7 p.1) a∧RL w' (fun b=>w.heap.size≤b) (W7 p.2) b
set_option maxRecDepth 100000
theorem Zqa (x y:Nat) (w:World) (hx:x < 65536) (hy:y < 65536) (h0:0 < y):
  Calls prog 58 #[.agg #[.int .i64 x,.int .i64 y]] w (ZtE (Zpw x y) w):=by
 have HO:=hid (fun W=>ZsY x y W hx hy h0)
 generalize Zpw x y=p at *
 go_enter func58,ntmps58
 go_wp2_with (go_at_call 57;refine (HO.out _).mono ?_;rintro e w1 ⟨hb1,a1,b1,c1,d1,rfl,hr1,hs1⟩;have HR1:=hid hr1;have HS1:=hid hs1;clear hr1 hs1;obtain ⟨hc1,hf1⟩:=Za hb1;have hz1:=hb1.size;(try simp at hz1);have y0:w.heap.size < w1.heap.size:=om;have y1:w.heap.size+1 < w1.heap.size:=om)
 refine bodyPost_ret (v:=.agg #[.bool false,.slice a1 (W7 p.1).length ((W7 p.1).length+c1),.slice b1 (W7 p.2).length ((W7 p.2).length+d1)]) (by first|(simp [results,Tryz.f58,go_sem];done)|(simp [results,Tryz.f58,go_sem, *];done)) rfl ?_
 have hag:∀(v0 v1 v2:Value) (o:Obj),Agree (fun b=>w.heap.size+1+1≤b) w1 ((((w1.setCell ⟨w.heap.size+1,0,none⟩ v0).setCell ⟨w.heap.size+1,1,none⟩ v1).setCell ⟨w.heap.size+1,2,none⟩ v2).alloc o):=fun v0 v1 v2 o=>(WN v0 v1 v2).trans (ZtY ((Below.refl _ _).alloc (Nat.le_refl _) _))
 exact ⟨ZtZ,a1,b1,c1,d1,rfl,Zt7 (fun b h _=>om) (Zt6 (hag _ _ _ _) (Zt7 (fun b h _=>by (try simp at h);omega) HR1.out)),Zt7 (fun b h _=>om) (Zt6 (hag _ _ _ _) (Zt7 (fun b h _=>by (try simp at h);omega) HS1.out))⟩
theorem Zqy (t:GT) (n:Nat) (v:Int) (x1 y1 x2 y2 x3 y3 x4 y4:Nat) (p1 p2 p3 p4:Nat×Nat) (w:World) (A:Nat→Prop) (m:TA) (ox:okT t) (hs:Zb t≤1099511627776) (hl:RT w A t m) (hn:n≤12) (hE:(Z3 t).2=0) (hv:Zv v)
  (e1:Zpw (W9 t (Zqz fun y=>XX y ⟨1,v,[]⟩) n ⟨#[]⟩) (2 ^ n)=p1) (e2:Zpw (W9 t ZpX n ⟨#[]⟩) (2 ^ n)=p2) (e3:Zpw (W9 t Zp3 n ⟨#[]⟩) (2 ^ n)=p3) (e4:Zpw (W9 t Zp2 n ⟨#[]⟩) (2 ^ n)=p4)
  (f1:Zpw x1 y1=p1) (f2:Zpw x2 y2=p2) (f3:Zpw x3 y3=p3) (f4:Zpw x4 y4=p4) (g1:x1 < 65536∧y1 < 65536∧0 < y1) (g2:x2 < 65536∧y2 < 65536∧0 < y2) (g3:x3 < 65536∧y3 < 65536∧0 < y3) (g4:x4 < 65536∧y4 < 65536∧0 < y4):
  Calls prog 28 #[TV t m,.int .i64 n,.int .i64 v,.agg #[.int .i64 x1,.int .i64 y1],.agg #[.int .i64 x2,.int .i64 y2],.agg #[.int .i64 x3,.int .i64 y3],.agg #[.int .i64 x4,.int .i64 y4]] w fun e w'=>e=.returned (.bool true)∧Below w.heap.size w w':=by
 obtain ⟨ma,mb,mc,md,me,mf,mg,mh,mi,mj,mk,ml⟩:=m
 have HL:=hid hl
 have HP1:Hid (∀W,RT W A t ⟨ma,mb,mc,md,me,mf,mg,mh,mi,mj,mk,ml⟩→Calls prog 17 #[TV t ⟨ma,mb,mc,md,me,mf,mg,mh,mi,mj,mk,ml⟩,.int .i64 n,.agg #[.int .u8 1,.int .i64 v,.slice none 0 0]] W (Zqu p1 W)):=hid (fun W h=>by rw [←e1];exact ZaM t n ⟨1,v,[]⟩ ⟨none,0⟩ W A (fun _=>True) _ ox hs h (ZA.2 ⟨by unfold Yg;simp,hv,sm,by simp [okVs]⟩) (by rw [Zl];simp only [RVs]) hn hE)
 have HP2:Hid (∀W,RT W A t ⟨ma,mb,mc,md,me,mf,mg,mh,mi,mj,mk,ml⟩→Calls prog 18 #[TV t ⟨ma,mb,mc,md,me,mf,mg,mh,mi,mj,mk,ml⟩,.int .i64 n] W (Zqu p2 W)):=hid (fun W h=>by rw [←e2];exact Zsx t n W A _ ox hs h hn hE)
 have HP3:Hid (∀W,RT W A t ⟨ma,mb,mc,md,me,mf,mg,mh,mi,mj,mk,ml⟩→Calls prog 19 #[TV t ⟨ma,mb,mc,md,me,mf,mg,mh,mi,mj,mk,ml⟩,.int .i64 n] W (Zqu p3 W)):=hid (fun W h=>by rw [←e3];exact ZsI t n W A _ ox hs h hn hE)
 have HP4:Hid (∀W,RT W A t ⟨ma,mb,mc,md,me,mf,mg,mh,mi,mj,mk,ml⟩→Calls prog 20 #[TV t ⟨ma,mb,mc,md,me,mf,mg,mh,mi,mj,mk,ml⟩,.int .i64 n] W (Zqu p4 W)):=hid (fun W h=>by rw [←e4];exact ZsE t n W A _ ox hs h hn hE)
 have HO1:=hid (fun W=>Zqa x1 y1 W g1.1 g1.2.1 g1.2.2)
 have HO2:=hid (fun W=>Zqa x2 y2 W g2.1 g2.2.1 g2.2.2)
 have HO3:=hid (fun W=>Zqa x3 y3 W g3.1 g3.2.1 g3.2.2)
 have HO4:=hid (fun W=>Zqa x4 y4 W g4.1 g4.2.1 g4.2.2)
 rw [f1] at HO1
 rw [f2] at HO2
 rw [f3] at HO3
 rw [f4] at HO4
 clear hl ox hE hv e1 e2 e3 e4 f1 f2 f3 f4 g1 g2 g3 g4
 go_enter func28,ntmps28
 go_wp2_with (first
  | (go_at_call 17;(with_reducible refine (HP1.out _ (by exact Zt2 ar _ _ HL.out)).mono ?_);rintro e w1 ⟨hb1,a1,b1,c1,d1,rfl,hr1,hs1⟩;have HR1:=hid hr1;have HS1:=hid hs1;clear hr1 hs1;obtain ⟨hc1,hf1⟩:=Za hb1;have hz1:=hb1.size;(try simp at hz1);have y10:w.heap.size < w1.heap.size:=om;have y11:w.heap.size+1 < w1.heap.size:=om;have y12:w.heap.size+2 < w1.heap.size:=om;have y13:w.heap.size+3 < w1.heap.size:=om;have y14:w.heap.size+4 < w1.heap.size:=om)
  | (go_at_call 18;(with_reducible refine (HP2.out _ (by exact Zt2 ar _ _ HL.out)).mono ?_);rintro e w2 ⟨hb2,a2,b2,c2,d2,rfl,hr2,hs2⟩;have HR2:=hid hr2;have HS2:=hid hs2;clear hr2 hs2;obtain ⟨hc2,hf2⟩:=Za hb2;have hz2:=hb2.size;(try simp at hz2);have y20:w.heap.size < w2.heap.size:=om;have y21:w.heap.size+1 < w2.heap.size:=om;have y22:w.heap.size+2 < w2.heap.size:=om;have y23:w.heap.size+3 < w2.heap.size:=om;have y24:w.heap.size+4 < w2.heap.size:=om;have y25:w1.heap.size < w2.heap.size:=om)
  | (go_at_call 19;(with_reducible refine (HP3.out _ (by exact Zt2 ar _ _ HL.out)).mono ?_);rintro e w3 ⟨hb3,a3,b3,c3,d3,rfl,hr3,hs3⟩;have HR3:=hid hr3;have HS3:=hid hs3;clear hr3 hs3;obtain ⟨hc3,hf3⟩:=Za hb3;have hz3:=hb3.size;(try simp at hz3);have y30:w.heap.size < w3.heap.size:=om;have y31:w.heap.size+1 < w3.heap.size:=om;have y32:w.heap.size+2 < w3.heap.size:=om;have y33:w.heap.size+3 < w3.heap.size:=om;have y34:w.heap.size+4 < w3.heap.size:=om;have y35:w1.heap.size < w3.heap.size:=om;have y36:w2.heap.size < w3.heap.size:=om)
  | (go_at_call 20;(with_reducible refine (HP4.out _ (by exact Zt2 ar _ _ HL.out)).mono ?_);rintro e w4 ⟨hb4,a4,b4,c4,d4,rfl,hr4,hs4⟩;have HR4:=hid hr4;have HS4:=hid hs4;clear hr4 hs4;obtain ⟨hc4,hf4⟩:=Za hb4;have hz4:=hb4.size;(try simp at hz4);have y40:w.heap.size < w4.heap.size:=om;have y41:w.heap.size+1 < w4.heap.size:=om;have y42:w.heap.size+2 < w4.heap.size:=om;have y43:w.heap.size+3 < w4.heap.size:=om;have y44:w.heap.size+4 < w4.heap.size:=om;have y45:w1.heap.size < w4.heap.size:=om;have y46:w2.heap.size < w4.heap.size:=om;have y47:w3.heap.size < w4.heap.size:=om))
 refine ZT (fun W=>Below w.heap.size w W∧w4.heap.size < W.heap.size∧W.cell? ⟨w.heap.size+1,0,none⟩=some (.int .i64 x1)∧W.cell? ⟨w.heap.size+1,1,none⟩=some (.int .i64 y1)∧W.cell? ⟨w.heap.size+2,0,none⟩=some (.int .i64 x2)∧W.cell? ⟨w.heap.size+2,1,none⟩=some (.int .i64 y2)∧W.cell? ⟨w.heap.size+3,0,none⟩=some (.int .i64 x3)∧W.cell? ⟨w.heap.size+3,1,none⟩=some (.int .i64 y3)∧W.cell? ⟨w.heap.size+4,0,none⟩=some (.int .i64 x4)∧W.cell? ⟨w.heap.size+4,1,none⟩=some (.int .i64 y4)∧W.cell? ⟨w1.heap.size,0,none⟩=some (.bool false)∧W.cell? ⟨w1.heap.size,1,none⟩=some (.slice a1 (W7 p1.1).length ((W7 p1.1).length+c1))∧W.cell? ⟨w1.heap.size,2,none⟩=some (.slice b1 (W7 p1.2).length ((W7 p1.2).length+d1))∧W.cell? ⟨w2.heap.size,0,none⟩=some (.bool false)∧W.cell? ⟨w2.heap.size,1,none⟩=some (.slice a2 (W7 p2.1).length ((W7 p2.1).length+c2))∧W.cell? ⟨w2.heap.size,2,none⟩=some (.slice b2 (W7 p2.2).length ((W7 p2.2).length+d2))∧W.cell? ⟨w3.heap.size,0,none⟩=some (.bool false)∧W.cell? ⟨w3.heap.size,1,none⟩=some (.slice a3 (W7 p3.1).length ((W7 p3.1).length+c3))∧W.cell? ⟨w3.heap.size,2,none⟩=some (.slice b3 (W7 p3.2).length ((W7 p3.2).length+d3))∧W.cell? ⟨w4.heap.size,0,none⟩=some (.bool false)∧W.cell? ⟨w4.heap.size,1,none⟩=some (.slice a4 (W7 p4.1).length ((W7 p4.1).length+c4))∧W.cell? ⟨w4.heap.size,2,none⟩=some (.slice b4 (W7 p4.2).length ((W7 p4.2).length+d4))∧Hid (RL W (fun _=>True) (W7 p1.1) a1)∧Hid (RL W (fun _=>True) (W7 p1.2) b1)∧Hid (RL W (fun _=>True) (W7 p2.1) a2)∧Hid (RL W (fun _=>True) (W7 p2.2) b2)∧Hid (RL W (fun _=>True) (W7 p3.1) a3)∧Hid (RL W (fun _=>True) (W7 p3.2) b3)∧Hid (RL W (fun _=>True) (W7 p4.1) a4)∧Hid (RL W (fun _=>True) (W7 p4.2) b4)) ⟨ZtZ,sm,gs,gs,gs,gs,gs,gs,gs,gs,gs,gs,gs,gs,gs,gs,gs,gs,gs,gs,gs,gs,hid (Zt7 (fun _ _ _=>trivial) (Zt6 (A:=fun b=>w.heap.size≤b) ar (Zt7 (fun b h _=>by (try simp at h);omega) HR1.out))),hid (Zt7 (fun _ _ _=>trivial) (Zt6 (A:=fun b=>w.heap.size≤b) ar (Zt7 (fun b h _=>by (try simp at h);omega) HS1.out))),hid (Zt7 (fun _ _ _=>trivial) (Zt6 (A:=fun b=>w.heap.size≤b) ar (Zt7 (fun b h _=>by (try simp at h);omega) HR2.out))),hid (Zt7 (fun _ _ _=>trivial) (Zt6 (A:=fun b=>w.heap.size≤b) ar (Zt7 (fun b h _=>by (try simp at h);omega) HS2.out))),hid (Zt7 (fun _ _ _=>trivial) (Zt6 (A:=fun b=>w.heap.size≤b) ar (Zt7 (fun b h _=>by (try simp at h);omega) HR3.out))),hid (Zt7 (fun _ _ _=>trivial) (Zt6 (A:=fun b=>w.heap.size≤b) ar (Zt7 (fun b h _=>by (try simp at h);omega) HS3.out))),hid (Zt7 (fun _ _ _=>trivial) (Zt6 (A:=fun b=>w.heap.size≤b) ar (Zt7 (fun b h _=>by (try simp at h);omega) HR4.out))),hid (Zt7 (fun _ _ _=>trivial) (Zt6 (A:=fun b=>w.heap.size≤b) ar (Zt7 (fun b h _=>by (try simp at h);omega) HS4.out)))⟩ ?_
 rintro wa ⟨hba,hza,k10,k11,k20,k21,k30,k31,k40,k41,q10,q11,q12,q20,q21,q22,q30,q31,q32,q40,q41,q42,HA1,HB1,HA2,HB2,HA3,HB3,HA4,HB4⟩
 have zz:w.heap.size+4 < wa.heap.size∧w.heap.size+3 < wa.heap.size∧w.heap.size+2 < wa.heap.size∧w.heap.size+1 < wa.heap.size∧w1.heap.size < wa.heap.size∧w2.heap.size < wa.heap.size∧w3.heap.size < wa.heap.size:=om
 obtain ⟨z1,z2,z3,z4,z5,z6,z7⟩:=zz
 clear hb1 hb2 hb3 hb4 hc1 hc2 hc3 hc4 hf1 hf2 hf3 hf4 HP1 HP2 HP3 HP4 HL HR1 HR2 HR3 HR4 HS1 HS2 HS3 HS4 y10 y11 y12 y13 y14 y20 y21 y22 y23 y24 y25 y30 y31 y32 y33 y34 y35 y36 y40 y41 y42 y43 y44 y45 y46 y47
 go_region_held3 (fun W=>∀c k,c < wa.heap.size→W.cell? ⟨c,k,none⟩=wa.cell? ⟨c,k,none⟩) ((intro c k hc;refine Below.cell (B:=wa.heap.size) (w:=wa) (p:=⟨c,k,none⟩) ?_ hc;(exact ZtZ))) ((first|(go_at_call 58;(with_reducible refine (HO1.out _).mono ?_);rintro e w9 ⟨hb9,a9,b9,c9,d9,rfl,hr9,hs9⟩;have HR9:=hid (Zt7 (A':=fun _=>True) (fun _ _ _=>trivial) hr9);have HS9:=hid (Zt7 (A':=fun _=>True) (fun _ _ _=>trivial) hs9);clear hr9 hs9;have hz9:=hb9.size;(try simp at hz9))|(go_at_call 58;(with_reducible refine (HO2.out _).mono ?_);rintro e w9 ⟨hb9,a9,b9,c9,d9,rfl,hr9,hs9⟩;have HR9:=hid (Zt7 (A':=fun _=>True) (fun _ _ _=>trivial) hr9);have HS9:=hid (Zt7 (A':=fun _=>True) (fun _ _ _=>trivial) hs9);clear hr9 hs9;have hz9:=hb9.size;(try simp at hz9))|(go_at_call 58;(with_reducible refine (HO3.out _).mono ?_);rintro e w9 ⟨hb9,a9,b9,c9,d9,rfl,hr9,hs9⟩;have HR9:=hid (Zt7 (A':=fun _=>True) (fun _ _ _=>trivial) hr9);have HS9:=hid (Zt7 (A':=fun _=>True) (fun _ _ _=>trivial) hs9);clear hr9 hs9;have hz9:=hb9.size;(try simp at hz9))|(go_at_call 58;(with_reducible refine (HO4.out _).mono ?_);rintro e w9 ⟨hb9,a9,b9,c9,d9,rfl,hr9,hs9⟩;have HR9:=hid (Zt7 (A':=fun _=>True) (fun _ _ _=>trivial) hr9);have HS9:=hid (Zt7 (A':=fun _=>True) (fun _ _ _=>trivial) hs9);clear hr9 hs9;have hz9:=hb9.size;(try simp at hz9))|(go_at_call 22;(with_reducible refine (ZrJ p1 p1 _ (fun _=>True) (fun _=>True) (fun _=>True) (fun _=>True) a1 b1 a9 b9 _ _ _ _ (by exact Zt6 ar HA1.out) (by exact Zt6 ar HB1.out) (by exact Zt6 ar HR9.out) (by exact Zt6 ar HS9.out)).mono ?_);rw [Zqr];rintro e w8 ⟨rfl,hb8⟩;have hz8:=hb8.size;(try simp at hz8))|(go_at_call 22;(with_reducible refine (ZrJ p2 p2 _ (fun _=>True) (fun _=>True) (fun _=>True) (fun _=>True) a2 b2 a9 b9 _ _ _ _ (by exact Zt6 ar HA2.out) (by exact Zt6 ar HB2.out) (by exact Zt6 ar HR9.out) (by exact Zt6 ar HS9.out)).mono ?_);rw [Zqr];rintro e w8 ⟨rfl,hb8⟩;have hz8:=hb8.size;(try simp at hz8))|(go_at_call 22;(with_reducible refine (ZrJ p3 p3 _ (fun _=>True) (fun _=>True) (fun _=>True) (fun _=>True) a3 b3 a9 b9 _ _ _ _ (by exact Zt6 ar HA3.out) (by exact Zt6 ar HB3.out) (by exact Zt6 ar HR9.out) (by exact Zt6 ar HS9.out)).mono ?_);rw [Zqr];rintro e w8 ⟨rfl,hb8⟩;have hz8:=hb8.size;(try simp at hz8))|(go_at_call 22;(with_reducible refine (ZrJ p4 p4 _ (fun _=>True) (fun _=>True) (fun _=>True) (fun _=>True) a4 b4 a9 b9 _ _ _ _ (by exact Zt6 ar HA4.out) (by exact Zt6 ar HB4.out) (by exact Zt6 ar HR9.out) (by exact Zt6 ar HS9.out)).mono ?_);rw [Zqr];rintro e w8 ⟨rfl,hb8⟩;have hz8:=hb8.size;(try simp at hz8))))
 go_wp2_with fail
 go_ret
 exact ⟨rfl,ZtZ⟩
end Go.Proofs.YtkdffbdnjfgpeaaGreat
