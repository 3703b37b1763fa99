/- Part 46. -/
import Derived.Deep.RegionHeld3
import Derived.RegionTactic
import Derived.Test.YtkdffbdnjfgpeaaGreatY4
import Derived.Test.YtkdffbdnjfgpeaaGreatY43
set_option linter.all false
namespace Go.Proofs.YtkdffbdnjfgpeaaGreat
open Go.Lib (hid)
open Go Go.RowKit Go.Proofs.Tryz
set_option maxRecDepth 100000
set_option maxHeartbeats 1000000
theorem ZqW (x:Nat) (w:World) (A:Nat→Prop) (a:Option Addr) (c:Nat) (hx:x < 65536) (hr:RL w A (W7 x) a):
  Calls prog 206 #[.slice a (W7 x).length ((W7 x).length+c)] w fun e w'=>e=.returned (.tuple #[.int .u64 x,.bool true])∧Below w.heap.size w w':=by
 have HR:=hid hr
 clear hr
 rcases Nat.eq_zero_or_pos x with rfl|h0
 ·go_enter func206,ntmps206
  go_wp2_with (go_at_call 131;(with_reducible refine (ZpK (W7 0) 0 (QT 0) _ A a c hx (by exact HR.out)).mono ?_);rw [Zpu];rintro e w1 ⟨hb1,a1,c1,rfl,hr1⟩;clear hr1)
  go_ret2
  exact ⟨rfl,hb1⟩
 go_enter func206,ntmps206
 go_wp2_with (go_at_call 131;(with_reducible refine (ZpK (W7 x) x (QT x) _ A a c hx (by exact HR.out)).mono ?_);rw [W8 h0];rintro e w1 ⟨hb1,a1,c1,rfl,hr1⟩;obtain ⟨b,o,rfl,hA,hb,hc⟩:=hr1.get 0 sm;simp only [List.getElem_cons_zero,Nat.add_zero] at hc;clear hr1)
 go_ret2
 exact ⟨rfl,hb1⟩
theorem Ztd (x:Nat) (w:World) (A:Nat→Prop) (a:Option Addr) (c:Nat) (hx:x < 65536) (hr:RL w A (W7 x) a):
  Calls prog 210 #[.slice a (W7 x).length ((W7 x).length+c)] w fun e w'=>e=.returned (.int .i64 (Qq x))∧Below w.heap.size w w':=by
 have HR:=hid hr
 clear hr
 rcases Nat.eq_zero_or_pos x with rfl|h0
 ·have hl0:((Qq 0:Nat):Int)=0:=rfl
  rw [hl0]
  go_enter func210,ntmps210
  go_wp2_with (go_at_call 203;(with_reducible refine (ZpD (W7 0) 0 (QT 0) _ A a c hx (by exact HR.out)).mono ?_);rw [Zpu];rintro e w1 ⟨hb1,a1,c1,rfl,hr1⟩;clear hr1)
  go_ret
  exact ⟨rfl,hb1⟩
 obtain ⟨L,hL⟩:∃L,L=Qq x:=⟨_,rfl⟩
 have hL16:L≤16:=by rw [hL];exact ZrL hx
 rw [←hL]
 have HL:=hid hL
 clear hL
 go_enter func210,ntmps210
 go_wp2_with (go_at_call 203;(with_reducible refine (ZpD (W7 x) x (QT x) _ A a c hx (by exact HR.out)).mono ?_);rw [W8 h0];rintro e w1 ⟨hb1,a1,c1,rfl,hr1⟩;obtain ⟨b,o,rfl,hA,hb,hc⟩:=hr1.get 0 sm;simp only [List.getElem_cons_zero,Nat.add_zero] at hc;clear hr1)
 go_loopg [4,5] x (fun gk t4' t5' wr=>∃n:Nat,gk≤x∧t5'=.int .u64 gk∧t4'=.int .i64 n∧n≤16∧Hid (n+Qq gk=L)∧wr=w1)
 case atStart=>exact ⟨0,Nat.le_refl _,rfl,rfl,om,hid (by rw [HL.out];omega),rfl⟩
 case round=>
  obtain ⟨n,hg,rfl,rfl,hn,HN,rfl⟩:=hrel
  by_cases hgt:0 < gk
  ·have h2:=Zcx gk om
   have h3:=HN.out
   have hn2:n < 16:=om
   have hgI:(0:Int) < (gk:Int):=om
   obtain ⟨m,hm⟩:∃m,m=gk / 2:=⟨_,rfl⟩
   have hd:(gk:Int) / 2=(m:Int):=om
   rw [←hm] at h2
   have HM:=hid hm
   clear hm
   have H2:=hid h2
   clear h2 h3
   go_wp2_with fail
   go_roundg m
   case measure=>have:=HM.out;omega
   case rel=>exact ⟨n+1,by have:=HM.out;omega,by go_num,by go_num,om,hid (by have h2:=H2.out;have h3:=HN.out;omega),rfl⟩
  obtain rfl:gk=0:=om
  have hn2:n=L:=by have:=HN.out;simp [Qq] at this;exact this
  subst hn2
  have hgI:¬(0:Int) < ((0:Nat):Int):=om
  go_wp2_with fail
  go_ret
  exact ⟨rfl,hb1⟩
theorem Zsf (x i:Nat) (w:World) (A:Nat→Prop) (a:Option Addr) (c:Nat) (hx:x < 65536) (hi:i < 16) (hr:RL w A (W7 x) a):
  Calls prog 204 #[.slice a (W7 x).length ((W7 x).length+c),.int .i64 i] w fun e w'=>e=.returned (.bool (x / 2 ^ i % 2==1))∧Below w.heap.size w w':=by
 have HR:=hid hr
 have hi0:¬((i:Int) < 0):=om
 have hd:(i:Int) / 16=0:=om
 have hm:(i:Int) % 16=(i:Int):=om
 clear hr
 rcases Nat.eq_zero_or_pos x with rfl|h0
 ·go_enter func204,ntmps204
  go_wp2_with (go_at_call 203;(with_reducible refine (ZpD (W7 0) 0 (QT 0) _ A a c hx (by exact HR.out)).mono ?_);rw [Zpu];rintro e w1 ⟨hb1,a1,c1,rfl,hr1⟩;clear hr1)
  go_ret
  exact ⟨XW sm,hb1⟩
 go_enter func204,ntmps204
 go_wp2_with (go_at_call 203;(with_reducible refine (ZpD (W7 x) x (QT x) _ A a c hx (by exact HR.out)).mono ?_);rw [W8 h0];rintro e w1 ⟨hb1,a1,c1,rfl,hr1⟩;obtain ⟨b,o,rfl,hA,hb,hc⟩:=hr1.get 0 sm;simp only [List.getElem_cons_zero,Nat.add_zero] at hc;clear hr1)
 go_loopg [6,7] i (fun gk t6' t7' wr=>∃k z:Nat,gk+k=i∧t7'=.int .i64 k∧t6'=.int .u64 z∧z < 65536∧Hid (z=x / 2 ^ k)∧wr=w1)
 case atStart=>exact ⟨0,x,rfl,rfl,rfl,hx,hid sm,rfl⟩
 case round=>
  obtain ⟨k,z,hk,rfl,rfl,hz,HZ,rfl⟩:=hrel
  by_cases hlt:k < i
  ·obtain ⟨m,hm⟩:∃m,m=z / 2:=⟨_,rfl⟩
   have hd2:(z:Int) / 2=(m:Int):=om
   have HM:=hid hm
   clear hm
   go_wp2_with fail
   go_roundg (gk - 1)
   case measure=>omega
   case rel=>exact ⟨k+1,m,om,by go_num,by go_num,by have:=HM.out;omega,hid (by rw [HM.out,HZ.out,Nat.div_div_eq_div_mul,Nat.pow_succ]),rfl⟩
  obtain rfl:k=i:=om
  go_wp2_with fail
  go_ret
  exact ⟨XW (by rw [←HZ.out];first|exact Ztr _|trace_state),hb1⟩
set_option maxRecDepth 512
theorem Zsc {w:World} {b:Nat} {x y:Nat} (h0:w.cell? ⟨b,0,none⟩=some (.int .u64 x)) (h1:w.cell? ⟨b,1,none⟩=some (.int .u64 y)):∀i (h:i < [x,y].length),w.cell? ⟨b,0+i,none⟩=some (.int .u64 ([x,y][i]:Int))
 | 0,_=>h0
 | 1,_=>h1
 | n+2,h=>absurd h sm
theorem Zrw {w:World} {b:Nat} {x y z:Nat} (h0:w.cell? ⟨b,0,none⟩=some (.int .u64 x)) (h1:w.cell? ⟨b,1,none⟩=some (.int .u64 y)) (h2:w.cell? ⟨b,2,none⟩=some (.int .u64 z)):∀i (h:i < [x,y,z].length),w.cell? ⟨b,0+i,none⟩=some (.int .u64 ([x,y,z][i]:Int))
 | 0,_=>h0
 | 1,_=>h1
 | 2,_=>h2
 | n+3,h=>absurd h sm
set_option maxRecDepth 100000
set_option maxHeartbeats 2000000
theorem Ztm (x:Nat) (w:World) (A:Nat→Prop) (a:Option Addr) (c:Nat) (hx:x < 65536) (h0:0 < x) (hr:RL w A (W7 x) a):
  Calls prog 205 #[.slice a (W7 x).length ((W7 x).length+c),.int .i64 1] w fun e w'=>Below w.heap.size w w'∧∃a' c',e=.returned (.tuple #[.slice a' (W7 (x / 2)).length ((W7 (x / 2)).length+c'),.int .i64 0])∧RL w' (fun b=>w.heap.size≤b) (W7 (x / 2)) a':=by
 have HR:=hid hr
 obtain ⟨L,hL⟩:∃L,L=Qq x:=⟨_,rfl⟩
 have hL16:L≤16:=by rw [hL];exact ZrL hx
 have hL1:1≤L:=by rw [hL];exact Zsu h0
 have HL:=hid hL
 have HLEN:Hid (∀W,RL W A (W7 x) a→Calls prog 210 #[.slice a 1 (1+c)] W fun e w'=>e=.returned (.int .i64 L)∧Below W.heap.size W w'):=hid (fun W h=>by have:=Ztd x W A a c hx h;rw [W8 h0,←hL] at this;exact this)
 have HBIT:Hid (∀W (k:Nat),k+1 < 16→RL W A (W7 x) a→Calls prog 204 #[.slice a 1 (1+c),.int .i64 ((k:Int)+1)] W fun e w'=>e=.returned (.bool (x / 2 ^ (k+1) % 2==1))∧Below W.heap.size W w'):=hid (fun W k hk h=>by have:=Zsf x (k+1) W A a c hx hk h;rw [W8 h0] at this;exact this)
 have HDIG:Hid (Calls prog 203 #[.slice a 1 (1+c)] w fun e w'=>Below w.heap.size w w'∧∃a' c',e=.returned (.slice a' 1 (1+c'))∧RL w' (fun b=>w.heap.size≤b) [x] a'):=hid (by have:=ZpD (W7 x) x (QT x) w A a c hx hr;rw [W8 h0] at this;exact this)
 rw [W8 h0]
 clear hr hL
 have hmk:=Ztf
 go_enter func205,ntmps205
 go_wp2_with (go_at_call 203;(refine HDIG.out.mono ?_);rintro e w1 ⟨hb1,a1,c1,rfl,hr1⟩;clear hr1)
 have hz1:=hb1.size
 go_loopg [7] (L - 1) (fun gk t7' wr=>∃i:Nat,gk+i=L∧1≤i∧t7'=.int .i64 i∧Below w.heap.size w wr∧w1.heap.size < wr.heap.size∧wr.cell? ⟨w1.heap.size,0,none⟩=some (.int .u64 ((x / 2 % 2 ^ (i - 1):Nat):Int))∧wr.cell? ⟨w1.heap.size,1,none⟩=some (.int .u64 0)∧wr.frozen? ⟨w1.heap.size,0,none⟩=false)
 case atStart=>exact ⟨1,om,om,rfl,ZtZ,sm,by simp only [Nat.sub_self,Nat.pow_zero,Nat.mod_one];go_simp,gs,gs⟩
 case round=>
  obtain ⟨i,hi,hi1,rfl,hb,hz,hq0,hq1,hf⟩:=hrel
  obtain ⟨k,rfl⟩:∃k,i=k+1:=⟨i - 1,om⟩
  simp only [Nat.add_sub_cancel] at hq0
  by_cases hlt:k+1 < L
  ·have hltI:((k+1:Nat):Int) < (L:Int):=om
   have hp:=ZrP (k:=k) om
   have hs:IntKind.i64.wrap (((k+1:Nat):Int) - 1)=(k:Int):=by rw [IntWalk.i64_in _ om];omega
   have hs2:((k+1:Nat):Int) - 1=(k:Int):=om
   have hd:(k:Int) / 16=0:=om
   have hm:(k:Int) % 16=(k:Int):=om
   have hx2:x / 2 % 2 ^ k < 2 ^ k:=Nat.mod_lt _ (Nat.pos_of_ne_zero sm)
   cases hbit:(x / 2 ^ (k+1) % 2==1)
   ·have HB:=hid (Zsq hbit)
    generalize x / 2 % 2 ^ k=q at *
    have HBT:=hid hbit
    clear hbit
    go_wp2_with (first
     | (go_at_call 210;(with_reducible refine (HLEN.out _ (by exact Zt6 ar HR.out)).mono ?_);rintro e w2 ⟨rfl,hb2⟩;obtain ⟨hc2,hf2⟩:=Za hb2;have hz2:=hb2.size)
     | (go_at_call 204;(with_reducible refine (HBIT.out _ k om (by exact Zt6 ar HR.out)).mono ?_);rw [HBT.out];rintro e w3 ⟨rfl,hb3⟩;obtain ⟨hc3,hf3⟩:=Za hb3;have hz3:=hb3.size))
    go_roundg (gk - 1)
    case measure=>omega
    case rel=>exact ⟨k+1+1,om,om,by go_num,ZtZ,om,by simp only [Nat.add_sub_cancel];rw [HB.out,hc3 _ _ om,hc2 _ _ om];exact hq0,by rw [hc3 _ _ om,hc2 _ _ om];exact hq1,by rw [hf3 _ _ om,hf2 _ _ om];exact hf⟩
   have HB:=hid (ZsO hbit)
   generalize x / 2 % 2 ^ k=q at *
   have HBT:=hid hbit
   clear hbit
   go_wp2_with (first
    | (go_at_call 210;(with_reducible refine (HLEN.out _ (by exact Zt6 ar HR.out)).mono ?_);rintro e w2 ⟨rfl,hb2⟩;obtain ⟨hc2,hf2⟩:=Za hb2;have hz2:=hb2.size)
    | (go_at_call 204;(with_reducible refine (HBIT.out _ k om (by exact Zt6 ar HR.out)).mono ?_);rw [HBT.out];rintro e w3 ⟨rfl,hb3⟩;obtain ⟨hc3,hf3⟩:=Za hb3;have hz3:=hb3.size))
   obtain ⟨gz,hgz⟩:∃gz,gz=gk:=⟨_,rfl⟩
   go_loopg [9,10] k (fun gj t9' t10' wq=>∃j:Nat,gj+j=k∧t10'=.int .i64 j∧t9'=.int .u64 ((2 ^ j:Nat):Int)∧wq=w3)
   case atStart=>exact ⟨0,rfl,rfl,rfl,rfl⟩
   case round=>
    obtain ⟨j,hj,rfl,rfl,rfl⟩:=hrel
    have hpj:=ZrP (k:=j) om
    by_cases hltj:j < k
    ·have hps:2 ^ (j+1)=2*2 ^ j:=by rw [Nat.pow_succ];omega
     have HPS:=hid hps
     clear hps
     generalize 2 ^ j=pj at *
     go_wp2_with fail
     go_roundg (gk - 1)
     case measure=>omega
     case rel=>exact ⟨j+1,om,by go_num,by rw [HPS.out];go_num,rfl⟩
    obtain rfl:j=k:=om
    have hcq:wr.cell? ⟨w1.heap.size,0,none⟩=some (.int .u64 (q:Int)):=by rw [hc3 _ _ om,hc2 _ _ om];exact hq0
    have hcr:wr.cell? ⟨w1.heap.size,1,none⟩=some (.int .u64 0):=by rw [hc3 _ _ om,hc2 _ _ om];exact hq1
    have hff:wr.frozen? ⟨w1.heap.size,0,none⟩=false:=by rw [hf3 _ _ om,hf2 _ _ om];exact hf
    clear hc2 hc3 hf2 hf3
    generalize 2 ^ j=pj at *
    go_wp2_with fail
    go_roundg (L - (j+2))
    case measure=>omega
    case rel=>exact ⟨j+1+1,om,om,by go_num,ZtZ,by simp;omega,by simp only [Nat.add_sub_cancel];rw [HB.out];go_simp,gs,gs⟩
  obtain rfl:L=k+1:=om
  have hltI:¬((k+1:Nat):Int) < ((k+1:Nat):Int):=om
  rw [Zsp HL.out.symm h0] at hq0
  go_wp2_with (first
   | (go_at_call 210;(with_reducible refine (HLEN.out _ (by exact Zt6 ar HR.out)).mono ?_);rintro e w2 ⟨rfl,hb2⟩;obtain ⟨hc2,hf2⟩:=Za hb2;have hz2:=hb2.size)
   | (go_at_call 202;refine (Zq9 [x / 2,0] (x / 2) (.inr ⟨1,rfl⟩) _ (fun b=>w.heap.size≤b) (some ⟨w1.heap.size,0,none⟩) 0 _ _ sm sm sm om (.inr ⟨w1.heap.size,0,rfl,hz1,Zsc (by rw [hc2 _ _ om];exact hq0) (by rw [hc2 _ _ om];exact hq1)⟩)).mono ?_;rintro e w3 ⟨hb3,a3,c3,rfl,hr3⟩))
  go_ret2
  exact ⟨ZtZ,a3,c3,rfl,Zt7 (fun b h _=>om) hr3⟩
theorem ZsB (n:Nat) (w:World) (hn:n < 16):
  Calls prog 254 #[.int .i64 n] w fun e w'=>Below w.heap.size w w'∧∃a' c',e=.returned (.slice a' (W7 (2 ^ n)).length ((W7 (2 ^ n)).length+c'))∧RL w' (fun b=>w.heap.size≤b) (W7 (2 ^ n)) a':=by
 have hd:(n:Int) / 16=0:=om
 have hm:(n:Int) % 16=(n:Int):=om
 have hmk:=Zte
 obtain ⟨pn,hP⟩:∃pn,2 ^ n=pn:=⟨_,rfl⟩
 have hpn:=ZrP (k:=n) om
 rw [hP] at hpn ⊢
 have HP:=hid hP
 clear hP
 go_enter func254,ntmps254
 go_wp2_with fail
 go_loopg [4,5] n (fun gk t4' t5' wr=>∃j:Nat,gk+j=n∧t5'=.int .i64 j∧t4'=.int .u64 ((2 ^ j:Nat):Int)∧Below w.heap.size w wr∧w.heap.size < wr.heap.size∧wr.cell? ⟨w.heap.size,0,none⟩=some (.int .u64 0)∧wr.frozen? ⟨w.heap.size,0,none⟩=false)
 case atStart=>exact ⟨0,rfl,rfl,rfl,ZtZ,sm,gs,gs⟩
 case round=>
  obtain ⟨j,hj,rfl,rfl,hb,hz,hc,hf⟩:=hrel
  have hpj:=ZrP (k:=j) om
  by_cases hltj:j < n
  ·have hps:2 ^ (j+1)=2*2 ^ j:=by rw [Nat.pow_succ];omega
   have HPS:=hid hps
   clear hps
   generalize 2 ^ j=pj at *
   go_wp2_with fail
   go_roundg (gk - 1)
   case measure=>omega
   case rel=>exact ⟨j+1,om,by go_num,by rw [HPS.out];go_num,hb,hz,hc,hf⟩
  obtain rfl:j=n:=om
  rw [HP.out]
  go_wp2_with (go_at_call 202;refine (Zq9 [pn] pn (Zp6 pn) _ (fun b=>w.heap.size≤b) (some ⟨w.heap.size,0,none⟩) 0 _ _ sm sm sm om (.inr ⟨w.heap.size,0,rfl,Nat.le_refl _,fun i hi=>by obtain rfl:i=0:=(by simpa using hi);go_simp⟩)).mono ?_;rintro e w3 ⟨hb3,a3,c3,rfl,hr3⟩)
  go_ret
  exact ⟨ZtZ,a3,c3,rfl,Zt7 (fun b h _=>by (try simp at h);omega) hr3⟩
theorem Zti (x y:Nat) (w:World) (A A2:Nat→Prop) (a b:Option Addr) (c d:Nat) (hx0:0 < x) (hy0:0 < y) (hxy:x*y < 65536) (hr:RL w A (W7 x) a) (hs:RL w A2 (W7 y) b):
  Calls prog 253 #[.slice a (W7 x).length ((W7 x).length+c),.slice b (W7 y).length ((W7 y).length+d)] w fun e w'=>Below w.heap.size w w'∧∃a' c',e=.returned (.slice a' (W7 (x*y)).length ((W7 (x*y)).length+c'))∧RL w' (fun b=>w.heap.size≤b) (W7 (x*y)) a':=by
 have hx:x < 65536:=Nat.lt_of_le_of_lt (Nat.le_mul_of_pos_right x hy0) hxy
 have hy:y < 65536:=Nat.lt_of_le_of_lt (Nat.le_mul_of_pos_left y hx0) hxy
 obtain ⟨p,hp⟩:∃p,p=x*y:=⟨_,rfl⟩
 have hpI:(x:Int)*(y:Int)=(p:Int):=by rw [hp];simp
 rw [←hp] at hxy ⊢
 have HDX:Hid (∀W,RL W A (W7 x) a→Calls prog 203 #[.slice a 1 (1+c)] W fun e w'=>Below W.heap.size W w'∧∃a' c',e=.returned (.slice a' 1 (1+c'))∧RL w' (fun b=>W.heap.size≤b) [x] a'):=hid (fun W h=>by have:=ZpD (W7 x) x (QT x) W A a c hx h;rw [W8 hx0] at this;exact this)
 have HDY:Hid (∀W,RL W A2 (W7 y) b→Calls prog 203 #[.slice b 1 (1+d)] W fun e w'=>Below W.heap.size W w'∧∃a' c',e=.returned (.slice a' 1 (1+c'))∧RL w' (fun b=>W.heap.size≤b) [y] a'):=hid (fun W h=>by have:=ZpD (W7 y) y (QT y) W A2 b d hy h;rw [W8 hy0] at this;exact this)
 have HR:=hid hr
 have HS:=hid hs
 rw [W8 hx0,W8 hy0]
 have hmk:=Ztg
 have hw1:IntKind.u64.wrap (p:Int)=(p:Int):=IntWalk.u64_in _ om
 have hm:(p:Int) % 65536=(p:Int):=om
 have hd:(p:Int) / 65536=0:=om
 clear hr hs hp
 go_enter func253,ntmps253
 go_wp2_with (first
  | (go_at_call 203;(with_reducible refine (HDX.out _ (by exact Zt6 ar HR.out)).mono ?_);rintro e w1 ⟨hb1,a1,c1,rfl,hr1⟩;have hz1:=hb1.size)
  | (go_at_call 203;(with_reducible refine (HDY.out _ (by exact Zt6 ar HS.out)).mono ?_);rintro e w2 ⟨hb2,a2,c2,rfl,hr2⟩;have hz2:=hb2.size))
 have hr1':=Zt6 (ZtY hb2) hr1
 obtain ⟨b1,o1,rfl,hA1,hs1,hc1⟩:=hr1'.get 0 sm
 obtain ⟨b2,o2,rfl,hA2,hs2,hc2⟩:=hr2.get 0 sm
 simp only [List.getElem_cons_zero,Nat.add_zero] at hc1 hc2
 clear hr1 hr2 hr1'
 go_loopg [8,9,10,11] 1 (fun gk t8' t9' t10' t11' wr=>Below w.heap.size w wr∧w2.heap.size < wr.heap.size∧wr.cell? ⟨b1,o1,none⟩=some (.int .u64 x)∧wr.cell? ⟨b2,o2,none⟩=some (.int .u64 y)∧wr.cell? ⟨w2.heap.size,1,none⟩=some (.int .u64 0)∧wr.cell? ⟨w2.heap.size,2,none⟩=some (.int .u64 0)∧wr.frozen? ⟨w2.heap.size,0,none⟩=false∧(gk=1∧t8'=.int .i64 0∧wr.cell? ⟨w2.heap.size,0,none⟩=some (.int .u64 0)∨gk=0∧t8'=.int .i64 1∧wr.cell? ⟨w2.heap.size,0,none⟩=some (.int .u64 p)))
 case atStart=>exact ⟨ZtZ,sm,gs,gs,gs,gs,gs,.inl ⟨rfl,rfl,gs⟩⟩
 case round=>
  obtain ⟨hb,hz,k1,k2,q1,q2,qf,⟨rfl,rfl,q0⟩|⟨rfl,rfl,q0⟩⟩:=hrel
  ·go_wp2_with fail
   go_loopg [9,10,11] 1 (fun gk t9' t10' t11' wr=>Below w.heap.size w wr∧w2.heap.size < wr.heap.size∧wr.cell? ⟨b1,o1,none⟩=some (.int .u64 x)∧wr.cell? ⟨b2,o2,none⟩=some (.int .u64 y)∧wr.cell? ⟨w2.heap.size,1,none⟩=some (.int .u64 0)∧wr.cell? ⟨w2.heap.size,2,none⟩=some (.int .u64 0)∧wr.frozen? ⟨w2.heap.size,0,none⟩=false∧t9'=.int .u64 0∧(gk=1∧t10'=.int .i64 0∧wr.cell? ⟨w2.heap.size,0,none⟩=some (.int .u64 0)∨gk=0∧t10'=.int .i64 1∧wr.cell? ⟨w2.heap.size,0,none⟩=some (.int .u64 p)))
   case atStart=>exact ⟨hb,hz,k1,k2,q1,q2,qf,rfl,.inl ⟨rfl,rfl,q0⟩⟩
   case round=>
    obtain ⟨hb,hz,k1,k2,q1,q2,qf,rfl,⟨rfl,rfl,q0⟩|⟨rfl,rfl,q0⟩⟩:=hrel
    ·go_wp2_with fail
     go_region
     go_wp2_with fail
     go_roundg 0
     case measure=>omega
     case rel=>exact ⟨ZtZ,by simp;omega,gs,gs,gs,gs,gs,by go_num,.inr ⟨rfl,by go_num,gs⟩⟩
    go_wp2_with fail
    go_roundg 0
    case measure=>omega
    case rel=>exact ⟨hb,hz,k1,k2,q1,q2,qf,.inr ⟨rfl,by go_num,q0⟩⟩
  go_wp2_with (go_at_call 202;refine (Zq9 [p,0,0] p (.inr ⟨2,rfl⟩) _ (fun b=>w.heap.size≤b) (some ⟨w2.heap.size,0,none⟩) 0 _ _ sm sm sm om (.inr ⟨w2.heap.size,0,rfl,om,Zrw q0 q1 q2⟩)).mono ?_;rintro e w3 ⟨hb3,a3,c3,rfl,hr3⟩)
  go_ret
  exact ⟨ZtZ,a3,c3,rfl,Zt7 (fun b h _=>om) hr3⟩
theorem Ztl (x n:Nat) (w:World) (A:Nat→Prop) (a:Option Addr) (c:Nat) (hx0:0 < x) (hn:n < 16) (hxn:x*2 ^ n < 65536) (hr:RL w A (W7 x) a):
  Calls prog 209 #[.slice a (W7 x).length ((W7 x).length+c),.int .i64 n] w fun e w'=>Below w.heap.size w w'∧∃a' c',e=.returned (.tuple #[.slice a' (W7 (x*2 ^ n)).length ((W7 (x*2 ^ n)).length+c'),.int .i64 0])∧RL w' (fun b=>w.heap.size≤b) (W7 (x*2 ^ n)) a':=by
 have HR:=hid hr
 have h1:¬((n:Int) < 0):=om
 have h2:¬((65536:Int) < (n:Int)):=om
 have hp:0 < 2 ^ n:=Nat.pos_of_ne_zero sm
 have HPW:=hid (fun W=>ZsB n W hn)
 generalize 2 ^ n=P at *
 clear hr
 go_enter func209,ntmps209
 go_wp2_with (first
  | (go_at_call 254;(with_reducible refine (HPW.out _).mono ?_);rintro e w1 ⟨hb1,a1,c1,rfl,hr1⟩;have HR1:=hid hr1;clear hr1;have hz1:=hb1.size)
  | (go_at_call 253;(with_reducible refine (Zti x P _ A (fun b=>w.heap.size≤b) a a1 c c1 hx0 hp hxn (by exact Zt6 ar HR.out) (by exact HR1.out)).mono ?_);rintro e w2 ⟨hb2,a2,c2,rfl,hr2⟩;have HR2:=hid hr2;clear hr2;have hz2:=hb2.size))
 go_ret2
 exact ⟨ZtZ,a2,c2,rfl,Zt7 (fun b h _=>om) HR2.out⟩
theorem Zs8 (x:Nat) (w:World) (A:Nat→Prop) (a:Option Addr) (c:Nat) (hx0:0 < x) (hx:x < 65536) (hr:RL w A (W7 x) a):
  Calls prog 136 #[.slice a (W7 x).length ((W7 x).length+c),.slice none 0 0] w fun e w'=>Below w.heap.size w w'∧∃a' c',e=.returned (.slice a' (W7 x).length ((W7 x).length+c'))∧RL w' (fun b=>w.heap.size≤b) (W7 x) a':=by
 obtain ⟨j0,hj0,hj1',hj2,hj3⟩:=info_parts ZpI
 have HDX:Hid (∀W,RL W A (W7 x) a→Calls prog 203 #[.slice a 1 (1+c)] W fun e w'=>Below W.heap.size W w'∧∃a' c',e=.returned (.slice a' 1 (1+c'))∧RL w' (fun b=>W.heap.size≤b) [x] a'):=hid (fun W h=>by have:=ZpD (W7 x) x (QT x) W A a c hx h;rw [W8 hx0] at this;exact this)
 have HDY:Hid (∀W:World,Calls prog 203 #[.slice none 0 0] W fun e w'=>Below W.heap.size W w'∧∃a' c',e=.returned (.slice a' 0 (0+c'))):=hid (fun W=>(ZpD [] 0 (.inl ⟨rfl,rfl⟩) W (fun _=>True) none 0 om (RL.nil _ _ _)).mono fun e w' ⟨hb,a',c',he,_⟩=>⟨hb,a',c',he⟩)
 have HJ:Hid (∀(W:World) g cap,RL W (fun b=>w.heap.size≤b) [x] (some ⟨g,0,none⟩)→Calls prog 202 #[.slice (some ⟨g,0,none⟩) 1 (1+cap)] W fun e w'=>Below W.heap.size W w'∧∃a' c',e=.returned (.slice a' 1 (1+c'))∧RL w' (fun b=>W.heap.size≤b) [x] a'):=hid (fun W g cap h=>by have:=Zq9 [x] x (Zp6 x) W (fun b=>w.heap.size≤b) (some ⟨g,0,none⟩) cap 1 (1+cap) rfl rfl sm hx h;rw [W8 hx0] at this;exact this)
 have HR:=hid hr
 rw [W8 hx0]
 have hm:(x:Int) % 65536=(x:Int):=om
 have hd:(x:Int) / 65536=0:=om
 clear hr
 go_enter func136,ntmps136
 go_wp2_with (first
  | (go_at_call 203;(with_reducible refine (HDX.out _ (by exact Zt6 ar HR.out)).mono ?_);rintro e w1 ⟨hb1,a1,c1,rfl,hr1⟩;have hz1:=hb1.size)
  | (go_at_call 203;(with_reducible refine (HDY.out _).mono ?_);rintro e w2 ⟨hb2,a2,c2,rfl⟩;have hz2:=hb2.size))
 have hr1':=Zt6 (ZtY hb2) hr1
 obtain ⟨b1,o1,rfl,hA1,hs1,hc1⟩:=hr1'.get 0 sm
 simp only [List.getElem_cons_zero,Nat.add_zero] at hc1
 clear hr1 hr1'
 go_loopg [7,8,9,10] 1 (fun gk t7' t8' t9' t10' wr=>Below w.heap.size w wr∧t8'=.int .u64 0∧(gk=1∧t7'=.slice none 0 0∧t9'=.int .i64 0∧wr.cell? ⟨b1,o1,none⟩=some (.int .u64 x)∨gk=0∧t9'=.int .i64 1∧∃g cap,t7'=.slice (some ⟨g,0,none⟩) 1 (1+cap)∧Hid (RL wr (fun b=>w.heap.size≤b) [x] (some ⟨g,0,none⟩))))
 case atStart=>exact ⟨ZtZ,rfl,.inl ⟨rfl,rfl,rfl,hc1⟩⟩
 case round=>
  obtain ⟨hb,rfl,⟨rfl,rfl,rfl,k0⟩|⟨rfl,rfl,g,cap,rfl,HG⟩⟩:=hrel
  ·have hz:=hb.size
   go_wp2_with (at_builtin;refine wpList_append_lies _ rfl _ _ 44 rfl w.heap.size 84 j0 (.int .u64 0) 1 8 underlying44 hj0 hj1' hj2 hj3 rfl (by decide) _ 0 [] (by rfl) ((World.ownsRow_nil _ _ _ _).alloc _) ⟨wr.heap.size,0,none⟩ 1 1 [.int .u64 x] (by rfl) rfl (cell_one_new _ _ _) (by simp [Value.oneCell']) (by decide) (by unfold maxLen;omega) om (by simp;omega) (wr.heap.size+1) sm ?_;intro g cap w4 hown hgrow hat hlt1)
   have hbw:Below w.heap.size wr w4:=Below.grown ((Below.refl _ _).alloc om _) hgrow (by simp;omega) (fun q e=>by cases e)
   obtain ⟨a2,c2,he,hrl⟩:=ZpW (l:=[x]) (by simpa using hown)
   cases he
   go_roundg 0
   case measure=>omega
   case rel=>exact ⟨hb.trans hbw,by go_num,.inr ⟨rfl,by go_num,g,_,rfl,hid hrl⟩⟩
  go_wp2_with (go_at_call 202;refine (HJ.out _ g cap (by exact HG.out)).mono ?_;rintro e w3 ⟨hb3,a3,c3,rfl,hr3⟩)
  have hz:=hb.size
  go_ret
  exact ⟨ZtZ,a3,c3,rfl,Zt7 (fun b h _=>om) hr3⟩
set_option maxRecDepth 512
theorem Zwc {p:Prop} (h:p:=by
 clear hr hs
 go_enter func56,ntmps56
 go_wp2_with fail
 go_ret
 exact ⟨rfl,Below.refl _ _⟩):p:=h
theorem Zrc (x y:Nat) (w:World) (A A2:Nat→Prop) (a b:Option Addr) (c d:Nat) (hr:RL w A (W7 x) a) (hs:RL w A2 (W7 y) b):
  Calls prog 56 #[.slice a (W7 x).length c,.slice b (W7 y).length d] w fun e w'=>e=.returned (.bool (x==y))∧Below w.heap.size w w':=by
 rcases Nat.eq_zero_or_pos x with rfl|hx<;>rcases Nat.eq_zero_or_pos y with rfl|hy
 ·rw [Zpu]
  clear hr hs
  go_enter func56,ntmps56
  go_wp2_with fail
  go_loopg [5] 1 (fun gk t5' wr=>gk=1∧t5'=.int .i64 0∧wr=w)
  case atStart=>exact ⟨rfl,rfl,rfl⟩
  case round=>
   obtain ⟨rfl,rfl,rfl⟩:=hrel
   go_wp2_with fail
   go_ret
   exact ⟨rfl,Below.refl _ _⟩
 ·have he:((0:Nat)==y)=false:=by simp;omega
  rw [he,Zpu,W8 hy]
  exact Zwc
 ·have he:(x==0)=false:=by simp;omega
  rw [he,Zpu,W8 hx]
  exact Zwc
 have he:((x:Int) != (y:Int))= !(x==y):=by rw [Bool.eq_iff_iff];simp;omega
 rw [W8 hx] at hr ⊢
 rw [W8 hy] at hs ⊢
 obtain ⟨b1,o1,rfl, -,hs1,hc1⟩:=hr.get 0 sm
 obtain ⟨b2,o2,rfl, -,hs2,hc2⟩:=hs.get 0 sm
 simp only [List.getElem_cons_zero,Nat.add_zero] at hc1 hc2
 clear hr hs
 generalize (x==y)=B at he ⊢
 go_enter func56,ntmps56
 go_wp2_with fail
 go_loopg [5] 1 (fun gk t5' wr=>Below w.heap.size w wr∧wr.cell? ⟨b1,o1,none⟩=some (.int .u64 x)∧wr.cell? ⟨b2,o2,none⟩=some (.int .u64 y)∧(gk=1∧t5'=.int .i64 0∨gk=0∧t5'=.int .i64 1∧B=true))
 case atStart=>exact ⟨Below.refl _ _,hc1,hc2,.inl ⟨rfl,rfl⟩⟩
 case round=>
  obtain ⟨hb,k1,k2,⟨rfl,rfl⟩|⟨rfl,rfl,rfl⟩⟩:=hrel
  ·cases B
   ·rw [Bool.not_false] at he
    go_wp2_with fail
    go_region
    go_wp2_with fail
    go_ret
    exact ⟨rfl,ZtZ⟩
   rw [Bool.not_true] at he
   go_wp2_with fail
   go_region
   go_wp2_with fail
   go_roundg 0
   case measure=>omega
   case rel=>exact ⟨ZtZ,gs,gs,.inr ⟨rfl,by go_num,trivial⟩⟩
  go_wp2_with fail
  go_ret
  exact ⟨rfl,hb⟩
theorem Ztk {n k:Nat} (h:2 ^ n≤k) (hk:k < 65536):n < 16:=by
 refine Nat.lt_of_not_le fun h16=>?_
 have:=Nat.pow_le_pow_right (n:=2) om h16
 simp at this
 omega
abbrev At1 (f:FuncId) (x y:Nat):Prop:=∀(W:World) (A:Nat→Prop) (a:Option Addr) (c:Nat),RL W A [x] a→Calls prog f #[.slice a 1 (1+c),.int .i64 1] W fun e w'=>Below W.heap.size W w'∧∃a' c',e=.returned (.tuple #[.slice a' 1 (1+c'),.int .i64 0])∧RL w' (fun b=>W.heap.size≤b) [y] a'
theorem ZrQ (x:Nat) (hx0:0 < x / 2) (hx:x < 65536):At1 205 x (x / 2):=fun W A a c h=>by
 have:=Ztm x W A a c hx om (by rw [W8 om];exact h)
 rw [W8 hx0,W8 om] at this
 exact this
theorem Zqj (x:Nat) (B:Bool) (hB:(x % 2==1)=B) (hx0:0 < x) (hx:x < 65536) (W:World) (A:Nat→Prop) (a:Option Addr) (c:Nat) (h:RL W A [x] a):Calls prog 204 #[.slice a 1 (1+c),.int .i64 0] W fun e w'=>e=.returned (.bool B)∧Below W.heap.size W w':=by
 have:=Zsf x 0 W A a c hx om (by rw [W8 hx0];exact h)
 rw [W8 hx0,Nat.pow_zero,Nat.div_one,hB] at this
 exact this
theorem Zq4 (x:Nat) (hx0:0 < x) (hx:x < 65536) (W:World) (A:Nat→Prop) (a:Option Addr) (c:Nat) (h:RL W A [x] a):Calls prog 206 #[.slice a 1 (1+c)] W fun e w'=>e=.returned (.tuple #[.int .u64 x,.bool true])∧Below W.heap.size W w':=by
 have:=ZqW x W A a c hx (by rw [W8 hx0];exact h)
 rw [W8 hx0] at this
 exact this
theorem ZsK (x:Nat) (hx0:0 < x) (hx:x < 65536) (W:World) (A:Nat→Prop) (a:Option Addr) (c:Nat) (h:RL W A [x] a):Calls prog 136 #[.slice a 1 (1+c),.slice none 0 0] W fun e w'=>Below W.heap.size W w'∧∃a' c',e=.returned (.slice a' 1 (1+c'))∧RL w' (fun b=>W.heap.size≤b) [x] a':=by
 have:=Zs8 x W A a c hx0 hx (by rw [W8 hx0];exact h)
 rw [W8 hx0] at this
 exact this
theorem ZlC {p:Prop} (h:p:=by
 clear hb hb4 hz hb9 HP HQ HP1 HQ1
 obtain ⟨hb,⟨rfl,rfl,rfl,HP,HQ⟩|⟨rfl,a3,c3,rfl,rfl,HG3⟩⟩:=hrel
 ·have hz:=hb.size
  go_wp2_with (first
   | (go_at_call 206;(with_reducible refine (Zq4 p hp0 hp _ (fun b=>w.heap.size≤b) s0 c0 (by exact HP.out)).mono ?_);rintro e w5 ⟨rfl,hb5⟩;have hz5:=hb5.size)
   | (go_at_call 206;(with_reducible refine (Zq4 q hq0 hq _ (fun b=>w.heap.size≤b) s1 c1 (by exact Zt6 ar HQ.out)).mono ?_);rintro e w6 ⟨rfl,hb6⟩;have hz6:=hb6.size))
  have hb7:Below w.heap.size w w6:=ZtZ
  go_loopg [6,8] q (fun gk t6' t8' wr=>∃u v:Nat,v=gk∧t6'=.int .u64 u∧t8'=.int .u64 v∧u < 65536∧v < 65536∧Hid (Nat.gcd u v=Nat.gcd p q)∧Below w.heap.size w wr)
  case atStart=>exact ⟨p,q,rfl,rfl,rfl,hp,hq,hid rfl,hb7⟩
  case round=>
   clear hb7
   obtain ⟨u,v,rfl,rfl,rfl,hu,hv,HU,hb7⟩:=hrel
   have hz7:=hb7.size
   rcases Nat.eq_zero_or_pos v with rfl|hv0
   ·have hug:u=Nat.gcd p q:=by have:=HU.out;rw [Nat.gcd_zero_right] at this;exact this
    have HUG:=hid hug
    have hu0:0 < u:=om
    clear hug
    go_wp2_with (go_at_call 135;refine (ZrN u _ hu).mono ?_;rw [W8 hu0];rintro e w8 ⟨hb8,a8,c8,rfl,hr8⟩;have hz8:=hb8.size)
    go_roundg 0
    case measure=>omega
    case rel=>exact ⟨hb7.trans (hb8.mono om),.inr ⟨rfl,a8,c8,rfl,rfl,hid (by rw [←HUG.out];exact Zt7 (fun b h _=>om) hr8)⟩⟩
   obtain ⟨m,hm⟩:∃m,m=u % v:=⟨_,rfl⟩
   have hmv:m < v:=by rw [hm];exact Nat.mod_lt _ hv0
   have hmI:(u:Int) % (v:Int)=(m:Int):=by rw [hm];rfl
   have hgm:Nat.gcd v m=Nat.gcd p q:=by rw [hm,←HU.out,Nat.gcd_comm u v,Nat.gcd_rec v u,Nat.gcd_comm]
   have HGM:=hid hgm
   have hvI:(0:Int) < (v:Int):=om
   have hvB:((v:Int)==0)=false:=by simp;omega
   have hvN:¬v=0:=om
   clear hm hgm
   go_wp2_with fail
   go_region
   go_wp2_with fail
   go_roundg m
   case measure=>omega
   case rel=>exact ⟨v,m,rfl,rfl,by go_num,hv,om,HGM,hb7.drew⟩
 have hz:=hb.size
 have HSHL:Hid (∀(W:World) (A:Nat→Prop) a c,RL W A [Nat.gcd p q] a→Calls prog 209 #[.slice a 1 (1+c),.int .i64 n] W fun e w'=>Below W.heap.size W w'∧∃a' c',e=.returned (.tuple #[.slice a' (W7 G).length ((W7 G).length+c'),.int .i64 0])∧RL w' (fun b=>W.heap.size≤b) (W7 G) a'):=hid (fun W A a c h=>by have:=Ztl (Nat.gcd p q) n W A a c hg0 hn16 hgn (by rw [W8 hg0];exact h);rw [HGN.out,W8 hg0] at this;exact this)
 go_wp2_with (first
  | (go_at_call 136;(with_reducible refine (ZsK (Nat.gcd p q) hg0 hg9 _ (fun b=>w.heap.size≤b) a3 c3 (by exact HG3.out)).mono ?_);rintro e w5 ⟨hb5,a5,c5,rfl,hr5⟩;have HR5:=hid hr5;clear hr5;have hz5:=hb5.size)
  | (go_at_call 209;(with_reducible refine (HSHL.out _ _ a5 c5 (by exact HR5.out)).mono ?_);rintro e w6 ⟨hb6,a6,c6,rfl,hr6⟩;have HR6:=hid hr6;clear hr6;have hz6:=hb6.size))
 go_ret
 exact ⟨ZtZ,a6,c6,rfl,Zt7 (fun b h _=>om) HR6.out⟩):p:=h
set_option maxRecDepth 100000
set_option maxHeartbeats 4000000
theorem Ztb (x y:Nat) (w:World) (A A2:Nat→Prop) (a b:Option Addr) (c d:Nat) (hx:x < 65536) (hy:y < 65536) (h0:0 < y) (hr:RL w A (W7 x) a) (hs:RL w A2 (W7 y) b):
  Calls prog 132 #[.slice a (W7 x).length ((W7 x).length+c),.slice b (W7 y).length ((W7 y).length+d)] w fun e w'=>Below w.heap.size w w'∧∃a' c',e=.returned (.slice a' (W7 (Nat.gcd x y)).length ((W7 (Nat.gcd x y)).length+c'))∧RL w' (fun b=>w.heap.size≤b) (W7 (Nat.gcd x y)) a':=by
 have HR:=hid hr
 have HS:=hid hs
 rcases Nat.eq_zero_or_pos x with rfl|hx0
 ·rw [Nat.gcd_zero_left]
  clear hr hs
  go_enter func132,ntmps132
  go_wp2_with (first
   | (go_at_call 131;(with_reducible refine (ZpK (W7 0) 0 (QT 0) _ A a c hx (by exact HR.out)).mono ?_);rw [Zpu];rintro e w1 ⟨hb1,a1,c1,rfl,hr1⟩;clear hr1;have hz1:=hb1.size)
   | (go_at_call 131;(with_reducible refine (ZpK (W7 y) y (QT y) _ A2 b d hy (by exact Zt6 ar HS.out)).mono ?_);rintro e w2 ⟨hb2,a2,c2,rfl,hr2⟩;have HR2:=hid hr2;clear hr2;have hz2:=hb2.size;(try simp at hz2)))
  go_ret
  exact ⟨ZtZ,a2,c2,rfl,Zt7 (fun b h _=>om) HR2.out⟩
 obtain ⟨G,hG⟩:∃G,Nat.gcd x y=G:=⟨_,rfl⟩
 have hG0:0 < G:=by rw [←hG];exact Nat.gcd_pos_of_pos_right _ h0
 have hGx:G≤y:=by rw [←hG];exact Nat.gcd_le_right _ h0
 rw [hG]
 have HG:=hid hG
 clear hr hs hG
 go_enter func132,ntmps132
 go_wp2_with (first
  | (go_at_call 131;(with_reducible refine (ZpK (W7 x) x (QT x) _ A a c hx (by exact HR.out)).mono ?_);rw [W8 hx0];rintro e w1 ⟨hb1,a1,c1,rfl,hr1⟩;have HR1:=hid hr1;clear hr1;have hz1:=hb1.size)
  | (go_at_call 131;(with_reducible refine (ZpK (W7 y) y (QT y) _ A2 b d hy (by exact Zt6 ar HS.out)).mono ?_);rw [W8 h0];rintro e w2 ⟨hb2,a2,c2,rfl,hr2⟩;have HR2:=hid hr2;clear hr2;have hz2:=hb2.size))
 go_loopg [0,1,5] x (fun gk t0' t1' t5' wr=>Below w.heap.size w wr∧∃(p q n:Nat) (s0 s1:Option Addr) (c0 c1:Nat),p=gk∧0 < p∧0 < q∧p < 65536∧q < 65536∧t0'=.slice s0 1 (1+c0)∧t1'=.slice s1 1 (1+c1)∧t5'=.int .i64 n∧Hid (Nat.gcd p q*2 ^ n=G)∧Hid (RL wr (fun b=>w.heap.size≤b) [p] s0)∧Hid (RL wr (fun b=>w.heap.size≤b) [q] s1))
 case atStart=>exact ⟨ZtZ,x,y,0,a1,a2,c1,c2,rfl,hx0,h0,hx,hy,rfl,rfl,rfl,hid (by simpa using HG.out),hid (Zt6 (ZtY hb2) HR1.out),hid (Zt7 (fun b h _=>om) HR2.out)⟩
 case round=>
  obtain ⟨hb,p,q,n,s0,s1,c0,c1,rfl,hp0,hq0,hp,hq,rfl,rfl,rfl,HGN,HP,HQ⟩:=hrel
  have hz:=hb.size
  have hn16:n < 16:=by
   have h1:0 < Nat.gcd p q:=Nat.gcd_pos_of_pos_left _ hp0
   have h2:=HGN.out
   have h3:=Nat.le_mul_of_pos_left (2 ^ n) h1
   exact Ztk (k:=G) om om
  rcases (show p % 2=1∨p % 2=0∧q % 2=1∨p % 2=0∧q % 2=0 by omega) with h|⟨h,h'⟩|⟨h,h'⟩
  ·have B1:Hid ((p % 2==1)=true):=hid (by rw [h];rfl)
   clear h
   go_wp2_with (go_at_call 204;(with_reducible refine (Zqj p true B1.out hp0 hp _ (fun b=>w.heap.size≤b) s0 c0 (by exact HP.out)).mono ?_);rintro e w4 ⟨rfl,hb4⟩;have hz4:=hb4.size)
   have HP1:=hid (Zt6 (A:=fun b=>w.heap.size≤b) ar HP.out:RL w4 (fun b=>w.heap.size≤b) [p] s0)
   have HQ1:=hid (Zt6 (A:=fun b=>w.heap.size≤b) ar HQ.out:RL w4 (fun b=>w.heap.size≤b) [q] s1)
   have hb9:Below w.heap.size w w4:=ZtZ
   have hg0:0 < Nat.gcd p q:=Nat.gcd_pos_of_pos_left _ hp0
   have hg9:Nat.gcd p q < 65536:=Nat.lt_of_le_of_lt (Nat.gcd_le_left _ hp0) hp
   have hgn:Nat.gcd p q*2 ^ n < 65536:=by have:=HGN.out;omega
   go_loopg [0,1,6,7,8,9] 1 (fun gk t0' t1' t6' t7' t8' t9' wr=>Below w.heap.size w wr∧(gk=1∧t0'=.slice s0 1 (1+c0)∧t1'=.slice s1 1 (1+c1)∧Hid (RL wr (fun b=>w.heap.size≤b) [p] s0)∧Hid (RL wr (fun b=>w.heap.size≤b) [q] s1)∨gk=0∧∃a3 c3,t0'=.slice a3 1 (1+c3)∧t1'=.slice none 0 0∧Hid (RL wr (fun b=>w.heap.size≤b) [Nat.gcd p q] a3)))
   case atStart=>exact ⟨hb9,.inl ⟨rfl,rfl,rfl,HP1,HQ1⟩⟩
   case round=>
    exact ZlC
  ·have B1:Hid ((p % 2==1)=false):=hid (by rw [h];rfl)
   have B2:Hid ((q % 2==1)=true):=hid (by rw [h'];rfl)
   clear h h'
   go_wp2_with (first
    | (go_at_call 204;(with_reducible refine (Zqj p false B1.out hp0 hp _ (fun b=>w.heap.size≤b) s0 c0 (by exact HP.out)).mono ?_);rintro e w3 ⟨rfl,hb3⟩;have hz3:=hb3.size)
    | (go_at_call 204;(with_reducible refine (Zqj q true B2.out hq0 hq _ (fun b=>w.heap.size≤b) s1 c1 (by exact Zt6 ar HQ.out)).mono ?_);rintro e w4 ⟨rfl,hb4⟩;have hz4:=hb4.size))
   have HP1:=hid (Zt6 (A:=fun b=>w.heap.size≤b) ar HP.out:RL w4 (fun b=>w.heap.size≤b) [p] s0)
   have HQ1:=hid (Zt6 (A:=fun b=>w.heap.size≤b) ar HQ.out:RL w4 (fun b=>w.heap.size≤b) [q] s1)
   have hb9:Below w.heap.size w w4:=ZtZ
   have hg0:0 < Nat.gcd p q:=Nat.gcd_pos_of_pos_left _ hp0
   have hg9:Nat.gcd p q < 65536:=Nat.lt_of_le_of_lt (Nat.gcd_le_left _ hp0) hp
   have hgn:Nat.gcd p q*2 ^ n < 65536:=by have:=HGN.out;omega
   go_loopg [0,1,6,7,8,9] 1 (fun gk t0' t1' t6' t7' t8' t9' wr=>Below w.heap.size w wr∧(gk=1∧t0'=.slice s0 1 (1+c0)∧t1'=.slice s1 1 (1+c1)∧Hid (RL wr (fun b=>w.heap.size≤b) [p] s0)∧Hid (RL wr (fun b=>w.heap.size≤b) [q] s1)∨gk=0∧∃a3 c3,t0'=.slice a3 1 (1+c3)∧t1'=.slice none 0 0∧Hid (RL wr (fun b=>w.heap.size≤b) [Nat.gcd p q] a3)))
   case atStart=>exact ⟨hb9,.inl ⟨rfl,rfl,rfl,HP1,HQ1⟩⟩
   case round=>
    exact ZlC
  have B1:Hid ((p % 2==1)=false):=hid (by rw [h];rfl)
  have B2:Hid ((q % 2==1)=false):=hid (by rw [h'];rfl)
  have hp2:0 < p / 2:=om
  have hq2:0 < q / 2:=om
  have SP:=hid (ZrQ p hp2 hp)
  have SQ:=hid (ZrQ q hq2 hq)
  have hg2:Nat.gcd (p / 2) (q / 2)*2 ^ (n+1)=G:=by
   have h2:=HGN.out
   obtain ⟨p',rfl⟩:∃p',p=2*p':=⟨p / 2,om⟩
   obtain ⟨q',rfl⟩:∃q',q=2*q':=⟨q / 2,om⟩
   rw [Nat.gcd_mul_left] at h2
   rw [Nat.mul_div_cancel_left _ om,Nat.mul_div_cancel_left _ om,Nat.pow_succ,←h2]
   ac_rfl
  have HG2:=hid hg2
  have hps:p / 2 < p:=om
  have hqs:q / 2 < q:=om
  clear h h' hg2
  generalize p / 2=p' at *
  generalize q / 2=q' at *
  go_wp2_with (first
   | (go_at_call 204;(with_reducible refine (Zqj p false B1.out hp0 hp _ (fun b=>w.heap.size≤b) s0 c0 (by exact HP.out)).mono ?_);rintro e w3 ⟨rfl,hb3⟩;have hz3:=hb3.size)
   | (go_at_call 204;(with_reducible refine (Zqj q false B2.out hq0 hq _ (fun b=>w.heap.size≤b) s1 c1 (by exact Zt6 ar HQ.out)).mono ?_);rintro e w4 ⟨rfl,hb4⟩;have hz4:=hb4.size)
   | (go_at_call 205;(with_reducible refine (SP.out _ (fun b=>w.heap.size≤b) s0 c0 (by exact Zt6 ar HP.out)).mono ?_);rintro e w5 ⟨hb5,a5,c5,rfl,hr5⟩;have HR5:=hid hr5;clear hr5;have hz5:=hb5.size)
   | (go_at_call 205;(with_reducible refine (SQ.out _ (fun b=>w.heap.size≤b) s1 c1 (by exact Zt6 ar HQ.out)).mono ?_);rintro e w6 ⟨hb6,a6,c6,rfl,hr6⟩;have HR6:=hid hr6;clear hr6;have hz6:=hb6.size))
  go_roundg p'
  case measure=>omega
  case rel=>exact ⟨ZtZ,p',q',n+1,a5,a6,c5,c6,rfl,hp2,hq2,om,om,rfl,rfl,by go_num,HG2,hid (Zt7 (fun b h _=>om) (Zt6 (ZtY hb6) HR5.out)),hid (Zt7 (fun b h _=>om) HR6.out)⟩
end Go.Proofs.YtkdffbdnjfgpeaaGreat
