/- Part 54. -/
import Derived.Test.YtclphfojkggcpaaGreatZ32
import Derived.Test.YtclphfojkggcpaaGreatZ33
import Derived.Test.YtclphfojkggcpaaGreatZ34
import Derived.Test.YtclphfojkggcpaaGreatZ36
import Derived.Test.YtclphfojkggcpaaGreatZ38
import Derived.Test.YtclphfojkggcpaaGreatZ46
import Derived.Test.YtclphfojkggcpaaGreatZ50
import Derived.Test.YtclphfojkggcpaaGreatZ52
set_option linter.all false
namespace Go.Proofs.YtclphfojkggcpaaGreat
open Go.Lib (hid)
open Go Go.RowKit
theorem sameRs_me:∀l:List GR,sameRs 0 l l=true
 | []=>rfl
 | x::l=>by simp only [sameRs,Int.add_zero,beq_self_eq_true,sameV_self,sameRs_me l,Bool.and_self]
set_option maxRecDepth 100000 in
set_option maxHeartbeats 8000000 in
theorem lcuts_err (t:GT) (p:GP) (s:ByteArray) (n:Int) (w:World) (A A2:Nat→Prop) (m:TA) (mp:PA) (ox:okT t) (hs1:sizeT t≤1048576) (hl:RT w A t m) (op:okP p) (hp1:sizeP p≤1048576) (hr:RP w A2 p mp) (hss:s.size≤2097152) (hE:cutE t p s n≠0):
  Calls Tryz.prog 3 #[TV t m,PV p mp,.string s,.int .i64 n] w fun e w'=>e=.returned (.bool true)∧Below w.heap.size w w':=by
 obtain ⟨ma,mb,mc,md,me,mf,mg,mh,mi,mj,mk,ml⟩:=m
 obtain ⟨na,nb,nc,nd⟩:=mp
 have HL:=hid hl
 have HR:=hid hr
 have OX:=hid ox
 have OP:=hid op
 have hs:sizeT t≤1099511627776:=by omega
 have hp:sizeP p≤1099511627776:=by omega
 have hs9:s.size≤9223372036854775807:=by omega
 have HCE:=hid hE
 clear hl hr ox op hE
 go_enter Tryz.func3,Tryz.ntmps3
 go_wp2_with (first
  | (go_at_call 4;(with_reducible refine (long29_any t p s _ _ A A2 ⟨ma,mb,mc,md,me,mf,mg,mh,mi,mj,mk,ml⟩ ⟨na,nb,nc,nd⟩ OX.out hs1 (by exact RT.ext (Agree.below Below.r) _ _ HL.out) OP.out (by exact RP.ext (Agree.below Below.r) _ _ HR.out)).mono ?_);rintro e w1 ⟨⟨b1,rfl⟩,hb1⟩;obtain ⟨hc1,hf1⟩:=bcells hb1;have hz1:=hb1.size;(try simp at hz1);have y1:w.heap.size < w1.heap.size:=(by omega);have y2:w.heap.size+1 < w1.heap.size:=(by omega);cases b1)
  | (go_at_call 5;(with_reducible refine (awake_any _).mono ?_);rintro e wa ⟨rfl,hba⟩)
  | (go_at_call 6;(with_reducible refine (r29cut_err t p s n _ A A2 ⟨ma,mb,mc,md,me,mf,mg,mh,mi,mj,mk,ml⟩ ⟨na,nb,nc,nd⟩ OX.out hs1 (by exact RT.ext (Agree.below Below.r) _ _ HL.out) OP.out hp (by exact RP.ext (Agree.below Below.r) _ _ HR.out) hs9 HCE.out).mono ?_);rintro e w3 ⟨rfl,hb3⟩;obtain ⟨hc3,hf3⟩:=bcells hb3;have hz3:=hb3.size;(try simp at hz3);have y3:w.heap.size < w3.heap.size:=(by omega);have y4:w.heap.size+1 < w3.heap.size:=(by omega)))
 rotate_left
 ·go_ret
  exact ⟨rfl,Below.r⟩
 have hbw:Below w.heap.size w w3:=Below.r
 go_loopg [12] 2 (fun gk t12 wr=>∃r:Nat,gk+r=2∧t12=.int .i64 r∧Below w3.heap.size w3 wr)
 case atStart=>exact ⟨0,rfl,rfl,Below.refl _ _⟩
 case round=>
  obtain ⟨r,hr2,rfl,hbr⟩:=hrel
  obtain ⟨hcr,hfr⟩:=bcells hbr
  have hzr:=hbr.size
  have hbwr:Below w.heap.size w wr:=hbw.trans (hbr.mono (by omega))
  have u0:w.heap.size < wr.heap.size:=by omega
  have u1:w.heap.size+1 < wr.heap.size:=by omega
  by_cases hlt:r < 2
  ·go_wp2_with (first
    | (go_at_call 7;(with_reducible refine (cut_err t p s n _ A A2 ⟨ma,mb,mc,md,me,mf,mg,mh,mi,mj,mk,ml⟩ ⟨na,nb,nc,nd⟩ OX.out hs (by exact RT.ext (Agree.below Below.r) _ _ HL.out) OP.out hp (by exact RP.ext (Agree.below Below.r) _ _ HR.out) hs9 HCE.out).mono ?_);rintro e w4 ⟨rfl,hb4⟩;have hz4:=hb4.size)
    | (go_at_call 9;(refine (told_any [] (fun _=>True) _ none 0 (by simp) (by simp [RRs])).mono ?_);rintro e w5 ⟨hb5,a5,c5,rfl, -⟩;have hz5:=hb5.size)
    | (go_at_call 8;(refine (r29same_any [] [] 0 (fun _=>True) (fun _=>True) _ a5 none c5 0 (by simp) (by simp) (by omega) (fun x hx=>absurd hx (by simp)) (fun x hx=>absurd hx (by simp)) (by simp [RRs]) (by simp [RRs])).mono ?_);rintro e w6 ⟨rfl,hb6⟩;have hz6:=hb6.size)
    | (go_at_call 10;(refine (spoil_nil none 0 _ w3.heap.size).mono ?_);rintro e w7 ⟨rfl,hb7⟩))
   go_roundg (gk - 1)
   case measure=>omega
   case rel=>exact ⟨r+1,by omega,by go_num,Below.r⟩
  ·go_wp2_with (go_at_call 5;(with_reducible refine (awake_any _).mono ?_);rintro e wa ⟨rfl,hba⟩)
   go_ret
   exact ⟨rfl,Below.r⟩
set_option maxRecDepth 100000 in
set_option maxHeartbeats 8000000 in
theorem lcuts_ok (t:GT) (p:GP) (s:ByteArray) (N:Nat) (w:World) (A A2:Nat→Prop) (m:TA) (mp:PA) (ox:okT t) (hs1:sizeT t≤1048576) (hl:RT w A t m) (op:okP p) (hp1:sizeP p≤1048576) (hr:RP w A2 p mp) (hss:s.size≤2097152) (hE:cutE t p s N=0) (l:List GR) (en:Int) (hR:cutT s t p N 0=(l,en)):
  Calls Tryz.prog 3 #[TV t m,PV p mp,.string s,.int .i64 N] w fun e w'=>e=.returned (.bool true)∧Below w.heap.size w w':=by
 obtain ⟨ma,mb,mc,md,me,mf,mg,mh,mi,mj,mk,ml⟩:=m
 obtain ⟨na,nb,nc,nd⟩:=mp
 have HL:=hid hl
 have HR:=hid hr
 have OX:=hid ox
 have OP:=hid op
 have hs:sizeT t≤1099511627776:=by omega
 have hp:sizeP p≤1099511627776:=by omega
 have hRE:runE t s=0:=by
  unfold cutE at hE
  split at hE
  ·omega
  ·omega
 have hN:N≤1000:=by unfold cutE at hE;(repeat' split at hE)<;>omega
 have hmem:=cut_mem p hRE ox N 0 (by omega)
 rw [hR] at hmem
 have HO1:=hid (fun x (hx:x∈l)=>(by obtain ⟨⟨q1,q2⟩,⟨q3,q4⟩,q5⟩:=hmem x hx;exact ⟨⟨q1,by omega⟩,⟨q3,by omega⟩,q5⟩:(0≤x.f∧x.f≤1099511627776)∧(0≤x.t∧x.t≤1099511627776)∧okV x.v))
 have HO2:=hid (fun x (hx:x∈l)=>(by obtain ⟨⟨q1,q2⟩,⟨q3,q4⟩,q5⟩:=hmem x hx;exact ⟨⟨by omega,by omega⟩,⟨by omega,by omega⟩,q5⟩:okR x))
 have HO3:=hid (fun x (hx:x∈l)=>((okV_iff.1 (hmem x hx).2.2).2.2.1:x.v.l.length≤1048576))
 have hl1:l.length≤1000:=by have:=(cut_len s t p N 0 l en hR).1;omega
 have HCUT:=hid (fun (W:World) (h1:RT W A t ⟨ma,mb,mc,md,me,mf,mg,mh,mi,mj,mk,ml⟩) (h2:RP W A2 p ⟨na,nb,nc,nd⟩)=>(show Calls Tryz.prog 7 #[TV t ⟨ma,mb,mc,md,me,mf,mg,mh,mi,mj,mk,ml⟩,PV p ⟨na,nb,nc,nd⟩,.string s,.int .i64 N] W fun e w'=>Below W.heap.size W w'∧∃a c,e=.returned (.tuple #[.slice a l.length (l.length+c),.int .u8 en,.int .i64 0])∧RRx w' (fun b=>W.heap.size≤b) l a from (cut_okx t p s N W A A2 ⟨ma,mb,mc,md,me,mf,mg,mh,mi,mj,mk,ml⟩ ⟨na,nb,nc,nd⟩ ox hs h1 op hp h2 hE).mono fun e w' h=>by rw [hR] at h;exact h))
 have HCUT2:=hid (fun (W:World) (h1:RT W A t ⟨ma,mb,mc,md,me,mf,mg,mh,mi,mj,mk,ml⟩) (h2:RP W A2 p ⟨na,nb,nc,nd⟩)=>(show Calls Tryz.prog 6 #[TV t ⟨ma,mb,mc,md,me,mf,mg,mh,mi,mj,mk,ml⟩,PV p ⟨na,nb,nc,nd⟩,.string s,.int .i64 N] W fun e w'=>Below W.heap.size W w'∧∃a c,e=.returned (.tuple #[.slice a l.length c,.int .u8 en,.int .i64 0])∧RRs w' (fun b=>W.heap.size≤b) l a from (r29cut_ok t p s N W A A2 ⟨ma,mb,mc,md,me,mf,mg,mh,mi,mj,mk,ml⟩ ⟨na,nb,nc,nd⟩ ox hs1 h1 op hp h2 hE).mono fun e w' h=>by rw [hR] at h;exact h))
 clear hl hr ox op hE hRE hmem hR
 go_enter Tryz.func3,Tryz.ntmps3
 go_wp2_with (first
  | (go_at_call 4;(with_reducible refine (long29_any t p s _ _ A A2 ⟨ma,mb,mc,md,me,mf,mg,mh,mi,mj,mk,ml⟩ ⟨na,nb,nc,nd⟩ OX.out hs1 (by exact RT.ext (Agree.below Below.r) _ _ HL.out) OP.out (by exact RP.ext (Agree.below Below.r) _ _ HR.out)).mono ?_);rintro e w1 ⟨⟨b1,rfl⟩,hb1⟩;obtain ⟨hc1,hf1⟩:=bcells hb1;have hz1:=hb1.size;(try simp at hz1);have y1:w.heap.size < w1.heap.size:=(by omega);have y2:w.heap.size+1 < w1.heap.size:=(by omega);cases b1)
  | (go_at_call 5;(with_reducible refine (awake_any _).mono ?_);rintro e wa ⟨rfl,hba⟩)
  | (go_at_call 6;(with_reducible refine (HCUT2.out _ (by exact RT.ext (Agree.below Below.r) _ _ HL.out) (by exact RP.ext (Agree.below Below.r) _ _ HR.out)).mono ?_);rintro e w3 ⟨hb3,a3,c3,rfl,hr3⟩;have HR3:=hid hr3;clear hr3;obtain ⟨hc3,hf3⟩:=bcells hb3;have hz3:=hb3.size;(try simp at hz3);have y3:w.heap.size < w3.heap.size:=(by omega);have y4:w.heap.size+1 < w3.heap.size:=(by omega)))
 rotate_left
 ·go_ret
  exact ⟨rfl,Below.r⟩
 have hbw:Below w.heap.size w w3:=Below.r
 go_loopg [12] 2 (fun gk t12 wr=>∃r:Nat,gk+r=2∧t12=.int .i64 r∧Below w3.heap.size w3 wr)
 case atStart=>exact ⟨0,rfl,rfl,Below.refl _ _⟩
 case round=>
  obtain ⟨r,hr2,rfl,hbr⟩:=hrel
  obtain ⟨hcr,hfr⟩:=bcells hbr
  have hzr:=hbr.size
  have hbwr:Below w.heap.size w wr:=hbw.trans (hbr.mono (by omega))
  have u0:w.heap.size < wr.heap.size:=by omega
  have u1:w.heap.size+1 < wr.heap.size:=by omega
  have HRR:=hid (RRs.ext (Agree.below hbr) _ _ HR3.out)
  by_cases hlt:r < 2
  ·go_wp2_with (first
    | (go_at_call 7;(with_reducible refine (HCUT.out _ (by exact RT.ext (Agree.below Below.r) _ _ HL.out) (by exact RP.ext (Agree.below Below.r) _ _ HR.out)).mono ?_);rintro e w4 ⟨hb4,a4,c4,rfl,hr4⟩;have HR4:=hid hr4;clear hr4;have hz4:=hb4.size)
    | (go_at_call 9;(refine (told_any l (fun b=>wr.heap.size≤b) _ a4 _ (by omega) (by exact HR4.out.1)).mono ?_);rintro e w5 ⟨hb5,a5,c5,rfl,hr5⟩;have HR5:=hid hr5;clear hr5;have hz5:=hb5.size)
    | (go_at_call 8;(refine (r29same_any l l 0 (fun b=>wr.heap.size≤b∨w4.heap.size≤b) _ _ a5 a3 c5 c3 (by omega) (by omega) (by omega) HO1.out HO2.out (by exact HR5.out) (by exact RRs.ext (Agree.below (show Below wr.heap.size wr _ from Below.r)) _ _ HRR.out)).mono ?_);rw [sameRs_me];rintro e w6 ⟨rfl,hb6⟩;have hz6:=hb6.size)
    | (go_at_call 10;(refine (spoilO_any l a4 _ wr.heap.size _ (by omega) (by omega) HO3.out (by exact (RRx.ext (Agree.below (show Below w4.heap.size w4 _ from Below.r)) _ _ HR4.out).2)).mono ?_);rintro e w7 ⟨rfl,hb7⟩))
   go_roundg (gk - 1)
   case measure=>omega
   case rel=>exact ⟨r+1,by omega,by go_num,Below.r⟩
  ·go_wp2_with (go_at_call 5;(with_reducible refine (awake_any _).mono ?_);rintro e wa ⟨rfl,hba⟩)
   go_ret
   exact ⟨rfl,Below.r⟩
theorem lcuts_any (w:World) (t:GT) (A:Nat→Prop) (m:TA) (ox:okT t) (hs:sizeT t≤1048576) (hl:RT w A t m) (p:GP) (A2:Nat→Prop) (mp:PA) (op:okP p) (hp:sizeP p≤1048576) (hr:RP w A2 p mp) (s:ByteArray) (hss:s.size≤2097152) (n:Int):
  Calls Tryz.prog 3 #[TV t m,PV p mp,.string s,.int .i64 n] w fun e w'=>e=.returned (.bool true)∧Below w.heap.size w w':=by
 by_cases hE:cutE t p s n=0
 ·have hn:0≤n:=by unfold cutE at hE;(repeat' split at hE)<;>omega
  obtain ⟨N,rfl⟩:∃N:Nat,n=N:=⟨n.toNat,by omega⟩
  exact lcuts_ok t p s N w A A2 m mp ox hs hl op hp hr hss hE _ _ rfl
 ·exact lcuts_err t p s n w A A2 m mp ox hs hl op hp hr hss hE
end Go.Proofs.YtclphfojkggcpaaGreat
