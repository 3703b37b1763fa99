/- Part 63. -/
import Derived.Test.YtclphfojkggcpaaGreatDoorX44
import Derived.Test.YtclphfojkggcpaaGreatDoorX61
set_option linter.all false
namespace Go.Proofs.YtclphfojkggcpaaGreatDoor
open Go.Lib (hid)
open Go Go.RowKit Go.Proofs.Tryz
section
theorem ZdS {t:GT} {p:GP} {u s:ByteArray} {v:GV} (ox:okT t) (h:Yf t p u=some (s,v)):u.extract 0 s.size=s∧s.size≤u.size:=by
 have h0:=Wp ox h
 refine ⟨?_,h0.2.2.1⟩
 unfold Yf at h
 split at h
 ·cases h
 rename_i hE
 have hin:=Vy (show ZP t u=0 by simpa using hE) ox
 split at h
 ·cases h
 rename_i w k hr
 rw [hr] at hin
 split at h
 ·cases h
 cases h
 rw [Q0 u k hin.2.1];rfl
section
variable (t:GT) (p:GP) (u:ByteArray) (w:World) (A A2:Nat→Prop) (m:TA) (mp:PA) (ox:okT t) (hs:Zb t≤1048576) (hl:RT w A t m) (op:okP p) (hp:Zm p≤1099511627776) (hr:RP w A2 p mp) (hus:u.size≤9223372036854775807) (hmay:Xo p=true) (hE:ZP t u=0)
include ox hs hl op hp hr hus hmay hE
theorem ZaB (hf:Yf t p u=none):Calls prog 24 #[TV t m,PV p mp,.string u] w fun e w'=>Below w.heap.size w w'∧e=.returned (.tuple #[.int .i64 0,.agg #[.int .u8 0,.int .i64 0,.slice none 0 0],.bool false]):=
 (Ju t p u w A A2 m mp ox hs hl op hp hr hus hmay hE).mono fun e w' h=>by rw [hf] at h;exact h
theorem U3 (s:ByteArray) (v:GV) (hf:Yf t p u=some (s,v)):Calls prog 24 #[TV t m,PV p mp,.string u] w fun e w'=>Below w.heap.size w w'∧∃m:VA,e=.returned (.tuple #[.int .i64 s.size,VV v m,.bool true])∧RV w' (fun b=>w.heap.size≤b) v m.a:=
 (Ju t p u w A A2 m mp ox hs hl op hp hr hus hmay hE).mono fun e w' h=>by rw [hf] at h;exact h
end
theorem Zok {p:Prop} (h:p:=by
 go_wp2_with fail
 all_goals refine bodyPost_ret (v:=(.tuple #[.string (L[k].extract 0 s.size),VV ⟨yk,yn,yl⟩ ⟨ya,yc⟩,.bool true])) (by first|(simp [results,Tryz.f25,go_sem];done)|(simp [results,Tryz.f25,go_sem, *];done)) rfl ?_
 all_goals refine ⟨ZlD,?_⟩
 all_goals rw [HST.out]
 all_goals exact ⟨⟨ya,yc⟩,by rw [HPRE.out],ZmO (A:=fun b=>w.heap.size+2+1≤b) (fun b h _=>om) _ _ (ZmG ((WZ _ _ _).trans (ZlH (Below.drew (Below.refl _ _)))) _ _ (ZmO (fun b h _=>om) _ _ HY3.out))⟩):p:=h
set_option maxRecDepth 100000
set_option maxHeartbeats 8000000
theorem Kk (t:GT) (p:GP) (u:ByteArray) (w:World) (A A2:Nat→Prop) (m:TA) (mp:PA) (ox:okT t) (hs:Zb t≤1048576) (hl:RT w A t m) (op:okP p) (hp:Zm p≤1099511627776) (hr:RP w A2 p mp) (hmay:Xo p=true) (hE:ZP t u=0):
  Calls prog 25 #[TV t m,PV p mp,.string u] w fun e w'=>Below w.heap.size w w'∧ZjL (Yn t p (Xu u)) w e w':=by
 obtain ⟨ma,mb,mc,md,me,mf,mg,mh,mi,mj,mk,ml⟩:=m
 obtain ⟨na,nb,nc,nd⟩:=mp
 have hub:=(VI hE).2
 have hEL:∀x∈Xu u,ZP t x=0∧x.size≤1024:=fun x hx=>by
  obtain ⟨_,h2,h3⟩:=Zch hub hx
  exact ⟨Zdz (VI hE).1 h2,by have:=Wo hub;omega⟩
 have hlen:(Xu u).length≤9216:=by have:=ZgF u;have:=Wo hub;omega
 have HL:=hid hl
 have HR:=hid hr
 have OX:=hid ox
 have OP:=hid op
 have HM:=hid hmay
 have HB:=hid hub
 have HEL:=hid hEL
 generalize hLL:Xu u=L at *
 have HLL:=hid hLL
 clear hl hr ox op hmay hub hEL hE hLL
 go_enter func25,ntmps25
 go_wp2_with (go_at_call 43;refine (Zet u _ HB.out).mono ?_;rintro e w1 ⟨hb1,v,rfl,hv⟩;rw [HLL.out] at hv;obtain ⟨a1,c1,rfl⟩:=hv.form;have HV:=hid hv;clear hv;obtain ⟨hc1,hf1⟩:=Za hb1;have hz1:=hb1.size;(try simp at hz1);have y0:w.heap.size < w1.heap.size:=om;have y1:w.heap.size+1 < w1.heap.size:=om;have y2:w.heap.size+2 < w1.heap.size:=om)
 have HAT:=hid (show At w1 w.heap.size 0 [.int .u8 t.k,.int .u8 t.v.k,.int .i64 t.v.n,.slice ma t.v.l.length mb,.slice mc t.vs.length md,.int .i64 t.lo,.int .i64 t.hi,.slice me t.w.length mf,.int .u8 t.p.k,.int .u8 t.p.v.k,.int .i64 t.p.v.n,.slice mg t.p.v.l.length mh,.int .i64 t.p.n,.slice mi t.p.a.length mj,.slice mk t.a.length ml] from ZO.2 ⟨gs,gs,gs,gs,gs,gs,gs,gs,gs,gs,gs,gs,gs,gs,gs⟩)
 have HAP:=hid (show At w1 (w.heap.size+1) 0 [.int .u8 p.k,.int .u8 p.v.k,.int .i64 p.v.n,.slice na p.v.l.length nb,.int .i64 p.n,.slice nc p.a.length nd] from Qf.2 ⟨gs,gs,gs,gs,gs,gs⟩)
 have HAZ:=hid (show At w1 (w.heap.size+2) 0 [.int .u8 0,.int .i64 0,.slice none 0 0] from Q9.2 ⟨gs,gs,gs⟩)
 have HFZ:=hid (show w1.frozen? ⟨w.heap.size+2,0,none⟩=false∧w1.frozen? ⟨w.heap.size+2,1,none⟩=false∧w1.frozen? ⟨w.heap.size+2,2,none⟩=false from ⟨gs,gs,gs⟩)
 have hbw1:Below w.heap.size w w1:=ZlD
 clear hc1 hf1 hb1
 go_loopg [10] (L.length) (fun gk k' wr=>∃k:Nat,gk+k=L.length∧k'=.int .i64 k∧Below w1.heap.size w1 wr∧Hid (Yn t p (L.take k)=none))
 case atStart=>exact ⟨0,om,rfl,Below.refl _ _,hid rfl⟩
 case round=>
  obtain ⟨k,hk,rfl,hbr,HS⟩:=hrel
  have hzr:=hbr.size
  have hbw:Below w.heap.size w wr:=hbw1.trans (hbr.mono om)
  obtain ⟨z0,z1,z2⟩:=Q9.1 (ZmS (ZlH hbr) (A:=fun _=>True) trivial _ _ HAZ.out)
  have f0:wr.frozen? ⟨w.heap.size+2,0,none⟩=false:=(hbr.frozen (p:=⟨w.heap.size+2,0,none⟩) y2).trans HFZ.out.1
  have f1:wr.frozen? ⟨w.heap.size+2,1,none⟩=false:=(hbr.frozen (p:=⟨w.heap.size+2,1,none⟩) y2).trans HFZ.out.2.1
  have f2:wr.frozen? ⟨w.heap.size+2,2,none⟩=false:=(hbr.frozen (p:=⟨w.heap.size+2,2,none⟩) y2).trans HFZ.out.2.2
  by_cases hlt:k < L.length
  ·obtain ⟨hx0,hx1⟩:=HEL.out _ (List.getElem_mem hlt)
   obtain ⟨g,cap,hsl,hg1,hg2,hgc⟩:=HV.out.cell k hlt
   simp only [Value.slice.injEq] at hsl
   obtain ⟨rfl, -,rfl⟩:=hsl
   (try simp at hg1)
   have gc:wr.cell? ⟨g,k,none⟩=some (.string L[k]):=(hbr.cell (p:=⟨g,k,none⟩) hg2).trans hgc
   obtain ⟨c0,c1,c2,c3,c4,c5,c6,c7,c8,c9,ca,cb,cc,cd,ce⟩:=ZO.1 (ZmS (ZlH hbr) (A:=fun _=>True) trivial _ _ HAT.out)
   obtain ⟨p0,p1,p2,p3,p4,p5⟩:=Qf.1 (ZmS (ZlH hbr) (A:=fun _=>True) trivial _ _ HAP.out)
   have QT:=hid (ZlV (ZlH hbw) _ _ HL.out)
   have QP:=hid (ZmP (ZlH hbw) _ _ HR.out)
   have u0:w.heap.size < wr.heap.size:=om
   have u1:w.heap.size+1 < wr.heap.size:=om
   have u2:w.heap.size+2 < wr.heap.size:=om
   have u3:g < wr.heap.size:=om
   have hkI:(k:Int) < (L.length:Int):=om
   have hx9:L[k].size≤9223372036854775807:=om
   have HX:=hid hx0
   clear hgc hx0
   rcases hf:Yf t p L[k] with _|⟨s,yk,yn,yl⟩
   ·have HF:=hid hf
    have HST:=hid (show Yn t p (L.take (k+1))=none from (Zgw hlt HS.out).trans hf)
    clear hf
    go_wp2_with fail
    go_region_held3 (fun W=>∀c j,c < wr.heap.size→W.cell? ⟨c,j,none⟩=wr.cell? ⟨c,j,none⟩) ((refine Uh ?_;((repeat (first|with_reducible exact Below.refl _ _|with_reducible assumption|with_reducible refine Below.trans ?_ (Below.mono (by with_reducible assumption) (by first|omega|(simp;done)|(simp;omega)))|with_reducible refine Below.drew ?_|with_reducible refine Below.alloc ?_ (by first|omega|(simp;done)|(simp;omega)) _|with_reducible refine Below.setCell ?_ (by first|omega|(simp;done)|(simp;omega)) _));done))) ((go_at_call 24;refine (ZaB t p L[k] _ A A2 ⟨ma,mb,mc,md,me,mf,mg,mh,mi,mj,mk,ml⟩ ⟨na,nb,nc,nd⟩ OX.out hs (by exact ZlV (A:=A) ar _ _ QT.out) OP.out hp (by exact ZmP (A:=A2) ar _ _ QP.out) hx9 HM.out HX.out HF.out).mono ?_;rintro e w2 ⟨hb2,rfl⟩;have hz2:=hb2.size;(try simp at hz2);have hbr2:Below wr.heap.size wr w2:=ZlD;(try (have y5':wr.heap.size < w2.heap.size:=om;have q0:w2.cell? ⟨wr.heap.size,0,none⟩=some (.int .u8 0):=(hb2.cell sm).trans gs;have q1:w2.cell? ⟨wr.heap.size,1,none⟩=some (.int .i64 0):=(hb2.cell sm).trans gs;have q2:w2.cell? ⟨wr.heap.size,2,none⟩=some (.slice none 0 0):=(hb2.cell sm).trans gs;have qf:∀k,w2.frozen? ⟨wr.heap.size,k,none⟩=false:=fun k=>(hb2.frozen sm).trans gs))))
    all_goals go_wp2_with fail
    all_goals go_roundg (gk - 1)
    all_goals first
     | (show _ < _;omega)
     | exact ⟨k+1,om,by go_num,by exact ZlD,HST⟩
   have HF:=hid hf
   have HST:=hid (show Yn t p L=some (s,⟨yk,yn,yl⟩) from Zf2 hlt HS.out hf)
   obtain ⟨hpre,hps⟩:=ZdS OX.out hf
   have HPRE:=hid hpre
   have hpI:(s.size:Int)≤(L[k].size:Int):=om
   clear hf hpre
   go_wp2_with fail
   go_region_held3 (fun W=>∀c j,c < wr.heap.size→W.cell? ⟨c,j,none⟩=wr.cell? ⟨c,j,none⟩) ((refine Uh ?_;((repeat (first|with_reducible exact Below.refl _ _|with_reducible assumption|with_reducible refine Below.trans ?_ (Below.mono (by with_reducible assumption) (by first|omega|(simp;done)|(simp;omega)))|with_reducible refine Below.drew ?_|with_reducible refine Below.alloc ?_ (by first|omega|(simp;done)|(simp;omega)) _|with_reducible refine Below.setCell ?_ (by first|omega|(simp;done)|(simp;omega)) _));done))) ((go_at_call 24;refine (U3 t p L[k] _ A A2 ⟨ma,mb,mc,md,me,mf,mg,mh,mi,mj,mk,ml⟩ ⟨na,nb,nc,nd⟩ OX.out hs (by exact ZlV (A:=A) ar _ _ QT.out) OP.out hp (by exact ZmP (A:=A2) ar _ _ QP.out) hx9 HM.out HX.out s ⟨yk,yn,yl⟩ HF.out).mono ?_;rintro e w2 ⟨hb2,⟨ya,yc⟩,rfl,hy⟩;have HY:=hid hy;clear hy;have hz2:=hb2.size;(try simp at hz2);have hbr2:Below wr.heap.size wr w2:=ZlD;(try (have y5':wr.heap.size < w2.heap.size:=om;have q0:w2.cell? ⟨wr.heap.size,0,none⟩=some (.int .u8 0):=(hb2.cell sm).trans gs;have q1:w2.cell? ⟨wr.heap.size,1,none⟩=some (.int .i64 0):=(hb2.cell sm).trans gs;have q2:w2.cell? ⟨wr.heap.size,2,none⟩=some (.slice none 0 0):=(hb2.cell sm).trans gs;have qf:∀k,w2.frozen? ⟨wr.heap.size,k,none⟩=false:=fun k=>(hb2.frozen sm).trans gs))))
   ·as_aux_lemma=>
    refine KL (fun W=>Below wr.heap.size wr W∧w2.heap.size < W.heap.size∧W.cell? ⟨w2.heap.size,0,none⟩=some (.int .u8 yk)∧W.cell? ⟨w2.heap.size,1,none⟩=some (.int .i64 yn)∧W.cell? ⟨w2.heap.size,2,none⟩=some (.slice ya yl.length yc)∧Hid (RV W (fun b=>wr.heap.size≤b) ⟨yk,yn,yl⟩ ya)) ?_ ?_
    ·exact ⟨ZlD,by simp;try omega,gs,gs,gs,hid (ZmO (fun b h _=>h.1) _ _ (ZmG (A:=fun b=>wr.heap.size≤b∧b≠w2.heap.size) (by first|exact ZlH (Below.alloc (Below.refl _ _) (Nat.le_refl _) _)|exact ((ZmA so).trans (ZmA so)).trans (ZmA so)) _ _ (ZmO (fun b h hb=>by (try simp at h);omega) _ _ HY.out)))⟩
    intro W3 ⟨hb3,hz3,k0,k1,k2,HY3⟩
    have hz9:=hb3.size
    have gc3:W3.cell? ⟨g,k,none⟩=some (.string L[k]):=(hb3.cell (p:=⟨g,k,none⟩) u3).trans gc
    have z0':W3.cell? ⟨w.heap.size+2,0,none⟩=some (.int .u8 0):=(hb3.cell (p:=⟨w.heap.size+2,0,none⟩) u2).trans z0
    have z1':W3.cell? ⟨w.heap.size+2,1,none⟩=some (.int .i64 0):=(hb3.cell (p:=⟨w.heap.size+2,1,none⟩) u2).trans z1
    have z2':W3.cell? ⟨w.heap.size+2,2,none⟩=some (.slice none 0 0):=(hb3.cell (p:=⟨w.heap.size+2,2,none⟩) u2).trans z2
    have f0':W3.frozen? ⟨w.heap.size+2,0,none⟩=false:=(hb3.frozen (p:=⟨w.heap.size+2,0,none⟩) u2).trans f0
    have f1':W3.frozen? ⟨w.heap.size+2,1,none⟩=false:=(hb3.frozen (p:=⟨w.heap.size+2,1,none⟩) u2).trans f1
    have f2':W3.frozen? ⟨w.heap.size+2,2,none⟩=false:=(hb3.frozen (p:=⟨w.heap.size+2,2,none⟩) u2).trans f2
    have u4:g < W3.heap.size:=om
    have u5:w.heap.size+2 < W3.heap.size:=om
    have e1:¬w.heap.size+1+1=g:=om
    have hbW:Below w.heap.size w W3:=hbw.trans (hb3.mono om)
    go_wp2_with fail
    go_region_held3 (fun W=>(∀j,W.cell? ⟨g,j,none⟩=W3.cell? ⟨g,j,none⟩)∧∀j,W.cell? ⟨w2.heap.size,j,none⟩=W3.cell? ⟨w2.heap.size,j,none⟩) ((refine ⟨fun j=>?_,fun j=>?_⟩<;>(first|(refine Below.cell (B:=W3.heap.size) (w:=W3) (p:=⟨g,j,none⟩) ?_ u4;((repeat (first|with_reducible exact Below.refl _ _|with_reducible assumption|with_reducible refine Below.trans ?_ (Below.mono (by with_reducible assumption) (by first|omega|(simp;done)|(simp;omega)))|with_reducible refine Below.drew ?_|with_reducible refine Below.alloc ?_ (by first|omega|(simp;done)|(simp;omega)) _|with_reducible refine Below.setCell ?_ (by first|omega|(simp;done)|(simp;omega)) _));done);done)|(refine Below.cell (B:=W3.heap.size) (w:=W3) (p:=⟨w2.heap.size,j,none⟩) ?_ hz3;((repeat (first|with_reducible exact Below.refl _ _|with_reducible assumption|with_reducible refine Below.trans ?_ (Below.mono (by with_reducible assumption) (by first|omega|(simp;done)|(simp;omega)))|with_reducible refine Below.drew ?_|with_reducible refine Below.alloc ?_ (by first|omega|(simp;done)|(simp;omega)) _|with_reducible refine Below.setCell ?_ (by first|omega|(simp;done)|(simp;omega)) _));done);done)|go_simp))) ((fail))
    all_goals exact Zok
   as_aux_lemma=>
   refine KL (fun W=>Below wr.heap.size wr W∧wr.heap.size < W.heap.size∧W.cell? ⟨wr.heap.size,0,none⟩=some (.int .u8 yk)∧W.cell? ⟨wr.heap.size,1,none⟩=some (.int .i64 yn)∧W.cell? ⟨wr.heap.size,2,none⟩=some (.slice ya yl.length yc)∧Hid (RV W (fun b=>wr.heap.size≤b) ⟨yk,yn,yl⟩ ya)) ?_ ?_
   ·exact ⟨ZlD,by simp;try omega,gs,gs,gs,hid (ZmO (fun b h _=>h.1) _ _ (ZmG (A:=fun b=>wr.heap.size≤b∧b≠wr.heap.size) (by first|exact ZlH (Below.alloc (Below.refl _ _) (Nat.le_refl _) _)|exact ((ZmA so).trans (ZmA so)).trans (ZmA so)) _ _ (ZmO (fun b h hb=>by (try simp at h);omega) _ _ HY.out)))⟩
   intro W3 ⟨hb3,hz3,k0,k1,k2,HY3⟩
   have hz9:=hb3.size
   have gc3:W3.cell? ⟨g,k,none⟩=some (.string L[k]):=(hb3.cell (p:=⟨g,k,none⟩) u3).trans gc
   have z0':W3.cell? ⟨w.heap.size+2,0,none⟩=some (.int .u8 0):=(hb3.cell (p:=⟨w.heap.size+2,0,none⟩) u2).trans z0
   have z1':W3.cell? ⟨w.heap.size+2,1,none⟩=some (.int .i64 0):=(hb3.cell (p:=⟨w.heap.size+2,1,none⟩) u2).trans z1
   have z2':W3.cell? ⟨w.heap.size+2,2,none⟩=some (.slice none 0 0):=(hb3.cell (p:=⟨w.heap.size+2,2,none⟩) u2).trans z2
   have f0':W3.frozen? ⟨w.heap.size+2,0,none⟩=false:=(hb3.frozen (p:=⟨w.heap.size+2,0,none⟩) u2).trans f0
   have f1':W3.frozen? ⟨w.heap.size+2,1,none⟩=false:=(hb3.frozen (p:=⟨w.heap.size+2,1,none⟩) u2).trans f1
   have f2':W3.frozen? ⟨w.heap.size+2,2,none⟩=false:=(hb3.frozen (p:=⟨w.heap.size+2,2,none⟩) u2).trans f2
   have u4:g < W3.heap.size:=om
   have u5:w.heap.size+2 < W3.heap.size:=om
   have e1:¬w.heap.size+1+1=g:=om
   have hbW:Below w.heap.size w W3:=hbw.trans (hb3.mono om)
   go_wp2_with fail
   go_region_held3 (fun W=>(∀j,W.cell? ⟨g,j,none⟩=W3.cell? ⟨g,j,none⟩)∧∀j,W.cell? ⟨wr.heap.size,j,none⟩=W3.cell? ⟨wr.heap.size,j,none⟩) ((refine ⟨fun j=>?_,fun j=>?_⟩<;>(first|(refine Below.cell (B:=W3.heap.size) (w:=W3) (p:=⟨g,j,none⟩) ?_ u4;((repeat (first|with_reducible exact Below.refl _ _|with_reducible assumption|with_reducible refine Below.trans ?_ (Below.mono (by with_reducible assumption) (by first|omega|(simp;done)|(simp;omega)))|with_reducible refine Below.drew ?_|with_reducible refine Below.alloc ?_ (by first|omega|(simp;done)|(simp;omega)) _|with_reducible refine Below.setCell ?_ (by first|omega|(simp;done)|(simp;omega)) _));done);done)|(refine Below.cell (B:=W3.heap.size) (w:=W3) (p:=⟨wr.heap.size,j,none⟩) ?_ hz3;((repeat (first|with_reducible exact Below.refl _ _|with_reducible assumption|with_reducible refine Below.trans ?_ (Below.mono (by with_reducible assumption) (by first|omega|(simp;done)|(simp;omega)))|with_reducible refine Below.drew ?_|with_reducible refine Below.alloc ?_ (by first|omega|(simp;done)|(simp;omega)) _|with_reducible refine Below.setCell ?_ (by first|omega|(simp;done)|(simp;omega)) _));done);done)|go_simp))) ((fail))
   all_goals exact Zok
  have hkk:k=L.length:=om
  subst hkk
  have hst:=HS.out
  rw [List.take_length] at hst
  have HST:=hid hst
  clear hst
  have hkI:¬((L.length:Int) < (L.length:Int)):=om
  go_wp2_with fail
  refine bodyPost_ret (v:=(.tuple #[.string ⟨#[]⟩,.agg #[.int .u8 0,.int .i64 0,.slice none 0 0],.bool false])) (by first|(simp [results,Tryz.f25,go_sem];done)|(simp [results,Tryz.f25,go_sem, *];done)) rfl ?_
  exact ⟨ZlD,by rw [HST.out];rfl⟩
end
set_option maxRecDepth 100000
set_option maxHeartbeats 16000000
theorem Zhg (t:GT) (p:GP) (u:ByteArray) (w:World) (A A2:Nat→Prop) (m:TA) (mp:PA) (ox:okT t) (hs:Zb t≤1048576) (hl:RT w A t m) (op:okP p) (hp:Zm p≤1099511627776) (hr:RP w A2 p mp) (hus:u.size≤9223372036854775807) (h1':(ZP t u != 0)=true):
  Calls prog 7 #[TV t m,PV p mp,.string u] w fun e w'=>e=.returned (.tuple #[.string ⟨#[]⟩,.agg #[.int .u8 0,.int .i64 0,.slice none 0 0],.int .i64 0,.int .i64 (ZP t u)])∧Below w.heap.size w w':=by
 obtain ⟨ma,mb,mc,md,me,mf,mg,mh,mi,mj,mk,ml⟩:=m
 obtain ⟨na,nb,nc,nd⟩:=mp
 have HL:=hid hl
 have HR:=hid hr
 have OX:=hid ox
 have OP:=hid op
 clear hl hr ox op
 go_enter func7,ntmps7
 go_wp2_with (go_at_call 22;refine (XV t u _ A ⟨ma,mb,mc,md,me,mf,mg,mh,mi,mj,mk,ml⟩ OX.out hs (by exact ZlV az _ _ HL.out) hus).mono ?_;rintro e w1 ⟨hb1,k,v,m,n1,rfl⟩;have hz1:=hb1.size;(try simp at hz1);obtain ⟨hc1,hf1⟩:=Za hb1;have y0:w.heap.size < w1.heap.size:=om;have y1:w.heap.size+1 < w1.heap.size:=om;have y2:w.heap.size+2 < w1.heap.size:=om)
 refine bodyPost_ret (v:=(.tuple #[.string ⟨#[]⟩,.agg #[.int .u8 0,.int .i64 0,.slice none 0 0],.int .i64 0,.int .i64 (ZP t u)])) (by first|(simp [results,Tryz.f7,go_sem];done)|(simp [results,Tryz.f7,go_sem, *];done)) rfl ?_
 exact ⟨rfl,ZlD⟩
theorem Zhh (t:GT) (p:GP) (u:ByteArray) (w:World) (A A2:Nat→Prop) (m:TA) (mp:PA) (ox:okT t) (hs:Zb t≤1048576) (hl:RT w A t m) (op:okP p) (hp:Zm p≤1099511627776) (hr:RP w A2 p mp) (hus:u.size≤9223372036854775807) (h1':(ZP t u != 0)=false) (h2':((Zw p).2 != 0)=true):
  Calls prog 7 #[TV t m,PV p mp,.string u] w fun e w'=>e=.returned (.tuple #[.string ⟨#[]⟩,.agg #[.int .u8 0,.int .i64 0,.slice none 0 0],.int .i64 0,.int .i64 (Zw p).2])∧Below w.heap.size w w':=by
 obtain ⟨ma,mb,mc,md,me,mf,mg,mh,mi,mj,mk,ml⟩:=m
 obtain ⟨na,nb,nc,nd⟩:=mp
 have HL:=hid hl
 have HR:=hid hr
 have OX:=hid ox
 have OP:=hid op
 clear hl hr ox op
 go_enter func7,ntmps7
 go_wp2_with (first
  | (go_at_call 22;refine (XV t u _ A ⟨ma,mb,mc,md,me,mf,mg,mh,mi,mj,mk,ml⟩ OX.out hs (by exact ZlV az _ _ HL.out) hus).mono ?_;rintro e w1 ⟨hb1,k,v,m,n1,rfl⟩;have hz1:=hb1.size;(try simp at hz1);obtain ⟨hc1,hf1⟩:=Za hb1;have y0:w.heap.size < w1.heap.size:=om;have y1:w.heap.size+1 < w1.heap.size:=om;have y2:w.heap.size+2 < w1.heap.size:=om)
  | (go_at_call 23;refine (Z2 p _ A2 ⟨na,nb,nc,nd⟩ OP.out hp (by exact ZmP ar _ _ HR.out)).mono ?_;rintro e w2 ⟨rfl,hb2⟩;have hz2:=hb2.size;(try simp at hz2);obtain ⟨hc2,hf2⟩:=Za hb2;have y3:w.heap.size < w2.heap.size:=om;have y4:w.heap.size+1 < w2.heap.size:=om;have y5:w.heap.size+2 < w2.heap.size:=om))
 refine bodyPost_ret (v:=(.tuple #[.string ⟨#[]⟩,.agg #[.int .u8 0,.int .i64 0,.slice none 0 0],.int .i64 0,.int .i64 (Zw p).2])) (by first|(simp [results,Tryz.f7,go_sem];done)|(simp [results,Tryz.f7,go_sem, *];done)) rfl ?_
 exact ⟨rfl,ZlD⟩
set_option maxRecDepth 512
theorem Zol {p:Prop} (h:p:=by
 refine bodyPost_ret (v:=(.tuple #[.string ⟨#[]⟩,.agg #[.int .u8 0,.int .i64 0,.slice none 0 0],.int .i64 0,.int .i64 1])) (by first|(simp [results,Tryz.f7,go_sem];done)|(simp [results,Tryz.f7,go_sem, *];done)) rfl ?_
 exact ⟨rfl,ZlD⟩):p:=h
set_option maxRecDepth 100000
theorem Zhi (t:GT) (p:GP) (u:ByteArray) (w:World) (A A2:Nat→Prop) (m:TA) (mp:PA) (ox:okT t) (hs:Zb t≤1048576) (hl:RT w A t m) (op:okP p) (hp:Zm p≤1099511627776) (hr:RP w A2 p mp) (hus:u.size≤9223372036854775807) (hE:ZP t u=0) (h2':((Zw p).2 != 0)=false) (hmay:Xo p=true) (hq:Yf t p u=none):
  Calls prog 7 #[TV t m,PV p mp,.string u] w fun e w'=>e=.returned (.tuple #[.string ⟨#[]⟩,.agg #[.int .u8 0,.int .i64 0,.slice none 0 0],.int .i64 0,.int .i64 1])∧Below w.heap.size w w':=by
 obtain ⟨ma,mb,mc,md,me,mf,mg,mh,mi,mj,mk,ml⟩:=m
 obtain ⟨na,nb,nc,nd⟩:=mp
 have HL:=hid hl
 have HR:=hid hr
 have OX:=hid ox
 have OP:=hid op
 have HM:=hid hmay
 have HE:=hid hE
 have h1':(ZP t u != 0)=false:=by simp [hE]
 have HQ:=hid hq
 clear hq
 clear hl hr ox op hmay hE
 go_enter func7,ntmps7
 go_wp2_with (first
  | (go_at_call 22;refine (XV t u _ A ⟨ma,mb,mc,md,me,mf,mg,mh,mi,mj,mk,ml⟩ OX.out hs (by exact ZlV az _ _ HL.out) hus).mono ?_;rintro e w1 ⟨hb1,k,v,m,n1,rfl⟩;have hz1:=hb1.size;(try simp at hz1);obtain ⟨hc1,hf1⟩:=Za hb1;have y0:w.heap.size < w1.heap.size:=om;have y1:w.heap.size+1 < w1.heap.size:=om;have y2:w.heap.size+2 < w1.heap.size:=om)
  | (go_at_call 23;refine (Z2 p _ A2 ⟨na,nb,nc,nd⟩ OP.out hp (by exact ZmP ar _ _ HR.out)).mono ?_;rintro e w2 ⟨rfl,hb2⟩;have hz2:=hb2.size;(try simp at hz2);obtain ⟨hc2,hf2⟩:=Za hb2;have y3:w.heap.size < w2.heap.size:=om;have y4:w.heap.size+1 < w2.heap.size:=om;have y5:w.heap.size+2 < w2.heap.size:=om)
  | (go_at_call 24;refine (ZaB t p u _ A A2 ⟨ma,mb,mc,md,me,mf,mg,mh,mi,mj,mk,ml⟩ ⟨na,nb,nc,nd⟩ OX.out hs (by exact ZlV (A:=A) ar _ _ HL.out) OP.out hp (by exact ZmP (A:=A2) ar _ _ HR.out) hus HM.out HE.out HQ.out).mono ?_;rintro e w3 ⟨hb3,rfl⟩;have hz3:=hb3.size;(try simp at hz3);obtain ⟨hc3,hf3⟩:=Za hb3;have y6:w.heap.size < w3.heap.size:=om;have y7:w.heap.size+1 < w3.heap.size:=om;have y8:w.heap.size+2 < w3.heap.size:=om))
 exact Zol
theorem Zhj (t:GT) (p:GP) (u:ByteArray) (w:World) (A A2:Nat→Prop) (m:TA) (mp:PA) (ox:okT t) (hs:Zb t≤1048576) (hl:RT w A t m) (op:okP p) (hp:Zm p≤1099511627776) (hr:RP w A2 p mp) (hus:u.size≤9223372036854775807) (hE:ZP t u=0) (h2':((Zw p).2 != 0)=false) (hmay:Xo p=true) (s:ByteArray) (v9:GV) (hq:Yf t p u=some (s,v9)) (hne:¬s.size=u.size):
  Calls prog 7 #[TV t m,PV p mp,.string u] w fun e w'=>e=.returned (.tuple #[.string ⟨#[]⟩,.agg #[.int .u8 0,.int .i64 0,.slice none 0 0],.int .i64 0,.int .i64 1])∧Below w.heap.size w w':=by
 obtain ⟨ma,mb,mc,md,me,mf,mg,mh,mi,mj,mk,ml⟩:=m
 obtain ⟨na,nb,nc,nd⟩:=mp
 have HL:=hid hl
 have HR:=hid hr
 have OX:=hid ox
 have OP:=hid op
 have HM:=hid hmay
 have HE:=hid hE
 have h1':(ZP t u != 0)=false:=by simp [hE]
 have HQ:=hid hq
 clear hq
 clear hl hr ox op hmay hE
 go_enter func7,ntmps7
 go_wp2_with (first
  | (go_at_call 22;refine (XV t u _ A ⟨ma,mb,mc,md,me,mf,mg,mh,mi,mj,mk,ml⟩ OX.out hs (by exact ZlV az _ _ HL.out) hus).mono ?_;rintro e w1 ⟨hb1,k,v,m,n1,rfl⟩;have hz1:=hb1.size;(try simp at hz1);obtain ⟨hc1,hf1⟩:=Za hb1;have y0:w.heap.size < w1.heap.size:=om;have y1:w.heap.size+1 < w1.heap.size:=om;have y2:w.heap.size+2 < w1.heap.size:=om)
  | (go_at_call 23;refine (Z2 p _ A2 ⟨na,nb,nc,nd⟩ OP.out hp (by exact ZmP ar _ _ HR.out)).mono ?_;rintro e w2 ⟨rfl,hb2⟩;have hz2:=hb2.size;(try simp at hz2);obtain ⟨hc2,hf2⟩:=Za hb2;have y3:w.heap.size < w2.heap.size:=om;have y4:w.heap.size+1 < w2.heap.size:=om;have y5:w.heap.size+2 < w2.heap.size:=om)
  | (go_at_call 24;refine (U3 t p u _ A A2 ⟨ma,mb,mc,md,me,mf,mg,mh,mi,mj,mk,ml⟩ ⟨na,nb,nc,nd⟩ OX.out hs (by exact ZlV (A:=A) ar _ _ HL.out) OP.out hp (by exact ZmP (A:=A2) ar _ _ HR.out) hus HM.out HE.out s v9 HQ.out).mono ?_;rintro e w3 ⟨hb3,my,rfl,hy⟩;clear hy;have hz3:=hb3.size;(try simp at hz3);obtain ⟨hc3,hf3⟩:=Za hb3;have y6:w.heap.size < w3.heap.size:=om;have y7:w.heap.size+1 < w3.heap.size:=om;have y8:w.heap.size+2 < w3.heap.size:=om))
 all_goals first|(exfalso;omega)|skip
 exact Zol
set_option maxRecDepth 512
theorem ZfP (t:GT) (p:GP) (u:ByteArray) (w:World) (A A2:Nat→Prop) (m:TA) (mp:PA) (ox:okT t) (hs:Zb t≤1048576) (hl:RT w A t m) (op:okP p) (hp:Zm p≤1099511627776) (hr:RP w A2 p mp) (hus:u.size≤9223372036854775807) (hE:Wj t p u≠0):
  Calls prog 7 #[TV t m,PV p mp,.string u] w fun e w'=>e=.returned (.tuple #[.string ⟨#[]⟩,.agg #[.int .u8 0,.int .i64 0,.slice none 0 0],.int .i64 0,.int .i64 (Wj t p u)])∧Below w.heap.size w w':=by
 by_cases h1:ZP t u=0
 case neg=>
  have hv:Wj t p u=ZP t u:=by unfold Wj;rw [if_pos h1]
  rw [hv]
  exact Zhg t p u w A A2 m mp ox hs hl op hp hr hus (by simp [h1])
 by_cases h2:(Zw p).2=0
 case neg=>
  have hv:Wj t p u=(Zw p).2:=by unfold Wj;rw [if_neg (by simp [h1]),if_pos h2]
  rw [hv]
  exact Zhh t p u w A A2 m mp ox hs hl op hp hr hus (by simp [h1]) (by simp [h2])
 cases hq:Yf t p u with
 | none=>
  have hv:Wj t p u=1:=by unfold Wj;rw [if_neg (by simp [h1]),if_neg (by simp [h2]),hq]
  rw [hv]
  exact Zhi t p u w A A2 m mp ox hs hl op hp hr hus h1 (by simp [h2]) (UW.2 h2) hq
 | some r=>
  obtain ⟨s,vk,vn,vl⟩:=r
  have hsu:¬s=u:=fun e=>hE (by unfold Wj;rw [if_neg (by simp [h1]),if_neg (by simp [h2]),hq];simp [e])
  have hv:Wj t p u=1:=by unfold Wj;rw [if_neg (by simp [h1]),if_neg (by simp [h2]),hq];simp [hsu]
  rw [hv]
  exact Zhj t p u w A A2 m mp ox hs hl op hp hr hus h1 (by simp [h2]) (UW.2 h2) s ⟨vk,vn,vl⟩ hq (fun e=>hsu (by obtain ⟨g1,g2⟩:=ZdS ox hq;rw [←g1,e];exact ByteArray.extract_zero_size))
end Go.Proofs.YtclphfojkggcpaaGreatDoor
