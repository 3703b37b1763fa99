/- Part 64. -/
import Derived.Test.YtclphfojkggcpaaGreatDoorX62
set_option linter.all false
namespace Go.Proofs.YtclphfojkggcpaaGreatDoor
open Go.Lib (hid)
open Go Go.RowKit Go.Proofs.Tryz
section
theorem UI {W:World} {A:Nat→Prop} {n:Nat} (hn:¬A n) (v0 v1 v2:Value):Agree A W (((W.setCell ⟨n,0,none⟩ v0).setCell ⟨n,1,none⟩ v1).setCell ⟨n,2,none⟩ v2):=
 ((ZmA (p:=⟨n,0,none⟩) hn).trans (ZmA (p:=⟨n,1,none⟩) hn)).trans (ZmA (p:=⟨n,2,none⟩) hn)
theorem Zaj {W:World} {n:Nat} (v0 v1 v2:Value) (q:Addr):(((W.setCell ⟨n,0,none⟩ v0).setCell ⟨n,1,none⟩ v1).setCell ⟨n,2,none⟩ v2).frozen? q=W.frozen? q:=by
 simp only [World.frozen?_setCell]
structure ShM (w:World) (V:Nat) (LT LP:List Value) (y:GV) (my:VA) (W:World):Prop where
 bw:Below w.heap.size w W
 v0:w.heap.size+2 < V
 sz:V < W.heap.size
 a:At W w.heap.size 0 LT
 p:At W (w.heap.size+1) 0 LP
 r:At W (w.heap.size+2) 0 [.int .u8 0,.int .i64 0,.slice none 0 0]
 rf:∀k,k < 3→W.frozen? ⟨w.heap.size+2,k,none⟩=false
 yc:At W V 0 [.int .u8 y.k,.int .i64 y.n,.slice my.a y.l.length my.c]
 yf:∀k,k < 3→W.frozen? ⟨V,k,none⟩=false
 rv:RV W (fun b=>w.heap.size+3≤b∧b≠V) y my.a
theorem ShM.below {w:World} {V:Nat} {LT LP:List Value} {y:GV} {my:VA} {W W':World} (h:ShM w V LT LP y my W) (hb:Below W.heap.size W W'):ShM w V LT LP y my W' where
 bw:=h.bw.trans (hb.mono (by have:=h.v0;have:=h.sz;omega))
 v0:=h.v0
 sz:=Nat.lt_of_lt_of_le h.sz hb.size
 a:=ZmS (A:=fun _=>True) (ZlH hb) trivial _ _ h.a
 p:=ZmS (A:=fun _=>True) (ZlH hb) trivial _ _ h.p
 r:=ZmS (A:=fun _=>True) (ZlH hb) trivial _ _ h.r
 rf:=fun k hk=>(hb.frozen (p:=⟨w.heap.size+2,k,none⟩) (by have:=h.v0;have:=h.sz;show w.heap.size+2 < _;omega)).trans (h.rf k hk)
 yc:=ZmS (A:=fun _=>True) (ZlH hb) trivial _ _ h.yc
 yf:=fun k hk=>(hb.frozen (p:=⟨V,k,none⟩) h.sz).trans (h.yf k hk)
 rv:=ZmG (ZlH hb) _ _ h.rv
theorem ShM.put {w:World} {V:Nat} {LT LP:List Value} {y y':GV} {my my':VA} {W:World} (h:ShM w V LT LP y my W) (hr:RV W (fun b=>w.heap.size+3≤b∧b≠V) y' my'.a):
  ShM w V LT LP y' my' (((W.setCell ⟨V,0,none⟩ (.int .u8 y'.k)).setCell ⟨V,1,none⟩ (.int .i64 y'.n)).setCell ⟨V,2,none⟩ (.slice my'.a y'.l.length my'.c)) where
 bw:=((h.bw.setCell (by have:=h.v0;show w.heap.size≤V;omega) _).setCell (by have:=h.v0;show w.heap.size≤V;omega) _).setCell (by have:=h.v0;show w.heap.size≤V;omega) _
 v0:=h.v0
 sz:=by have:=h.sz;simpa using this
 a:=ZmS (A:=fun b=>b≠V) (UI (fun k=>k rfl) _ _ _) (by have:=h.v0;omega) _ _ h.a
 p:=ZmS (A:=fun b=>b≠V) (UI (fun k=>k rfl) _ _ _) (by have:=h.v0;omega) _ _ h.p
 r:=ZmS (A:=fun b=>b≠V) (UI (fun k=>k rfl) _ _ _) (by have:=h.v0;omega) _ _ h.r
 rf:=fun k hk=>(Zaj _ _ _ _).trans (h.rf k hk)
 yc:=by
  obtain ⟨y0,y1,y2⟩:=Q9.1 h.yc
  exact Q9.2 ⟨gs,gs,gs⟩
 yf:=fun k hk=>(Zaj _ _ _ _).trans (h.yf k hk)
 rv:=ZmG (UI (fun k=>k.2 rfl) _ _ _) _ _ hr
abbrev TL (t:GT) (m:TA):List Value:=[.int .u8 t.k,.int .u8 t.v.k,.int .i64 t.v.n,.slice m.va t.v.l.length m.vc,.slice m.vsa t.vs.length m.vsc,.int .i64 t.lo,.int .i64 t.hi,.slice m.wa t.w.length m.wc,.int .u8 t.p.k,.int .u8 t.p.v.k,.int .i64 t.p.v.n,.slice m.pva t.p.v.l.length m.pvc,.int .i64 t.p.n,.slice m.pa t.p.a.length m.pc,.slice m.a t.a.length m.c]
abbrev PL (p:GP) (m:PA):List Value:=[.int .u8 p.k,.int .u8 p.v.k,.int .i64 p.v.n,.slice m.va p.v.l.length m.vc,.int .i64 p.n,.slice m.a p.a.length m.c]
section
variable (t:GT) (p:GP) (u:ByteArray) (w:World) (A A2:Nat→Prop) (m:TA) (mp:PA) (ox:okT t) (hs:Zb t≤1048576) (hl:RT w A t m) (op:okP p) (hp:Zm p≤1099511627776) (hr:RP w A2 p mp) (hmay:Xo p=true) (hE:ZP t u=0)
include ox hs hl op hp hr hmay hE
theorem Zhf (hf:Yn t p (Xu u)=none):Calls prog 25 #[TV t m,PV p mp,.string u] w fun e w'=>Below w.heap.size w w'∧e=.returned (.tuple #[.string ⟨#[]⟩,.agg #[.int .u8 0,.int .i64 0,.slice none 0 0],.bool false]):=
 (Kk t p u w A A2 m mp ox hs hl op hp hr hmay hE).mono fun e w' h=>by rw [hf] at h;exact h
theorem ZfO (s:ByteArray) (v:GV) (hf:Yn t p (Xu u)=some (s,v)):Calls prog 25 #[TV t m,PV p mp,.string u] w fun e w'=>Below w.heap.size w w'∧∃m:VA,e=.returned (.tuple #[.string s,VV v m,.bool true])∧RV w' (fun b=>w.heap.size≤b) v m.a:=
 (Kk t p u w A A2 m mp ox hs hl op hp hr hmay hE).mono fun e w' h=>by rw [hf] at h;exact h
end
theorem Zf3 {t:GT} {p:GP} {s s':ByteArray} {y:GV} (ox:okT t) (hE:(Z3 t).2=0) (hb:Zc s=true) (h:Yn t p (Xu s)=some (s',y)):Zc s'=true:=by
 obtain ⟨x,_,hf⟩:=KJ h
 exact (Wp ox hf).2.1
set_option maxRecDepth 100000
set_option maxHeartbeats 16000000
theorem Zhk (t:GT) (p:GP) (u:ByteArray) (w:World) (A A2:Nat→Prop) (m:TA) (mp:PA) (ox:okT t) (hs:Zb t≤1048576) (hl:RT w A t m) (op:okP p) (hp:Zm p≤1099511627776) (hr:RP w A2 p mp) (hE:Wj t p u=0) (v:GV) (hF:Yf t p u=some (u,v)):
  Calls prog 7 #[TV t m,PV p mp,.string u] w fun e w'=>Below w.heap.size w w'∧∃my:VA,e=.returned (.tuple #[.string (YO t p 1024 u v 0).1,VV (YO t p 1024 u v 0).2.1 my,.int .i64 (YO t p 1024 u v 0).2.2,.int .i64 0])∧RV w' (fun b=>w.heap.size≤b) (YO t p 1024 u v 0).2.1 my.a:=by
 obtain ⟨h1,h2, -⟩:=J1 hE
 have hub:=(VI h1).2
 have hce:=(VI h1).1
 have hus:u.size≤9223372036854775807:=by have:=Wl hub;omega
 have hmay:Xo p=true:=UW.2 h2
 have h1':(ZP t u != 0)=false:=by simp [h1]
 have h2':((Zw p).2 != 0)=false:=by simp [h2]
 obtain ⟨ma,mb,mc,md,me,mf,mg,mh,mi,mj,mk,ml⟩:=m
 obtain ⟨na,nb,nc,nd⟩:=mp
 have HL:=hid hl
 have HR:=hid hr
 have OX:=hid ox
 have OP:=hid op
 have HM:=hid hmay
 have HE:=hid h1
 have HQ:=hid hF
 have HU:=hid hub
 have HCE:=hid hce
 obtain ⟨vk,vn,vl⟩:=v
 generalize hT:YO t p 1024 u ⟨vk,vn,vl⟩ 0=T
 have HT:=hid hT
 clear hl hr ox op hmay h1 h2 hE hF hub hT hce
 go_enter func7,ntmps7
 go_wp2_with (first
  | (go_at_call 22;refine (XV t u _ A ⟨ma,mb,mc,md,me,mf,mg,mh,mi,mj,mk,ml⟩ OX.out hs (by exact ZlV az _ _ HL.out) hus).mono ?_;rintro e w1 ⟨hb1,k,v,m,n1,rfl⟩;have hz1:=hb1.size;(try simp at hz1);obtain ⟨hc1,hf1⟩:=Za hb1;have y0:w.heap.size < w1.heap.size:=om;have y1:w.heap.size+1 < w1.heap.size:=om;have y2:w.heap.size+2 < w1.heap.size:=om)
  | (go_at_call 23;refine (Z2 p _ A2 ⟨na,nb,nc,nd⟩ OP.out hp (by exact ZmP ar _ _ HR.out)).mono ?_;rintro e w2 ⟨rfl,hb2⟩;have hz2:=hb2.size;(try simp at hz2);obtain ⟨hc2,hf2⟩:=Za hb2;have y3:w.heap.size < w2.heap.size:=om;have y4:w.heap.size+1 < w2.heap.size:=om;have y5:w.heap.size+2 < w2.heap.size:=om)
  | (go_at_call 24;refine (U3 t p u _ A A2 ⟨ma,mb,mc,md,me,mf,mg,mh,mi,mj,mk,ml⟩ ⟨na,nb,nc,nd⟩ OX.out hs (by exact ZlV (A:=A) ar _ _ HL.out) OP.out hp (by exact ZmP (A:=A2) ar _ _ HR.out) hus HM.out HE.out u ⟨vk,vn,vl⟩ HQ.out).mono ?_;rintro e w3 ⟨hb3,⟨xa,xc⟩,rfl,hy⟩;have HRV:=hid (ZmO (A':=fun b=>w.heap.size+3≤b) (fun b h _=>om) _ _ hy);clear hy;have hz3:=hb3.size;(try simp at hz3);obtain ⟨hc3,hf3⟩:=Za hb3;have y6:w.heap.size < w3.heap.size:=om;have y7:w.heap.size+1 < w3.heap.size:=om;have y8:w.heap.size+2 < w3.heap.size:=om))
 refine ZT (fun W=>ShM w w3.heap.size (TL t ⟨ma,mb,mc,md,me,mf,mg,mh,mi,mj,mk,ml⟩) (PL p ⟨na,nb,nc,nd⟩) ⟨vk,vn,vl⟩ ⟨xa,xc⟩ W) ⟨ZlD,om,sm,ZO.2 ⟨gs,gs,gs,gs,gs,gs,gs,gs,gs,gs,gs,gs,gs,gs,gs⟩,Qf.2 ⟨gs,gs,gs,gs,gs,gs⟩,Q9.2 ⟨gs,gs,gs⟩,fun k hk=>gs,Q9.2 ⟨gs,gs,gs⟩,fun k hk=>gs,ZmG (ZlH (show Below w3.heap.size w3 _ from ZlD)) _ _ (ZmO (fun b h hb=>⟨h,om⟩) _ _ HRV.out)⟩ ?_
 generalize hV:w3.heap.size=V
 clear hc1 hf1 hc2 hf2 hc3 hf3 HRV hz1 hz2 hz3 hb1 hb2 hb3 y0 y1 y2 y3 y4 y5 y6 y7 y8 hV
 intro W0 H0
 go_loopg [2,15] 1024 (fun gk t2' t15' wr=>∃(k:Nat) (s:ByteArray) (yk yn:Int) (yl:List GV) (ya:Option Addr) (yc:Nat),gk+k=1024∧t2'=.string s∧t15'=.int .i64 k∧Hid (YO t p (1024 - k) s ⟨yk,yn,yl⟩ k=T∧Zc s=true)∧Hid (ShM w V (TL t ⟨ma,mb,mc,md,me,mf,mg,mh,mi,mj,mk,ml⟩) (PL p ⟨na,nb,nc,nd⟩) ⟨yk,yn,yl⟩ ⟨ya,yc⟩ wr))
 case atStart=>exact ⟨0,u,vk,vn,vl,xa,xc,rfl,rfl,rfl,hid ⟨HT.out,HU.out⟩,hid H0⟩
 case round=>
  obtain ⟨k,s,yk,yn,yl,ya,yc,hk,rfl,rfl,HS,HM0⟩:=hrel
  obtain ⟨hsh,hsb⟩:=HS.out
  have HES:=hid (Zdz HCE.out hsb)
  have hv0:=HM0.out.v0
  have hsz:=HM0.out.sz
  have u0:w.heap.size < wr.heap.size:=om
  have u1:w.heap.size+1 < wr.heap.size:=om
  have u2:w.heap.size+2 < wr.heap.size:=om
  by_cases hlt:k < 1024
  ·have QT:=hid (ZlV (ZlH HM0.out.bw) _ _ HL.out)
   have QP:=hid (ZmP (ZlH HM0.out.bw) _ _ HR.out)
   have hkI:(k:Int) < 1024:=om
   obtain ⟨c0,c1,c2,c3,c4,c5,c6,c7,c8,c9,ca,cb,cc,cd,ce⟩:=ZO.1 HM0.out.a
   obtain ⟨p0,p1,p2,p3,p4,p5⟩:=Qf.1 HM0.out.p
   rcases hq:Yn t p (Xu s) with _|⟨s',zk,zn,zl⟩
   ·rw [ZcQ hq] at hsh
    have HF:=hid hq
    subst hsh
    clear hq HT HS hsb
    go_wp2_with (go_at_call 25;refine (Zhf t p s _ A A2 ⟨ma,mb,mc,md,me,mf,mg,mh,mi,mj,mk,ml⟩ ⟨na,nb,nc,nd⟩ OX.out hs (by exact QT.out) OP.out hp (by exact QP.out) HM.out HES.out HF.out).mono ?_;rintro e w4 ⟨hb4,rfl⟩;have hz4:=hb4.size;(try simp at hz4);obtain ⟨hc4,hf4⟩:=Za hb4)
    refine ZT (fun W=>Hid (ShM w V (TL t ⟨ma,mb,mc,md,me,mf,mg,mh,mi,mj,mk,ml⟩) (PL p ⟨na,nb,nc,nd⟩) ⟨yk,yn,yl⟩ ⟨ya,yc⟩ W)) (hid (HM0.out.below ZlD)) ?_
    clear hc4 hf4 hb4 hz4 c0 c1 c2 c3 c4 c5 c6 c7 c8 c9 ca cb cc cd ce p0 p1 p2 p3 p4 p5
    intro W5 H5
    obtain ⟨r0,r1,r2⟩:=Q9.1 H5.out.r
    obtain ⟨v0,v1,v2⟩:=Q9.1 H5.out.yc
    have f0:=H5.out.rf 0 om
    have f1:=H5.out.rf 1 om
    have f2:=H5.out.rf 2 om
    have hbW:=H5.out.bw
    have hs5:=H5.out.sz
    go_region_held3 (fun W=>W.cell? ⟨V,0,none⟩=some (.int .u8 yk)∧W.cell? ⟨V,1,none⟩=some (.int .i64 yn)∧W.cell? ⟨V,2,none⟩=some (.slice ya yl.length yc)) ((refine ⟨?_,?_,?_⟩<;>(first|assumption|go_simp))) ((fail))
    all_goals go_wp2_with fail
    all_goals refine bodyPost_ret (v:=(.tuple #[.string s,VV ⟨yk,yn,yl⟩ ⟨ya,yc⟩,.int .i64 k,.int .i64 0])) (by first|(simp [results,Tryz.f7,go_sem];done)|(simp [results,Tryz.f7,go_sem, *];done)) rfl ?_
    all_goals exact ⟨ZlD,⟨ya,yc⟩,rfl,ZmO (A:=fun b=>w.heap.size+2+1≤b) (fun b h _=>om) _ _ (ZmG ((WZ _ _ _).trans (ZlH (Below.drew (Below.refl _ _)))) _ _ (ZmO (fun b h _=>h.1) _ _ H5.out.rv))⟩
   rw [ZcR hlt hq] at hsh
   have HF:=hid hq
   have HSH:=hid hsh
   have HB9:=hid (Zf3 OX.out HCE.out hsb hq)
   clear hq hsh hsb HS HT
   go_wp2_with (go_at_call 25;refine (ZfO t p s _ A A2 ⟨ma,mb,mc,md,me,mf,mg,mh,mi,mj,mk,ml⟩ ⟨na,nb,nc,nd⟩ OX.out hs (by exact QT.out) OP.out hp (by exact QP.out) HM.out HES.out s' ⟨zk,zn,zl⟩ HF.out).mono ?_;rintro e w4 ⟨hb4,⟨za,zc⟩,rfl,hz⟩;have HZ:=hid hz;clear hz;have hz4:=hb4.size;(try simp at hz4);obtain ⟨hc4,hf4⟩:=Za hb4)
   refine ZT (fun W=>Hid (ShM w V (TL t ⟨ma,mb,mc,md,me,mf,mg,mh,mi,mj,mk,ml⟩) (PL p ⟨na,nb,nc,nd⟩) ⟨yk,yn,yl⟩ ⟨ya,yc⟩ W)∧w4.heap.size < W.heap.size∧V < w4.heap.size∧W.cell? ⟨w4.heap.size,0,none⟩=some (.int .u8 zk)∧W.cell? ⟨w4.heap.size,1,none⟩=some (.int .i64 zn)∧W.cell? ⟨w4.heap.size,2,none⟩=some (.slice za zl.length zc)∧Hid (RV W (fun b=>w.heap.size+3≤b∧b≠V) ⟨zk,zn,zl⟩ za)) ⟨hid (HM0.out.below ZlD),sm,om,gs,gs,gs,hid (ZmO (A:=fun b=>wr.heap.size≤b) (fun b h _=>om) _ _ (ZmG (ZlH (show Below w4.heap.size w4 _ from ZlD)) _ _ HZ.out))⟩ ?_
   clear hc4 hf4 hb4 hz4 HZ HM0 c0 c1 c2 c3 c4 c5 c6 c7 c8 c9 ca cb cc cd ce p0 p1 p2 p3 p4 p5
   intro W5 ⟨H5,hs5,hv5,k0,k1,k2,HZ⟩
   obtain ⟨r0,r1,r2⟩:=Q9.1 H5.out.r
   obtain ⟨v0,v1,v2⟩:=Q9.1 H5.out.yc
   have f0:=H5.out.rf 0 om
   have f1:=H5.out.rf 1 om
   have f2:=H5.out.rf 2 om
   have g0:=H5.out.yf 0 om
   have g1:=H5.out.yf 1 om
   have g2:=H5.out.yf 2 om
   have hs6:=H5.out.sz
   have e0:¬w4.heap.size=V:=om
   clear r0 r1 r2 f0 f1 f2
   go_region_held3 (fun W=>W.cell? ⟨w4.heap.size,0,none⟩=some (.int .u8 zk)∧W.cell? ⟨w4.heap.size,1,none⟩=some (.int .i64 zn)∧W.cell? ⟨w4.heap.size,2,none⟩=some (.slice za zl.length zc)) ((refine ⟨?_,?_,?_⟩<;>(first|assumption|go_simp))) ((fail))
   all_goals go_wp2_with fail
   all_goals go_roundg (gk - 1)
   all_goals first
    | (show _ < _;omega)
    | exact ⟨k+1,s',zk,zn,zl,za,zc,om,rfl,by go_num,hid ⟨HSH.out,HB9.out⟩,hid (ShM.put (y':=⟨zk,zn,zl⟩) (my':=⟨za,zc⟩) (H5.out.below (Below.drew (Below.refl _ _))) (ZmG (ZlH (Below.drew (Below.refl _ _))) _ _ HZ.out))⟩
  have hk9:k=1024:=om
  subst hk9
  rw [ZcP] at hsh
  subst hsh
  clear HT HS
  go_wp2_with fail
  obtain ⟨r0,r1,r2⟩:=Q9.1 HM0.out.r
  obtain ⟨v0,v1,v2⟩:=Q9.1 HM0.out.yc
  have f0:=HM0.out.rf 0 om
  have f1:=HM0.out.rf 1 om
  have f2:=HM0.out.rf 2 om
  have hbW:=HM0.out.bw
  go_region_held3 (fun W=>W.cell? ⟨V,0,none⟩=some (.int .u8 yk)∧W.cell? ⟨V,1,none⟩=some (.int .i64 yn)∧W.cell? ⟨V,2,none⟩=some (.slice ya yl.length yc)) ((refine ⟨?_,?_,?_⟩<;>(first|assumption|go_simp))) ((fail))
  all_goals go_wp2_with fail
  all_goals refine bodyPost_ret (v:=(.tuple #[.string s,VV ⟨yk,yn,yl⟩ ⟨ya,yc⟩,.int .i64 1024,.int .i64 0])) (by first|(simp [results,Tryz.f7,go_sem];done)|(simp [results,Tryz.f7,go_sem, *];done)) rfl ?_
  all_goals exact ⟨ZlD,⟨ya,yc⟩,rfl,ZmO (A:=fun b=>w.heap.size+2+1≤b) (fun b h _=>om) _ _ (ZmG ((WZ _ _ _).trans (ZlH (Below.drew (Below.refl _ _)))) _ _ (ZmO (fun b h _=>h.1) _ _ HM0.out.rv))⟩
end
end Go.Proofs.YtclphfojkggcpaaGreatDoor
