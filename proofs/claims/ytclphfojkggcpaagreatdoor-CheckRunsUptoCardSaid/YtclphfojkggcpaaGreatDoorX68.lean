/- Part 69. -/
import Derived.Test.YtclphfojkggcpaaGreatDoorX63
import Derived.Test.YtclphfojkggcpaaGreatDoorX66
import Derived.Test.YtclphfojkggcpaaGreatDoorX69
import Derived.Test.YtclphfojkggcpaaGreatDoorXTk
set_option linter.all false
namespace Go.Proofs.YtclphfojkggcpaaGreatDoor
open Go.Lib (hid)
open Go Go.RowKit Go.Proofs.Tryz
theorem Znf {t:GT} {p:GP} {u:ByteArray} {v:GV} (h2:(Zw p).2=0) (h:Yf t p u=some (u,v)):Wj t p u=0:=by
 have hE:ZP t u=0:=by
  unfold Yf at h
  split at h
  ·cases h
  rename_i h0;simpa using h0
 unfold Wj
 rw [if_neg (by simp [hE]),if_neg (by simp [h2]),h]
 simp
set_option maxRecDepth 100000
set_option maxHeartbeats 16000000
theorem Zm5 (t:GT) (p:GP) (s:ByteArray) (n:Int) (w:World) (A A2:Nat→Prop) (m:TA) (mp:PA) (ox:okT t) (hs:Zb t≤1048576) (hl:RT w A t m) (op:okP p) (hp:Zm p≤1099511627776) (hr:RP w A2 p mp) (hss:s.size≤9223372036854775807) (hE:VQ t p s n≠0):
  Calls prog 11 #[TV t m,PV p mp,.string s,.int .i64 n] w fun e w'=>e=.returned (.tuple #[.agg #[.int .u8 0,.int .i64 0,.int .i64 0,.string ⟨#[]⟩,.int .u8 0,.int .i64 0,.slice none 0 0],.int .i64 (VQ t p s n)])∧Below w.heap.size w w':=by
 obtain ⟨ma,mb,mc,md,me,mf,mg,mh,mi,mj,mk,ml⟩:=m
 obtain ⟨na,nb,nc,nd⟩:=mp
 have HL:=hid hl
 have HR:=hid hr
 have OX:=hid ox
 have OP:=hid op
 have HE:=hid hE
 have h1':(VQ t p s n != 0)=true:=by simp [hE]
 clear hl hr ox op hE
 go_enter func11,ntmps11
 go_wp2_with (go_at_call 30;refine (Zm3 t p s n _ A A2 ⟨ma,mb,mc,md,me,mf,mg,mh,mi,mj,mk,ml⟩ ⟨na,nb,nc,nd⟩ OX.out hs (by exact ZlV az _ _ HL.out) OP.out hp (by exact ZmP az _ _ HR.out) hss HE.out).mono ?_;rintro e w1 ⟨rfl,hb1⟩;have hz1:=hb1.size;(try simp at hz1);obtain ⟨hc1,hf1⟩:=Za hb1;have y0:w.heap.size < w1.heap.size:=om;have y1:w.heap.size+1 < w1.heap.size:=om;have y2:w.heap.size+2 < w1.heap.size:=om)
 refine bodyPost_ret (v:=(.tuple #[.agg #[.int .u8 0,.int .i64 0,.int .i64 0,.string ⟨#[]⟩,.int .u8 0,.int .i64 0,.slice none 0 0],.int .i64 (VQ t p s n)])) (by first|(simp [results,Tryz.f11,go_sem];done)|(simp [results,Tryz.f11,go_sem, *];done)) rfl ?_
 exact ⟨rfl,ZlD⟩
theorem Zm9 (t:GT) (p:GP) (s:ByteArray) (N:Nat) (w:World) (A A2:Nat→Prop) (m:TA) (mp:PA) (ox:okT t) (hs:Zb t≤1048576) (hl:RT w A t m) (op:okP p) (hp:Zm p≤1099511627776) (hr:RP w A2 p mp) (hE:VQ t p s N=0) (hne:(Yz s t p N 0).2≠1):
  Calls prog 11 #[TV t m,PV p mp,.string s,.int .i64 N] w fun e w'=>Below w.heap.size w w'∧∃my:VA,e=.returned (.tuple #[PVr (Zdw t p s N) my,.int .i64 0])∧RV w' (fun b=>w.heap.size≤b) (Zdw t p s N).v my.a:=by
 obtain ⟨ma,mb,mc,md,me,mf,mg,mh,mi,mj,mk,ml⟩:=m
 obtain ⟨na,nb,nc,nd⟩:=mp
 rw [Zjw hne]
 have h1:((Yz s t p N 0).2==1)=false:=by simp [hne]
 have HL:=hid hl
 have HR:=hid hr
 have OX:=hid ox
 have OP:=hid op
 have HE:=hid hE
 clear hl hr ox op hE hne
 generalize hR:Yz s t p N 0=R at *
 obtain ⟨l,K⟩:=R
 have HQ:=hid hR
 clear hR
 dsimp only at h1 ⊢
 go_enter func11,ntmps11
 go_wp2_with (go_at_call 30;refine (Zm1 t p s N _ A A2 ⟨ma,mb,mc,md,me,mf,mg,mh,mi,mj,mk,ml⟩ ⟨na,nb,nc,nd⟩ OX.out hs (by exact ZlV az _ _ HL.out) OP.out hp (by exact ZmP az _ _ HR.out) HE.out).mono ?_;rw [HQ.out];rintro e w1 ⟨hb1,a,c,rfl,hrr⟩;clear hrr;have hz1:=hb1.size;(try simp at hz1);obtain ⟨hc1,hf1⟩:=Za hb1;have y0:w.heap.size < w1.heap.size:=om;have y1:w.heap.size+1 < w1.heap.size:=om;have y2:w.heap.size+2 < w1.heap.size:=om)
 refine bodyPost_ret (v:=(.tuple #[.agg #[.int .u8 K,.int .i64 l.length,.int .i64 0,.string ⟨#[]⟩,.int .u8 0,.int .i64 0,.slice none 0 0],.int .i64 0])) (by first|(simp [results,Tryz.f11,go_sem];done)|(simp [results,Tryz.f11,go_sem, *];done)) rfl ?_
 exact ⟨ZlD,⟨none,0⟩,rfl,by simp [RV,RVs]⟩
set_option maxRecDepth 512
theorem Zno {p:Prop} (h:p:=by ((try dsimp only);(first|(with_reducible exact hHeld)|(exact ⟨fun k=>sm,fun k=>sm,fun k=>sm⟩)|(exact ⟨fun k=>(Yt om).trans (hHeld.1 k),fun k=>(Yt om).trans (hHeld.2.1 k),fun k=>(Yt om).trans (hHeld.2.2 k)⟩)|(exact ⟨fun k=>(hb4.cell (p:=⟨w.heap.size,k,none⟩) (by simp;omega)).trans (hHeld.1 k),fun k=>(hb4.cell (p:=⟨w.heap.size+1,k,none⟩) (by simp;omega)).trans (hHeld.2.1 k),fun k=>(hb4.cell (p:=⟨w1.heap.size+1,k,none⟩) (by simp;omega)).trans (hHeld.2.2 k)⟩)))):p:=h
set_option maxRecDepth 100000
set_option maxHeartbeats 64000000
theorem Zm2 (t:GT) (p:GP) (s:ByteArray) (N:Nat) (w:World) (A A2:Nat→Prop) (m:TA) (mp:PA) (ox:okT t) (hs:Zb t≤1048576) (hl:RT w A t m) (op:okP p) (hp:Zm p≤1099511627776) (hr:RP w A2 p mp) (hE:VQ t p s N=0) (hmay:Xo p=true)
  (l:List GR) (hR:Yz s t p N 0=(l,1)) (j f g:Nat) (hj:l.length=j+1) (hj2:j≤4096) (vk vn:Int) (vl:List GV) (hlj:∀h:j < l.length,l[j]=⟨f,g,⟨vk,vn,vl⟩⟩) (hfg:f≤g) (hgs:g≤s.size) (hbb:Wj t p (s.extract f g)=0∧Yf t p (s.extract f g)=some (s.extract f g,⟨vk,vn,vl⟩)) (x:ByteArray) (yk yn:Int) (yl:List GV) (n:Nat) (hT:YO t p 1024 (s.extract f g) ⟨vk,vn,vl⟩ 0=(x,⟨yk,yn,yl⟩,n)):
  Calls prog 11 #[TV t m,PV p mp,.string s,.int .i64 N] w fun e w'=>Below w.heap.size w w'∧∃my:VA,e=.returned (.tuple #[.agg #[.int .u8 1,.int .i64 ((j:Int)+1),.int .i64 n,.string x,.int .u8 yk,.int .i64 yn,.slice my.a yl.length my.c],.int .i64 0])∧RV w' (fun b=>w.heap.size≤b) ⟨yk,yn,yl⟩ my.a:=by
 obtain ⟨ma,mb,mc,md,me,mf,mg,mh,mi,mj,mk,ml⟩:=m
 obtain ⟨na,nb,nc,nd⟩:=mp
 have HL:=hid hl
 have HR:=hid hr
 have OX:=hid ox
 have OP:=hid op
 have HE:=hid hE
 have HM:=hid hmay
 have HQ:=hid hR
 have HB:=hid hbb
 have HT:=hid hT
 have HJ:=hid hj
 have HLJ:=hid hlj
 clear hl hr ox op hE hmay hR hbb hT hj hlj
 have hw1:IntKind.i64.wrap ((j:Int)+1 - 1)=(j:Int):=by rw [IntWalk.i64_in _ om];omega
 have hw2:IntKind.i64.wrap (j:Int)=(j:Int):=IntWalk.i64_in _ om
 have hjl:(j:Int) < (j:Int)+1:=om
 go_enter func11,ntmps11
 go_upto_region 7 with (go_at_call 30;refine (Zm1 t p s N _ A A2 ⟨ma,mb,mc,md,me,mf,mg,mh,mi,mj,mk,ml⟩ ⟨na,nb,nc,nd⟩ OX.out hs (by exact ZlV az _ _ HL.out) OP.out hp (by exact ZmP az _ _ HR.out) HE.out).mono ?_;rw [HQ.out];rintro e w1 ⟨hb1,a,c,rfl,hrr⟩;obtain ⟨b,o,⟨xa,xc⟩,rfl,hA,hbs0,g0,gx⟩:=hrr.get j (by rw [HJ.out];omega);rw [HLJ.out] at g0 gx;obtain ⟨k0,k1,k2,k3,k4⟩:=At5.1 g0;have HRV0:=hid gx;clear hrr g0 gx;dsimp only at k0 k1 k2 k3 k4;rw [HJ.out];have hz1:=hb1.size;(try simp at hz1);(try simp at hA);obtain ⟨hc1,hf1⟩:=Za hb1;have y0:w.heap.size < w1.heap.size:=om;have y1:w.heap.size+1 < w1.heap.size:=om;have y2:w.heap.size+2 < w1.heap.size:=om)
 refine ZT (fun W=>Below w.heap.size w W∧W.heap.size=w1.heap.size+2∧Hid (At W w.heap.size 0 [.int .u8 t.k,.int .u8 t.v.k,.int .i64 t.v.n,.slice ma t.v.l.length mb,.slice mc t.vs.length md,.int .i64 t.lo,.int .i64 t.hi,.slice me t.w.length mf,.int .u8 t.p.k,.int .u8 t.p.v.k,.int .i64 t.p.v.n,.slice mg t.p.v.l.length mh,.int .i64 t.p.n,.slice mi t.p.a.length mj,.slice mk t.a.length ml])∧Hid (At W (w.heap.size+1) 0 [.int .u8 p.k,.int .u8 p.v.k,.int .i64 p.v.n,.slice na p.v.l.length nb,.int .i64 p.n,.slice nc p.a.length nd]) ∧
  Hid (At W w1.heap.size 0 [.int .u8 1,.int .i64 ((j:Int)+1),.int .i64 0,.string ⟨#[]⟩,.int .u8 0,.int .i64 0,.slice none 0 0])∧Hid (W.there w1.heap.size 0 7)∧Hid (W.there (w.heap.size+2) 0 7) ∧
  W.cell? ⟨w1.heap.size+1,0,none⟩=some (.int .i64 (f:Int))∧W.cell? ⟨w1.heap.size+1,1,none⟩=some (.int .i64 (g:Int))∧W.cell? ⟨w1.heap.size+1,2,none⟩=some (.int .u8 vk)∧W.cell? ⟨w1.heap.size+1,3,none⟩=some (.int .i64 vn)∧W.cell? ⟨w1.heap.size+1,4,none⟩=some (.slice xa vl.length xc)∧Hid (RV W (fun b=>w.heap.size+3≤b∧b < w1.heap.size) ⟨vk,vn,vl⟩ xa))
  ⟨ZlD,sm,hid (ZO.2 ⟨gs,gs,gs,gs,gs,gs,gs,gs,gs,gs,gs,gs,gs,gs,gs⟩),hid (Qf.2 ⟨gs,gs,gs,gs,gs,gs⟩),
  hid (ZeO.2 ⟨gs,gs,gs,gs,gs,gs,gs⟩),hid (ZiK (c0:=.int .u8 1) (c1:=.int .i64 ((j:Int)+1)) (c2:=.int .i64 0) (c3:=.string ⟨#[]⟩) (c4:=.int .u8 0) (c5:=.int .i64 0) (c6:=.slice none 0 0) (ZeO.2 ⟨gs,gs,gs,gs,gs,gs,gs⟩) gs gs gs gs gs gs gs),hid (ZiK (c0:=.int .u8 0) (c1:=.int .i64 0) (c2:=.int .i64 0) (c3:=.string ⟨#[]⟩) (c4:=.int .u8 0) (c5:=.int .i64 0) (c6:=.slice none 0 0) (ZeO.2 ⟨gs,gs,gs,gs,gs,gs,gs⟩) gs gs gs gs gs gs gs),
  gs,gs,gs,gs,gs,hid (ZmG ar _ _ (ZmO (fun b h hb=>⟨by simp at h;omega,hb⟩) _ _ HRV0.out))⟩ ?_
 clear hc1 hf1 hb1 k0 k1 k2 k3 k4
 intro W7 ⟨hb7,hz7,HA5,HA6,HA7,HT1,HT2,e0,e1,e2,e3,e4,HRV⟩
 simp only [Nat.add_assoc,Nat.reduceAdd]
 as_aux_lemma=>
  obtain ⟨u0,u1,u2,u3,u4,u5,u6,u7,u8,u9,ua,ub,uc,ud,ue⟩:=ZO.1 HA5.out
  obtain ⟨p0,p1,p2,p3,p4,p5⟩:=Qf.1 HA6.out
  have h1:(f:Int)≤(g:Int):=om
  have h2:(g:Int)≤(s.size:Int):=om
  have v0:w.heap.size < W7.heap.size:=om
  have v1:w.heap.size+1 < W7.heap.size:=om
  have v2:w.heap.size+2 < W7.heap.size:=om
  have v3:w1.heap.size < W7.heap.size:=om
  have v4:w1.heap.size+1 < W7.heap.size:=om
  have v5:w.heap.size+2 < w1.heap.size+2:=om
  have v6:w.heap.size < w1.heap.size+2:=om
  have v7:w.heap.size+1 < w1.heap.size+2:=om
  (try dsimp only [List.append])
  refine wp_region_noPanic ?_
  refine wp_region_held_drew (S:=(fun W=>(∀k,W.cell? ⟨w.heap.size,k,none⟩=W7.cell? ⟨w.heap.size,k,none⟩)∧(∀k,W.cell? ⟨w.heap.size+1,k,none⟩=W7.cell? ⟨w.heap.size+1,k,none⟩)∧(∀k,W.cell? ⟨w1.heap.size+1,k,none⟩=W7.cell? ⟨w1.heap.size+1,k,none⟩))) kr ?_ (fun hHeld=>?_)
  ·exact Zno
  refine tz 0 ?_
  try simp only [Act.put,sl,s0,ss]
  refine tz 1 ?_
  try simp only [Act.put,sl,s0,ss]
  refine tz 2 ?_
  try simp only [Act.put,sl,s0,ss]
  as_aux_lemma=>
   refine tz 3 ?_
   try simp only [Act.put,sl,s0,ss]
   refine tz 4 ?_
   try simp only [Act.put,sl,s0,ss]
   refine tz 5 ?_
   try simp only [Act.put,sl,s0,ss]
   refine tz 6 ?_
   try simp only [Act.put,sl,s0,ss]
   as_aux_lemma=>
    refine tz 7 ?_
    try simp only [Act.put,sl,s0,ss]
    refine wrh1 8 fun K hK=>?_
    go_simp
    go_wp2_with (go_at_call 7;(refine (Zhk t p (s.extract f g) _ A A2 ⟨ma,mb,mc,md,me,mf,mg,mh,mi,mj,mk,ml⟩ ⟨na,nb,nc,nd⟩ OX.out hs (by exact ZlV ar _ _ HL.out) OP.out hp (by exact ZmP ar _ _ HR.out) HB.out.1 ⟨vk,vn,vl⟩ HB.out.2).mono ?_);rw [HT.out];rintro e w4 ⟨hb4,⟨za,zc⟩,rfl,hry⟩;have HRY:=hid (ZmO (A':=fun b=>(w.heap.size+3≤b∧b < w1.heap.size)∨w1.heap.size+2≤b) (fun b h _=>Or.inr (by (try simp at h);omega)) _ _ hry);clear hry;have hz4:=hb4.size;(try simp at hz4);have HT4:=hid (U9 (QG HT1.out) hb4);have HU4:=hid (U9 (QG HT2.out) hb4);have HR4:=hid (Zdu (Xb (KR HA7.out)) hb4);have HB4:=hid (show Below w.heap.size w w4 from ZlD);clear u0 u1 u2 u3 u4 u5 u6 u7 u8 u9 ua ub uc ud ue p0 p1 p2 p3 p4 p5 e0 e1 e2 e3 e4 h1 h2 hw1 hw2 hjl)
    refine hK.out _ _ ?_ (fun hHeld=>?_)
    ·exact Zno
    clear hK K
    refine tz 9 ?_
    try simp only [Act.put,sl,s0,ss]
    refine tz 10 ?_
    try simp only [Act.put,sl,s0,ss]
    as_aux_lemma=>
     refine tz 11 ?_
     try simp only [Act.put,sl,s0,ss]
     refine tz 12 ?_
     try simp only [Act.put,sl,s0,ss]
     refine tz 13 ?_
     try simp only [Act.put,sl,s0,ss]
     refine tz 14 ?_
     try simp only [Act.put,sl,s0,ss]
     as_aux_lemma=>
      refine wrh1 15 fun K hK=>?_
      (rw [if_pos (ZV rfl _)];refine QK 9 _ _ rfl w1.heap.size 3 (.string x) [.string x] rfl rfl rfl (KM HT4.out 3 1 (by decide)) kr (by simp [Value.oneCell']) ?_;simp only [Act.put,sl,s0,ss])
      refine hK.out _ _ ?_ (fun hHeld=>?_)
      ·exact Zno
      clear hK K
      refine tz 16 ?_
      try simp only [Act.put,sl,s0,ss]
      refine wrh1 17 fun K hK=>?_
      (rw [if_pos (ZV rfl _)];refine QK 24 _ _ rfl w1.heap.size 4 (.agg #[.int .u8 yk,.int .i64 yn,.slice za yl.length zc]) [.int .u8 yk,.int .i64 yn,.slice za yl.length zc] rfl rfl rfl (KM (World.there_setCells HT4.out _ _ _) 4 3 (by decide)) kr (by simp [Value.oneCell']) ?_;simp only [Act.put,sl,s0,ss])
      refine hK.out _ _ ?_ (fun hHeld=>?_)
      ·exact Zno
      clear hK K
      refine tz 18 ?_
      try simp only [Act.put,sl,s0,ss]
      as_aux_lemma=>
       refine wrh1 19 fun K hK=>?_
       (rw [if_pos (ZV rfl _)];refine QK 3 _ _ rfl w1.heap.size 2 (.int .i64 n) [.int .i64 n] rfl rfl rfl (KM (World.there_setCells (World.there_setCells HT4.out _ _ _) _ _ _) 2 1 (by decide)) kr (by simp [Value.oneCell']) ?_;simp only [Act.put,sl,s0,ss])
       refine hK.out _ _ ?_ (fun hHeld=>?_)
       ·exact Zno
       clear hK K
       refine wpAnyH_done kr ?_ _
       as_aux_lemma=>
        (refine NoPanic.normal ?_;refine KL (fun W=>Below w.heap.size w W∧W.heap.size=w4.heap.size∧Hid (W.rangeAt w1.heap.size 0 [.int .u8 1,.int .i64 ((j:Int)+1),.int .i64 n,.string x,.int .u8 yk,.int .i64 yn,.slice za yl.length zc])∧Hid (W.there (w.heap.size+2) 0 7)∧Hid (RV W (fun b=>(w.heap.size+3≤b∧b < w1.heap.size)∨w1.heap.size+2≤b) ⟨yk,yn,yl⟩ za)) ⟨ZL om (ZL om (ZL om HB4.out)),by rw [YI,YI,YI],hid (ZfQ HR4.out HT4.out),hid (World.there_setCells (World.there_setCells (World.there_setCells HU4.out _ _ _) _ _ _) _ _ _),hid (ZmG ((XH so).trans ((XH so).trans (XH so))) _ _ HRY.out)⟩ ?_;clear HT4 HU4 HR4 HB4 HRY hHeld;intro W9 ⟨hb9,hz9,HR9,HT9,HRY⟩;as_aux_lemma=>(go_wp2_with (first|(refine wpList_load_mid rfl 41 _ rfl w1.heap.size 0 (by rfl) [.int .u8 1,.int .i64 ((j:Int)+1),.int .i64 n,.string x,.int .u8 yk,.int .i64 yn,.slice za yl.length zc] _ HR9.out underlying41 rfl kr ?_)|(refine wpList_store_mid rfl 41 _ _ rfl (w.heap.size+2) 0 _ rfl rfl HT9.out kr (by simp [Value.oneCell']) ?_));refine Zfn (fun W=>Below w.heap.size w W∧Hid (At W (w.heap.size+2) 0 [.int .u8 1,.int .i64 ((j:Int)+1),.int .i64 n,.string x,.int .u8 yk,.int .i64 yn,.slice za yl.length zc])∧Hid (RV W (fun b=>(w.heap.size+3≤b∧b < w1.heap.size)∨w1.heap.size+2≤b) ⟨yk,yn,yl⟩ za)) ⟨ZL om hb9,hid (XG HT9.out),hid (ZmG (XH so) _ _ HRY.out)⟩ ?_;clear hb9 hz9 HR9 HT9 HRY;intro W10 ⟨hb10,HA10,HRY⟩;obtain ⟨b0,b1,b2,b3,b4,b5,b6⟩:=ZeO.1 HA10.out;refine bodyPost_ret (v:=(.tuple #[.agg #[.int .u8 1,.int .i64 ((j:Int)+1),.int .i64 n,.string x,.int .u8 yk,.int .i64 yn,.slice za yl.length zc],.int .i64 0])) (by simp [results,Tryz.f11,go_sem,b0,b1,b2,b3,b4,b5,b6]) rfl ?_;exact ⟨hb10,⟨za,zc⟩,rfl,ZmO (A:=fun b=>(w.heap.size+3≤b∧b < w1.heap.size)∨w1.heap.size+2≤b) (fun b h _=>om) _ _ HRY.out⟩))
set_option maxRecDepth 512
theorem Zna (t:GT) (p:GP) (s:ByteArray) (N:Nat) (w:World) (A A2:Nat→Prop) (m:TA) (mp:PA) (ox:okT t) (hs:Zb t≤1048576) (hl:RT w A t m) (op:okP p) (hp:Zm p≤1099511627776) (hr:RP w A2 p mp) (hE:VQ t p s N=0):
  Calls prog 11 #[TV t m,PV p mp,.string s,.int .i64 N] w fun e w'=>Below w.heap.size w w'∧∃my:VA,e=.returned (.tuple #[PVr (Zdw t p s N) my,.int .i64 0])∧RV w' (fun b=>w.heap.size≤b) (Zdw t p s N).v my.a:=by
 by_cases hne:(Yz s t p N 0).2=1
 ·obtain ⟨h1,h2,h3⟩:=ZgJ hE
  obtain ⟨r,e1,f,k,e2,e3,e4,e5,e6,e7, -⟩:=ZhV ox h1 hne
  obtain ⟨rf,rt,vk,vn,vl⟩:=r
  dsimp only at e2 e3
  subst e2 e3
  rw [ZiA hne e1]
  rw [e5] at e6 e7 ⊢
  generalize hR:Yz s t p N 0=R at *
  obtain ⟨l,K⟩:=R
  obtain rfl:K=1:=hne
  obtain ⟨hlen, -⟩:=Zgk s t p N 0 l 1 hR
  obtain ⟨ys,rfl⟩:=List.getLast?_eq_some_iff.1 e1
  dsimp only
  generalize hT:YO t p 1024 (s.extract f (f+k)) ⟨vk,vn,vl⟩ 0=T
  obtain ⟨x,⟨yk,yn,yl⟩,n⟩:=T
  have hlen':(ys++[(⟨(f:Int),((f+k:Nat):Int),⟨vk,vn,vl⟩⟩:GR)]).length=ys.length+1:=sm
  refine (Zm2 t p s N w A A2 m mp ox hs hl op hp hr hE (UW.2 h2) _ hR ys.length f (f+k) hlen' (by rw [hlen'] at hlen;omega) vk vn vl (fun h=>sm) om e4 ⟨Znf h2 e7,e7⟩ x yk yn yl n hT).mono fun e w' ⟨hb,my,he,hv⟩=>⟨hb,my,?_,hv⟩
  rw [he,hlen']
  rfl
 exact Zm9 t p s N w A A2 m mp ox hs hl op hp hr hE hne
set_option maxRecDepth 100000
theorem Znb (t:GT) (p:GP) (u:ByteArray) (N:Int) (w:World) (A A2:Nat→Prop) (m:TA) (mp:PA) (ox:okT t) (hs1:Zb t≤1048576) (hl:RT w A t m) (op:okP p) (hr:RP w A2 p mp) (hG:GW w) (R:ZiW) (e:Int) (ov:okV R.v)
  (hd:∀W,RT W A t m→RP W A2 p mp→Calls prog 11 #[TV t m,PV p mp,.string u,.int .i64 N] W fun q w'=>Below W.heap.size W w'∧∃my:VA,q=.returned (.tuple #[PVr R my,.int .i64 e])∧RV w' (fun b=>W.heap.size≤b) R.v my.a)
  (hc:∀W,RT W A t m→RP W A2 p mp→GW W→Calls prog 12 #[TV t m,PV p mp,.string u,.int .i64 N] W fun q w'=>Below W.heap.size W w'∧∃my:VA,q=.returned (.tuple #[PVr R my,.int .i64 e])∧RV w' (fun b=>W.heap.size≤b) R.v my.a):
  Calls prog 4 #[TV t m,PV p mp,.string u,.int .i64 N] w fun e w'=>e=.returned (.bool true)∧Below w.heap.size w w':=by
 obtain ⟨ma,mb,mc,md,me,mf,mg,mh,mi,mj,mk,ml⟩:=m
 obtain ⟨na,nb,nc,nd⟩:=mp
 obtain ⟨re,rn,rs,ru,vk,vn,vl⟩:=R
 have HL:=hid hl
 have HR:=hid hr
 have OX:=hid ox
 have OP:=hid op
 have HG:=hid hG
 have OV:=hid ov
 have HD:=hid hd
 have HC:=hid hc
 have hlen:vl.length≤1048576:=(ZA.1 ov).2.2.1
 clear hl hr ox op hG ov hd hc
 go_enter func4,ntmps4
 go_wp2_with (first
  | (go_at_call 5;(with_reducible refine (Zfg t p u _ _ A A2 ⟨ma,mb,mc,md,me,mf,mg,mh,mi,mj,mk,ml⟩ ⟨na,nb,nc,nd⟩ OX.out hs1 (by exact ZlV ar _ _ HL.out) OP.out (by exact ZmP ar _ _ HR.out)).mono ?_);rintro e w1 ⟨⟨b1,rfl⟩,hb1⟩;obtain ⟨hc1,hf1⟩:=Za hb1;have hz1:=hb1.size;(try simp at hz1);have y1:w.heap.size < w1.heap.size:=om;have y2:w.heap.size+1 < w1.heap.size:=om;cases b1)
  | (go_at_call 6;(with_reducible refine (Za4 _ (HG.out.below ZlD)).mono ?_);rintro e wa ⟨rfl,hba⟩)
  | (go_at_call 11;(with_reducible refine (HD.out _ (by exact ZlV ar _ _ HL.out) (by exact ZmP ar _ _ HR.out)).mono ?_);rintro e3 w3 ⟨hb3,⟨xa,xc⟩,rfl,hv3⟩;have HV3:=hid hv3;clear hv3;obtain ⟨hc3,hf3⟩:=Za hb3;have hz3:=hb3.size;(try simp at hz3);have y3:w.heap.size < w3.heap.size:=om;have y4:w.heap.size+1 < w3.heap.size:=om))
 rotate_left
 ·go_ret
  exact ⟨rfl,ZlD⟩
 refine ZT (fun W=>Below w.heap.size w W∧w3.heap.size < W.heap.size∧Hid (At W w.heap.size 0 (TL t ⟨ma,mb,mc,md,me,mf,mg,mh,mi,mj,mk,ml⟩))∧Hid (At W (w.heap.size+1) 0 (PL p ⟨na,nb,nc,nd⟩))∧Hid (At W w3.heap.size 0 [.int .u8 re,.int .i64 rn,.int .i64 rs,.string ru,.int .u8 vk,.int .i64 vn,.slice xa vl.length xc])∧Hid (RV W (fun _=>True) ⟨vk,vn,vl⟩ xa)) ⟨ZlD,sm,hid (ZO.2 ⟨gs,gs,gs,gs,gs,gs,gs,gs,gs,gs,gs,gs,gs,gs,gs⟩),hid (Qf.2 ⟨gs,gs,gs,gs,gs,gs⟩),hid (ZeO.2 ⟨gs,gs,gs,gs,gs,gs,gs⟩),hid (ZmO (A:=fun b=>w.heap.size≤b) (fun _ _ _=>trivial) _ _ (ZmG ar _ _ (ZmO (fun b h _=>om) _ _ HV3.out)))⟩ ?_
 generalize hV:w3.heap.size=V
 have hV2:w.heap.size+1 < V:=om
 clear hc1 hf1 hc3 hf3 HV3 hz1 hz3 hb1 hb3 y1 y2 y3 y4 hV
 intro W0 ⟨hbw,hVz,HAT,HAP,HAV,HRV⟩
 go_loopg [11] 2 (fun gk t11' wr=>∃r:Nat,gk+r=2∧t11'=.int .i64 r∧Below W0.heap.size W0 wr)
 case atStart=>exact ⟨0,rfl,rfl,Below.refl _ _⟩
 case round=>
  obtain ⟨r,hr2,rfl,hbr⟩:=hrel
  have hzr:=hbr.size
  have hbwr:Below w.heap.size w wr:=hbw.trans (hbr.mono om)
  have u0:w.heap.size < wr.heap.size:=om
  have u1:w.heap.size+1 < wr.heap.size:=om
  have u2:V < wr.heap.size:=om
  by_cases hlt:r < 2
  ·have hlI:(r:Int) < 2:=om
   obtain ⟨c0,c1,c2,c3,c4,c5,c6,c7,c8,c9,ca,cb,cc,cd,ce⟩:=ZO.1 (ZmS (ZlH hbr) (A:=fun _=>True) trivial _ _ HAT.out)
   obtain ⟨p0,p1,p2,p3,p4,p5⟩:=Qf.1 (ZmS (ZlH hbr) (A:=fun _=>True) trivial _ _ HAP.out)
   obtain ⟨v0,v1,v2,v3,v4,v5,v6⟩:=ZeO.1 (ZmS (ZlH hbr) (A:=fun _=>True) trivial _ _ HAV.out)
   have QT:=hid (ZlV (ZlH hbwr) _ _ HL.out)
   have QP:=hid (ZmP (ZlH hbwr) _ _ HR.out)
   have QV:=hid (ZmG (ZlH hbr) _ _ HRV.out)
   have hN0:0 < wr.heap.size:=om
   go_wp2_with (first
    | (go_at_call 12;(with_reducible refine (HC.out _ (by exact QT.out) (by exact QP.out) (HG.out.below ZlD)).mono ?_);rintro e4 w4 ⟨hb4,⟨za,zc⟩,rfl,hz⟩;have HZ:=hid hz;clear hz;obtain ⟨hc4,hf4⟩:=Za hb4;have hz4:=hb4.size;(try simp at hz4);have y5:w.heap.size < w4.heap.size:=om;have y6:w.heap.size+1 < w4.heap.size:=om;have y7:V < w4.heap.size:=om)
    | (go_at_call 13;refine (ZfV ⟨re,rn,rs,ru,⟨vk,vn,vl⟩⟩ _ (fun b=>wr.heap.size≤b) (fun _=>True) ⟨za,zc⟩ ⟨xa,xc⟩ OV.out (by exact ZmG ar _ _ HZ.out) (by exact ZmG (ZlH (show Below wr.heap.size wr _ from ZlD)) _ _ QV.out)).mono ?_;rintro e5 w5 ⟨rfl,hb5⟩;obtain ⟨hc5,hf5⟩:=Za hb5;have hz5:=hb5.size;(try simp at hz5);have y8:w4.heap.size < w5.heap.size:=om)
    | (go_at_call 10;(refine (ZeD ⟨vk,vn,vl⟩ ⟨za,zc⟩ wr.heap.size _ hN0 sz hlen (by exact ZmG (ZlH (show Below w4.heap.size w4 _ from ZlD)) _ _ HZ.out)).mono ?_);rintro e6 w6 ⟨rfl,hb6⟩))
   go_roundg (gk - 1)
   case measure=>omega
   case rel=>exact ⟨r+1,om,by go_num,ZlD⟩
  have hlI:¬(r:Int) < 2:=om
  go_wp2_with (go_at_call 6;(with_reducible refine (Za4 _ (HG.out.below ZlD)).mono ?_);rintro e wa ⟨rfl,hba⟩)
  go_ret
  exact ⟨rfl,ZlD⟩
set_option maxRecDepth 512
theorem Zne {t:GT} {p:GP} {s:ByteArray} {N:Nat} (ox:okT t) (hE:VQ t p s N=0):okV (Zdw t p s N).v:=by
 by_cases hne:(Yz s t p N 0).2=1
 ·obtain ⟨h1,h2,h3⟩:=ZgJ hE
  obtain ⟨r,e1,f,k,e2,e3,e4,e5,e6,e7, -⟩:=ZhV ox h1 hne
  have hM:∀M,okV (YO t p M (Qd s r) r.v 0).2.1:=fun M=>(Wp ox (Zgx ox M _ r.v 0 e7).1).2.2.2.2.2.2.1
  rw [ZiA hne e1]
  dsimp only
  exact hM _
 rw [Zjw hne]
 exact UA (by unfold Yg;omega) (by unfold Zv;omega)
theorem Znc {t:GT} {p:GP} {s:ByteArray} {n:Int} (h:VQ t p s n=0):∃N:Nat,n=N:=by
 refine ⟨n.toNat,?_⟩
 unfold VQ at h
 (repeat' split at h)<;>omega
theorem Zm6 (w:World) (t:GT) (A:Nat→Prop) (m:TA) (ox:okT t) (hs1:Zb t≤1048576) (hl:RT w A t m) (p:GP) (A2:Nat→Prop) (mp:PA) (op:okP p) (hp1:Zm p≤1048576) (hr:RP w A2 p mp) (u:ByteArray) (hss:u.size≤1048576) (n:Int) (hG:GW w):
  Calls prog 4 #[TV t m,PV p mp,.string u,.int .i64 n] w fun e w'=>e=.returned (.bool true)∧Below w.heap.size w w':=by
 have hs:Zb t≤1099511627776:=om
 have hp:Zm p≤1099511627776:=om
 have hus:u.size≤9223372036854775807:=om
 by_cases hE:VQ t p u n=0
 case neg=>
  refine Znb t p u n w A A2 m mp ox hs1 hl op hr hG ⟨0,0,0,⟨#[]⟩,⟨0,0,[]⟩⟩ (VQ t p u n) (UA (by unfold Yg;omega) (by unfold Zv;omega)) (fun W g1 g2=>?_) (fun W g1 g2 g3=>?_)
  ·exact (Zm5 t p u n W A A2 m mp ox hs1 g1 op hp g2 hus hE).mono fun q w' ⟨h1,h2⟩=>⟨h2,⟨none,0⟩,h1,by simp [RV,RVs]⟩
  exact (ZkT t p u n W A A2 m mp ox hs g1 op hp g2 hus hE).mono fun q w' ⟨h1,h2⟩=>⟨h2,⟨none,0⟩,h1,by simp [RV,RVs]⟩
 obtain ⟨N,rfl⟩:=Znc hE
 exact Znb t p u N w A A2 m mp ox hs1 hl op hr hG (Zdw t p u N) 0 (Zne ox hE)
  (fun W g1 g2=>Zna t p u N W A A2 m mp ox hs1 g1 op hp g2 hE) (fun W g1 g2 g3=>Zi7 t p u N W A A2 m mp ox hs g1 op hp g2 g3 hE)
end Go.Proofs.YtclphfojkggcpaaGreatDoor
