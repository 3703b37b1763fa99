/- Part 33. -/
import Derived.Deep.RegionHeld2
import Derived.Test.YtkdffbdnjfgpeaaGreatY23
import Derived.Test.YtkdffbdnjfgpeaaGreatY31
import Derived.Test.YtkdffbdnjfgpeaaGreatYTk
set_option linter.all false
namespace Go.Proofs.YtkdffbdnjfgpeaaGreat
open Go.Lib (hid)
open Go Go.RowKit Go.Proofs.Tryz
theorem Xs (p:GP) (v:GV) (b:Bool) (hb:(Xo p&&Zh p v)=b) (A A2:Nat→Prop) (mp:PA) (m:VA) (w:World) (ox:okP p) (hs:Zm p≤1099511627776) (hr:RP w A p mp) (ov:okV v) (hv2:RV w A2 v m.a):
  Calls prog 231 #[PV p mp,VV v m] w fun e w'=>e=.returned (.bool b)∧Below w.heap.size w w':=by
 subst hb
 exact ZgC p v A A2 mp m w ox hs hr ov hv2
theorem Zae (g:Nat→Res GV) (p:GP) (f i:Nat):WD g p (f+1) i=match g i with
  | .no k=>.no k
  | .ok v j=>if Zh p v=true then .ok v j else if j=i then .no 3 else WD g p f j:=by
 rw [WD]
 cases g i<;>rfl
structure FiltM (c b o:Nat) (t:GT) (mg mi:Option Addr) (mh mj mk':Nat) (B:Nat) (W:World):Prop where
 h0:W.cell? ⟨B,0,none⟩=some (.pointer (some ⟨c,0,none⟩))
 p0:W.cell? ⟨B+1,8,none⟩=some (.int .u8 t.p.k)
 p1:W.cell? ⟨B+1,9,none⟩=some (.int .u8 t.p.v.k)
 p2:W.cell? ⟨B+1,10,none⟩=some (.int .i64 t.p.v.n)
 p3:W.cell? ⟨B+1,11,none⟩=some (.slice mg t.p.v.l.length mh)
 p4:W.cell? ⟨B+1,12,none⟩=some (.int .i64 t.p.n)
 p5:W.cell? ⟨B+1,13,none⟩=some (.slice mi t.p.a.length mj)
 p6:W.cell? ⟨B+1,14,none⟩=some (.slice (some ⟨b,o,none⟩) t.a.length mk')
 z:ZRes W (B+1+1)
theorem FiltM.but {c b o:Nat} {t:GT} {mg mi:Option Addr} {mh mj mk' B N:Nat} {w w':World} (h:FiltM c b o t mg mi mh mj mk' B w) (hb:But c N w w') (h1:B+1+1 < N) (h2:c < B):FiltM c b o t mg mi mh mj mk' B w':=by
 obtain ⟨a0,a1,a2,a3,a4,a5,a6,a7,a8⟩:=h
 have k0:B < N:=om
 have k1:B+1 < N:=om
 have n0:B≠c:=om
 have n1:B+1≠c:=om
 exact ⟨(hb.cell k0 n0).trans a0,(hb.cell k1 n1).trans a1,(hb.cell k1 n1).trans a2,(hb.cell k1 n1).trans a3,(hb.cell k1 n1).trans a4,(hb.cell k1 n1).trans a5,(hb.cell k1 n1).trans a6,(hb.cell k1 n1).trans a7,a8.but hb h1 om⟩
theorem ZoF {p:Prop} (h:p:=by ((try dsimp only);(refine ⟨gs,gs,?_⟩;intro k;first|(refine Below.cell (B:=w1.heap.size) (w:=w1) (p:=⟨b,k,none⟩) ?_ hs1;((repeat (first|exact Below.refl _ _|assumption|refine Below.trans ?_ (Below.mono (by assumption) (by first|omega|(simp;done)|(simp;omega)))|refine Below.drew ?_|refine Below.alloc ?_ (by first|omega|(simp;done)|(simp;omega)) _|refine Below.setCell ?_ (by first|omega|(simp;done)|(simp;omega)) _));done))|(refine (Below.cell (B:=w1.heap.size) (w:=w2) (p:=⟨b,k,none⟩) ?_ hs1).trans (hkb k);((repeat (first|exact Below.refl _ _|assumption|refine Below.trans ?_ (Below.mono (by assumption) (by first|omega|(simp;done)|(simp;omega)))|refine Below.drew ?_|refine Below.alloc ?_ (by first|omega|(simp;done)|(simp;omega)) _|refine Below.setCell ?_ (by first|omega|(simp;done)|(simp;omega)) _));done))))):p:=h
theorem Zwa {p:Prop} (h:p:=by
 go_simp
 go_wp2_with (go_at_call 94;refine (IH.out t.a[0] e p _ mj' a HX.out.1 HX.out.2.1 HX.out.2.2.1 HE.out hpi HX.out.2.2.2 (by exact Zt3 (B:=w1.heap.size) ZtX hc1s HC1.out) (by exact Zt2 (Zt0 Zt1) _ _ GX.out) (by exact Zua (Zt0 Zt1) _ _ HV.out)).mono ?_;rw [HW.out];rintro e1 w2 ⟨hb2,rfl⟩)
 (rw [←HST.out];exact ⟨rfl,Zt1,rfl⟩)):p:=h
set_option maxRecDepth 100000
set_option maxHeartbeats 32000000
theorem Zb9 (c:Nat) (s:ByteArray) (S f:Nat) (hS:S≤1099511627776) (ih:Vn c s S f) (t:GT) (e:Env) (i:Nat) (w:World) (x:TA) (a:Option Addr) (hb:Zc s=true) (hg:Zp (!e.isEmpty) t) (ox:okT t) (hs:Zb t≤S) (he:Ye S e) (hi:i≤s.size)
  (hwk:∀x∈t.a,∃k n,wkT f x e k n≠none) (hk:t.k=9) (hc:Cur w c s i false) (hr:RT w (fun b=>b≠c) t x) (hv:REnv w (fun b=>b≠c) e a):
  Calls prog 156 #[.agg #[.pointer (some ⟨c,0,none⟩)],TV t x,.pointer a] w (UH c s (WD (fun j=>atD (fun x=>Zd s f x e) t.a 0 j) t.p (s.size+1 - i) i) w):=by
 obtain ⟨ma,mb,mc,md,me,mf,mg,mh,mi,mj,mk,ml⟩:=x
 have hcs:c < w.heap.size:=World.block_lt_of_cell? _ _ hc.1.1
 have HC:=hid hc
 have HB:=hid hb
 obtain ⟨hrv1,hrv2,hrv3,hrv4,hrv5⟩:=Zo.1 hr
 have HR:=hid hr
 have H1:=hid hrv1
 have H2:=hid hrv2
 have H3:=hid hrv3
 have H4:=hid hrv4
 have HL:=hid hrv5
 obtain ⟨⟨x1,x2⟩,ov,⟨ovl,ovs⟩,⟨l1,l2⟩,⟨l3,l4⟩,⟨owl,ow⟩,op,oal,oa⟩:=Ze.1 ox
 have OX:=hid ox
 have OV:=hid ov
 have OVS:=hid ovs
 have OW:=hid ow
 have OP:=hid op
 have O:=hid oa
 have HND:=hid (Zk.1 hg).1
 have hse:=Zq t
 dsimp only at H1 H2 H3 H4 HL
 obtain ⟨hal,hmay⟩:=Zap HND.out hk
 have h0l:0 < t.a.length:=om
 have halI:(0:Int) < (t.a.length:Int):=om
 have hG:(fun j=>atD (fun x=>Zd s f x e) t.a 0 j)=fun j=>Zd s f t.a[0] e j:=by
  funext j;unfold atD;rw [List.getElem?_eq_getElem h0l]
 rw [hG]
 have hm0:=List.getElem_mem h0l
 have hgx:Zp (!e.isEmpty) t.a[0]:=YG hg om hm0
 have hox:okT t.a[0]:=Jl ox hm0
 have hsx:Zb t.a[0]≤S:=by have:=Q6 hm0;omega
 have hwx:=hwk _ hm0
 have hsp:Zm t.p≤1099511627776:=om
 have IH:=hid ih
 have HV:=hid hv
 have HE:=hid he
 have HX:=hid (And.intro hgx (And.intro hox (And.intro hsx hwx)))
 have hin:=fun q hq=>WJ s S f t.a[0] e q hgx hox hsx he hq
 have HIN:=hid hin
 have HMAY:=hid hmay
 obtain ⟨b,o,mj',hja,hA,hbs,g0,gx⟩:=HL.out.get 0 h0l
 subst hja
 have G0:=hid (show At w b o _ by simpa using g0)
 have GX:=hid gx
 have hbc:b≠c:=hA
 generalize hR0:WD (fun j=>Zd s f t.a[0] e j) t.p (s.size+1 - i) i=R at *
 have HR0:=hid hR0
 clear hg ox hr hc hb hrv1 hrv2 hrv3 hrv4 hrv5 ov ovs ow op oa hk hv he ih hwk hG hm0 hgx hox hsx hwx hin g0 gx hal hmay hR0
 go_enter func156,ntmps156
 go_wp2_with fail
 go_loopg [] (s.size - i) (fun gk wr=>∃(p fu:Nat),gk+p=s.size∧But c w.heap.size w wr∧w.heap.size+1+1 < wr.heap.size∧s.size+1≤fu+p∧Hid (FiltM c b o t mg mi mh mj ml w.heap.size wr)∧Hid (Cur wr c s p false)∧Hid (WD (fun j=>Zd s f t.a[0] e j) t.p fu p=R))
 case atStart=>exact ⟨i,s.size+1 - i,om,Zt1,sm,om,hid ⟨gs,gs,gs,gs,gs,gs,gs,gs,⟨gs,gs,gs⟩,gs,gs,gs⟩,hid (Zt3 (B:=w.heap.size) ZtX hcs HC.out),HR0⟩
 case round=>
  obtain ⟨p,fu,hp,hbt,hz,hfu,HF,HCU,HP⟩:=hrel
  have hpi:p≤s.size:=om
  obtain ⟨fu',rfl⟩:∃fu',fu=fu'+1:=⟨fu - 1,om⟩
  have hst:=HP.out
  rw [Zae] at hst
  have hinj:=HIN.out p hpi
  have hcr:c < wr.heap.size:=om
  have k00:=HF.out.h0
  rcases hW:Zd s f t.a[0] e p with ⟨v,q⟩|⟨k⟩
  ·rw [hW] at hst hinj
   obtain ⟨hpq,hqs,hokv⟩:=hinj
   have OKV:=hid hokv
   have HW:=hid hW
   dsimp only at hst
   clear hW hokv
   cases hHv:Zh t.p v
   ·have HH:=hid (show (Xo t.p&&Zh t.p v)=false by rw [hHv];simp)
    rw [hHv,if_neg sm] at hst
    clear hHv
    by_cases hqp:q=p
    ·rw [if_pos hqp] at hst
     have hqp':((q:Int)==(p:Int))=true:=beq_iff_eq.2 om
     clear hqp
     have HST:=hid hst
     clear hst
     go_wp2_with (go_at_call 92;refine (X1 c s p false _ HCU.out).mono ?_;rintro e0 w1 ⟨rfl,hb1⟩;have hz1:=hb1.size;have hbb1:But c w.heap.size w w1:=hbt.trans (Zue (hb1.mono om));have HF1:=hid (HF.out.but (Zue (c:=c) hb1) om hcs);have HC1:=hid (Zt3 hb1 hcr HCU.out);have hc1s:c < w1.heap.size:=om;obtain ⟨a0,p0,p1,p2,p3,p4,p5,p6,⟨⟨r0,r1,r2⟩,s0,s1,s2⟩⟩:=HF1.out;obtain ⟨z0,z1,z2,z3,z4,z5,z6,z7,z8,z9,za,zb,zc,zd,ze⟩:=Yp.1 (Zuf (Zt0 hbb1) hA _ _ G0.out);have hs1:b < w1.heap.size:=om;have y1:w.heap.size < w1.heap.size:=om;have y2:w.heap.size+1 < w1.heap.size:=om;have y3:w.heap.size+1+1 < w1.heap.size:=om)
     go_region_held3 (fun W=>W.cell? ⟨w.heap.size,0,none⟩=some (.pointer (some ⟨c,0,none⟩))∧W.cell? ⟨w.heap.size+1,14,none⟩=some (.slice (some ⟨b,o,none⟩) t.a.length ml)∧∀k,W.cell? ⟨b,k,none⟩=w1.cell? ⟨b,k,none⟩) ((refine ⟨gs,gs,?_⟩;intro k;first|(refine Below.cell (B:=w1.heap.size) (w:=w1) (p:=⟨b,k,none⟩) ?_ hs1;((repeat (first|exact Below.refl _ _|assumption|refine Below.trans ?_ (Below.mono (by assumption) (by first|omega|(simp;done)|(simp;omega)))|refine Below.drew ?_|refine Below.alloc ?_ (by first|omega|(simp;done)|(simp;omega)) _|refine Below.setCell ?_ (by first|omega|(simp;done)|(simp;omega)) _));done))|(refine (Below.cell (B:=w1.heap.size) (w:=w2) (p:=⟨b,k,none⟩) ?_ hs1).trans (hkb k);((repeat (first|exact Below.refl _ _|assumption|refine Below.trans ?_ (Below.mono (by assumption) (by first|omega|(simp;done)|(simp;omega)))|refine Below.drew ?_|refine Below.alloc ?_ (by first|omega|(simp;done)|(simp;omega)) _|refine Below.setCell ?_ (by first|omega|(simp;done)|(simp;omega)) _));done)))) ((go_at_call 94;refine (IH.out t.a[0] e p _ mj' a HX.out.1 HX.out.2.1 HX.out.2.2.1 HE.out hpi HX.out.2.2.2 (by exact Zt3 (B:=w1.heap.size) ZtX hc1s HC1.out) (by exact Zt2 (Zt0 Zt1) _ _ GX.out) (by exact Zua (Zt0 Zt1) _ _ HV.out)).mono ?_;rw [HW.out];rintro e1 w2 ⟨hb2,⟨m,rfl,hrv⟩,hc2⟩;have HRV:=hid hrv;have HC2:=hid hc2;clear hrv hc2;have hz2:=hb2.size;(try simp at hz2);have hbb2:But c w1.heap.size w1 w2:=Zt1;have HF2:=hid (HF1.out.but hbb2 om hcs);obtain ⟨a0',p0',p1',p2',p3',p4',p5',p6',⟨⟨r0',r1',r2'⟩,s0',s1',s2'⟩⟩:=HF2.out;have hkb:∀k,w2.cell? ⟨b,k,none⟩=w1.cell? ⟨b,k,none⟩:=fun k=>hbb2.cell hs1 hbc;have y1':w.heap.size < w2.heap.size:=om;have y2':w.heap.size+1 < w2.heap.size:=om;have y3':w.heap.size+1+1 < w2.heap.size:=om;have y4':w1.heap.size≤w2.heap.size:=om;(try (have y5':w1.heap.size < w2.heap.size:=om;have q0:w2.cell? ⟨w1.heap.size,0,none⟩=some (.int .u8 0):=(hb2.cell sm (by simp;omega)).trans gs;have q1:w2.cell? ⟨w1.heap.size,1,none⟩=some (.int .i64 0):=(hb2.cell sm (by simp;omega)).trans gs;have q2:w2.cell? ⟨w1.heap.size,2,none⟩=some (.slice none 0 0):=(hb2.cell sm (by simp;omega)).trans gs;have qf:∀k,w2.frozen? ⟨w1.heap.size,k,none⟩=false:=fun k=>(hb2.frozen sm (by simp;omega)).trans gs))))
     all_goals go_wp2_with (first|((go_at_call 231;first|(refine (Xs t.p v false HH.out (fun b=>b≠c) (fun b=>w1.heap.size≤b) ⟨mg,mh,mi,mj⟩ m _ OP.out hsp (by exact Zub (Zt0 Zt1) _ _ H4.out) OKV.out (by exact Zt5 az _ _ HRV.out)).mono ?_)|(refine (Xs t.p v false HH.out (fun b=>b≠c) (fun b=>w1.heap.size+1≤b) ⟨mg,mh,mi,mj⟩ m _ OP.out hsp (by exact Zub (Zt0 Zt1) _ _ H4.out) OKV.out (by exact Zt5 (A:=fun b=>w1.heap.size+1≤b) (((Zt4 so).trans (Zt4 so)).trans (Zt4 so)) _ _ (Zt9 (fun b hb _=>by simpa using hb) _ _ HRV.out))).mono ?_));rintro e3 w4 ⟨rfl,hb4⟩;have hz4:=hb4.size;(try simp at hz4);have hcc4:Cur w4 c s q false:=Zt3 (B:=w1.heap.size) ZtX hc1s HC2.out;have HC4:=hid hcc4;clear hcc4;have k0:w4.cell? ⟨w.heap.size,0,none⟩=some (.pointer (some ⟨c,0,none⟩)):=(hb4.cell so).trans gs)|(go_at_call 92;refine (X1 c s q false _ HC4.out).mono ?_;rintro e5 w5 ⟨rfl,hb5⟩))
     all_goals (rw [←HST.out];exact ⟨rfl,Zt1,rfl⟩)
    have hqp2:p < q:=om
    rw [if_neg hqp] at hst
    have hqp':((q:Int)==(p:Int))=false:=beq_eq_false_iff_ne.2 om
    have HST:=hid hst
    clear hst hqp
    go_wp2_with (go_at_call 92;refine (X1 c s p false _ HCU.out).mono ?_;rintro e0 w1 ⟨rfl,hb1⟩;have hz1:=hb1.size;have hbb1:But c w.heap.size w w1:=hbt.trans (Zue (hb1.mono om));have HF1:=hid (HF.out.but (Zue (c:=c) hb1) om hcs);have HC1:=hid (Zt3 hb1 hcr HCU.out);have hc1s:c < w1.heap.size:=om;obtain ⟨a0,p0,p1,p2,p3,p4,p5,p6,⟨⟨r0,r1,r2⟩,s0,s1,s2⟩⟩:=HF1.out;obtain ⟨z0,z1,z2,z3,z4,z5,z6,z7,z8,z9,za,zb,zc,zd,ze⟩:=Yp.1 (Zuf (Zt0 hbb1) hA _ _ G0.out);have hs1:b < w1.heap.size:=om;have y1:w.heap.size < w1.heap.size:=om;have y2:w.heap.size+1 < w1.heap.size:=om;have y3:w.heap.size+1+1 < w1.heap.size:=om)
    go_region_held3 (fun W=>W.cell? ⟨w.heap.size,0,none⟩=some (.pointer (some ⟨c,0,none⟩))∧W.cell? ⟨w.heap.size+1,14,none⟩=some (.slice (some ⟨b,o,none⟩) t.a.length ml)∧∀k,W.cell? ⟨b,k,none⟩=w1.cell? ⟨b,k,none⟩) ((refine ⟨gs,gs,?_⟩;intro k;first|(refine Below.cell (B:=w1.heap.size) (w:=w1) (p:=⟨b,k,none⟩) ?_ hs1;((repeat (first|exact Below.refl _ _|assumption|refine Below.trans ?_ (Below.mono (by assumption) (by first|omega|(simp;done)|(simp;omega)))|refine Below.drew ?_|refine Below.alloc ?_ (by first|omega|(simp;done)|(simp;omega)) _|refine Below.setCell ?_ (by first|omega|(simp;done)|(simp;omega)) _));done))|(refine (Below.cell (B:=w1.heap.size) (w:=w2) (p:=⟨b,k,none⟩) ?_ hs1).trans (hkb k);((repeat (first|exact Below.refl _ _|assumption|refine Below.trans ?_ (Below.mono (by assumption) (by first|omega|(simp;done)|(simp;omega)))|refine Below.drew ?_|refine Below.alloc ?_ (by first|omega|(simp;done)|(simp;omega)) _|refine Below.setCell ?_ (by first|omega|(simp;done)|(simp;omega)) _));done)))) ((go_at_call 94;refine (IH.out t.a[0] e p _ mj' a HX.out.1 HX.out.2.1 HX.out.2.2.1 HE.out hpi HX.out.2.2.2 (by exact Zt3 (B:=w1.heap.size) ZtX hc1s HC1.out) (by exact Zt2 (Zt0 Zt1) _ _ GX.out) (by exact Zua (Zt0 Zt1) _ _ HV.out)).mono ?_;rw [HW.out];rintro e1 w2 ⟨hb2,⟨m,rfl,hrv⟩,hc2⟩;have HRV:=hid hrv;have HC2:=hid hc2;clear hrv hc2;have hz2:=hb2.size;(try simp at hz2);have hbb2:But c w1.heap.size w1 w2:=Zt1;have HF2:=hid (HF1.out.but hbb2 om hcs);obtain ⟨a0',p0',p1',p2',p3',p4',p5',p6',⟨⟨r0',r1',r2'⟩,s0',s1',s2'⟩⟩:=HF2.out;have hkb:∀k,w2.cell? ⟨b,k,none⟩=w1.cell? ⟨b,k,none⟩:=fun k=>hbb2.cell hs1 hbc;have y1':w.heap.size < w2.heap.size:=om;have y2':w.heap.size+1 < w2.heap.size:=om;have y3':w.heap.size+1+1 < w2.heap.size:=om;have y4':w1.heap.size≤w2.heap.size:=om;(try (have y5':w1.heap.size < w2.heap.size:=om;have q0:w2.cell? ⟨w1.heap.size,0,none⟩=some (.int .u8 0):=(hb2.cell sm (by simp;omega)).trans gs;have q1:w2.cell? ⟨w1.heap.size,1,none⟩=some (.int .i64 0):=(hb2.cell sm (by simp;omega)).trans gs;have q2:w2.cell? ⟨w1.heap.size,2,none⟩=some (.slice none 0 0):=(hb2.cell sm (by simp;omega)).trans gs;have qf:∀k,w2.frozen? ⟨w1.heap.size,k,none⟩=false:=fun k=>(hb2.frozen sm (by simp;omega)).trans gs))))
    all_goals go_wp2_with (first|((go_at_call 231;first|(refine (Xs t.p v false HH.out (fun b=>b≠c) (fun b=>w1.heap.size≤b) ⟨mg,mh,mi,mj⟩ m _ OP.out hsp (by exact Zub (Zt0 Zt1) _ _ H4.out) OKV.out (by exact Zt5 az _ _ HRV.out)).mono ?_)|(refine (Xs t.p v false HH.out (fun b=>b≠c) (fun b=>w1.heap.size+1≤b) ⟨mg,mh,mi,mj⟩ m _ OP.out hsp (by exact Zub (Zt0 Zt1) _ _ H4.out) OKV.out (by exact Zt5 (A:=fun b=>w1.heap.size+1≤b) (((Zt4 so).trans (Zt4 so)).trans (Zt4 so)) _ _ (Zt9 (fun b hb _=>by simpa using hb) _ _ HRV.out))).mono ?_));rintro e3 w4 ⟨rfl,hb4⟩;have hz4:=hb4.size;(try simp at hz4);have hcc4:Cur w4 c s q false:=Zt3 (B:=w1.heap.size) ZtX hc1s HC2.out;have HC4:=hid hcc4;clear hcc4;have hbb4:But c w1.heap.size w2 w4:=Zt1;have HF4:=hid (HF2.out.but hbb4 om hcs);have k0:=HF4.out.h0)|(go_at_call 92;refine (X1 c s q false _ HC4.out).mono ?_;rintro e5 w5 ⟨rfl,hb5⟩))
    all_goals
     have hz5:=hb5.size
     go_roundg (s.size - q)
     case measure=>omega
     case rel=>exact ⟨q,fu',om,Zt1,om,om,hid (HF4.out.but (Zue (c:=c) hb5) om hcs),hid (Zt3 hb5 om HC4.out),HST⟩
   have HH:=hid (show (Xo t.p&&Zh t.p v)=true by rw [hHv,HMAY.out];rfl)
   rw [hHv,if_pos rfl] at hst
   have HST:=hid hst
   clear hst hHv
   go_wp2_with (go_at_call 92;refine (X1 c s p false _ HCU.out).mono ?_;rintro e0 w1 ⟨rfl,hb1⟩;have hz1:=hb1.size;have hbb1:But c w.heap.size w w1:=hbt.trans (Zue (hb1.mono om));have HF1:=hid (HF.out.but (Zue (c:=c) hb1) om hcs);have HC1:=hid (Zt3 hb1 hcr HCU.out);have hc1s:c < w1.heap.size:=om;obtain ⟨a0,p0,p1,p2,p3,p4,p5,p6,⟨⟨r0,r1,r2⟩,s0,s1,s2⟩⟩:=HF1.out;obtain ⟨z0,z1,z2,z3,z4,z5,z6,z7,z8,z9,za,zb,zc,zd,ze⟩:=Yp.1 (Zuf (Zt0 hbb1) hA _ _ G0.out);have hs1:b < w1.heap.size:=om;have y1:w.heap.size < w1.heap.size:=om;have y2:w.heap.size+1 < w1.heap.size:=om;have y3:w.heap.size+1+1 < w1.heap.size:=om)
   go_region_held3 (fun W=>W.cell? ⟨w.heap.size,0,none⟩=some (.pointer (some ⟨c,0,none⟩))∧W.cell? ⟨w.heap.size+1,14,none⟩=some (.slice (some ⟨b,o,none⟩) t.a.length ml)∧∀k,W.cell? ⟨b,k,none⟩=w1.cell? ⟨b,k,none⟩) ((refine ⟨gs,gs,?_⟩;intro k;first|(refine Below.cell (B:=w1.heap.size) (w:=w1) (p:=⟨b,k,none⟩) ?_ hs1;((repeat (first|exact Below.refl _ _|assumption|refine Below.trans ?_ (Below.mono (by assumption) (by first|omega|(simp;done)|(simp;omega)))|refine Below.drew ?_|refine Below.alloc ?_ (by first|omega|(simp;done)|(simp;omega)) _|refine Below.setCell ?_ (by first|omega|(simp;done)|(simp;omega)) _));done))|(refine (Below.cell (B:=w1.heap.size) (w:=w2) (p:=⟨b,k,none⟩) ?_ hs1).trans (hkb k);((repeat (first|exact Below.refl _ _|assumption|refine Below.trans ?_ (Below.mono (by assumption) (by first|omega|(simp;done)|(simp;omega)))|refine Below.drew ?_|refine Below.alloc ?_ (by first|omega|(simp;done)|(simp;omega)) _|refine Below.setCell ?_ (by first|omega|(simp;done)|(simp;omega)) _));done)))) ((go_at_call 94;refine (IH.out t.a[0] e p _ mj' a HX.out.1 HX.out.2.1 HX.out.2.2.1 HE.out hpi HX.out.2.2.2 (by exact Zt3 (B:=w1.heap.size) ZtX hc1s HC1.out) (by exact Zt2 (Zt0 Zt1) _ _ GX.out) (by exact Zua (Zt0 Zt1) _ _ HV.out)).mono ?_;rw [HW.out];rintro e1 w2 ⟨hb2,⟨m,rfl,hrv⟩,hc2⟩;have HRV:=hid hrv;have HC2:=hid hc2;clear hrv hc2;have hz2:=hb2.size;(try simp at hz2);have hbb2:But c w1.heap.size w1 w2:=Zt1;have HF2:=hid (HF1.out.but hbb2 om hcs);obtain ⟨a0',p0',p1',p2',p3',p4',p5',p6',⟨⟨r0',r1',r2'⟩,s0',s1',s2'⟩⟩:=HF2.out;have hkb:∀k,w2.cell? ⟨b,k,none⟩=w1.cell? ⟨b,k,none⟩:=fun k=>hbb2.cell hs1 hbc;have y1':w.heap.size < w2.heap.size:=om;have y2':w.heap.size+1 < w2.heap.size:=om;have y3':w.heap.size+1+1 < w2.heap.size:=om;have y4':w1.heap.size≤w2.heap.size:=om;(try (have y5':w1.heap.size < w2.heap.size:=om;have q0:w2.cell? ⟨w1.heap.size,0,none⟩=some (.int .u8 0):=(hb2.cell sm (by simp;omega)).trans gs;have q1:w2.cell? ⟨w1.heap.size,1,none⟩=some (.int .i64 0):=(hb2.cell sm (by simp;omega)).trans gs;have q2:w2.cell? ⟨w1.heap.size,2,none⟩=some (.slice none 0 0):=(hb2.cell sm (by simp;omega)).trans gs;have qf:∀k,w2.frozen? ⟨w1.heap.size,k,none⟩=false:=fun k=>(hb2.frozen sm (by simp;omega)).trans gs))))
   all_goals go_wp2_with ((go_at_call 231;first|(refine (Xs t.p v true HH.out (fun b=>b≠c) (fun b=>w1.heap.size≤b) ⟨mg,mh,mi,mj⟩ m _ OP.out hsp (by exact Zub (Zt0 Zt1) _ _ H4.out) OKV.out (by exact Zt5 az _ _ HRV.out)).mono ?_)|(refine (Xs t.p v true HH.out (fun b=>b≠c) (fun b=>w1.heap.size+1≤b) ⟨mg,mh,mi,mj⟩ m _ OP.out hsp (by exact Zub (Zt0 Zt1) _ _ H4.out) OKV.out (by exact Zt5 (A:=fun b=>w1.heap.size+1≤b) (((Zt4 so).trans (Zt4 so)).trans (Zt4 so)) _ _ (Zt9 (fun b hb _=>by simpa using hb) _ _ HRV.out))).mono ?_));rintro e3 w4 ⟨rfl,hb4⟩;have hz4:=hb4.size;(try simp at hz4);have hcc4:Cur w4 c s q false:=Zt3 (B:=w1.heap.size) ZtX hc1s HC2.out;have HC4:=hid hcc4;clear hcc4;have hbb4:But c w1.heap.size w2 w4:=Zt1;have HF4:=hid (HF2.out.but hbb4 om hcs);have hrv4:RV w4 (fun b=>w1.heap.size≤b) v m.a:=(by first|exact Zt5 (ZtY hb4) _ _ (Zt5 az _ _ HRV.out)|exact Zt9 (fun b hb _=>Nat.le_of_succ_le hb) _ _ (Zt5 (ZtY hb4) _ _ (Zt5 (A:=fun b=>w1.heap.size+1≤b) (((Zt4 so).trans (Zt4 so)).trans (Zt4 so)) _ _ (Zt9 (fun b hb _=>by simpa using hb) _ _ HRV.out))));have HRV4:=hid hrv4;clear hrv4;obtain ⟨hc4,hf4⟩:=Za hb4)
   all_goals (obtain ⟨⟨rq0,rq1,rq2⟩,rf0,rf1,rf2⟩:=HF4.out.z)
   all_goals (have hz3:w.heap.size+1+1 < w4.heap.size:=om)
   all_goals (rw [←HST.out])
   all_goals refine bodyPost_ret (v:=VV v m) (by first|(simp [results,Tryz.f156,go_sem];done)|(simp [results,Tryz.f156,go_sem,rq0,rq1,rq2,rf0,rf1,rf2,hz3];done)) rfl ?_
   all_goals exact ⟨Zt1,⟨m,rfl,Zt9 (fun b hb _=>om) _ _ (Zt5 (((Zt4 so).trans (Zt4 so)).trans (Zt4 so)) _ _ HRV4.out)⟩,Zt3 (B:=w.heap.size) ZtX hcs HC4.out⟩
  rw [hW] at hst
  have HW:=hid hW
  dsimp only at hst
  have HST:=hid hst
  clear hW hst hinj
  go_wp2_with (go_at_call 92;refine (X1 c s p false _ HCU.out).mono ?_;rintro e0 w1 ⟨rfl,hb1⟩;have hz1:=hb1.size;have hbb1:But c w.heap.size w w1:=hbt.trans (Zue (hb1.mono om));have HF1:=hid (HF.out.but (Zue (c:=c) hb1) om hcs);have HC1:=hid (Zt3 hb1 hcr HCU.out);have hc1s:c < w1.heap.size:=om;obtain ⟨a0,p0,p1,p2,p3,p4,p5,p6,⟨⟨r0,r1,r2⟩,s0,s1,s2⟩⟩:=HF1.out;obtain ⟨z0,z1,z2,z3,z4,z5,z6,z7,z8,z9,za,zb,zc,zd,ze⟩:=Yp.1 (Zuf (Zt0 hbb1) hA _ _ G0.out);have hs1:b < w1.heap.size:=om;have y1:w.heap.size < w1.heap.size:=om;have y2:w.heap.size+1 < w1.heap.size:=om;have y3:w.heap.size+1+1 < w1.heap.size:=om)
  refine wp_region_held_drew (S:=(fun W=>W.cell? ⟨w.heap.size,0,none⟩=some (.pointer (some ⟨c,0,none⟩))∧W.cell? ⟨w.heap.size+1,14,none⟩=some (.slice (some ⟨b,o,none⟩) t.a.length ml)∧∀k,W.cell? ⟨b,k,none⟩=w1.cell? ⟨b,k,none⟩)) kr ?_ (fun hHeld=>?_)
  ·exact ZoF
  refine tzh 0 ?_
  try simp only [Act.put,sl,s0,ss]
  refine tzh 1 ?_
  try simp only [Act.put,sl,s0,ss]
  refine tzh 2 ?_
  try simp only [Act.put,sl,s0,ss]
  refine tzh 3 ?_
  try simp only [Act.put,sl,s0,ss]
  refine tzh 4 ?_
  try simp only [Act.put,sl,s0,ss]
  refine tzh 5 ?_
  try simp only [Act.put,sl,s0,ss]
  refine wrh [6,7] ?_
  refine rch (fun K hK=>?_) ?_
  ·exact Zwa
  refine rch (fun K hK=>?_) ?_
  ·go_simp
   refine hK.out _ _ ?_ (fun hHeld=>?_)
   ·exact ZoF
   clear hK K
   refine wrh1 6 fun K hK=>?_
   exact Zwa
  exact AllReadyH.nil
theorem Zld (c:Nat) (s:ByteArray) (S f:Nat) (hS:S≤1099511627776) (ih:Vn c s S f) (t:GT) (e:Env) (i:Nat) (w:World) (x:TA) (a:Option Addr) (hb:Zc s=true) (hg:Zp (!e.isEmpty) t) (ox:okT t) (hs:Zb t≤S) (he:Ye S e) (hi:i≤s.size) (hwk:∃k n,wkT (f+1) t e k n≠none) (hk:t.k=9) (hc:Cur w c s i false) (hr:RT w (fun b=>b≠c) t x) (hv:REnv w (fun b=>b≠c) e a):
  Calls prog 94 #[.agg #[.pointer (some ⟨c,0,none⟩)],TV t x,.pointer a] w (UH c s (Zd s (f+1) t e i) w):=by
 rw [ZaV _ _ _ _ _ hk]
 have hargs:=ZaX om hwk
 have HX:=hid (fun (W:World) (y:TA) h1 h2 h3=>Zb9 c s S f hS ih t e i W y a hb hg ox hs he hi hargs hk h1 h2 h3)
 obtain ⟨ma,mb,mc,md,me,mf,mg,mh,mi,mj,mk,ml⟩:=x
 have hcs:c < w.heap.size:=World.block_lt_of_cell? _ _ hc.1.1
 have HC:=hid hc
 have HB:=hid hb
 obtain ⟨hrv1,hrv2,hrv3,hrv4,hrv5⟩:=Zo.1 hr
 have HR:=hid hr
 have H1:=hid hrv1
 have H2:=hid hrv2
 have H3:=hid hrv3
 have H4:=hid hrv4
 have HL:=hid hrv5
 obtain ⟨⟨x1,x2⟩,ov,⟨ovl,ovs⟩,⟨l1,l2⟩,⟨l3,l4⟩,⟨owl,ow⟩,op,oal,oa⟩:=Ze.1 ox
 have OX:=hid ox
 have OV:=hid ov
 have OVS:=hid ovs
 have OW:=hid ow
 have OP:=hid op
 have O:=hid oa
 have HND:=hid (Zk.1 hg).1
 have hse:=Zq t
 dsimp only at H1 H2 H3 H4 HL
 have HV:=hid hv
 have hk1:(t.k==1)=false:=by simp [hk]
 have hk2:(t.k==2)=false:=by simp [hk]
 have hk3:(t.k==3)=false:=by simp [hk]
 have hk4:(t.k==4)=false:=by simp [hk]
 have hk5:(t.k==5)=false:=by simp [hk]
 have hk6:(t.k==6)=false:=by simp [hk]
 have hk7:(t.k==7)=false:=by simp [hk]
 have hk8:(t.k==8)=false:=by simp [hk]
 have hk9:(t.k==9)=true:=by simp [hk]
 clear hg ox hr hc hb hrv1 hrv2 hrv3 hrv4 hrv5 ov ovs ow op oa hk hv he ih hwk hargs
 rcases hN:WD (fun j=>atD (fun x=>Zd s f x e) t.a 0 j) t.p (s.size+1 - i) i with ⟨v,j⟩|⟨k⟩
 ·have HN:=hid hN
  clear hN
  go_enter func94,ntmps94
  go_wp2_with (go_at_call 156;refine (HX.out _ ⟨ma,mb,mc,md,me,mf,mg,mh,mi,mj,mk,ml⟩ (by exact Zt3 (B:=w.heap.size) ZtX hcs HC.out) (by exact Zt2 (Zt0 Zt1) _ _ HR.out) (by exact Zua (Zt0 Zt1) _ _ HV.out)).mono ?_;rw [HN.out];rintro e1 w2 ⟨hb2,⟨m2,rfl,hrv⟩,hc2⟩;have HRV:=hid hrv;have HC2:=hid hc2;clear hrv hc2;have hbb2:=hb2;have hz2:=hb2.size;(try simp at hz2);have hbb:But c w.heap.size w w2:=Zt1;have rq0:w2.cell? ⟨w.heap.size+1+1,0,none⟩=some (.int .u8 0):=(hbb2.cell so so).trans gs;have rq1:w2.cell? ⟨w.heap.size+1+1,1,none⟩=some (.int .i64 0):=(hbb2.cell so so).trans gs;have rq2:w2.cell? ⟨w.heap.size+1+1,2,none⟩=some (.slice none 0 0):=(hbb2.cell so so).trans gs;have rf0:w2.frozen? ⟨w.heap.size+1+1,0,none⟩=false:=(hbb2.frozen so so).trans gs;have rf1:w2.frozen? ⟨w.heap.size+1+1,1,none⟩=false:=(hbb2.frozen so so).trans gs;have rf2:w2.frozen? ⟨w.heap.size+1+1,2,none⟩=false:=(hbb2.frozen so so).trans gs;have hz3:w.heap.size+1+1 < w2.heap.size:=om)
  refine bodyPost_ret (v:=VV v m2) (by first|(simp [results,Tryz.f94,go_sem];done)|(simp [results,Tryz.f94,go_sem,rq0,rq1,rq2,rf0,rf1,rf2,hz3];done)) rfl ?_
  exact ⟨Zt1,⟨m2,rfl,Zt9 (fun b hb _=>by (try simp at hb);omega) _ _ (Zt5 (((Zt4 so).trans (Zt4 so)).trans (Zt4 so)) _ _ HRV.out)⟩,Zt3 (B:=w.heap.size) ZtX hcs HC2.out⟩
 have HN:=hid hN
 clear hN
 go_enter func94,ntmps94
 go_wp2_with (go_at_call 156;refine (HX.out _ ⟨ma,mb,mc,md,me,mf,mg,mh,mi,mj,mk,ml⟩ (by exact Zt3 (B:=w.heap.size) ZtX hcs HC.out) (by exact Zt2 (Zt0 Zt1) _ _ HR.out) (by exact Zua (Zt0 Zt1) _ _ HV.out)).mono ?_;rw [HN.out];rintro e1 w2 ⟨hb2,rfl⟩)
 exact ⟨rfl,Zt1,rfl⟩
end Go.Proofs.YtkdffbdnjfgpeaaGreat
