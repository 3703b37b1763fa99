/- Part 43. -/
import Derived.Test.YtclphfojkggcpaaGreatDoorX32
import Derived.Test.YtclphfojkggcpaaGreatDoorX37
import Derived.Test.YtclphfojkggcpaaGreatDoorX53
import Derived.Test.YtclphfojkggcpaaGreatDoorX58
set_option linter.all false
namespace Go.Proofs.YtclphfojkggcpaaGreatDoor
open Go.Lib (hid)
open Go Go.RowKit Go.Proofs.Tryz
mutual
theorem Zd0:∀(p:GP) (pl d:Int),(XF pl d p).2=0→Zm p≤2*Xg p
 | ⟨k,v,n,l⟩,pl,d,h=>by
  simp only [XF] at h
  split at h
  ·simp at h
  split at h
  ·rename_i h1;exact absurd h h1
  rename_i h1
  have hl:=Zcy l _ _ h
  have h2:XC ⟨k,v,n,l⟩=0:=by simpa using h1
  simp only [Zm,Xg]
  unfold XC at h2
  split at h2
  ·simp at h2
  split at h2
  ·rename_i h3
   rw [if_pos h3];omega
  rename_i h3
  split at h2
  ·rename_i h4
   have h5:Zg v=1:=by
    obtain ⟨vk,vn,vl⟩:=v
    simp [Xw] at h4
    obtain ⟨-,h6⟩:=h4
    simp [h6,Zg,Zi]
   rw [if_neg h3];omega
  simp at h2
theorem Zcy:∀(l:List GP) (pl d:Int),(Yj pl d l).2=0→ZY l≤2*YR l
 | [],_,_,_=>by simp [ZY]
 | x::l,pl,d,h=>by
  simp only [Yj] at h
  split at h
  ·rename_i h1;exact absurd h h1
  rename_i h1
  have hx:=Zd0 x pl d (by simpa using h1)
  have hl:=Zcy l _ _ h
  simp only [ZY,YR];omega
end
theorem ZgT {p:GP} (h:Xo p=true):Zm p≤1024:=by
 unfold Xo Zw at h
 split at h
 ·rename_i h1;exact absurd (by simpa using h) h1
 rename_i h1
 split at h
 ·simp at h
 have:=Zd0 p 0 1 (by simpa using h1);omega
theorem Vg (p:GP) (v:GV) (b:Bool) (hb:Zh p v=b) (A A2:Nat→Prop) (mp:PA) (m:VA) (w:World) (ox:okP p) (hs:Zm p≤1099511627776) (hr:RP w A p mp) (ov:okV v) (hv2:RV w A2 v m.a) (hmay:Xo p=true):
  Calls prog 42 #[PV p mp,VV v m] w fun e w'=>e=.returned (.bool b)∧Below w.heap.size w w':=by
 subst hb
 exact Zdn p v w A A2 mp m ox hs hr ov hv2 hmay
structure F22 (c b o:Nat) (t:GT) (mg mi:Option Addr) (mh mj mk':Nat) (B:Nat) (W:World):Prop where
 p0:W.cell? ⟨B,8,none⟩=some (.int .u8 t.p.k)
 p1:W.cell? ⟨B,9,none⟩=some (.int .u8 t.p.v.k)
 p2:W.cell? ⟨B,10,none⟩=some (.int .i64 t.p.v.n)
 p3:W.cell? ⟨B,11,none⟩=some (.slice mg t.p.v.l.length mh)
 p4:W.cell? ⟨B,12,none⟩=some (.int .i64 t.p.n)
 p5:W.cell? ⟨B,13,none⟩=some (.slice mi t.p.a.length mj)
 p6:W.cell? ⟨B,14,none⟩=some (.slice (some ⟨b,o,none⟩) t.a.length mk')
 z:ZRes W (B+1)
theorem F22.but {c b o:Nat} {t:GT} {mg mi:Option Addr} {mh mj mk' B N:Nat} {w w':World} (h:F22 c b o t mg mi mh mj mk' B w) (hb:But c N w w') (h1:B+1 < N) (h2:c < B):F22 c b o t mg mi mh mj mk' B w':=by
 obtain ⟨a1,a2,a3,a4,a5,a6,a7,a8⟩:=h
 have k0:B < N:=om
 have n0:B≠c:=om
 exact ⟨(hb.cell k0 n0).trans a1,(hb.cell k0 n0).trans a2,(hb.cell k0 n0).trans a3,(hb.cell k0 n0).trans a4,(hb.cell k0 n0).trans a5,(hb.cell k0 n0).trans a6,(hb.cell k0 n0).trans a7,a8.but hb h1 om⟩
set_option maxRecDepth 100000
set_option maxHeartbeats 8000000
theorem Zk4 (c:Nat) (s:ByteArray) (f:Nat) (ih:WT c s f) (t:GT) (i:Nat) (w:World) (m:TA) (hk:t.k=9) (hn:ZG t=0) (hx:∀x∈t.a,Zp false x∧okT x∧∃k n,wkT f x [] k n≠none) (ox:okT t) (hi:i≤s.size) (hc:Cur w c s i false) (hl:RT w (fun b=>b≠c) t m):
  Calls prog 63 #[.pointer (some ⟨c,0,none⟩),TV t m] w (WL c s (Zd s (f+1) t [] i) w):=by
 rw [ZaV s f t [] i hk]
 obtain ⟨ma,mb,mc,md,me,mf,mg,mh,mi,mj,mk,ml⟩:=m
 obtain ⟨hal,hmay⟩:=Zap hn hk
 have h0l:0 < t.a.length:=om
 have halI:(0:Int) < (t.a.length:Int):=om
 have hG:(fun j=>atD (fun x=>Zd s f x []) t.a 0 j)=fun j=>Zd s f t.a[0] [] j:=by
  funext j;unfold atD;rw [List.getElem?_eq_getElem h0l]
 rw [hG]
 have hm0:=List.getElem_mem h0l
 have hsp:Zm t.p≤1099511627776:=by have:=ZgT hmay;omega
 obtain ⟨-, -, -, -, -, -,op, -, -⟩:=Ze.1 ox
 obtain ⟨hgx,hox,hwx⟩:=hx _ hm0
 have IH:=hid ih
 have HX:=hid (And.intro hgx (And.intro hox hwx))
 have HIN:=hid (fun q hq=>WJ s (Zb t.a[0]) f t.a[0] [] q hgx hox (Nat.le_refl _) trivial hq)
 have HMAY:=hid hmay
 have OP:=hid op
 have H4:=hid (Zo.1 hl).2.2.2.1
 have HC:=hid hc
 have hcs:c < w.heap.size:=World.block_lt_of_cell? _ _ hc.1.1
 obtain ⟨b,o,mj',hja,hA,hbs,g0,gx⟩:=(Zo.1 hl).2.2.2.2.get 0 h0l
 dsimp only at hja
 subst hja
 have G0:=hid (show At w b o _ by simpa using g0)
 have GX:=hid gx
 have hbc:b≠c:=hA
 have hk1:(t.k==1)=false:=by simp [hk]
 have hk2:(t.k==2)=false:=by simp [hk]
 have hk3:(t.k==3)=false:=by simp [hk]
 have hk4:(t.k==4)=false:=by simp [hk]
 have hk5:(t.k==5)=false:=by simp [hk]
 have hk6:(t.k==6)=false:=by simp [hk]
 have hk7:(t.k==7)=false:=by simp [hk]
 have hk8:(t.k==8)=false:=by simp [hk]
 have hk9:(t.k==9)=true:=by simp [hk]
 generalize hR0:WD (fun j=>Zd s f t.a[0] [] j) t.p (s.size+1 - i) i=R at *
 have HR0:=hid hR0
 clear hx ox hl hc hn ih hG hm0 hgx hox hwx g0 gx hal hmay hR0 op hk
 go_enter func63,ntmps63
 go_wp2_with fail
 go_loopg [] (s.size - i) (fun gk wr=>∃(p fu:Nat),gk+p=s.size∧But c w.heap.size w wr∧w.heap.size+1 < wr.heap.size∧s.size+1≤fu+p∧Hid (F22 c b o t mg mi mh mj ml w.heap.size wr)∧Hid (Cur wr c s p false)∧Hid (WD (fun j=>Zd s f t.a[0] [] j) t.p fu p=R))
 case atStart=>exact ⟨i,s.size+1 - i,om,ZmR,sm,om,hid ⟨gs,gs,gs,gs,gs,gs,gs,⟨gs,gs,gs⟩,gs,gs,gs⟩,hid (ZlW (B:=w.heap.size) ZlD hcs HC.out),HR0⟩
 case round=>
  obtain ⟨p,fu,hp,hbt,hz,hfu,HF,HCU,HP⟩:=hrel
  have hpi:p≤s.size:=om
  obtain ⟨fu',rfl⟩:∃fu',fu=fu'+1:=⟨fu - 1,om⟩
  have hst:=HP.out
  rw [Zae] at hst
  have hinj:=HIN.out p hpi
  have hcr:c < wr.heap.size:=om
  have hbr:b < wr.heap.size:=om
  obtain ⟨p0,p1,p2,p3,p4,p5,p6, -⟩:=HF.out
  obtain ⟨⟨e0,e1,e2⟩,e3,e4,e5⟩:=HCU.out
  obtain ⟨z0,z1,z2,z3,z4,z5,z6,z7,z8,z9,za,zb,zc,zd,ze⟩:=Yp.1 (ZmS (ZlX hbt) hA _ _ G0.out)
  have y0:w.heap.size < wr.heap.size:=om
  have y2:¬w.heap.size+1=c:=om
  have y3:¬w.heap.size=c:=om
  rcases hW:Zd s f t.a[0] [] p with ⟨v,q⟩|⟨k⟩
  ·rw [hW] at hst hinj
   obtain ⟨hpq,hqs,hokv⟩:=hinj
   have OKV:=hid hokv
   have HW:=hid hW
   dsimp only at hst
   clear hW hokv
   cases hHv:Zh t.p v
   ·have HH:=hid hHv
    rw [hHv,if_neg sm] at hst
    clear hHv
    by_cases hqp:q=p
    ·rw [if_pos hqp] at hst
     have hqp':((q:Int)==(p:Int))=true:=beq_iff_eq.2 om
     clear hqp
     have HST:=hid hst
     clear hst
     go_wp2_with (first
      | (go_at_call 63;refine (IH.out t.a[0] p _ mj' HX.out.1 HX.out.2.1 hpi HX.out.2.2 (by exact HCU.out) (by exact ZlV (ZlX ZmR) _ _ GX.out)).mono ?_;rw [HW.out];rintro e w2 ⟨hb2,⟨m2,rfl,hrv⟩,hc2⟩;have HRV:=hid hrv;have HC2:=hid hc2;clear hrv hc2;have hz2:=hb2.size;have y1:w.heap.size+1 < w2.heap.size:=om;have y7:w.heap.size < w2.heap.size:=om;obtain ⟨p0',p1',p2',p3',p4',p5',p6',⟨q0,q1,q2⟩,f0,f1,f2⟩:=HF.out.but hb2 hz hcs;obtain ⟨⟨d0,d1,d2⟩,d3,d4,d5⟩:=HC2.out;have hc2s:c < w2.heap.size:=om)
      | (go_at_call 42;refine (Vg t.p v false HH.out (fun b=>b≠c) (fun b=>wr.heap.size≤b) ⟨mg,mh,mi,mj⟩ m2 _ OP.out hsp (by exact ZmP (ZlX (show But c w.heap.size w _ from ZmR)) _ _ H4.out) OKV.out (by exact ZmG (ZlH (show Below w2.heap.size w2 _ from ZlD)) _ _ HRV.out) HMAY.out).mono ?_;rintro e3 w4 ⟨rfl,hb4⟩;have hz4:=hb4.size;(try simp at hz4);have hb24:Below w2.heap.size w2 w4:=ZlD;have HC4:=hid (ZlW hb24 hc2s HC2.out);obtain ⟨⟨j0,j1,j2⟩,j3,j4,j5⟩:=HC4.out;obtain ⟨hc4,hf4⟩:=Za hb4;have y4:w.heap.size+1 < w4.heap.size:=om))
     refine bodyPost_ret (v:=(.tuple #[VV ⟨0,0,[]⟩ ⟨none,0⟩,.int .u8 3])) (by first|(simp [results,Tryz.f63,go_sem];done)|(simp [results,Tryz.f63,go_sem, *];done)) rfl ?_
     rw [←HST.out]
     exact ⟨ZmR,rfl,om,om⟩
    have hqp2:p < q:=om
    rw [if_neg hqp] at hst
    have hqp':((q:Int)==(p:Int))=false:=beq_eq_false_iff_ne.2 om
    have HST:=hid hst
    clear hst hqp
    go_wp2_with (first
     | (go_at_call 63;refine (IH.out t.a[0] p _ mj' HX.out.1 HX.out.2.1 hpi HX.out.2.2 (by exact HCU.out) (by exact ZlV (ZlX ZmR) _ _ GX.out)).mono ?_;rw [HW.out];rintro e w2 ⟨hb2,⟨m2,rfl,hrv⟩,hc2⟩;have HRV:=hid hrv;have HC2:=hid hc2;clear hrv hc2;have hz2:=hb2.size;have y1:w.heap.size+1 < w2.heap.size:=om;have y7:w.heap.size < w2.heap.size:=om;obtain ⟨p0',p1',p2',p3',p4',p5',p6',⟨q0,q1,q2⟩,f0,f1,f2⟩:=HF.out.but hb2 hz hcs;obtain ⟨⟨d0,d1,d2⟩,d3,d4,d5⟩:=HC2.out;have hc2s:c < w2.heap.size:=om)
     | (go_at_call 42;refine (Vg t.p v false HH.out (fun b=>b≠c) (fun b=>wr.heap.size≤b) ⟨mg,mh,mi,mj⟩ m2 _ OP.out hsp (by exact ZmP (ZlX (show But c w.heap.size w _ from ZmR)) _ _ H4.out) OKV.out (by exact ZmG (ZlH (show Below w2.heap.size w2 _ from ZlD)) _ _ HRV.out) HMAY.out).mono ?_;rintro e3 w4 ⟨rfl,hb4⟩;have hz4:=hb4.size;(try simp at hz4);have hb24:Below w2.heap.size w2 w4:=ZlD;have HC4:=hid (ZlW hb24 hc2s HC2.out);obtain ⟨⟨j0,j1,j2⟩,j3,j4,j5⟩:=HC4.out;obtain ⟨hc4,hf4⟩:=Za hb4;have y4:w.heap.size+1 < w4.heap.size:=om))
    have hbw4:But c w.heap.size w w4:=ZmR
    have hbq4:But c wr.heap.size wr w4:=ZmR
    go_roundg (s.size - q)
    case measure=>omega
    case rel=>exact ⟨q,fu',om,hbw4,om,om,hid (HF.out.but hbq4 om hcs),HC4,HST⟩
   have HH:=hid hHv
   rw [hHv,if_pos rfl] at hst
   have HST:=hid hst
   clear hst hHv
   go_wp2_with (first
    | (go_at_call 63;refine (IH.out t.a[0] p _ mj' HX.out.1 HX.out.2.1 hpi HX.out.2.2 (by exact HCU.out) (by exact ZlV (ZlX ZmR) _ _ GX.out)).mono ?_;rw [HW.out];rintro e w2 ⟨hb2,⟨m2,rfl,hrv⟩,hc2⟩;have HRV:=hid hrv;have HC2:=hid hc2;clear hrv hc2;have hz2:=hb2.size;have y1:w.heap.size+1 < w2.heap.size:=om;have y7:w.heap.size < w2.heap.size:=om;obtain ⟨p0',p1',p2',p3',p4',p5',p6',⟨q0,q1,q2⟩,f0,f1,f2⟩:=HF.out.but hb2 hz hcs;obtain ⟨⟨d0,d1,d2⟩,d3,d4,d5⟩:=HC2.out;have hc2s:c < w2.heap.size:=om)
    | (go_at_call 42;refine (Vg t.p v true HH.out (fun b=>b≠c) (fun b=>wr.heap.size≤b) ⟨mg,mh,mi,mj⟩ m2 _ OP.out hsp (by exact ZmP (ZlX (show But c w.heap.size w _ from ZmR)) _ _ H4.out) OKV.out (by exact ZmG (ZlH (show Below w2.heap.size w2 _ from ZlD)) _ _ HRV.out) HMAY.out).mono ?_;rintro e3 w4 ⟨rfl,hb4⟩;have hz4:=hb4.size;(try simp at hz4);have hb24:Below w2.heap.size w2 w4:=ZlD;have HC4:=hid (ZlW hb24 hc2s HC2.out);obtain ⟨⟨j0,j1,j2⟩,j3,j4,j5⟩:=HC4.out;obtain ⟨hc4,hf4⟩:=Za hb4;have y4:w.heap.size+1 < w4.heap.size:=om))
   refine bodyPost_ret (v:=(.tuple #[VV v m2,.int .u8 1])) (by first|(simp [results,Tryz.f63,go_sem];done)|(simp [results,Tryz.f63,go_sem, *];done)) rfl ?_
   rw [←HST.out]
   exact ⟨ZmR,⟨m2,rfl,ZmO (fun b hb _=>om) _ _ (ZmG ((ZlH hb24).trans (((ZmA so).trans (ZmA so)).trans (ZmA so))) _ _ HRV.out)⟩,ZlW (B:=w.heap.size+1) ZlD om HC4.out⟩
  rw [hW] at hst
  have HW:=hid hW
  dsimp only at hst
  have HST:=hid hst
  clear hW hst hinj
  go_wp2_with (go_at_call 63;refine (IH.out t.a[0] p _ mj' HX.out.1 HX.out.2.1 hpi HX.out.2.2 (by exact HCU.out) (by exact ZlV (ZlX ZmR) _ _ GX.out)).mono ?_;rw [HW.out];rintro e w2 ⟨hb2,rfl,hk8,hk9⟩;have hz2:=hb2.size;have y1:w.heap.size+1 < w2.heap.size:=om;have y7:w.heap.size < w2.heap.size:=om;have hkb:(((k:Int)) != 1)=true:=(by simp;omega);obtain ⟨⟨q0,q1,q2⟩,f0,f1,f2⟩:=(HF.out.but hb2 hz hcs).z)
  refine bodyPost_ret (v:=(.tuple #[VV ⟨0,0,[]⟩ ⟨none,0⟩,.int .u8 k])) (by first|(simp [results,Tryz.f63,go_sem];done)|(simp [results,Tryz.f63,go_sem, *];done)) rfl ?_
  rw [←HST.out]
  exact ⟨ZmR,rfl,hk8,hk9⟩
set_option maxRecDepth 512
theorem ZeA (c:Nat) (s:ByteArray) (S:Nat) (hS:S≤1099511627776) (hb:Zc s=true):∀f,Vn c s S f:=by
 intro f
 induction f with
 | zero=>
  intro t e i w m a hg ox hs he hi hwk
  obtain ⟨k,n,hw⟩:=hwk
  exact absurd rfl hw
 | succ f ih=>
  intro t e i w m a hg ox hs he hi hwk hc hr hv
  have hk:=(Y9 (Zk.1 hg).1).1
  rcases (by omega:t.k=1∨t.k=2∨t.k=3∨t.k=4∨t.k=5∨t.k=6∨t.k=7∨t.k=8∨t.k=9∨t.k=10∨t.k=11) with h|h|h|h|h|h|h|h|h|h|h
  ·exact Zk5 c s f t e i w m a hb hg ox h hc hr
  ·exact Zk6 c s f t e i w m a hb hg ox hi h hc hr
  ·exact Zk7 c s S f hS ih t e i w m a hb hg ox hs he hi hwk h hc hr hv
  ·exact Zk8 c s S f hS t e i w m a hb hg ox hi h hc hr
  ·exact Zk9 c s S f hS ih t e i w m a hb hg ox hs he hi hwk h hc hr hv
  ·exact Zla c s S f hS ih t e i w m a hb hg ox hs he hi (ZaX om hwk) h hc hr hv
  ·exact Zlb c s S f hS ih t e i w m a hb hg ox hs he hi hwk h hc hr hv
  ·exact Zlc c s S f hS ih t e i w m a hb hg ox hs he hi hwk h hc hr hv
  ·exact Zld c s S f hS ih t e i w m a hb hg ox hs he hi hwk h hc hr hv
  ·exact Zkx c s S f hS ih t e i w m a hb hg ox hs he hi hwk h hc hr hv
  exact Zky c s S f hS ih t e i w m a hg he hi hwk h hc hv
theorem ZdA (t:GT) (s:ByteArray) (w:World) (A:Nat→Prop) (m:TA) (ox:okT t) (hs:Zb t≤1099511627776) (hl:RT w A t m) (hss:s.size≤9223372036854775807):
  Calls prog 26 #[TV t m,.string s] w (RunR t s w):=
 Zkv t s w A m (fun hb c=>ZeA c s (Zb t) hs hb 4098) ox hs hl hss
theorem ZdB (t:GT) (s:ByteArray) (w:World) (A:Nat→Prop) (m:TA) (ox:okT t) (hs:Zb t≤1099511627776) (hl:RT w A t m) (hss:s.size≤9223372036854775807) (hE:ZP t s=0) (v:GV) (j:Nat) (hr:Vm s t=.ok v j):
  Calls prog 26 #[TV t m,.string s] w fun e w'=>Below w.heap.size w w'∧∃m:VA,e=.returned (.tuple #[.agg #[.int .u8 1,.int .u8 v.k,.int .i64 v.n,.slice m.a v.l.length m.c,.int .i64 j],.int .i64 0])∧RV w' (fun b=>w.heap.size≤b) v m.a:=
 (ZdA t s w A m ox hs hl hss).mono fun e w' h=>by
  obtain ⟨hb,h⟩:=h
  rw [hE,hr] at h
  unfold ZbZ at h
  rw [if_neg sm] at h
  exact ⟨hb,h⟩
theorem ZfX (t:GT) (s:ByteArray) (w:World) (A:Nat→Prop) (m:TA) (ox:okT t) (hs:Zb t≤1099511627776) (hl:RT w A t m) (hss:s.size≤9223372036854775807) (hE:ZP t s=0) (k:Nat) (hr:Vm s t=.no k):
  Calls prog 26 #[TV t m,.string s] w fun e w'=>Below w.heap.size w w'∧e=.returned (.tuple #[.agg #[.int .u8 k,.int .u8 0,.int .i64 0,.slice none 0 0,.int .i64 0],.int .i64 0]):=
 (ZdA t s w A m ox hs hl hss).mono fun e w' h=>by
  obtain ⟨hb,h⟩:=h
  rw [hE,hr] at h
  unfold ZbZ at h
  rw [if_neg sm] at h
  exact ⟨hb,h⟩
theorem Vz (t:GT) (s:ByteArray) (w:World) (A:Nat→Prop) (m:TA) (ox:okT t) (hs:Zb t≤1099511627776) (hl:RT w A t m) (hss:s.size≤9223372036854775807):
  Calls prog 26 #[TV t m,.string s] w fun e w'=>Below w.heap.size w w'∧∃(k:Int) (v:GV) (m:VA) (n:Int),e=.returned (.tuple #[.agg #[.int .u8 k,.int .u8 v.k,.int .i64 v.n,.slice m.a v.l.length m.c,.int .i64 n],.int .i64 (ZP t s)]):=
 (ZdA t s w A m ox hs hl hss).mono fun e w' h=>by
  obtain ⟨hb,h⟩:=h
  refine ⟨hb,?_⟩
  unfold ZbZ at h
  split at h
  ·exact ⟨0,Y8,⟨none,0⟩,0,h⟩
  rename_i h0
  have h0:ZP t s=0:=by simpa using h0
  rw [h0]
  split at h
  ·obtain ⟨m,h,_⟩:=h
   exact ⟨1,_,m,_,h⟩
  exact ⟨_,Y8,⟨none,0⟩,0,h⟩
set_option maxRecDepth 100000
theorem QH (t:GT) (p:GP) (s:ByteArray) (n:Int) (w:World) (A A2:Nat→Prop) (m:TA) (mp:PA) (ox:okT t) (hs:Zb t≤1099511627776) (hl:RT w A t m) (op:okP p) (hp:Zm p≤1099511627776) (hr:RP w A2 p mp) (hss:s.size≤9223372036854775807):
  Calls prog 52 #[TV t m,PV p mp,.string s,.int .i64 n] w fun e w'=>e=.returned (.int .i64 (VQ t p s n))∧Below w.heap.size w w':=by
 obtain ⟨ma,mb,mc,md,me,mf,mg,mh,mi,mj,mk,ml⟩:=m
 obtain ⟨na,nb,nc,nd⟩:=mp
 have HL:=hid hl
 have HR:=hid hr
 have OX:=hid ox
 have OP:=hid op
 clear hl hr ox op
 have hF:VQ t p s n=if ZP t s≠0 then ZP t s else if (Zw p).2≠0 then (Zw p).2 else if n < 0∨1000 < n then 1 else 0:=rfl
 rw [hF]
 clear hF
 by_cases h1:ZP t s=0
 case neg=>
  rw [if_pos h1]
  have h1':(ZP t s != 0)=true:=by simp [h1]
  clear h1
  go_enter func52,ntmps52
  go_wp2_with (go_at_call 26;refine (Vz t s _ A ⟨ma,mb,mc,md,me,mf,mg,mh,mi,mj,mk,ml⟩ OX.out hs (by exact ZlV az _ _ HL.out) hss).mono ?_;rintro e w1 ⟨hb1,k,v,m,n1,rfl⟩;have hz1:=hb1.size;(try simp at hz1))
  go_ret
  exact ⟨rfl,ZlU⟩
 have h1':(ZP t s != 0)=false:=by simp [h1]
 rw [if_neg (by simp [h1])]
 clear h1
 by_cases h2:(Zw p).2=0
 case neg=>
  rw [if_pos h2]
  have h2':((Zw p).2 != 0)=true:=by simp [h2]
  clear h2
  go_enter func52,ntmps52
  go_wp2_with (first
   | (go_at_call 26;refine (Vz t s _ A ⟨ma,mb,mc,md,me,mf,mg,mh,mi,mj,mk,ml⟩ OX.out hs (by exact ZlV az _ _ HL.out) hss).mono ?_;rintro e w1 ⟨hb1,k,v,m,n1,rfl⟩;have hz1:=hb1.size;(try simp at hz1);obtain ⟨hc1,hf1⟩:=Za hb1;have y0:w.heap.size+1 < w1.heap.size:=om)
   | (go_at_call 27;refine (XJ p _ A2 ⟨na,nb,nc,nd⟩ OP.out hp (by exact ZmP az _ _ HR.out)).mono ?_;rintro e w2 ⟨rfl,hb2⟩))
  go_ret
  exact ⟨rfl,ZlU⟩
 have h2':((Zw p).2 != 0)=false:=by simp [h2]
 rw [if_neg (by simp [h2])]
 clear h2
 generalize hF:(if n < 0∨1000 < n then (1:Int) else 0)=F
 have HF:=hid hF
 clear hF
 go_enter func52,ntmps52
 go_wp2_with (first
  | (go_at_call 26;refine (Vz t s _ A ⟨ma,mb,mc,md,me,mf,mg,mh,mi,mj,mk,ml⟩ OX.out hs (by exact ZlV az _ _ HL.out) hss).mono ?_;rintro e w1 ⟨hb1,k,v,m,n1,rfl⟩;have hz1:=hb1.size;(try simp at hz1);obtain ⟨hc1,hf1⟩:=Za hb1;have y0:w.heap.size+1 < w1.heap.size:=om)
  | (go_at_call 27;refine (XJ p _ A2 ⟨na,nb,nc,nd⟩ OP.out hp (by exact ZmP az _ _ HR.out)).mono ?_;rintro e w2 ⟨rfl,hb2⟩))
 all_goals go_ret
 all_goals refine ⟨Zf ?_,ZlU⟩
 all_goals rw [←HF.out]
 all_goals (first|rfl|omega|((try simp only [beq_iff_eq,beq_eq_false_iff_ne,bne_iff_ne,bne_eq_false_iff_eq,decide_eq_true_eq,decide_eq_false_iff_not,ne_eq,Bool.and_eq_true,Bool.or_eq_true,Bool.and_eq_false_iff,Bool.or_eq_false_iff,Bool.not_eq_true',Bool.not_eq_false'] at *);(repeat' split)<;>first|rfl|omega|contradiction|(simp_all;done)|(simp_all;omega)))
set_option maxRecDepth 512
def Zlm (R:List GR×Int) (w:World) (e:Ending) (w':World):Prop:=∃a c,e=.returned (.tuple #[.slice a R.1.length c,.int .u8 R.2,.int .i64 0])∧RRs w' (fun b=>w.heap.size≤b) R.1 a
def Zll (R:List GR×Int) (w:World) (e:Ending) (w':World):Prop:=∃a c,e=.returned (.tuple #[.slice a R.1.length (R.1.length+c),.int .u8 R.2,.int .i64 0])∧RRs w' (fun b=>w.heap.size≤b) R.1 a
def Zln (R:List GR×Int) (w:World) (e:Ending) (w':World):Prop:=∃a c,e=.returned (.tuple #[.slice a R.1.length (R.1.length+c),.int .u8 R.2,.int .i64 0])∧RRx w' (fun b=>w.heap.size≤b) R.1 a
set_option maxRecDepth 100000
theorem Zi8 (t:GT) (p:GP) (s:ByteArray) (n:Int) (w:World) (A A2:Nat→Prop) (m:TA) (mp:PA) (ox:okT t) (hs:Zb t≤1099511627776) (hl:RT w A t m) (op:okP p) (hp:Zm p≤1099511627776) (hr:RP w A2 p mp) (hss:s.size≤9223372036854775807) (hE:VQ t p s n≠0):
  Calls prog 31 #[TV t m,PV p mp,.string s,.int .i64 n] w fun e w'=>e=.returned (.tuple #[.slice none 0 0,.int .u8 0,.int .i64 (VQ t p s n)])∧Below w.heap.size w w':=by
 obtain ⟨ma,mb,mc,md,me,mf,mg,mh,mi,mj,mk,ml⟩:=m
 obtain ⟨na,nb,nc,nd⟩:=mp
 have HL:=hid hl
 have HR:=hid hr
 have OX:=hid ox
 have OP:=hid op
 have h1:(VQ t p s n != 0)=true:=by simp [hE]
 clear hl hr ox op hE
 go_enter func31,ntmps31
 go_wp2_with (go_at_call 52;refine (QH t p s n _ A A2 ⟨ma,mb,mc,md,me,mf,mg,mh,mi,mj,mk,ml⟩ ⟨na,nb,nc,nd⟩ OX.out hs (by exact ZlV az _ _ HL.out) OP.out hp (by exact ZmP az _ _ HR.out) hss).mono ?_;rintro e w1 ⟨rfl,hb1⟩)
 refine bodyPost_ret (v:=.tuple #[.slice none 0 0,.int .u8 0,.int .i64 (VQ t p s n)]) (by simp [results,Tryz.f31,go_sem]) rfl ?_
 exact ⟨rfl,ZlD⟩
set_option maxRecDepth 512
theorem QO {W:World} {n:Nat} (hn:W.heap.size=n) (a b c d e:Value) (t:TypeId):∀j u,[a,b,c,d,e][j]? =some u→(W.alloc (.cells #[a,b,c,d,e] t)).cell? ((⟨n,0,none⟩:Addr).add j)=some u:=by
 subst hn
 exact fun j u hu=>World.news_of_block (heap_alloc_new W _) j u (by simpa using hu)
theorem Za0 {W:World} {n:Nat} (v0 v1 v2 v3 v4:Value) (o:Obj):Agree (fun b=>n+1≤b) W ((((((W.setCell ⟨n,0,none⟩ v0).setCell ⟨n,1,none⟩ v1).setCell ⟨n,2,none⟩ v2).setCell ⟨n,3,none⟩ v3).setCell ⟨n,4,none⟩ v4).alloc o):=
 (((((ZmA (p:=⟨n,0,none⟩) (fun h=>absurd h (Nat.not_succ_le_self n))).trans (ZmA (p:=⟨n,1,none⟩) (fun h=>absurd h (Nat.not_succ_le_self n)))).trans (ZmA (p:=⟨n,2,none⟩) (fun h=>absurd h (Nat.not_succ_le_self n)))).trans (ZmA (p:=⟨n,3,none⟩) (fun h=>absurd h (Nat.not_succ_le_self n)))).trans (ZmA (p:=⟨n,4,none⟩) (fun h=>absurd h (Nat.not_succ_le_self n)))).trans (ZlH (Below.alloc (Below.refl _ _) (Nat.le_refl _) _))
theorem ZaJ (t:GT) (p:GP) (s:ByteArray) (n:Int) (w:World) (A A2:Nat→Prop) (m:TA) (mp:PA) (ox:okT t) (hs:Zb t≤1099511627776) (hl:RT w A t m) (op:okP p) (hp:Zm p≤1099511627776) (hr:RP w A2 p mp) (hss:s.size≤9223372036854775807) (hE:VQ t p s n=0):
  Calls prog 52 #[TV t m,PV p mp,.string s,.int .i64 n] w fun e w'=>e=.returned (.int .i64 0)∧Below w.heap.size w w':=by
 rw [←hE]
 exact QH t p s n w A A2 m mp ox hs hl op hp hr hss
theorem ZlS {p:Prop} (h:p:=by
 intro q hq
 rcases List.mem_append.1 hq with hq|hq
 ·exact ZmG (ZlH hb6) _ _ (HQX.out q hq)
 simp at hq
 subst hq
 exact ZmG (ZlH hb6) _ _ HRX.out):p:=h
theorem ZlT {p:Prop} (h:p:=by
 rw [WE,show ((i+u:Nat):Int)=(i:Int)+(u:Int) from Int.natCast_add i u]
 exact ZR HOX.out hb6 (fun k hk=>by cases hk;exact hlt1)):p:=h
theorem ZmB {p:Prop} (h:p:=by
 have hz6:=hb6.size
 have hown6:w6.ownsRow w1.heap.size 77 5 (.slice (some ⟨g,0,none⟩) (j+1) cap) (j+1) (WM (ps++[(⟨(i:Int),((i+u:Nat):Int),x⟩,mv)])):=by
  exact ZlT
 have hq6:∀q∈ps++[((⟨(i:Int),((i+u:Nat):Int),x⟩:GR),mv)],RV w6 (Own w1.heap.size (fun _=>False) (.slice (some ⟨g,0,none⟩) (j+1) cap)) q.1.v q.2.a:=by
  exact ZlS
 have hE2:=UG (A:=fun b=>w1.heap.size≤b) hown6 (fun b h=>h) (fun q hq=>ZmO (fun b hb _=>by rcases hb with ⟨h,_⟩|⟨h,h2⟩;exact absurd h id;exact ⟨h,h2⟩) _ _ (hq6 q hq))
 obtain ⟨av,cv,hav,hrd⟩:=hE2
 refine bodyPost_ret (v:=.tuple #[.slice (some ⟨g,0,none⟩) (j+1) cap,.int .u8 1,.int .i64 0]) (by simp [results,Tryz.f31,go_sem]) rfl ?_
 have hst2:((ps++[((⟨(i:Int),((i+u:Nat):Int),x⟩:GR),mv)]).map Prod.fst,(1:Int))=R:=by rw [←HST.out];simp
 rw [←hst2]
 exact ⟨hbw4.trans (hb6.mono om),av,cv,by rw [hav],RRx.mono (fun b hb _=>om) _ _ hrd⟩):p:=h
theorem ZmC {p:Prop} (h:p:=by exact ⟨hbw.trans (Below.mono (B:=wr.heap.size) ZlD hle),av,cv,by rw [HAV.out],RRx.mono (fun b hb _=>om) _ _ (RRx.ext (ZlH (Below.mono (B:=wr.heap.size) ZlD (Nat.le_refl _))) _ _ HRD.out)⟩):p:=h
set_option maxRecDepth 100000
set_option maxHeartbeats 16000000
theorem Zjb (t:GT) (p:GP) (s:ByteArray) (N:Nat) (w:World) (A A2:Nat→Prop) (m:TA) (mp:PA) (ox:okT t) (hs:Zb t≤1099511627776) (hl:RT w A t m) (op:okP p) (hp:Zm p≤1099511627776) (hr:RP w A2 p mp) (hE:VQ t p s N=0):
  Calls prog 31 #[TV t m,PV p mp,.string s,.int .i64 N] w fun e w'=>Below w.heap.size w w'∧Zln (Yz s t p N 0) w e w':=by
 obtain ⟨ma,mb,mc,md,me,mf,mg,mh,mi,mj,mk,ml⟩:=m
 obtain ⟨na,nb,nc,nd⟩:=mp
 have HL:=hid hl
 have HR:=hid hr
 have OX:=hid ox
 have OP:=hid op
 have HCE:=hid hE
 obtain ⟨hRE,hPE,hN⟩:ZP t s=0∧(Zw p).2=0∧N≤1000:=by
  unfold VQ at hE
  split at hE
  ·omega
  split at hE
  ·omega
  split at hE
  ·omega
  refine ⟨om,om,om⟩
 have hmay:Xo p=true:=by unfold Xo;simp [hPE]
 have hbits:Zc s=true:=by
  unfold ZP at hRE
  split at hRE
  ·omega
  split at hRE
  ·assumption
  omega
 have h1024:s.size≤1024:=by
  unfold Zc at hbits
  rw [Bool.and_eq_true] at hbits
  exact of_decide_eq_true hbits.1
 have HMAY:=hid hmay
 have HRE:=hid hRE
 have hss:s.size≤9223372036854775807:=om
 obtain ⟨i0,hi0,y0,y1,y2⟩:=info_parts Zkl
 generalize hR0:Yz s t p N 0=R
 have HR0:=hid hR0
 clear hl hr ox op hE hRE hPE hmay hbits hR0
 go_enter func31,ntmps31
 go_wp2_with (go_at_call 52;refine (ZaJ t p s N _ A A2 ⟨ma,mb,mc,md,me,mf,mg,mh,mi,mj,mk,ml⟩ ⟨na,nb,nc,nd⟩ OX.out hs (by exact ZlV az _ _ HL.out) OP.out hp (by exact ZmP az _ _ HR.out) hss HCE.out).mono ?_;rintro e w1 ⟨rfl,hb1⟩)
 have hz1:=hb1.size
 simp at hz1
 have hbw1:Below w.heap.size w w1:=ZlD
 have HBT:Hid (At w1 w.heap.size 0 [.int .u8 t.k,.int .u8 t.v.k,.int .i64 t.v.n,.slice ma t.v.l.length mb,.slice mc t.vs.length md,.int .i64 t.lo,.int .i64 t.hi,.slice me t.w.length mf,.int .u8 t.p.k,.int .u8 t.p.v.k,.int .i64 t.p.v.n,.slice mg t.p.v.l.length mh,.int .i64 t.p.n,.slice mi t.p.a.length mj,.slice mk t.a.length ml]):=hid (ZO.2 ⟨(hb1.cell so).trans gs,(hb1.cell so).trans gs,(hb1.cell so).trans gs,(hb1.cell so).trans gs,(hb1.cell so).trans gs,(hb1.cell so).trans gs,(hb1.cell so).trans gs,(hb1.cell so).trans gs,(hb1.cell so).trans gs,(hb1.cell so).trans gs,(hb1.cell so).trans gs,(hb1.cell so).trans gs,(hb1.cell so).trans gs,(hb1.cell so).trans gs,(hb1.cell so).trans gs⟩)
 have HBP:Hid (At w1 (w.heap.size+1) 0 [.int .u8 p.k,.int .u8 p.v.k,.int .i64 p.v.n,.slice na p.v.l.length nb,.int .i64 p.n,.slice nc p.a.length nd]):=hid (Qf.2 ⟨(hb1.cell so).trans gs,(hb1.cell so).trans gs,(hb1.cell so).trans gs,(hb1.cell so).trans gs,(hb1.cell so).trans gs,(hb1.cell so).trans gs⟩)
 go_loopg [8,12,24] N (fun gk t8 t12 t24 wr=>∃(j i:Nat) (ps:List (GR×VA)) (v:Value),v=t8∧gk+j=N∧t24=.int .i64 j∧t12=.int .i64 i∧i≤s.size∧Below w1.heap.size w1 wr∧Hid (ps.length=j)∧Hid ((ps.map Prod.fst++(Yz s t p (N - j) i).1,(Yz s t p (N - j) i).2)=R) ∧
  Hid (wr.ownsRow w1.heap.size 77 5 v j (WM ps))∧Hid (∀q∈ps,RV wr (Own w1.heap.size (fun _=>False) v) q.1.v q.2.a))
 case atStart=>exact ⟨0,0,[],_,rfl,om,rfl,rfl,om,Below.refl _ _,hid rfl,hid (by simpa using HR0.out),hid (World.ownsRow_nil _ _ _ _),hid (fun q hq=>by simp at hq)⟩
 case round=>
  obtain ⟨j,i,ps,v,rfl,hj,rfl,rfl,hi,hbr,HPL,HP,HO,HQ⟩:=hrel
  have hzr:=hbr.size
  have hbw:Below w.heap.size w wr:=hbw1.trans (hbr.mono om)
  by_cases hlt:j < N
  ·have hst:=HP.out
   rw [show N - j=(N - (j+1))+1 by omega,Zcl] at hst
   have hre:=ZbQ HRE.out i hi
   have hin:=Vy (s:=Vh s i) hre OX.out
   have hsz:=Q7 s i hi
   have HRS:=hid hre
   have hs9:(Vh s i).size≤9223372036854775807:=om
   have hiI:(i:Int)≤(s.size:Int):=om
   have QT:=hid (ZlV (ZlH hbw) _ _ HL.out)
   have HOK:=hid (show ∀k,v.ownBlock=some k→k < wr.heap.size from fun k hk=>(HO.out.lt _ hk).2)
   have hownk:∀k,v.ownBlock=some k→w1.heap.size≤k:=fun k hk=>(HO.out.lt _ hk).1
   have HOWN:=hid hownk
   obtain ⟨c0,c1,c2,c3,c4,c5,c6,c7,c8,c9,ca,cb,cc,cd,ce⟩:=ZO.1 (ZmS (ZlH hbr) (A:=fun _=>True) trivial _ _ HBT.out)
   have u0:w.heap.size < wr.heap.size:=om
   have u1:w.heap.size+1 < wr.heap.size:=om
   clear hre hownk
   rcases hW:Vm (Vh s i) t with ⟨x,u⟩|⟨k⟩
   ·rw [hW] at hst hin
    obtain ⟨_,hu,hokx⟩:=hin
    have hu2:i+u≤s.size:=om
    have OKX:=hid hokx
    have HW:=hid hW
    have wiu:IntKind.i64.wrap ((i:Int)+(u:Int))=(i:Int)+(u:Int):=IntWalk.i64_in _ om
    clear hW hokx hsz hu
    dsimp only at hst
    cases hHv:Zh p x
    ·have HH:=hid (show (Xo p&&Zh p x)=false by rw [hHv];simp)
     rw [hHv,if_neg sm] at hst
     have HST:=hid hst
     clear hst hHv
     go_wp2_with fail
     go_region_held3 (fun W=>∀k,W.cell? ⟨w.heap.size,k,none⟩=wr.cell? ⟨w.heap.size,k,none⟩) ((intro k;refine Below.cell (B:=wr.heap.size) (w:=wr) (p:=⟨w.heap.size,k,none⟩) ?_ u0;((repeat (first|with_reducible exact Below.refl _ _|with_reducible assumption|with_reducible refine Below.trans ?_ (Below.mono (by with_reducible assumption) (by first|omega|(simp;done)|(simp;omega)))|with_reducible refine Below.drew ?_|with_reducible refine Below.alloc ?_ (by first|omega|(simp;done)|(simp;omega)) _|with_reducible refine Below.setCell ?_ (by first|omega|(simp;done)|(simp;omega)) _));done))) ((go_at_call 26;refine (ZdB t (Vh s i) _ A ⟨ma,mb,mc,md,me,mf,mg,mh,mi,mj,mk,ml⟩ OX.out hs (by exact ZlV (A:=A) ar _ _ QT.out) hs9 HRS.out x u HW.out).mono ?_;rintro e w2 ⟨hb2,mv,rfl,hrv⟩;have HRV:=hid hrv;clear hrv;have hz2:=hb2.size;(try simp at hz2);have hbr2:Below wr.heap.size wr w2:=ZlD;have v0:w.heap.size < w2.heap.size:=om;have v1:w.heap.size+1 < w2.heap.size:=om;have v2:wr.heap.size≤w2.heap.size:=om;(try (have y5':wr.heap.size < w2.heap.size:=om;have q0:w2.cell? ⟨wr.heap.size,0,none⟩=some (.int .u8 0):=(hb2.cell sm).trans gs;have q1:w2.cell? ⟨wr.heap.size,1,none⟩=some (.int .u8 0):=(hb2.cell sm).trans gs;have q2:w2.cell? ⟨wr.heap.size,2,none⟩=some (.int .i64 0):=(hb2.cell sm).trans gs;have q3:w2.cell? ⟨wr.heap.size,3,none⟩=some (.slice none 0 0):=(hb2.cell sm).trans gs;have q4:w2.cell? ⟨wr.heap.size,4,none⟩=some (.int .i64 0):=(hb2.cell sm).trans gs;have qf:∀k,w2.frozen? ⟨wr.heap.size,k,none⟩=false:=fun k=>(hb2.frozen sm).trans gs))))
     ·go_wp2_with (first|(at_builtin;refine wpList_append_lies _ rfl _ _ 74 rfl w1.heap.size 77 i0 _ 5 56 underlying74 hi0 y0 y1 y2 rfl (by decide) _ j _ (by rfl) ((ZR HO.out (B:=wr.heap.size) (by exact ZlD) HOK.out).alloc _) ⟨w2.heap.size+1,0,none⟩ 1 1 [.int .i64 i,.int .i64 (i+u),.int .u8 x.k,.int .i64 x.n,.slice mv.a x.l.length mv.c] (by rfl) rfl (QO sm _ _ _ _ _ _) (by simp [Value.oneCell']) (by decide) (by unfold maxLen;omega) om (by simp;omega) (w2.heap.size+1+1) sm ?_;intro g cap w4 hown hgrow hat hlt1;have hbg:Below w1.heap.size w1 w4:=Below.grown (by exact ZlD) hgrow (by simp;omega) HOWN.out;have hag:Agree (fun b=>b=w2.heap.size) _ w4:=Znm hgrow (fun b hb e=>(by have h8:b=w2.heap.size:=hb;have h9:=HOK.out _ e.symm;omega));have x0:w4.cell? ⟨w2.heap.size,0,none⟩=some (.int .u8 1):=(hag ⟨w2.heap.size,0,none⟩ _ rfl gs).1;have x1:w4.cell? ⟨w2.heap.size,1,none⟩=some (.int .u8 x.k):=(hag ⟨w2.heap.size,1,none⟩ _ rfl gs).1;have x2:w4.cell? ⟨w2.heap.size,2,none⟩=some (.int .i64 x.n):=(hag ⟨w2.heap.size,2,none⟩ _ rfl gs).1;have x3:w4.cell? ⟨w2.heap.size,3,none⟩=some (.slice mv.a x.l.length mv.c):=(hag ⟨w2.heap.size,3,none⟩ _ rfl gs).1;have x4:w4.cell? ⟨w2.heap.size,4,none⟩=some (.int .i64 u):=(hag ⟨w2.heap.size,4,none⟩ _ rfl gs).1;obtain ⟨g0,g1,g2,g3,g4,g5⟩:=Qf.1 (ZmS (ZlH hbg) (A:=fun _=>True) trivial _ _ HBP.out);have hz4:=hbg.size;have hbw4:Below w.heap.size w w4:=hbw1.trans (hbg.mono om);have hrx:RV w4 (Own w1.heap.size (fun _=>False) (.slice (some ⟨g,0,none⟩) (j+1) cap)) x mv.a:=Znj hgrow HOWN.out hat sm (ZmO (fun b hb _=>(Or.inr ⟨om,fun e=>(by have h9:=HOK.out _ e;omega)⟩)) _ _ (ZmG (A:=fun b=>wr.heap.size≤b) ar _ _ (ZmO (fun b hb _=>(by simpa using hb)) _ _ HRV.out)));have hqx:∀q∈ps,RV w4 (Own w1.heap.size (fun _=>False) (.slice (some ⟨g,0,none⟩) (j+1) cap)) q.1.v q.2.a:=fun q hq=>Znj hgrow HOWN.out hat sm (ZmG (ZlH (Below.mono (B:=wr.heap.size) ZlD (Nat.le_refl _))) _ _ (HQ.out q hq));have HRX:=hid hrx;have HQX:=hid hqx;have HOX:=hid hown;clear hrx hqx hown)|(go_at_call 49;refine (Xs p x false HH.out A2 (Own w1.heap.size (fun _=>False) (.slice (some ⟨g,0,none⟩) (j+1) cap)) ⟨na,nb,nc,nd⟩ mv _ OP.out hp (by exact ZmP (ZlH hbw4) _ _ HR.out) OKX.out (by exact HRX.out)).mono ?_;rintro e6 w6 ⟨rfl,hb6⟩))
      exact ZmB
     go_wp2_with (first|(at_builtin;refine wpList_append_lies _ rfl _ _ 74 rfl w1.heap.size 77 i0 _ 5 56 underlying74 hi0 y0 y1 y2 rfl (by decide) _ j _ (by rfl) ((ZR HO.out (B:=wr.heap.size) (by exact ZlD) HOK.out).alloc _) ⟨w2.heap.size,0,none⟩ 1 1 [.int .i64 i,.int .i64 (i+u),.int .u8 x.k,.int .i64 x.n,.slice mv.a x.l.length mv.c] (by rfl) rfl (QO sm _ _ _ _ _ _) (by simp [Value.oneCell']) (by decide) (by unfold maxLen;omega) om (by simp;omega) (w2.heap.size+1) sm ?_;intro g cap w4 hown hgrow hat hlt1;have hbg:Below w1.heap.size w1 w4:=Below.grown (by exact ZlD) hgrow (by simp;omega) HOWN.out;have hag:Agree (fun b=>b=wr.heap.size) _ w4:=Znm hgrow (fun b hb e=>(by have h8:b=wr.heap.size:=hb;have h9:=HOK.out _ e.symm;omega));have x0:w4.cell? ⟨wr.heap.size,0,none⟩=some (.int .u8 1):=(hag ⟨wr.heap.size,0,none⟩ _ rfl gs).1;have x1:w4.cell? ⟨wr.heap.size,1,none⟩=some (.int .u8 x.k):=(hag ⟨wr.heap.size,1,none⟩ _ rfl gs).1;have x2:w4.cell? ⟨wr.heap.size,2,none⟩=some (.int .i64 x.n):=(hag ⟨wr.heap.size,2,none⟩ _ rfl gs).1;have x3:w4.cell? ⟨wr.heap.size,3,none⟩=some (.slice mv.a x.l.length mv.c):=(hag ⟨wr.heap.size,3,none⟩ _ rfl gs).1;have x4:w4.cell? ⟨wr.heap.size,4,none⟩=some (.int .i64 u):=(hag ⟨wr.heap.size,4,none⟩ _ rfl gs).1;obtain ⟨g0,g1,g2,g3,g4,g5⟩:=Qf.1 (ZmS (ZlH hbg) (A:=fun _=>True) trivial _ _ HBP.out);have hz4:=hbg.size;have hbw4:Below w.heap.size w w4:=hbw1.trans (hbg.mono om);have hrx:RV w4 (Own w1.heap.size (fun _=>False) (.slice (some ⟨g,0,none⟩) (j+1) cap)) x mv.a:=Znj hgrow HOWN.out hat sm (ZmO (fun b hb _=>(Or.inr ⟨om,fun e=>(by have h9:=HOK.out _ e;omega)⟩)) _ _ (ZmG (A:=fun b=>wr.heap.size+1≤b) (Za0 _ _ _ _ _ _) _ _ (ZmO (fun b hb _=>(by simpa using hb)) _ _ HRV.out)));have hqx:∀q∈ps,RV w4 (Own w1.heap.size (fun _=>False) (.slice (some ⟨g,0,none⟩) (j+1) cap)) q.1.v q.2.a:=fun q hq=>Znj hgrow HOWN.out hat sm (ZmG (ZlH (Below.mono (B:=wr.heap.size) ZlD (Nat.le_refl _))) _ _ (HQ.out q hq));have HRX:=hid hrx;have HQX:=hid hqx;have HOX:=hid hown;clear hrx hqx hown)|(go_at_call 49;refine (Xs p x false HH.out A2 (Own w1.heap.size (fun _=>False) (.slice (some ⟨g,0,none⟩) (j+1) cap)) ⟨na,nb,nc,nd⟩ mv _ OP.out hp (by exact ZmP (ZlH hbw4) _ _ HR.out) OKX.out (by exact HRX.out)).mono ?_;rintro e6 w6 ⟨rfl,hb6⟩))
     exact ZmB
    have HH:=hid (show (Xo p&&Zh p x)=true by rw [hHv,HMAY.out];rfl)
    rw [hHv,if_pos rfl] at hst
    have HST:=hid hst
    clear hst hHv
    go_wp2_with fail
    go_region_held3 (fun W=>∀k,W.cell? ⟨w.heap.size,k,none⟩=wr.cell? ⟨w.heap.size,k,none⟩) ((intro k;refine Below.cell (B:=wr.heap.size) (w:=wr) (p:=⟨w.heap.size,k,none⟩) ?_ u0;((repeat (first|with_reducible exact Below.refl _ _|with_reducible assumption|with_reducible refine Below.trans ?_ (Below.mono (by with_reducible assumption) (by first|omega|(simp;done)|(simp;omega)))|with_reducible refine Below.drew ?_|with_reducible refine Below.alloc ?_ (by first|omega|(simp;done)|(simp;omega)) _|with_reducible refine Below.setCell ?_ (by first|omega|(simp;done)|(simp;omega)) _));done))) ((go_at_call 26;refine (ZdB t (Vh s i) _ A ⟨ma,mb,mc,md,me,mf,mg,mh,mi,mj,mk,ml⟩ OX.out hs (by exact ZlV (A:=A) ar _ _ QT.out) hs9 HRS.out x u HW.out).mono ?_;rintro e w2 ⟨hb2,mv,rfl,hrv⟩;have HRV:=hid hrv;clear hrv;have hz2:=hb2.size;(try simp at hz2);have hbr2:Below wr.heap.size wr w2:=ZlD;have v0:w.heap.size < w2.heap.size:=om;have v1:w.heap.size+1 < w2.heap.size:=om;have v2:wr.heap.size≤w2.heap.size:=om;(try (have y5':wr.heap.size < w2.heap.size:=om;have q0:w2.cell? ⟨wr.heap.size,0,none⟩=some (.int .u8 0):=(hb2.cell sm).trans gs;have q1:w2.cell? ⟨wr.heap.size,1,none⟩=some (.int .u8 0):=(hb2.cell sm).trans gs;have q2:w2.cell? ⟨wr.heap.size,2,none⟩=some (.int .i64 0):=(hb2.cell sm).trans gs;have q3:w2.cell? ⟨wr.heap.size,3,none⟩=some (.slice none 0 0):=(hb2.cell sm).trans gs;have q4:w2.cell? ⟨wr.heap.size,4,none⟩=some (.int .i64 0):=(hb2.cell sm).trans gs;have qf:∀k,w2.frozen? ⟨wr.heap.size,k,none⟩=false:=fun k=>(hb2.frozen sm).trans gs))))
    ·go_wp2_with (first|(at_builtin;refine wpList_append_lies _ rfl _ _ 74 rfl w1.heap.size 77 i0 _ 5 56 underlying74 hi0 y0 y1 y2 rfl (by decide) _ j _ (by rfl) ((ZR HO.out (B:=wr.heap.size) (by exact ZlD) HOK.out).alloc _) ⟨w2.heap.size+1,0,none⟩ 1 1 [.int .i64 i,.int .i64 (i+u),.int .u8 x.k,.int .i64 x.n,.slice mv.a x.l.length mv.c] (by rfl) rfl (QO sm _ _ _ _ _ _) (by simp [Value.oneCell']) (by decide) (by unfold maxLen;omega) om (by simp;omega) (w2.heap.size+1+1) sm ?_;intro g cap w4 hown hgrow hat hlt1;have hbg:Below w1.heap.size w1 w4:=Below.grown (by exact ZlD) hgrow (by simp;omega) HOWN.out;have hag:Agree (fun b=>b=w2.heap.size) _ w4:=Znm hgrow (fun b hb e=>(by have h8:b=w2.heap.size:=hb;have h9:=HOK.out _ e.symm;omega));have x0:w4.cell? ⟨w2.heap.size,0,none⟩=some (.int .u8 1):=(hag ⟨w2.heap.size,0,none⟩ _ rfl gs).1;have x1:w4.cell? ⟨w2.heap.size,1,none⟩=some (.int .u8 x.k):=(hag ⟨w2.heap.size,1,none⟩ _ rfl gs).1;have x2:w4.cell? ⟨w2.heap.size,2,none⟩=some (.int .i64 x.n):=(hag ⟨w2.heap.size,2,none⟩ _ rfl gs).1;have x3:w4.cell? ⟨w2.heap.size,3,none⟩=some (.slice mv.a x.l.length mv.c):=(hag ⟨w2.heap.size,3,none⟩ _ rfl gs).1;have x4:w4.cell? ⟨w2.heap.size,4,none⟩=some (.int .i64 u):=(hag ⟨w2.heap.size,4,none⟩ _ rfl gs).1;obtain ⟨g0,g1,g2,g3,g4,g5⟩:=Qf.1 (ZmS (ZlH hbg) (A:=fun _=>True) trivial _ _ HBP.out);have hz4:=hbg.size;have hbw4:Below w.heap.size w w4:=hbw1.trans (hbg.mono om);have hrx:RV w4 (Own w1.heap.size (fun _=>False) (.slice (some ⟨g,0,none⟩) (j+1) cap)) x mv.a:=Znj hgrow HOWN.out hat sm (ZmO (fun b hb _=>(Or.inr ⟨om,fun e=>(by have h9:=HOK.out _ e;omega)⟩)) _ _ (ZmG (A:=fun b=>wr.heap.size≤b) ar _ _ (ZmO (fun b hb _=>(by simpa using hb)) _ _ HRV.out)));have hqx:∀q∈ps,RV w4 (Own w1.heap.size (fun _=>False) (.slice (some ⟨g,0,none⟩) (j+1) cap)) q.1.v q.2.a:=fun q hq=>Znj hgrow HOWN.out hat sm (ZmG (ZlH (Below.mono (B:=wr.heap.size) ZlD (Nat.le_refl _))) _ _ (HQ.out q hq));have HRX:=hid hrx;have HQX:=hid hqx;have HOX:=hid hown;clear hrx hqx hown)|(go_at_call 49;refine (Xs p x true HH.out A2 (Own w1.heap.size (fun _=>False) (.slice (some ⟨g,0,none⟩) (j+1) cap)) ⟨na,nb,nc,nd⟩ mv _ OP.out hp (by exact ZmP (ZlH hbw4) _ _ HR.out) OKX.out (by exact HRX.out)).mono ?_;rintro e6 w6 ⟨rfl,hb6⟩))
     have hz6:=hb6.size
     have hown6:w6.ownsRow w1.heap.size 77 5 (.slice (some ⟨g,0,none⟩) (j+1) cap) (j+1) (WM (ps++[(⟨(i:Int),((i+u:Nat):Int),x⟩,mv)])):=by
      exact ZlT
     have hq6:∀q∈ps++[((⟨(i:Int),((i+u:Nat):Int),x⟩:GR),mv)],RV w6 (Own w1.heap.size (fun _=>False) (.slice (some ⟨g,0,none⟩) (j+1) cap)) q.1.v q.2.a:=by
      exact ZlS
     go_roundg (gk - 1)
     case measure=>omega
     case rel=>exact ⟨j+1,i+u,ps++[(⟨(i:Int),((i+u:Nat):Int),x⟩,mv)],_,rfl,om,by go_num,by go_num,hu2,hbg.trans (hb6.mono om),hid (by have:=HPL.out;simp;omega),hid (by rw [←HST.out];simp),hid hown6,hid hq6⟩
    go_wp2_with (first|(at_builtin;refine wpList_append_lies _ rfl _ _ 74 rfl w1.heap.size 77 i0 _ 5 56 underlying74 hi0 y0 y1 y2 rfl (by decide) _ j _ (by rfl) ((ZR HO.out (B:=wr.heap.size) (by exact ZlD) HOK.out).alloc _) ⟨w2.heap.size,0,none⟩ 1 1 [.int .i64 i,.int .i64 (i+u),.int .u8 x.k,.int .i64 x.n,.slice mv.a x.l.length mv.c] (by rfl) rfl (QO sm _ _ _ _ _ _) (by simp [Value.oneCell']) (by decide) (by unfold maxLen;omega) om (by simp;omega) (w2.heap.size+1) sm ?_;intro g cap w4 hown hgrow hat hlt1;have hbg:Below w1.heap.size w1 w4:=Below.grown (by exact ZlD) hgrow (by simp;omega) HOWN.out;have hag:Agree (fun b=>b=wr.heap.size) _ w4:=Znm hgrow (fun b hb e=>(by have h8:b=wr.heap.size:=hb;have h9:=HOK.out _ e.symm;omega));have x0:w4.cell? ⟨wr.heap.size,0,none⟩=some (.int .u8 1):=(hag ⟨wr.heap.size,0,none⟩ _ rfl gs).1;have x1:w4.cell? ⟨wr.heap.size,1,none⟩=some (.int .u8 x.k):=(hag ⟨wr.heap.size,1,none⟩ _ rfl gs).1;have x2:w4.cell? ⟨wr.heap.size,2,none⟩=some (.int .i64 x.n):=(hag ⟨wr.heap.size,2,none⟩ _ rfl gs).1;have x3:w4.cell? ⟨wr.heap.size,3,none⟩=some (.slice mv.a x.l.length mv.c):=(hag ⟨wr.heap.size,3,none⟩ _ rfl gs).1;have x4:w4.cell? ⟨wr.heap.size,4,none⟩=some (.int .i64 u):=(hag ⟨wr.heap.size,4,none⟩ _ rfl gs).1;obtain ⟨g0,g1,g2,g3,g4,g5⟩:=Qf.1 (ZmS (ZlH hbg) (A:=fun _=>True) trivial _ _ HBP.out);have hz4:=hbg.size;have hbw4:Below w.heap.size w w4:=hbw1.trans (hbg.mono om);have hrx:RV w4 (Own w1.heap.size (fun _=>False) (.slice (some ⟨g,0,none⟩) (j+1) cap)) x mv.a:=Znj hgrow HOWN.out hat sm (ZmO (fun b hb _=>(Or.inr ⟨om,fun e=>(by have h9:=HOK.out _ e;omega)⟩)) _ _ (ZmG (A:=fun b=>wr.heap.size+1≤b) (Za0 _ _ _ _ _ _) _ _ (ZmO (fun b hb _=>(by simpa using hb)) _ _ HRV.out)));have hqx:∀q∈ps,RV w4 (Own w1.heap.size (fun _=>False) (.slice (some ⟨g,0,none⟩) (j+1) cap)) q.1.v q.2.a:=fun q hq=>Znj hgrow HOWN.out hat sm (ZmG (ZlH (Below.mono (B:=wr.heap.size) ZlD (Nat.le_refl _))) _ _ (HQ.out q hq));have HRX:=hid hrx;have HQX:=hid hqx;have HOX:=hid hown;clear hrx hqx hown)|(go_at_call 49;refine (Xs p x true HH.out A2 (Own w1.heap.size (fun _=>False) (.slice (some ⟨g,0,none⟩) (j+1) cap)) ⟨na,nb,nc,nd⟩ mv _ OP.out hp (by exact ZmP (ZlH hbw4) _ _ HR.out) OKX.out (by exact HRX.out)).mono ?_;rintro e6 w6 ⟨rfl,hb6⟩))
    have hz6:=hb6.size
    have hown6:w6.ownsRow w1.heap.size 77 5 (.slice (some ⟨g,0,none⟩) (j+1) cap) (j+1) (WM (ps++[(⟨(i:Int),((i+u:Nat):Int),x⟩,mv)])):=by
     exact ZlT
    have hq6:∀q∈ps++[((⟨(i:Int),((i+u:Nat):Int),x⟩:GR),mv)],RV w6 (Own w1.heap.size (fun _=>False) (.slice (some ⟨g,0,none⟩) (j+1) cap)) q.1.v q.2.a:=by
     exact ZlS
    go_roundg (gk - 1)
    case measure=>omega
    case rel=>exact ⟨j+1,i+u,ps++[(⟨(i:Int),((i+u:Nat):Int),x⟩,mv)],_,rfl,om,by go_num,by go_num,hu2,hbg.trans (hb6.mono om),hid (by have:=HPL.out;simp;omega),hid (by rw [←HST.out];simp),hid hown6,hid hq6⟩
   rw [hW] at hst hin
   have hk:k=2∨k=3:=hin
   have HW:=hid hW
   clear hW hsz
   dsimp only at hst
   have HST:=hid hst
   clear HOK HOWN
   have hE2:=UG (A:=fun b=>w1.heap.size≤b) HO.out (fun b h=>h) (fun q hq=>ZmO (fun b hb _=>by rcases hb with ⟨h,_⟩|⟨h,h2⟩;exact absurd h id;exact ⟨h,h2⟩) _ _ (HQ.out q hq))
   obtain ⟨av,cv,hav,hrd⟩:=hE2
   have HRD:=hid hrd
   have HAV:=hid hav
   clear hrd hav hst
   have hle:w.heap.size≤wr.heap.size:=om
   have hle1:w1.heap.size≤wr.heap.size:=om
   rcases hk with rfl|rfl
   ·have hst2:(ps.map Prod.fst,(3:Int))=R:=by rw [←HST.out];simp
    clear HST
    subst hst2
    go_wp2_with fail
    go_region_held3 (fun W=>∀k,W.cell? ⟨w.heap.size,k,none⟩=wr.cell? ⟨w.heap.size,k,none⟩) ((intro k;refine Below.cell (B:=wr.heap.size) (w:=wr) (p:=⟨w.heap.size,k,none⟩) ?_ u0;((repeat (first|with_reducible exact Below.refl _ _|with_reducible assumption|with_reducible refine Below.trans ?_ (Below.mono (by with_reducible assumption) (by first|omega|(simp;done)|(simp;omega)))|with_reducible refine Below.drew ?_|with_reducible refine Below.alloc ?_ (by first|omega|(simp;done)|(simp;omega)) _|with_reducible refine Below.setCell ?_ (by first|omega|(simp;done)|(simp;omega)) _));done))) ((go_at_call 26;refine (ZfX t (Vh s i) _ A ⟨ma,mb,mc,md,me,mf,mg,mh,mi,mj,mk,ml⟩ OX.out hs (by exact ZlV (A:=A) ar _ _ QT.out) hs9 HRS.out _ HW.out).mono ?_;rintro e w2 ⟨hb2,rfl⟩;have hz2:=hb2.size;(try simp at hz2);have hbr2:Below wr.heap.size wr w2:=ZlD;have v0:w.heap.size < w2.heap.size:=om;have v1:w.heap.size+1 < w2.heap.size:=om;have v2:wr.heap.size≤w2.heap.size:=om;(try (have y5':wr.heap.size < w2.heap.size:=om;have q0:w2.cell? ⟨wr.heap.size,0,none⟩=some (.int .u8 0):=(hb2.cell sm).trans gs;have q1:w2.cell? ⟨wr.heap.size,1,none⟩=some (.int .u8 0):=(hb2.cell sm).trans gs;have q2:w2.cell? ⟨wr.heap.size,2,none⟩=some (.int .i64 0):=(hb2.cell sm).trans gs;have q3:w2.cell? ⟨wr.heap.size,3,none⟩=some (.slice none 0 0):=(hb2.cell sm).trans gs;have q4:w2.cell? ⟨wr.heap.size,4,none⟩=some (.int .i64 0):=(hb2.cell sm).trans gs;have qf:∀k,w2.frozen? ⟨wr.heap.size,k,none⟩=false:=fun k=>(hb2.frozen sm).trans gs))))
    all_goals go_wp2_with fail
    all_goals refine bodyPost_ret (v:=.tuple #[v,.int .u8 3,.int .i64 0]) (by simp [results,Tryz.f31,go_sem]) rfl ?_
    all_goals exact ZmC
   have hst2:(ps.map Prod.fst,(4:Int))=R:=by rw [←HST.out];simp
   clear HST
   subst hst2
   go_wp2_with fail
   go_region_held3 (fun W=>∀k,W.cell? ⟨w.heap.size,k,none⟩=wr.cell? ⟨w.heap.size,k,none⟩) ((intro k;refine Below.cell (B:=wr.heap.size) (w:=wr) (p:=⟨w.heap.size,k,none⟩) ?_ u0;((repeat (first|with_reducible exact Below.refl _ _|with_reducible assumption|with_reducible refine Below.trans ?_ (Below.mono (by with_reducible assumption) (by first|omega|(simp;done)|(simp;omega)))|with_reducible refine Below.drew ?_|with_reducible refine Below.alloc ?_ (by first|omega|(simp;done)|(simp;omega)) _|with_reducible refine Below.setCell ?_ (by first|omega|(simp;done)|(simp;omega)) _));done))) ((go_at_call 26;refine (ZfX t (Vh s i) _ A ⟨ma,mb,mc,md,me,mf,mg,mh,mi,mj,mk,ml⟩ OX.out hs (by exact ZlV (A:=A) ar _ _ QT.out) hs9 HRS.out _ HW.out).mono ?_;rintro e w2 ⟨hb2,rfl⟩;have hz2:=hb2.size;(try simp at hz2);have hbr2:Below wr.heap.size wr w2:=ZlD;have v0:w.heap.size < w2.heap.size:=om;have v1:w.heap.size+1 < w2.heap.size:=om;have v2:wr.heap.size≤w2.heap.size:=om;(try (have y5':wr.heap.size < w2.heap.size:=om;have q0:w2.cell? ⟨wr.heap.size,0,none⟩=some (.int .u8 0):=(hb2.cell sm).trans gs;have q1:w2.cell? ⟨wr.heap.size,1,none⟩=some (.int .u8 0):=(hb2.cell sm).trans gs;have q2:w2.cell? ⟨wr.heap.size,2,none⟩=some (.int .i64 0):=(hb2.cell sm).trans gs;have q3:w2.cell? ⟨wr.heap.size,3,none⟩=some (.slice none 0 0):=(hb2.cell sm).trans gs;have q4:w2.cell? ⟨wr.heap.size,4,none⟩=some (.int .i64 0):=(hb2.cell sm).trans gs;have qf:∀k,w2.frozen? ⟨wr.heap.size,k,none⟩=false:=fun k=>(hb2.frozen sm).trans gs))))
   all_goals go_wp2_with fail
   all_goals refine bodyPost_ret (v:=.tuple #[v,.int .u8 4,.int .i64 0]) (by simp [results,Tryz.f31,go_sem]) rfl ?_
   all_goals exact ZmC
  have hjl:j=N:=om
  have hst:=HP.out
  rw [hjl,Nat.sub_self] at hst
  have hst2:(ps.map Prod.fst,2)=R:=by rw [←hst];simp [Yz]
  have hE2:=UG (A:=fun b=>w1.heap.size≤b) HO.out (fun b h=>h) (fun q hq=>ZmO (fun b hb _=>by rcases hb with ⟨h,_⟩|⟨h,h2⟩;exact absurd h id;exact ⟨h,h2⟩) _ _ (HQ.out q hq))
  obtain ⟨av,cv,hav,hrd⟩:=hE2
  have HRD:=hid hrd
  have HAV:=hid hav
  clear hst hrd hav hjl
  subst hst2
  go_wp2_with fail
  refine bodyPost_ret (v:=.tuple #[v,.int .u8 2,.int .i64 0]) (by simp [results,Tryz.f31,go_sem]) rfl ?_
  exact ⟨hbw,av,cv,by rw [HAV.out],RRx.mono (fun b hb _=>om) _ _ HRD.out⟩
set_option maxRecDepth 512
theorem Zja (t:GT) (p:GP) (s:ByteArray) (N:Nat) (w:World) (A A2:Nat→Prop) (m:TA) (mp:PA) (ox:okT t) (hs:Zb t≤1099511627776) (hl:RT w A t m) (op:okP p) (hp:Zm p≤1099511627776) (hr:RP w A2 p mp) (hE:VQ t p s N=0):
  Calls prog 31 #[TV t m,PV p mp,.string s,.int .i64 N] w fun e w'=>Below w.heap.size w w'∧Zll (Yz s t p N 0) w e w':=
 (Zjb t p s N w A A2 m mp ox hs hl op hp hr hE).mono fun e w' h=>by
  obtain ⟨hb,a,c,h,hr⟩:=h
  exact ⟨hb,a,c,h,hr.1⟩
theorem ZhW (t:GT) (p:GP) (s:ByteArray) (N:Nat) (w:World) (A A2:Nat→Prop) (m:TA) (mp:PA) (ox:okT t) (hs:Zb t≤1099511627776) (hl:RT w A t m) (op:okP p) (hp:Zm p≤1099511627776) (hr:RP w A2 p mp) (hE:VQ t p s N=0):
  Calls prog 31 #[TV t m,PV p mp,.string s,.int .i64 N] w fun e w'=>Below w.heap.size w w'∧Zlm (Yz s t p N 0) w e w':=
 (Zja t p s N w A A2 m mp ox hs hl op hp hr hE).mono fun e w' h=>by
  obtain ⟨hb,a,c,h,hr⟩:=h
  exact ⟨hb,a,_,h,hr⟩
end Go.Proofs.YtclphfojkggcpaaGreatDoor
