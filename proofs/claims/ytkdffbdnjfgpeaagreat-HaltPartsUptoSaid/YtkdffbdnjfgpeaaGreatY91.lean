/- Part 92. -/
import Derived.Test.YtkdffbdnjfgpeaaGreatY42
import Derived.Test.YtkdffbdnjfgpeaaGreatY74
import Derived.Test.YtkdffbdnjfgpeaaGreatY81
import Derived.Test.YtkdffbdnjfgpeaaGreatY86
import Derived.Test.YtkdffbdnjfgpeaaGreatY90
set_option linter.all false
namespace Go.Proofs.YtkdffbdnjfgpeaaGreat
open Go.Lib (hid)
open Go Go.RowKit Go.Proofs.Tryz
set_option maxRecDepth 100000
set_option maxHeartbeats 2000000
theorem ZwT (t:GT) (n:Int) (w:World) (A:Nat→Prop) (m:TA) (ox:okT t) (hs:Zb t≤1048576) (hl:RT w A t m):
  Calls prog 21 #[TV t m,.int .i64 n] w fun e w'=>e=.returned (.int .i64 (Zqq t n))∧Below w.heap.size w w':=by
 obtain ⟨ma,mb,mc,md,me,mf,mg,mh,mi,mj,mk,ml⟩:=m
 have HL:=hid hl
 have OX:=hid ox
 clear hl ox
 unfold Zqq
 by_cases h0:n < 0∨12 < n
 ·rw [if_pos h0]
  by_cases h1:n < 0
  ·have h2:decide (n < 0)=true:=decide_eq_true h1
   go_enter func21,ntmps21
   go_wp2_with fail
   go_ret
   exact ⟨rfl,ZtZ⟩
  have h2:12 < n:=om
  go_enter func21,ntmps21
  go_wp2_with fail
  go_ret
  exact ⟨rfl,ZtZ⟩
 rw [if_neg h0]
 have h1:¬n < 0:=om
 have h2:¬12 < n:=om
 clear h0
 go_enter func21,ntmps21
 go_wp2_with (go_at_call 55;refine (WV t _ A ⟨ma,mb,mc,md,me,mf,mg,mh,mi,mj,mk,ml⟩ OX.out hs (by exact Zt2 ar _ _ HL.out)).mono ?_;rintro e w1 ⟨rfl,hb1⟩;have hz1:=hb1.size;(try simp at hz1))
 go_ret
 exact ⟨rfl,ZtZ⟩
set_option maxRecDepth 512
theorem Zjk:(prog.info? 9).map (fun i=>(i.zero,i.size,i.bytes))=some (some (.string ⟨#[]⟩),1,16):=kr
theorem Zw0 {W:World} {n:Nat} (hn:W.heap.size=n) (a b:Value) (t:TypeId):∀j u,[a,b][j]? =some u→(W.alloc (.cells #[a,b] t)).cell? ((⟨n,0,none⟩:Addr).add j)=some u:=by
 subst hn
 exact fun j u hu=>World.news_of_block (heap_alloc_new W _) j u (by simpa using hu)
theorem ZxO {w:World} {B B' e sz n:Nat} {v:Value} {xs:List Value} (h:w.ownsRow B e sz v n xs) (hb:B'≤B):w.ownsRow B' e sz v n xs:=
 ⟨h.1,h.2.imp id fun ⟨g,cap,cur,e,h1,r⟩=>⟨g,cap,cur,e,Nat.le_trans hb h1,r⟩⟩
def ZwY (l:List ByteArray):List ByteArray:=l.flatMap fun x=>[W3 x 48,W3 x 49]
theorem Zw2 {l:List ByteArray} {k:Nat} (h:k < l.length):(ZwY (l.take (k+1))).map Value.string=(ZwY (l.take k)).map Value.string++[.string (W3 l[k] 48),.string (W3 l[k] 49)]:=by
 unfold ZwY
 rw [List.take_succ_eq_append_getElem h,List.flatMap_append,List.map_append]
 rfl
set_option maxRecDepth 100000
set_option maxHeartbeats 4000000
theorem Zw8 (n:Nat) (hn:n≤12) (w:World):
  Calls prog 47 #[.int .i64 n] w fun e w'=>Below w.heap.size w w'∧∃v,e=.returned v∧w'.ownsRow w.heap.size 9 1 v (Zqm n ⟨#[]⟩).length ((Zqm n ⟨#[]⟩).map Value.string):=by
 obtain ⟨i0,hi0,y0,y1,y2⟩:=info_parts Zjk
 have hnI:¬(n:Int) < 0:=om
 have hnJ:¬12 < (n:Int):=om
 go_enter func47,ntmps47
 go_wp2_with fail
 go_loopg [3,4] n (fun gk t3' t4' wr=>∃(j:Nat) (v:Value),v=t3'∧gk+j=n∧t4'=.int .i64 j∧Below w.heap.size w wr∧Hid (wr.ownsRow w.heap.size 9 1 v (Zqm j ⟨#[]⟩).length ((Zqm j ⟨#[]⟩).map Value.string)))
 case atStart=>exact ⟨0,_,rfl,om,rfl,ZtZ,hid ⟨rfl,.inr ⟨w.heap.size,1, #[.string ⟨#[]⟩],rfl,Nat.le_refl _,heap_alloc_new w _,Nat.le_refl _,by unfold maxLen;omega,rfl,rfl⟩⟩⟩
 case round=>
  obtain ⟨j,v,rfl,hj,rfl,hbr,HO⟩:=hrel
  obtain ⟨wo,rfl⟩:∃x,x=wr:=⟨_,rfl⟩
  by_cases hlt:j < n
  ·have hlen:=ZwS j ⟨#[]⟩
   have hp:=ZpP (k:=j) om
   have hpos:0 < 2 ^ j:=Nat.pos_of_ne_zero sm
   have HSZ:=hid (fun x (h:x∈Zqm j ⟨#[]⟩)=>(by have:=ZpC h;have h0:(⟨#[]⟩:ByteArray).size=0:=rfl;omega:x.size≤12))
   have HNX:Hid (Zqm (j+1) ⟨#[]⟩=ZwY (Zqm j ⟨#[]⟩)):=hid rfl
   generalize Zqm j ⟨#[]⟩=L at *
   have hL9:L.length≤4096:=om
   have hL0:0 < L.length:=om
   clear hlen hp hpos
   obtain ⟨g,cap,rfl,hg0,hg1⟩:=HO.out.form hL0
   have hzr:=hbr.size
   have hjI:(j:Int) < (n:Int):=om
   go_wp2_with fail
   obtain ⟨hgk,hgke⟩:∃x:Nat,x=gk:=⟨gk,rfl⟩
   have hj5:hgk+j=n:=om
   have HGK:=hid hgke
   clear hgke
   go_loopg [5,6] L.length (fun gq t5' t6' wq=>∃(k:Nat) (u:Value),u=t5'∧gq+k=L.length∧t6'=.int .i64 k∧Below wo.heap.size wo wq∧Hid (wq.ownsRow wo.heap.size 9 1 u (2*k) ((ZwY (L.take k)).map Value.string)))
   case atStart=>exact ⟨0,_,rfl,om,rfl,Below.refl _ _,hid (World.ownsRow_nil _ _ _ _)⟩
   case round=>
    obtain ⟨k,u,rfl,hk,rfl,hbq,HU⟩:=hrel
    have hzq:=hbq.size
    by_cases hkl:k < L.length
    ·have HTK:=hid (Zw2 hkl)
     have c0:wr.cell? ⟨g,k,none⟩=some (.string L[k]):=(hbq.cell (p:=⟨g,k,none⟩) hg1).trans (by rw [HO.out.cellAt k om,List.getElem?_map,List.getElem?_eq_getElem hkl];rfl)
     have hsz:=HSZ.out _ (List.getElem_mem hkl)
     generalize L[k]=s at *
     have hkI:(k:Int) < (L.length:Int):=om
     have hk0:(0:Int)≤(k:Int):=om
     have hcat0:s++⟨#[48]⟩=W3 s 48:=rfl
     have hcat1:s++⟨#[49]⟩=W3 s 49:=rfl
     have hss0:¬9223372036854775807 < s.size+(⟨#[48]⟩:ByteArray).size:=by have h0:(⟨#[48]⟩:ByteArray).size=1:=rfl;omega
     have hss1:¬9223372036854775807 < s.size+(⟨#[49]⟩:ByteArray).size:=by have h0:(⟨#[49]⟩:ByteArray).size=1:=rfl;omega
     have hss:¬9223372036854775807 < s.size+1:=om
     have HLO:=hid (show ∀b,u.ownBlock=some b→wo.heap.size≤b from fun b hb=>(HU.out.lt _ hb).1)
     go_wp2_with fail
     go_region_law ((refine step_append_lies _ (by rfl) _ _ 94 (by rfl) wo.heap.size 9 i0 _ 1 16 underlying94 hi0 y0 y1 y2 rfl (by decide) _ (2*k) _ (by rfl) (HU.out.drew.alloc _) ⟨wr.heap.size,0,none⟩ 2 2 [.string (W3 s 48),.string (W3 s 49)] (by rfl) (by rfl) (Zw0 sm _ _ _) (by simp [Value.oneCell']) (by decide) (by unfold maxLen;omega) om (by simp;omega) (wr.heap.size+1) sm ?_;intro g4 cap4 w4 hown hgrow hat hlt1;have hbw4:Below wo.heap.size wr w4:=Below.grown (((Below.refl _ _).drew).alloc (by simp;omega) _) hgrow (by simp;omega) HLO.out;have HOWN:=hid hown;clear hown hgrow hat))
     all_goals
      go_wp2_with fail
      go_roundg (gk - 1)
      case measure=>omega
      case rel=>exact ⟨k+1,_,rfl,om,by go_num,hbq.trans hbw4,hid (by rw [HTK.out];exact HOWN.out)⟩
    obtain rfl:k=L.length:=om
    have hN:(ZwY L).length=2*L.length:=by have:=HU.out.1;rw [List.take_length,List.length_map] at this;omega
    go_wp2_with fail
    go_roundg (hgk - 1)
    case measure=>have:=HGK.out;omega
    case rel=>exact ⟨j+1,_,rfl,om,by go_num,hbr.trans (hbq.mono om),hid (by rw [HNX.out,hN];have:=HU.out;rw [List.take_length] at this;exact ZxO this om)⟩
  obtain rfl:j=n:=om
  go_wp2_with fail
  go_ret
  exact ⟨hbr,_,rfl,HO.out⟩
set_option maxRecDepth 512
def SR (w:World) (g:Nat) (L:List ByteArray):Prop:=∀j (h:j < L.length),w.cell? ⟨g,j,none⟩=some (.string L[j])
theorem SR.ext {w w':World} {g:Nat} {L:List ByteArray} (h:SR w g L) (ha:Agree (fun b=>b=g) w w'):SR w' g L:=fun j hj=>(ha _ _ rfl (h j hj)).1
theorem Zx9 {w:World} {B N:Nat} {x:GV} {a:Option Addr} (h:RV w (fun b=>B≤b∧b < w.heap.size) x a) (hN:N≤B) (o:Obj):RV (w.alloc o) (fun b=>N≤b) x a:=
 Zt9 (fun _ k _=>Nat.le_trans hN k.1) _ _ (Zt5 (ZtY ((Below.refl _ _).alloc (Nat.le_refl _) _)) _ _ h)
theorem Zya {w:World} {B N:Nat} {x:GV} {a:Option Addr} (h:RV w (fun b=>B≤b∧b < w.heap.size) x a) (hN:N < B) (v0 v1 v2 v3 v4:Value):RV (((((w.setCell ⟨N,0,none⟩ v0).setCell ⟨N,1,none⟩ v1).setCell ⟨N,2,none⟩ v2).setCell ⟨N,3,none⟩ v3).setCell ⟨N,4,none⟩ v4) (fun b=>N≤b) x a:=by
 have hne:¬(fun b=>B≤b∧b < w.heap.size) N:=fun k=>by have:=k.1;omega
 exact Zt9 (fun _ k _=>Nat.le_trans (Nat.le_of_lt hN) k.1) _ _ (Zt5 (Zt4 (p:=⟨N,4,none⟩) hne) _ _ (Zt5 (Zt4 (p:=⟨N,3,none⟩) hne) _ _ (Zt5 (Zt4 (p:=⟨N,2,none⟩) hne) _ _ (Zt5 (Zt4 (p:=⟨N,1,none⟩) hne) _ _ (Zt5 (Zt4 (p:=⟨N,0,none⟩) hne) _ _ h)))))
mutual
theorem Zd0:∀(p:GP) (pl d:Int),(XF pl d p).2=0→Zm p≤2*Xg p
 | ⟨k,v,n,l⟩,pl,d,h=>by
  simp only [XF] at h
  split at h
  ·simp at h
  split at h
  ·rename_i h1;exact absurd h h1
  rename_i h1
  have hl:=Zcy l _ _ h
  have h2:XC ⟨k,v,n,l⟩=0:=by simpa using h1
  simp only [Zm,Xg]
  unfold XC at h2
  split at h2
  ·simp at h2
  split at h2
  ·rename_i h3
   rw [if_pos h3];omega
  rename_i h3
  split at h2
  ·rename_i h4
   have h5:Zg v=1:=by
    obtain ⟨vk,vn,vl⟩:=v
    simp [Xw] at h4
    obtain ⟨-,h6⟩:=h4
    simp [h6,Zg,Zi]
   rw [if_neg h3];omega
  simp at h2
theorem Zcy:∀(l:List GP) (pl d:Int),(Yj pl d l).2=0→ZY l≤2*YR l
 | [],_,_,_=>by simp [ZY]
 | x::l,pl,d,h=>by
  simp only [Yj] at h
  split at h
  ·rename_i h1;exact absurd h h1
  rename_i h1
  have hx:=Zd0 x pl d (by simpa using h1)
  have hl:=Zcy l _ _ h
  simp only [ZY,YR];omega
end
theorem ZgT {p:GP} (h:Xo p=true):Zm p≤1024:=by
 unfold Xo Zw at h
 split at h
 ·rename_i h1;exact absurd (by simpa using h) h1
 rename_i h1
 split at h
 ·simp at h
 have:=Zd0 p 0 1 (by simpa using h1);omega
theorem Vg (p:GP) (v:GV) (b:Bool) (hb:Zh p v=b) (A A2:Nat→Prop) (mp:PA) (m:VA) (w:World) (ox:okP p) (hs:Zm p≤1099511627776) (hr:RP w A p mp) (ov:okV v) (hv2:RV w A2 v m.a) (hmay:Xo p=true):
  Calls prog 195 #[PV p mp,VV v m] w fun e w'=>e=.returned (.bool b)∧Below w.heap.size w w':=by
 subst hb
 exact Zdn p v w A A2 mp m ox hs hr ov hv2 hmay
structure F22 (c b o:Nat) (t:GT) (mg mi:Option Addr) (mh mj mk':Nat) (B:Nat) (W:World):Prop where
 p0:W.cell? ⟨B,8,none⟩=some (.int .u8 t.p.k)
 p1:W.cell? ⟨B,9,none⟩=some (.int .u8 t.p.v.k)
 p2:W.cell? ⟨B,10,none⟩=some (.int .i64 t.p.v.n)
 p3:W.cell? ⟨B,11,none⟩=some (.slice mg t.p.v.l.length mh)
 p4:W.cell? ⟨B,12,none⟩=some (.int .i64 t.p.n)
 p5:W.cell? ⟨B,13,none⟩=some (.slice mi t.p.a.length mj)
 p6:W.cell? ⟨B,14,none⟩=some (.slice (some ⟨b,o,none⟩) t.a.length mk')
 z:ZRes W (B+1)
theorem F22.but {c b o:Nat} {t:GT} {mg mi:Option Addr} {mh mj mk' B N:Nat} {w w':World} (h:F22 c b o t mg mi mh mj mk' B w) (hb:But c N w w') (h1:B+1 < N) (h2:c < B):F22 c b o t mg mi mh mj mk' B w':=by
 obtain ⟨a1,a2,a3,a4,a5,a6,a7,a8⟩:=h
 have k0:B < N:=om
 have n0:B≠c:=om
 exact ⟨(hb.cell k0 n0).trans a1,(hb.cell k0 n0).trans a2,(hb.cell k0 n0).trans a3,(hb.cell k0 n0).trans a4,(hb.cell k0 n0).trans a5,(hb.cell k0 n0).trans a6,(hb.cell k0 n0).trans a7,a8.but hb h1 om⟩
set_option maxRecDepth 100000
set_option maxHeartbeats 8000000
theorem Zk4 (c:Nat) (s:ByteArray) (f:Nat) (ih:WT c s f) (t:GT) (i:Nat) (w:World) (m:TA) (hk:t.k=9) (hn:ZG t=0) (hx:∀x∈t.a,Zp false x∧okT x∧∃k n,wkT f x [] k n≠none) (ox:okT t) (hi:i≤s.size) (hc:Cur w c s i false) (hl:RT w (fun b=>b≠c) t m):
  Calls prog 117 #[.pointer (some ⟨c,0,none⟩),TV t m] w (WL c s (Zd s (f+1) t [] i) w):=by
 rw [ZaV s f t [] i hk]
 obtain ⟨ma,mb,mc,md,me,mf,mg,mh,mi,mj,mk,ml⟩:=m
 obtain ⟨hal,hmay⟩:=Zap hn hk
 have h0l:0 < t.a.length:=om
 have halI:(0:Int) < (t.a.length:Int):=om
 have hG:(fun j=>atD (fun x=>Zd s f x []) t.a 0 j)=fun j=>Zd s f t.a[0] [] j:=by
  funext j;unfold atD;rw [List.getElem?_eq_getElem h0l]
 rw [hG]
 have hm0:=List.getElem_mem h0l
 have hsp:Zm t.p≤1099511627776:=by have:=ZgT hmay;omega
 obtain ⟨-, -, -, -, -, -,op, -, -⟩:=Ze.1 ox
 obtain ⟨hgx,hox,hwx⟩:=hx _ hm0
 have IH:=hid ih
 have HX:=hid (And.intro hgx (And.intro hox hwx))
 have HIN:=hid (fun q hq=>WJ s (Zb t.a[0]) f t.a[0] [] q hgx hox (Nat.le_refl _) trivial hq)
 have HMAY:=hid hmay
 have OP:=hid op
 have H4:=hid (Zo.1 hl).2.2.2.1
 have HC:=hid hc
 have hcs:c < w.heap.size:=World.block_lt_of_cell? _ _ hc.1.1
 obtain ⟨b,o,mj',hja,hA,hbs,g0,gx⟩:=(Zo.1 hl).2.2.2.2.get 0 h0l
 dsimp only at hja
 subst hja
 have G0:=hid (show At w b o _ by simpa using g0)
 have GX:=hid gx
 have hbc:b≠c:=hA
 have hk1:(t.k==1)=false:=by simp [hk]
 have hk2:(t.k==2)=false:=by simp [hk]
 have hk3:(t.k==3)=false:=by simp [hk]
 have hk4:(t.k==4)=false:=by simp [hk]
 have hk5:(t.k==5)=false:=by simp [hk]
 have hk6:(t.k==6)=false:=by simp [hk]
 have hk7:(t.k==7)=false:=by simp [hk]
 have hk8:(t.k==8)=false:=by simp [hk]
 have hk9:(t.k==9)=true:=by simp [hk]
 generalize hR0:WD (fun j=>Zd s f t.a[0] [] j) t.p (s.size+1 - i) i=R at *
 have HR0:=hid hR0
 clear hx ox hl hc hn ih hG hm0 hgx hox hwx g0 gx hal hmay hR0 op hk
 go_enter func117,ntmps117
 go_wp2_with fail
 go_loopg [] (s.size - i) (fun gk wr=>∃(p fu:Nat),gk+p=s.size∧But c w.heap.size w wr∧w.heap.size+1 < wr.heap.size∧s.size+1≤fu+p∧Hid (F22 c b o t mg mi mh mj ml w.heap.size wr)∧Hid (Cur wr c s p false)∧Hid (WD (fun j=>Zd s f t.a[0] [] j) t.p fu p=R))
 case atStart=>exact ⟨i,s.size+1 - i,om,ZxG,sm,om,hid ⟨gs,gs,gs,gs,gs,gs,gs,⟨gs,gs,gs⟩,gs,gs,gs⟩,hid (Zt3 (B:=w.heap.size) ZtZ hcs HC.out),HR0⟩
 case round=>
  obtain ⟨p,fu,hp,hbt,hz,hfu,HF,HCU,HP⟩:=hrel
  have hpi:p≤s.size:=om
  obtain ⟨fu',rfl⟩:∃fu',fu=fu'+1:=⟨fu - 1,om⟩
  have hst:=HP.out
  rw [Zae] at hst
  have hinj:=HIN.out p hpi
  have hcr:c < wr.heap.size:=om
  have hbr:b < wr.heap.size:=om
  obtain ⟨p0,p1,p2,p3,p4,p5,p6, -⟩:=HF.out
  obtain ⟨⟨e0,e1,e2⟩,e3,e4,e5⟩:=HCU.out
  obtain ⟨z0,z1,z2,z3,z4,z5,z6,z7,z8,z9,za,zb,zc,zd,ze⟩:=Yp.1 (Zuf (Zt0 hbt) hA _ _ G0.out)
  have y0:w.heap.size < wr.heap.size:=om
  have y2:¬w.heap.size+1=c:=om
  have y3:¬w.heap.size=c:=om
  rcases hW:Zd s f t.a[0] [] p with ⟨v,q⟩|⟨k⟩
  ·rw [hW] at hst hinj
   obtain ⟨hpq,hqs,hokv⟩:=hinj
   have OKV:=hid hokv
   have HW:=hid hW
   dsimp only at hst
   clear hW hokv
   cases hHv:Zh t.p v
   ·have HH:=hid hHv
    rw [hHv,if_neg sm] at hst
    clear hHv
    by_cases hqp:q=p
    ·rw [if_pos hqp] at hst
     have hqp':((q:Int)==(p:Int))=true:=beq_iff_eq.2 om
     clear hqp
     have HST:=hid hst
     clear hst
     go_wp2_with (first
      | (go_at_call 117;refine (IH.out t.a[0] p _ mj' HX.out.1 HX.out.2.1 hpi HX.out.2.2 (by exact HCU.out) (by exact Zt2 (Zt0 ZxG) _ _ GX.out)).mono ?_;rw [HW.out];rintro e w2 ⟨hb2,⟨m2,rfl,hrv⟩,hc2⟩;have HRV:=hid hrv;have HC2:=hid hc2;clear hrv hc2;have hz2:=hb2.size;have y1:w.heap.size+1 < w2.heap.size:=om;have y7:w.heap.size < w2.heap.size:=om;obtain ⟨p0',p1',p2',p3',p4',p5',p6',⟨q0,q1,q2⟩,f0,f1,f2⟩:=HF.out.but hb2 hz hcs;obtain ⟨⟨d0,d1,d2⟩,d3,d4,d5⟩:=HC2.out;have hc2s:c < w2.heap.size:=om)
      | (go_at_call 195;refine (Vg t.p v false HH.out (fun b=>b≠c) (fun b=>wr.heap.size≤b) ⟨mg,mh,mi,mj⟩ m2 _ OP.out hsp (by exact Zub (Zt0 (show But c w.heap.size w _ from ZxG)) _ _ H4.out) OKV.out (by exact Zt5 (ZtY (show Below w2.heap.size w2 _ from ZtZ)) _ _ HRV.out) HMAY.out).mono ?_;rintro e3 w4 ⟨rfl,hb4⟩;have hz4:=hb4.size;(try simp at hz4);have hb24:Below w2.heap.size w2 w4:=ZtZ;have HC4:=hid (Zt3 hb24 hc2s HC2.out);obtain ⟨⟨j0,j1,j2⟩,j3,j4,j5⟩:=HC4.out;obtain ⟨hc4,hf4⟩:=Za hb4;have y4:w.heap.size+1 < w4.heap.size:=om))
     refine bodyPost_ret (v:=(.tuple #[VV ⟨0,0,[]⟩ ⟨none,0⟩,.int .u8 3])) (by first|(simp [results,Tryz.f117,go_sem];done)|(simp [results,Tryz.f117,go_sem, *];done)) rfl ?_
     rw [←HST.out]
     exact ⟨ZxG,rfl,om,om⟩
    have hqp2:p < q:=om
    rw [if_neg hqp] at hst
    have hqp':((q:Int)==(p:Int))=false:=beq_eq_false_iff_ne.2 om
    have HST:=hid hst
    clear hst hqp
    go_wp2_with (first
     | (go_at_call 117;refine (IH.out t.a[0] p _ mj' HX.out.1 HX.out.2.1 hpi HX.out.2.2 (by exact HCU.out) (by exact Zt2 (Zt0 ZxG) _ _ GX.out)).mono ?_;rw [HW.out];rintro e w2 ⟨hb2,⟨m2,rfl,hrv⟩,hc2⟩;have HRV:=hid hrv;have HC2:=hid hc2;clear hrv hc2;have hz2:=hb2.size;have y1:w.heap.size+1 < w2.heap.size:=om;have y7:w.heap.size < w2.heap.size:=om;obtain ⟨p0',p1',p2',p3',p4',p5',p6',⟨q0,q1,q2⟩,f0,f1,f2⟩:=HF.out.but hb2 hz hcs;obtain ⟨⟨d0,d1,d2⟩,d3,d4,d5⟩:=HC2.out;have hc2s:c < w2.heap.size:=om)
     | (go_at_call 195;refine (Vg t.p v false HH.out (fun b=>b≠c) (fun b=>wr.heap.size≤b) ⟨mg,mh,mi,mj⟩ m2 _ OP.out hsp (by exact Zub (Zt0 (show But c w.heap.size w _ from ZxG)) _ _ H4.out) OKV.out (by exact Zt5 (ZtY (show Below w2.heap.size w2 _ from ZtZ)) _ _ HRV.out) HMAY.out).mono ?_;rintro e3 w4 ⟨rfl,hb4⟩;have hz4:=hb4.size;(try simp at hz4);have hb24:Below w2.heap.size w2 w4:=ZtZ;have HC4:=hid (Zt3 hb24 hc2s HC2.out);obtain ⟨⟨j0,j1,j2⟩,j3,j4,j5⟩:=HC4.out;obtain ⟨hc4,hf4⟩:=Za hb4;have y4:w.heap.size+1 < w4.heap.size:=om))
    have hbw4:But c w.heap.size w w4:=ZxG
    have hbq4:But c wr.heap.size wr w4:=ZxG
    go_roundg (s.size - q)
    case measure=>omega
    case rel=>exact ⟨q,fu',om,hbw4,om,om,hid (HF.out.but hbq4 om hcs),HC4,HST⟩
   have HH:=hid hHv
   rw [hHv,if_pos rfl] at hst
   have HST:=hid hst
   clear hst hHv
   go_wp2_with (first
    | (go_at_call 117;refine (IH.out t.a[0] p _ mj' HX.out.1 HX.out.2.1 hpi HX.out.2.2 (by exact HCU.out) (by exact Zt2 (Zt0 ZxG) _ _ GX.out)).mono ?_;rw [HW.out];rintro e w2 ⟨hb2,⟨m2,rfl,hrv⟩,hc2⟩;have HRV:=hid hrv;have HC2:=hid hc2;clear hrv hc2;have hz2:=hb2.size;have y1:w.heap.size+1 < w2.heap.size:=om;have y7:w.heap.size < w2.heap.size:=om;obtain ⟨p0',p1',p2',p3',p4',p5',p6',⟨q0,q1,q2⟩,f0,f1,f2⟩:=HF.out.but hb2 hz hcs;obtain ⟨⟨d0,d1,d2⟩,d3,d4,d5⟩:=HC2.out;have hc2s:c < w2.heap.size:=om)
    | (go_at_call 195;refine (Vg t.p v true HH.out (fun b=>b≠c) (fun b=>wr.heap.size≤b) ⟨mg,mh,mi,mj⟩ m2 _ OP.out hsp (by exact Zub (Zt0 (show But c w.heap.size w _ from ZxG)) _ _ H4.out) OKV.out (by exact Zt5 (ZtY (show Below w2.heap.size w2 _ from ZtZ)) _ _ HRV.out) HMAY.out).mono ?_;rintro e3 w4 ⟨rfl,hb4⟩;have hz4:=hb4.size;(try simp at hz4);have hb24:Below w2.heap.size w2 w4:=ZtZ;have HC4:=hid (Zt3 hb24 hc2s HC2.out);obtain ⟨⟨j0,j1,j2⟩,j3,j4,j5⟩:=HC4.out;obtain ⟨hc4,hf4⟩:=Za hb4;have y4:w.heap.size+1 < w4.heap.size:=om))
   refine bodyPost_ret (v:=(.tuple #[VV v m2,.int .u8 1])) (by first|(simp [results,Tryz.f117,go_sem];done)|(simp [results,Tryz.f117,go_sem, *];done)) rfl ?_
   rw [←HST.out]
   exact ⟨ZxG,⟨m2,rfl,Zt9 (fun b hb _=>om) _ _ (Zt5 ((ZtY hb24).trans (((Zt4 so).trans (Zt4 so)).trans (Zt4 so))) _ _ HRV.out)⟩,Zt3 (B:=w.heap.size+1) ZtZ om HC4.out⟩
  rw [hW] at hst
  have HW:=hid hW
  dsimp only at hst
  have HST:=hid hst
  clear hW hst hinj
  go_wp2_with (go_at_call 117;refine (IH.out t.a[0] p _ mj' HX.out.1 HX.out.2.1 hpi HX.out.2.2 (by exact HCU.out) (by exact Zt2 (Zt0 ZxG) _ _ GX.out)).mono ?_;rw [HW.out];rintro e w2 ⟨hb2,rfl,hk8,hk9⟩;have hz2:=hb2.size;have y1:w.heap.size+1 < w2.heap.size:=om;have y7:w.heap.size < w2.heap.size:=om;have hkb:(((k:Int)) != 1)=true:=(by simp;omega);obtain ⟨⟨q0,q1,q2⟩,f0,f1,f2⟩:=(HF.out.but hb2 hz hcs).z)
  refine bodyPost_ret (v:=(.tuple #[VV ⟨0,0,[]⟩ ⟨none,0⟩,.int .u8 k])) (by first|(simp [results,Tryz.f117,go_sem];done)|(simp [results,Tryz.f117,go_sem, *];done)) rfl ?_
  rw [←HST.out]
  exact ⟨ZxG,rfl,hk8,hk9⟩
theorem ZkZ (c:Nat) (s:ByteArray) (f:Nat) (t:GT) (i:Nat) (w:World) (m:TA) (hb:Zc s=true) (hk:t.k=4) (hn:ZG t=0) (ox:okT t) (hi:i≤s.size) (hc:Cur w c s i false) (hl:RT w (fun b=>b≠c) t m):
  Calls prog 117 #[.pointer (some ⟨c,0,none⟩),TV t m] w (WL c s (Zd s (f+1) t [] i) w):=by
 rw [ZaQ s f t [] i hk]
 obtain ⟨ma,mb,mc,md,me,mf,mg,mh,mi,mj,mk,ml⟩:=m
 obtain ⟨hlen,hfe, -⟩:=Kv hn hk
 obtain ⟨-, -,⟨-,ovs⟩, -, -,⟨-,ow⟩, -, -, -⟩:=Ze.1 ox
 have HVS:=hid (Zo.1 hl).2.1
 have HW:=hid (Zo.1 hl).2.2.1
 have HC:=hid hc
 have HB:=hid hb
 have HFE:=hid hfe
 have OW:=hid ow
 have OVS:=hid ovs
 have hcs:c < w.heap.size:=World.block_lt_of_cell? _ _ hc.1.1
 have hal:=JJ s t.w i hi
 have hk1:(t.k==1)=false:=by simp [hk]
 have hk2:(t.k==2)=false:=by simp [hk]
 have hk3:(t.k==3)=false:=by simp [hk]
 have hk4:(t.k==4)=true:=by simp [hk]
 clear hc hk hl hn hb hfe ox ow ovs
 rcases hN:Ys s t.w i with ⟨_|k,j⟩
 ·have HN:=hid hN
  clear hN hal
  show Calls _ _ _ _ (WL c s (.no 2) w)
  go_enter func117,ntmps117
  go_wp2_with (first
   | (go_at_call 188;(with_reducible refine (ZbK t.w _ (fun b=>b≠c) me mf HFE.out OW.out (by exact Zuc ar _ _ HW.out)).mono ?_);rintro e w1 ⟨hb1,tb,gc,go,cc,co,htb,rfl,h11,hrc,hro⟩;have H11:=hid h11;have HRC:=hid (ZxH (A':=fun b=>b≠c) (fun b hb _=>(by (try simp at hb);omega)) _ _ hrc);have HRO:=hid (ZxH (A':=fun b=>b≠c) (fun b hb _=>(by (try simp at hb);omega)) _ _ hro);clear h11 hrc hro;(try simp at htb);have hz1:=hb1.size;(try simp at hz1);obtain ⟨hc1,hf1⟩:=Za hb1;have y0:w.heap.size < w1.heap.size:=om;have y1:w.heap.size+1 < w1.heap.size:=om;have htc:tb≠c:=om)
   | (go_at_call 189;(with_reducible refine (Zau t.w s i tb c gc go cc co _ HB.out hi HFE.out htc H11.out HRC.out HRO.out (by exact Zt3 (B:=w.heap.size) ZtZ hcs HC.out)).mono ?_);rw [HN.out];rintro e w2 ⟨hb2,rfl,hc2⟩;clear hc2;have hz2:=hb2.size;(try simp at hz2);obtain ⟨hc2,hf2⟩:=ZE hb2;have y4:w.heap.size+1 < w2.heap.size:=om;have y2:¬w.heap.size+1=c:=om;have y3:¬w.heap.size=c:=om))
  refine bodyPost_ret (v:=(.tuple #[VV ⟨0,0,[]⟩ ⟨none,0⟩,.int .u8 2])) (by first|(simp [results,Tryz.f117,go_sem];done)|(simp [results,Tryz.f117,go_sem, *];done)) rfl ?_
  exact ⟨ZxG,rfl,om,om⟩
 have HN:=hid hN
 rw [hN] at hal
 have hkl:k < t.vs.length:=by have:=hal.2.2 k rfl;omega
 obtain ⟨b,o,mq,rfl,hA,hbs,g0,gx⟩:=HVS.out.get k hkl
 obtain ⟨z0,z1,z2⟩:=At3.1 g0
 have hkI:(k:Int) < (t.vs.length:Int):=om
 have hbc:¬b=c:=hA
 have e0:((Y2 (some k,j)).bind fun k j=>atD (fun v j=>Res.ok v j) t.vs k j)=.ok t.vs[k] j:=by
  simp only [Y2,Res.bind,atD,List.getElem?_eq_getElem hkl]
 rw [e0]
 clear hN hal e0 g0 hA
 go_enter func117,ntmps117
 go_wp2_with (first
  | (go_at_call 188;(with_reducible refine (ZbK t.w _ (fun b=>b≠c) me mf HFE.out OW.out (by exact Zuc ar _ _ HW.out)).mono ?_);rintro e w1 ⟨hb1,tb,gc,go,cc,co,htb,rfl,h11,hrc,hro⟩;have H11:=hid h11;have HRC:=hid (ZxH (A':=fun b=>b≠c) (fun b hb _=>(by (try simp at hb);omega)) _ _ hrc);have HRO:=hid (ZxH (A':=fun b=>b≠c) (fun b hb _=>(by (try simp at hb);omega)) _ _ hro);clear h11 hrc hro;(try simp at htb);have hz1:=hb1.size;(try simp at hz1);obtain ⟨hc1,hf1⟩:=Za hb1;have y0:w.heap.size < w1.heap.size:=om;have y1:w.heap.size+1 < w1.heap.size:=om;have htc:tb≠c:=om;have y8:b < w.heap.size+1+1:=om)
  | (go_at_call 189;(with_reducible refine (Zau t.w s i tb c gc go cc co _ HB.out hi HFE.out htc H11.out HRC.out HRO.out (by exact Zt3 (B:=w.heap.size) ZtZ hcs HC.out)).mono ?_);rw [HN.out];rintro e w2 ⟨hb2,rfl,hc2⟩;have HC2:=hid hc2;clear hc2;have hz2:=hb2.size;(try simp at hz2);obtain ⟨hc2,hf2⟩:=ZE hb2;have y4:w.heap.size+1 < w2.heap.size:=om;have y2:¬w.heap.size+1=c:=om;have y3:¬w.heap.size=c:=om;have y9:b < w1.heap.size:=om)
  | (go_at_call 185;refine (Kj _ t.vs[k] _ (fun b=>b≠c) mq (Nat.le_refl _) (OVS.out.get k hkl) (by exact Zt5 (Zt0 ZxG) _ _ gx)).mono ?_;rintro e w3 ⟨hb3,m3,rfl,hrv⟩;have HRV:=hid hrv;clear hrv;obtain ⟨hc3,hf3⟩:=Za hb3;have hz3:=hb3.size;(try simp at hz3);have y5:w.heap.size+1 < w3.heap.size:=om))
 refine bodyPost_ret (v:=(.tuple #[VV t.vs[k] m3,.int .u8 1])) (by first|(simp [results,Tryz.f117,go_sem];done)|(simp [results,Tryz.f117,go_sem, *];done)) rfl ?_
 exact ⟨ZxG,⟨m3,rfl,Zt9 (fun b hb _=>by (try simp at hb);omega) _ _ (Zt5 (((Zt4 so).trans (Zt4 so)).trans (Zt4 so)) _ _ HRV.out)⟩,Zt3 (B:=w.heap.size+1) ZtZ om HC2.out⟩
set_option maxRecDepth 512
theorem ZdD (c:Nat) (s:ByteArray) (hb:Zc s=true):∀f,WT c s f:=by
 intro f
 induction f with
 | zero=>
  intro t i w m hg ox hi hwk
  obtain ⟨k,n,hw⟩:=hwk
  exact absurd rfl hw
 | succ f ih=>
  intro t i w m hg ox hi hwk hc hl
  have hn:=(Zk.1 hg).1
  have hk:=(Y9 hn).1
  have hx:(¬t.k=1∧¬t.k=11∧¬t.k=10∧¬t.k=2∧¬t.k=4)→∀x∈t.a,Zp false x∧okT x∧∃k n,wkT f x [] k n≠none:=fun h x hx=>⟨YG hg h.2.2.1 hx,Jl ox hx,ZaX h hwk x hx⟩
  rcases (by omega:t.k=1∨t.k=2∨t.k=3∨t.k=4∨t.k=5∨t.k=6∨t.k=7∨t.k=8∨t.k=9∨t.k=10∨t.k=11) with h|h|h|h|h|h|h|h|h|h|h
  ·exact ZkW c s f t i w m h ox hc hl
  ·exact ZkX c s f t i w m hb h hn hi hc
  ·exact ZkY c s f ih t i w m hb h hn (hx om) hi hc hl
  ·exact ZkZ c s f t i w m hb h hn ox hi hc hl
  ·exact Zk0 c s f ih t i w m h hn (hx om) hi hc hl
  ·exact Zk1 c s f ih t i w m hb h hn (hx om) hi hc hl
  ·exact Zk2 c s f ih t i w m hb h hn (hx om) hi hc hl
  ·exact Zk3 c s f ih t i w m hb h hn (hx om) hi hc hl
  ·exact Zk4 c s f ih t i w m h hn (hx om) ox hi hc hl
  ·exact Zkw c s f ih t i w m h hg ox hwk hi hc hl
  obtain ⟨k,n,hw⟩:=hwk
  exact absurd (by simp [wkT,h]) hw
def Zj0 (c:Nat) (r:Res GV) (w:World):Ending→World→Prop:=fun e w'=>But c w.heap.size w w' ∧
 match r with
 | .ok v j=>∃m,e=.returned (.tuple #[OV 1 v m j,.int .i64 0])∧RV w' (fun b=>w.heap.size≤b) v m.a
 | .no k=>e=.returned (.tuple #[OV k Y8 ⟨none,0⟩ 0,.int .i64 0])
set_option maxRecDepth 100000
theorem Zaz (c:Nat) (s:ByteArray) (t:GT) (w:World) (x:TA) (hb:Zc s=true) (h0:s.size≤1048576) (hE:(Z3 t).2=0) (ox:okT t) (hs:Zb t≤1048576) (hj:(Zd s 4098 t [] 0).In okV 0 s.size)
  (hc:Cur w c s 0 false) (hr:RT w (fun b=>b≠c) t x):
  Calls prog 78 #[TV t x,.pointer (some ⟨c,0,none⟩)] w (Zj0 c (Zd s 4098 t [] 0) w):=by
 obtain ⟨ma,mb,mc,md,me,mf,mg,mh,mi,mj,mk,ml⟩:=x
 obtain ⟨hg,hwk⟩:=J9 hE
 have hcs:c < w.heap.size:=World.block_lt_of_cell? _ _ hc.1.1
 have HR:=hid hr
 have HC:=hid hc
 have HE:=hid hE
 have OX:=hid ox
 have HX:=hid (fun (W:World) (m:TA) (h1:Cur W c s 0 false) (h2:RT W (fun b=>b≠c) t m)=>ZdD c s hb 4098 t 0 W m hg ox (Nat.zero_le _) hwk h1 h2)
 clear hc hr hb hE ox hg hwk
 rcases hN:Zd s 4098 t [] 0 with ⟨v,j⟩|⟨k⟩
 ·rw [hN] at hj
  obtain ⟨_,hjs,_⟩:=hj
  have hjw:IntKind.i64.wrap (j:Int)=(j:Int):=IntWalk.i64_in _ om
  have hjv:IntKind.i64.wrap ((j:Int) - 0)=(j:Int):=by rw [Int.sub_zero];exact hjw
  have HN:=hid hN
  clear hN
  go_enter func78,ntmps78
  go_wp2_with (first
   | (go_at_call 116;(refine (Jt t _ (fun b=>b≠c) ⟨ma,mb,mc,md,me,mf,mg,mh,mi,mj,mk,ml⟩ OX.out hs (by exact Zt2 ar _ _ HR.out) HE.out).mono ?_;rintro e w1 ⟨rfl,hb1⟩);(obtain ⟨hc1,hf1⟩:=Za hb1);(have hz1:=hb1.size;(try simp at hz1);have y0:w.heap.size < w1.heap.size:=om;have y1:w.heap.size+1 < w1.heap.size:=om;have hcs1:c < w1.heap.size:=om);(have HC1:=hid (show Cur w1 c s 0 false from Zt3 (B:=w.heap.size) ZtZ hcs HC.out));(have e1:w1.cell? ⟨c,1,none⟩=some (.int .i64 0):=(by simpa using HC1.out.1.2.1)))
   | (go_at_call 117;(refine (HX.out _ ⟨ma,mb,mc,md,me,mf,mg,mh,mi,mj,mk,ml⟩ (by exact HC1.out) (by exact Zt2 ar _ _ HR.out)).mono ?_);rw [HN.out];rintro e2 w2 ⟨hb2,⟨m2,rfl,hrv⟩,hc2⟩;have HRV:=hid hrv;have HC2:=hid hc2;clear hrv hc2;have hz2:=hb2.size;have d1:w2.cell? ⟨c,1,none⟩=some (.int .i64 j):=HC2.out.1.2.1;obtain ⟨hc2,hf2⟩:=ZE hb2;have y2:w.heap.size+1 < w2.heap.size:=om;have y3:¬w.heap.size+1=c:=om;have y4:c < w2.heap.size:=om))
  refine Z0 8 kr kr ?_
  simp only [List.take_succ_cons,List.take_zero,List.drop_succ_cons,List.drop_zero]
  repeat still_step
  refine wpStill_nil ?_
  go_wp2_with fail
  refine bodyPost_ret (v:=.tuple #[OV 1 v m2 j,.int .i64 0]) (by first|(simp [results,Tryz.f78,go_sem,OV];done)|(simp [results,Tryz.f78,go_sem,OV, *];done)) rfl ?_
  refine ⟨ZxG,m2,rfl,?_⟩
  exact Zt9 (fun b hb _=>om) _ _ (Zt5 (A:=fun b=>w1.heap.size≤b) (fun p v hA hc=>Zt0 (c:=w.heap.size+1) ZxG p v om hc) _ _ HRV.out)
 have HN:=hid hN
 clear hN hj
 go_enter func78,ntmps78
 go_wp2_with (first
  | (go_at_call 116;(refine (Jt t _ (fun b=>b≠c) ⟨ma,mb,mc,md,me,mf,mg,mh,mi,mj,mk,ml⟩ OX.out hs (by exact Zt2 ar _ _ HR.out) HE.out).mono ?_);rintro e w1 ⟨rfl,hb1⟩;obtain ⟨hc1,hf1⟩:=Za hb1;have hz1:=hb1.size;(try simp at hz1);have y0:w.heap.size < w1.heap.size:=om;have y1:w.heap.size+1 < w1.heap.size:=om;have hcs1:c < w1.heap.size:=om;have HC1:=hid (show Cur w1 c s 0 false from Zt3 (B:=w.heap.size) ZtZ hcs HC.out);have e1:w1.cell? ⟨c,1,none⟩=some (.int .i64 0):=(by simpa using HC1.out.1.2.1))
  | (go_at_call 117;(refine (HX.out _ ⟨ma,mb,mc,md,me,mf,mg,mh,mi,mj,mk,ml⟩ (by exact HC1.out) (by exact Zt2 ar _ _ HR.out)).mono ?_);rw [HN.out];rintro e2 w2 ⟨hb2,rfl,hk8,hk9⟩;have hz2:=hb2.size;obtain ⟨hc2,hf2⟩:=ZE hb2;have y2:w.heap.size+1 < w2.heap.size:=om;have y3:¬w.heap.size+1=c:=om;have hkb:(((k:Int)) != 1)=true:=(by simp;omega)))
 refine bodyPost_ret (v:=.tuple #[OV k Y8 ⟨none,0⟩ 0,.int .i64 0]) (by first|(simp [results,Tryz.f78,go_sem,OV,Y8];done)|(simp [results,Tryz.f78,go_sem,OV,Y8, *];done)) rfl ?_
 exact ⟨ZxG,rfl⟩
theorem KD (t:GT) (s:ByteArray) (w:World) (A:Nat→Prop) (m:TA) (ox:okT t) (hs:Zb t≤1048576) (hl:RT w A t m) (hss:s.size≤9223372036854775807):
  Calls prog 48 #[TV t m,.string s] w (RunR t s w):=by
 obtain ⟨ma,mb,mc,md,me,mf,mg,mh,mi,mj,mk,ml⟩:=m
 have HL:=hid hl
 have OX:=hid ox
 by_cases hE:(Z3 t).2=0
 case neg=>
  have hr:ZP t s=(Z3 t).2:=by unfold ZP;rw [if_pos hE]
  have HRE:=hid hr
  have hE':((Z3 t).2 != 0)=true:=by simp [hE]
  have HNE:=hid hE
  clear hl ox hr hE
  go_enter func48,ntmps48
  go_wp2_with (go_at_call 55;refine (WV t _ A ⟨ma,mb,mc,md,me,mf,mg,mh,mi,mj,mk,ml⟩ OX.out hs (by exact Zt2 ar _ _ HL.out)).mono ?_;rintro e w1 ⟨rfl,hb1⟩;obtain ⟨hc1,hf1⟩:=Za hb1;have hz1:=hb1.size;(try simp at hz1);have y1:w.heap.size+1 < w1.heap.size:=om)
  refine bodyPost_ret (v:=.tuple #[OV 0 Y8 ⟨none,0⟩ 0,.int .i64 (Z3 t).2]) (by first|(simp [results,Tryz.f48,go_sem,OV,Y8];done)|(simp [results,Tryz.f48,go_sem,OV,Y8, *];done)) rfl ?_
  exact RunR.err HRE.out HNE.out ZtZ
 have hE':((Z3 t).2 != 0)=false:=by simp [hE]
 cases hB:Zc s
 ·have hr:ZP t s=3:=by unfold ZP;rw [if_neg (by simp [hE]),hB];rfl
  have HRE:=hid hr
  have HB:=hid hB
  clear hl ox hr hE hB
  go_enter func48,ntmps48
  go_wp2_with (first
   | (go_at_call 55;refine (WV t _ A ⟨ma,mb,mc,md,me,mf,mg,mh,mi,mj,mk,ml⟩ OX.out hs (by exact Zt2 ar _ _ HL.out)).mono ?_;rintro e w1 ⟨rfl,hb1⟩;obtain ⟨hc1,hf1⟩:=Za hb1;have hz1:=hb1.size;(try simp at hz1);have y1:w.heap.size+1 < w1.heap.size:=om)
   | (go_at_call 77;refine (KB s _ hss).mono ?_;rintro e w2 ⟨hb2,⟨h1,_⟩|⟨_,rfl⟩⟩;exact absurd (HB.out.symm.trans h1) (by decide);obtain ⟨hc2,hf2⟩:=Za hb2;have hz2:=hb2.size;have y2:w.heap.size+1 < w2.heap.size:=om))
  refine bodyPost_ret (v:=.tuple #[OV 0 Y8 ⟨none,0⟩ 0,.int .i64 3]) (by first|(simp [results,Tryz.f48,go_sem,OV,Y8];done)|(simp [results,Tryz.f48,go_sem,OV,Y8, *];done)) rfl ?_
  exact RunR.err HRE.out (by decide) ZtZ
 have hr:ZP t s=0:=by unfold ZP;rw [if_neg (by simp [hE]),if_pos hB]
 have h1024:s.size≤1048576:=by
  have h2:=hB
  unfold Zc at h2
  rw [Bool.and_eq_true] at h2
  have:=of_decide_eq_true h2.1
  omega
 have hin:=Vy (t:=t) (s:=s) hr ox
 have HIN:=hid (show (Zd s 4098 t [] 0).In okV 0 s.size from hin)
 have HB:=hid hB
 have HRE:=hid hr
 have HE:=hid hE
 clear hl ox hr hE hB hin
 rcases hN:Zd s 4098 t [] 0 with ⟨v,j⟩|⟨k⟩
 all_goals have HN:=hid hN
 all_goals clear hN
 ·go_enter func48,ntmps48
  go_wp2_with (first
   | (go_at_call 55;refine (WV t _ A ⟨ma,mb,mc,md,me,mf,mg,mh,mi,mj,mk,ml⟩ OX.out hs (by exact Zt2 ar _ _ HL.out)).mono ?_;rintro e w1 ⟨rfl,hb1⟩;obtain ⟨hc1,hf1⟩:=Za hb1;have hz1:=hb1.size;(try simp at hz1);have y0:w.heap.size < w1.heap.size:=om;have y1:w.heap.size+1 < w1.heap.size:=om)
   | (go_at_call 77;refine (KB s _ hss).mono ?_;rintro e w2 ⟨hb2,⟨_,c,hcl,hcs,rfl,hcu⟩|⟨h1,_⟩⟩;rotate_left;exact absurd (HB.out.symm.trans h1) (by decide);obtain ⟨hc2,hf2⟩:=Za hb2;have HCU:=hid hcu;clear hcu;have hz2:=hb2.size;have y2:w.heap.size+1 < w2.heap.size:=om;have y3:¬w.heap.size+1=c:=om;have hbw2:Below w.heap.size w w2:=ZtZ;have HRT:=hid (Zud (A':=fun b=>b≠c) (fun b hb _=>om) _ _ (Zt2 (ZtY hbw2) _ _ (Zud (A':=fun b=>b < w.heap.size) (fun b _ h=>h) _ _ HL.out))))
   | (go_at_call 78;refine (Zaz c s t _ ⟨ma,mb,mc,md,me,mf,mg,mh,mi,mj,mk,ml⟩ HB.out h1024 HE.out OX.out hs HIN.out (by exact HCU.out) (by exact HRT.out)).mono ?_;rw [HN.out];rintro e w3 ⟨hb3,m,he,hrv⟩;have he2:e=.returned (.tuple #[.agg #[.int .u8 1,.int .u8 v.k,.int .i64 v.n,.slice m.a v.l.length m.c,.int .i64 j],.int .i64 0]):=he;subst he2;clear he;have HRV:=hid hrv;clear hrv;have hz3:=hb3.size;obtain ⟨hc3,hf3⟩:=ZE hb3;have y4:w.heap.size+1 < w3.heap.size:=om;have hbw3:Below w.heap.size w w3:=hbw2.trans ((hb3.mono (B':=w.heap.size) om).below om)))
  refine bodyPost_ret (v:=.tuple #[OV 1 v m j,.int .i64 0]) (by first|(simp [results,Tryz.f48,go_sem,OV];done)|(simp [results,Tryz.f48,go_sem,OV, *];done)) rfl ?_
  exact RunR.ok (m:=m) HRE.out HN.out ZtZ (Zt9 (fun b hb _=>om) _ _ (Zt5 (A:=fun b=>w2.heap.size≤b) (fun p v hA hc=>Zt0 (c:=w.heap.size+1) ZxG p v om hc) _ _ HRV.out))
 go_enter func48,ntmps48
 go_wp2_with (first
  | (go_at_call 55;refine (WV t _ A ⟨ma,mb,mc,md,me,mf,mg,mh,mi,mj,mk,ml⟩ OX.out hs (by exact Zt2 ar _ _ HL.out)).mono ?_;rintro e w1 ⟨rfl,hb1⟩;obtain ⟨hc1,hf1⟩:=Za hb1;have hz1:=hb1.size;(try simp at hz1);have y0:w.heap.size < w1.heap.size:=om;have y1:w.heap.size+1 < w1.heap.size:=om)
  | (go_at_call 77;refine (KB s _ hss).mono ?_;rintro e w2 ⟨hb2,⟨_,c,hcl,hcs,rfl,hcu⟩|⟨h1,_⟩⟩;rotate_left;exact absurd (HB.out.symm.trans h1) (by decide);obtain ⟨hc2,hf2⟩:=Za hb2;have HCU:=hid hcu;clear hcu;have hz2:=hb2.size;have y2:w.heap.size+1 < w2.heap.size:=om;have y3:¬w.heap.size+1=c:=om;have hbw2:Below w.heap.size w w2:=ZtZ;have HRT:=hid (Zud (A':=fun b=>b≠c) (fun b hb _=>om) _ _ (Zt2 (ZtY hbw2) _ _ (Zud (A':=fun b=>b < w.heap.size) (fun b _ h=>h) _ _ HL.out))))
  | (go_at_call 78;refine (Zaz c s t _ ⟨ma,mb,mc,md,me,mf,mg,mh,mi,mj,mk,ml⟩ HB.out h1024 HE.out OX.out hs HIN.out (by exact HCU.out) (by exact HRT.out)).mono ?_;rw [HN.out];rintro e w3 ⟨hb3,he⟩;have he2:e=.returned (.tuple #[.agg #[.int .u8 k,.int .u8 0,.int .i64 0,.slice none 0 0,.int .i64 0],.int .i64 0]):=he;subst he2;clear he;have hz3:=hb3.size;obtain ⟨hc3,hf3⟩:=ZE hb3;have y4:w.heap.size+1 < w3.heap.size:=om;have hbw3:Below w.heap.size w w3:=hbw2.trans ((hb3.mono (B':=w.heap.size) om).below om)))
 refine bodyPost_ret (v:=.tuple #[OV k Y8 ⟨none,0⟩ 0,.int .i64 0]) (by first|(simp [results,Tryz.f48,go_sem,OV,Y8];done)|(simp [results,Tryz.f48,go_sem,OV,Y8, *];done)) rfl ?_
 exact RunR.no HRE.out HN.out ZtZ
set_option maxRecDepth 512
theorem ZcJ (t:GT) (s:ByteArray) (w:World) (A:Nat→Prop) (m:TA) (ox:okT t) (hs:Zb t≤1048576) (hl:RT w A t m) (hss:s.size≤9223372036854775807) (hE:ZP t s=0) (v:GV) (j:Nat) (hr:Vm s t=.ok v j):
  Calls prog 48 #[TV t m,.string s] w fun e w'=>Below w.heap.size w w'∧∃m:VA,e=.returned (.tuple #[.agg #[.int .u8 1,.int .u8 v.k,.int .i64 v.n,.slice m.a v.l.length m.c,.int .i64 j],.int .i64 0])∧RV w' (fun b=>w.heap.size≤b) v m.a:=
 (KD t s w A m ox hs hl hss).mono fun e w' h=>by
  obtain ⟨hb,h⟩:=h
  rw [hE,hr] at h
  unfold ZbZ at h
  rw [if_neg sm] at h
  exact ⟨hb,h⟩
theorem Zhe (t:GT) (s:ByteArray) (w:World) (A:Nat→Prop) (m:TA) (ox:okT t) (hs:Zb t≤1048576) (hl:RT w A t m) (hss:s.size≤9223372036854775807) (hE:ZP t s=0) (k:Nat) (hr:Vm s t=.no k):
  Calls prog 48 #[TV t m,.string s] w fun e w'=>Below w.heap.size w w'∧e=.returned (.tuple #[.agg #[.int .u8 k,.int .u8 0,.int .i64 0,.slice none 0 0,.int .i64 0],.int .i64 0]):=
 (KD t s w A m ox hs hl hss).mono fun e w' h=>by
  obtain ⟨hb,h⟩:=h
  rw [hE,hr] at h
  unfold ZbZ at h
  rw [if_neg sm] at h
  exact ⟨hb,h⟩
theorem XV (t:GT) (s:ByteArray) (w:World) (A:Nat→Prop) (m:TA) (ox:okT t) (hs:Zb t≤1048576) (hl:RT w A t m) (hss:s.size≤9223372036854775807):
  Calls prog 48 #[TV t m,.string s] w fun e w'=>Below w.heap.size w w'∧∃(k:Int) (v:GV) (m:VA) (n:Int),e=.returned (.tuple #[.agg #[.int .u8 k,.int .u8 v.k,.int .i64 v.n,.slice m.a v.l.length m.c,.int .i64 n],.int .i64 (ZP t s)]):=
 (KD t s w A m ox hs hl hss).mono fun e w' h=>by
  obtain ⟨hb,h⟩:=h
  refine ⟨hb,?_⟩
  unfold ZbZ at h
  split at h
  ·exact ⟨0,Y8,⟨none,0⟩,0,h⟩
  rename_i h0
  have h0:ZP t s=0:=by simpa using h0
  rw [h0]
  split at h
  ·obtain ⟨m,h,_⟩:=h
   exact ⟨1,_,m,_,h⟩
  exact ⟨_,Y8,⟨none,0⟩,0,h⟩
end Go.Proofs.YtkdffbdnjfgpeaaGreat
