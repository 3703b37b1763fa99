/- Part 23. -/
import Derived.RegionTactic
import Derived.Test.YtkdffbdnjfgpeaaGreatY25
set_option linter.all false
namespace Go.Proofs.YtkdffbdnjfgpeaaGreat
open Go.Lib (hid)
open Go Go.RowKit Go.Proofs.Tryz
theorem XB:(prog.info? 3).map (fun i=>(i.zero,i.size,i.bytes))=some (some (.int .i64 0),1,8):=kr
set_option maxRecDepth 100000
set_option maxHeartbeats 1000000
theorem Zf7 (n:Nat) (w:World) (hn:n≤64):
  Calls prog 266 #[.int .i64 n] w fun e w'=>Below w.heap.size w w'∧∃g,e=.returned (.slice (some ⟨g,0,none⟩) n n)∧IRow 3 w' w.heap.size g n (Zt n):=by
 obtain ⟨i0,hi,hz0,hz1,hz2⟩:=info_parts XB
 go_enter func266,ntmps266
 go_wp2_with (at_make;refine wpList_make_full _ rfl _ _ 215 rfl w.heap.size 3 i0 _ 1 rfl hi hz0 hz1 .i64 .i64 _ _ n rfl rfl rfl rfl (by rw [hz2];omega) (by unfold maxLen;omega) (Nat.le_refl _) ?_;intro w1 hown hgrow)
 have hz1:w.heap.size < w1.heap.size:=(hown.lt _ rfl).2
 have hb1:Below w.heap.size w w1:=Below.grown (Below.refl _ _) hgrow (Nat.le_refl _) (fun k e=>by cases e)
 have HO:=hid (IRow.zero hown)
 clear hown hgrow
 go_loopg [8] n (fun gk i wr=>∃j:Nat,gk+j=n∧i=.int .i64 j∧Below w.heap.size w wr∧w.heap.size < wr.heap.size∧Hid (IRow 3 wr w.heap.size w.heap.size n (Zt j++List.replicate (n - j) 0)))
 case atStart=>exact ⟨0,om,rfl,hb1,hz1,by simpa [Zt] using HO⟩
 case round=>
  obtain ⟨j,hj,rfl,hb,hz,HW⟩:=hrel
  by_cases hlt:j < n
  ·have hlen:(Zt j++List.replicate (n - j) (0:Int)).length=n:=by simp [Zs];omega
   obtain ⟨u,hcl⟩:∃u,wr.cell? ⟨w.heap.size,j,none⟩=some (.int .i64 u):=⟨_,HW.out.cell j om⟩
   have hfz:=HW.out.frz
   obtain ⟨s1,s2⟩:=HW.out.set j j
   rw [Qa n j hlt] at s1
   have HS:=hid s1
   clear s1 s2 hlen
   go_wp2_with fail
   go_roundg (gk - 1)
   case measure=>omega
   case rel=>exact ⟨j+1,om,by go_num,ZtX,by simp;omega,HS⟩
  have hjl:j=n:=om
  subst hjl
  go_wp2_with fail
  go_ret
  exact ⟨hb,_,rfl,by simpa using HW.out⟩
set_option maxRecDepth 512
theorem Zhu (n:Nat) (N:Int) (w:World) (hn:n≤64) (hN:N=n):
  Calls prog 266 #[.int .i64 N] w fun e w'=>Below w.heap.size w w'∧∃g,e=.returned (.slice (some ⟨g,0,none⟩) n n)∧IRow 3 w' w.heap.size g n (Zt n):=by
 subst hN;exact Zf7 n w hn
set_option maxRecDepth 100000
theorem Zd7 (l:List Int) (w:World) (A:Nat→Prop) (a:Option Addr) (cp:Nat) (hn:l.length≤63) (hd:JP l) (hr:RIs w A l a):
  Calls prog 228 #[.slice a l.length cp] w fun e w'=>Below w.heap.size w w'∧∃g,e=.returned (.tuple #[.slice (some ⟨g,0,none⟩) (Y7 l (Zt (l.length+1))).length (l.length+1),.int .i64 0])∧IRow 3 w' w.heap.size g (l.length+1) (Y7 l (Zt (l.length+1))):=by
 have HL:=hid hr
 have HD:=hid hd
 have hpl:=(QX (C:=fun _=>True) l (Zt (l.length+1)) (fun _ _=>trivial) (by rw [Zs];exact Nat.le_refl _) hd).1
 rw [Zs] at hpl
 generalize hR:Y7 l (Zt (l.length+1))=R at *
 have HR:=hid hR
 clear hr hd hR
 go_enter func228,ntmps228
 go_wp2_with (go_at_call 266;refine (Zhu (l.length+1) _ _ om om).mono ?_;rintro e w1 ⟨hb1,g,rfl,hrow⟩;have HO:=hid hrow;clear hrow)
 obtain ⟨hg1,hg2⟩:=HO.out.lt
 go_loopg [17] (l.length) (fun gk i wr=>∃k:Nat,gk+k=l.length∧i=.int .i64 k∧Below w.heap.size w wr∧g < wr.heap.size∧∃zs:List Int,zs.length=l.length+1∧Hid (Y7 (l.drop k) zs=R)∧Hid (IRow 3 wr w.heap.size g (l.length+1) zs))
 case atStart=>exact ⟨0,om,rfl,hb1,hg2,Zt (l.length+1),by rw [Zs],by simpa using HR,HO⟩
 case round=>
  obtain ⟨k,hk,rfl,hb,hz,zs,hzl,HP,HW⟩:=hrel
  by_cases hlt:k < l.length
  ·obtain ⟨b,o,rfl,hA,hbs,g0⟩:=HL.out.get k hlt
   have k0:wr.cell? ⟨b,o+k,none⟩=some (.int .i64 l[k]):=(hb.cell hbs).trans g0
   obtain ⟨d0,d1⟩:=UN l k hlt HD.out
   have hst:=Zar l zs k hlt
   rw [HP.out,ZcY zs _ _ om om] at hst
   have hfz:=HW.out.frz
   obtain ⟨q,hq⟩:∃q:Nat,l[k]=(q:Int):=⟨l[k].toNat,om⟩
   rw [hq] at k0 d1
   obtain ⟨i,hik⟩:∃i:Nat,i+k=l.length:=⟨l.length - k,om⟩
   have hi1:l.length - k=i:=om
   have hi2:(l.length:Int) - (k:Int)=(i:Int):=om
   simp only [hq,hi1,Int.toNat_natCast] at hst d1
   have hiz:i < zs.length:=om
   have hqz:q < zs.length:=om
   have cq:=HW.out.cell q hqz
   have ci:=HW.out.cell i hiz
   generalize zs[q]=vq at *
   generalize zs[i]=vi at *
   obtain ⟨s1,s2⟩:=HW.out.set i vq
   obtain ⟨s3,s4⟩:=s1.set q vi
   obtain ⟨u2,hu2⟩:∃u,(wr.setCell ⟨g,i,none⟩ (.int .i64 vq)).cell? ⟨g,q,none⟩=some u:=⟨_,s1.cell q (by rw [List.length_set];exact hqz)⟩
   have hfz2:=s1.frz
   have HS:=hid s3
   have HST:=hid hst
   have hs1:b < wr.heap.size:=om
   have hqi:(q:Int)≤(i:Int):=om
   clear s1 s2 s3 s4 hst g0 hq d0 hi1
   go_wp2_with fail
   go_region
   go_wp2_with fail
   go_roundg (gk - 1)
   case measure=>omega
   case rel=>exact ⟨k+1,om,by go_num,ZtX,by simp;omega,_,by simp;omega,hid HST.out.symm,HS⟩
  have hjl:k=l.length:=om
  subst hjl
  go_wp2_with fail
  go_ret2
  rw [List.drop_length,Y7] at HP
  have hz9:zs=R:=HP.out
  subst hz9
  exact ⟨hb,g,by rw [hpl];rfl,HW.out⟩
set_option maxRecDepth 512
def Zb7 (c:Nat) (s:ByteArray) (r:Option (List Int)×Nat) (w:World):Ending→World→Prop:=fun e w'=>But c w.heap.size w w' ∧
 match r with
 | (some l,j)=>(∃a cp,e=.returned (.tuple #[.slice a l.length cp,.bool true])∧RIs w' (fun b=>w.heap.size≤b) l a)∧Cur w' c s j false
 | (none,j)=>e=.returned (.tuple #[.slice none 0 0,.bool false])∧Cur w' c s j true
def XN (s:ByteArray) (D:List Int) (n i:Nat):Option (List Int)×Nat:=
 match ZI s n i with
 | (none,j)=>(none,j)
 | (some l,j)=>(some (D++l),j)
theorem Kg (s:ByteArray) (D:List Int) (n i:Nat):XN s D (n+1) i=match ZN s (n+2) i with
  | (none,j)=>(none,j)
  | (some v,j)=>XN s (D++[(v:Int)]) n j:=by
 unfold XN
 rw [ZI]
 cases hd:ZN s (n+2) i with
 | mk v j=>
  cases v with
  | none=>rfl
  | some v=>
   simp only []
   cases ZI s n j with
   | mk r q=>cases r<;>simp
set_option maxRecDepth 100000
theorem Zb5 (s:ByteArray) (i c:Nat) (w:World) (hc:Cur w c s i false):
  Calls prog 153 #[.pointer (some ⟨c,0,none⟩),.int .i64 0] w (Zb7 c s (Xi s 0 i) w):=by
 have HC:=hid hc
 clear hc
 go_enter func153,ntmps153
 go_wp2_with fail
 go_ret2
 exact ⟨Zt1,⟨none,0,rfl,by simp [RIs]⟩,HC.out⟩
theorem Zdh (s:ByteArray) (n i c:Nat) (w:World) (hb:Zc s=true) (hi:i≤s.size) (hn:1≤n∧n≤64) (hc:Cur w c s i false):
  Calls prog 153 #[.pointer (some ⟨c,0,none⟩),.int .i64 n] w (Zb7 c s (Xi s n i) w):=by
 obtain ⟨hn1,hn2⟩:=hn
 have hcs:c < w.heap.size:=World.block_lt_of_cell? _ _ hc.1.1
 have HB:=hid hb
 have HC:=hid hc
 have hdr:=Vt s (n - 1) i hi
 obtain ⟨j0,hj0,hj1',hj2,hj3⟩:=info_parts XB
 have hn0:((n:Int)==0)=false:=beq_eq_false_iff_ne.2 om
 have hR0:XN s [] (n - 1) i=ZI s (n - 1) i:=by
  unfold XN
  rcases ZI s (n - 1) i with ⟨_|r,q⟩<;>simp
 have hP1:∀j,ZI s (n - 1) i=(none,j)→Xi s n i=(none,j):=fun j h=>by unfold Xi;rw [h]
 have hP2:∀l j,ZI s (n - 1) i=(some l,j)→Xi s n i=(some (Y7 l (Zt (l.length+1))),j):=fun l j h=>by unfold Xi;rw [h];simp only [];rw [if_neg om]
 generalize hP:Xi s n i=P at *
 generalize hR:ZI s (n - 1) i=R at *
 have HP1:=hid hP1
 have HP2:=hid hP2
 have HR0:=hid hR0
 have HDR:=hid hdr
 clear hc hb hR0 hdr hR hP1 hP2 hP
 go_enter func153,ntmps153
 go_wp2_with fail
 go_loopg [6,22] (n - 1) (fun gk v i' wr=>∃(k p:Nat) (D:List Int),gk+k=n - 1∧i'=.int .i64 k∧p≤s.size∧But c w.heap.size w wr∧w.heap.size≤wr.heap.size∧Hid (D.length=k)∧Hid (XN s D (n - 1 - k) p=R)∧Hid (Cur wr c s p false) ∧
  Hid (wr.ownsRow w.heap.size 3 1 v k (D.map (Value.int .i64))))
 case atStart=>exact ⟨0,i,[],om,rfl,hi,Zt1,om,rfl,by simpa using HR0,HC,World.ownsRow_nil _ _ _ _⟩
 case round=>
  obtain ⟨k,p,D,hk,rfl,hp,hb,hz,HL,HP,HCU,HO⟩:=hrel
  by_cases hlt:k < n - 1
  ·obtain ⟨r,hr⟩:∃r,n - 1 - k=r+1:=⟨n - 1 - k - 1,om⟩
   have hst:=HP.out
   rw [hr,Kg] at hst
   have hm:(n:Int) - (k:Int)=((r+2:Nat):Int):=om
   obtain ⟨m,hm2⟩:∃m,m=r+2:=⟨_,rfl⟩
   rw [←hm2] at hst hm
   have hm0:0 < m∧m < 18446744073709551616:=om
   have hdd:=Yk s m p hp
   rcases hD:ZN s m p with ⟨_|v',j⟩
   ·rw [hD] at hst
    have HD:=hid hD
    have HST:=hid hst
    clear hst hD hdd
    go_wp2_with (go_at_call 221;refine (WC c s p m _ _ HB.out hp hm0 om (by exact HCU.out)).mono ?_;rw [HD.out];rintro e w3 ⟨hb3,rfl,hc3⟩;have HC3:=hid hc3;clear hc3)
    go_ret2
    rw [HP1.out _ HST.out.symm]
    exact ⟨Zt1,rfl,HC3.out⟩
   rw [hD] at hst hdd
   have hv:=hdd.2.2 v' rfl
   have hj1:=hdd.2.1
   simp only [] at hj1 hv
   have HD:=hid hD
   have HST:=hid hst
   clear hst hD hdd
   go_wp2_with (first
    | (go_at_call 221;refine (WC c s p m _ _ HB.out hp hm0 om (by exact HCU.out)).mono ?_;rw [HD.out];rintro e w3 ⟨hb3,rfl,hc3⟩;have HC3:=hid hc3;clear hc3;have hz3:=hb3.size;have HO3:=hid (Vf HO.out hb3 (fun q hq=>(by have:=HO.out.lt _ hq;omega))))
    | (at_builtin;refine wpList_append_lies _ rfl _ _ 215 rfl w.heap.size 3 j0 (.int .i64 0) 1 8 underlying215 hj0 hj1' hj2 hj3 rfl (by decide) _ k _ (by rfl) (HO3.out.alloc _) ⟨w3.heap.size,0,none⟩ 1 1 [.int .i64 v'] (by rfl) rfl (cell_one_new _ _ _) (by simp [Value.oneCell']) (by decide) (by unfold maxLen;omega) om (by simp;omega) (w3.heap.size+1) sm ?_;intro g cap w4 hown hgrow hat hlt1))
   have hbw:Below w.heap.size w3 w4:=Below.grown ((Below.refl _ _).alloc om _) hgrow (by simp;omega) (fun q e=>(HO3.out.lt _ e).1)
   go_roundg (gk - 1)
   case measure=>omega
   case rel=>
    refine ⟨k+1,j,D++[(v':Int)],om,by go_num,hj1,(hb.trans (hb3.mono hz)).trans (Zue hbw),by have:=hbw.size;omega,by have:=HL.out;simp [Hid];exact this,?_,Zt3 hbw hcs HC3.out,hid ?_⟩
    ·rw [show n - 1 - (k+1)=r by omega];exact HST
    rw [List.map_append];exact hown
  have hjl:k=n - 1:=om
  have hst:=HP.out
  rw [hjl,Nat.sub_self] at hst
  have hst2:R=(some D,p):=by rw [←hst];simp [XN,ZI]
  have hdr:=HDR.out.2.2 D (by rw [hst2])
  obtain ⟨av,cv,rfl,hrd⟩:=QW HO.out
  have HRD:=hid hrd
  have HF:=hid (HP2.out D p hst2)
  have hdl:D.length≤63:=om
  have HDN:=hid hdr.2
  clear hst hst2 hdr hrd
  go_wp2_with (go_at_call 228;refine (Zd7 D _ _ av cv hdl HDN.out (by exact HRD.out)).mono ?_;rintro e w3 ⟨hb3,g,rfl,hrow⟩;have HRW:=hid hrow;clear hrow)
  go_ret2
  rw [HF.out]
  exact ⟨Zt1,⟨_,_,rfl,HRW.out.ris (by have:=HRW.out.lt;omega)⟩,Zt3 hb3 om HCU.out⟩
theorem Za1 (l:List Int) (w:World) (A:Nat→Prop) (a:Option Addr) (cp:Nat) (he:Yc l=0) (hr:RIs w A l a):
  Calls prog 225 #[.slice a l.length cp] w fun e w'=>e=.returned (.int .i64 0)∧Below w.heap.size w w':=by
 obtain ⟨h1,h64,hw,h2,h3⟩:=Y0 he
 have HL:=hid hr
 have HW:=hid hw
 have hn0:((l.length:Int)==0)=false:=beq_eq_false_iff_ne.2 om
 have HS:=hid h2
 clear hr hw he
 go_enter func225,ntmps225
 go_wp2_with fail
 go_loopg [3,16] (l.length) (fun gk t3 i wr=>∃(j:Nat) (b:Bool),gk+j=l.length∧i=.int .i64 j∧t3=.bool b∧Hid (b=decide (0 < Zj (l.take j)))∧Below w.heap.size w wr)
 case atStart=>exact ⟨0,false,om,rfl,rfl,by simp [Hid,Zj],ZtX⟩
 case round=>
  obtain ⟨j,b,hj,rfl,rfl,HB,hb⟩:=hrel
  by_cases hlt:j < l.length
  ·obtain ⟨bb,o,rfl,hA,hbs,g0⟩:=HL.out.get j hlt
   have k0:wr.cell? ⟨bb,o+j,none⟩=some (.int .i64 l[j]):=(hb.cell hbs).trans g0
   obtain ⟨x1,x2⟩:=HW.out l[j] (List.getElem_mem hlt)
   have hst:=WR l j hlt
   have hp:=(WX (l.take j) (fun y hy=>HW.out y (List.mem_of_mem_take hy))).1
   have HST:=hid hst
   have HP:=hid hp
   clear hst hp g0
   cases b
   ·by_cases hx:0 < l[j]
    ·go_wp2_with fail
     go_roundg (gk - 1)
     case measure=>omega
     case rel=>exact ⟨j+1,true,om,by go_num,by simp [hx],hid (by have:=HST.out;have:=HP.out;symm;simp;omega),ZtX⟩
    have HB2:=hid (show Zj (l.take (j+1))=0 by have:=HB.out;have:=HST.out;have:=HP.out;simp at *;omega)
    go_wp2_with fail
    go_roundg (gk - 1)
    case measure=>omega
    case rel=>exact ⟨j+1,false,om,by go_num,by simp [hx],hid (by rw [HB2.out];rfl),ZtX⟩
   have HB2:=hid (show 0 < Zj (l.take (j+1)) by have:=HB.out;have:=HST.out;simp at *;omega)
   go_wp2_with fail
   go_roundg (gk - 1)
   case measure=>omega
   case rel=>exact ⟨j+1,true,om,by go_num,rfl,hid (decide_eq_true HB2.out).symm,ZtX⟩
  have hjl:j=l.length:=om
  have hbt:b=true:=by have:=HB.out;rw [hjl,List.take_length] at this;rw [this];have:=HS.out;simp;omega
  subst hbt
  go_wp2_with fail
  go_ret
  exact ⟨rfl,hb⟩
set_option maxRecDepth 512
def ZjX (l:List Int) (w:World):Ending→World→Prop:=fun e w'=>Below w.heap.size w w' ∧
 ∃b gc go,e=.returned (.tuple #[.pointer (some ⟨b,0,none⟩),.int .i64 0])∧w.heap.size≤b∧b≠gc∧b≠go∧TabAt w' b gc go l.length (Zj l)∧IRow 2 w' w.heap.size gc l.length (Zy l).c∧IRow 3 w' w.heap.size go l.length (Zy l).o
theorem Zty {p:Prop} (h:p:=by
 have hT:T=Zy l:=(VM hne f).symm.trans HF.out
 subst hT
 have hAc:=AS.out.rc
 have hAo:=AS.out.ro
 rw [Nat.sub_self,List.replicate_zero,List.append_nil] at hAc hAo
 have HAC:=hid hAc
 have HAO:=hid hAo
 clear hAc hAo
 by_cases hne1:(Zy l).lo=[]
 ·have hl0:(Zy l).lo.length=0:=by rw [hne1];rfl
  clear hne hne1
  rw [hl0]
  go_wp2_with fail
  go_ret2
  exact ⟨hb,_,_,_,rfl,om,HD.out.d1,HD.out.d2,⟨t0,t1,t2,t3⟩,HAC.out,HAO.out⟩
 have hl0:(Zy l).hi.length=0:=by rcases hne with h|h;exact absurd h hne1;rw [h];rfl
 have hl1:0 < (Zy l).lo.length:=List.length_pos_iff.2 hne1
 clear hne hne1
 rw [hl0]
 go_wp2_with fail
 go_ret2
 exact ⟨hb,_,_,_,rfl,om,HD.out.d1,HD.out.d2,⟨t0,t1,t2,t3⟩,HAC.out,HAO.out⟩):p:=h
theorem ZvM {p:Prop} (h:p:=by
 exact ⟨0,⟨[],[],[],[],[]⟩,List.replicate (2*l.length) 0,om,rfl,rfl,rfl,by simp;omega,hid rfl,by simpa using HFT,hid ⟨ZtX,by simp;omega,by simp;omega,by simp;omega,by simp;omega,by simp;omega,⟨gs,gs,gs,fun q=>by first|(go_simp;done)|(go_simp;exact t3 q)⟩,⟨rfl,rfl,fun _ h=>by simp at h,rfl,fun _ h=>by simp at h,fun _ h=>by simp at h⟩,⟨sm,fun x hx=>by simp at hx,fun x hx=>by simp at hx,fun x hx=>by simp at hx⟩,⟨sm,sm,fun j hj=>by simp at hj,fun j hj=>by simp at hj⟩,
  by simpa using ((HC.out.al _).al _).dr,by simpa using ((HO.out.al _).al _).dr,by simpa using HH0.out.dr,by simpa using (HR0.out.al _).dr⟩⟩):p:=h
theorem ZvZ {p:Prop} (h:p:=by
 have hv1:=‹hxv - (S - hv) < S›
 obtain ⟨e1,e2⟩:=HSL.out hv1
 refine ⟨f,ZM S T p x,Rm.set lo.length x,rfl,by rw [e1,e2];simp;omega,by rw [e1];simp,by rw [e2],by simp;omega,hid HST.out,hid (Zuh (Zuh (Zuh (Zuh (AS.out.stepLo HD.out HLO.out HHI.out hv (hxv - (S - hv)) HHP.out.symm (by rw [HHX.out]) hv1 _ rfl)))))⟩):p:=h
theorem Zv0 {p:Prop} (h:p:=by
 have hv1:=‹S≤hxv - (S - hv)›
 obtain ⟨e1,e2⟩:=HSH.out om
 refine ⟨f,ZM S T p x,Rm,rfl,by rw [e1,e2];simp;omega,by rw [e1],by rw [e2];simp,by simp;omega,hid HST.out,hid (Zuh (Zuh (Zuh (Zuh (AS.out.stepHi HD.out HLO.out HHI.out hv (hxv - (S - hv)) HHP.out.symm (by rw [HHX.out]) hv1 rfl)))))⟩):p:=h
theorem Zv1 {p:Prop} (h:p:=by exact ⟨0,om,rfl,ZtX,sm,⟨by go_simp;simp [Zj],gs,gs,fun j=>gs⟩,hid (by first|exact ((IRow.made2 w1 rfl om om).al _).al _|exact (IRow.made2 (w1.alloc _) sm (by simp;omega) om).al _),hid (by first|exact ((IRow.made2 w1 rfl om om).al _).al _|exact (IRow.made2 (w1.alloc _) sm (by simp;omega) om).al _)⟩):p:=h
theorem Zv2 {p:Prop} (h:p:=by
 have hPS:=‹P < S›
 have hst:=HST.out
 rw [if_pos hPS] at hst
 refine ⟨i+1,⟨T.c++[S],T.o++[(i:Int)],T.h++[P],T.lo++[(i:Int)],T.hi⟩,_,om,by go_num,?_,rfl,by simp;omega,hid ?_,hid hst,hid (Zuh (Zuh (AS.out.fillLo HD.out hlt HLN.out P ⟨hp0,hPS⟩  _ rfl)))⟩
 ·simp
 have:=HLN.out;simp;omega):p:=h
theorem Zv3 {p:Prop} (h:p:=by
 have hPS:=‹S≤P›
 have hst:=HST.out
 rw [if_neg om] at hst
 refine ⟨i+1,⟨T.c++[S],T.o++[(i:Int)],T.h++[P],T.lo,T.hi++[(i:Int)]⟩,_,om,by go_num,rfl,?_,by simp;omega,hid ?_,hid hst,hid (Zuh (Zuh (AS.out.fillHi HD.out hlt HLN.out P ⟨hPS,om⟩ _ rfl)))⟩
 ·simp
 have:=HLN.out;simp;omega):p:=h
theorem Zv4 {p:Prop} (h:p:=by
 have h9:=hrm.hi hi.length sm
 rw [AS.out.rr.cell (l.length+hi.length) om];simp [List.getD_eq_getElem?_getD,List.getElem?_eq_getElem (show l.length+hi.length < Rm.length by omega)] at h9;rw [h9]):p:=h
theorem Zv5 {p:Prop} (h:p:=by
 have h9:=hrm.lo lo.length sm
 rw [AS.out.rr.cell lo.length om];simp [List.getD_eq_getElem?_getD,List.getElem?_eq_getElem (show lo.length < Rm.length by omega)] at h9;rw [h9]):p:=h
theorem Zv6 {p:Prop} (h:p:=by rw [AS.out.rh.cell p (by rw [hrow,hTh];exact hp)];simp [List.getD_eq_getElem?_getD,List.getElem?_eq_getElem (show p < T.h.length by omega)]):p:=h
theorem ZvR {p:Prop} (h:p:=by rw [AS.out.rh.cell x (by rw [hrow,hTh];exact hx)];simp [List.getD_eq_getElem?_getD,List.getElem?_eq_getElem (show x < T.h.length by omega)]):p:=h
theorem ZvS {p:Prop} (h:p:=by
 obtain ⟨e1,e2⟩:=HSL.out (by assumption)
 rw [e1,e2,HLL.out,HHL.out];first|(simp;done)|(simp;omega)):p:=h
set_option maxRecDepth 100000
set_option maxHeartbeats 2000000
theorem K1 (l:List Int) (w:World) (A:Nat→Prop) (a:Option Addr) (cp:Nat) (he:Yc l=0) (hr:RIs w A l a):
  Calls prog 147 #[.slice a l.length cp] w (ZjX l w):=by
 obtain ⟨h1,h64,hw,h2,h3⟩:=Y0 he
 have HL:=hid hr
 have HW:=hid hw
 have HE:=hid he
 obtain ⟨i0,hi0,y0,y1,y2⟩:=info_parts XB
 have hm2:=Zdf (P:=prog) (t:=25) (e:=2) underlying25 Zde l.length om
 have hm3:=Zdf (P:=prog) (t:=215) (e:=3) underlying215 XB l.length om
 have hm4:=Zfh (P:=prog) (t:=215) (e:=3) underlying215 XB (2*l.length) (2*(l.length:Int)) om om
 have h2n:IntKind.i64.wrap (2*(l.length:Int))=2*(l.length:Int):=IntWalk.i64_in _ om
 generalize hFT:Yr (Zj l) l.length l 0 ⟨[],[],[],[],[]⟩=FT
 have HFT:=hid hFT
 have HAT:=hid (show YF (Zj l) (2*l.length+1) FT=Zy l by rw [←hFT];rfl)
 clear hr hw he hFT
 go_enter func147,ntmps147
 go_wp2_with (go_at_call 225;refine (Za1 l _ A a cp HE.out (by exact Zuc az _ _ HL.out)).mono ?_;rintro e w1 ⟨rfl,hb⟩;have hB1:Below w.heap.size w w1:=ZtX;clear hb;obtain ⟨hc1,hf1⟩:=Za hB1;have hz1:=hB1.size)
 have hz9:=hB1.size
 go_region
 go_wp2_with fail
 ·go_loopg [32] (l.length) (fun gk i wr=>∃j:Nat,gk+j=l.length∧i=.int .i64 j∧Below w.heap.size w wr∧wr.heap.size=w1.heap.size+3∧TabAt wr (w1.heap.size+1+1) w1.heap.size (w1.heap.size+1) l.length (Zj (l.take j))∧Hid (IRow 2 wr w.heap.size w1.heap.size l.length (List.replicate l.length 0))∧Hid (IRow 3 wr w.heap.size (w1.heap.size+1) l.length (List.replicate l.length 0)))
  case atStart=>
   exact Zv1
  case round=>
   obtain ⟨j,hj,rfl,hb,hz,⟨t0,t1,t2,t3⟩,HC,HO⟩:=hrel
   by_cases hlt:j < l.length
   ·obtain ⟨bb,o,rfl,hA,hbs,g0⟩:=HL.out.get j hlt
    have k0:wr.cell? ⟨bb,o+j,none⟩=some (.int .i64 l[j]):=(hb.cell hbs).trans g0
    obtain ⟨x1,x2⟩:=HW.out l[j] (List.getElem_mem hlt)
    have hst:=WR l j hlt
    obtain ⟨p1,p2⟩:=WX (l.take j) (fun y hy=>HW.out y (List.mem_of_mem_take hy))
    have hjl:(l.take j).length=j:=by simp;omega
    rw [hjl] at p2
    have HST:=hid hst
    clear hst g0 hjl
    generalize hSj:Zj (l.take j)=Sj at *
    have HSJ:=hid hSj
    clear hSj
    go_wp2_with fail
    go_roundg (gk - 1)
    case measure=>omega
    case rel=>exact ⟨j+1,om,by go_num,ZtX,by simp;omega,⟨by rw [HST.out];go_simp,gs,gs,fun q=>by first|(go_simp;done)|(go_simp;exact t3 q)⟩,hid (HC.out.far _ _ so),hid (HO.out.far _ _ so)⟩
   have hjl:j=l.length:=om
   subst hjl
   rw [List.take_length] at t0
   go_wp2_with fail
   go_region
   go_wp2_with fail
   have HR0:Hid (IRow 3 (wr.alloc (.cells (Array.replicate (2*l.length) (Value.int .i64 0)) 3)) w.heap.size (w1.heap.size+3) (2*l.length) (List.replicate (2*l.length) 0)):=hid (IRow.made2 wr hz.symm om om)
   have HH0:Hid (IRow 2 ((wr.alloc (.cells (Array.replicate (2*l.length) (Value.int .i64 0)) 3)).alloc (.cells (Array.replicate l.length (Value.int .i64 0)) 2)) w.heap.size (w1.heap.size+3+1) l.length (List.replicate l.length 0)):=hid (IRow.made2 (wr.alloc _) (by simp;omega) (by simp;omega) om)
   have HD:Hid (Zca w.heap.size (w1.heap.size+1+1) w1.heap.size (w1.heap.size+1) (w1.heap.size+3) (w1.heap.size+3+1)):=hid ⟨om,om,om,om,om,om,om,om,om,om,om,om,om,om,om⟩
   go_loopg [10,11,61] (l.length) (fun gk v10 v11 i' wr=>∃(i:Nat) (T:AT) (Rm:List Int),gk+i=l.length∧i'=.int .i64 i∧v10=.slice (some ⟨w1.heap.size+3,0,none⟩) T.lo.length l.length∧v11=.slice (some ⟨w1.heap.size+3,l.length,none⟩) T.hi.length (2*l.length - l.length)∧w1.heap.size+4 < wr.heap.size∧Hid (T.lo.length+T.hi.length=i)∧Hid (Yr (Zj l) l.length (l.drop i) i T=FT) ∧
    Hid (AState w wr 2 3 w.heap.size (w1.heap.size+1+1) w1.heap.size (w1.heap.size+1) (w1.heap.size+3) (w1.heap.size+3+1) l.length i (Zj l) T Rm))
   case atStart=>
    exact ZvM
   case round=>
    obtain ⟨i,T,Rm,hi,rfl,rfl,rfl,hz,HLN,HF,AS⟩:=hrel
    have hb:=AS.out.below
    obtain ⟨t0,t1,t2,t3⟩:=AS.out.tab
    by_cases hlt:i < l.length
    ·obtain ⟨bb,o,rfl,hA,hbs,g0⟩:=HL.out.get i hlt
     have k0:wr.cell? ⟨bb,o+i,none⟩=some (.int .i64 l[i]):=(hb.cell hbs).trans g0
     obtain ⟨x1,x2⟩:=HW.out l[i] (List.getElem_mem hlt)
     have hst:=HF.out
     rw [VL _ _ _ _ hlt] at hst
     have hp0:0≤(l.length:Int)*l[i]:=Int.mul_nonneg om x1
     have hp1:(l.length:Int)*l[i]≤64*1048576:=Int.mul_le_mul om x2 x1 om
     generalize hP:(l.length:Int)*l[i]=P at *
     have hPw:IntKind.i64.wrap P=P:=IntWalk.i64_in _ om
     obtain ⟨uc,cc⟩:∃u,wr.cell? ⟨w1.heap.size,i,none⟩=some (.int .i64 u):=⟨_,AS.out.rc.cell i (by simp [AS.out.ok.c];omega)⟩
     obtain ⟨uo,co⟩:∃u,wr.cell? ⟨(w1.heap.size+1),i,none⟩=some (.int .i64 u):=⟨_,AS.out.ro.cell i (by simp [AS.out.ok.o];omega)⟩
     obtain ⟨uh,ch⟩:∃u,wr.cell? ⟨w1.heap.size+3+1,i,none⟩=some (.int .i64 u):=⟨_,AS.out.rh.cell i (by simp [AS.out.ok.h];omega)⟩
     have fc:=AS.out.rc.frz
     have fo:=AS.out.ro.frz
     have fh:=AS.out.rh.frz
     have hrs:=AS.out.rm.sum
     have hrl:=AS.out.rm.len
     obtain ⟨ulo,clo⟩:∃u,wr.cell? ⟨w1.heap.size+3,T.lo.length,none⟩=some (.int .i64 u):=⟨_,AS.out.rr.cell T.lo.length om⟩
     obtain ⟨uhi,chi⟩:∃u,wr.cell? ⟨w1.heap.size+3,l.length+T.hi.length,none⟩=some (.int .i64 u):=⟨_,AS.out.rr.cell (l.length+T.hi.length) (by rw [hrl];have:=HLN.out;omega)⟩
     have fr:=AS.out.rr.frz
     have hlo1:T.lo.length+1≤l.length:=by have:=HLN.out;omega
     have hhi1:T.hi.length+1≤2*l.length - l.length:=by have:=HLN.out;omega
     have HST:=hid hst
     clear hst g0 hrs hrl
     generalize hS:Zj l=S at *
     have HS:=hid hS
     clear hS
     have hz3:w1.heap.size+3 < wr.heap.size:=om
     have hz4:w1.heap.size+3+1 < wr.heap.size:=om
     have hz5:w1.heap.size < wr.heap.size:=om
     have hz6:(w1.heap.size+1) < wr.heap.size:=om
     have hz7:w1.heap.size+1+1 < wr.heap.size:=om
     go_wp2_with fail
     go_region
     go_wp2_with fail
     go_region
     go_wp2_with (at_builtin;refine Wb rfl _ _ 215 rfl 3 i0 underlying215 hi0 y1 _ _ _ _ (by rfl) _ _ (by rfl) (.int .i64 (i:Int)) gs (by rfl) om gs gs ?_)
     all_goals go_roundg (gk - 1)
     case measure=>omega
     case rel=>
      exact Zv2
     case measure=>omega
     case rel=>
      exact Zv3
    have hil:i=l.length:=om
    subst hil
    have hFT:=HF.out
    rw [List.drop_length,Yr] at hFT
    subst hFT
    have hrs:=AS.out.rm.sum
    go_wp2_with fail
    go_loopg [10,11] (T.lo.length+T.hi.length) (fun gk v10 v11 wr=>∃(f:Nat) (T:AT) (Rm:List Int),gk=T.lo.length+T.hi.length∧gk < f∧v10=.slice (some ⟨w1.heap.size+3,0,none⟩) T.lo.length l.length∧v11=.slice (some ⟨w1.heap.size+3,l.length,none⟩) T.hi.length (2*l.length - l.length)∧w1.heap.size+4 < wr.heap.size∧Hid (YF (Zj l) f T=Zy l) ∧
     Hid (AState w wr 2 3 w.heap.size (w1.heap.size+1+1) w1.heap.size (w1.heap.size+1) (w1.heap.size+3) (w1.heap.size+3+1) l.length l.length (Zj l) T Rm))
    case atStart=>exact ⟨2*l.length+1,T,Rm,rfl,om,rfl,rfl,om,hid HAT.out,AS⟩
    case round=>
     obtain ⟨f,T,Rm,rfl,hf,rfl,rfl,hz,HF,AS⟩:=hrel
     have hb:=AS.out.below
     obtain ⟨t0,t1,t2,t3⟩:=AS.out.tab
     by_cases hne:T.lo=[]∨T.hi=[]
     ·exact Zty
     have hne1:T.lo≠[]:=fun h=>hne (.inl h)
     have hne2:T.hi≠[]:=fun h=>hne (.inr h)
     obtain ⟨lo,p,hlo,hp⟩:=VE hne1 AS.out.ok.lo
     obtain ⟨hi,x,hhi,hx⟩:=VE hne2 AS.out.ok.hi
     obtain ⟨f,rfl⟩:∃g,f=g+1:=⟨f - 1,om⟩
     have hstep:=HF.out
     rw [Wz hlo hhi] at hstep
     obtain ⟨hsl,hsh⟩:=Kc (S:=Zj l) hlo hhi
     have hht:=AS.out.ht
     rw [hlo,hhi] at hht
     obtain ⟨hvb,_,_⟩:=HtOk.step hht (T.h.getD x 0 - (Zj l - T.h.getD p 0)) (by simp only [Int.toNat_natCast])
     have hb1:=hht.lo (p:Int) sm
     have hb2:=hht.hi (x:Int) sm
     simp only [Int.toNat_natCast] at hb1 hb2
     have hTc:=AS.out.ok.c
     have hTo:=AS.out.ok.o
     have hTh:=AS.out.ok.h
     have hrow:∀(L:List Int),(L++List.replicate (l.length - l.length) (0:Int))=L:=fun L=>sm
     obtain ⟨uc,cc⟩:∃u,wr.cell? ⟨w1.heap.size,p,none⟩=some (.int .i64 u):=⟨_,AS.out.rc.cell p (by rw [hrow,hTc];exact hp)⟩
     obtain ⟨uo,co⟩:∃u,wr.cell? ⟨(w1.heap.size+1),p,none⟩=some (.int .i64 u):=⟨_,AS.out.ro.cell p (by rw [hrow,hTo];exact hp)⟩
     have chp:wr.cell? ⟨w1.heap.size+3+1,p,none⟩=some (.int .i64 (T.h.getD p 0)):=by
      exact Zv6
     have chx:wr.cell? ⟨w1.heap.size+3+1,x,none⟩=some (.int .i64 (T.h.getD x 0)):=by
      exact ZvR
     have hrm:=AS.out.rm
     have hrl:=hrm.len
     have hrs:=hrm.sum
     rw [hlo,hhi] at hrm hrs
     simp at hrs
     have clo:wr.cell? ⟨w1.heap.size+3,lo.length,none⟩=some (.int .i64 p):=by
      exact Zv5
     have chi:wr.cell? ⟨w1.heap.size+3,l.length+hi.length,none⟩=some (.int .i64 x):=by
      exact Zv4
     have fc:=AS.out.rc.frz
     have fo:=AS.out.ro.frz
     have fh:=AS.out.rh.frz
     have fr:=AS.out.rr.frz
     have hll:T.lo.length=lo.length+1:=by rw [hlo];simp
     have hhl:T.hi.length=hi.length+1:=by rw [hhi];simp
     rw [hll,hhl]
     rw [hll,hhl] at hf
     have HST:=hid hstep
     have HSL:=hid hsl
     have HSH:=hid hsh
     have HLO:=hid hlo
     have HHI:=hid hhi
     have HLL:=hid hll
     have HHL:=hid hhl
     clear hstep hsl hsh hlo hhi hll hhl hht hTc hTo hTh hrow hrm hrl hne hne1 hne2
     generalize hhp:T.h.getD p 0=hv at *
     generalize hhx:T.h.getD x 0=hxv at *
     have HHP:=hid hhp
     have HHX:=hid hhx
     clear hhp hhx
     generalize hS:Zj l=S at *
     have HS:=hid hS
     clear hS
     have hz3:w1.heap.size+3 < wr.heap.size:=om
     have hz4:w1.heap.size+3+1 < wr.heap.size:=om
     have hz5:w1.heap.size < wr.heap.size:=om
     have hz6:(w1.heap.size+1) < wr.heap.size:=om
     have hz7:w1.heap.size+1+1 < wr.heap.size:=om
     have hcap:lo.length+1≤l.length:=om
     go_wp2_with fail
     go_region
     go_wp2_with fail
     go_region
     go_wp2_with fail
     go_region
     go_wp2_with fail
     go_region
     go_wp2_with (at_builtin;refine Wb rfl _ _ 215 rfl 3 i0 underlying215 hi0 y1 _ _ _ _ (by rfl) _ _ (by rfl) (.int .i64 (x:Int)) gs (by rfl) om gs gs ?_)
     all_goals go_roundg ((ZM S T p x).lo.length+(ZM S T p x).hi.length)
     case measure=>
      exact ZvS
     case rel=>
      exact ZvZ
     case measure=>
      obtain ⟨e1,e2⟩:=HSH.out om
      rw [e1,e2,HLL.out,HHL.out];first|(simp;done)|(simp;omega)
     case rel=>
      exact Zv0
 go_loopg [32] (l.length) (fun gk i wr=>∃j:Nat,gk+j=l.length∧i=.int .i64 j∧Below w.heap.size w wr∧wr.heap.size=w1.heap.size+3∧TabAt wr (w1.heap.size+1+1) (w1.heap.size+1) w1.heap.size l.length (Zj (l.take j))∧Hid (IRow 2 wr w.heap.size (w1.heap.size+1) l.length (List.replicate l.length 0))∧Hid (IRow 3 wr w.heap.size w1.heap.size l.length (List.replicate l.length 0)))
 case atStart=>
  exact Zv1
 case round=>
  obtain ⟨j,hj,rfl,hb,hz,⟨t0,t1,t2,t3⟩,HC,HO⟩:=hrel
  by_cases hlt:j < l.length
  ·obtain ⟨bb,o,rfl,hA,hbs,g0⟩:=HL.out.get j hlt
   have k0:wr.cell? ⟨bb,o+j,none⟩=some (.int .i64 l[j]):=(hb.cell hbs).trans g0
   obtain ⟨x1,x2⟩:=HW.out l[j] (List.getElem_mem hlt)
   have hst:=WR l j hlt
   obtain ⟨p1,p2⟩:=WX (l.take j) (fun y hy=>HW.out y (List.mem_of_mem_take hy))
   have hjl:(l.take j).length=j:=by simp;omega
   rw [hjl] at p2
   have HST:=hid hst
   clear hst g0 hjl
   generalize hSj:Zj (l.take j)=Sj at *
   have HSJ:=hid hSj
   clear hSj
   go_wp2_with fail
   go_roundg (gk - 1)
   case measure=>omega
   case rel=>exact ⟨j+1,om,by go_num,ZtX,by simp;omega,⟨by rw [HST.out];go_simp,gs,gs,fun q=>by first|(go_simp;done)|(go_simp;exact t3 q)⟩,hid (HC.out.far _ _ so),hid (HO.out.far _ _ so)⟩
  have hjl:j=l.length:=om
  subst hjl
  rw [List.take_length] at t0
  go_wp2_with fail
  go_region
  go_wp2_with fail
  have HR0:Hid (IRow 3 (wr.alloc (.cells (Array.replicate (2*l.length) (Value.int .i64 0)) 3)) w.heap.size (w1.heap.size+3) (2*l.length) (List.replicate (2*l.length) 0)):=hid (IRow.made2 wr hz.symm om om)
  have HH0:Hid (IRow 2 ((wr.alloc (.cells (Array.replicate (2*l.length) (Value.int .i64 0)) 3)).alloc (.cells (Array.replicate l.length (Value.int .i64 0)) 2)) w.heap.size (w1.heap.size+3+1) l.length (List.replicate l.length 0)):=hid (IRow.made2 (wr.alloc _) (by simp;omega) (by simp;omega) om)
  have HD:Hid (Zca w.heap.size (w1.heap.size+1+1) (w1.heap.size+1) w1.heap.size (w1.heap.size+3) (w1.heap.size+3+1)):=hid ⟨om,om,om,om,om,om,om,om,om,om,om,om,om,om,om⟩
  go_loopg [10,11,61] (l.length) (fun gk v10 v11 i' wr=>∃(i:Nat) (T:AT) (Rm:List Int),gk+i=l.length∧i'=.int .i64 i∧v10=.slice (some ⟨w1.heap.size+3,0,none⟩) T.lo.length l.length∧v11=.slice (some ⟨w1.heap.size+3,l.length,none⟩) T.hi.length (2*l.length - l.length)∧w1.heap.size+4 < wr.heap.size∧Hid (T.lo.length+T.hi.length=i)∧Hid (Yr (Zj l) l.length (l.drop i) i T=FT) ∧
   Hid (AState w wr 2 3 w.heap.size (w1.heap.size+1+1) (w1.heap.size+1) w1.heap.size (w1.heap.size+3) (w1.heap.size+3+1) l.length i (Zj l) T Rm))
  case atStart=>
   exact ZvM
  case round=>
   obtain ⟨i,T,Rm,hi,rfl,rfl,rfl,hz,HLN,HF,AS⟩:=hrel
   have hb:=AS.out.below
   obtain ⟨t0,t1,t2,t3⟩:=AS.out.tab
   by_cases hlt:i < l.length
   ·obtain ⟨bb,o,rfl,hA,hbs,g0⟩:=HL.out.get i hlt
    have k0:wr.cell? ⟨bb,o+i,none⟩=some (.int .i64 l[i]):=(hb.cell hbs).trans g0
    obtain ⟨x1,x2⟩:=HW.out l[i] (List.getElem_mem hlt)
    have hst:=HF.out
    rw [VL _ _ _ _ hlt] at hst
    have hp0:0≤(l.length:Int)*l[i]:=Int.mul_nonneg om x1
    have hp1:(l.length:Int)*l[i]≤64*1048576:=Int.mul_le_mul om x2 x1 om
    generalize hP:(l.length:Int)*l[i]=P at *
    have hPw:IntKind.i64.wrap P=P:=IntWalk.i64_in _ om
    obtain ⟨uc,cc⟩:∃u,wr.cell? ⟨(w1.heap.size+1),i,none⟩=some (.int .i64 u):=⟨_,AS.out.rc.cell i (by simp [AS.out.ok.c];omega)⟩
    obtain ⟨uo,co⟩:∃u,wr.cell? ⟨w1.heap.size,i,none⟩=some (.int .i64 u):=⟨_,AS.out.ro.cell i (by simp [AS.out.ok.o];omega)⟩
    obtain ⟨uh,ch⟩:∃u,wr.cell? ⟨w1.heap.size+3+1,i,none⟩=some (.int .i64 u):=⟨_,AS.out.rh.cell i (by simp [AS.out.ok.h];omega)⟩
    have fc:=AS.out.rc.frz
    have fo:=AS.out.ro.frz
    have fh:=AS.out.rh.frz
    have hrs:=AS.out.rm.sum
    have hrl:=AS.out.rm.len
    obtain ⟨ulo,clo⟩:∃u,wr.cell? ⟨w1.heap.size+3,T.lo.length,none⟩=some (.int .i64 u):=⟨_,AS.out.rr.cell T.lo.length om⟩
    obtain ⟨uhi,chi⟩:∃u,wr.cell? ⟨w1.heap.size+3,l.length+T.hi.length,none⟩=some (.int .i64 u):=⟨_,AS.out.rr.cell (l.length+T.hi.length) (by rw [hrl];have:=HLN.out;omega)⟩
    have fr:=AS.out.rr.frz
    have hlo1:T.lo.length+1≤l.length:=by have:=HLN.out;omega
    have hhi1:T.hi.length+1≤2*l.length - l.length:=by have:=HLN.out;omega
    have HST:=hid hst
    clear hst g0 hrs hrl
    generalize hS:Zj l=S at *
    have HS:=hid hS
    clear hS
    have hz3:w1.heap.size+3 < wr.heap.size:=om
    have hz4:w1.heap.size+3+1 < wr.heap.size:=om
    have hz5:(w1.heap.size+1) < wr.heap.size:=om
    have hz6:w1.heap.size < wr.heap.size:=om
    have hz7:w1.heap.size+1+1 < wr.heap.size:=om
    go_wp2_with fail
    go_region
    go_wp2_with fail
    go_region
    go_wp2_with (at_builtin;refine Wb rfl _ _ 215 rfl 3 i0 underlying215 hi0 y1 _ _ _ _ (by rfl) _ _ (by rfl) (.int .i64 (i:Int)) gs (by rfl) om gs gs ?_)
    all_goals go_roundg (gk - 1)
    case measure=>omega
    case rel=>
     exact Zv2
    case measure=>omega
    case rel=>
     exact Zv3
   have hil:i=l.length:=om
   subst hil
   have hFT:=HF.out
   rw [List.drop_length,Yr] at hFT
   subst hFT
   have hrs:=AS.out.rm.sum
   go_wp2_with fail
   go_loopg [10,11] (T.lo.length+T.hi.length) (fun gk v10 v11 wr=>∃(f:Nat) (T:AT) (Rm:List Int),gk=T.lo.length+T.hi.length∧gk < f∧v10=.slice (some ⟨w1.heap.size+3,0,none⟩) T.lo.length l.length∧v11=.slice (some ⟨w1.heap.size+3,l.length,none⟩) T.hi.length (2*l.length - l.length)∧w1.heap.size+4 < wr.heap.size∧Hid (YF (Zj l) f T=Zy l) ∧
    Hid (AState w wr 2 3 w.heap.size (w1.heap.size+1+1) (w1.heap.size+1) w1.heap.size (w1.heap.size+3) (w1.heap.size+3+1) l.length l.length (Zj l) T Rm))
   case atStart=>exact ⟨2*l.length+1,T,Rm,rfl,om,rfl,rfl,om,hid HAT.out,AS⟩
   case round=>
    obtain ⟨f,T,Rm,rfl,hf,rfl,rfl,hz,HF,AS⟩:=hrel
    have hb:=AS.out.below
    obtain ⟨t0,t1,t2,t3⟩:=AS.out.tab
    by_cases hne:T.lo=[]∨T.hi=[]
    ·exact Zty
    have hne1:T.lo≠[]:=fun h=>hne (.inl h)
    have hne2:T.hi≠[]:=fun h=>hne (.inr h)
    obtain ⟨lo,p,hlo,hp⟩:=VE hne1 AS.out.ok.lo
    obtain ⟨hi,x,hhi,hx⟩:=VE hne2 AS.out.ok.hi
    obtain ⟨f,rfl⟩:∃g,f=g+1:=⟨f - 1,om⟩
    have hstep:=HF.out
    rw [Wz hlo hhi] at hstep
    obtain ⟨hsl,hsh⟩:=Kc (S:=Zj l) hlo hhi
    have hht:=AS.out.ht
    rw [hlo,hhi] at hht
    obtain ⟨hvb,_,_⟩:=HtOk.step hht (T.h.getD x 0 - (Zj l - T.h.getD p 0)) (by simp only [Int.toNat_natCast])
    have hb1:=hht.lo (p:Int) sm
    have hb2:=hht.hi (x:Int) sm
    simp only [Int.toNat_natCast] at hb1 hb2
    have hTc:=AS.out.ok.c
    have hTo:=AS.out.ok.o
    have hTh:=AS.out.ok.h
    have hrow:∀(L:List Int),(L++List.replicate (l.length - l.length) (0:Int))=L:=fun L=>sm
    obtain ⟨uc,cc⟩:∃u,wr.cell? ⟨(w1.heap.size+1),p,none⟩=some (.int .i64 u):=⟨_,AS.out.rc.cell p (by rw [hrow,hTc];exact hp)⟩
    obtain ⟨uo,co⟩:∃u,wr.cell? ⟨w1.heap.size,p,none⟩=some (.int .i64 u):=⟨_,AS.out.ro.cell p (by rw [hrow,hTo];exact hp)⟩
    have chp:wr.cell? ⟨w1.heap.size+3+1,p,none⟩=some (.int .i64 (T.h.getD p 0)):=by
     exact Zv6
    have chx:wr.cell? ⟨w1.heap.size+3+1,x,none⟩=some (.int .i64 (T.h.getD x 0)):=by
     exact ZvR
    have hrm:=AS.out.rm
    have hrl:=hrm.len
    have hrs:=hrm.sum
    rw [hlo,hhi] at hrm hrs
    simp at hrs
    have clo:wr.cell? ⟨w1.heap.size+3,lo.length,none⟩=some (.int .i64 p):=by
     exact Zv5
    have chi:wr.cell? ⟨w1.heap.size+3,l.length+hi.length,none⟩=some (.int .i64 x):=by
     exact Zv4
    have fc:=AS.out.rc.frz
    have fo:=AS.out.ro.frz
    have fh:=AS.out.rh.frz
    have fr:=AS.out.rr.frz
    have hll:T.lo.length=lo.length+1:=by rw [hlo];simp
    have hhl:T.hi.length=hi.length+1:=by rw [hhi];simp
    rw [hll,hhl]
    rw [hll,hhl] at hf
    have HST:=hid hstep
    have HSL:=hid hsl
    have HSH:=hid hsh
    have HLO:=hid hlo
    have HHI:=hid hhi
    have HLL:=hid hll
    have HHL:=hid hhl
    clear hstep hsl hsh hlo hhi hll hhl hht hTc hTo hTh hrow hrm hrl hne hne1 hne2
    generalize hhp:T.h.getD p 0=hv at *
    generalize hhx:T.h.getD x 0=hxv at *
    have HHP:=hid hhp
    have HHX:=hid hhx
    clear hhp hhx
    generalize hS:Zj l=S at *
    have HS:=hid hS
    clear hS
    have hz3:w1.heap.size+3 < wr.heap.size:=om
    have hz4:w1.heap.size+3+1 < wr.heap.size:=om
    have hz5:(w1.heap.size+1) < wr.heap.size:=om
    have hz6:w1.heap.size < wr.heap.size:=om
    have hz7:w1.heap.size+1+1 < wr.heap.size:=om
    have hcap:lo.length+1≤l.length:=om
    go_wp2_with fail
    go_region
    go_wp2_with fail
    go_region
    go_wp2_with fail
    go_region
    go_wp2_with fail
    go_region
    go_wp2_with (at_builtin;refine Wb rfl _ _ 215 rfl 3 i0 underlying215 hi0 y1 _ _ _ _ (by rfl) _ _ (by rfl) (.int .i64 (x:Int)) gs (by rfl) om gs gs ?_)
    all_goals go_roundg ((ZM S T p x).lo.length+(ZM S T p x).hi.length)
    case measure=>
     exact ZvS
    case rel=>
     exact ZvZ
    case measure=>
     obtain ⟨e1,e2⟩:=HSH.out om
     rw [e1,e2,HLL.out,HHL.out];first|(simp;done)|(simp;omega)
    case rel=>
     exact Zv0
end Go.Proofs.YtkdffbdnjfgpeaaGreat
