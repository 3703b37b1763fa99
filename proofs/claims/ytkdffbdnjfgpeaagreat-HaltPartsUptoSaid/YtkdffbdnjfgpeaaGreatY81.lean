/- Part 82. -/
import Derived.Test.YtkdffbdnjfgpeaaGreatY28
import Derived.Test.YtkdffbdnjfgpeaaGreatY76
set_option linter.all false
namespace Go.Proofs.YtkdffbdnjfgpeaaGreat
open Go.Lib (hid)
open Go Go.RowKit Go.Proofs.Tryz
def Xp (l:List Int) (N:Nat):List Int:=(List.range N).flatMap fun (i:Nat)=>l.filter fun x=>x==(i:Int)
theorem Um (l:List Int) (N:Nat):Xp l (N+1)=Xp l N++l.filter (fun x=>x==(N:Int)):=by
 unfold Xp
 rw [List.range_succ,List.flatMap_append]
 simp
theorem ZfR {l:List Int} {N:Nat} {x:Int}:x∈Xp l N↔x∈l∧0≤x∧x < N:=by
 unfold Xp
 simp only [List.mem_flatMap,List.mem_range,List.mem_filter,beq_iff_eq]
 constructor
 ·rintro ⟨i,h1,h2,h3⟩
  exact ⟨h2,om,om⟩
 rintro ⟨h1,h2,h3⟩
 exact ⟨x.toNat,om,h1,om⟩
theorem Kl (l:List Int):∀N,(Xp l N).Pairwise (fun a b=>leI a b=true)
 | 0=>by simp [Xp]
 | N+1=>by
  rw [Um,List.pairwise_append]
  refine ⟨Kl l N,?_,fun a ha b hb=>?_⟩
  ·refine List.Pairwise.imp_of_mem (R:=fun _ _=>True) (fun {a b} ha hb _=>?_) (List.pairwise_of_forall fun _ _=>trivial)
   have h1:=(List.mem_filter.1 ha).2
   have h2:=(List.mem_filter.1 hb).2
   simp only [beq_iff_eq] at h1 h2
   simp [leI];omega
  have h1:=(ZfR.1 ha).2.2
  have h2:=(List.mem_filter.1 hb).2
  simp only [beq_iff_eq] at h2
  simp [leI];omega
theorem Jv (l:List Int) (x:Int):∀N,(Xp l N).count x=if 0≤x∧x < N then l.count x else 0
 | 0=>by rw [if_neg om];simp [Xp]
 | N+1=>by
  rw [Um,List.count_append,Jv l x N]
  by_cases h:x=(N:Int)
  ·subst h
   rw [if_neg om,if_pos om,List.count_filter sm]
   omega
  have h2:(l.filter fun y=>y==(N:Int)).count x=0:=List.count_eq_zero.2 fun hm=>h (by have:=(List.mem_filter.1 hm).2;simpa using this)
  rw [h2]
  by_cases h3:0≤x∧x < N
  ·rw [if_pos h3,if_pos om];rfl
  rw [if_neg h3,if_neg om]
theorem ZfS (l:List Int) (N:Nat) (h:∀x∈l,0≤x∧x < N):Xp l N=l.mergeSort leI:=by
 have hp:(Xp l N).Perm l:=List.perm_iff_count.2 fun x=>by
  rw [Jv]
  by_cases hx:0≤x∧x < N
  ·rw [if_pos hx]
  rw [if_neg hx,List.count_eq_zero.2 fun hm=>hx (h x hm)]
 refine List.Perm.eq_of_pairwise (le:=fun a b=>leI a b=true) (fun a b _ _ h1 h2=>?_) (Kl l N) (List.pairwise_mergeSort (fun a b c=>?_) (fun a b=>?_) l) (hp.trans (List.mergeSort_perm l leI).symm)
 ·simp [leI] at h1 h2;omega
 ·simp [leI];omega
 simp [leI];omega
theorem ZbN (k n:Nat) (w:World) (hk:k≤n) (hn:n≤64):Calls prog 247 #[.int .i64 k,.int .i64 n] w fun e w'=>e=.returned (.bool true)∧Below w.heap.size w w':=by
 have h1:decide ((0:Int)≤(n:Int))=true:=sm
 have h2:decide ((n:Int)≤64)=true:=by simp;omega
 have h3:decide ((0:Int)≤(k:Int))=true:=sm
 have h4:decide ((k:Int)≤(n:Int))=true:=by simp;omega
 go_enter func247,ntmps247
 go_wp2_with fail
 go_ret
 exact ⟨by simp [*],ZtZ⟩
set_option maxRecDepth 100000
set_option maxHeartbeats 1000000
theorem ZcL (l:List Int) (w:World) (A:Nat→Prop) (a:Option Addr) (cp:Nat) (hn:l.length≤64) (hr:RIs w A l a):
  Calls prog 278 #[.slice a l.length cp] w fun e w'=>Below w.heap.size w w'∧∃a' cp',e=.returned (.slice a' (Xp l 64).length cp')∧RIs w' (fun b=>w.heap.size≤b) (Xp l 64) a':=by
 have HL:=hid hr
 obtain ⟨j0,hj0,hj1',hj2,hj3⟩:=info_parts XB
 have hlen:∀N,(Xp l N).length≤64*N:=fun N=>by
  induction N with
  | zero=>simp [Xp]
  | succ N ih=>rw [Um,List.length_append];have:=List.length_filter_le (fun x=>x==(N:Int)) l;omega
 have HLN:=hid hlen
 clear hr hlen
 go_enter func278,ntmps278
 go_wp2_with fail
 go_loopg [3,4] 64 (fun gk v i' wr=>∃k:Nat,gk+k=64∧i'=.int .i64 k∧Below w.heap.size w wr∧∃D:List Int,Hid (D=Xp l k)∧Hid (wr.ownsRow w.heap.size 3 1 v D.length (D.map (Value.int .i64))))
 case atStart=>exact ⟨0,om,rfl,ZtZ,[],hid (by simp [Xp]),hid (World.ownsRow_nil _ _ _ _)⟩
 case round=>
  obtain ⟨k,hk,rfl,hb,D,HD,HO⟩:=hrel
  by_cases hlt:k < 64
  ·have hz:=hb.size
   have hd:decide ((k:Int) < 64)=true:=by simp;omega
   go_wp2_with fail
   go_loopg [3,5] (l.length) (fun gq v i' wr=>∃q:Nat,gq+q=l.length∧i'=.int .i64 q∧Below w.heap.size w wr∧∃E:List Int,Hid (E=Xp l k++(l.take q).filter (fun x=>x==(k:Int)))∧Hid (wr.ownsRow w.heap.size 3 1 v E.length (E.map (Value.int .i64))))
   case atStart=>exact ⟨0,om,rfl,hb,D,hid (by rw [HD.out];simp),HO⟩
   case round=>
    obtain ⟨q,hq,rfl,hb2,E,HE,HO2⟩:=hrel
    by_cases hlq:q < l.length
    ·obtain ⟨b,o,rfl,hA,hbs,g0⟩:=HL.out.get q hlq
     have k0:wr.cell? ⟨b,o+q,none⟩=some (.int .i64 l[q]):=(hb2.cell hbs).trans g0
     have hz2:=hb2.size
     have hs1:b < wr.heap.size:=om
     have hst:(l.take (q+1)).filter (fun x=>x==(k:Int))=(l.take q).filter (fun x=>x==(k:Int))++(if l[q]=(k:Int) then [(k:Int)] else []):=by
      rw [List.take_succ_eq_append_getElem hlq,List.filter_append]
      by_cases h:l[q]=(k:Int)
      ·rw [if_pos h,h];simp
      rw [if_neg h];simp [h]
     have hel:E.length≤64*64+64:=by
      rw [HE.out,List.length_append]
      have h1:=HLN.out k
      have h2:=List.length_filter_le (fun x=>x==(k:Int)) (l.take q)
      have h3:(l.take q).length≤64:=by rw [List.length_take];omega
      omega
     have HST:=hid hst
     clear hst g0
     by_cases h:l[q]=(k:Int)
     ·have hq0:(l[q]==(k:Int))=true:=by simpa using h
      have HST2:=HST.out
      rw [if_pos h] at HST2
      have HST3:=hid HST2
      clear HST HST2 h
      go_wp2_with (at_builtin;refine wpList_append_lies _ rfl _ _ 215 rfl w.heap.size 3 j0 (.int .i64 0) 1 8 underlying215 hj0 hj1' hj2 hj3 rfl (by decide) _ E.length _ (by rfl) (HO2.out.alloc _) ⟨wr.heap.size,0,none⟩ 1 1 [.int .i64 k] (by rfl) rfl (cell_one_new _ _ _) (by simp [Value.oneCell']) (by decide) (by unfold maxLen;omega) om (by simp;omega) (wr.heap.size+1) sm ?_;intro g cap w4 hown hgrow hat hlt1)
      have hbw:Below w.heap.size wr w4:=Below.grown ((Below.refl _ _).alloc om _) hgrow (by simp;omega) (fun q e=>(HO2.out.lt _ e).1)
      go_roundg (gk - 1)
      case measure=>omega
      case rel=>exact ⟨q+1,om,by go_num,hb2.trans hbw,E++[(k:Int)],hid (by rw [HST3.out,HE.out];simp),hid (by rw [List.map_append,List.length_append];exact hown)⟩
     have hq0:(l[q]==(k:Int))=false:=by simpa using h
     have HST2:=HST.out
     rw [if_neg h] at HST2
     have HST3:=hid HST2
     clear HST HST2 h
     go_wp2_with fail
     go_roundg (gk - 1)
     case measure=>omega
     case rel=>exact ⟨q+1,om,by go_num,hb2,E,hid (by rw [HST3.out,HE.out];simp),HO2⟩
    have hjl:q=l.length:=om
    subst hjl
    go_wp2_with fail
    go_roundg (63 - k)
    case measure=>omega
    case rel=>exact ⟨k+1,om,by go_num,hb2,E,hid (by rw [Um,HE.out,List.take_length]),HO2⟩
  have hjl:k=64:=om
  subst hjl
  obtain ⟨av,cv,rfl,hrd⟩:=QW HO.out
  have HRD:=hid hrd
  clear hrd
  go_wp2_with fail
  go_ret
  have he:=HD.out
  subst he
  exact ⟨hb,av,cv,rfl,HRD.out⟩
set_option maxRecDepth 512
theorem ZdF (k:Nat):Zt (k+1)=Zt k++[(k:Int)]:=by simp [Zt,List.range_succ]
theorem ZxA {p:Prop} (h:p:=by
 go_ret2
 exact ⟨ZtZ,a',cp',rfl,ZxH (fun b h _=>by have:=hb2.size;omega) _ _ HRD.out⟩):p:=h
set_option maxRecDepth 100000
theorem Zfu (k n:Nat) (l:List Int) (w:World) (A:Nat→Prop) (a:Option Addr) (cp:Nat) (hk:k≤n) (hn:n≤64) (hl:l.length+k=n) (hd:Zhv k l) (hr:RIs w A l a):
  Calls prog 248 #[.int .i64 k,.int .i64 n,.slice a l.length cp] w fun e w'=>Below w.heap.size w w'∧∃a' cp',e=.returned (.tuple #[.slice a' (WU k l).length cp',.int .i64 0])∧RIs w' (fun b=>w.heap.size≤b) (WU k l) a':=by
 have HL:=hid hr
 have HD:=hid hd
 obtain ⟨j0,hj0,hj1',hj2,hj3⟩:=info_parts XB
 obtain ⟨hpl,hpm⟩:=QZ k l k (Zt k) (fun x hx=>Uo hx) hd
 rw [Zs] at hpl
 have hrs:Xp (XO k l k (Zt k)) 64=WU k l:=ZfS _ _ fun x hx=>by have:=hpm x hx;omega
 rw [←hrs]
 generalize hR:XO k l k (Zt k)=R at *
 have HR:=hid hR
 have hw0:IntKind.i64.wrap ((n:Int) - (k:Int))=(l.length:Int):=by rw [IntWalk.i64_in _ om];omega
 have HLN:=hid hl
 clear hr hd hR hrs hpm hl
 go_enter func248,ntmps248
 go_wp2_with (go_at_call 247;refine (ZbN k n _ hk hn).mono ?_;rintro e w1 ⟨rfl,hb1⟩)
 go_loopg [8,9] k (fun gk v i' wr=>∃q:Nat,gk+q=k∧i'=.int .i64 q∧Below w.heap.size w wr∧Hid (wr.ownsRow w.heap.size 3 1 v q ((Zt q).map (Value.int .i64))))
 case atStart=>exact ⟨0,om,rfl,hb1,hid (World.ownsRow_nil _ _ _ _)⟩
 case round=>
  obtain ⟨q,hq,rfl,hb,HO⟩:=hrel
  have hz:=hb.size
  by_cases hlt:q < k
  ·go_wp2_with (at_builtin;refine wpList_append_lies _ rfl _ _ 215 rfl w.heap.size 3 j0 (.int .i64 0) 1 8 underlying215 hj0 hj1' hj2 hj3 rfl (by decide) _ q _ (by rfl) (HO.out.alloc _) ⟨wr.heap.size,0,none⟩ 1 1 [.int .i64 q] (by rfl) rfl (cell_one_new _ _ _) (by simp [Value.oneCell']) (by decide) (by unfold maxLen;omega) om (by simp;omega) (wr.heap.size+1) sm ?_;intro g cap w4 hown hgrow hat hlt1)
   have hbw:Below w.heap.size wr w4:=Below.grown ((Below.refl _ _).alloc om _) hgrow (by simp;omega) (fun q e=>(HO.out.lt _ e).1)
   go_roundg (gk - 1)
   case measure=>omega
   case rel=>exact ⟨q+1,om,by go_num,hb.trans hbw,hid (by rw [ZdF,List.map_append];exact hown)⟩
  have hqk:q=k:=om
  subst hqk
  have HV:Hid (∃g cap,u8=.slice (some ⟨g,0,none⟩) q cap∧w.heap.size≤g∧g < wr.heap.size∧IRow 3 wr w.heap.size g cap (Zt q))∨Hid (q=0∧u8=.slice none 0 0):=by
   have h0:=HO.out
   rcases h0.2 with ⟨h1,h2⟩|⟨g,cap,cur,h1,h2,_⟩
   ·exact .inr (hid ⟨h2,h1⟩)
   refine .inl (hid ⟨g,cap,h1,h2,(h0.lt g (by rw [h1];rfl)).2,?_⟩)
   unfold IRow
   rw [Zs,←h1]
   exact h0
  rcases HV with HV|HV
  ·obtain ⟨g,cap,rfl,hg1,hg2,hrow⟩:=HV.out
   have HW0:=hid hrow
   clear HV hrow HO
   go_wp2_with fail
   go_loopg [10] (l.length) (fun gk i wr=>∃j:Nat,gk+j=l.length∧i=.int .i64 ((q+j:Nat):Int)∧Below w.heap.size w wr∧g < wr.heap.size∧∃zs:List Int,Hid (zs.length=q)∧Hid (XO q (l.drop j) (q+j) zs=R)∧Hid (IRow 3 wr w.heap.size g cap zs))
   case atStart=>exact ⟨0,om,rfl,hb,hg2,Zt q,hid (by rw [Zs]),by simpa using HR,HW0⟩
   case round=>
    obtain ⟨j,hj,rfl,hb2,hz2,zs,HZ,HP,HW⟩:=hrel
    by_cases hlt:j < l.length
    ·obtain ⟨b,o,rfl,hA,hbs,g0⟩:=HL.out.get j hlt
     have k0:wr.cell? ⟨b,o+j,none⟩=some (.int .i64 l[j]):=(hb2.cell hbs).trans g0
     obtain ⟨d0,d1⟩:=JE l q j hlt HD.out
     have hst:=Zas q l zs j (q+j) hlt
     rw [HP.out] at hst
     have hfz:=HW.out.frz
     obtain ⟨x,hx⟩:∃x:Nat,l[j]=(x:Int):=⟨l[j].toNat,om⟩
     rw [hx] at k0 d1
     simp only [hx,Int.toNat_natCast] at hst
     have hs1:b < wr.heap.size:=om
     have hkn:q+j < 64:=by have:=HLN.out;omega
     obtain ⟨i,hi⟩:∃i:Nat,i=q+j:=⟨_,rfl⟩
     rw [←hi] at d1 hst
     rw [←hi]
     have e1:i < n:=by have:=HLN.out;omega
     have e2:IntKind.i64.wrap ((i:Int) - (q:Int))=(j:Int):=by rw [IntWalk.i64_in _ om];omega
     have e3:¬(x:Int) < 0:=om
     have e4:¬i < x:=om
     have HI:=hid hi
     have hjl:j < l.length:=hlt
     clear hx d0 g0 hi
     by_cases hxk:x < q
     ·rw [if_pos om] at hst
      obtain ⟨u,hcl⟩:∃u,wr.cell? ⟨g,x,none⟩=some (.int .i64 u):=⟨_,HW.out.cell x (by have:=HZ.out;omega)⟩
      obtain ⟨s1,s2⟩:=HW.out.set x (i:Int)
      have HS:=hid s1
      have HST:=hid hst
      clear s1 s2 hst
      go_wp2_with fail
      go_roundg (gk - 1)
      case measure=>omega
      case rel=>exact ⟨j+1,om,by have:=HI.out;go_num,ZtZ,by simp;omega,_,hid (by have:=HZ.out;simp;omega),hid (by rw [HST.out,HI.out];rfl),HS⟩
     rw [if_neg om] at hst
     have HST:=hid hst
     clear hst
     go_wp2_with fail
     go_roundg (gk - 1)
     case measure=>omega
     case rel=>exact ⟨j+1,om,by have:=HI.out;go_num,ZtZ,om,zs,HZ,hid (by rw [HST.out,HI.out];rfl),HW⟩
    have hjl:j=l.length:=om
    have e1:¬q+j < n:=by have:=HLN.out;omega
    have hzR:zs=R:=by have:=HP.out;rw [hjl,List.drop_length,XO] at this;exact this
    subst hzR
    have hzq:q=zs.length:=HZ.out.symm
    have HX:=hid (fun (W:World) (h:RIs W (fun _=>True) zs (some ⟨g,0,none⟩))=>ZcL zs W (fun _=>True) _ cap om h)
    rw [←hzq] at HX
    clear hzq
    go_wp2_with (go_at_call 278;refine (HX.out _ (by exact Zuc ar _ _ (HW.out.ris trivial))).mono ?_;rintro e w3 ⟨hb3,a',cp',rfl,hrd⟩;have HRD:=hid hrd;clear hrd;have hz3:=hb2.size)
    exact ZxA
  obtain ⟨rfl,rfl⟩:=HV.out
  clear HV HO
  obtain rfl:R=[]:=List.eq_nil_of_length_eq_zero hpl
  go_wp2_with fail
  go_loopg [10] (l.length) (fun gk i wr=>∃j:Nat,gk+j=l.length∧i=.int .i64 (j:Int)∧Below w.heap.size w wr)
  case atStart=>exact ⟨0,om,rfl,hb⟩
  case round=>
   obtain ⟨j,hj,rfl,hb2⟩:=hrel
   by_cases hlt:j < l.length
   ·obtain ⟨b,o,rfl,hA,hbs,g0⟩:=HL.out.get j hlt
    have k0:wr.cell? ⟨b,o+j,none⟩=some (.int .i64 l[j]):=(hb2.cell hbs).trans g0
    obtain ⟨d0,d1⟩:=JE l 0 j hlt HD.out
    obtain ⟨x,hx⟩:∃x:Nat,l[j]=(x:Int):=⟨l[j].toNat,om⟩
    rw [hx] at k0 d1
    have hs1:b < wr.heap.size:=by have:=hb2.size;omega
    have e1:j < n:=by have:=HLN.out;omega
    have e2:IntKind.i64.wrap ((j:Int) - 0)=(j:Int):=by rw [IntWalk.i64_in _ om];omega
    have e3:¬(x:Int) < 0:=om
    have e4:¬j < x:=om
    have hjn:j < 64:=by have:=HLN.out;omega
    clear hx d0 g0
    go_wp2_with fail
    go_roundg (gk - 1)
    case measure=>omega
    case rel=>exact ⟨j+1,om,by go_num,ZtZ⟩
   have hjl:j=l.length:=om
   have e1:¬j < n:=by have:=HLN.out;omega
   go_wp2_with (go_at_call 278;refine (ZcL [] _ (fun _=>True) none 0 sm (by simp [RIs])).mono ?_;rintro e w3 ⟨hb3,a',cp',rfl,hrd⟩;have HRD:=hid hrd;clear hrd;have hz3:=hb2.size)
   exact ZxA
theorem Zel (s:ByteArray) (k n i c:Nat) (w:World) (hb:Zc s=true) (hi:i≤s.size) (hk:k≤n) (hn:n≤64) (hc:Cur w c s i false):
  Calls prog 194 #[.pointer (some ⟨c,0,none⟩),.int .i64 k,.int .i64 n] w (Zb7 c s (Xm s k n i) w):=by
 have hcs:c < w.heap.size:=World.block_lt_of_cell? _ _ hc.1.1
 have HB:=hid hb
 have HC:=hid hc
 have hdr:=Vu s (n - k) k i hi
 obtain ⟨j0,hj0,hj1',hj2,hj3⟩:=info_parts XB
 have hP1:∀j,ZJ s (n - k) k i=(none,j)→Xm s k n i=(none,j):=fun j h=>by unfold Xm;rw [h]
 have hP2:∀l j,ZJ s (n - k) k i=(some l,j)→Xm s k n i=(some (WU k l),j):=fun l j h=>by unfold Xm;rw [h]
 generalize hP:Xm s k n i=P at *
 have hR0:XP s [] (n - k) k i=ZJ s (n - k) k i:=by
  unfold XP
  rcases ZJ s (n - k) k i with ⟨_|r,q⟩<;>simp
 generalize hR:ZJ s (n - k) k i=R at *
 have HP1:=hid hP1
 have HP2:=hid hP2
 have HR0:=hid hR0
 have HDR:=hid hdr
 clear hc hb hR0 hdr hR hP1 hP2 hP
 go_enter func194,ntmps194
 go_wp2_with (go_at_call 247;refine (ZbN k n _ hk hn).mono ?_;rintro e w1 ⟨rfl,hb1⟩)
 go_loopg [8,9] (n - k) (fun gk v i' wr=>∃(q p:Nat) (D:List Int),gk+q=n - k∧i'=.int .i64 ((k+q:Nat):Int)∧p≤s.size∧But c w.heap.size w wr∧w.heap.size≤wr.heap.size∧Hid (D.length=q)∧Hid (XP s D (n - k - q) (k+q) p=R)∧Hid (Cur wr c s p false) ∧
  Hid (wr.ownsRow w.heap.size 3 1 v q (D.map (Value.int .i64))))
 case atStart=>exact ⟨0,i,[],om,rfl,hi,Zue hb1,hb1.size,rfl,by simpa using HR0,Zt3 hb1 hcs HC.out,World.ownsRow_nil _ _ _ _⟩
 case round=>
  obtain ⟨q,p,D,hq,rfl,hp,hb,hz,HL,HP,HCU,HO⟩:=hrel
  by_cases hlt:q < n - k
  ·obtain ⟨r,hr⟩:∃r,n - k - q=r+1:=⟨n - k - q - 1,om⟩
   have hst:=HP.out
   rw [hr,Ki] at hst
   obtain ⟨m,hm2⟩:∃m,m=k+q+1:=⟨_,rfl⟩
   rw [←hm2] at hst
   obtain ⟨x,hx⟩:∃x,x=k+q:=⟨_,rfl⟩
   rw [←hx]
   have hm0:0 < m∧m < 18446744073709551616:=om
   have hg1:x < n:=om
   have hg2:IntKind.i64.wrap ((x:Int)+1)=(m:Int):=by rw [IntWalk.i64_in _ om];omega
   have hg3:IntKind.u64.wrap (m:Int)=(m:Int):=by rw [IntKind.wrap_u64];omega
   have hmx:m=x+1:=om
   have HX:=hid (show k+(q+1)=m by omega)
   have HX2:=hid hmx
   have hdd:=Yk s m p hp
   rcases hD:ZN s m p with ⟨_|v',j⟩
   ·rw [hD] at hst
    have HD:=hid hD
    have HST:=hid hst
    clear hst hD hdd hr hm2 hx hmx
    go_wp2_with (go_at_call 242;refine (Yw c s p m _ _ HB.out hp hm0 rfl (by exact HCU.out)).mono ?_;rw [HD.out];rintro e w3 ⟨hb3,rfl,hc3⟩;have HC3:=hid hc3;clear hc3)
    go_ret2
    rw [HP1.out _ HST.out.symm]
    exact ⟨ZxG,rfl,HC3.out⟩
   rw [hD] at hst hdd
   have hv:=hdd.2.2 v' rfl
   have hj1:=hdd.2.1
   simp only [] at hj1 hv
   have HD:=hid hD
   have HST:=hid hst
   have hg5:IntKind.i64.wrap (v':Int)=(v':Int):=IntWalk.i64_in _ om
   have HR:=hid (show n - k - (q+1)=r by omega)
   have hq64:q < 64:=om
   clear hst hD hdd hr hm2 hx hmx
   go_wp2_with (first
    | (go_at_call 242;refine (Yw c s p m _ _ HB.out hp hm0 rfl (by exact HCU.out)).mono ?_;rw [HD.out];rintro e w3 ⟨hb3,rfl,hc3⟩;have HC3:=hid hc3;clear hc3;have hz3:=hb3.size;have HO3:=hid (Vf HO.out hb3 (fun q hq=>(by have:=HO.out.lt _ hq;omega))))
    | (at_builtin;refine wpList_append_lies _ rfl _ _ 215 rfl w.heap.size 3 j0 (.int .i64 0) 1 8 underlying215 hj0 hj1' hj2 hj3 rfl (by decide) _ q _ (by rfl) (HO3.out.alloc _) ⟨w3.heap.size,0,none⟩ 1 1 [.int .i64 v'] (by rfl) rfl (cell_one_new _ _ _) (by simp [Value.oneCell']) (by decide) (by unfold maxLen;omega) om (by simp;omega) (w3.heap.size+1) sm ?_;intro g cap w4 hown hgrow hat hlt1))
   have hbw:Below w.heap.size w3 w4:=Below.grown ((Below.refl _ _).alloc om _) hgrow (by simp;omega) (fun q e=>(HO3.out.lt _ e).1)
   go_roundg (gk - 1)
   case measure=>omega
   case rel=>
    refine ⟨q+1,j,D++[(v':Int)],om,by rw [HX.out,HX2.out],hj1,(hb.trans (hb3.mono hz)).trans (Zue hbw),by have:=hbw.size;omega,by have:=HL.out;simp [Hid];exact this,?_,Zt3 hbw hcs HC3.out,hid ?_⟩
    ·rw [HR.out,HX.out];exact HST
    rw [List.map_append];exact hown
  have hjl:q=n - k:=om
  have hst:=HP.out
  rw [hjl,Nat.sub_self] at hst
  have hst2:R=(some D,p):=by rw [←hst];simp [XP,ZJ]
  have hdr:=HDR.out.2.2 D (by rw [hst2])
  obtain ⟨av,cv,rfl,hrd⟩:=QW HO.out
  have HRD:=hid hrd
  have HF:=hid (HP2.out D p hst2)
  have hdl:D.length+k=n:=om
  have HDN:=hid hdr.2
  have hg1:¬k+q < n:=om
  have HDL:=hid hdl
  have hqd:q=D.length:=HL.out.symm
  clear hst hst2 hdr hrd hdl
  go_wp2_with (go_at_call 248;refine (Zfu k n D _ _ av cv hk hn HDL.out HDN.out (by exact HRD.out)).mono ?_;rintro e w3 ⟨hb3,a',cp',rfl,hrow⟩;have HRW:=hid hrow;clear hrow)
  go_ret2
  rw [HF.out]
  exact ⟨ZxG,⟨_,_,rfl,ZxH (fun b h _=>by first|omega|(simp at h;omega)) _ _ HRW.out⟩,Zt3 hb3 om HCU.out⟩
set_option maxRecDepth 512
theorem ZbM (s:ByteArray) (k n i c:Nat) (K:Int) (hK:K=k) (w:World) (hb:Zc s=true) (hi:i≤s.size) (hk:k≤n) (hn:n≤64) (hc:Cur w c s i false):
  Calls prog 194 #[.pointer (some ⟨c,0,none⟩),.int .i64 K,.int .i64 n] w (Zb7 c s (Xm s k n i) w):=by
 subst hK
 exact Zel s k n i c w hb hi hk hn hc
set_option maxRecDepth 100000
set_option maxHeartbeats 4000000
theorem Zk3 (c:Nat) (s:ByteArray) (f:Nat) (ih:WT c s f) (t:GT) (i:Nat) (w:World) (m:TA) (hb:Zc s=true) (hk:t.k=8) (hn:ZG t=0) (hx:∀x∈t.a,Zp false x∧okT x∧∃k n,wkT f x [] k n≠none) (hi:i≤s.size) (hc:Cur w c s i false) (hl:RT w (fun b=>b≠c) t m):
  Calls prog 117 #[.pointer (some ⟨c,0,none⟩),TV t m] w (WL c s (Zd s (f+1) t [] i) w):=by
 rw [ZaU s f t [] i hk]
 obtain ⟨ma,mb,mc,md,me,mf,mg,mh,mi,mj,mk,ml⟩:=m
 have h64:=Wt hn (.inr (.inr hk))
 obtain ⟨hp0,hp1⟩:=JV hn hk
 obtain ⟨kk,hkk⟩:∃kk:Nat,t.lo=(kk:Int):=⟨t.lo.toNat,om⟩
 have hkn:t.lo.toNat=kk:=om
 have hkl:kk≤t.a.length:=om
 rw [hkn]
 have HKK:=hid hkk
 obtain ⟨c1,c2',c3⟩:=ZbE s kk t.a.length i hi hkl
 have HL:=hid (RTs.mono (A':=fun b=>b≠c∧b < w.heap.size) (fun b h hb=>⟨h,hb⟩) _ _ (Zo.1 hl).2.2.2.2)
 have HC:=hid hc
 have HB:=hid hb
 have HX:=hid hx
 have IH:=hid ih
 have hcs:c < w.heap.size:=World.block_lt_of_cell? _ _ hc.1.1
 have hk1:(t.k==1)=false:=by simp [hk]
 have hk2:(t.k==2)=false:=by simp [hk]
 have hk3:(t.k==3)=false:=by simp [hk]
 have hk4:(t.k==4)=false:=by simp [hk]
 have hk5:(t.k==5)=false:=by simp [hk]
 have hk6:(t.k==6)=false:=by simp [hk]
 have hk7:(t.k==7)=false:=by simp [hk]
 have hk8:(t.k==8)=true:=by simp [hk]
 obtain ⟨i0,hi0,g0,g1,g2⟩:=info_parts Uy
 clear hc hk hl hx ih hn hb c1 hkn hkk hp0 hp1
 rcases hP:Xm s kk t.a.length i with ⟨_|row,j⟩
 ·have HP:=hid hP
  clear hP c2' c3
  show Calls _ _ _ _ (WL c s (.no 2) w)
  go_enter func117,ntmps117
  go_wp2_with (go_at_call 194;refine (ZbM s kk t.a.length i c t.lo HKK.out _ HB.out hi hkl h64 (by exact Zt3 (B:=w.heap.size) ZtZ hcs HC.out)).mono ?_;rw [HP.out];rintro e1 w3 ⟨hb3,rfl,hc3⟩;clear hc3;have hz3:=hb3.size;(try simp at hz3);obtain ⟨hc3,hf3⟩:=ZE hb3;have y1:w.heap.size+1 < w3.heap.size:=om;have y2:¬w.heap.size+1=c:=om;have y3:¬w.heap.size=c:=om)
  refine bodyPost_ret (v:=(.tuple #[VV ⟨0,0,[]⟩ ⟨none,0⟩,.int .u8 2])) (by first|(simp [results,Tryz.f117,go_sem];done)|(simp [results,Tryz.f117,go_sem, *];done)) rfl ?_
  exact ⟨ZxG,rfl,om,om⟩
 rw [hP] at c2' c3
 dsimp only at c2' c3
 obtain ⟨hr1,hr2⟩:=c3 row rfl
 have HM:=hid hr2
 have hr64:row.length≤64:=om
 have HPL0:=hid (X6 _ _ hr2)
 have HG:=hid (fun x (hx:x∈YC t.a row)=>HX.out x (QY hx))
 have HP:=hid hP
 clear hP c3 hr2 hr1
 simp only [Y2,Res.bind]
 generalize hA:Xt (fun x=>Zd s f x []) (YC t.a row) j=A
 have HA:=hid hA
 clear hA
 go_enter func117,ntmps117
 go_wp2_with (go_at_call 194;refine (ZbM s kk t.a.length i c t.lo HKK.out _ HB.out hi hkl h64 (by exact Zt3 (B:=w.heap.size) ZtZ hcs HC.out)).mono ?_;rw [HP.out];rintro e1 w3 ⟨hb3,⟨a3,cp3,rfl,hri⟩,hc3⟩;have HC3:=hid hc3;have HI:=hid hri;clear hc3 hri;have hz3:=hb3.size;(try simp at hz3);have y1:w.heap.size+1 < w3.heap.size:=om;have y2:¬w.heap.size+1=c:=om;have y3:¬w.heap.size=c:=om;have hbb3:But c w.heap.size w w3:=ZxG;have HZ3:=hid (show ZRes w3 (w.heap.size+1) from (by obtain ⟨hc3,hf3⟩:=ZE hb3;exact ⟨⟨gs,gs,gs⟩,gs,gs,gs⟩));have HQ3:=hid (show w3.cell? ⟨w.heap.size,14,none⟩=some (.slice mk t.a.length ml) from (by obtain ⟨hc3,hf3⟩:=ZE hb3;go_simp));have HR3:=hid (RTs.mono (A':=fun b=>b≠c∧b < w3.heap.size) (fun b h hb=>⟨h.1,hb⟩) _ _ (RTs.ext (fun q u hq hcq=>Zt0 hbb3 q u hq.1 hcq) _ _ HL.out));clear hb3)
 go_loopg [27,28] (row.length) (fun gk t27 i' wr=>∃(k:Nat) (ps:List (GT×TA)) (v:Value),v=t27∧gk+k=row.length∧i'=.int .i64 k∧Below w3.heap.size w3 wr∧Hid (ps.length=k)∧Hid (ps.map Prod.fst=YC t.a (row.take k)) ∧
   Hid (wr.ownsRow w3.heap.size 31 15 v k (Vc ps))∧Hid (∀q∈ps,RT wr (Own w3.heap.size (fun b=>b≠c) v) q.1 q.2))
 case atStart=>exact ⟨0,[],_,rfl,om,rfl,Below.refl _ _,hid rfl,hid rfl,hid (World.ownsRow_nil _ _ _ _),hid (fun q hq=>by simp at hq)⟩
 case round=>
  obtain ⟨k,ps,v,rfl,hk,rfl,hbr,HPL,HPS,HO,HQ⟩:=hrel
  have hzr:=hbr.size
  by_cases hlt:k < row.length
  ·obtain ⟨b1,o1,rfl,hA1,hbs1,h1⟩:=HI.out.get k hlt
   obtain ⟨x0,x1⟩:=HM.out row[k] (List.getElem_mem hlt)
   obtain ⟨n,hn⟩:∃n:Nat,row[k]=(n:Int):=⟨row[k].toNat,om⟩
   have hnl:n < t.a.length:=om
   have hnI:(n:Int) < (t.a.length:Int):=om
   have hn0:(0:Int)≤(n:Int):=om
   have hkI:(k:Int) < (row.length:Int):=om
   have hk0:(0:Int)≤(k:Int):=om
   have hst:=UZ t.a row k hlt n hn hnl
   rw [hn] at h1
   have r0:wr.cell? ⟨b1,o1+k,none⟩=some (.int .i64 n):=(hbr.cell hbs1).trans h1
   have rq:wr.cell? ⟨w.heap.size,14,none⟩=some (.slice mk t.a.length ml):=(hbr.cell (p:=⟨w.heap.size,14,none⟩) (by simp;omega)).trans HQ3.out
   obtain ⟨b,o,mj',rfl,hA,hbs,h0,gx⟩:=HR3.out.get n hnl
   obtain ⟨z0,z1,z2,z3,z4,z5,z6,z7,z8,z9,za,zb,zc,zd,ze⟩:=Yp.1 (h0.ext (ZtY hbr) (A:=fun _=>True) trivial)
   have hs0:w.heap.size < w3.heap.size:=om
   have hs1:b < w3.heap.size:=om
   have hs2:b1 < w3.heap.size:=om
   have HST:=hid hst
   have hownk:∀q,v.ownBlock=some q→w3.heap.size≤q:=fun q e=>(HO.out.lt _ e).1
   have HK:=hid hownk
   clear h0 h1 hn x0 x1 hst hownk
   go_wp2_with fail
   go_region_held3 (fun W=>∀c' q,c' < w3.heap.size→W.cell? ⟨c',q,none⟩=wr.cell? ⟨c',q,none⟩) ((intro c' q hc';refine Below.cell (B:=w3.heap.size) (w:=wr) (p:=⟨c',q,none⟩) ?_ hc';((repeat (first|with_reducible exact Below.refl _ _|with_reducible assumption|with_reducible refine Below.trans ?_ (Below.mono (by with_reducible assumption) (by first|omega|(simp;done)|(simp;omega)))|with_reducible refine Below.drew ?_|with_reducible refine Below.alloc ?_ (by first|omega|(simp;done)|(simp;omega)) _|with_reducible refine Below.setCell ?_ (by first|omega|(simp;done)|(simp;omega)) _));done))) ((refine step_append_lies _ (by rfl) _ _ 29 (by rfl) w3.heap.size 31 i0 _ 15 216 underlying29 hi0 g0 g1 g2 rfl (by decide) _ k _ (by rfl) (World.ownsRow.alloc (World.ownsRow.drew HO.out) _) ⟨wr.heap.size,0,none⟩ 1 1 [.int .u8 t.a[n].k,.int .u8 t.a[n].v.k,.int .i64 t.a[n].v.n,.slice mj'.va t.a[n].v.l.length mj'.vc,.slice mj'.vsa t.a[n].vs.length mj'.vsc,.int .i64 t.a[n].lo,.int .i64 t.a[n].hi,.slice mj'.wa t.a[n].w.length mj'.wc,.int .u8 t.a[n].p.k,.int .u8 t.a[n].p.v.k,.int .i64 t.a[n].p.v.n,.slice mj'.pva t.a[n].p.v.l.length mj'.pvc,.int .i64 t.a[n].p.n,.slice mj'.pa t.a[n].p.a.length mj'.pc,.slice mj'.a t.a[n].a.length mj'.c] (by rfl) (by rfl) (fun j u hu=>World.news_of_block (heap_alloc_new wr.drew _) j u (by simpa using hu)) (by simp [Value.oneCell']) (by decide) (by unfold maxLen;omega) om (by simp;omega) (wr.heap.size+1) sm ?_;intro g cap w4 hown hgrow hat hlt1;have hbw1:Below w3.heap.size wr w4:=Below.grown (((Below.refl _ _).drew).alloc (by simp;omega) _) hgrow (by simp;omega) HK.out))
   go_wp2_with fail
   have hownk:=HK.out
   have hag2:Agree (Own w3.heap.size (fun b=>b≠c) v) wr (wr.drew.alloc (.cells #[.int .u8 t.a[n].k,.int .u8 t.a[n].v.k,.int .i64 t.a[n].v.n,.slice mj'.va t.a[n].v.l.length mj'.vc,.slice mj'.vsa t.a[n].vs.length mj'.vsc,.int .i64 t.a[n].lo,.int .i64 t.a[n].hi,.slice mj'.wa t.a[n].w.length mj'.wc,.int .u8 t.a[n].p.k,.int .u8 t.a[n].p.v.k,.int .i64 t.a[n].p.v.n,.slice mj'.pva t.a[n].p.v.l.length mj'.pvc,.int .i64 t.a[n].p.n,.slice mj'.pa t.a[n].p.a.length mj'.pc,.slice mj'.a t.a[n].a.length mj'.c] 31)):=ZtY (((Below.refl _ _).drew).alloc (Nat.le_refl _) _)
   go_roundg (gk - 1)
   case measure=>omega
   case rel=>
    refine ⟨k+1,ps++[(t.a[n],mj')],_,rfl,om,by go_num,hbr.trans hbw1,hid (by have:=HPL.out;simp;omega),hid (by rw [List.map_append,HPS.out,HST.out];rfl),hid ?_,hid ?_⟩
    ·rw [WF];exact hown
    intro q hq
    rcases List.mem_append.1 hq with hq|hq
    ·exact RT.own hgrow hownk hat sm (Zt2 hag2 _ _ (HQ.out q hq))
    simp at hq
    subst hq
    exact RT.own hgrow hownk hat sm (Zt2 hag2 _ _ (Zud (fun b h hb=>.inl h) _ _ (Zt2 (ZtY hbr) _ _ gx)))
  have hjl:k=row.length:=om
  subst hjl
  have hst:=HPS.out
  rw [List.take_length] at hst
  obtain ⟨av,cv,hav,hrd⟩:=VJ (A:=fun b=>b≠c) HO.out (fun b h=>om) (fun q hq=>Zud (fun b hb _=>by rcases hb with ⟨h,_⟩|⟨h,_⟩;exact h;omega) _ _ (HQ.out q hq))
  rw [hst] at hav hrd
  subst hav
  have HRD:=hid hrd
  have hcs3:c < w3.heap.size:=om
  have HC5:=hid (Zt3 hbr hcs3 HC3.out)
  have HZ5:=hid (HZ3.out.but (c:=c) (Zue hbr) y1 y2)
  have y5:w.heap.size+1 < wr.heap.size:=om
  clear hst hrd HO HQ HPS HPL HR3
  rcases A with ⟨l,q⟩|⟨k'⟩
  ·go_wp2_with (first
    | (go_at_call 190;refine (XU c s f IH.out (YC t.a row) j _ av cv (by have:=HPL0.out;omega) HG.out c2' (by exact HC5.out) (by exact HRD.out)).mono ?_;rw [HA.out];rintro e w4 ⟨hb4,⟨a4,cp4,rfl,hrv⟩,hc4⟩;have HC4:=hid hc4;have HRV:=hid hrv;clear hc4 hrv;have hz4:=hb4.size;(try simp at hz4);obtain ⟨⟨q0,q1,q2⟩,f0,f1,f2⟩:=HZ5.out.but hb4 y5 y2;have y6:w.heap.size+1 < w4.heap.size:=om)
    | (go_at_call 191;refine (U2 4 a4 l.length cp4 _).mono ?_;rintro e w5 ⟨rfl,hb5⟩;have hz5:=hb5.size;(try simp at hz5);obtain ⟨hc5,hf5⟩:=Za hb5;have y7:w.heap.size+1 < w5.heap.size:=om))
   refine bodyPost_ret (v:=(.tuple #[VV ⟨4,0,l⟩ ⟨a4,cp4⟩,.int .u8 1])) (by first|(simp [results,Tryz.f117,go_sem];done)|(simp [results,Tryz.f117,go_sem, *];done)) rfl ?_
   exact ⟨ZxG,⟨⟨a4,cp4⟩,rfl,Zl.2 (Zug (fun b hb _=>by (try simp at hb);omega) _ _ (Zt8 ((ZtY (show Below w4.heap.size w4 w5 from ZtZ)).trans (((Zt4 so).trans (Zt4 so)).trans (Zt4 so))) _ _ HRV.out))⟩,Zt3 (B:=w.heap.size+1) ZtZ om HC4.out⟩
  go_wp2_with (first
   | (go_at_call 190;refine (XU c s f IH.out (YC t.a row) j _ av cv (by have:=HPL0.out;omega) HG.out c2' (by exact HC5.out) (by exact HRD.out)).mono ?_;rw [HA.out];rintro e w4 ⟨hb4,rfl,hk8,hk9⟩;have hz4:=hb4.size;(try simp at hz4);obtain ⟨⟨q0,q1,q2⟩,f0,f1,f2⟩:=HZ5.out.but hb4 y5 y2;have y6:w.heap.size+1 < w4.heap.size:=om)
   | (go_at_call 191;refine (KE 4 k' none 0 0 _ (by simp;omega)).mono ?_;rintro e w5 ⟨rfl,hb5⟩;have hz5:=hb5.size;(try simp at hz5);obtain ⟨hc5,hf5⟩:=Za hb5;have y7:w.heap.size+1 < w5.heap.size:=om))
  refine bodyPost_ret (v:=(.tuple #[VV ⟨0,0,[]⟩ ⟨none,0⟩,.int .u8 k'])) (by first|(simp [results,Tryz.f117,go_sem];done)|(simp [results,Tryz.f117,go_sem, *];done)) rfl ?_
  exact ⟨ZxG,rfl,hk8,hk9⟩
end Go.Proofs.YtkdffbdnjfgpeaaGreat
