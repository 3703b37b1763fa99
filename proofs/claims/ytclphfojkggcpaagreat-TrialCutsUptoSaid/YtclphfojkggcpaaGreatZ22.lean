/- What the proofs of the Trial statements need: part 23. -/
import Derived.Test.YtclphfojkggcpaaGreatZ11
import Derived.Test.YtclphfojkggcpaaGreatZ20
set_option linter.unusedVariables false
set_option linter.unusedSimpArgs false
namespace Go.Proofs.YtclphfojkggcpaaGreat
open Go.Lib (hid)
open Go Go.RowKit
def risenL (l:List Int) (N:Nat):List Int:=(List.range N).flatMap fun (i:Nat)=>l.filter fun x=>x==(i:Int)
theorem risenL_succ (l:List Int) (N:Nat):risenL l (N+1)=risenL l N++l.filter (fun x=>x==(N:Int)):=by
 unfold risenL
 rw [List.range_succ,List.flatMap_append]
 simp
theorem risenL_mem {l:List Int} {N:Nat} {x:Int}:x∈risenL l N↔x∈l∧0≤x∧x < N:=by
 unfold risenL
 simp only [List.mem_flatMap,List.mem_range,List.mem_filter,beq_iff_eq]
 constructor
 ·rintro ⟨i,h1,h2,h3⟩
  exact ⟨h2,by omega,by omega⟩
 ·rintro ⟨h1,h2,h3⟩
  exact ⟨x.toNat,by omega,h1,by omega⟩
theorem risenL_sorted (l:List Int):∀N,(risenL l N).Pairwise (fun a b=>leI a b=true)
 | 0=>by simp [risenL]
 | N+1=>by
  rw [risenL_succ,List.pairwise_append]
  refine ⟨risenL_sorted l N,?_,fun a ha b hb=>?_⟩
  ·refine List.Pairwise.imp_of_mem (R:=fun _ _=>True) (fun {a b} ha hb _=>?_) (List.pairwise_of_forall fun _ _=>trivial)
   have h1:=(List.mem_filter.1 ha).2
   have h2:=(List.mem_filter.1 hb).2
   simp only [beq_iff_eq] at h1 h2
   simp [leI];omega
  ·have h1:=(risenL_mem.1 ha).2.2
   have h2:=(List.mem_filter.1 hb).2
   simp only [beq_iff_eq] at h2
   simp [leI];omega
theorem risenL_count (l:List Int) (x:Int):∀N,(risenL l N).count x=if 0≤x∧x < N then l.count x else 0
 | 0=>by rw [if_neg (by omega)];simp [risenL]
 | N+1=>by
  rw [risenL_succ,List.count_append,risenL_count l x N]
  by_cases h:x=(N:Int)
  ·subst h
   rw [if_neg (by omega),if_pos (by omega),List.count_filter (by simp)]
   omega
  ·have h2:(l.filter fun y=>y==(N:Int)).count x=0:=List.count_eq_zero.2 fun hm=>h (by have:=(List.mem_filter.1 hm).2;simpa using this)
   rw [h2]
   by_cases h3:0≤x∧x < N
   ·rw [if_pos h3,if_pos (by omega)];rfl
   ·rw [if_neg h3,if_neg (by omega)]
theorem risen_sort (l:List Int) (N:Nat) (h:∀x∈l,0≤x∧x < N):risenL l N=l.mergeSort leI:=by
 have hp:(risenL l N).Perm l:=List.perm_iff_count.2 fun x=>by
  rw [risenL_count]
  by_cases hx:0≤x∧x < N
  ·rw [if_pos hx]
  ·rw [if_neg hx,List.count_eq_zero.2 fun hm=>hx (h x hm)]
 refine List.Perm.eq_of_pairwise (le:=fun a b=>leI a b=true) (fun a b _ _ h1 h2=>?_) (risenL_sorted l N) (List.pairwise_mergeSort (fun a b c=>?_) (fun a b=>?_) l) (hp.trans (List.mergeSort_perm l leI).symm)
 ·simp [leI] at h1 h2;omega
 ·simp [leI];omega
 ·simp [leI];omega
theorem r13May_any (k n:Nat) (w:World) (hk:k≤n) (hn:n≤64):Calls Tryz.prog 117 #[.int .i64 k,.int .i64 n] w fun e w'=>e=.returned (.bool true)∧Below w.heap.size w w':=by
 have h1:decide ((0:Int)≤(n:Int))=true:=by simp
 have h2:decide ((n:Int)≤64)=true:=by simp;omega
 have h3:decide ((0:Int)≤(k:Int))=true:=by simp
 have h4:decide ((k:Int)≤(n:Int))=true:=by simp;omega
 go_enter Tryz.func117,Tryz.ntmps117
 go_wp2_with fail
 go_ret
 exact ⟨by simp [*],Below.r⟩
set_option maxRecDepth 100000 in
set_option maxHeartbeats 1000000 in
theorem risen_any (l:List Int) (w:World) (A:Nat→Prop) (a:Option Addr) (cp:Nat) (hn:l.length≤64) (hr:RIs w A l a):
  Calls Tryz.prog 147 #[.slice a l.length cp] w fun e w'=>Below w.heap.size w w'∧∃a' cp',e=.returned (.slice a' (risenL l 64).length cp')∧RIs w' (fun b=>w.heap.size≤b) (risenL l 64) a':=by
 have HL:=hid hr
 obtain ⟨j0,hj0,hj1',hj2,hj3⟩:=info_parts infoInt
 have hlen:∀N,(risenL l N).length≤64*N:=fun N=>by
  induction N with
  | zero=>simp [risenL]
  | succ N ih=>rw [risenL_succ,List.length_append];have:=List.length_filter_le (fun x=>x==(N:Int)) l;omega
 have HLN:=hid hlen
 clear hr hlen
 go_enter Tryz.func147,Tryz.ntmps147
 go_wp2_with fail
 go_loopg [3,4] 64 (fun gk v i' wr=>∃k:Nat,gk+k=64∧i'=.int .i64 k∧Below w.heap.size w wr∧∃D:List Int,Hid (D=risenL l k)∧Hid (wr.ownsRow w.heap.size 3 1 v D.length (D.map (Value.int .i64))))
 case atStart=>exact ⟨0,by omega,rfl,Below.r,[],hid (by simp [risenL]),hid (World.ownsRow_nil _ _ _ _)⟩
 case round=>
  obtain ⟨k,hk,rfl,hb,D,HD,HO⟩:=hrel
  by_cases hlt:k < 64
  ·have hz:=hb.size
   have hd:decide ((k:Int) < 64)=true:=by simp;omega
   go_wp2_with fail
   go_loopg [3,5] (l.length) (fun gq v i' wr=>∃q:Nat,gq+q=l.length∧i'=.int .i64 q∧Below w.heap.size w wr∧∃E:List Int,Hid (E=risenL l k++(l.take q).filter (fun x=>x==(k:Int)))∧Hid (wr.ownsRow w.heap.size 3 1 v E.length (E.map (Value.int .i64))))
   case atStart=>exact ⟨0,by omega,rfl,hb,D,hid (by rw [HD.out];simp),HO⟩
   case round=>
    obtain ⟨q,hq,rfl,hb2,E,HE,HO2⟩:=hrel
    by_cases hlq:q < l.length
    ·obtain ⟨b,o,rfl,hA,hbs,g0⟩:=HL.out.get q hlq
     have k0:wr.cell? ⟨b,o+q,none⟩=some (.int .i64 l[q]):=(hb2.cell hbs).trans g0
     have hz2:=hb2.size
     have hs1:b < wr.heap.size:=by omega
     have hst:(l.take (q+1)).filter (fun x=>x==(k:Int))=(l.take q).filter (fun x=>x==(k:Int))++(if l[q]=(k:Int) then [(k:Int)] else []):=by
      rw [List.take_succ_eq_append_getElem hlq,List.filter_append]
      by_cases h:l[q]=(k:Int)
      ·rw [if_pos h,h];simp
      ·rw [if_neg h];simp [h]
     have hel:E.length≤64*64+64:=by
      rw [HE.out,List.length_append]
      have h1:=HLN.out k
      have h2:=List.length_filter_le (fun x=>x==(k:Int)) (l.take q)
      have h3:(l.take q).length≤64:=by rw [List.length_take];omega
      omega
     have HST:=hid hst
     clear hst g0
     by_cases h:l[q]=(k:Int)
     ·have hq0:(l[q]==(k:Int))=true:=by simpa using h
      have HST2:=HST.out
      rw [if_pos h] at HST2
      have HST3:=hid HST2
      clear HST HST2 h
      go_wp2_with (at_builtin;refine wpList_append_lies _ rfl _ _ 134 rfl w.heap.size 3 j0 (.int .i64 0) 1 8 Tryz.underlying134 hj0 hj1' hj2 hj3 rfl (by decide) _ E.length _ (by rfl) (HO2.out.alloc _) ⟨wr.heap.size,0,none⟩ 1 1 [.int .i64 k] (by rfl) rfl (cell_one_new _ _ _) (by simp [Value.oneCell']) (by decide) (by unfold maxLen;omega) (by omega) (by simp;omega) (wr.heap.size+1) (by simp) ?_;intro g cap w4 hown hgrow hat hlt1)
      have hbw:Below w.heap.size wr w4:=Below.grown ((Below.refl _ _).alloc (by omega) _) hgrow (by simp;omega) (fun q e=>(HO2.out.lt _ e).1)
      go_roundg (gk - 1)
      case measure=>omega
      case rel=>exact ⟨q+1,by omega,by go_num,hb2.trans hbw,E++[(k:Int)],hid (by rw [HST3.out,HE.out];simp),hid (by rw [List.map_append,List.length_append];exact hown)⟩
     ·have hq0:(l[q]==(k:Int))=false:=by simpa using h
      have HST2:=HST.out
      rw [if_neg h] at HST2
      have HST3:=hid HST2
      clear HST HST2 h
      go_wp2_with fail
      go_roundg (gk - 1)
      case measure=>omega
      case rel=>exact ⟨q+1,by omega,by go_num,hb2,E,hid (by rw [HST3.out,HE.out];simp),HO2⟩
    ·have hjl:q=l.length:=by omega
     subst hjl
     go_wp2_with fail
     go_roundg (63 - k)
     case measure=>omega
     case rel=>exact ⟨k+1,by omega,by go_num,hb2,E,hid (by rw [risenL_succ,HE.out,List.take_length]),HO2⟩
  ·have hjl:k=64:=by omega
   subst hjl
   obtain ⟨av,cv,rfl,hrd⟩:=owns_read HO.out
   have HRD:=hid hrd
   clear hrd
   go_wp2_with fail
   go_ret
   have he:=HD.out
   subst he
   exact ⟨hb,av,cv,rfl,HRD.out⟩
theorem thingsI_succ (k:Nat):thingsI (k+1)=thingsI k++[(k:Int)]:=by simp [thingsI,List.range_succ]
set_option maxRecDepth 100000 in
set_option maxHeartbeats 1000000 in
theorem r13Row_any (k n:Nat) (l:List Int) (w:World) (A:Nat→Prop) (a:Option Addr) (cp:Nat) (hk:k≤n) (hn:n≤64) (hl:l.length+k=n) (hd:upOk k l) (hr:RIs w A l a):
  Calls Tryz.prog 118 #[.int .i64 k,.int .i64 n,.slice a l.length cp] w fun e w'=>Below w.heap.size w w'∧∃a' cp',e=.returned (.tuple #[.slice a' (poolRow k l).length cp',.int .i64 0])∧RIs w' (fun b=>w.heap.size≤b) (poolRow k l) a':=by
 have HL:=hid hr
 have HD:=hid hd
 obtain ⟨j0,hj0,hj1',hj2,hj3⟩:=info_parts infoInt
 obtain ⟨hpl,hpm⟩:=poolGo_in k l k (thingsI k) (fun x hx=>thingsI_mem hx) hd
 rw [thingsI_length] at hpl
 have hrs:risenL (poolGo k l k (thingsI k)) 64=poolRow k l:=risen_sort _ _ fun x hx=>by have:=hpm x hx;omega
 rw [←hrs]
 generalize hR:poolGo k l k (thingsI k)=R at *
 have HR:=hid hR
 have hw0:IntKind.i64.wrap ((n:Int) - (k:Int))=(l.length:Int):=by rw [IntWalk.i64_in _ (by omega)];omega
 have HLN:=hid hl
 clear hr hd hR hrs hpm hl
 go_enter Tryz.func118,Tryz.ntmps118
 go_wp2_with (go_at_call 117;refine (r13May_any k n _ hk hn).mono ?_;rintro e w1 ⟨rfl,hb1⟩)
 go_loopg [8,9] k (fun gk v i' wr=>∃q:Nat,gk+q=k∧i'=.int .i64 q∧Below w.heap.size w wr∧Hid (wr.ownsRow w.heap.size 3 1 v q ((thingsI q).map (Value.int .i64))))
 case atStart=>exact ⟨0,by omega,rfl,hb1,hid (World.ownsRow_nil _ _ _ _)⟩
 case round=>
  obtain ⟨q,hq,rfl,hb,HO⟩:=hrel
  have hz:=hb.size
  by_cases hlt:q < k
  ·go_wp2_with (at_builtin;refine wpList_append_lies _ rfl _ _ 134 rfl w.heap.size 3 j0 (.int .i64 0) 1 8 Tryz.underlying134 hj0 hj1' hj2 hj3 rfl (by decide) _ q _ (by rfl) (HO.out.alloc _) ⟨wr.heap.size,0,none⟩ 1 1 [.int .i64 q] (by rfl) rfl (cell_one_new _ _ _) (by simp [Value.oneCell']) (by decide) (by unfold maxLen;omega) (by omega) (by simp;omega) (wr.heap.size+1) (by simp) ?_;intro g cap w4 hown hgrow hat hlt1)
   have hbw:Below w.heap.size wr w4:=Below.grown ((Below.refl _ _).alloc (by omega) _) hgrow (by simp;omega) (fun q e=>(HO.out.lt _ e).1)
   go_roundg (gk - 1)
   case measure=>omega
   case rel=>exact ⟨q+1,by omega,by go_num,hb.trans hbw,hid (by rw [thingsI_succ,List.map_append];exact hown)⟩
  ·have hqk:q=k:=by omega
   subst hqk
   have HV:Hid (∃g cap,u8=.slice (some ⟨g,0,none⟩) q cap∧w.heap.size≤g∧g < wr.heap.size∧IRow 3 wr w.heap.size g cap (thingsI q))∨Hid (q=0∧u8=.slice none 0 0):=by
    have h0:=HO.out
    rcases h0.2 with ⟨h1,h2⟩|⟨g,cap,cur,h1,h2,_⟩
    ·exact .inr (hid ⟨h2,h1⟩)
    ·refine .inl (hid ⟨g,cap,h1,h2,(h0.lt g (by rw [h1];rfl)).2,?_⟩)
     unfold IRow
     rw [thingsI_length,←h1]
     exact h0
   rcases HV with HV|HV
   ·obtain ⟨g,cap,rfl,hg1,hg2,hrow⟩:=HV.out
    have HW0:=hid hrow
    clear HV hrow HO
    go_wp2_with fail
    go_loopg [10] (l.length) (fun gk i wr=>∃j:Nat,gk+j=l.length∧i=.int .i64 ((q+j:Nat):Int)∧Below w.heap.size w wr∧g < wr.heap.size∧∃zs:List Int,Hid (zs.length=q)∧Hid (poolGo q (l.drop j) (q+j) zs=R)∧Hid (IRow 3 wr w.heap.size g cap zs))
    case atStart=>exact ⟨0,by omega,rfl,hb,hg2,thingsI q,hid (by rw [thingsI_length]),by simpa using HR,HW0⟩
    case round=>
     obtain ⟨j,hj,rfl,hb2,hz2,zs,HZ,HP,HW⟩:=hrel
     by_cases hlt:j < l.length
     ·obtain ⟨b,o,rfl,hA,hbs,g0⟩:=HL.out.get j hlt
      have k0:wr.cell? ⟨b,o+j,none⟩=some (.int .i64 l[j]):=(hb2.cell hbs).trans g0
      obtain ⟨d0,d1⟩:=upOk_get l q j hlt HD.out
      have hst:=poolGo_drop q l zs j (q+j) hlt
      rw [HP.out] at hst
      have hfz:=HW.out.frz
      obtain ⟨x,hx⟩:∃x:Nat,l[j]=(x:Int):=⟨l[j].toNat,by omega⟩
      rw [hx] at k0 d1
      simp only [hx,Int.toNat_natCast] at hst
      have hs1:b < wr.heap.size:=by omega
      have hkn:q+j < 64:=by have:=HLN.out;omega
      obtain ⟨i,hi⟩:∃i:Nat,i=q+j:=⟨_,rfl⟩
      rw [←hi] at d1 hst
      rw [←hi]
      have e1:i < n:=by have:=HLN.out;omega
      have e2:IntKind.i64.wrap ((i:Int) - (q:Int))=(j:Int):=by rw [IntWalk.i64_in _ (by omega)];omega
      have e3:¬(x:Int) < 0:=by omega
      have e4:¬i < x:=by omega
      have HI:=hid hi
      have hjl:j < l.length:=hlt
      clear hx d0 g0 hi
      by_cases hxk:x < q
      ·rw [if_pos (by omega)] at hst
       obtain ⟨u,hcl⟩:∃u,wr.cell? ⟨g,x,none⟩=some (.int .i64 u):=⟨_,HW.out.cell x (by have:=HZ.out;omega)⟩
       obtain ⟨s1,s2⟩:=HW.out.set x (i:Int)
       have HS:=hid s1
       have HST:=hid hst
       clear s1 s2 hst
       go_wp2_with fail
       go_roundg (gk - 1)
       case measure=>omega
       case rel=>exact ⟨j+1,by omega,by have:=HI.out;go_num,Below.r,by simp;omega,_,hid (by have:=HZ.out;simp;omega),hid (by rw [HST.out,HI.out];rfl),HS⟩
      ·rw [if_neg (by omega)] at hst
       have HST:=hid hst
       clear hst
       go_wp2_with fail
       go_roundg (gk - 1)
       case measure=>omega
       case rel=>exact ⟨j+1,by omega,by have:=HI.out;go_num,Below.r,by omega,zs,HZ,hid (by rw [HST.out,HI.out];rfl),HW⟩
     ·have hjl:j=l.length:=by omega
      have e1:¬q+j < n:=by have:=HLN.out;omega
      have hzR:zs=R:=by have:=HP.out;rw [hjl,List.drop_length,poolGo] at this;exact this
      subst hzR
      have hzq:q=zs.length:=HZ.out.symm
      have HX:=hid (fun (W:World) (h:RIs W (fun _=>True) zs (some ⟨g,0,none⟩))=>risen_any zs W (fun _=>True) _ cap (by omega) h)
      rw [←hzq] at HX
      clear hzq
      go_wp2_with (go_at_call 147;refine (HX.out _ (by exact RIs.ext (Agree.below Below.r) _ _ (HW.out.ris trivial))).mono ?_;rintro e w3 ⟨hb3,a',cp',rfl,hrd⟩;have HRD:=hid hrd;clear hrd;have hz3:=hb2.size)
      go_ret2
      exact ⟨Below.r,a',cp',rfl,RIs.mono (fun b h _=>by have:=hb2.size;omega) _ _ HRD.out⟩
   ·obtain ⟨rfl,rfl⟩:=HV.out
    clear HV HO
    obtain rfl:R=[]:=List.eq_nil_of_length_eq_zero hpl
    go_wp2_with fail
    go_loopg [10] (l.length) (fun gk i wr=>∃j:Nat,gk+j=l.length∧i=.int .i64 (j:Int)∧Below w.heap.size w wr)
    case atStart=>exact ⟨0,by omega,rfl,hb⟩
    case round=>
     obtain ⟨j,hj,rfl,hb2⟩:=hrel
     by_cases hlt:j < l.length
     ·obtain ⟨b,o,rfl,hA,hbs,g0⟩:=HL.out.get j hlt
      have k0:wr.cell? ⟨b,o+j,none⟩=some (.int .i64 l[j]):=(hb2.cell hbs).trans g0
      obtain ⟨d0,d1⟩:=upOk_get l 0 j hlt HD.out
      obtain ⟨x,hx⟩:∃x:Nat,l[j]=(x:Int):=⟨l[j].toNat,by omega⟩
      rw [hx] at k0 d1
      have hs1:b < wr.heap.size:=by have:=hb2.size;omega
      have e1:j < n:=by have:=HLN.out;omega
      have e2:IntKind.i64.wrap ((j:Int) - 0)=(j:Int):=by rw [IntWalk.i64_in _ (by omega)];omega
      have e3:¬(x:Int) < 0:=by omega
      have e4:¬j < x:=by omega
      have hjn:j < 64:=by have:=HLN.out;omega
      clear hx d0 g0
      go_wp2_with fail
      go_roundg (gk - 1)
      case measure=>omega
      case rel=>exact ⟨j+1,by omega,by go_num,Below.r⟩
     ·have hjl:j=l.length:=by omega
      have e1:¬j < n:=by have:=HLN.out;omega
      go_wp2_with (go_at_call 147;refine (risen_any [] _ (fun _=>True) none 0 (by simp) (by simp [RIs])).mono ?_;rintro e w3 ⟨hb3,a',cp',rfl,hrd⟩;have HRD:=hid hrd;clear hrd;have hz3:=hb2.size)
      go_ret2
      exact ⟨Below.r,a',cp',rfl,RIs.mono (fun b h _=>by have:=hb2.size;omega) _ _ HRD.out⟩
set_option maxRecDepth 100000 in
set_option maxHeartbeats 1000000 in
theorem r13Draw_any (s:ByteArray) (k n i c:Nat) (w:World) (hb:isBits s=true) (hi:i≤s.size) (hk:k≤n) (hn:n≤64) (hc:Cur w c s i false):
  Calls Tryz.prog 81 #[.pointer (some ⟨c,0,none⟩),.int .i64 k,.int .i64 n] w (rowR c s (poolP s k n i) w):=by
 have hcs:c < w.heap.size:=World.block_lt_of_cell? _ _ hc.1.1
 have HB:=hid hb
 have HC:=hid hc
 have hdr:=poolDraws_in s (n - k) k i hi
 obtain ⟨j0,hj0,hj1',hj2,hj3⟩:=info_parts infoInt
 have hP1:∀j,poolDraws s (n - k) k i=(none,j)→poolP s k n i=(none,j):=fun j h=>by unfold poolP;rw [h]
 have hP2:∀l j,poolDraws s (n - k) k i=(some l,j)→poolP s k n i=(some (poolRow k l),j):=fun l j h=>by unfold poolP;rw [h]
 generalize hP:poolP s k n i=P at *
 have hR0:poolRest s [] (n - k) k i=poolDraws s (n - k) k i:=by
  unfold poolRest
  rcases poolDraws s (n - k) k i with ⟨_|r,q⟩<;>simp
 generalize hR:poolDraws s (n - k) k i=R at *
 have HP1:=hid hP1
 have HP2:=hid hP2
 have HR0:=hid hR0
 have HDR:=hid hdr
 clear hc hb hR0 hdr hR hP1 hP2 hP
 go_enter Tryz.func81,Tryz.ntmps81
 go_wp2_with (go_at_call 117;refine (r13May_any k n _ hk hn).mono ?_;rintro e w1 ⟨rfl,hb1⟩)
 go_loopg [8,9] (n - k) (fun gk v i' wr=>∃(q p:Nat) (D:List Int),gk+q=n - k∧i'=.int .i64 ((k+q:Nat):Int)∧p≤s.size∧But c w.heap.size w wr∧w.heap.size≤wr.heap.size∧Hid (D.length=q)∧Hid (poolRest s D (n - k - q) (k+q) p=R)∧Hid (Cur wr c s p false) ∧
  Hid (wr.ownsRow w.heap.size 3 1 v q (D.map (Value.int .i64))))
 case atStart=>exact ⟨0,i,[],by omega,rfl,hi,But.of hb1,hb1.size,rfl,by simpa using HR0,Cur.below hb1 hcs HC.out,World.ownsRow_nil _ _ _ _⟩
 case round=>
  obtain ⟨q,p,D,hq,rfl,hp,hb,hz,HL,HP,HCU,HO⟩:=hrel
  by_cases hlt:q < n - k
  ·obtain ⟨r,hr⟩:∃r,n - k - q=r+1:=⟨n - k - q - 1,by omega⟩
   have hst:=HP.out
   rw [hr,poolRest_step] at hst
   obtain ⟨m,hm2⟩:∃m,m=k+q+1:=⟨_,rfl⟩
   rw [←hm2] at hst
   obtain ⟨x,hx⟩:∃x,x=k+q:=⟨_,rfl⟩
   rw [←hx]
   have hm0:0 < m∧m < 18446744073709551616:=by omega
   have hg1:x < n:=by omega
   have hg2:IntKind.i64.wrap ((x:Int)+1)=(m:Int):=by rw [IntWalk.i64_in _ (by omega)];omega
   have hg3:IntKind.u64.wrap (m:Int)=(m:Int):=by rw [IntKind.wrap_u64];omega
   have hmx:m=x+1:=by omega
   have HX:=hid (show k+(q+1)=m by omega)
   have HX2:=hid hmx
   have hdd:=drawP_in s m p hp
   rcases hD:drawP s m p with ⟨_|v',j⟩
   ·rw [hD] at hst
    have HD:=hid hD
    have HST:=hid hst
    clear hst hD hdd hr hm2 hx hmx
    go_wp2_with (go_at_call 112;refine (r09Draw_at c s p m _ _ HB.out hp hm0 rfl (by exact HCU.out)).mono ?_;rw [HD.out];rintro e w3 ⟨hb3,rfl,hc3⟩;have HC3:=hid hc3;clear hc3)
    go_ret2
    rw [HP1.out _ HST.out.symm]
    exact ⟨But.r,rfl,HC3.out⟩
   ·rw [hD] at hst hdd
    have hv:=hdd.2.2 v' rfl
    have hj1:=hdd.2.1
    simp only [] at hj1 hv
    have HD:=hid hD
    have HST:=hid hst
    have hg5:IntKind.i64.wrap (v':Int)=(v':Int):=IntWalk.i64_in _ (by omega)
    have HR:=hid (show n - k - (q+1)=r by omega)
    have hq64:q < 64:=by omega
    clear hst hD hdd hr hm2 hx hmx
    go_wp2_with (first
     | (go_at_call 112;refine (r09Draw_at c s p m _ _ HB.out hp hm0 rfl (by exact HCU.out)).mono ?_;rw [HD.out];rintro e w3 ⟨hb3,rfl,hc3⟩;have HC3:=hid hc3;clear hc3;have hz3:=hb3.size;have HO3:=hid (owns_but HO.out hb3 (fun q hq=>(by have:=HO.out.lt _ hq;omega))))
     | (at_builtin;refine wpList_append_lies _ rfl _ _ 134 rfl w.heap.size 3 j0 (.int .i64 0) 1 8 Tryz.underlying134 hj0 hj1' hj2 hj3 rfl (by decide) _ q _ (by rfl) (HO3.out.alloc _) ⟨w3.heap.size,0,none⟩ 1 1 [.int .i64 v'] (by rfl) rfl (cell_one_new _ _ _) (by simp [Value.oneCell']) (by decide) (by unfold maxLen;omega) (by omega) (by simp;omega) (w3.heap.size+1) (by simp) ?_;intro g cap w4 hown hgrow hat hlt1))
    have hbw:Below w.heap.size w3 w4:=Below.grown ((Below.refl _ _).alloc (by omega) _) hgrow (by simp;omega) (fun q e=>(HO3.out.lt _ e).1)
    go_roundg (gk - 1)
    case measure=>omega
    case rel=>
     refine ⟨q+1,j,D++[(v':Int)],by omega,by rw [HX.out,HX2.out],hj1,(hb.trans (hb3.mono hz)).trans (But.of hbw),by have:=hbw.size;omega,by have:=HL.out;simp [Hid];exact this,?_,Cur.below hbw hcs HC3.out,hid ?_⟩
     ·rw [HR.out,HX.out];exact HST
     ·rw [List.map_append];exact hown
  ·have hjl:q=n - k:=by omega
   have hst:=HP.out
   rw [hjl,Nat.sub_self] at hst
   have hst2:R=(some D,p):=by rw [←hst];simp [poolRest,poolDraws]
   have hdr:=HDR.out.2.2 D (by rw [hst2])
   obtain ⟨av,cv,rfl,hrd⟩:=owns_read HO.out
   have HRD:=hid hrd
   have HF:=hid (HP2.out D p hst2)
   have hdl:D.length+k=n:=by omega
   have HDN:=hid hdr.2
   have hg1:¬k+q < n:=by omega
   have HDL:=hid hdl
   have hqd:q=D.length:=HL.out.symm
   clear hst hst2 hdr hrd hdl
   go_wp2_with (go_at_call 118;refine (r13Row_any k n D _ _ av cv hk hn HDL.out HDN.out (by exact HRD.out)).mono ?_;rintro e w3 ⟨hb3,a',cp',rfl,hrow⟩;have HRW:=hid hrow;clear hrow)
   go_ret2
   rw [HF.out]
   exact ⟨But.r,⟨_,_,rfl,RIs.mono (fun b h _=>by first|omega|(simp at h;omega)) _ _ HRW.out⟩,Cur.below hb3 (by omega) HCU.out⟩
end Go.Proofs.YtclphfojkggcpaaGreat
