/- Part 29. -/
import Derived.Ground.NamesProg
import Derived.Laws.CopyOwn
import Derived.Shelf.Sort.Plain
import Derived.Sort.OwnSortedInts
import Derived.Test.YtkdffbdnjfgpeaaGreatY17
import Derived.Test.YtkdffbdnjfgpeaaGreatY24
import Derived.Test.YtkdffbdnjfgpeaaGreatY32
import Derived.Test.YtkdffbdnjfgpeaaGreatYTk
set_option linter.all false
namespace Go.Proofs
open Go.Lib (hid)
open Go Go.RowKit
section
open Go.Shelf
def Tryz.lays189_ren:Go.Shelf.Ren:=⟨fun|189=>268|125=>81|257=>286|128=>127|129=>128|294=>293|295=>294|296=>295|297=>296|298=>297|299=>298|216=>299|300=>300|301=>301|328=>304|329=>197|330=>198|331=>305|332=>306|215=>307|343=>308|n=>n,fun|28=>215|3=>3|46=>115|0=>0|51=>191|53=>84|4=>4|183=>184|182=>183|131=>188|5=>5|9=>9|218=>250|222=>254|228=>297|229=>142|n=>n,fun|n=>n⟩
theorem Tryz.lays189:Go.Proofs.Lays.n189 Tryz.prog Tryz.lays189_ren:={
 mixed:=by kernel_rfl
 f125:=Tryz.func81.trans (congrArg some (by kernel_rfl))
 f128:=Tryz.func127.trans (congrArg some (by kernel_rfl))
 f129:=Tryz.func128.trans (congrArg some (by kernel_rfl))
 f189:=Tryz.func268.trans (congrArg some (by kernel_rfl))
 f215:=Tryz.func307.trans (congrArg some (by kernel_rfl))
 f216:=Tryz.func299.trans (congrArg some (by kernel_rfl))
 f257:=Tryz.func286.trans (congrArg some (by kernel_rfl))
 f294:=Tryz.func293.trans (congrArg some (by kernel_rfl))
 f295:=Tryz.func294.trans (congrArg some (by kernel_rfl))
 f296:=Tryz.func295.trans (congrArg some (by kernel_rfl))
 f297:=Tryz.func296.trans (congrArg some (by kernel_rfl))
 f298:=Tryz.func297.trans (congrArg some (by kernel_rfl))
 f299:=Tryz.func298.trans (congrArg some (by kernel_rfl))
 f300:=Tryz.func300.trans (congrArg some (by kernel_rfl))
 f301:=Tryz.func301.trans (congrArg some (by kernel_rfl))
 f328:=Tryz.func304.trans (congrArg some (by kernel_rfl))
 f329:=Tryz.func197.trans (congrArg some (by kernel_rfl))
 f330:=Tryz.func198.trans (congrArg some (by kernel_rfl))
 f331:=Tryz.func305.trans (congrArg some (by kernel_rfl))
 f332:=Tryz.func306.trans (congrArg some (by kernel_rfl))
 f343:=Tryz.func308.trans (congrArg some (by kernel_rfl))
 t0:=Tryz.underlying0
 a0:=Tryz.isAgg0
 z0:=Tryz.sizeOf0
 v0:=Tryz.zeroValue0
 t3:=Tryz.underlying3
 a3:=Tryz.isAgg3
 z3:=Tryz.sizeOf3
 v3:=Tryz.zeroValue3
 t4:=Tryz.underlying4
 a4:=Tryz.isAgg4
 z4:=Tryz.sizeOf4
 v4:=Tryz.zeroValue4
 t5:=Tryz.underlying5
 a5:=Tryz.isAgg5
 z5:=Tryz.sizeOf5
 v5:=Tryz.zeroValue5
 t9:=Tryz.underlying9
 a9:=Tryz.isAgg9
 z9:=Tryz.sizeOf9
 v9:=Tryz.zeroValue9
 t28:=Tryz.underlying215
 a28:=Tryz.isAgg215
 z28:=Tryz.sizeOf215
 v28:=Tryz.zeroValue215
 t46:=Tryz.underlying115
 a46:=Tryz.isAgg115
 z46:=Tryz.sizeOf115
 v46:=Tryz.zeroValue115
 t51:=Tryz.underlying191
 a51:=Tryz.isAgg191
 z51:=Tryz.sizeOf191
 v51:=Tryz.zeroValue191
 t53:=Tryz.underlying84
 a53:=Tryz.isAgg84
 z53:=Tryz.sizeOf84
 v53:=Tryz.zeroValue84
 t131:=Tryz.underlying188
 a131:=Tryz.isAgg188
 z131:=Tryz.sizeOf188
 v131:=Tryz.zeroValue188
 t182:=Tryz.underlying183
 a182:=Tryz.isAgg183
 z182:=Tryz.sizeOf183
 v182:=Tryz.zeroValue183
 t183:=Tryz.underlying184
 a183:=Tryz.isAgg184
 z183:=Tryz.sizeOf184
 v183:=Tryz.zeroValue184
 t218:=Tryz.underlying250
 a218:=Tryz.isAgg250
 z218:=Tryz.sizeOf250
 v218:=Tryz.zeroValue250
 t222:=Tryz.underlying254
 a222:=Tryz.isAgg254
 z222:=Tryz.sizeOf254
 v222:=Tryz.zeroValue254
 t228:=Tryz.underlying297
 a228:=Tryz.isAgg297
 z228:=Tryz.sizeOf297
 v228:=Tryz.zeroValue297
 t229:=Tryz.underlying142
 a229:=Tryz.isAgg142
 z229:=Tryz.sizeOf142
 v229:=Tryz.zeroValue142 }
end
end Go.Proofs
namespace Go.Proofs.YtkdffbdnjfgpeaaGreat
open Go.Lib (hid)
open Go Go.RowKit Go.Proofs.Tryz
theorem IRow.heap {e base g} {w:World} {zs:List Int} (h:IRow e w base g zs.length zs):w.heap[g]? =some (.cells (zs.map (Value.int .i64)).toArray e (0,0)):=by
 rcases h.2 with ⟨h,_⟩|⟨k,cap',cur,hv,hbs,hg,h3,h4,h5,h6⟩
 ·cases h
 cases hv
 rw [hg]
 have h7:cur.toList=zs.map (Value.int .i64):=by rw [←h6,List.take_of_length_le (by simp;omega)]
 rw [←h7]
theorem IRow.heap' {e base g cap} {w:World} {zs:List Int} (h:IRow e w base g cap zs) (hc:cap=zs.length):w.heap[g]? =some (.cells (zs.map (Value.int .i64)).toArray e (0,0)):=by
 subst hc;exact h.heap
theorem Zjy:(prog.info? 3).map (·.size)=some 1:=kr
theorem ZdE (zs:List Int) (base g cap:Nat) (w:World) (h:IRow 3 w base g cap zs) (hz:zs.length≤64):
  Calls prog 268 #[.slice (some ⟨g,0,none⟩) zs.length cap] w fun e w'=>e=.returned (.tuple #[])∧IRow 3 w' base g cap (zs.mergeSort leI)∧w.grownBy w' (some g):=by
 have hl:=h.lt
 refine (Any.slices_Sort_int Tryz.lays189 g 0 cap zs w (fun j hj=>?_) hl.2 om).mono ?_
 ·have hj':j < zs.length:=by simpa using hj
  refine ⟨?_,by simpa using h.frz j⟩
  have:=h.cell j hj'
  simpa [getElem!_pos,hj'] using this
 rintro e w' ⟨rfl,n,os,rfl⟩
 rcases h.2 with ⟨h0,_⟩|⟨k,cap',cur,hv,hbs,hg,h3,h4,h5,h6⟩
 ·cases h0
 cases hv
 refine ⟨rfl,?_,grownBy_sortedI _⟩
 have h7:=ownsRow_sortedI (n:=n) (os:=os) (ss:=zs) (ts:=zs.mergeSort leI) (List.length_mergeSort _) hbs hg h3 h4 h5
 unfold IRow
 rw [List.length_mergeSort]
 exact h7
theorem ZeC (zs:List Int) (base g cap n:Nat) (w:World) (h:IRow 3 w base g cap zs) (hz:zs.length≤64) (hn:n=zs.length):
  Calls prog 268 #[.slice (some ⟨g,0,none⟩) n cap] w fun e w'=>e=.returned (.tuple #[])∧IRow 3 w' base g cap (zs.mergeSort leI)∧w.grownBy w' (some g):=by
 subst hn;exact ZdE zs base g cap w h hz
set_option maxRecDepth 100000
set_option maxHeartbeats 1000000
theorem Zd9 (w:World):
  Calls prog 267 #[] w fun e w'=>Below w.heap.size w w'∧∃g,e=.returned (.slice (some ⟨g,0,none⟩) 64 64)∧IRow 3 w' w.heap.size g 64 (Zt 64):=by
 obtain ⟨i0,hi,hz0,hz1,hz2⟩:=info_parts XB
 go_enter func267,ntmps267
 go_wp2_with (at_make;refine wpList_make_full _ rfl _ _ 215 rfl w.heap.size 3 i0 _ 1 rfl hi hz0 hz1 .i64 .i64 _ _ 64 rfl rfl rfl rfl (by rw [hz2];omega) (by unfold maxLen;omega) (Nat.le_refl _) ?_;intro w1 hown hgrow)
 have hz1:w.heap.size < w1.heap.size:=(hown.lt _ rfl).2
 have hb1:Below w.heap.size w w1:=Below.grown (Below.refl _ _) hgrow (Nat.le_refl _) (fun k e=>by cases e)
 have HO:=hid (IRow.zero hown)
 clear hown hgrow
 go_loopg [6] 64 (fun gk i wr=>∃j:Nat,gk+j=64∧i=.int .i64 j∧Below w.heap.size w wr∧w.heap.size < wr.heap.size∧Hid (IRow 3 wr w.heap.size w.heap.size 64 (Zt j++List.replicate (64 - j) 0)))
 case atStart=>exact ⟨0,om,rfl,hb1,hz1,by simpa [Zt] using HO⟩
 case round=>
  obtain ⟨j,hj,rfl,hb,hz,HW⟩:=hrel
  by_cases hlt:j < 64
  ·have hlen:(Zt j++List.replicate (64 - j) (0:Int)).length=64:=by simp [Zs];omega
   obtain ⟨u,hcl⟩:∃u,wr.cell? ⟨w.heap.size,j,none⟩=some (.int .i64 u):=⟨_,HW.out.cell j om⟩
   have hfz:=HW.out.frz
   obtain ⟨s1,s2⟩:=HW.out.set j j
   rw [Qa 64 j hlt] at s1
   have HS:=hid s1
   clear s1 s2 hlen
   go_wp2_with fail
   go_roundg (gk - 1)
   case measure=>omega
   case rel=>exact ⟨j+1,om,by go_num,ZtX,by simp;omega,HS⟩
  have hjl:j=64:=om
  subst hjl
  go_wp2_with fail
  go_ret
  exact ⟨hb,_,rfl,by simpa using HW.out⟩
set_option maxRecDepth 512
theorem Zat (k n:Nat) (w:World) (hk:k≤n) (hn:n≤64):Calls prog 229 #[.int .i64 k,.int .i64 n] w fun e w'=>e=.returned (.bool true)∧Below w.heap.size w w':=by
 have h1:(0:Int)≤(n:Int):=om
 have h2:(n:Int)≤64:=om
 have h3:(0:Int)≤(k:Int):=om
 have h4:(k:Int)≤(n:Int):=om
 go_enter func229,ntmps229
 go_wp2_with fail
 go_ret
 exact ⟨by simp [*],ZtX⟩
theorem Ze1 (k:Nat) (hk:k≤64) (w w0:World) (B base base3 g g3:Nat) (h:IRow 3 w base g k (List.replicate k 0)) (h3:IRow 3 w base3 g3 64 (Zt 64)) (hb:Below B w0 w) (hBg:B≤g):
  ∃w4,(Builtin.copy_ #[215,215] 3 #[.slice (some ⟨g,0,none⟩) k k,.slice (some ⟨g3,0,none⟩) 64 64]).run prog w=.ok (goInt k) w4∧Hid (IRow 3 w4 base g k (Zt k))∧Below B w0 w4:=by
 have hl:=h.lt
 have hlen:((Zt k).map (Value.int .i64)).length=k:=by simp [Zs]
 have hg:=h.heap' sm
 have hrun:=run_copy_row (P:=prog) w 215 215 3 3 g 0 k k ⟨g3,0,none⟩ 64 64 _ 3 ((Zt k).map (Value.int .i64)) underlying215 Zjy hg (by rw [hlen];exact (Nat.min_eq_right hk).symm) (fun j v hj=>by
  have h1:=(List.getElem?_eq_some_iff.1 hj).1
  rw [hlen] at h1
  have h2:=h3.cell j (by rw [Zs];omega)
  rw [Addr.add_lit,Nat.zero_add,h2,←hj]
  simp [Zt,h1,show j < 64 by omega]) (by simp [hlen,Zs]) (by intro v hv;obtain ⟨_,_,rfl⟩:=List.mem_map.1 hv;rfl)
 rw [hlen] at hrun
 refine ⟨_,hrun,?_,below_setRow hb hBg _⟩
 have h7:IRow 3 (w.setRow g (((List.replicate k (0:Int)).map (Value.int .i64)).toArray.toList.take 0++(Zt k).map (Value.int .i64)++((List.replicate k (0:Int)).map (Value.int .i64)).toArray.toList.drop (0+k)).toArray) base g (Zt k).length (Zt k):=by
  refine IRow.of_heap ?_ hl.1 (by rw [Zs];unfold maxLen;omega)
  rw [setRow_heap w g _ _ _ _ hg]
  simp
 rw [Zs] at h7
 exact h7
set_option maxRecDepth 100000
theorem Zea (k n:Nat) (l:List Int) (w:World) (A:Nat→Prop) (a:Option Addr) (cp:Nat) (hk:k≤n) (hn:n≤64) (hl:l.length+k=n) (hd:Zhv k l) (hr:RIs w A l a):
  Calls prog 230 #[.int .i64 k,.int .i64 n,.slice a l.length cp] w fun e w'=>Below w.heap.size w w'∧∃g cp',e=.returned (.tuple #[.slice (some ⟨g,0,none⟩) (WU k l).length cp',.int .i64 0])∧IRow 3 w' w.heap.size g cp' (WU k l):=by
 have HL:=hid hr
 have HD:=hid hd
 obtain ⟨i0,hi,y0,y1,y2⟩:=info_parts XB
 have hpl:=(QZ k l k (Zt k) (fun x hx=>Uo hx) hd).1
 rw [Zs] at hpl
 have hla:(l.length:Int)≤(n:Int) - (k:Int):=om
 have hlb:(n:Int) - (k:Int)≤(l.length:Int):=om
 have HLN:=hid hl
 clear hl
 unfold WU
 generalize hR:XO k l k (Zt k)=R at *
 have HR:=hid hR
 clear hr hd hR
 go_enter func230,ntmps230
 go_wp2_with (first
  | (go_at_call 229;refine (Zat k n _ hk hn).mono ?_;rintro e w1 ⟨rfl,hb⟩;have hB1:Below w.heap.size w w1:=ZtX;clear hb;obtain ⟨hc1,hf1⟩:=Za hB1;have hz1:=hB1.size)
  | (at_make;refine wpList_make_full _ rfl _ _ 215 rfl w1.heap.size 3 i0 _ 1 rfl hi y0 y1 .i64 .i64 _ _ k rfl rfl rfl rfl (by rw [y2];omega) (by unfold maxLen;omega) (Nat.le_refl _) ?_;intro w2 hown hgrow;have HO:=hid (IRow.zero hown);have hB2:Below w.heap.size w w2:=Below.grown hB1 hgrow om (fun k e=>(by cases e));have hg2:=(hown.lt _ rfl).2;clear hown hgrow)
  | (go_at_call 267;refine (Zd9 _).mono ?_;rintro e w3 ⟨hb3,g3,rfl,hrow⟩;have HA3:=hid hrow;have HO3:=hid (HO.out.below hb3 (by first|exact hg2|omega));have hB3:Below w.heap.size w w3:=Below.trans hB2 (hb3.mono om);have hl3:=hrow.lt;obtain ⟨w4,hrun,HO4,hB4⟩:=Ze1 k om w3 w w.heap.size w1.heap.size w2.heap.size w1.heap.size g3 HO3.out hrow hB3 om;clear hrow))
 have hgz:=HO4.out.lt
 clear hrun
 go_loopg [38] (l.length) (fun gk i wr=>∃q:Nat,gk+q=l.length∧i=.int .i64 q∧Below w.heap.size w wr∧w1.heap.size < wr.heap.size∧∃zs:List Int,zs.length=k∧Hid (XO k (l.drop q) (k+q) zs=R)∧Hid (IRow 3 wr w1.heap.size w1.heap.size k zs))
 case atStart=>exact ⟨0,om,rfl,hB4,hgz.2,Zt k,by rw [Zs],by simpa using HR,HO4⟩
 case round=>
  obtain ⟨q,hq,rfl,hb,hz,zs,hzl,HP,HW⟩:=hrel
  by_cases hlt:q < l.length
  ·obtain ⟨b,o,rfl,hA,hbs,g0⟩:=HL.out.get q hlt
   have k0:wr.cell? ⟨b,o+q,none⟩=some (.int .i64 l[q]):=(hb.cell hbs).trans g0
   obtain ⟨d0,d1⟩:=JE l k q hlt HD.out
   have hst:=Zas k l zs q (k+q) hlt
   rw [HP.out] at hst
   have hfz:=HW.out.frz
   obtain ⟨x,hx⟩:∃x:Nat,l[q]=(x:Int):=⟨l[q].toNat,om⟩
   rw [hx] at k0 d1
   simp only [hx,Int.toNat_natCast] at hst
   have hs1:b < wr.heap.size:=om
   have hkn:k+q < 64:=by have:=HLN.out;omega
   clear hx d0 g0
   by_cases hxk:x < k
   ·have hxk':(x:Int) < (k:Int):=om
    rw [if_pos hxk'] at hst
    obtain ⟨u,hcl⟩:∃u,wr.cell? ⟨w1.heap.size,x,none⟩=some (.int .i64 u):=⟨_,HW.out.cell x om⟩
    obtain ⟨s1,s2⟩:=HW.out.set x ((k+q:Nat):Int)
    rw [show ((k+q:Nat):Int)=(k:Int)+(q:Int) by omega] at s1 hst
    have HS:=hid s1
    have HST:=hid hst
    clear s1 s2 hst
    go_wp2_with fail
    go_roundg (gk - 1)
    case measure=>omega
    case rel=>exact ⟨q+1,om,by go_num,ZtX,by simp;omega,_,by simp;omega,hid HST.out.symm,HS⟩
   have hxk':¬(x:Int) < (k:Int):=om
   rw [if_neg hxk'] at hst
   have HST:=hid hst
   clear hst
   go_wp2_with fail
   go_roundg (gk - 1)
   case measure=>omega
   case rel=>exact ⟨q+1,om,by go_num,ZtX,om,_,hzl,hid HST.out.symm,HW⟩
  have hjl:q=l.length:=om
  subst hjl
  have hzR:zs=R:=by have:=HP.out;rw [List.drop_length,XO] at this;exact this
  subst hzR
  have hk':(k:Int)=(zs.length:Int):=om
  go_wp2_with (go_at_call 268;refine (ZeC zs w1.heap.size w1.heap.size k k _ HW.out om hzl.symm).mono ?_;rintro e w5 ⟨rfl,HW5,hg5⟩)
  go_ret2
  exact ⟨Below.grown hb hg5 om (fun k e=>by cases e;omega),w1.heap.size,k,by rw [List.length_mergeSort,hzl];rfl,HW5.base om⟩
set_option maxRecDepth 512
def XP (s:ByteArray) (D:List Int) (n m i:Nat):Option (List Int)×Nat:=
 match ZJ s n m i with
 | (none,j)=>(none,j)
 | (some l,j)=>(some (D++l),j)
theorem Ki (s:ByteArray) (D:List Int) (n m i:Nat):XP s D (n+1) m i=match ZN s (m+1) i with
  | (none,j)=>(none,j)
  | (some v,j)=>XP s (D++[(v:Int)]) n (m+1) j:=by
 unfold XP
 rw [ZJ]
 cases hd:ZN s (m+1) i with
 | mk v j=>
  cases v with
  | none=>rfl
  | some v=>
   simp only []
   cases ZJ s n (m+1) j with
   | mk r q=>cases r<;>simp
theorem Ze2 (D:List Int) (v:Int) (n q:Nat) (h:D.length=q) (hn:q < n):(D++List.replicate (n - q) (0:Int)).set q v=(D++[v])++List.replicate (n - (q+1)) 0:=by
 have h1:n - q=(n - (q+1))+1:=om
 rw [h1,List.replicate_succ,List.set_append_right _ _ om,h,Nat.sub_self,List.set_cons_zero]
 simp
set_option maxRecDepth 100000
theorem Zdj (s:ByteArray) (k n i c:Nat) (w:World) (hb:Zc s=true) (hi:i≤s.size) (hk:k≤n) (hn:n≤64) (hc:Cur w c s i false):
  Calls prog 155 #[.pointer (some ⟨c,0,none⟩),.int .i64 k,.int .i64 n] w (Zb7 c s (Xm s k n i) w):=by
 have hcs:c < w.heap.size:=World.block_lt_of_cell? _ _ hc.1.1
 have HB:=hid hb
 have HC:=hid hc
 have hdr:=Vu s (n - k) k i hi
 obtain ⟨i0,hi0,y0,y1,y2⟩:=info_parts XB
 have hP1:∀j,ZJ s (n - k) k i=(none,j)→Xm s k n i=(none,j):=fun j h=>by unfold Xm;rw [h]
 have hP2:∀l j,ZJ s (n - k) k i=(some l,j)→Xm s k n i=(some (WU k l),j):=fun l j h=>by unfold Xm;rw [h]
 generalize hP:Xm s k n i=P at *
 have hR0:XP s [] (n - k) k i=ZJ s (n - k) k i:=by
  unfold XP
  rcases ZJ s (n - k) k i with ⟨_|r,q⟩<;>simp
 generalize hR:ZJ s (n - k) k i=R at *
 have HP1:=hid hP1
 have HP2:=hid hP2
 have HR0:=hid hR0
 have HDR:=hid hdr
 obtain ⟨N,hN⟩:∃N,N=n - k:=⟨_,rfl⟩
 have hNI:(n:Int) - (k:Int)=(N:Int):=om
 rw [←hN] at HR0 HDR
 have HN:=hid hN
 have hN64:N+k≤64:=om
 clear hc hb hR0 hdr hR hP1 hP2 hP hN
 go_enter func155,ntmps155
 go_wp2_with (first
  | (go_at_call 229;refine (Zat k n _ hk hn).mono ?_;rintro e w1 ⟨rfl,hb⟩;have hB1:Below w.heap.size w w1:=ZtX;clear hb;obtain ⟨hc1,hf1⟩:=Za hB1;have hz1:=hB1.size)
  | (at_make;refine wpList_make_full _ rfl _ _ 215 rfl w1.heap.size 3 i0 _ 1 rfl hi0 y0 y1 .i64 .i64 _ _ N rfl rfl om om (by rw [y2];omega) (by unfold maxLen;omega) (Nat.le_refl _) ?_;intro w2 hown hgrow;have HO:=hid (IRow.zero hown);have hB2:Below w.heap.size w w2:=Below.grown hB1 hgrow om (fun k e=>(by cases e));have hg2:=(hown.lt _ rfl).2;clear hown hgrow))
 have hgne:w1.heap.size≠c:=om
 go_loopg [24] N (fun gk i' wr=>∃(q p:Nat) (D:List Int),gk+q=N∧i'=.int .i64 q∧p≤s.size∧But c w.heap.size w wr∧w1.heap.size < wr.heap.size∧D.length=q∧Hid (XP s D (N - q) (k+q) p=R)∧Hid (Cur wr c s p false) ∧
  Hid (IRow 3 wr w1.heap.size w1.heap.size N (D++List.replicate (N - q) 0)))
 case atStart=>exact ⟨0,i,[],om,rfl,hi,Zue hB2,hg2,rfl,by simpa using HR0,Zt3 hB2 hcs HC.out,by simpa using HO⟩
 case round=>
  obtain ⟨q,p,D,hq,rfl,hp,hbt,hz,hDL,HP,HCU,HO3⟩:=hrel
  by_cases hlt:q < N
  ·obtain ⟨r,hr⟩:∃r,N - q=r+1:=⟨N - q - 1,om⟩
   have hst:=HP.out
   rw [hr,Ki] at hst
   obtain ⟨m,hm⟩:∃m,m=k+q+1:=⟨_,rfl⟩
   rw [←hm] at hst
   have hm0:0 < m∧m < 18446744073709551616:=om
   have hdd:=Yk s m p hp
   rcases hD:ZN s m p with ⟨_|v',j⟩
   ·rw [hD] at hst
    have HD:=hid hD
    have HST:=hid hst
    clear hst hD hdd
    go_wp2_with (go_at_call 221;refine (WC c s p m _ _ HB.out hp hm0 om (by exact HCU.out)).mono ?_;rw [HD.out];rintro e w3 ⟨hb3,rfl,hc3⟩;have HC3:=hid hc3;clear hc3)
    go_ret2
    rw [HP1.out _ HST.out.symm]
    exact ⟨Zt1,rfl,HC3.out⟩
   rw [hD] at hst hdd
   have hv:=hdd.2.2 v' rfl
   have hj1:=hdd.2.1
   simp only [] at hj1 hv
   have HD:=hid hD
   have HST:=hid hst
   clear hst hD hdd
   go_wp2_with (go_at_call 221;refine (WC c s p m _ _ HB.out hp hm0 om (by exact HCU.out)).mono ?_;rw [HD.out];rintro e w3 ⟨hb3,rfl,hc3⟩;have HC3:=hid hc3;clear hc3;have hz3:=hb3.size;have HO4:=hid (HO3.out.but hb3 hz hgne);obtain ⟨u,hcl⟩:∃u,w3.cell? ⟨w1.heap.size,q,none⟩=some (.int .i64 u):=⟨_,HO4.out.cell q (by simp;omega)⟩;have hfz:=HO4.out.frz)
   obtain ⟨s1,s2⟩:=HO4.out.set q (v':Int)
   rw [Ze2 D v' N q hDL hlt] at s1
   go_roundg (gk - 1)
   case measure=>omega
   case rel=>
    refine ⟨q+1,j,D++[(v':Int)],om,by go_num,hj1,Zt1,by simp;omega,by simp;exact hDL,?_,hid ?_,hid s1⟩
    ·rw [show N - (q+1)=r by omega,show k+(q+1)=m by omega];exact HST
    exact Zt3 (B:=w.heap.size) ((Below.refl _ _).setCell (by simp;omega) _) hcs HC3.out
  have hjl:q=N:=om
  have hst:=HP.out
  rw [hjl,Nat.sub_self] at hst
  have hst2:R=(some D,p):=by rw [←hst];simp [XP,ZJ]
  have hdr:=HDR.out.2.2 D (by rw [hst2])
  have HRW:=HO3
  rw [hjl,Nat.sub_self,List.replicate_zero,List.append_nil] at HRW
  have HF:=hid (HP2.out D p hst2)
  have HDU:=hid hdr.2
  have HRD:=hid (HRW.out.ris (A:=fun _=>True) trivial)
  clear hst hst2 hdr
  subst hDL
  subst hjl
  go_wp2_with (go_at_call 230;refine (Zea k n D _ (fun _=>True) _ _ hk hn (by have:=HN.out;omega) HDU.out (by exact HRD.out)).mono ?_;rintro e w3 ⟨hb3,g,cp',rfl,hrow⟩;have HRW3:=hid hrow;clear hrow)
  go_ret2
  rw [HF.out]
  exact ⟨Zt1,⟨_,_,rfl,HRW3.out.ris (by have:=HRW3.out.lt;omega)⟩,Zt3 hb3 om HCU.out⟩
set_option maxRecDepth 512
theorem YD (s:ByteArray) (k n i c:Nat) (K:Int) (hK:K=k) (w:World) (hb:Zc s=true) (hi:i≤s.size) (hk:k≤n) (hn:n≤64) (hc:Cur w c s i false):
  Calls prog 155 #[.pointer (some ⟨c,0,none⟩),.int .i64 K,.int .i64 n] w (Zb7 c s (Xm s k n i) w):=by
 subst hK
 exact Zdj s k n i c w hb hi hk hn hc
set_option maxRecDepth 100000
set_option maxHeartbeats 40000000
theorem Zlc (c:Nat) (s:ByteArray) (S f:Nat) (hS:S≤1099511627776) (ih:Vn c s S f) (t:GT) (e:Env) (i:Nat) (w:World) (x:TA) (a:Option Addr) (hb:Zc s=true) (hg:Zp (!e.isEmpty) t) (ox:okT t) (hs:Zb t≤S) (he:Ye S e) (hi:i≤s.size) (hwk:∃k n,wkT (f+1) t e k n≠none) (hk:t.k=8) (hc:Cur w c s i false) (hr:RT w (fun b=>b≠c) t x) (hv:REnv w (fun b=>b≠c) e a):
  Calls prog 94 #[.agg #[.pointer (some ⟨c,0,none⟩)],TV t x,.pointer a] w (UH c s (Zd s (f+1) t e i) w):=by
 rw [ZaU _ _ _ _ _ hk]
 have hargs:=U7 hg ox hs om hwk
 obtain ⟨ma,mb,mc,md,me,mf,mg,mh,mi,mj,mk,ml⟩:=x
 have hcs:c < w.heap.size:=World.block_lt_of_cell? _ _ hc.1.1
 have HC:=hid hc
 have HB:=hid hb
 obtain ⟨hrv1,hrv2,hrv3,hrv4,hrv5⟩:=Zo.1 hr
 have HR:=hid hr
 have H1:=hid hrv1
 have H2:=hid hrv2
 have H3:=hid hrv3
 have H4:=hid hrv4
 have HL:=hid hrv5
 obtain ⟨⟨x1,x2⟩,ov,⟨ovl,ovs⟩,⟨l1,l2⟩,⟨l3,l4⟩,⟨owl,ow⟩,op,oal,oa⟩:=Ze.1 ox
 have OX:=hid ox
 have OV:=hid ov
 have OVS:=hid ovs
 have OW:=hid ow
 have OP:=hid op
 have O:=hid oa
 have HND:=hid (Zk.1 hg).1
 have hse:=Zq t
 dsimp only at H1 H2 H3 H4 HL
 have h64:=Wt HND.out (.inr (.inr hk))
 obtain ⟨hp0,hp1⟩:=JV HND.out hk
 obtain ⟨kk,hkk⟩:∃kk:Nat,t.lo=(kk:Int):=⟨t.lo.toNat,om⟩
 have hkn:t.lo.toNat=kk:=om
 have hkl:kk≤t.a.length:=om
 rw [hkn]
 have HKK:=hid hkk
 have HV:=hid hv
 obtain ⟨c1,c2',c3⟩:=ZbE s kk t.a.length i hi hkl
 have HP3:=hid c3
 have HX:=hid (fun (row:List Int) (hrow:(YC t.a row).length≤64) (W:World) (al:Option Addr) (cp:Nat) h1 h2 h3=>KF c s S f hS ih HB.out (YC t.a row) e (Xm s kk t.a.length i).2 W a al cp hrow (fun x hx=>hargs x (QY hx)) he c2' h1 h2 h3)
 have hk1:(t.k==1)=false:=by simp [hk]
 have hk2:(t.k==2)=false:=by simp [hk]
 have hk3:(t.k==3)=false:=by simp [hk]
 have hk4:(t.k==4)=false:=by simp [hk]
 have hk5:(t.k==5)=false:=by simp [hk]
 have hk6:(t.k==6)=false:=by simp [hk]
 have hk7:(t.k==7)=false:=by simp [hk]
 have hk8:(t.k==8)=true:=by simp [hk]
 clear hg ox hr hc hb hrv1 hrv2 hrv3 hrv4 hrv5 ov ovs ow op oa hk hargs hv he ih hwk c1 c2' c3 hkk hkn hp0 hp1
 rcases hP:Xm s kk t.a.length i with ⟨_|row,j⟩
 ·have HP:=hid hP
  clear hP
  simp only [Y2,Res.bind]
  go_enter func94,ntmps94
  go_wp2_with fail
  refine wp_region_held_drew (S:=(fun W=>W.cell? ⟨w.heap.size,0,none⟩=some (.pointer (some ⟨c,0,none⟩))∧W.cell? ⟨w.heap.size+1,5,none⟩=some (.int .i64 t.lo)∧W.cell? ⟨w.heap.size+1,14,none⟩=some (.slice mk t.a.length ml))) kr ?_ (fun hHeld=>?_)
  ·((try dsimp only);(refine ⟨?_,?_,?_⟩<;>go_simp))
  refine tzh 0 ?_
  try simp only [Act.put,sl,s0,ss]
  refine tzh 1 ?_
  try simp only [Act.put,sl,s0,ss]
  refine tzh 2 ?_
  try simp only [Act.put,sl,s0,ss]
  refine tzh 3 ?_
  try simp only [Act.put,sl,s0,ss]
  refine tzh 4 ?_
  try simp only [Act.put,sl,s0,ss]
  refine tzh 5 ?_
  try simp only [Act.put,sl,s0,ss]
  refine tzh 6 ?_
  try simp only [Act.put,sl,s0,ss]
  refine tzh 7 ?_
  try simp only [Act.put,sl,s0,ss]
  refine tzh 8 ?_
  try simp only [Act.put,sl,s0,ss]
  refine tzh 9 ?_
  try simp only [Act.put,sl,s0,ss]
  refine tzh 15 ?_
  try simp only [Act.put,sl,s0,ss]
  refine wrh1 10 fun K hK=>?_
  go_simp
  go_wp2_with (go_at_call 155;refine (YD s kk t.a.length i c _ HKK.out _ HB.out hi hkl h64 (by exact Zt3 (B:=w.heap.size) ZtX hcs HC.out)).mono ?_;rw [HP.out];rintro e1 w3 ⟨hb3,rfl,hc3⟩;have hz3':=hb3.size;(try simp at hz3');have u3a:w3.cell? ⟨w.heap.size,0,none⟩=some (.pointer (some ⟨c,0,none⟩)):=(hb3.cell so so).trans gs;have u3b:w3.cell? ⟨w.heap.size+1,5,none⟩=some (.int .i64 t.lo):=(hb3.cell so so).trans gs;have u3c:w3.cell? ⟨w.heap.size+1,14,none⟩=some (.slice mk t.a.length ml):=(hb3.cell so so).trans gs)
  refine hK.out _ _ ?_ (fun hHeld=>?_)
  ·((try dsimp only);(refine ⟨?_,?_,?_⟩<;>go_simp))
  clear hK K
  refine tzh 11 ?_
  try simp only [Act.put,sl,s0,ss]
  refine tzh 12 ?_
  try simp only [Act.put,sl,s0,ss]
  refine wrh1 13 fun K hK=>?_
  go_simp
  go_wp2_with (go_at_call 152;refine (ZbA _ _ _ _).mono ?_;rintro e1 w4 ⟨rfl,hb4⟩)
  exact ⟨rfl,Zt1,rfl⟩
 obtain ⟨hr1,hr2⟩:=HP3.out row (by rw [hP])
 have hr64:row.length≤64:=om
 have hpl:(YC t.a row).length≤64:=by rw [X6 _ _ hr2];omega
 have HRW:=hid hr2
 have HXX:=hid (HX.out row hpl)
 rw [hP] at HXX
 have HP:=hid hP
 clear hP hr1 hr2 HX
 simp only [Y2,Res.bind]
 dsimp only at HXX
 rcases hW:Xt (fun x=>Zd s f x e) (YC t.a row) j with ⟨l,q⟩|⟨k⟩
 ·have HW:=hid hW
  clear hW
  simp only [Res.map]
  go_enter func94,ntmps94
  go_wp2_with fail
  refine wp_region_held_drew (S:=(fun W=>W.cell? ⟨w.heap.size,0,none⟩=some (.pointer (some ⟨c,0,none⟩))∧W.cell? ⟨w.heap.size+1,5,none⟩=some (.int .i64 t.lo)∧W.cell? ⟨w.heap.size+1,14,none⟩=some (.slice mk t.a.length ml))) kr ?_ (fun hHeld=>?_)
  ·((try dsimp only);(refine ⟨?_,?_,?_⟩<;>go_simp))
  refine tzh 0 ?_
  try simp only [Act.put,sl,s0,ss]
  refine tzh 1 ?_
  try simp only [Act.put,sl,s0,ss]
  refine tzh 2 ?_
  try simp only [Act.put,sl,s0,ss]
  refine tzh 3 ?_
  try simp only [Act.put,sl,s0,ss]
  refine tzh 4 ?_
  try simp only [Act.put,sl,s0,ss]
  refine tzh 5 ?_
  try simp only [Act.put,sl,s0,ss]
  refine tzh 6 ?_
  try simp only [Act.put,sl,s0,ss]
  refine tzh 7 ?_
  try simp only [Act.put,sl,s0,ss]
  refine tzh 8 ?_
  try simp only [Act.put,sl,s0,ss]
  refine tzh 9 ?_
  try simp only [Act.put,sl,s0,ss]
  refine tzh 15 ?_
  try simp only [Act.put,sl,s0,ss]
  refine wrh1 10 fun K hK=>?_
  go_simp
  go_wp2_with (go_at_call 155;refine (YD s kk t.a.length i c _ HKK.out _ HB.out hi hkl h64 (by exact Zt3 (B:=w.heap.size) ZtX hcs HC.out)).mono ?_;rw [HP.out];rintro e1 w3 ⟨hb3,⟨a3,c3,rfl,hri⟩,hc3⟩;have HRI:=hid hri;have HC3:=hid hc3;clear hri hc3;have hz3':=hb3.size;(try simp at hz3');have hbb3:But c w.heap.size w w3:=Zt1;have u3a:w3.cell? ⟨w.heap.size,0,none⟩=some (.pointer (some ⟨c,0,none⟩)):=(hb3.cell so so).trans gs;have u3b:w3.cell? ⟨w.heap.size+1,5,none⟩=some (.int .i64 t.lo):=(hb3.cell so so).trans gs;have u3c:w3.cell? ⟨w.heap.size+1,14,none⟩=some (.slice mk t.a.length ml):=(hb3.cell so so).trans gs)
  refine hK.out _ _ ?_ (fun hHeld=>?_)
  ·((try dsimp only);(refine ⟨?_,?_,?_⟩<;>go_simp))
  clear hK K
  refine tzh 11 ?_
  try simp only [Act.put,sl,s0,ss]
  refine tzh 12 ?_
  try simp only [Act.put,sl,s0,ss]
  refine wrh1 13 fun K hK=>?_
  go_simp
  go_wp2_with (go_at_call 152;refine (Xy _ _ _ _).mono ?_;rintro e1 w5 ⟨rfl,rfl⟩)
  refine hK.out _ _ ?_ (fun hHeld=>?_)
  ·((try dsimp only);(refine ⟨?_,?_,?_⟩<;>go_simp))
  clear hK K
  refine wrh1 14 fun K hK=>?_
  go_simp
  go_wp2_with (go_at_call 154;refine (Y4 t.a row (fun b=>b≠c) _ _ mk a3 ml c3 om hr64 HRW.out (by exact RTs.ext (Zt0 hbb3) _ _ HL.out) (by exact HRI.out)).mono ?_;rintro e1 w6 ⟨hb6,a6,c6,rfl,hrp⟩;have HRP:=hid hrp;clear hrp;have hz6:=hb6.size;have hbb6:But c w.heap.size w w6:=hbb3.trans (Zue (hb6.mono om));have u6a:w6.cell? ⟨w.heap.size,0,none⟩=some (.pointer (some ⟨c,0,none⟩)):=(hb6.cell so).trans gs;have u6b:w6.cell? ⟨w.heap.size+1,5,none⟩=some (.int .i64 t.lo):=(hb6.cell so).trans gs;have u6c:w6.cell? ⟨w.heap.size+1,14,none⟩=some (.slice mk t.a.length ml):=(hb6.cell so).trans gs)
  refine hK.out _ _ ?_ (fun hHeld=>?_)
  ·((try dsimp only);(refine ⟨?_,?_,?_⟩<;>go_simp))
  clear hK K
  refine wrh1 16 fun K hK=>?_
  go_simp
  go_wp2_with (go_at_call 149;refine (HXX.out _ _ _ (by exact Zt3 hb6 om HC3.out) (by exact RTs.mono (fun b hb _=>(by rcases hb with h|h;exact h;omega)) _ _ HRP.out) (by exact Zua (Zt0 hbb6) _ _ HV.out)).mono ?_;rw [HW.out];rintro e1 w7 ⟨hb7,⟨a7,c7,rfl,hrv⟩,hc7⟩;have HRV:=hid hrv;have HC7:=hid hc7;clear hrv hc7;have hz7:=hb7.size;have u7a:w7.cell? ⟨w.heap.size,0,none⟩=some (.pointer (some ⟨c,0,none⟩)):=(hb7.cell so so).trans gs;have u7b:w7.cell? ⟨w.heap.size+1,5,none⟩=some (.int .i64 t.lo):=(hb7.cell so so).trans gs;have u7c:w7.cell? ⟨w.heap.size+1,14,none⟩=some (.slice mk t.a.length ml):=(hb7.cell so so).trans gs)
  refine hK.out _ _ ?_ (fun hHeld=>?_)
  ·((try dsimp only);(refine ⟨?_,?_,?_⟩<;>go_simp))
  clear hK K
  refine wrh1 17 fun K hK=>?_
  go_simp
  go_wp2_with (go_at_call 150;refine (VX _ _ _ _).mono ?_;rintro e1 w2 ⟨rfl,hb2'⟩;have hb2:=hb2';have hbb2:=hb3.trans ((Zue (c:=c) (hb6.mono hb3.size)).trans ((hb7.mono (Nat.le_trans hb3.size hb6.size)).trans (Zue (hb2'.mono (Nat.le_trans hb3.size (Nat.le_trans hb6.size hb7.size))))));have hz2':=hb2.size;have hz2:=hb2.size;(try simp at hz2);have hbb:But c w.heap.size w w2:=Zt1;have rq0:w2.cell? ⟨w.heap.size+1+1,0,none⟩=some (.int .u8 0):=(hbb2.cell so so).trans gs;have rq1:w2.cell? ⟨w.heap.size+1+1,1,none⟩=some (.int .i64 0):=(hbb2.cell so so).trans gs;have rq2:w2.cell? ⟨w.heap.size+1+1,2,none⟩=some (.slice none 0 0):=(hbb2.cell so so).trans gs;have rf0:w2.frozen? ⟨w.heap.size+1+1,0,none⟩=false:=(hbb2.frozen so so).trans gs;have rf1:w2.frozen? ⟨w.heap.size+1+1,1,none⟩=false:=(hbb2.frozen so so).trans gs;have rf2:w2.frozen? ⟨w.heap.size+1+1,2,none⟩=false:=(hbb2.frozen so so).trans gs;have hz3:w.heap.size+1+1 < w2.heap.size:=om;have HC2:=hid (Zt3 hb2 om HC7.out);have u2a:w2.cell? ⟨w.heap.size,0,none⟩=some (.pointer (some ⟨c,0,none⟩)):=(hb2.cell so).trans gs;have u2b:w2.cell? ⟨w.heap.size+1,5,none⟩=some (.int .i64 t.lo):=(hb2.cell so).trans gs;have u2c:w2.cell? ⟨w.heap.size+1,14,none⟩=some (.slice mk t.a.length ml):=(hb2.cell so).trans gs)
  refine hK.out _ _ ?_ (fun hHeld=>?_)
  ·((try dsimp only);(refine ⟨?_,?_,?_⟩<;>go_simp))
  clear hK K
  refine wrh1 18 fun K hK=>?_
  go_simp
  refine hK.out _ _ ?_ (fun hHeld=>?_)
  ·((try dsimp only);(refine ⟨?_,?_,?_⟩<;>go_simp))
  clear hK K
  refine wpAnyH_done kr ?_ _
  (go_wp2_with fail;refine bodyPost_ret (v:=VV ⟨4,0,l⟩ ⟨a7,c7⟩) (by first|(simp [results,Tryz.f94,go_sem];done)|(simp [results,Tryz.f94,go_sem,rq0,rq1,rq2,rf0,rf1,rf2,hz3];done)) rfl ?_;exact ⟨Zt1,⟨⟨a7,c7⟩,rfl,Zl.2 (Zug (fun b hb _=>om) _ _ (Zt8 (((Zt4 so).trans (Zt4 so)).trans (Zt4 so)) _ _ (Zt8 (ZtY hb2) _ _ HRV.out)))⟩,Zt3 (B:=w.heap.size) ZtX hcs HC2.out⟩)
 have HW:=hid hW
 clear hW
 simp only [Res.map]
 go_enter func94,ntmps94
 go_wp2_with fail
 refine wp_region_held_drew (S:=(fun W=>W.cell? ⟨w.heap.size,0,none⟩=some (.pointer (some ⟨c,0,none⟩))∧W.cell? ⟨w.heap.size+1,5,none⟩=some (.int .i64 t.lo)∧W.cell? ⟨w.heap.size+1,14,none⟩=some (.slice mk t.a.length ml))) kr ?_ (fun hHeld=>?_)
 ·((try dsimp only);(refine ⟨?_,?_,?_⟩<;>go_simp))
 refine tzh 0 ?_
 try simp only [Act.put,sl,s0,ss]
 refine tzh 1 ?_
 try simp only [Act.put,sl,s0,ss]
 refine tzh 2 ?_
 try simp only [Act.put,sl,s0,ss]
 refine tzh 3 ?_
 try simp only [Act.put,sl,s0,ss]
 refine tzh 4 ?_
 try simp only [Act.put,sl,s0,ss]
 refine tzh 5 ?_
 try simp only [Act.put,sl,s0,ss]
 refine tzh 6 ?_
 try simp only [Act.put,sl,s0,ss]
 refine tzh 7 ?_
 try simp only [Act.put,sl,s0,ss]
 refine tzh 8 ?_
 try simp only [Act.put,sl,s0,ss]
 refine tzh 9 ?_
 try simp only [Act.put,sl,s0,ss]
 refine tzh 15 ?_
 try simp only [Act.put,sl,s0,ss]
 refine wrh1 10 fun K hK=>?_
 go_simp
 go_wp2_with (go_at_call 155;refine (YD s kk t.a.length i c _ HKK.out _ HB.out hi hkl h64 (by exact Zt3 (B:=w.heap.size) ZtX hcs HC.out)).mono ?_;rw [HP.out];rintro e1 w3 ⟨hb3,⟨a3,c3,rfl,hri⟩,hc3⟩;have HRI:=hid hri;have HC3:=hid hc3;clear hri hc3;have hz3':=hb3.size;(try simp at hz3');have hbb3:But c w.heap.size w w3:=Zt1;have u3a:w3.cell? ⟨w.heap.size,0,none⟩=some (.pointer (some ⟨c,0,none⟩)):=(hb3.cell so so).trans gs;have u3b:w3.cell? ⟨w.heap.size+1,5,none⟩=some (.int .i64 t.lo):=(hb3.cell so so).trans gs;have u3c:w3.cell? ⟨w.heap.size+1,14,none⟩=some (.slice mk t.a.length ml):=(hb3.cell so so).trans gs)
 refine hK.out _ _ ?_ (fun hHeld=>?_)
 ·((try dsimp only);(refine ⟨?_,?_,?_⟩<;>go_simp))
 clear hK K
 refine tzh 11 ?_
 try simp only [Act.put,sl,s0,ss]
 refine tzh 12 ?_
 try simp only [Act.put,sl,s0,ss]
 refine wrh1 13 fun K hK=>?_
 go_simp
 go_wp2_with (go_at_call 152;refine (Xy _ _ _ _).mono ?_;rintro e1 w5 ⟨rfl,rfl⟩)
 refine hK.out _ _ ?_ (fun hHeld=>?_)
 ·((try dsimp only);(refine ⟨?_,?_,?_⟩<;>go_simp))
 clear hK K
 refine wrh1 14 fun K hK=>?_
 go_simp
 go_wp2_with (go_at_call 154;refine (Y4 t.a row (fun b=>b≠c) _ _ mk a3 ml c3 om hr64 HRW.out (by exact RTs.ext (Zt0 hbb3) _ _ HL.out) (by exact HRI.out)).mono ?_;rintro e1 w6 ⟨hb6,a6,c6,rfl,hrp⟩;have HRP:=hid hrp;clear hrp;have hz6:=hb6.size;have hbb6:But c w.heap.size w w6:=hbb3.trans (Zue (hb6.mono om));have u6a:w6.cell? ⟨w.heap.size,0,none⟩=some (.pointer (some ⟨c,0,none⟩)):=(hb6.cell so).trans gs;have u6b:w6.cell? ⟨w.heap.size+1,5,none⟩=some (.int .i64 t.lo):=(hb6.cell so).trans gs;have u6c:w6.cell? ⟨w.heap.size+1,14,none⟩=some (.slice mk t.a.length ml):=(hb6.cell so).trans gs)
 refine hK.out _ _ ?_ (fun hHeld=>?_)
 ·((try dsimp only);(refine ⟨?_,?_,?_⟩<;>go_simp))
 clear hK K
 refine wrh1 16 fun K hK=>?_
 go_simp
 go_wp2_with (go_at_call 149;refine (HXX.out _ _ _ (by exact Zt3 hb6 om HC3.out) (by exact RTs.mono (fun b hb _=>(by rcases hb with h|h;exact h;omega)) _ _ HRP.out) (by exact Zua (Zt0 hbb6) _ _ HV.out)).mono ?_;rw [HW.out];rintro e1 w7 ⟨hb7,rfl⟩)
 exact ⟨rfl,Zt1,rfl⟩
set_option maxRecDepth 512
theorem ZeA (c:Nat) (s:ByteArray) (S:Nat) (hS:S≤1099511627776) (hb:Zc s=true):∀f,Vn c s S f:=by
 intro f
 induction f with
 | zero=>
  intro t e i w m a hg ox hs he hi hwk
  obtain ⟨k,n,hw⟩:=hwk
  exact absurd rfl hw
 | succ f ih=>
  intro t e i w m a hg ox hs he hi hwk hc hr hv
  have hk:=(Y9 (Zk.1 hg).1).1
  rcases (by omega:t.k=1∨t.k=2∨t.k=3∨t.k=4∨t.k=5∨t.k=6∨t.k=7∨t.k=8∨t.k=9∨t.k=10∨t.k=11) with h|h|h|h|h|h|h|h|h|h|h
  ·exact Zk5 c s f t e i w m a hb hg ox h hc hr
  ·exact Zk6 c s f t e i w m a hb hg ox hi h hc hr
  ·exact Zk7 c s S f hS ih t e i w m a hb hg ox hs he hi hwk h hc hr hv
  ·exact Zk8 c s S f hS t e i w m a hb hg ox hi h hc hr
  ·exact Zk9 c s S f hS ih t e i w m a hb hg ox hs he hi hwk h hc hr hv
  ·exact Zla c s S f hS ih t e i w m a hb hg ox hs he hi (ZaX om hwk) h hc hr hv
  ·exact Zlb c s S f hS ih t e i w m a hb hg ox hs he hi hwk h hc hr hv
  ·exact Zlc c s S f hS ih t e i w m a hb hg ox hs he hi hwk h hc hr hv
  ·exact Zld c s S f hS ih t e i w m a hb hg ox hs he hi hwk h hc hr hv
  ·exact Zkx c s S f hS ih t e i w m a hb hg ox hs he hi hwk h hc hr hv
  exact Zky c s S f hS ih t e i w m a hg he hi hwk h hc hv
theorem ZdA (t:GT) (s:ByteArray) (w:World) (A:Nat→Prop) (m:TA) (ox:okT t) (hs:Zb t≤1099511627776) (hl:RT w A t m) (hss:s.size≤9223372036854775807):
  Calls prog 35 #[TV t m,.string s] w (RunR t s w):=
 Zkv t s w A m (fun hb c=>ZeA c s (Zb t) hs hb 4098) ox hs hl hss
theorem ZdB (t:GT) (s:ByteArray) (w:World) (A:Nat→Prop) (m:TA) (ox:okT t) (hs:Zb t≤1099511627776) (hl:RT w A t m) (hss:s.size≤9223372036854775807) (hE:ZP t s=0) (v:GV) (j:Nat) (hr:Vm s t=.ok v j):
  Calls prog 35 #[TV t m,.string s] w fun e w'=>Below w.heap.size w w'∧∃m:VA,e=.returned (.tuple #[.agg #[.int .u8 1,.int .u8 v.k,.int .i64 v.n,.slice m.a v.l.length m.c,.int .i64 j],.int .i64 0])∧RV w' (fun b=>w.heap.size≤b) v m.a:=
 (ZdA t s w A m ox hs hl hss).mono fun e w' h=>by
  obtain ⟨hb,h⟩:=h
  rw [hE,hr] at h
  unfold ZbZ at h
  rw [if_neg sm] at h
  exact ⟨hb,h⟩
theorem ZfX (t:GT) (s:ByteArray) (w:World) (A:Nat→Prop) (m:TA) (ox:okT t) (hs:Zb t≤1099511627776) (hl:RT w A t m) (hss:s.size≤9223372036854775807) (hE:ZP t s=0) (k:Nat) (hr:Vm s t=.no k):
  Calls prog 35 #[TV t m,.string s] w fun e w'=>Below w.heap.size w w'∧e=.returned (.tuple #[.agg #[.int .u8 k,.int .u8 0,.int .i64 0,.slice none 0 0,.int .i64 0],.int .i64 0]):=
 (ZdA t s w A m ox hs hl hss).mono fun e w' h=>by
  obtain ⟨hb,h⟩:=h
  rw [hE,hr] at h
  unfold ZbZ at h
  rw [if_neg sm] at h
  exact ⟨hb,h⟩
end Go.Proofs.YtkdffbdnjfgpeaaGreat
