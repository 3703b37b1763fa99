/- What the proofs of the Trial statements need: part 17. -/
import Derived.Deep.RegionWith
import Derived.WalkArith
import Derived.Test.YtojjdneicmbfjaaGreatDoorQ7
set_option linter.unusedVariables false
set_option linter.unusedSimpArgs false
namespace Go.Proofs.YtojjdneicmbfjaaGreatDoor
open Go.Lib (hid)
open Go Go.RowKit
set_option maxRecDepth 100000 in
set_option maxHeartbeats 1000000 in
theorem search_any (L:List Int) (r:Int) (p q b cp:Nat) (a:Option Addr) (A:Nat→Prop) (w:World) (hL:L.length≤64) (hm:∀i j (hi:i < L.length) (hj:j < L.length),i≤j→L[i]≤L[j])
  (hp:w.cell? ⟨p,0,none⟩=some (.pointer (some ⟨b,0,none⟩))) (hq:w.cell? ⟨q,0,none⟩=some (.int .i64 r)) (hl:w.cell? ⟨b,0,none⟩=some (.slice a L.length cp)) (hr:RIs w A L a):
  Calls Tryz.prog 212 #[.int .i64 L.length,.func (.func 213) #[] #[.pointer (some ⟨p,0,none⟩),.pointer (some ⟨q,0,none⟩)]] w fun e w'=>e=.returned (.int .i64 (pickI L r))∧Below w.heap.size w w':=by
 have HM:=hid hm
 have HR:=hid hr
 have hbs:b < w.heap.size:=World.block_lt_of_cell? _ _ hl
 have hps:p < w.heap.size:=World.block_lt_of_cell? _ _ hp
 have hqs:q < w.heap.size:=World.block_lt_of_cell? _ _ hq
 clear hm hr
 go_enter Tryz.func212,Tryz.ntmps212
 go_wp2_with fail
 go_loopg [5,6] (L.length) (fun gk t5 t6 wr=>∃i j:Nat,gk=j - i∧t5=.int .i64 i∧t6=.int .i64 j∧i≤j∧j≤L.length∧Hid (∀k (h:k < L.length),k < i→L[k]≤r)∧Hid (∀k (h:k < L.length),j≤k→r < L[k])∧Below w.heap.size w wr)
 case atStart=>exact ⟨0,L.length,rfl,rfl,rfl,by omega,Nat.le_refl _,fun k h hk=>absurd hk (by omega),fun k h hk=>absurd hk (by omega),Below.z⟩
 case round=>
  obtain ⟨i,j,rfl,rfl,rfl,hij,hj,H1,H2,hb⟩:=hrel
  obtain ⟨hc,hf⟩:=bcells hb
  have hzr:=hb.size
  by_cases hlt:i < j
  ·obtain ⟨h,hw2,hih,hhj⟩:∃h:Nat,((i:Int)+(j:Int)) / 2=(h:Int)∧i≤h∧h < j:=⟨(i+j) / 2,by omega,by omega,by omega⟩
   have hm1:h < L.length:=by omega
   have hw1:IntKind.i64.wrap ((i:Int)+(j:Int))=(i:Int)+(j:Int):=IntWalk.i64_in _ (by omega)
   by_cases ht:r < L[h]
   ·have HT:=hid (show decide (r < L[h])=true from decide_eq_true ht)
    have HT2:=hid ht
    clear ht
    go_wp2_with (go_at_call 213;refine (pick1_any L r p q b cp h a A _ hm1 hL (by go_simp) (by go_simp) (by go_simp) (by exact RIs.ext (Agree.below Below.z) _ _ HR.out)).mono ?_;rw [HT.out];rintro e w2 ⟨rfl,hb2⟩)
    go_roundg (h - i)
    case measure=>omega
    case rel=>exact ⟨i,h,rfl,rfl,rfl,hih,by omega,H1.out,fun k hk hk2=>by have:=HM.out h k hm1 hk hk2;have:=HT2.out;omega,Below.z⟩
   ·have HT:=hid (show decide (r < L[h])=false from decide_eq_false ht)
    have HT2:=hid ht
    clear ht
    go_wp2_with (go_at_call 213;refine (pick1_any L r p q b cp h a A _ hm1 hL (by go_simp) (by go_simp) (by go_simp) (by exact RIs.ext (Agree.below Below.z) _ _ HR.out)).mono ?_;rw [HT.out];rintro e w2 ⟨rfl,hb2⟩)
    go_roundg (j - (h+1))
    case measure=>omega
    case rel=>exact ⟨h+1,j,rfl,by go_num,rfl,hhj,hj,fun k hk hk2=>by have:=HM.out k h hk hm1 (by omega);have:=HT2.out;omega,H2.out,Below.z⟩
  ·have hij2:i=j:=by omega
   subst hij2
   go_wp2_with fail
   go_ret
   exact ⟨ret_int (by rw [findIdx_eq L r i hj H1.out (fun h=>H2.out i h (Nat.le_refl _))]),hb⟩
theorem sumI_mono (l:List Int) (h:okW l):∀i j,i≤j→sumI (l.take i)≤sumI (l.take j):=by
 induction l with
 | nil=>intro i j _;simp [sumI]
 | cons x l ih=>
  intro i j hij
  have hx:=h x (by simp)
  cases i with
  | zero=>
   have:=sumI_in ((x::l).take j) (fun y hy=>h y (List.mem_of_mem_take hy))
   simp only [List.take_zero,sumI];omega
  | succ i=>
   cases j with
   | zero=>omega
   | succ j=>
    have:=ih (fun y hy=>h y (by simp [hy])) i j (by omega)
    simp only [List.take_succ_cons,sumI];omega
theorem psums_mono (l:List Int) (h:okW l) (i j:Nat) (hi:i < (psums 0 l).length) (hj:j < (psums 0 l).length) (hij:i≤j):(psums 0 l)[i]≤(psums 0 l)[j]:=by
 rw [psums_get,psums_get]
 have:=sumI_mono l h (i+1) (j+1) (by omega)
 omega
def placeR (c:Nat) (s:ByteArray) (r:Option Nat×Nat) (w:World):Ending→World→Prop:=fun e w'=>But c w.heap.size w w' ∧
 match r with
 | (some v,j)=>e=.returned (.tuple #[.int .i64 v,.bool true])∧Cur w' c s j false
 | (none,j)=>e=.returned (.tuple #[.int .i64 0,.bool false])∧Cur w' c s j true
set_option maxRecDepth 100000 in
set_option maxHeartbeats 1000000 in
theorem freqPick_any (l:List Int) (r:Int) (b cp:Nat) (a:Option Addr) (A:Nat→Prop) (w:World) (he:freqE l=0) (hr0:0≤r) (hr1:r < sumI l) (hl:w.cell? ⟨b,0,none⟩=some (.slice a l.length cp)) (hr:RIs w A (psums 0 l) a):
  Calls Tryz.prog 177 #[.pointer (some ⟨b,0,none⟩),.int .i64 r] w fun e w'=>e=.returned (.tuple #[.int .i64 (pickI (psums 0 l) r),.int .i64 0])∧Below w.heap.size w w':=by
 have hmf:∀(fn:Fn) (first cap:Array Value) (w:World),(Instr.makeFunc fn first cap).run Tryz.prog w=.ok (.func fn first cap) w:=fun _ _ _ _=>rfl
 obtain ⟨h1,h64,hw,h2,h3⟩:=freqE_ok he
 have hbs:b < w.heap.size:=World.block_lt_of_cell? _ _ hl
 have hp:=psums_length 0 l
 have HM:=hid (fun i j hi hj h=>psums_mono l hw i j hi hj h)
 have HR:=hid hr
 have hbs2:b < w.heap.size+1+1:=by omega
 have hn0:((l.length:Int)==0)=false:=beq_eq_false_iff_ne.2 (by omega)
 have HP:=hid hp
 have hl2:=hl
 rw [←hp] at hl2
 have HL2:=hid hl2
 clear hr hw he hp hl2
 have HX:=hid (fun (W:World) (p q:Nat) x1 x2 x3 x4=>(show Calls Tryz.prog 212 #[.int .i64 l.length,.func (.func 213) #[] #[.pointer (some ⟨p,0,none⟩),.pointer (some ⟨q,0,none⟩)]] W fun e w'=>e=.returned (.int .i64 (pickI (psums 0 l) r))∧Below W.heap.size W w' from by
  have h:=search_any (psums 0 l) r p q b cp a A W (by rw [HP.out];exact h64) HM.out x1 x2 x3 x4
  rw [HP.out] at h
  exact h))
 go_enter Tryz.func177,Tryz.ntmps177
 go_wp2_with (first|(go_at_call 175;refine (freqLen_any b l.length cp a _ (by go_simp)).mono ?_;rintro e w1 ⟨rfl,hb⟩;have hB1:=hb;clear hb;obtain ⟨hc1,hf1⟩:=bcells hB1))
 have hz1:=hB1.size
 simp at hz1
 have hs1:w.heap.size < w1.heap.size:=by omega
 have hs2:w.heap.size+1 < w1.heap.size:=by omega
 have hs3:b < w1.heap.size:=by omega
 have hp:w1.cell? ⟨w.heap.size,0,none⟩=some (.pointer (some ⟨b,0,none⟩)):=by go_simp
 have hq:w1.cell? ⟨w.heap.size+1,0,none⟩=some (.int .i64 r):=by go_simp
 have hl1:w1.cell? ⟨b,0,none⟩=some (.slice a l.length cp):=by go_simp
 go_region_with (go_at_call 176;refine (freqSum_any l b cp a A _ h1 h64 (by go_simp) (by exact RIs.ext (Agree.below Below.z) _ _ HR.out)).mono ?_;rintro e w2 ⟨rfl,hb2⟩;obtain ⟨hc2,hf2⟩:=bcells hb2;have hz2:=hb2.size;simp at hz2;have hq2:w2.cell? ⟨w.heap.size+1,0,none⟩=some (.int .i64 r):=(hb2.cell (by simp;omega)).trans (by go_simp);have hp2:w2.cell? ⟨w.heap.size,0,none⟩=some (.pointer (some ⟨b,0,none⟩)):=(hb2.cell (by simp;omega)).trans (by go_simp);have hl2:w2.cell? ⟨b,0,none⟩=some (.slice a l.length cp):=(hb2.cell (by simp;omega)).trans (by go_simp))
 go_wp2_with (go_at_call 212;refine (HX.out _ _ _ (by go_simp) (by go_simp) (by rw [HP.out];go_simp) (by exact RIs.ext (Agree.below Below.z) _ _ HR.out)).mono ?_;rintro e w3 ⟨rfl,hb3⟩)
 all_goals go_ret2
 all_goals exact ⟨rfl,Below.z⟩
theorem Cur.below {B:Nat} {w w':World} {c:Nat} {s:ByteArray} {i:Nat} {o:Bool} (hb:Below B w w') (hB:c < B) (h:Cur w c s i o):Cur w' c s i o:=
 ⟨⟨(hb.cell (p:=⟨c,0,none⟩) hB).trans h.1.1,(hb.cell (p:=⟨c,1,none⟩) hB).trans h.1.2.1,(hb.cell (p:=⟨c,2,none⟩) hB).trans h.1.2.2⟩,
  (hb.frozen (p:=⟨c,0,none⟩) hB).trans h.2.1,(hb.frozen (p:=⟨c,1,none⟩) hB).trans h.2.2.1,(hb.frozen (p:=⟨c,2,none⟩) hB).trans h.2.2.2⟩
set_option maxRecDepth 100000 in
set_option maxHeartbeats 1000000 in
theorem freqDraw_any (l:List Int) (s:ByteArray) (i b c cp:Nat) (a:Option Addr) (w:World) (hb:isBits s=true) (hi:i≤s.size) (he:freqE l=0) (hcb:¬b=c) (hl:w.cell? ⟨b,0,none⟩=some (.slice a l.length cp)) (hr:RIs w (fun k=>k≠c) (psums 0 l) a) (hc:Cur w c s i false):
  Calls Tryz.prog 118 #[.pointer (some ⟨b,0,none⟩),.pointer (some ⟨c,0,none⟩)] w (placeR c s (freqP s l i) w):=by
 obtain ⟨h1,h64,hw,h2,h3⟩:=freqE_ok he
 have hbs:b < w.heap.size:=World.block_lt_of_cell? _ _ hl
 have hcs:c < w.heap.size:=World.block_lt_of_cell? _ _ hc.1.1
 have hn0:((l.length:Int)==0)=false:=beq_eq_false_iff_ne.2 (by omega)
 have hsu:((sumI l).toNat:Int)=sumI l:=by omega
 have HR:=hid hr
 have HC:=hid hc
 have HE:=hid he
 have HB:=hid hb
 have hdr:=drawP_in s (sumI l).toNat i hi
 generalize hS:(sumI l).toNat=S at *
 have hS0:0 < S∧S < 18446744073709551616:=by omega
 have HS:=hid hS
 clear hr hc he hb hw hS
 have hsu2:sumI l=(S:Int):=hsu.symm
 have HSU:=hid hsu2
 clear hsu hsu2
 have hLen:∀W,W.cell? ⟨b,0,none⟩=some (.slice a l.length cp)→Calls Tryz.prog 175 #[.pointer (some ⟨b,0,none⟩)] W fun e w'=>e=.returned (.int .i64 l.length)∧Below W.heap.size W w':=fun W h=>freqLen_any b l.length cp a W h
 have hSum:∀W,W.cell? ⟨b,0,none⟩=some (.slice a l.length cp)→RIs W (fun k=>k≠c) (psums 0 l) a→Calls Tryz.prog 176 #[.pointer (some ⟨b,0,none⟩)] W fun e w'=>e=.returned (.int .i64 S)∧Below W.heap.size W w':=fun W h h'=>by
  have:=freqSum_any l b cp a _ W h1 h64 h h'
  rw [HSU.out] at this
  exact this
 have HLEN:=hid hLen
 have HSUM:=hid hSum
 clear hLen hSum
 unfold freqP
 rw [HS.out]
 rcases hD:drawP s S i with ⟨_|v,j⟩
 ·have HD:=hid hD
  clear hD hdr
  go_enter Tryz.func118,Tryz.ntmps118
  go_wp2_with (first
   | (go_at_call 175;refine (HLEN.out _ (by go_simp)).mono ?_;rintro e w1 ⟨rfl,hb⟩;have hB1:Below w.heap.size w w1:=Below.z;clear hb;obtain ⟨hc1,hf1⟩:=bcells hB1;have hz1:=hB1.size)
   | (go_at_call 176;refine (HSUM.out _ (by go_simp) (by exact RIs.ext (Agree.below hB1) _ _ HR.out)).mono ?_;rintro e w2 ⟨rfl,hb⟩;have hB2:Below w.heap.size w w2:=Below.z;clear hb;obtain ⟨hc2,hf2⟩:=bcells hB2;have hz2:=hB2.size)
   | (go_at_call 174;refine (draw_any c s i S _ HB.out hi hS0 (by exact Cur.below hB2 hcs HC.out)).mono ?_;rw [HD.out];rintro e w3 ⟨hb3,rfl,hc3⟩;have HC3:=hid hc3;clear hc3))
  go_ret2
  exact ⟨But.z,rfl,HC3.out⟩
 ·have HD:=hid hD
  rw [hD] at hdr
  have hv:=hdr.2.2 v rfl
  have HDR:=hid hdr
  clear hD hdr
  have hv2:(v:Int) < sumI l:=by have:=HSU.out;omega
  have HV2:=hid hv2
  have hv3:v < 67108865:=by omega
  clear hv2
  go_enter Tryz.func118,Tryz.ntmps118
  go_wp2_with (first
   | (go_at_call 175;refine (HLEN.out _ (by go_simp)).mono ?_;rintro e w1 ⟨rfl,hb⟩;have hB1:Below w.heap.size w w1:=Below.z;clear hb;obtain ⟨hc1,hf1⟩:=bcells hB1;have hz1:=hB1.size)
   | (go_at_call 176;refine (HSUM.out _ (by go_simp) (by exact RIs.ext (Agree.below hB1) _ _ HR.out)).mono ?_;rintro e w2 ⟨rfl,hb⟩;have hB2:Below w.heap.size w w2:=Below.z;clear hb;obtain ⟨hc2,hf2⟩:=bcells hB2;have hz2:=hB2.size)
   | (go_at_call 174;refine (draw_any c s i S _ HB.out hi hS0 (by exact Cur.below hB2 hcs HC.out)).mono ?_;rw [HD.out];rintro e w3 ⟨hb3,rfl,hc3⟩;have HC3:=hid hc3;clear hc3;have hbb:But c w.heap.size w w3:=But.z)
   | (go_at_call 177;refine (freqPick_any l v b cp a (fun k=>k≠c) _ HE.out (by omega) HV2.out (by exact (hbb.cell hbs hcb).trans hl) (by exact RIs.ext (Agree.but hbb) _ _ HR.out)).mono ?_;rintro e w4 ⟨rfl,hb4⟩))
  go_ret2
  have hz3:=hbb.size
  exact ⟨But.z,rfl,Cur.below hb4 (by omega) HC3.out⟩
end Go.Proofs.YtojjdneicmbfjaaGreatDoor
