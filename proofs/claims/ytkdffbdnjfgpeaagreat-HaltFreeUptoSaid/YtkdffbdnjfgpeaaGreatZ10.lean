/- Part 11. -/
import Derived.Deep.RegionWith
import Derived.WalkArith
import Derived.Test.YtkdffbdnjfgpeaaGreatZ9
set_option linter.all false
namespace Go.Proofs.YtkdffbdnjfgpeaaGreat
open Go.Lib (hid)
open Go Go.RowKit Go.Proofs.Tryz
set_option maxRecDepth 100000
set_option maxHeartbeats 1000000
theorem Zf4 (L:List Int) (r:Int) (p q b cp:Nat) (a:Option Addr) (A:Nat→Prop) (w:World) (hL:L.length≤64) (hm:∀i j (hi:i < L.length) (hj:j < L.length),i≤j→L[i]≤L[j])
  (hp:w.cell? ⟨p,0,none⟩=some (.pointer (some ⟨b,0,none⟩))) (hq:w.cell? ⟨q,0,none⟩=some (.int .i64 r)) (hl:w.cell? ⟨b,0,none⟩=some (.slice a L.length cp)) (hr:RIs w A L a):
  Calls prog 264 #[.int .i64 L.length,.func (.func 265) #[] #[.pointer (some ⟨p,0,none⟩),.pointer (some ⟨q,0,none⟩)]] w fun e w'=>e=.returned (.int .i64 (Qu L r))∧Below w.heap.size w w':=by
 have HM:=hid hm
 have HR:=hid hr
 have hbs:b < w.heap.size:=World.block_lt_of_cell? _ _ hl
 have hps:p < w.heap.size:=World.block_lt_of_cell? _ _ hp
 have hqs:q < w.heap.size:=World.block_lt_of_cell? _ _ hq
 clear hm hr
 go_enter func264,ntmps264
 go_wp2_with fail
 go_loopg [5,6] (L.length) (fun gk t5 t6 wr=>∃i j:Nat,gk=j - i∧t5=.int .i64 i∧t6=.int .i64 j∧i≤j∧j≤L.length∧Hid (∀k (h:k < L.length),k < i→L[k]≤r)∧Hid (∀k (h:k < L.length),j≤k→r < L[k])∧Below w.heap.size w wr)
 case atStart=>exact ⟨0,L.length,rfl,rfl,rfl,om,Nat.le_refl _,fun k h hk=>absurd hk om,fun k h hk=>absurd hk om,ZtX⟩
 case round=>
  obtain ⟨i,j,rfl,rfl,rfl,hij,hj,H1,H2,hb⟩:=hrel
  obtain ⟨hc,hf⟩:=Za hb
  have hzr:=hb.size
  by_cases hlt:i < j
  ·obtain ⟨h,hw2,hih,hhj⟩:∃h:Nat,((i:Int)+(j:Int)) / 2=(h:Int)∧i≤h∧h < j:=⟨(i+j) / 2,om,om,om⟩
   have hm1:h < L.length:=om
   have hw1:IntKind.i64.wrap ((i:Int)+(j:Int))=(i:Int)+(j:Int):=IntWalk.i64_in _ om
   by_cases ht:r < L[h]
   ·have HT:=hid (show decide (r < L[h])=true from decide_eq_true ht)
    have HT2:=hid ht
    clear ht
    go_wp2_with (go_at_call 265;refine (ZcD L r p q b cp h a A _ hm1 hL gs gs gs (by exact Zuc az _ _ HR.out)).mono ?_;rw [HT.out];rintro e w2 ⟨rfl,hb2⟩)
    go_roundg (h - i)
    case measure=>omega
    case rel=>exact ⟨i,h,rfl,rfl,rfl,hih,om,H1.out,fun k hk hk2=>by have:=HM.out h k hm1 hk hk2;have:=HT2.out;omega,ZtX⟩
   have HT:=hid (show decide (r < L[h])=false from decide_eq_false ht)
   have HT2:=hid ht
   clear ht
   go_wp2_with (go_at_call 265;refine (ZcD L r p q b cp h a A _ hm1 hL gs gs gs (by exact Zuc az _ _ HR.out)).mono ?_;rw [HT.out];rintro e w2 ⟨rfl,hb2⟩)
   go_roundg (j - (h+1))
   case measure=>omega
   case rel=>exact ⟨h+1,j,rfl,by go_num,rfl,hhj,hj,fun k hk hk2=>by have:=HM.out k h hk hm1 om;have:=HT2.out;omega,H2.out,ZtX⟩
  have hij2:i=j:=om
  subst hij2
  go_wp2_with fail
  go_ret
  exact ⟨Zf (by rw [Zbd L r i hj H1.out (fun h=>H2.out i h (Nat.le_refl _))]),hb⟩
set_option maxRecDepth 512
theorem Zhr (l:List Int) (h:okW l):∀i j,i≤j→Zj (l.take i)≤Zj (l.take j):=by
 induction l with
 | nil=>intro i j _;simp [Zj]
 | cons x l ih=>
  intro i j hij
  have hx:=h x sm
  cases i with
  | zero=>
   have:=WX ((x::l).take j) (fun y hy=>h y (List.mem_of_mem_take hy))
   simp only [List.take_zero,Zj];omega
  | succ i=>
   cases j with
   | zero=>omega
   | succ j=>
    have:=ih (fun y hy=>h y (by simp [hy])) i j om
    simp only [List.take_succ_cons,Zj];omega
theorem Zfp (l:List Int) (h:okW l) (i j:Nat) (hi:i < (Yy 0 l).length) (hj:j < (Yy 0 l).length) (hij:i≤j):(Yy 0 l)[i]≤(Yy 0 l)[j]:=by
 rw [VH,VH]
 have:=Zhr l h (i+1) (j+1) om
 omega
def Zdi (c:Nat) (s:ByteArray) (r:Option Nat×Nat) (w:World):Ending→World→Prop:=fun e w'=>But c w.heap.size w w' ∧
 match r with
 | (some v,j)=>e=.returned (.tuple #[.int .i64 v,.bool true])∧Cur w' c s j false
 | (none,j)=>e=.returned (.tuple #[.int .i64 0,.bool false])∧Cur w' c s j true
set_option maxRecDepth 100000
theorem Zdc (l:List Int) (r:Int) (b cp:Nat) (a:Option Addr) (A:Nat→Prop) (w:World) (he:Yc l=0) (hr0:0≤r) (hr1:r < Zj l) (hl:w.cell? ⟨b,0,none⟩=some (.slice a l.length cp)) (hr:RIs w A (Yy 0 l) a):
  Calls prog 224 #[.pointer (some ⟨b,0,none⟩),.int .i64 r] w fun e w'=>e=.returned (.tuple #[.int .i64 (Qu (Yy 0 l) r),.int .i64 0])∧Below w.heap.size w w':=by
 have hmf:∀(fn:Fn) (first cap:Array Value) (w:World),(Instr.makeFunc fn first cap).run prog w=.ok (.func fn first cap) w:=fun _ _ _ _=>rfl
 obtain ⟨h1,h64,hw,h2,h3⟩:=Y0 he
 have hbs:b < w.heap.size:=World.block_lt_of_cell? _ _ hl
 have hp:=Vw 0 l
 have HM:=hid (fun i j hi hj h=>Zfp l hw i j hi hj h)
 have HR:=hid hr
 have hbs2:b < w.heap.size+1+1:=om
 have hn0:((l.length:Int)==0)=false:=beq_eq_false_iff_ne.2 om
 have HP:=hid hp
 have hl2:=hl
 rw [←hp] at hl2
 have HL2:=hid hl2
 clear hr hw he hp hl2
 have HX:=hid (fun (W:World) (p q:Nat) x1 x2 x3 x4=>(show Calls prog 264 #[.int .i64 l.length,.func (.func 265) #[] #[.pointer (some ⟨p,0,none⟩),.pointer (some ⟨q,0,none⟩)]] W fun e w'=>e=.returned (.int .i64 (Qu (Yy 0 l) r))∧Below W.heap.size W w' from by
  have h:=Zf4 (Yy 0 l) r p q b cp a A W (by rw [HP.out];exact h64) HM.out x1 x2 x3 x4
  rw [HP.out] at h
  exact h))
 go_enter func224,ntmps224
 go_wp2_with (first|(go_at_call 222;refine (Qo b l.length cp a _ gs).mono ?_;rintro e w1 ⟨rfl,hb⟩;have hB1:=hb;clear hb;obtain ⟨hc1,hf1⟩:=Za hB1))
 have hz1:=hB1.size
 simp at hz1
 have hs1:w.heap.size < w1.heap.size:=om
 have hs2:w.heap.size+1 < w1.heap.size:=om
 have hs3:b < w1.heap.size:=om
 have hp:w1.cell? ⟨w.heap.size,0,none⟩=some (.pointer (some ⟨b,0,none⟩)):=gs
 have hq:w1.cell? ⟨w.heap.size+1,0,none⟩=some (.int .i64 r):=gs
 have hl1:w1.cell? ⟨b,0,none⟩=some (.slice a l.length cp):=gs
 go_region_with (go_at_call 223;refine (Zai l b cp a A _ h1 h64 gs (by exact Zuc az _ _ HR.out)).mono ?_;rintro e w2 ⟨rfl,hb2⟩;obtain ⟨hc2,hf2⟩:=Za hb2;have hz2:=hb2.size;simp at hz2;have hq2:w2.cell? ⟨w.heap.size+1,0,none⟩=some (.int .i64 r):=(hb2.cell (by simp;omega)).trans gs;have hp2:w2.cell? ⟨w.heap.size,0,none⟩=some (.pointer (some ⟨b,0,none⟩)):=(hb2.cell (by simp;omega)).trans gs;have hl2:w2.cell? ⟨b,0,none⟩=some (.slice a l.length cp):=(hb2.cell (by simp;omega)).trans gs)
 go_wp2_with (go_at_call 264;refine (HX.out _ _ _ gs gs (by rw [HP.out];go_simp) (by exact Zuc az _ _ HR.out)).mono ?_;rintro e w3 ⟨rfl,hb3⟩)
 all_goals go_ret2
 all_goals exact ⟨rfl,ZtX⟩
set_option maxRecDepth 512
theorem Cur.below {B:Nat} {w w':World} {c:Nat} {s:ByteArray} {i:Nat} {o:Bool} (hb:Below B w w') (hB:c < B) (h:Cur w c s i o):Cur w' c s i o:=
 ⟨⟨(hb.cell (p:=⟨c,0,none⟩) hB).trans h.1.1,(hb.cell (p:=⟨c,1,none⟩) hB).trans h.1.2.1,(hb.cell (p:=⟨c,2,none⟩) hB).trans h.1.2.2⟩,
  (hb.frozen (p:=⟨c,0,none⟩) hB).trans h.2.1,(hb.frozen (p:=⟨c,1,none⟩) hB).trans h.2.2.1,(hb.frozen (p:=⟨c,2,none⟩) hB).trans h.2.2.2⟩
abbrev Zt3:=@Cur.below
set_option maxRecDepth 100000
theorem YZ (l:List Int) (s:ByteArray) (i b c cp:Nat) (a:Option Addr) (w:World) (hb:Zc s=true) (hi:i≤s.size) (he:Yc l=0) (hcb:¬b=c) (hl:w.cell? ⟨b,0,none⟩=some (.slice a l.length cp)) (hr:RIs w (fun k=>k≠c) (Yy 0 l) a) (hc:Cur w c s i false):
  Calls prog 146 #[.pointer (some ⟨b,0,none⟩),.pointer (some ⟨c,0,none⟩)] w (Zdi c s (VS s l i) w):=by
 obtain ⟨h1,h64,hw,h2,h3⟩:=Y0 he
 have hbs:b < w.heap.size:=World.block_lt_of_cell? _ _ hl
 have hcs:c < w.heap.size:=World.block_lt_of_cell? _ _ hc.1.1
 have hn0:((l.length:Int)==0)=false:=beq_eq_false_iff_ne.2 om
 have hsu:((Zj l).toNat:Int)=Zj l:=om
 have HR:=hid hr
 have HC:=hid hc
 have HE:=hid he
 have HB:=hid hb
 have hdr:=Yk s (Zj l).toNat i hi
 generalize hS:(Zj l).toNat=S at *
 have hS0:0 < S∧S < 18446744073709551616:=om
 have HS:=hid hS
 clear hr hc he hb hw hS
 have hsu2:Zj l=(S:Int):=hsu.symm
 have HSU:=hid hsu2
 clear hsu hsu2
 have hLen:∀W,W.cell? ⟨b,0,none⟩=some (.slice a l.length cp)→Calls prog 222 #[.pointer (some ⟨b,0,none⟩)] W fun e w'=>e=.returned (.int .i64 l.length)∧Below W.heap.size W w':=fun W h=>Qo b l.length cp a W h
 have W9:∀W,W.cell? ⟨b,0,none⟩=some (.slice a l.length cp)→RIs W (fun k=>k≠c) (Yy 0 l) a→Calls prog 223 #[.pointer (some ⟨b,0,none⟩)] W fun e w'=>e=.returned (.int .i64 S)∧Below W.heap.size W w':=fun W h h'=>by
  have:=Zai l b cp a _ W h1 h64 h h'
  rw [HSU.out] at this
  exact this
 have HLEN:=hid hLen
 have HSUM:=hid W9
 clear hLen W9
 unfold VS
 rw [HS.out]
 rcases hD:ZN s S i with ⟨_|v,j⟩
 ·have HD:=hid hD
  clear hD hdr
  go_enter func146,ntmps146
  go_wp2_with (first
   | (go_at_call 222;refine (HLEN.out _ gs).mono ?_;rintro e w1 ⟨rfl,hb⟩;have hB1:Below w.heap.size w w1:=ZtX;clear hb;obtain ⟨hc1,hf1⟩:=Za hB1;have hz1:=hB1.size)
   | (go_at_call 223;refine (HSUM.out _ gs (by exact Zuc (ZtY hB1) _ _ HR.out)).mono ?_;rintro e w2 ⟨rfl,hb⟩;have hB2:Below w.heap.size w w2:=ZtX;clear hb;obtain ⟨hc2,hf2⟩:=Za hB2;have hz2:=hB2.size)
   | (go_at_call 221;refine (Zba c s i S _ HB.out hi hS0 (by exact Zt3 hB2 hcs HC.out)).mono ?_;rw [HD.out];rintro e w3 ⟨hb3,rfl,hc3⟩;have HC3:=hid hc3;clear hc3))
  go_ret2
  exact ⟨Zt1,rfl,HC3.out⟩
 have HD:=hid hD
 rw [hD] at hdr
 have hv:=hdr.2.2 v rfl
 have HDR:=hid hdr
 clear hD hdr
 have hv2:(v:Int) < Zj l:=by have:=HSU.out;omega
 have HV2:=hid hv2
 have hv3:v < 67108865:=om
 clear hv2
 go_enter func146,ntmps146
 go_wp2_with (first
  | (go_at_call 222;refine (HLEN.out _ gs).mono ?_;rintro e w1 ⟨rfl,hb⟩;have hB1:Below w.heap.size w w1:=ZtX;clear hb;obtain ⟨hc1,hf1⟩:=Za hB1;have hz1:=hB1.size)
  | (go_at_call 223;refine (HSUM.out _ gs (by exact Zuc (ZtY hB1) _ _ HR.out)).mono ?_;rintro e w2 ⟨rfl,hb⟩;have hB2:Below w.heap.size w w2:=ZtX;clear hb;obtain ⟨hc2,hf2⟩:=Za hB2;have hz2:=hB2.size)
  | (go_at_call 221;refine (Zba c s i S _ HB.out hi hS0 (by exact Zt3 hB2 hcs HC.out)).mono ?_;rw [HD.out];rintro e w3 ⟨hb3,rfl,hc3⟩;have HC3:=hid hc3;clear hc3;have hbb:But c w.heap.size w w3:=Zt1)
  | (go_at_call 224;refine (Zdc l v b cp a (fun k=>k≠c) _ HE.out om HV2.out (by exact (hbb.cell hbs hcb).trans hl) (by exact Zuc (Zt0 hbb) _ _ HR.out)).mono ?_;rintro e w4 ⟨rfl,hb4⟩))
 go_ret2
 have hz3:=hbb.size
 exact ⟨Zt1,rfl,Zt3 hb4 om HC3.out⟩
end Go.Proofs.YtkdffbdnjfgpeaaGreat
