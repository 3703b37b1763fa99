/- Part 21. -/
import Derived.Test.YtclphfojkggcpaaGreatDoorX7
import Derived.Test.YtclphfojkggcpaaGreatDoorX38
import Derived.Test.YtclphfojkggcpaaGreatDoorX39
set_option linter.all false
namespace Go.Proofs.YtclphfojkggcpaaGreatDoor
open Go.Lib (hid)
open Go Go.RowKit Go.Proofs.Tryz
theorem Zl3 {p:Prop} (h:p:=by
 go_enter func161,ntmps161
 go_wp2_with (go_at_call 190;refine (HX.out _ (by exact HL.out)).mono ?_;rw [HR.out];rintro e w1 ⟨hb1,rfl,hc1⟩;have HC1:=hid hc1;clear hc1)
 go_ret2
 exact ⟨ZmN,rfl,HC1.out⟩):p:=h
set_option maxRecDepth 100000
set_option maxHeartbeats 1000000
theorem Zba (c:Nat) (s:ByteArray) (i m:Nat) (w:World) (hb:Zc s=true) (hi:i≤s.size) (hm:0 < m∧m < 18446744073709551616) (hl:Cur w c s i false):
  Calls prog 161 #[.pointer (some ⟨c,0,none⟩),.int .u64 m] w (ZdR c s (ZN s m i) w):=by
 have hmf:∀(fn:Fn) (first cap:Array Value) (w:World),(Instr.makeFunc fn first cap).run prog w=.ok (.func fn first cap) w:=fun _ _ _ _=>rfl
 have HX:=hid (fun W h=>ZgO c s i m W hb hi hm h)
 have HL:=hid hl
 obtain ⟨hm0,hm1⟩:=hm
 have hcs:c < w.heap.size:=World.block_lt_of_cell? _ _ hl.1.1
 have hm2:((m:Int)==0)=false:=beq_eq_false_iff_ne.2 om
 clear hb hl
 rcases hR:ZN s m i with ⟨_|v,j⟩
 all_goals have HR:=hid (show YX s m (Z7 m) (s.size+1 - i) i=_ from hR)
 all_goals clear hR
 ·exact Zl3
 exact Zl3
set_option maxRecDepth 512
theorem WC (c:Nat) (s:ByteArray) (i m:Nat) (M:Int) (w:World) (hb:Zc s=true) (hi:i≤s.size) (hm:0 < m∧m < 18446744073709551616) (hM:M=m) (hl:Cur w c s i false):
  Calls prog 161 #[.pointer (some ⟨c,0,none⟩),.int .u64 M] w (ZdR c s (ZN s m i) w):=by
 subst hM;exact Zba c s i m w hb hi hm hl
theorem Qo (b n cp:Nat) (a:Option Addr) (w:World) (hl:w.cell? ⟨b,0,none⟩=some (.slice a n cp)):
  Calls prog 162 #[.pointer (some ⟨b,0,none⟩)] w fun e w'=>e=.returned (.int .i64 n)∧Below w.heap.size w w':=by
 have hbs:b < w.heap.size:=World.block_lt_of_cell? _ _ hl
 go_enter func162,ntmps162
 go_wp2_with fail
 go_ret
 exact ⟨rfl,ZlU⟩
theorem Zfo (l:List Int) (h:1≤l.length) (h2:l.length - 1 < (Yy 0 l).length):(Yy 0 l)[l.length - 1]=Zj l:=by
 rw [VH,show l.length - 1+1=l.length by omega,List.take_length];omega
set_option maxRecDepth 100000
theorem Zai (l:List Int) (b cp:Nat) (a:Option Addr) (A:Nat→Prop) (w:World) (h1:1≤l.length) (h64:l.length≤64) (hl:w.cell? ⟨b,0,none⟩=some (.slice a l.length cp)) (hr:RIs w A (Yy 0 l) a):
  Calls prog 163 #[.pointer (some ⟨b,0,none⟩)] w fun e w'=>e=.returned (.int .i64 (Zj l))∧Below w.heap.size w w':=by
 have hbs:b < w.heap.size:=World.block_lt_of_cell? _ _ hl
 have hp:=Vw 0 l
 obtain ⟨g,o,rfl,hA,hgs,g0⟩:=hr.get (l.length - 1) om
 have hlast:=Zfo l h1 om
 rw [hlast] at g0
 have hw:IntKind.i64.wrap ((l.length:Int) - 1)=((l.length - 1:Nat):Int):=by rw [IntWalk.i64_in _ om];omega
 have hw0:(0:Int)≤(l.length:Int) - 1:=om
 have hw1:(l.length:Int) - 1 < (l.length:Int):=om
 have hw2:((l.length:Int) - 1).toNat=l.length - 1:=om
 have hn0:((l.length:Int)==0)=false:=beq_eq_false_iff_ne.2 om
 clear hlast hr
 go_enter func163,ntmps163
 go_wp2_with (go_at_call 162;refine (Qo b l.length cp (some ⟨g,o,none⟩) _ gs).mono ?_;rintro e w1 ⟨rfl,hb⟩;have hB1:=hb;clear hb;obtain ⟨hc1,hf1⟩:=Za hB1)
 go_ret
 exact ⟨rfl,ZlU⟩
theorem ZcD (L:List Int) (r:Int) (p q b cp i:Nat) (a:Option Addr) (A:Nat→Prop) (w:World) (hi:i < L.length) (hL:L.length≤64) (hp:w.cell? ⟨p,0,none⟩=some (.pointer (some ⟨b,0,none⟩))) (hq:w.cell? ⟨q,0,none⟩=some (.int .i64 r))
  (hl:w.cell? ⟨b,0,none⟩=some (.slice a L.length cp)) (hr:RIs w A L a):
  Calls prog 192 #[.int .i64 i,.pointer (some ⟨p,0,none⟩),.pointer (some ⟨q,0,none⟩)] w fun e w'=>e=.returned (.bool (decide (r < L[i])))∧Below w.heap.size w w':=by
 have hbs:b < w.heap.size:=World.block_lt_of_cell? _ _ hl
 have hps:p < w.heap.size:=World.block_lt_of_cell? _ _ hp
 have hqs:q < w.heap.size:=World.block_lt_of_cell? _ _ hq
 obtain ⟨g,o,rfl,hA,hgs,g0⟩:=hr.get i hi
 have hlt:(i:Int) < (L.length:Int):=om
 clear hr
 go_enter func192,ntmps192
 go_wp2_with fail
 refine Z0 9 kr kr ?_
 simp only [List.take_succ_cons,List.take_zero,List.drop_succ_cons,List.drop_zero]
 repeat still_step
 refine wpStill_nil ?_
 go_wp2_with fail
 go_ret
 exact ⟨rfl,ZlU⟩
set_option maxRecDepth 512
theorem Zbd (L:List Int) (r:Int) (i:Nat) (hi:i≤L.length) (h1:∀k (h:k < L.length),k < i→L[k]≤r) (h2:∀(h:i < L.length),r < L[i]):Qu L r=i:=by
 unfold Qu
 rcases Nat.lt_or_ge i L.length with h|h
 ·rw [List.findIdx_eq h]
  exact ⟨by simp [h2 h],fun j hj=>by have:=h1 j om hj;simp;omega⟩
 rw [List.findIdx_eq_length_of_false]
 ·omega
 intro x hx
 obtain ⟨k,hk,rfl⟩:=List.getElem_of_mem hx
 have:=h1 k hk om
 simp;omega
theorem Kr:∀(l l':List GV) (j:Nat),j≤l.length→j≤l'.length→(∀q (h:q < l.length) (h':q < l'.length),q < j→Vj l[q] l'[q]=0)→Ud l l'=Ud (l.drop j) (l'.drop j)
 | _,_,0,_,_,_=>sm
 | [],_,j+1,h,_,_=>by simp at h
 | _::_,[],j+1,_,h,_=>by simp at h
 | x::l,y::l',j+1,h,h',g=>by
  have g0:=g 0 sm sm om
  simp only [List.getElem_cons_zero] at g0
  rw [Ud,if_pos g0,List.drop_succ_cons,List.drop_succ_cons]
  exact Kr l l' j (by simpa using h) (by simpa using h') fun q hq hq' hj=>by
   have:=g (q+1) (by simpa using hq) (by simpa using hq') om
   simpa only [List.getElem_cons_succ] using this
theorem Uu (l l':List GV) (j:Nat) (h:j < l.length) (h':j < l'.length) (g:∀q (h:q < l.length) (h':q < l'.length),q < j→Vj l[q] l'[q]=0) (hn:Vj l[j] l'[j]≠0):Ud l l'=Vj l[j] l'[j]:=by
 rw [Kr l l' j om om g,List.drop_eq_getElem_cons h,List.drop_eq_getElem_cons h',Ud,if_neg hn]
theorem VC (l l':List GV) (j:Nat) (hj:j=min l.length l'.length) (g:∀q (h:q < l.length) (h':q < l'.length),q < j→Vj l[q] l'[q]=0):Ud l l'=Vq l.length l'.length:=by
 rw [Kr l l' j om om g]
 rcases Nat.lt_trichotomy l.length l'.length with h|h|h
 ·rw [List.drop_eq_nil_of_le om,List.drop_eq_getElem_cons (show j < l'.length by omega),Ud,Vq,if_pos om]
 ·rw [List.drop_eq_nil_of_le om,List.drop_eq_nil_of_le om,Ud,Vq,if_neg om,if_pos om]
 rw [List.drop_eq_nil_of_le (show l'.length≤j by omega),List.drop_eq_getElem_cons (show j < l.length by omega),Ud,Vq,if_neg om,if_neg om]
theorem Zl6 {p:Prop} (h:p:=by
 go_wp2_with fail
 all_goals go_ret
 all_goals exact ⟨sm,rfl⟩):p:=h
theorem Zii (a:Int) (w:World):Calls prog 251 #[.int .u8 a] w fun e w'=>e=.returned (.bool false)∧w=w':=by
 go_enter func251,ntmps251
 exact Zl6
theorem ZgV (a:Int) (w:World):Calls prog 252 #[.int .i64 a] w fun e w'=>e=.returned (.bool false)∧w=w':=by
 go_enter func252,ntmps252
 exact Zl6
theorem Zjo (a:Int) (w:World):Calls prog 226 #[.int .i64 a] w fun e w'=>e=.returned (.bool false)∧w=w':=by
 go_enter func226,ntmps226
 exact Zl6
theorem ZlK {p:Prop} (h:p:=by
 go_ret
 all_goals refine ⟨Zf ?_,rfl⟩
 all_goals rw [←HF.out]
 all_goals unfold Vq
 all_goals (first|rfl|omega|((try simp only [beq_iff_eq,beq_eq_false_iff_ne,bne_iff_ne,bne_eq_false_iff_eq,decide_eq_true_eq,decide_eq_false_iff_not,ne_eq,Bool.and_eq_true,Bool.or_eq_true,Bool.and_eq_false_iff,Bool.or_eq_false_iff,Bool.not_eq_true',Bool.not_eq_false'] at *);(repeat' split)<;>first|rfl|omega|contradiction|(simp_all;done)|(simp_all;omega)))):p:=h
theorem Zc9 (a b:Int) (w:World) (ha:Yg a) (hb:Yg b):Calls prog 248 #[.int .u8 a,.int .u8 b] w fun e w'=>e=.returned (.int .i64 (Vq a b))∧w=w':=by
 obtain ⟨h0,h1⟩:=ha
 obtain ⟨h2,h3⟩:=hb
 generalize hF:Vq a b=F
 have HF:=hid hF
 clear hF
 go_enter func248,ntmps248
 go_wp2_with (go_at_call 251;refine (Zii _ _).mono ?_;rintro e w' ⟨rfl,rfl⟩)
 all_goals exact ZlK
theorem Zb3 (a b:Int) (w:World) (ha:Zv a) (hb:Zv b):Calls prog 249 #[.int .i64 a,.int .i64 b] w fun e w'=>e=.returned (.int .i64 (Vq a b))∧w=w':=by
 obtain ⟨h0,h1⟩:=ha
 obtain ⟨h2,h3⟩:=hb
 generalize hF:Vq a b=F
 have HF:=hid hF
 clear hF
 go_enter func249,ntmps249
 go_wp2_with (go_at_call 252;refine (ZgV _ _).mono ?_;rintro e w' ⟨rfl,rfl⟩)
 all_goals exact ZlK
theorem Ue (a b:Int) (w:World) (ha:Zv a) (hb:Zv b):Calls prog 250 #[.int .i64 a,.int .i64 b] w fun e w'=>e=.returned (.int .i64 (Vq a b))∧w=w':=by
 obtain ⟨h0,h1⟩:=ha
 obtain ⟨h2,h3⟩:=hb
 generalize hF:Vq a b=F
 have HF:=hid hF
 clear hF
 go_enter func250,ntmps250
 go_wp2_with (go_at_call 226;refine (Zjo _ _).mono ?_;rintro e w' ⟨rfl,rfl⟩)
 all_goals exact ZlK
theorem Zl4 {p:Prop} (h:p:=by
 have hne:C≠0:=by simpa using ‹(C != 0)=true›
 go_ret
 exact ⟨Zf (by rw [←HF.out,Uu x.l y.l j hlt1 hlt2 HS.out (by rw [HC.out];exact hne),HC.out]),hbb⟩):p:=h
theorem Zl1 {p:Prop} (h:p:=by
 obtain ⟨j,hj,rfl,HS,hb,hz,hcx,hcy⟩:=hrel
 by_cases hlt:j < y.l.length
 ·have hlt1:j < x.l.length:=om
  have hlt2:j < y.l.length:=om
  obtain ⟨b,o,mj,rfl,hA,hbs,g0,gx⟩:=HL.out.get j hlt1
  obtain ⟨b',o',mj',rfl,hA',hbs',g0',gy⟩:=HL'.out.get j hlt2
  obtain ⟨k0,k1,k2⟩:=At3.1 (g0.ext (ZlH hb) (A:=fun _=>True) trivial)
  obtain ⟨k0',k1',k2'⟩:=At3.1 (g0'.ext (ZlH hb) (A:=fun _=>True) trivial)
  have hs1:b < wr.heap.size:=om
  have hs2:b' < wr.heap.size:=om
  clear hbs hbs' g0 g0'
  generalize hC:Vj x.l[j] y.l[j]=C
  have HC:=hid hC
  clear hC
  go_wp2_with fail
  refine Z0 10 kr kr ?_
  simp only [List.take_succ_cons,List.take_zero,List.drop_succ_cons,List.drop_zero]
  repeat still_step
  refine wpStill_nil ?_
  go_wp2_with (go_at_call 247;refine (IH.out x.l[j] y.l[j] _ A A' mj mj' (by have:=ZX x.l j hlt1;omega) (O.out.1.get j hlt1) (O.out.2.get j hlt2)
    (by exact Zl.1 (ZmG (ZlH hb.drew) _ _ gx)) (by exact Zl.1 (ZmG (ZlH hb.drew) _ _ gy))).mono ?_;rw [HC.out];rintro e2 w2 ⟨rfl,hb2⟩)
  all_goals have hbb:Below w.heap.size w w2:=(hb.drew).trans (hb2.mono (by simp;omega))
  ·exact Zl4
  have hne:C=0:=by simpa using ‹(C != 0)=false›
  have hz2:=hb2.size
  simp at hz2
  go_roundg (gk - 1)
  case rel=>exact ⟨j+1,om,by go_num,fun q h h' hq=>(by
   by_cases hqj:q=j
   ·subst hqj;rw [HC.out];exact hne
   exact HS.out q h h' om),hbb,om,(hb2.cell (by simp;omega)).trans gs,(hb2.cell (by simp;omega)).trans gs⟩
  case measure=>omega
 have hjl:j=y.l.length:=om
 go_wp2_with (go_at_call 250;refine (Ue _ _ _ ⟨om,om⟩ ⟨om,om⟩).mono ?_;rintro e w' ⟨rfl,rfl⟩)
 go_ret
 exact ⟨Zf (by rw [←HF.out,VC x.l y.l j om HS.out]),hb⟩):p:=h
theorem Zl2 {p:Prop} (h:p:=by
 obtain ⟨j,hj,rfl,HS,hb,hz,hcx,hcy⟩:=hrel
 by_cases hlt:j < x.l.length
 ·have hlt1:j < x.l.length:=om
  have hlt2:j < y.l.length:=om
  obtain ⟨b,o,mj,rfl,hA,hbs,g0,gx⟩:=HL.out.get j hlt1
  obtain ⟨b',o',mj',rfl,hA',hbs',g0',gy⟩:=HL'.out.get j hlt2
  obtain ⟨k0,k1,k2⟩:=At3.1 (g0.ext (ZlH hb) (A:=fun _=>True) trivial)
  obtain ⟨k0',k1',k2'⟩:=At3.1 (g0'.ext (ZlH hb) (A:=fun _=>True) trivial)
  have hs1:b < wr.heap.size:=om
  have hs2:b' < wr.heap.size:=om
  clear hbs hbs' g0 g0'
  generalize hC:Vj x.l[j] y.l[j]=C
  have HC:=hid hC
  clear hC
  go_wp2_with fail
  refine Z0 10 kr kr ?_
  simp only [List.take_succ_cons,List.take_zero,List.drop_succ_cons,List.drop_zero]
  repeat still_step
  refine wpStill_nil ?_
  go_wp2_with (go_at_call 247;refine (IH.out x.l[j] y.l[j] _ A A' mj mj' (by have:=ZX x.l j hlt1;omega) (O.out.1.get j hlt1) (O.out.2.get j hlt2)
    (by exact Zl.1 (ZmG (ZlH hb.drew) _ _ gx)) (by exact Zl.1 (ZmG (ZlH hb.drew) _ _ gy))).mono ?_;rw [HC.out];rintro e2 w2 ⟨rfl,hb2⟩)
  all_goals have hbb:Below w.heap.size w w2:=(hb.drew).trans (hb2.mono (by simp;omega))
  ·exact Zl4
  have hne:C=0:=by simpa using ‹(C != 0)=false›
  have hz2:=hb2.size
  simp at hz2
  go_roundg (gk - 1)
  case rel=>exact ⟨j+1,om,by go_num,fun q h h' hq=>(by
   by_cases hqj:q=j
   ·subst hqj;rw [HC.out];exact hne
   exact HS.out q h h' om),hbb,om,(hb2.cell (by simp;omega)).trans gs,(hb2.cell (by simp;omega)).trans gs⟩
  case measure=>omega
 have hjl:j=x.l.length:=om
 go_wp2_with (go_at_call 250;refine (Ue _ _ _ ⟨om,om⟩ ⟨om,om⟩).mono ?_;rintro e w' ⟨rfl,rfl⟩)
 go_ret
 exact ⟨Zf (by rw [←HF.out,VC x.l y.l j om HS.out]),hb⟩):p:=h
set_option maxRecDepth 100000
theorem Zi5 (N:Nat):∀(x y:GV) (w:World) (A A':Nat→Prop) (m m':VA),Zg x≤N→okV x→okV y→RVs w A x.l m.a→RVs w A' y.l m'.a →
  Calls prog 247 #[VV x m,VV y m'] w fun e w'=>e=.returned (.int .i64 (Vj x y))∧Below w.heap.size w w':=by
 induction N with
 | zero=>intro x;have:=Zr x;intros;omega
 | succ N ih=>
  rintro x y w A A' ⟨ma,mc⟩ ⟨ma',mc'⟩ hN ox oy hl hl'
  dsimp only at hl hl'
  have IH:=hid ih
  have HL:=hid hl
  have HL':=hid hl'
  rw [XZ] at hN
  clear hl hl' ih
  obtain ⟨⟨x1,x2⟩,⟨x3,x4⟩,x5,ox'⟩:=ZA.1 ox
  obtain ⟨⟨y1,y2⟩,⟨y3,y4⟩,y5,oy'⟩:=ZA.1 oy
  have O:=hid (And.intro ox' oy')
  clear ox oy ox' oy'
  rw [Zgi]
  by_cases hk:x.k=y.k
  case neg=>
   rw [if_neg hk]
   have hk':(x.k != y.k)=true:=by simpa using hk
   clear hk
   go_enter func247,ntmps247
   go_wp2_with (go_at_call 248;refine (Zc9 _ _ _ ⟨om,om⟩ ⟨om,om⟩).mono ?_;rintro e w' ⟨rfl,rfl⟩)
   go_ret
   exact ⟨rfl,ZlU⟩
  rw [if_pos hk]
  have hk':(x.k != y.k)=false:=by simpa using hk
  clear hk
  by_cases h12:x.k=1∨x.k=2
  ·rw [if_pos h12]
   have HB:=hid (show Zam x.k=true by rcases h12 with h|h<;>simp [Zam,h])
   clear h12
   go_enter func247,ntmps247
   go_wp2_with (first
    | (go_at_call 196;refine (VW _ _ ⟨om,om⟩).mono ?_;rw [HB.out];rintro e w' ⟨rfl,rfl⟩)
    | (go_at_call 249;refine (Zb3 _ _ _ ⟨om,om⟩ ⟨om,om⟩).mono ?_;rintro e w' ⟨rfl,rfl⟩))
   go_ret
   exact ⟨rfl,ZlU⟩
  rw [if_neg h12]
  have HB:=hid (show Zam x.k=false by simp only [Zam,Bool.or_eq_false_iff,beq_eq_false_iff_ne];omega)
  clear h12
  by_cases h34:x.k=3∨x.k=4
  case neg=>
   rw [if_neg h34]
   have h3':(x.k != 3)=true:=by simp;omega
   have h4':(x.k != 4)=true:=by simp;omega
   clear h34
   go_enter func247,ntmps247
   go_wp2_with (go_at_call 196;refine (VW _ _ ⟨om,om⟩).mono ?_;rw [HB.out];rintro e w' ⟨rfl,rfl⟩)
   go_ret
   exact ⟨rfl,ZlU⟩
  rw [if_pos h34]
  generalize hF:Ud x.l y.l=F
  have HF:=hid hF
  clear hF
  rcases h34 with h34|h34
  ·have h3':(x.k != 3)=false:=by simp [h34]
   clear h34
   rcases Nat.lt_or_ge y.l.length x.l.length with hxy|hxy
   ·have hxyI:(y.l.length:Int) < (x.l.length:Int):=om
    go_enter func247,ntmps247
    go_wp2_with (go_at_call 196;refine (VW _ _ ⟨om,om⟩).mono ?_;rw [HB.out];rintro e w' ⟨rfl,rfl⟩)
    go_loopg [43] (y.l.length) (fun gk i wr=>∃j:Nat,gk+j=y.l.length∧i=.int .i64 j∧Hid (∀q (h:q < x.l.length) (h':q < y.l.length),q < j→Vj x.l[q] y.l[q]=0)∧Below w.heap.size w wr∧w.heap.size+1 < wr.heap.size ∧
     wr.cell? ⟨w.heap.size,2,none⟩=some (.slice ma x.l.length mc)∧wr.cell? ⟨w.heap.size+1,2,none⟩=some (.slice ma' y.l.length mc'))
    case atStart=>exact ⟨0,om,by go_num,fun q h h' hq=>absurd hq om,ZlU,sm,gs,gs⟩
    case round=>
     exact Zl1
   have hxyI:¬(y.l.length:Int) < (x.l.length:Int):=om
   go_enter func247,ntmps247
   go_wp2_with (go_at_call 196;refine (VW _ _ ⟨om,om⟩).mono ?_;rw [HB.out];rintro e w' ⟨rfl,rfl⟩)
   go_loopg [43] (x.l.length) (fun gk i wr=>∃j:Nat,gk+j=x.l.length∧i=.int .i64 j∧Hid (∀q (h:q < x.l.length) (h':q < y.l.length),q < j→Vj x.l[q] y.l[q]=0)∧Below w.heap.size w wr∧w.heap.size+1 < wr.heap.size ∧
    wr.cell? ⟨w.heap.size,2,none⟩=some (.slice ma x.l.length mc)∧wr.cell? ⟨w.heap.size+1,2,none⟩=some (.slice ma' y.l.length mc'))
   case atStart=>exact ⟨0,om,by go_num,fun q h h' hq=>absurd hq om,ZlU,sm,gs,gs⟩
   case round=>
    exact Zl2
  have h3':(x.k != 3)=true:=by simp [h34]
  have h4':(x.k != 4)=false:=by simp [h34]
  clear h34
  rcases Nat.lt_or_ge y.l.length x.l.length with hxy|hxy
  ·have hxyI:(y.l.length:Int) < (x.l.length:Int):=om
   go_enter func247,ntmps247
   go_wp2_with (go_at_call 196;refine (VW _ _ ⟨om,om⟩).mono ?_;rw [HB.out];rintro e w' ⟨rfl,rfl⟩)
   go_loopg [43] (y.l.length) (fun gk i wr=>∃j:Nat,gk+j=y.l.length∧i=.int .i64 j∧Hid (∀q (h:q < x.l.length) (h':q < y.l.length),q < j→Vj x.l[q] y.l[q]=0)∧Below w.heap.size w wr∧w.heap.size+1 < wr.heap.size ∧
    wr.cell? ⟨w.heap.size,2,none⟩=some (.slice ma x.l.length mc)∧wr.cell? ⟨w.heap.size+1,2,none⟩=some (.slice ma' y.l.length mc'))
   case atStart=>exact ⟨0,om,by go_num,fun q h h' hq=>absurd hq om,ZlU,sm,gs,gs⟩
   case round=>
    exact Zl1
  have hxyI:¬(y.l.length:Int) < (x.l.length:Int):=om
  go_enter func247,ntmps247
  go_wp2_with (go_at_call 196;refine (VW _ _ ⟨om,om⟩).mono ?_;rw [HB.out];rintro e w' ⟨rfl,rfl⟩)
  go_loopg [43] (x.l.length) (fun gk i wr=>∃j:Nat,gk+j=x.l.length∧i=.int .i64 j∧Hid (∀q (h:q < x.l.length) (h':q < y.l.length),q < j→Vj x.l[q] y.l[q]=0)∧Below w.heap.size w wr∧w.heap.size+1 < wr.heap.size ∧
   wr.cell? ⟨w.heap.size,2,none⟩=some (.slice ma x.l.length mc)∧wr.cell? ⟨w.heap.size+1,2,none⟩=some (.slice ma' y.l.length mc'))
  case atStart=>exact ⟨0,om,by go_num,fun q h h' hq=>absurd hq om,ZlU,sm,gs,gs⟩
  case round=>
   exact Zl2
set_option maxRecDepth 512
theorem ZdM (a b:Int):(a < b∧Vq a b= -1)∨(a=b∧Vq a b=0)∨(b < a∧Vq a b=1):=by
 unfold Vq
 rcases Int.lt_trichotomy a b with h|h|h
 ·exact .inl ⟨h,if_pos h⟩
 ·exact .inr (.inl ⟨h,by rw [if_neg om,if_pos h]⟩)
 exact .inr (.inr ⟨h,by rw [if_neg om,if_neg om]⟩)
theorem ZlL {p:Prop} (h:p:=by
 clear h1
 rcases hk12 with h4|⟨h4,h5⟩
 all_goals go_enter func106,ntmps106
 all_goals go_wp2_with fail
 all_goals go_ret
 all_goals exact ⟨rfl,ZlD⟩):p:=h
theorem Zl5 {p:Prop} (h:p:=by
 go_enter func106,ntmps106
 go_wp2_with fail
 go_ret
 exact ⟨rfl,ZlD⟩):p:=h
set_option maxRecDepth 100000
theorem Zfv (N:Nat):∀(x y:GV) (w:World) (A A':Nat→Prop) (m m':VA),Zg x≤N→okV x→okV y→RVs w A x.l m.a→RVs w A' y.l m'.a →
  Calls prog 106 #[VV x m,VV y m'] w fun e w'=>e=.returned (.int .i64 (Vj x y))∧Below w.heap.size w w':=by
 induction N with
 | zero=>intro x;have:=Zr x;intros;omega
 | succ N ih=>
  rintro x y w A A' ⟨ma,mc⟩ ⟨ma',mc'⟩ hN ox oy hl hl'
  dsimp only at hl hl'
  have IH:=hid ih
  have HL:=hid hl
  have HL':=hid hl'
  rw [XZ] at hN
  clear hl hl' ih
  obtain ⟨⟨x1,x2⟩,⟨x3,x4⟩,x5,ox'⟩:=ZA.1 ox
  obtain ⟨⟨y1,y2⟩,⟨y3,y4⟩,y5,oy'⟩:=ZA.1 oy
  have O:=hid (And.intro ox' oy')
  clear ox oy ox' oy'
  rw [Zgi]
  by_cases hk:x.k=y.k
  case neg=>
   rw [if_neg hk]
   have hk':(x.k != y.k)=true:=by simpa using hk
   rcases ZdM x.k y.k with ⟨h1,h2⟩|⟨h1,h2⟩|⟨h1,h2⟩
   ·rw [h2]
    have h3:decide (x.k < y.k)=true:=by simpa using h1
    clear hk h1 h2
    exact Zl5
   ·exact absurd h1 hk
   rw [h2]
   have h3:decide (x.k < y.k)=false:=by simp;omega
   clear hk h1 h2
   exact Zl5
  rw [if_pos hk]
  have hk':(x.k != y.k)=false:=by simpa using hk
  clear hk
  by_cases h12:x.k=1∨x.k=2
  ·rw [if_pos h12]
   have hk12:(x.k==1)=true∨((x.k==1)=false∧(x.k==2)=true):=by
    rcases h12 with h|h
    ·exact .inl (by simp [h])
    exact .inr ⟨by simp [h],by simp [h]⟩
   clear h12
   rcases ZdM x.n y.n with ⟨h1,h2⟩|⟨h1,h2⟩|⟨h1,h2⟩
   all_goals rw [h2]
   all_goals clear h2
   ·have h3:decide (x.n < y.n)=true:=by simpa using h1
    exact ZlL
   ·have h3:decide (x.n < y.n)=false:=by simp;omega
    have h6:decide (y.n < x.n)=false:=by simp;omega
    exact ZlL
   have h3:decide (x.n < y.n)=false:=by simp;omega
   have h6:decide (y.n < x.n)=true:=by simpa using h1
   exact ZlL
  rw [if_neg h12]
  have h1':(x.k==1)=false:=by simp;omega
  have h2':(x.k==2)=false:=by simp;omega
  by_cases h34:x.k=3∨x.k=4
  case neg=>
   rw [if_neg h34]
   have h3':(x.k != 3)=true:=by simp;omega
   have h4':(x.k != 4)=true:=by simp;omega
   clear h34 h12
   exact Zl5
  rw [if_pos h34]
  generalize hF:Ud x.l y.l=F
  have HF:=hid hF
  clear hF
  have h34':(x.k != 3)=false∨((x.k != 3)=true∧(x.k != 4)=false):=by
   rcases h34 with h|h
   ·exact .inl (by simp [h])
   exact .inr ⟨by simp [h],by simp [h]⟩
  clear h34 h12
  rcases h34' with h3'|⟨h3',h4'⟩
  all_goals
   go_enter func106,ntmps106
   go_wp2_with fail
   go_loopg [5] (x.l.length) (fun gk i wr=>∃j:Nat,gk+j=x.l.length∧i=.int .i64 j∧j≤y.l.length∧Hid (∀q (h:q < x.l.length) (h':q < y.l.length),q < j→Vj x.l[q] y.l[q]=0)∧Below w.heap.size w wr∧w.heap.size+1 < wr.heap.size ∧
    wr.cell? ⟨w.heap.size,2,none⟩=some (.slice ma x.l.length mc)∧wr.cell? ⟨w.heap.size+1,2,none⟩=some (.slice ma' y.l.length mc'))
   case atStart=>exact ⟨0,om,rfl,om,fun q h h' hq=>absurd hq om,ZlD,sm,gs,gs⟩
   case round=>
    obtain ⟨j,hj,rfl,hjy,HS,hb,hz,hcx,hcy⟩:=hrel
    by_cases hlt1:j < x.l.length
    ·by_cases hlt2:j < y.l.length
     ·obtain ⟨b,o,mj,rfl,hA,hbs,g0,gx⟩:=HL.out.get j hlt1
      obtain ⟨b',o',mj',rfl,hA',hbs',g0',gy⟩:=HL'.out.get j hlt2
      obtain ⟨k0,k1,k2⟩:=At3.1 (g0.ext (ZlH hb) (A:=fun _=>True) trivial)
      obtain ⟨k0',k1',k2'⟩:=At3.1 (g0'.ext (ZlH hb) (A:=fun _=>True) trivial)
      have hs1:b < wr.heap.size:=om
      have hs2:b' < wr.heap.size:=om
      clear hbs hbs' g0 g0'
      generalize hC:Vj x.l[j] y.l[j]=C
      have HC:=hid hC
      clear hC
      go_wp2_with fail
      refine Z0 10 kr kr ?_
      simp only [List.take_succ_cons,List.take_zero,List.drop_succ_cons,List.drop_zero]
      repeat still_step
      refine wpStill_nil ?_
      go_wp2_with (go_at_call 106;refine (IH.out x.l[j] y.l[j] _ A A' mj mj' (by have:=ZX x.l j hlt1;omega) (O.out.1.get j hlt1) (O.out.2.get j hlt2)
        (by exact Zl.1 (ZmG (ZlH hb.drew) _ _ gx)) (by exact Zl.1 (ZmG (ZlH hb.drew) _ _ gy))).mono ?_;rw [HC.out];rintro e2 w2 ⟨rfl,hb2⟩)
      all_goals have hbb:Below w.heap.size w w2:=(hb.drew).trans (hb2.mono (by simp;omega))
      ·have hne:C≠0:=by simpa using ‹(C != 0)=true›
       go_ret
       exact ⟨Zf (by rw [←HF.out,Uu x.l y.l j hlt1 hlt2 HS.out (by rw [HC.out];exact hne),HC.out]),hbb⟩
      have hne:C=0:=by simpa using ‹(C != 0)=false›
      have hz2:=hb2.size
      simp at hz2
      go_roundg (gk - 1)
      case rel=>exact ⟨j+1,om,by go_num,om,fun q h h' hq=>(by
       by_cases hqj:q=j
       ·subst hqj;rw [HC.out];exact hne
       exact HS.out q h h' om),hbb,om,(hb2.cell (by simp;omega)).trans gs,(hb2.cell (by simp;omega)).trans gs⟩
      case measure=>omega
     have hjl:j=y.l.length:=om
     have HE:=hid (VC x.l y.l j om HS.out)
     have hl1:¬x.l.length < y.l.length:=om
     have hl2:y.l.length < x.l.length:=om
     go_wp2_with fail
     go_ret
     exact ⟨Zf (by rw [←HF.out,HE.out,Vq,if_neg om,if_neg om]),ZlD⟩
    have hjl:j=x.l.length:=om
    have HE:=hid (VC x.l y.l j om HS.out)
    by_cases hl1:x.l.length < y.l.length
    ·go_wp2_with fail
     go_ret
     exact ⟨Zf (by rw [←HF.out,HE.out,Vq,if_pos om]),ZlD⟩
    have hl2:¬y.l.length < x.l.length:=om
    go_wp2_with fail
    go_ret
    exact ⟨Zf (by rw [←HF.out,HE.out,Vq,if_neg om,if_pos om]),ZlD⟩
end Go.Proofs.YtclphfojkggcpaaGreatDoor
