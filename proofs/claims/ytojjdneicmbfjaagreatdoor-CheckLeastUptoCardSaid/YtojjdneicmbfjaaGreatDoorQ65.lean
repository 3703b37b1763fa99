/- What the proofs of the Trial statements need: part 46. -/
import Derived.Lib.SliceRun
import Derived.Test.YtojjdneicmbfjaaGreatDoorQ34
import Derived.Test.YtojjdneicmbfjaaGreatDoorQ64
set_option linter.unusedVariables false
set_option linter.unusedSimpArgs false
namespace Go.Proofs.YtojjdneicmbfjaaGreatDoor
open Go.Lib (hid)
open Go Go.RowKit
section
open Go Go.RowKit Go.Shelf
attribute [local go_sem] Oper.semAt_some
theorem least_run {t:GT} {p:GP} {s:ByteArray} {y:GV} (ox:okT t) (h:failT t p s=some (s,y)):runE t s=0∧runT s t=.ok y s.size∧holdsP p y=false:=by
 unfold failT at h
 split at h
 ·cases h
 ·rename_i h0
  have hE:runE t s=0:=by simpa using h0
  have hin:=runT_in hE ox
  split at h
  ·cases h
  ·rename_i v k hr
   rw [hr] at hin
   split at h
   ·cases h
   ·rename_i hh
    simp only [Option.some.injEq,Prod.mk.injEq] at h
    obtain ⟨e1,rfl⟩:=h
    have hl:=congrArg (fun b:ByteArray=>b.data.toList.length) e1
    simp only [preS_list,List.length_take,←size_list] at hl
    have hk:k=s.size:=by have:=hin.2.1;omega
    exact ⟨hE,by rw [hr,hk],by simpa using hh⟩
theorem equalIn_func_nil (W:World) (d b:Nat):(Op.equalIn (d+1) 69 (.func (.func 55) #[] #[.pointer (some ⟨b,0,none⟩)]) .nilFunc).run Tryz.prog W=.ok false W:=by
 simp [Op.equalIn,run_underlying Tryz.underlying69]
theorem each_nil (W:World) (b:Nat):(binOp .eql 69 (.func (.func 55) #[] #[.pointer (some ⟨b,0,none⟩)]) .nilFunc).run Tryz.prog W=.ok (.bool false) W:=by
 simp only [binOp]
 simp [Op.equal,Op.maxDepth,equalIn_func_nil W 9999 b]
theorem wpIn_rangeOne {F:Fence} {n:Nat} {P:Program} {α:Type} {g:Operand} {p q:Tmp} {assign body:Code} {Q:Exit→Act→World→Prop} {a:Act} {w:World}
  (hro:F.round=none) (h1:1≤n) {gf:Nat} {lb:Array Value} (hg:a.eval g=.func (.func gf) #[] lb) (hFg:F.fn gf) (eg:∀args w,(callFunc gf args).run P w=.ok (.enter gf args) w)
  {ev:α→Value} {Kp:World→World→Prop} {S Sp:List α→Prop} {N:Nat} {w0:World} (hseq:SeqStopsK F (n - 1) P gf lb (fun x=>#[ev x]) Kp S Sp N w0)
  (hKt:∀{A B C:World},Kp A B→Kp B C→Kp A C) (hKb:∀(W:World) (l:Nat) (o o':Obj),w.heap.size≤l→W.heap[l]? =some o→o.isCells=false→o.isWalk=false→Kp W (W.putObj l o')) (hb0:Below w0.heap.size w0 w)
  (I:List α→World→Prop) (Ix:Code→List α→World→Prop) (hI:OwnFrom w.heap.size I) (hIx:∀c,OwnFrom w.heap.size (Ix c)) (h0:I [] w)
  (hassign:∀(l:Nat) (x:α) (W:World) (K:Act→World→Prop),K { tmps:=(a.tmps.setIfInBounds p (ev x)).setIfInBounds q (ev x),defers:=[] } W →
   assign.wpIn (F.inRound l) (n - 1 - 1) P (Exit.then K (fun _ _ _=>False)) { tmps:=a.tmps.setIfInBounds p (ev x),defers:=[] } W)
  (hbody:∀(l:Nat) (pre:List α) (x:α) (W:World),I pre W→pre.length < N→body.wpIn (F.inRound l) (n - 1 - 1) P (ownPostK Kp I Ix (pre++[x]) W) { tmps:=(a.tmps.setIfInBounds p (ev x)).setIfInBounds q (ev x),defers:=[] } W)
  (hdone:∀(D:Nat) (xs:List α) (W:World),w.heap.size≤D→S xs→I xs W→W.heap[D]? =some (.deferred (some []))→Q .normal { a with defers:={ target:=.collected D,args:=#[] }::a.defers } W)
  (hstop:∀(D:Nat) (c:Code) (pre:List α) (W:World),w.heap.size≤D→Sp pre→Ix c pre W→W.heap[D]? =some (.deferred (some []))→c.wpIn F n P Q { a with defers:={ target:=.collected D,args:=#[] }::a.defers } W):
  (Code.rangeFunc g #[p] assign body).wpIn F n P Q a w:=
 wpIn_rangeFunc_ownF (ps:=#[p]) (encs:=fun x=>#[ev x]) hro h1 hg hFg eg hseq (fun h k=>hKt h k) hKb hb0 (fun _=>rfl) I Ix hI hIx h0 (fun x=>{ tmps:=(a.tmps.setIfInBounds p (ev x)).setIfInBounds q (ev x),defers:=[] })
  (fun l x W K hK=>by have:=hassign l x W K hK;simpa using this) hbody hdone hstop
def lsI (W1:World):List Bit→World→Prop:=fun _ W'=>Below W1.heap.size W1 W'
def lsX (t:GT) (p:GP):Code→List Bit→World→Prop:=fun _ pre _=>Hid (∃y∈pre.map Subtype.val,failT t p y≠none)
set_option maxRecDepth 100000 in
set_option maxHeartbeats 64000000 in
theorem cleast_w (t:GT) (p:GP) (u:ByteArray) (w:World) (A A2:Nat→Prop) (m:TA) (mp:PA) (ox:okT t) (hs1:sizeT t≤1048576) (hl:RT w A t m) (op:okP p) (hp1:sizeP p≤1048576) (hr:RP w A2 p mp) (hss:u.size≤1048576) (hG:GW w) (s:ByteArray) (yk yn:Int) (yl:List GV) (n:Nat) (oy:okV ⟨yk,yn,yl⟩)
  (hS:∀W,RT W A t m→RP W A2 p mp→GW W→Calls Tryz.prog 14 #[TV t m,PV p mp,.string u] W fun e w'=>Below W.heap.size W w'∧∃my:VA,e=.returned (.tuple #[.string s,.agg #[.int .u8 yk,.int .i64 yn,.slice my.a yl.length my.c],.int .i64 n,.int .i64 0])∧RV w' (fun b=>W.heap.size≤b) ⟨yk,yn,yl⟩ my.a)
  (hus:isBits s=true) (hE:runE t s=0) (hR:runT s t=.ok ⟨yk,yn,yl⟩ s.size) (hB:(mayP p&&holdsP p ⟨yk,yn,yl⟩)=false) (hc:decide (0 < cmpS s u)=false) (hn:n≤1024) (hsc:n < 1024→scanT t p (candL s)=none) (hmay:mayP p=true):
  Calls Tryz.prog 7 #[TV t m,PV p mp,.string u] w fun e w'=>e=.returned (.bool true)∧Below w.heap.size w w':=by
 refine (callsIn_wide (n:=5)).1 ?_
 obtain ⟨ma,mb,mc,md,me,mf,mg,mh,mi,mj,mk,ml⟩:=m
 obtain ⟨na,nb,nc,nd⟩:=mp
 have HL:=hid hl
 have HR:=hid hr
 have OX:=hid ox
 have OP:=hid op
 have HG:=hid hG
 have hs:sizeT t≤1099511627776:=by omega
 have hp:sizeP p≤1099511627776:=by omega
 have hsz:s.size≤1024:=bits_le hus
 have HS:=hid hS
 have HU:=hid hus
 have HE:=hid hE
 have HRR:=hid hR
 have HB:=hid hB
 have HSC:=hid hsc
 have OY:=hid oy
 have HMAY:=hid hmay
 generalize hC:cmpS s u=C at hc
 have HC:=hid hC
 have hnil:=each_nil
 have n0:decide ((n:Int) < 0)=false:=by simp
 have n1:decide ((1024:Int) < (n:Int))=false:=by simp;omega
 clear hl hr ox op hG hS hus hE hR hB hsc oy hmay hC
 refine callsIn_of_wp_marks Tryz.func7 rfl trivial ?_ rfl
 simp only [Tryz.ntmps7,List.size_toArray,List.length_cons,List.length_nil,Nat.reduceAdd,Nat.reduceSub,Array.replicate_succ,Array.replicate_zero,List.push_toArray,List.append_toArray,List.nil_append,List.cons_append]
 refine wpIn_wide.2 ?_
 cases hq:((n:Int)==1024)
 all_goals go_wp2_with (first
  | (go_at_call 11;(with_reducible refine (long31_any t p u _ _ A A2 ⟨ma,mb,mc,md,me,mf,mg,mh,mi,mj,mk,ml⟩ ⟨na,nb,nc,nd⟩ OX.out hs1 (by exact RT.ext (Agree.below Below.r) _ _ HL.out) OP.out (by exact RP.ext (Agree.below Below.r) _ _ HR.out)).mono ?_);rintro e w1 ⟨⟨b1,rfl⟩,hb1⟩;obtain ⟨hc1,hf1⟩:=bcells hb1;have hz1:=hb1.size;(try simp at hz1);have y1:w.heap.size < w1.heap.size:=(by omega);have y2:w.heap.size+1 < w1.heap.size:=(by omega);have x1:w.heap.size+1+1 < w1.heap.size:=(by omega);cases b1)
  | (go_at_call 12;(with_reducible refine (cawake_any _ (HG.out.below Below.r)).mono ?_);rintro e wa ⟨rfl,hba⟩;obtain ⟨hca,hfa⟩:=bcells hba;have hza:=hba.size;(try simp at hza);have y3:w.heap.size < wa.heap.size:=(by omega);have y4:w.heap.size+1 < wa.heap.size:=(by omega);have x2:w.heap.size+1+1 < wa.heap.size:=(by omega))
  | (go_at_call 14;(with_reducible refine (HS.out _ (by exact RT.ext (Agree.below Below.r) _ _ HL.out) (by exact RP.ext (Agree.below Below.r) _ _ HR.out) (HG.out.below Below.r)).mono ?_);rintro e w3 ⟨hb3,⟨ya,yc⟩,rfl,hrv⟩;have HRV:=hid (RV.mono (A':=fun b=>b < w3.heap.size) (fun b _ h=>h) _ _ hrv);clear hrv;obtain ⟨hc3,hf3⟩:=bcells hb3;have hz3:=hb3.size;(try simp at hz3);have y5:w.heap.size < w3.heap.size:=(by omega);have y6:w.heap.size+1 < w3.heap.size:=(by omega);have x3:w.heap.size+1+1 < w3.heap.size:=(by omega))
  | (go_at_call 30;(with_reducible refine (run_ok t s _ A ⟨ma,mb,mc,md,me,mf,mg,mh,mi,mj,mk,ml⟩ OX.out hs (by exact RT.ext (Agree.below Below.r) _ _ HL.out) (by omega) HE.out ⟨yk,yn,yl⟩ s.size HRR.out).mono ?_);rintro e w4 ⟨hb4,⟨za,zc⟩,rfl,hrv⟩;have HRZ:=hid (RV.mono (A':=fun b=>b < w4.heap.size) (fun b _ h=>h) _ _ hrv);clear hrv;obtain ⟨hc4,hf4⟩:=bcells hb4;have hz4:=hb4.size;(try simp at hz4);have y7:w.heap.size < w4.heap.size:=(by omega);have y8:w.heap.size+1 < w4.heap.size:=(by omega);have y9:w3.heap.size < w4.heap.size:=(by omega);have x4:w.heap.size+1+1 < w4.heap.size:=(by omega))
  | (go_at_call 26;(with_reducible refine (same_self ⟨yk,yn,yl⟩ _ (fun b=>b < w4.heap.size) (fun b=>b < w3.heap.size) ⟨za,zc⟩ ⟨ya,yc⟩ OY.out (by exact RV.ext (Agree.below (show Below w4.heap.size w4 _ from Below.r)) _ _ HRZ.out) (by exact RV.ext (Agree.below (show Below w3.heap.size w3 _ from Below.r)) _ _ HRV.out)).mono ?_);rintro e w5 ⟨rfl,hb5⟩;obtain ⟨hc5,hf5⟩:=bcells hb5;have hz5:=hb5.size;(try simp at hz5);have z1:w.heap.size < w5.heap.size:=(by omega);have z2:w.heap.size+1 < w5.heap.size:=(by omega);have z3:w3.heap.size < w5.heap.size:=(by omega);have x5:w.heap.size+1+1 < w5.heap.size:=(by omega))
  | (go_at_call 31;(refine (Holds_at p ⟨yk,yn,yl⟩ false HB.out A2 (fun b=>b < w3.heap.size) ⟨na,nb,nc,nd⟩ ⟨ya,yc⟩ _ OP.out hp (by exact RP.ext (Agree.below Below.r) _ _ HR.out) OY.out (by exact RV.ext (Agree.below (show Below w3.heap.size w3 _ from Below.r)) _ _ HRV.out)).mono ?_);rintro e w6 ⟨rfl,hb6⟩;obtain ⟨hc6,hf6⟩:=bcells hb6;have hz6:=hb6.size;(try simp at hz6);have z4:w.heap.size < w6.heap.size:=(by omega);have z5:w.heap.size+1 < w6.heap.size:=(by omega);have x6:w.heap.size+1+1 < w6.heap.size:=(by omega))
  | (go_at_call 32;(with_reducible refine (cmpB_any _ _ _ (by omega) (by omega)).mono ?_);rw [HC.out];rintro e w7 ⟨rfl,hb7⟩;obtain ⟨hc7,hf7⟩:=bcells hb7;have hz7:=hb7.size;(try simp at hz7);have z6:w.heap.size < w7.heap.size:=(by omega);have z7:w.heap.size+1 < w7.heap.size:=(by omega);have x7:w.heap.size+1+1 < w7.heap.size:=(by omega))
  | (go_at_call 33;(with_reducible refine (each_any s _).mono ?_);rintro e w8 ⟨rfl,rfl⟩))
 rotate_left
 all_goals try (refine leaves_marks w.heap.size [] _ List.nodup_nil (fun D hD=>by simp at hD) (fun W9 hb9 ha9=>?_);have q0:W9.cell? ⟨w.heap.size+1+1,0,none⟩=some (.bool true):=ha9 _ _ trivial (by go_simp);refine ⟨.bool true,by (first|(simp [results,Tryz.f7,go_sem];done)|(simp [results,Tryz.f7,go_sem,q0];done)),rfl,?_⟩;exact Below.trans Below.r (Below.mono hb9 (by omega)))
 have hnn:n < 1024:=by
  have h9:¬(n:Int)=1024:=by simpa using hq
  omega
 refine wp_named (fun W=>Below w.heap.size w W∧W.heap.size=w7.heap.size+1∧W.cell? ⟨w7.heap.size,0,none⟩=some (.string s)∧W.cell? ⟨w.heap.size+1+1,0,none⟩=some (.bool false)∧W.frozen? ⟨w.heap.size+1+1,0,none⟩=false ∧
  Hid (At W w.heap.size 0 [.int .u8 t.k,.int .u8 t.v.k,.int .i64 t.v.n,.slice ma t.v.l.length mb,.slice mc t.vs.length md,.int .i64 t.lo,.int .i64 t.hi,.slice me t.w.length mf,.int .u8 t.p.k,.int .u8 t.p.v.k,.int .i64 t.p.v.n,.slice mg t.p.v.l.length mh,.int .i64 t.p.n,.slice mi t.p.a.length mj,.slice mk t.a.length ml]) ∧
  Hid (At W (w.heap.size+1) 0 [.int .u8 p.k,.int .u8 p.v.k,.int .i64 p.v.n,.slice na p.v.l.length nb,.int .i64 p.n,.slice nc p.a.length nd])) ?_ ?_
 ·as_aux_lemma=>
   exact ⟨Below.r,by simp,by go_simp,by go_simp,by go_simp,hid (At15z.2 ⟨by go_simp,by go_simp,by go_simp,by go_simp,by go_simp,by go_simp,by go_simp,by go_simp,by go_simp,by go_simp,by go_simp,by go_simp,by go_simp,by go_simp,by go_simp⟩),hid (At6z.2 ⟨by go_simp,by go_simp,by go_simp,by go_simp,by go_simp,by go_simp⟩)⟩
 clear hc1 hf1 hca hfa hc3 hf3 hc4 hf4 hc5 hf5 hc6 hf6 hc7 hf7 hb1 hba hb3 hb4 hb5 hb6 hb7 HRV HRZ hnil
 intro W1 ⟨hbw,hz8,hc0,r0,f0,HAT0,HAP0⟩
 have hg1:GW W1:=HG.out.below hbw
 refine (wpIn_wide (n:=5)).1 ?_
 refine wpIn_rangeOne (p:=112) (q:=16) rfl (by omega) (gf:=55) (lb:=#[.pointer (some ⟨w7.heap.size,0,none⟩)]) rfl trivial (enters_of Tryz.func55 (by kernel_rfl) rfl) (ev:=fun x:Bit=>.string x.1)
  (each_stops 4 (fun _=>False) s W1 w7.heap.size HU.out (fun h=>h) (fun h=>h) hc0 (fun _ _ h=>h) hg1) (fun h k=>KC.trans h k) (fun W l o o' _ h1 h2 _=>KC.putObj l o o' h1 h2) (Below.refl _ _)
  (lsI W1) (lsX t p) (ownFrom_below (Nat.le_refl _) (by omega)) (fun c s A B row hs hg hr=>hs) (Below.refl _ _) ?assign ?body ?done ?stop
 case assign=>
  intro l x W K hK
  simp only [List.setIfInBounds_toArray,List.set_cons_zero,List.set_cons_succ] at hK ⊢
  gi_wp2
  (try simp)
  exact hK
 case body=>
  as_aux_lemma=>
   rintro l pre x W2 hB2 hlen
   change Below W1.heap.size W1 W2 at hB2
   simp only [List.setIfInBounds_toArray,List.set_cons_zero,List.set_cons_succ]
   have hxs:=bits_le x.2
   have hb2:Below w.heap.size w W2:=hbw.trans (hB2.mono (by omega))
   have hcl:=lfails_any t p x.1 W2 A A2 ⟨ma,mb,mc,md,me,mf,mg,mh,mi,mj,mk,ml⟩ ⟨na,nb,nc,nd⟩ OX.out hs (RT.ext (Agree.below hb2) _ _ HL.out) OP.out hp (RP.ext (Agree.below hb2) _ _ HR.out) (by omega)
   have HCL:=hid hcl
   have hz2:=hB2.size
   have r2:W2.cell? ⟨w.heap.size+1+1,0,none⟩=some (.bool false):=(hB2.cell (by show w.heap.size+1+1 < _;omega)).trans r0
   have f2:W2.frozen? ⟨w.heap.size+1+1,0,none⟩=false:=(hB2.frozen (by show w.heap.size+1+1 < _;omega)).trans f0
   have HAT:=hid (show W2.rangeAt w.heap.size 0 _ from At_cellM (HAT0.out.ext (Agree.below hB2) (A:=fun _=>True) trivial))
   have HAP:=hid (show W2.rangeAt (w.heap.size+1) 0 _ from At_cellM (HAP0.out.ext (Agree.below hB2) (A:=fun _=>True) trivial))
   clear hcl
   gi_wp2_with (first
    | (refine wpListIn_load_mid l rfl rfl (fun _=>trivial) 31 _ rfl w.heap.size 0 (by rfl) [.int .u8 t.k,.int .u8 t.v.k,.int .i64 t.v.n,.slice ma t.v.l.length mb,.slice mc t.vs.length md,.int .i64 t.lo,.int .i64 t.hi,.slice me t.w.length mf,.int .u8 t.p.k,.int .u8 t.p.v.k,.int .i64 t.p.v.n,.slice mg t.p.v.l.length mh,.int .i64 t.p.n,.slice mi t.p.a.length mj,.slice mk t.a.length ml] _ HAT.out Tryz.underlying31 rfl (by kernel_rfl) ?_)
    | (refine wpListIn_load_mid l rfl rfl (fun _=>trivial) 28 _ rfl (w.heap.size+1) 0 (by rfl) [.int .u8 p.k,.int .u8 p.v.k,.int .i64 p.v.n,.slice na p.v.l.length nb,.int .i64 p.n,.slice nc p.a.length nd] _ HAP.out Tryz.underlying28 rfl (by kernel_rfl) ?_))
   refine ⟨trivial,(CallsIn.inRound l (callsIn_wide.2 HCL.out)).mono ?_⟩
   clear HAT HAP HCL HAT0 HAP0
   rintro e w9 ⟨hb9,n',b,rfl,HF⟩
   have hz9:=hb9.size
   cases b with
   | false=>
    clear HF
    gi_wp2
    exact ⟨KO_below (KeepsOthers.refl _) hb9,KC.below (KC.refl _ _) hb9,hB2.trans (hb9.mono hB2.size)⟩
   | true=>
    have hbad:failT t p x.1≠none:=by
     obtain ⟨e1,v,k,e2, -,e3⟩:=HF.out rfl
     rw [HMAY.out,Bool.true_and] at e3
     unfold failT
     rw [if_neg (by simp [e1]),e2]
     simp [e3]
    have HBAD:=hid hbad
    have r9:w9.cell? ⟨w.heap.size+1+1,0,none⟩=some (.bool false):=(hb9.cell (by show w.heap.size+1+1 < _;omega)).trans r2
    have f9:w9.frozen? ⟨w.heap.size+1+1,0,none⟩=false:=(hb9.frozen (by show w.heap.size+1+1 < _;omega)).trans f2
    clear HF hbad
    gi_wp2
    exact ⟨(KO_below (KeepsOthers.refl _) hb9).trans (KeepsOthers.setCell _ _ _),hid ⟨x.1,by simp,HBAD.out⟩⟩
 case done=>
  as_aux_lemma=>
   rintro D xs W2 hD hxs hB2 hKD
   change Below W1.heap.size W1 W2 at hB2
   have hz2:=hB2.size
   have r2:W2.cell? ⟨w.heap.size+1+1,0,none⟩=some (.bool false):=(hB2.cell (by show w.heap.size+1+1 < _;omega)).trans r0
   have f2:W2.frozen? ⟨w.heap.size+1+1,0,none⟩=false:=(hB2.frozen (by show w.heap.size+1+1 < _;omega)).trans f0
   have hbw2:Below w.heap.size w W2:=hbw.trans (hB2.mono (by omega))
   clear HAT0 HAP0
   go_wp2_with fail
   refine leaves_marks w.heap.size [D] _ (by simp) (fun D' hD'=>?_) (fun W9 hb9 ha9=>?_)
   ·obtain rfl:D'=D:=by simpa using hD'
    exact ⟨by omega,((KeepsOthers.setCell _ _ _).same D' _ hKD rfl)⟩
   ·have q0:W9.cell? ⟨w.heap.size+1+1,0,none⟩=some (.bool true):=ha9 _ _ trivial (by go_simp)
    refine ⟨.bool true,by (first|(simp [results,Tryz.f7,go_sem];done)|(simp [results,Tryz.f7,go_sem,q0];done)),rfl,?_⟩
    exact Below.trans Below.r (Below.mono hb9 (by omega))
 case stop=>
  as_aux_lemma=>
   rintro D c pre W2 hD hpre HX hKD
   exfalso
   obtain ⟨y,hy,hf⟩:=HX.out
   exact hf (scanT_none.1 (HSC.out hnn) y (hpre.subset hy))
end
set_option maxRecDepth 100000 in
theorem cleast_any (w:World) (t:GT) (A:Nat→Prop) (m:TA) (ox:okT t) (hs1:sizeT t≤1048576) (hl:RT w A t m) (p:GP) (A2:Nat→Prop) (mp:PA) (op:okP p) (hp1:sizeP p≤1048576) (hr:RP w A2 p mp) (u:ByteArray) (hss:u.size≤1048576) (hG:GW w):
  Calls Tryz.prog 7 #[TV t m,PV p mp,.string u] w fun e w'=>e=.returned (.bool true)∧Below w.heap.size w w':=by
 by_cases hE:shrE t p u=0
 case neg=>exact cleast_err t p u w A A2 m mp ox hs1 hl op hp1 hr hss hG hE
 obtain ⟨e1,e2,v,hF⟩:=shrE_zero hE
 have hall:=shr_all ox 1024 u v 0 hF
 generalize hT:shrT t p 1024 u v 0=T at hall
 obtain ⟨s,⟨yk,yn,yl⟩,n⟩:=T
 obtain ⟨h1,h2,h3,h4,h5,h6⟩:=shr_again ox hE hF hT
 obtain ⟨r1,r2,r3⟩:=least_run ox h2
 have hmay:=may_iff.2 e2
 have hs:sizeT t≤1099511627776:=by omega
 have hp:sizeP p≤1099511627776:=by omega
 refine cleast_w t p u w A A2 m mp ox hs1 hl op hp1 hr hss hG s yk yn yl n (fail_whole ox h2).2.2.2.2.2.2.1 (fun W g1 g2 g3=>?_) (fail_whole ox h2).2.1 r1 r2 (by rw [hmay,r3];rfl) ?_ h3 (fun hn=>hall.2.2.2.2.2.1 (by dsimp only;omega)) hmay
 ·have:=shrink_ok t p u W A A2 m mp ox hs g1 op hp g2 hE v hF g3
  rw [hT] at this
  exact this
 ·rcases h5 with ⟨rfl,rfl⟩|⟨g1,g2,g3⟩
  ·rw [cmpS_key]
   simp [cmpI]
  ·rw [g3]
   rfl
end Go.Proofs.YtojjdneicmbfjaaGreatDoor
