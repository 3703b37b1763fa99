/- What the proofs of the Trial statements need: part 39. -/
import Derived.Deep.CutRange
import Derived.Great.BuildSlice
import Derived.Test.YtojjdneicmbfjaaGreatDoorQ14
import Derived.Test.YtojjdneicmbfjaaGreatDoorQ15
import Derived.Test.YtojjdneicmbfjaaGreatDoorQ17
import Derived.Test.YtojjdneicmbfjaaGreatDoorQ35
import Derived.Test.YtojjdneicmbfjaaGreatDoorQ36
import Derived.Test.YtojjdneicmbfjaaGreatDoorQ41
import Derived.Test.YtojjdneicmbfjaaGreatDoorQTk
set_option linter.unusedVariables false
set_option linter.unusedSimpArgs false
namespace Go.Proofs.YtojjdneicmbfjaaGreatDoor
open Go.Lib (hid)
open Go Go.RowKit
set_option maxRecDepth 100000 in
set_option maxHeartbeats 1000000 in
theorem vlist_any (l:List GV) (a:Option Addr) (cp:Nat) (w:World) (A:Nat→Prop) (hln:l.length≤1048576) (ol:okVs l) (hl:RVs w A l a):
  Calls Tryz.prog 41 #[.slice a l.length cp] w fun e w'=>Below w.heap.size w w'∧∃m:VA,e=.returned (VV ⟨4,0,l⟩ m)∧RV w' (fun b=>w.heap.size≤b) ⟨4,0,l⟩ m.a:=by
 have HL:=hid hl
 have O:=hid ol
 clear hl ol
 go_enter Tryz.func41,Tryz.ntmps41
 go_wp2_with (go_at_call 66;refine (copies_any (sizeVs l) l _ A a cp (Nat.le_refl _) hln O.out (by exact RVs.ext (Agree.below Below.z) _ _ HL.out)).mono ?_;rintro e w1 ⟨hb1,a',c,rfl,hr1⟩;obtain ⟨hc1,hf1⟩:=bcells hb1;have hz1:=hb1.size;(try simp at hz1);have HR1:=hid (RVs.mono (A':=fun b=>w.heap.size+1≤b) (fun b h _=>by (try simp at h);omega) _ _ hr1);clear hr1;have y0:w.heap.size < w1.heap.size:=(by omega))
 refine bodyPost_ret (v:=VV ⟨4,0,l⟩ ⟨a',c⟩) (by first|(simp [results,Tryz.f41,go_sem];done)|(simp [results,Tryz.f41,go_sem, *];done)) rfl ?_
 exact ⟨Below.r,⟨a',c⟩,rfl,RV_iff.2 (RVs.mono (A:=fun b=>w.heap.size+1≤b) (fun b hb _=>by omega) _ _ (RVs.ext (agree_set3 _ _ _) _ _ HR1.out))⟩
abbrev spanL (lo hi:Int):List Value:=[.int .u8 2,.int .u8 0,.int .i64 0,.slice none 0 0,.slice none 0 0,.int .i64 lo,.int .i64 hi,.slice none 0 0,.int .u8 0,.int .u8 0,.int .i64 0,.slice none 0 0,.int .i64 0,.slice none 0 0,.slice none 0 0]
abbrev lessL (n:Int):List Value:=[.int .u8 4,.int .u8 1,.int .i64 n,.slice none 0 0,.int .i64 0,.slice none 0 0]
theorem crun_l {hi n:Int} {s:ByteArray} {N:Nat} {e:Int} {m k:Nat} {u:ByteArray} {vk vn:Int} (h:Rx (spanT 0 hi) (lessP n) s N ⟨e,m,k,u,⟨vk,vn,[]⟩⟩) (hh:isI64 hi) (hn:isI64 n) (w:World) (hG:GW w):
  Calls Tryz.prog 18 #[TV (spanT 0 hi) nilTA,PV (lessP n) nilPA,.string s,.int .i64 N] w fun q w'=>Below w.heap.size w w'∧∃my:VA,q=.returned (.tuple #[RVr e m k u vk vn my,.int .i64 0]):=
 crun_x h w (fun _=>True) (fun _=>True) nilTA nilPA (span_ok 0 hi (by unfold isI64;omega) hh) (size_span 0 hi) (spanR 0 hi) (lessP_ok n hn) (size_less n) (lessR n) hG
theorem run1 (w:World) (hG:GW w):Calls Tryz.prog 18 #[TV (spanT 0 7) nilTA,PV (lessP 5) nilPA,.string ⟨#[48,48,48,49,49,49]⟩,.int .i64 5] w fun q w'=>Below w.heap.size w w'∧∃my:VA,q=.returned (.tuple #[RVr 1 2 1 ⟨#[49,48,49]⟩ 1 5 my,.int .i64 0]):=
 crun_l (N:=5) rx1 (by unfold isI64;omega) (by unfold isI64;omega) w hG
theorem run2 (w:World) (hG:GW w):Calls Tryz.prog 18 #[TV (spanT 0 7) nilTA,PV (lessP 5) nilPA,.string ⟨#[48,48,48,48,48,49]⟩,.int .i64 5] w fun q w'=>Below w.heap.size w w'∧∃my:VA,q=.returned (.tuple #[RVr 3 2 0 ⟨#[]⟩ 0 0 my,.int .i64 0]):=
 crun_l (N:=5) rx2 (by unfold isI64;omega) (by unfold isI64;omega) w hG
theorem shk_l {hi n:Int} {u s:ByteArray} {v y:GV} {k:Nat} (h:Sx (spanT 0 hi) (lessP n) u v s y k) (hh:isI64 hi) (hn:isI64 n) (w:World) (hG:GW w):Calls Tryz.prog 21 #[TV (spanT 0 hi) nilTA,PV (lessP n) nilPA,.string u,.string s,.int .i64 k] w fun e w'=>e=.returned (.bool true)∧Below w.heap.size w w':=
 shrinks_any h w (fun _=>True) (fun _=>True) nilTA nilPA (span_ok 0 hi (by unfold isI64;omega) hh) (size_span 0 hi) (spanR 0 hi) (lessP_ok n hn) (size_less n) (lessR n) hG
theorem shk1 (w:World) (hG:GW w):Calls Tryz.prog 21 #[.agg (spanL 0 7).toArray,PV (lessP 5) nilPA,.string ⟨#[49,49,49]⟩,.string ⟨#[49,48,49]⟩,.int .i64 1] w fun e w'=>e=.returned (.bool true)∧Below w.heap.size w w':=
 shk_l sx1 (by unfold isI64;omega) (by unfold isI64;omega) w hG
theorem shk2 (w:World) (hG:GW w):Calls Tryz.prog 21 #[.agg (spanL 0 7).toArray,PV (lessP 5) nilPA,.string ⟨#[49,48,49]⟩,.string ⟨#[49,48,49]⟩,.int .i64 0] w fun e w'=>e=.returned (.bool true)∧Below w.heap.size w w':=
 shk_l sx2 (by unfold isI64;omega) (by unfold isI64;omega) w hG
theorem ref0 (w:World):Calls Tryz.prog 23 #[.agg (spanL 0 7).toArray,PV (lessP 5) nilPA,.string ⟨#[48,48,48]⟩,.int .i64 1] w fun e w'=>e=.returned (.bool true)∧Below w.heap.size w w':=
 refused_any se0 (by decide) w (fun _=>True) (fun _=>True) nilTA nilPA (span_ok 0 7 (by unfold isI64;omega) (by unfold isI64;omega)) (size_span 0 7) (spanR 0 7) (lessP_ok 5 (by unfold isI64;omega)) (size_less 5) (lessR 5) (by decide)
abbrev listL (B:Nat):List Value:=[.int .u8 6,.int .u8 0,.int .i64 0,.slice none 0 0,.slice none 0 0,.int .i64 0,.int .i64 3,.slice none 0 0,.int .u8 0,.int .u8 0,.int .i64 0,.slice none 0 0,.int .i64 0,.slice none 0 0,.slice (some ⟨B,0,none⟩) 1 1]
abbrev zzL:List Value:=[.int .u8 1,.int .i64 0,.slice none 0 0,.int .u8 1,.int .i64 0,.slice none 0 0]
theorem bSlT (w:World):(Instr.buildSlice 29 1 #[(0,.agg (spanL 0 1).toArray)]).run Tryz.prog w=.ok (.slice (some ⟨w.heap.size,0,none⟩) 1 1) (w.alloc (.cells (spanL 0 1).toArray 31)):=by
 obtain ⟨ie,hie,y0,y1,y2⟩:=info_parts infoTerm
 exact run_buildSlice w 29 31 1 _ _ ie _ Tryz.underlying29 hie y0 (by rw [y1];decide) (by rw [y1];decide) (by rw [y1];kernel_rfl)
theorem infoPred9:(Tryz.prog.info? 28).map (fun i=>(i.zero,i.size,i.bytes))=some (some (.agg #[.int .u8 0,.int .u8 0,.int .i64 0,.slice none 0 0,.int .i64 0,.slice none 0 0]),6,80):=by kernel_rfl
theorem bSlP (w:World):(Instr.buildSlice 26 1 #[(0,.agg (lessL 2).toArray)]).run Tryz.prog w=.ok (.slice (some ⟨w.heap.size,0,none⟩) 1 1) (w.alloc (.cells (lessL 2).toArray 28)):=by
 obtain ⟨ie,hie,y0,y1,y2⟩:=info_parts infoPred9
 exact run_buildSlice w 26 28 1 _ _ ie _ Tryz.underlying26 hie y0 (by rw [y1];decide) (by rw [y1];decide) (by rw [y1];kernel_rfl)
theorem wp_bSlK {P:Program} {o:Oper} {a:Act} {w w2:World} {d:Tmp} {v:Value} {T:TypeId} {n:Nat} {K:Act→World→Prop} {Q:Exit→Act→World→Prop} {parts:Array (Nat×Operand)} {ps:Array (Nat×Value)} (hd:o.dst=some d) (ho:o.op=.buildSlice T n parts)
  (hb:(Instr.buildSlice T n ps).run P w=.ok v w2) (hp:(parts.map fun (i,x)=>(i,a.eval x))=ps) (h:K (a.put (some d) v) w2):o.wp P a w K Q:=by
 unfold Oper.wp execOp
 rw [←hd] at h
 simp only [ho,Sem.run_bind,hp,hb,Result.andThen_ok]
 exact h
theorem wpList_bSlK {P:Program} {ops:Array Oper} {rest:List Oper} {o:Oper} {a:Act} {w w2:World} {d:Tmp} {v:Value} {T:TypeId} {n:Nat} {Q:Exit→Act→World→Prop} {parts:Array (Nat×Operand)} {ps:Array (Nat×Value)} (hg:o.guard=none) (hd:o.dst=some d) (ho:o.op=.buildSlice T n parts)
  (hb:(Instr.buildSlice T n ps).run P w=.ok v w2) (hp:(parts.map fun (i,x)=>(i,a.eval x))=ps) (h:wpList P ops Q rest (a.put (some d) v) w2):wpList P ops Q (o::rest) a w:=
 wpList_plain hg fun _ hK=>wp_bSlK hd ho hb hp (hK _ _ h)
theorem bLs (B:Nat) (w:World):(Instr.build 31 #[(0,.int .u8 6),(4,.int .i64 3),(7,.slice (some ⟨B,0,none⟩) 1 1)]).run Tryz.prog w=.ok (.agg (listL B).toArray) w:=by
 go_simp
theorem rs1 (my:VA) (w:World):Calls Tryz.prog 19 #[.agg #[.int .u8 1,.int .i64 2,.int .i64 1,.string ⟨#[49,48,49]⟩,.int .u8 1,.int .i64 5,.slice my.a 0 my.c],.agg #[.int .u8 1,.int .i64 2,.int .i64 1,.string ⟨#[49,48,49]⟩,.int .u8 1,.int .i64 5,.slice none 0 0]] w fun e w'=>e=.returned (.bool true)∧Below w.heap.size w w':=
 rsame_x 1 2 1 ⟨#[49,48,49]⟩ 1 5 (by unfold isU8;omega) (by unfold isI64;omega) w my ⟨none,0⟩
theorem rs2 (my:VA) (w:World):Calls Tryz.prog 19 #[.agg #[.int .u8 3,.int .i64 2,.int .i64 0,.string ⟨#[]⟩,.int .u8 0,.int .i64 0,.slice my.a 0 my.c],.agg #[.int .u8 3,.int .i64 2,.int .i64 0,.string ⟨#[]⟩,.int .u8 0,.int .i64 0,.slice none 0 0]] w fun e w'=>e=.returned (.bool true)∧Below w.heap.size w w':=
 rsame_x 3 2 0 ⟨#[]⟩ 0 0 (by unfold isU8;omega) (by unfold isI64;omega) w my ⟨none,0⟩
theorem bV15 (w:World):(Instr.build 24 #[(0,.int .u8 1),(1,.int .i64 5)]).run Tryz.prog w=.ok (.agg #[.int .u8 1,.int .i64 5,.slice none 0 0]) w:=by
 go_simp
theorem bRp (e n s vk vn:Int) (u:ByteArray) (w:World):(Instr.build 41 #[(0,.int .u8 e),(1,.int .i64 n),(2,.int .i64 s),(3,.string u),(4,.agg #[.int .u8 vk,.int .i64 vn,.slice none 0 0])]).run Tryz.prog w=.ok (.agg #[.int .u8 e,.int .i64 n,.int .i64 s,.string u,.int .u8 vk,.int .i64 vn,.slice none 0 0]) w:=by
 go_simp
theorem bRs (e n:Int) (w:World):(Instr.build 41 #[(0,.int .u8 e),(1,.int .i64 n)]).run Tryz.prog w=.ok (.agg #[.int .u8 e,.int .i64 n,.int .i64 0,.string ⟨#[]⟩,.int .u8 0,.int .i64 0,.slice none 0 0]) w:=by
 go_simp
theorem infoVal9:(Tryz.prog.info? 24).map (fun i=>(i.zero,i.size,i.bytes))=some (some (.agg #[.int .u8 0,.int .i64 0,.slice none 0 0]),3,40):=by kernel_rfl
theorem bSlV (w:World):(Instr.buildSlice 22 2 #[(0,.agg #[.int .u8 1,.int .i64 0,.slice none 0 0]),(1,.agg #[.int .u8 1,.int .i64 0,.slice none 0 0])]).run Tryz.prog w=.ok (.slice (some ⟨w.heap.size,0,none⟩) 2 2) (w.alloc (.cells zzL.toArray 24)):=by
 obtain ⟨ie,hie,y0,y1,y2⟩:=info_parts infoVal9
 exact run_buildSlice w 22 24 2 _ _ ie _ Tryz.underlying22 hie y0 (by rw [y1];decide) (by rw [y1];decide) (by rw [y1];kernel_rfl)
def mL (B:Nat):TA:={ nilTA with a:=some ⟨B,0,none⟩,c:=1 }
def mP (B:Nat):PA:={ nilPA with a:=some ⟨B,0,none⟩,c:=1 }
theorem list_R {w:World} {B:Nat} (h:At w B 0 (spanL 0 1)):RT w (fun _=>True) listT (mL B):=
 RT_iff.2 ⟨by simp [listT,noV,RV,RVs],by simp [listT,RVs],by simp [listT,RIs],by simp [listT,noP,noV,RP,RV,RVs,RPs],by
  simp only [listT,RTs]
  exact ⟨B,0,nilTA,rfl,trivial,h,spanR 0 1,trivial⟩⟩
theorem len_R {w:World} {B:Nat} (h:At w B 0 (lessL 2)):RP w (fun _=>True) (lenP 2) (mP B):=
 RP_iff.2 ⟨by simp [lenP,noV,RV,RVs],by
  simp only [lenP,RPs]
  exact ⟨B,0,nilPA,rfl,trivial,h,lessR 2,trivial⟩⟩
theorem zz_R {w:World} {B:Nat} (h:At w B 0 zzL):RVs w (fun _=>True) [numV 0,numV 0] (some ⟨B,0,none⟩):=by
 obtain ⟨h0,h1,h2,h3,h4,h5, -⟩:=h
 simp only [RVs,numV]
 exact ⟨B,0,⟨none,0⟩,rfl,trivial,⟨h0,h1,h2,trivial⟩,by simp [RV,RVs],B,3,⟨none,0⟩,rfl,trivial,⟨h3,h4,h5,trivial⟩,by simp [RV,RVs],trivial⟩
theorem list_ok:okT listT:=
 okT_iff.2 ⟨by unfold isU8 listT;simp,okV_iff.2 ⟨by unfold isU8 listT noV;simp,by unfold isI64 listT noV;simp,by simp [listT,noV],by simp [listT,noV,okVs]⟩,⟨by simp [listT],by simp [listT,okVs]⟩,by unfold isI64 listT;simp,by unfold isI64 listT;simp,⟨by simp [listT],by simp [listT,okIs]⟩,okP_iff.2 ⟨by unfold isU8 listT noP;simp,okV_iff.2 ⟨by unfold isU8 listT noP noV;simp,by unfold isI64 listT noP noV;simp,by simp [listT,noP,noV],by simp [listT,noP,noV,okVs]⟩,by unfold isI64 listT noP;simp,by simp [listT,noP],by simp [listT,noP,okPs]⟩,by simp [listT],by simp only [listT,okTs];exact ⟨span_ok 0 1 (by unfold isI64;omega) (by unfold isI64;omega),trivial⟩⟩
theorem len_ok:okP (lenP 2):=
 okP_iff.2 ⟨by unfold isU8 lenP;simp,okV_iff.2 ⟨by unfold isU8 lenP noV;simp,by unfold isI64 lenP noV;simp,by simp [lenP,noV],by simp [lenP,noV,okVs]⟩,by unfold isI64 lenP;simp,by simp [lenP],by simp only [lenP,okPs];exact ⟨lessP_ok 2 (by unfold isI64;omega),trivial⟩⟩
theorem shk3 (w:World) (hG:GW w) (B C:Nat) (hB:At w B 0 (spanL 0 1)) (hC:At w C 0 (lessL 2)):
  Calls Tryz.prog 14 #[TV listT (mL B),PV (lenP 2) (mP C),.string ⟨#[49,49,49,49,49]⟩] w fun e w'=>Below w.heap.size w w'∧∃my:VA,e=.returned (.tuple #[.string ⟨#[49,48,48,48]⟩,.agg #[.int .u8 4,.int .i64 0,.slice my.a 2 my.c],.int .i64 1,.int .i64 0])∧RV w' (fun b=>w.heap.size≤b) ⟨4,0,[numV 0,numV 0]⟩ my.a:=by
 obtain ⟨h1,h2,h3⟩:=sx3
 refine (shrink_ok listT (lenP 2) _ w (fun _=>True) (fun _=>True) (mL B) (mP C) list_ok (by simp [listT,spanT,noP,noV,sizeT,sizeTs,sizeV,sizeVs,sizeP,sizePs]) (list_R hB) len_ok (by simp [lenP,lessP,noV,sizeV,sizeVs,sizeP,sizePs]) (len_R hC) h1 _ h2 hG).mono fun e w' ⟨hb,my,he,hv⟩=>?_
 rw [h3] at he hv
 exact ⟨hb,my,he,hv⟩
set_option maxRecDepth 100000 in
set_option maxHeartbeats 64000000 in
theorem cawake_any (w:World) (hG:GW w):Calls Tryz.prog 12 #[] w fun e w'=>e=.returned (.bool true)∧Below w.heap.size w w':=by
 have HG:=hid hG
 clear hG
 go_enter Tryz.func12,Tryz.ntmps12
 go_upto_region 2 with (first
  | (go_at_call 20;(with_reducible refine (cspan_any _ _ _).mono ?_);rintro e wa ⟨rfl,hba⟩;have hza:=hba.size;(try simp at hza))
  | (refine wpList_store_newM rfl 31 _ _ rfl _ _ (by rfl) (by rfl) (by kernel_rfl) (by rfl) (by simp [Value.oneCell',spanT,nilTA,noV,noP]) ?_;try simp only [Act.put,sl,s0,ss]))
 refine wp_named (fun W=>Below w.heap.size w W∧W.heap.size=wa.heap.size+1∧w.heap.size≤wa.heap.size∧Hid (At W wa.heap.size 0 (spanL 0 7))) ⟨Below.r,by simp,by omega,hid (At_whole (l:=spanL 0 7) rfl)⟩ ?_
 clear hba
 intro wb ⟨hbb,hzb,hza',HD⟩
 have hq0:wa.heap.size < wb.heap.size:=by omega
 clear hzb
 go_cut [2,3] from 13 to 18 (fun p q wx=>∃(D:Nat) (my:VA),p=.pointer (some ⟨D,0,none⟩)∧q=.int .i64 0∧wb.heap.size≤D∧D < wx.heap.size∧Below wb.heap.size wb wx∧Hid (At wx D 0 [.int .u8 1,.int .i64 2,.int .i64 1,.string ⟨#[49,48,49]⟩,.int .u8 1,.int .i64 5,.slice my.a 0 my.c]))
 case first=>
  obtain ⟨n0,n1,n2,n3,n4,n5,n6,n7,n8,n9,na,nb,nc,nd,ne⟩:=At15z.1 HD.out
  have hzB:=hbb.size
  as_aux_lemma=>
   (try dsimp only [List.append])
   refine wp_region_noPanic ?_
   refine wp_region_held_drew (S:=(fun W=>∀k,W.cell? ⟨wa.heap.size,k,none⟩=wb.cell? ⟨wa.heap.size,k,none⟩)) (by kernel_rfl) ?_ (fun hHeld=>?_)
   ·((try dsimp only);(refine keep1 hq0 ?_;(exact Below.r)))
   refine tz 0 ?_
   try simp only [Act.put,sl,s0,ss]
   refine wrh [1,6] ?_
   refine rch (fun K hK=>?_) ?_
   ·go_simp
    go_wp2_with (go_at_call 24;(with_reducible refine (cless_any _ _).mono ?_);rintro e w5 ⟨rfl,hb5⟩;have hz5:=hb5.size;(try simp at hz5))
    refine hK.out _ _ ?_ (fun hHeld=>?_)
    ·((try dsimp only);(refine keep1 hq0 ?_;(exact Below.r)))
    clear hK K
    refine wrh [2,6] ?_
    refine rch (fun K hK=>?_) ?_
    ·go_simp
     go_wp2_with (go_at_call 18;(refine (run1 _ (HG.out.below Below.r)).mono ?_);rintro e w6 ⟨hb6,my,rfl⟩;have hz6:=hb6.size;(try simp at hz6))
     refine hK.out _ _ ?_ (fun hHeld=>?_)
     ·((try dsimp only);(refine keep1 hq0 ?_;(exact Below.r)))
     clear hK K
     as_aux_lemma=>
      refine tz 3 ?_
      try simp only [Act.put,sl,s0,ss]
      refine tz 4 ?_
      try simp only [Act.put,sl,s0,ss]
      refine tz 5 ?_
      try simp only [Act.put,sl,s0,ss]
      refine wrh1 6 fun K hK=>?_
      go_simp
      refine hK.out _ _ ?_ (fun hHeld=>?_)
      ·((try dsimp only);(refine keep1 hq0 ?_;(exact Below.r)))
      clear hK K
      as_aux_lemma=>
       refine wrh1 7 fun K hK=>?_
       (rw [if_pos (wanted_none rfl _)];refine wp_store_mid 44 _ _ rfl _ 0 _ rfl rfl thz (by kernel_rfl) (by simp [Value.oneCell']) ?_;simp only [Act.put,sl,s0,ss])
       refine hK.out _ _ ?_ (fun hHeld=>?_)
       ·((try dsimp only);(refine keep1 hq0 (belowM_set sz ?_);(exact Below.r)))
       clear hK K
       refine tz 8 ?_
       try simp only [Act.put,sl,s0,ss]
       refine wpAnyH_done (by kernel_rfl) ?_ _
       as_aux_lemma=>
        (go_wp2_with fail;(first|go_meet|(refine Met.intro ?_;go_step;go_meet));exact ⟨_,my,rfl,rfl,sz,(by rw [sizeM_set];first|omega|(simp;done)|(simp;omega)),belowM_set sz Below.r,hid (AtM_same thz)⟩)
    refine rch (fun K hK=>?_) ?_
    ·go_simp
     refine hK.out _ _ ?_ (fun hHeld=>?_)
     ·((try dsimp only);(refine keep1 hq0 ?_;(exact Below.r)))
     clear hK K
     refine wrh1 2 fun K hK=>?_
     go_simp
     go_wp2_with (go_at_call 18;(refine (run1 _ (HG.out.below Below.r)).mono ?_);rintro e w6 ⟨hb6,my,rfl⟩;have hz6:=hb6.size;(try simp at hz6))
     refine hK.out _ _ ?_ (fun hHeld=>?_)
     ·((try dsimp only);(refine keep1 hq0 ?_;(exact Below.r)))
     clear hK K
     as_aux_lemma=>
      refine tz 3 ?_
      try simp only [Act.put,sl,s0,ss]
      refine tz 4 ?_
      try simp only [Act.put,sl,s0,ss]
      refine tz 5 ?_
      try simp only [Act.put,sl,s0,ss]
      refine wrh1 7 fun K hK=>?_
      (rw [if_pos (wanted_none rfl _)];refine wp_store_mid 44 _ _ rfl _ 0 _ rfl rfl thz (by kernel_rfl) (by simp [Value.oneCell']) ?_;simp only [Act.put,sl,s0,ss])
      refine hK.out _ _ ?_ (fun hHeld=>?_)
      ·((try dsimp only);(refine keep1 hq0 (belowM_set sz ?_);(exact Below.r)))
      clear hK K
      as_aux_lemma=>
       refine tz 8 ?_
       try simp only [Act.put,sl,s0,ss]
       refine wpAnyH_done (by kernel_rfl) ?_ _
       as_aux_lemma=>
        (go_wp2_with fail;(first|go_meet|(refine Met.intro ?_;go_step;go_meet));exact ⟨_,my,rfl,rfl,sz,(by rw [sizeM_set];first|omega|(simp;done)|(simp;omega)),belowM_set sz Below.r,hid (AtM_same thz)⟩)
    exact AllReadyH.nil
   refine rch (fun K hK=>?_) ?_
   ·go_simp
    refine hK.out _ _ ?_ (fun hHeld=>?_)
    ·((try dsimp only);(refine keep1 hq0 ?_;(exact Below.r)))
    clear hK K
    refine wrh1 1 fun K hK=>?_
    go_simp
    go_wp2_with (go_at_call 24;(with_reducible refine (cless_any _ _).mono ?_);rintro e w5 ⟨rfl,hb5⟩;have hz5:=hb5.size;(try simp at hz5))
    refine hK.out _ _ ?_ (fun hHeld=>?_)
    ·((try dsimp only);(refine keep1 hq0 ?_;(exact Below.r)))
    clear hK K
    refine wrh1 2 fun K hK=>?_
    go_simp
    go_wp2_with (go_at_call 18;(refine (run1 _ (HG.out.below Below.r)).mono ?_);rintro e w6 ⟨hb6,my,rfl⟩;have hz6:=hb6.size;(try simp at hz6))
    refine hK.out _ _ ?_ (fun hHeld=>?_)
    ·((try dsimp only);(refine keep1 hq0 ?_;(exact Below.r)))
    clear hK K
    as_aux_lemma=>
     refine tz 3 ?_
     try simp only [Act.put,sl,s0,ss]
     refine tz 4 ?_
     try simp only [Act.put,sl,s0,ss]
     refine tz 5 ?_
     try simp only [Act.put,sl,s0,ss]
     refine wrh1 7 fun K hK=>?_
     (rw [if_pos (wanted_none rfl _)];refine wp_store_mid 44 _ _ rfl _ 0 _ rfl rfl thz (by kernel_rfl) (by simp [Value.oneCell']) ?_;simp only [Act.put,sl,s0,ss])
     refine hK.out _ _ ?_ (fun hHeld=>?_)
     ·((try dsimp only);(refine keep1 hq0 (belowM_set sz ?_);(exact Below.r)))
     clear hK K
     as_aux_lemma=>
      refine tz 8 ?_
      try simp only [Act.put,sl,s0,ss]
      refine wpAnyH_done (by kernel_rfl) ?_ _
      as_aux_lemma=>
       (go_wp2_with fail;(first|go_meet|(refine Met.intro ?_;go_step;go_meet));exact ⟨_,my,rfl,rfl,sz,(by rw [sizeM_set];first|omega|(simp;done)|(simp;omega)),belowM_set sz Below.r,hid (AtM_same thz)⟩)
   exact AllReadyH.nil
 case rest=>
  obtain ⟨D1,m1,rfl,rfl,d0,d1,hbc,HA1⟩:=hcut
  have hzc:=hbc.size
  go_upto_region 3 with fail
  refine wp_named (fun W=>Below w.heap.size w W∧wb.heap.size≤W.heap.size∧D1 < W.heap.size∧Hid (At W wa.heap.size 0 (spanL 0 7))∧Hid (At W D1 0 [.int .u8 1,.int .i64 2,.int .i64 1,.string ⟨#[49,48,49]⟩,.int .u8 1,.int .i64 5,.slice m1.a 0 m1.c])) ⟨Below.trans hbb (Below.mono hbc (by have:=hbb.size;omega)),hzc,d1,hid (At_below HD.out hbc),HA1⟩ ?_
  clear hbc hzc d1 HD HA1 hbb
  intro w3 ⟨hbb,hzc,d1,HD,HA1⟩
  have hq0:wa.heap.size < w3.heap.size:=by omega
  go_cut [4,5] from 19 to 24 (fun p q wx=>∃(D:Nat) (my:VA),p=.pointer (some ⟨D,0,none⟩)∧q=.int .i64 0∧w3.heap.size≤D∧D < wx.heap.size∧Below w3.heap.size w3 wx∧Hid (At wx D 0 [.int .u8 3,.int .i64 2,.int .i64 0,.string ⟨#[]⟩,.int .u8 0,.int .i64 0,.slice my.a 0 my.c]))
  case first=>
   obtain ⟨n0,n1,n2,n3,n4,n5,n6,n7,n8,n9,na,nb,nc,nd,ne⟩:=At15z.1 HD.out
   have hzB:=hbb.size
   as_aux_lemma=>
    (try dsimp only [List.append])
    refine wp_region_noPanic ?_
    refine wp_region_held_drew (S:=(fun W=>∀k,W.cell? ⟨wa.heap.size,k,none⟩=w3.cell? ⟨wa.heap.size,k,none⟩)) (by kernel_rfl) ?_ (fun hHeld=>?_)
    ·((try dsimp only);(refine keep1 hq0 ?_;(exact Below.r)))
    refine tz 0 ?_
    try simp only [Act.put,sl,s0,ss]
    refine wrh [1,6] ?_
    refine rch (fun K hK=>?_) ?_
    ·go_simp
     go_wp2_with (go_at_call 24;(with_reducible refine (cless_any _ _).mono ?_);rintro e w5 ⟨rfl,hb5⟩;have hz5:=hb5.size;(try simp at hz5))
     refine hK.out _ _ ?_ (fun hHeld=>?_)
     ·((try dsimp only);(refine keep1 hq0 ?_;(exact Below.r)))
     clear hK K
     refine wrh [2,6] ?_
     refine rch (fun K hK=>?_) ?_
     ·go_simp
      go_wp2_with (go_at_call 18;(refine (run2 _ (HG.out.below Below.r)).mono ?_);rintro e w6 ⟨hb6,my,rfl⟩;have hz6:=hb6.size;(try simp at hz6))
      refine hK.out _ _ ?_ (fun hHeld=>?_)
      ·((try dsimp only);(refine keep1 hq0 ?_;(exact Below.r)))
      clear hK K
      as_aux_lemma=>
       refine tz 3 ?_
       try simp only [Act.put,sl,s0,ss]
       refine tz 4 ?_
       try simp only [Act.put,sl,s0,ss]
       refine tz 5 ?_
       try simp only [Act.put,sl,s0,ss]
       refine wrh1 6 fun K hK=>?_
       go_simp
       refine hK.out _ _ ?_ (fun hHeld=>?_)
       ·((try dsimp only);(refine keep1 hq0 ?_;(exact Below.r)))
       clear hK K
       as_aux_lemma=>
        refine wrh1 7 fun K hK=>?_
        (rw [if_pos (wanted_none rfl _)];refine wp_store_mid 44 _ _ rfl _ 0 _ rfl rfl thz (by kernel_rfl) (by simp [Value.oneCell']) ?_;simp only [Act.put,sl,s0,ss])
        refine hK.out _ _ ?_ (fun hHeld=>?_)
        ·((try dsimp only);(refine keep1 hq0 (belowM_set sz ?_);(exact Below.r)))
        clear hK K
        refine tz 8 ?_
        try simp only [Act.put,sl,s0,ss]
        refine wpAnyH_done (by kernel_rfl) ?_ _
        as_aux_lemma=>
         (go_wp2_with fail;(first|go_meet|(refine Met.intro ?_;go_step;go_meet));exact ⟨_,my,rfl,rfl,sz,(by rw [sizeM_set];first|omega|(simp;done)|(simp;omega)),belowM_set sz Below.r,hid (AtM_same thz)⟩)
     refine rch (fun K hK=>?_) ?_
     ·go_simp
      refine hK.out _ _ ?_ (fun hHeld=>?_)
      ·((try dsimp only);(refine keep1 hq0 ?_;(exact Below.r)))
      clear hK K
      refine wrh1 2 fun K hK=>?_
      go_simp
      go_wp2_with (go_at_call 18;(refine (run2 _ (HG.out.below Below.r)).mono ?_);rintro e w6 ⟨hb6,my,rfl⟩;have hz6:=hb6.size;(try simp at hz6))
      refine hK.out _ _ ?_ (fun hHeld=>?_)
      ·((try dsimp only);(refine keep1 hq0 ?_;(exact Below.r)))
      clear hK K
      as_aux_lemma=>
       refine tz 3 ?_
       try simp only [Act.put,sl,s0,ss]
       refine tz 4 ?_
       try simp only [Act.put,sl,s0,ss]
       refine tz 5 ?_
       try simp only [Act.put,sl,s0,ss]
       refine wrh1 7 fun K hK=>?_
       (rw [if_pos (wanted_none rfl _)];refine wp_store_mid 44 _ _ rfl _ 0 _ rfl rfl thz (by kernel_rfl) (by simp [Value.oneCell']) ?_;simp only [Act.put,sl,s0,ss])
       refine hK.out _ _ ?_ (fun hHeld=>?_)
       ·((try dsimp only);(refine keep1 hq0 (belowM_set sz ?_);(exact Below.r)))
       clear hK K
       as_aux_lemma=>
        refine tz 8 ?_
        try simp only [Act.put,sl,s0,ss]
        refine wpAnyH_done (by kernel_rfl) ?_ _
        as_aux_lemma=>
         (go_wp2_with fail;(first|go_meet|(refine Met.intro ?_;go_step;go_meet));exact ⟨_,my,rfl,rfl,sz,(by rw [sizeM_set];first|omega|(simp;done)|(simp;omega)),belowM_set sz Below.r,hid (AtM_same thz)⟩)
     exact AllReadyH.nil
    refine rch (fun K hK=>?_) ?_
    ·go_simp
     refine hK.out _ _ ?_ (fun hHeld=>?_)
     ·((try dsimp only);(refine keep1 hq0 ?_;(exact Below.r)))
     clear hK K
     refine wrh1 1 fun K hK=>?_
     go_simp
     go_wp2_with (go_at_call 24;(with_reducible refine (cless_any _ _).mono ?_);rintro e w5 ⟨rfl,hb5⟩;have hz5:=hb5.size;(try simp at hz5))
     refine hK.out _ _ ?_ (fun hHeld=>?_)
     ·((try dsimp only);(refine keep1 hq0 ?_;(exact Below.r)))
     clear hK K
     refine wrh1 2 fun K hK=>?_
     go_simp
     go_wp2_with (go_at_call 18;(refine (run2 _ (HG.out.below Below.r)).mono ?_);rintro e w6 ⟨hb6,my,rfl⟩;have hz6:=hb6.size;(try simp at hz6))
     refine hK.out _ _ ?_ (fun hHeld=>?_)
     ·((try dsimp only);(refine keep1 hq0 ?_;(exact Below.r)))
     clear hK K
     as_aux_lemma=>
      refine tz 3 ?_
      try simp only [Act.put,sl,s0,ss]
      refine tz 4 ?_
      try simp only [Act.put,sl,s0,ss]
      refine tz 5 ?_
      try simp only [Act.put,sl,s0,ss]
      refine wrh1 7 fun K hK=>?_
      (rw [if_pos (wanted_none rfl _)];refine wp_store_mid 44 _ _ rfl _ 0 _ rfl rfl thz (by kernel_rfl) (by simp [Value.oneCell']) ?_;simp only [Act.put,sl,s0,ss])
      refine hK.out _ _ ?_ (fun hHeld=>?_)
      ·((try dsimp only);(refine keep1 hq0 (belowM_set sz ?_);(exact Below.r)))
      clear hK K
      as_aux_lemma=>
       refine tz 8 ?_
       try simp only [Act.put,sl,s0,ss]
       refine wpAnyH_done (by kernel_rfl) ?_ _
       as_aux_lemma=>
        (go_wp2_with fail;(first|go_meet|(refine Met.intro ?_;go_step;go_meet));exact ⟨_,my,rfl,rfl,sz,(by rw [sizeM_set];first|omega|(simp;done)|(simp;omega)),belowM_set sz Below.r,hid (AtM_same thz)⟩)
    exact AllReadyH.nil
  case rest=>
   obtain ⟨D2,m2,rfl,rfl,d2,d3,hbc,HA2⟩:=hcut
   have hzd:=hbc.size
   go_upto_region 4 with fail
   refine wp_named (fun W=>Below w.heap.size w W∧wb.heap.size≤W.heap.size∧D1 < W.heap.size∧D2 < W.heap.size∧Hid (At W wa.heap.size 0 (spanL 0 7))∧Hid (At W D1 0 [.int .u8 1,.int .i64 2,.int .i64 1,.string ⟨#[49,48,49]⟩,.int .u8 1,.int .i64 5,.slice m1.a 0 m1.c])∧Hid (At W D2 0 [.int .u8 3,.int .i64 2,.int .i64 0,.string ⟨#[]⟩,.int .u8 0,.int .i64 0,.slice m2.a 0 m2.c])) ⟨Below.trans hbb (Below.mono hbc (by have:=hbb.size;omega)),by omega,by omega,d3,hid (At_below HD.out hbc),hid (At_below HA1.out hbc),HA2⟩ ?_
   clear hbc hzd hzc d1 d3 HD HA1 HA2 hbb
   intro w4 ⟨hbb,hzc,d1,d3,HD,HA1,HA2⟩
   go_upto_region 5 with (first
    | (go_at_call 20;(with_reducible refine (cspan_any _ _ _).mono ?_);rintro e w7 ⟨rfl,hb7⟩;have hz7:=hb7.size;(try simp at hz7))
    | (refine wpList_bSlK rfl rfl rfl (bSlT _) (by simp [Act.eval,Act.put,spanT,nilTA,noV,noP]) ?_)
    | (refine wpList_buildM rfl rfl (bLs w7.heap.size) (by simp [Act.eval,Act.put]) ?_)
    | (refine wpList_store_newM rfl 31 _ _ rfl _ _ (by rfl) (by rfl) (by kernel_rfl) (by rfl) (by simp [Value.oneCell']) ?_;try simp only [Act.put,sl,s0,ss]))
   refine wp_named (fun W=>Below w.heap.size w W∧W.heap.size=w7.heap.size+2∧wb.heap.size≤w7.heap.size∧D1 < w7.heap.size∧D2 < w7.heap.size∧Hid (At W wa.heap.size 0 (spanL 0 7))∧Hid (At W D1 0 [.int .u8 1,.int .i64 2,.int .i64 1,.string ⟨#[49,48,49]⟩,.int .u8 1,.int .i64 5,.slice m1.a 0 m1.c])∧Hid (At W D2 0 [.int .u8 3,.int .i64 2,.int .i64 0,.string ⟨#[]⟩,.int .u8 0,.int .i64 0,.slice m2.a 0 m2.c])∧Hid (At W w7.heap.size 0 (spanL 0 1))∧Hid (At W (w7.heap.size+1) 0 (listL w7.heap.size)))
    ⟨Below.r,by simp,by omega,by omega,by omega,hid (At_old (At_old (At_below HD.out hb7) (by omega)) sz),hid (At_old (At_old (At_below HA1.out hb7) (by omega)) sz),hid (At_old (At_old (At_below HA2.out hb7) (by omega)) sz),hid (At_old (At_whole (l:=spanL 0 1) rfl) sz),hid (At_whole (l:=listL w7.heap.size) (by simp))⟩ ?_
   clear hb7 hzc d1 d3 HD HA1 HA2 hbb
   intro w8 ⟨hbb,hz8,hzc,d1,d3,HD,HA1,HA2,HB,HL⟩
   (try simp only [Nat.add_assoc,Nat.reduceAdd])
   go_cut [7,8,9,10] from 28 to 37 (fun p q r s wx=>∃(D:Nat) (my:VA),p=.string ⟨#[49,48,48,48]⟩∧q=.pointer (some ⟨D,0,none⟩)∧r=.int .i64 1∧s=.int .i64 0∧w8.heap.size≤D∧D < wx.heap.size∧Below w8.heap.size w8 wx∧Hid (At wx D 0 [.int .u8 4,.int .i64 0,.slice my.a 2 my.c])∧Hid (RV wx (fun _=>True) ⟨4,0,[numV 0,numV 0]⟩ my.a))
   case first=>
    obtain ⟨n0,n1,n2,n3,n4,n5,n6,n7,n8,n9,na,nb,nc,nd,ne⟩:=At15z.1 HL.out
    have hq0:w7.heap.size+1 < w8.heap.size:=by omega
    clear hz8
    as_aux_lemma=>
     (try dsimp only [List.append])
     refine wp_region_noPanic ?_
     refine wp_region_held_drew (S:=(fun W=>∀k,W.cell? ⟨w7.heap.size+1,k,none⟩=w8.cell? ⟨w7.heap.size+1,k,none⟩)) (by kernel_rfl) ?_ (fun hHeld=>?_)
     ·((try dsimp only);(refine keep1 hq0 ?_;(exact Below.r)))
     refine tz 0 ?_
     try simp only [Act.put,sl,s0,ss]
     refine wrh [1,10] ?_
     refine rch (fun K hK=>?_) ?_
     ·go_simp
      go_wp2_with (go_at_call 24;(with_reducible refine (cless_any _ _).mono ?_);rintro e w5 ⟨rfl,hb5⟩;have hz5:=hb5.size;(try simp at hz5))
      refine hK.out _ _ ?_ (fun hHeld=>?_)
      ·((try dsimp only);(refine keep1 hq0 ?_;(exact Below.r)))
      clear hK K
      refine wrh [2,10] ?_
      refine rch (fun K hK=>?_) ?_
      ·(rw [if_pos (wanted_none rfl _)];refine wp_bSlK rfl rfl (bSlP _) (by simp [Act.eval,lessP,nilPA]) ?_;simp only [Act.put,sl,s0,ss,World.size_alloc])
       refine hK.out _ _ ?_ (fun hHeld=>?_)
       ·((try dsimp only);(refine keep1 hq0 ?_;(exact Below.r)))
       clear hK K
       as_aux_lemma=>
        refine tz 3 ?_
        try simp only [Act.put,sl,s0,ss]
        refine wrh [4,10] ?_
        refine rch (fun K hK=>?_) ?_
        ·go_simp
         go_wp2_with (go_at_call 14;(refine (shk3 _ (HG.out.below Below.r) w7.heap.size _ (by exact At.ext (A:=fun _=>True) (Agree.below Below.r) trivial _ _ HB.out) (by repeat (first|exact At_whole (l:=lessL 2) (by first|(simp;done)|rfl)|with_reducible refine At_old ?_ sz|with_reducible refine At_drew ?_|with_reducible refine At_below ?_ (by with_reducible assumption)))).mono ?_);rintro e w6 ⟨hb6,my,rfl,hrv⟩;have HRV:=hid hrv;clear hrv;have hz6:=hb6.size;(try simp at hz6))
         refine hK.out _ _ ?_ (fun hHeld=>?_)
         ·((try dsimp only);(refine keep1 hq0 ?_;(exact Below.r)))
         clear hK K
         refine tz 5 ?_
         try simp only [Act.put,sl,s0,ss]
         refine tz 6 ?_
         try simp only [Act.put,sl,s0,ss]
         as_aux_lemma=>
          refine tz 7 ?_
          try simp only [Act.put,sl,s0,ss]
          refine tz 8 ?_
          try simp only [Act.put,sl,s0,ss]
          refine tz 9 ?_
          try simp only [Act.put,sl,s0,ss]
          refine wrh1 10 fun K hK=>?_
          go_simp
          refine hK.out _ _ ?_ (fun hHeld=>?_)
          ·((try dsimp only);(refine keep1 hq0 ?_;(exact Below.r)))
          clear hK K
          as_aux_lemma=>
           refine tz 11 ?_
           try simp only [Act.put,sl,s0,ss]
           refine wrh1 12 fun K hK=>?_
           (rw [if_pos (wanted_none rfl _)];refine wp_store_mid 24 _ _ rfl _ 0 _ rfl rfl thz (by kernel_rfl) (by simp [Value.oneCell']) ?_;simp only [Act.put,sl,s0,ss])
           refine hK.out _ _ ?_ (fun hHeld=>?_)
           ·((try dsimp only);(refine keep1 hq0 (belowM_set sz ?_);(exact Below.r)))
           clear hK K
           refine tz 13 ?_
           try simp only [Act.put,sl,s0,ss]
           refine tz 14 ?_
           try simp only [Act.put,sl,s0,ss]
           as_aux_lemma=>
            refine wpAnyH_done (by kernel_rfl) ?_ _
            as_aux_lemma=>
             (go_wp2_with fail;(first|go_meet|(refine Met.intro ?_;go_step;go_meet));exact ⟨_,my,rfl,rfl,rfl,rfl,sz,(by rw [sizeM_set];first|omega|(simp;done)|(simp;omega)),belowM_set sz Below.r,hid (AtM_same thz),hid (RV.mono (A:=fun b=>b≠_) (fun _ _ _=>trivial) _ _ (RV.ext (Agree.trans (Agree.below (show Below w6.heap.size w6 _ from Below.r)) (agreeM_set (fun h=>h rfl))) _ _ (RV.mono (fun b h hb=>by first|omega|(simp at h;omega)|(simp at h hb ⊢;omega)) _ _ HRV.out)))⟩)
        refine rch (fun K hK=>?_) ?_
        ·go_simp
         refine hK.out _ _ ?_ (fun hHeld=>?_)
         ·((try dsimp only);(refine keep1 hq0 ?_;(exact Below.r)))
         clear hK K
         refine wrh1 4 fun K hK=>?_
         go_simp
         go_wp2_with (go_at_call 14;(refine (shk3 _ (HG.out.below Below.r) w7.heap.size _ (by exact At.ext (A:=fun _=>True) (Agree.below Below.r) trivial _ _ HB.out) (by repeat (first|exact At_whole (l:=lessL 2) (by first|(simp;done)|rfl)|with_reducible refine At_old ?_ sz|with_reducible refine At_drew ?_|with_reducible refine At_below ?_ (by with_reducible assumption)))).mono ?_);rintro e w6 ⟨hb6,my,rfl,hrv⟩;have HRV:=hid hrv;clear hrv;have hz6:=hb6.size;(try simp at hz6))
         refine hK.out _ _ ?_ (fun hHeld=>?_)
         ·((try dsimp only);(refine keep1 hq0 ?_;(exact Below.r)))
         clear hK K
         refine tz 5 ?_
         try simp only [Act.put,sl,s0,ss]
         refine tz 6 ?_
         try simp only [Act.put,sl,s0,ss]
         as_aux_lemma=>
          refine tz 7 ?_
          try simp only [Act.put,sl,s0,ss]
          refine tz 8 ?_
          try simp only [Act.put,sl,s0,ss]
          refine tz 9 ?_
          try simp only [Act.put,sl,s0,ss]
          refine tz 11 ?_
          try simp only [Act.put,sl,s0,ss]
          as_aux_lemma=>
           refine wrh1 12 fun K hK=>?_
           (rw [if_pos (wanted_none rfl _)];refine wp_store_mid 24 _ _ rfl _ 0 _ rfl rfl thz (by kernel_rfl) (by simp [Value.oneCell']) ?_;simp only [Act.put,sl,s0,ss])
           refine hK.out _ _ ?_ (fun hHeld=>?_)
           ·((try dsimp only);(refine keep1 hq0 (belowM_set sz ?_);(exact Below.r)))
           clear hK K
           refine tz 13 ?_
           try simp only [Act.put,sl,s0,ss]
           refine tz 14 ?_
           try simp only [Act.put,sl,s0,ss]
           refine wpAnyH_done (by kernel_rfl) ?_ _
           as_aux_lemma=>
            (go_wp2_with fail;(first|go_meet|(refine Met.intro ?_;go_step;go_meet));exact ⟨_,my,rfl,rfl,rfl,rfl,sz,(by rw [sizeM_set];first|omega|(simp;done)|(simp;omega)),belowM_set sz Below.r,hid (AtM_same thz),hid (RV.mono (A:=fun b=>b≠_) (fun _ _ _=>trivial) _ _ (RV.ext (Agree.trans (Agree.below (show Below w6.heap.size w6 _ from Below.r)) (agreeM_set (fun h=>h rfl))) _ _ (RV.mono (fun b h hb=>by first|omega|(simp at h;omega)|(simp at h hb ⊢;omega)) _ _ HRV.out)))⟩)
        exact AllReadyH.nil
      refine rch (fun K hK=>?_) ?_
      ·go_simp
       refine hK.out _ _ ?_ (fun hHeld=>?_)
       ·((try dsimp only);(refine keep1 hq0 ?_;(exact Below.r)))
       clear hK K
       as_aux_lemma=>
        refine wrh1 2 fun K hK=>?_
        (rw [if_pos (wanted_none rfl _)];refine wp_bSlK rfl rfl (bSlP _) (by simp [Act.eval,lessP,nilPA]) ?_;simp only [Act.put,sl,s0,ss,World.size_alloc])
        refine hK.out _ _ ?_ (fun hHeld=>?_)
        ·((try dsimp only);(refine keep1 hq0 ?_;(exact Below.r)))
        clear hK K
        refine tz 3 ?_
        try simp only [Act.put,sl,s0,ss]
        refine wrh1 4 fun K hK=>?_
        go_simp
        go_wp2_with (go_at_call 14;(refine (shk3 _ (HG.out.below Below.r) w7.heap.size _ (by exact At.ext (A:=fun _=>True) (Agree.below Below.r) trivial _ _ HB.out) (by repeat (first|exact At_whole (l:=lessL 2) (by first|(simp;done)|rfl)|with_reducible refine At_old ?_ sz|with_reducible refine At_drew ?_|with_reducible refine At_below ?_ (by with_reducible assumption)))).mono ?_);rintro e w6 ⟨hb6,my,rfl,hrv⟩;have HRV:=hid hrv;clear hrv;have hz6:=hb6.size;(try simp at hz6))
        refine hK.out _ _ ?_ (fun hHeld=>?_)
        ·((try dsimp only);(refine keep1 hq0 ?_;(exact Below.r)))
        clear hK K
        refine tz 5 ?_
        try simp only [Act.put,sl,s0,ss]
        as_aux_lemma=>
         refine tz 6 ?_
         try simp only [Act.put,sl,s0,ss]
         refine tz 7 ?_
         try simp only [Act.put,sl,s0,ss]
         refine tz 8 ?_
         try simp only [Act.put,sl,s0,ss]
         refine tz 9 ?_
         try simp only [Act.put,sl,s0,ss]
         as_aux_lemma=>
          refine tz 11 ?_
          try simp only [Act.put,sl,s0,ss]
          refine wrh1 12 fun K hK=>?_
          (rw [if_pos (wanted_none rfl _)];refine wp_store_mid 24 _ _ rfl _ 0 _ rfl rfl thz (by kernel_rfl) (by simp [Value.oneCell']) ?_;simp only [Act.put,sl,s0,ss])
          refine hK.out _ _ ?_ (fun hHeld=>?_)
          ·((try dsimp only);(refine keep1 hq0 (belowM_set sz ?_);(exact Below.r)))
          clear hK K
          refine tz 13 ?_
          try simp only [Act.put,sl,s0,ss]
          refine tz 14 ?_
          try simp only [Act.put,sl,s0,ss]
          as_aux_lemma=>
           refine wpAnyH_done (by kernel_rfl) ?_ _
           as_aux_lemma=>
            (go_wp2_with fail;(first|go_meet|(refine Met.intro ?_;go_step;go_meet));exact ⟨_,my,rfl,rfl,rfl,rfl,sz,(by rw [sizeM_set];first|omega|(simp;done)|(simp;omega)),belowM_set sz Below.r,hid (AtM_same thz),hid (RV.mono (A:=fun b=>b≠_) (fun _ _ _=>trivial) _ _ (RV.ext (Agree.trans (Agree.below (show Below w6.heap.size w6 _ from Below.r)) (agreeM_set (fun h=>h rfl))) _ _ (RV.mono (fun b h hb=>by first|omega|(simp at h;omega)|(simp at h hb ⊢;omega)) _ _ HRV.out)))⟩)
      exact AllReadyH.nil
     refine rch (fun K hK=>?_) ?_
     ·go_simp
      refine hK.out _ _ ?_ (fun hHeld=>?_)
      ·((try dsimp only);(refine keep1 hq0 ?_;(exact Below.r)))
      clear hK K
      refine wrh1 1 fun K hK=>?_
      go_simp
      go_wp2_with (go_at_call 24;(with_reducible refine (cless_any _ _).mono ?_);rintro e w5 ⟨rfl,hb5⟩;have hz5:=hb5.size;(try simp at hz5))
      refine hK.out _ _ ?_ (fun hHeld=>?_)
      ·((try dsimp only);(refine keep1 hq0 ?_;(exact Below.r)))
      clear hK K
      refine wrh1 2 fun K hK=>?_
      (rw [if_pos (wanted_none rfl _)];refine wp_bSlK rfl rfl (bSlP _) (by simp [Act.eval,lessP,nilPA]) ?_;simp only [Act.put,sl,s0,ss,World.size_alloc])
      refine hK.out _ _ ?_ (fun hHeld=>?_)
      ·((try dsimp only);(refine keep1 hq0 ?_;(exact Below.r)))
      clear hK K
      refine tz 3 ?_
      try simp only [Act.put,sl,s0,ss]
      as_aux_lemma=>
       refine wrh1 4 fun K hK=>?_
       go_simp
       go_wp2_with (go_at_call 14;(refine (shk3 _ (HG.out.below Below.r) w7.heap.size _ (by exact At.ext (A:=fun _=>True) (Agree.below Below.r) trivial _ _ HB.out) (by repeat (first|exact At_whole (l:=lessL 2) (by first|(simp;done)|rfl)|with_reducible refine At_old ?_ sz|with_reducible refine At_drew ?_|with_reducible refine At_below ?_ (by with_reducible assumption)))).mono ?_);rintro e w6 ⟨hb6,my,rfl,hrv⟩;have HRV:=hid hrv;clear hrv;have hz6:=hb6.size;(try simp at hz6))
       refine hK.out _ _ ?_ (fun hHeld=>?_)
       ·((try dsimp only);(refine keep1 hq0 ?_;(exact Below.r)))
       clear hK K
       refine tz 5 ?_
       try simp only [Act.put,sl,s0,ss]
       refine tz 6 ?_
       try simp only [Act.put,sl,s0,ss]
       refine tz 7 ?_
       try simp only [Act.put,sl,s0,ss]
       as_aux_lemma=>
        refine tz 8 ?_
        try simp only [Act.put,sl,s0,ss]
        refine tz 9 ?_
        try simp only [Act.put,sl,s0,ss]
        refine tz 11 ?_
        try simp only [Act.put,sl,s0,ss]
        refine wrh1 12 fun K hK=>?_
        (rw [if_pos (wanted_none rfl _)];refine wp_store_mid 24 _ _ rfl _ 0 _ rfl rfl thz (by kernel_rfl) (by simp [Value.oneCell']) ?_;simp only [Act.put,sl,s0,ss])
        refine hK.out _ _ ?_ (fun hHeld=>?_)
        ·((try dsimp only);(refine keep1 hq0 (belowM_set sz ?_);(exact Below.r)))
        clear hK K
        as_aux_lemma=>
         refine tz 13 ?_
         try simp only [Act.put,sl,s0,ss]
         refine tz 14 ?_
         try simp only [Act.put,sl,s0,ss]
         refine wpAnyH_done (by kernel_rfl) ?_ _
         as_aux_lemma=>
          (go_wp2_with fail;(first|go_meet|(refine Met.intro ?_;go_step;go_meet));exact ⟨_,my,rfl,rfl,rfl,rfl,sz,(by rw [sizeM_set];first|omega|(simp;done)|(simp;omega)),belowM_set sz Below.r,hid (AtM_same thz),hid (RV.mono (A:=fun b=>b≠_) (fun _ _ _=>trivial) _ _ (RV.ext (Agree.trans (Agree.below (show Below w6.heap.size w6 _ from Below.r)) (agreeM_set (fun h=>h rfl))) _ _ (RV.mono (fun b h hb=>by first|omega|(simp at h;omega)|(simp at h hb ⊢;omega)) _ _ HRV.out)))⟩)
     exact AllReadyH.nil
   case rest=>
    obtain ⟨D3,m3,rfl,rfl,rfl,rfl,d4,d5,hbc,HA3,HV⟩:=hcut
    have hz9:=hbc.size
    go_upto_region 7 with fail
    refine wp_named (fun W=>Below w.heap.size w W∧W.heap.size=wc.heap.size+1∧wa.heap.size < wc.heap.size∧D1 < wc.heap.size∧D2 < wc.heap.size∧D3 < wc.heap.size∧Hid (At W wa.heap.size 0 (spanL 0 7))∧Hid (At W D1 0 [.int .u8 1,.int .i64 2,.int .i64 1,.string ⟨#[49,48,49]⟩,.int .u8 1,.int .i64 5,.slice m1.a 0 m1.c])∧Hid (At W D2 0 [.int .u8 3,.int .i64 2,.int .i64 0,.string ⟨#[]⟩,.int .u8 0,.int .i64 0,.slice m2.a 0 m2.c])∧Hid (At W D3 0 [.int .u8 4,.int .i64 0,.slice m3.a 2 m3.c])∧Hid (RV W (fun _=>True) ⟨4,0,[numV 0,numV 0]⟩ m3.a)∧Hid (At W wc.heap.size 0 [.int .u8 1,.int .i64 0,.slice none 0 0]))
     ⟨Below.alloc (Below.trans hbb (Below.mono hbc (by have:=hbb.size;omega))) (by have:=hbb.size;omega) _,by simp,by omega,by omega,by omega,d5,hid (At_old (At_below HD.out hbc) (by omega)),hid (At_old (At_below HA1.out hbc) (by omega)),hid (At_old (At_below HA2.out hbc) (by omega)),hid (At_old HA3.out (by omega)),hid (RV.ext (Agree.below (Below.alloc (Below.refl _ _) (Nat.le_refl _) _)) _ _ HV.out),hid (At_whole (l:=[.int .u8 1,.int .i64 0,.slice none 0 0]) rfl)⟩ ?_
    clear hbc hzc hz9 d1 d3 d4 d5 HD HA1 HA2 HA3 HV HB HL hbb
    intro w9 ⟨hbb,hz9,e0,e1,e2,e3,HD,HA1,HA2,HA3,HV,HZ⟩
    obtain ⟨n0,n1,n2,n3,n4,n5,n6,n7,n8,n9,na,nb,nc,nd,ne⟩:=At15z.1 HD.out
    obtain ⟨x0,x1,x2,x3,x4,x5,x6⟩:=At7z.1 HA1.out
    obtain ⟨y0,y1,y2,y3,y4,y5,y6⟩:=At7z.1 HA2.out
    obtain ⟨z0,z1,z2⟩:=At3z.1 HA3.out
    obtain ⟨q0,q1,q2⟩:=At3z.1 HZ.out
    have g0:wa.heap.size < w9.heap.size:=by omega
    have g1:D1 < w9.heap.size:=by omega
    have g2:D2 < w9.heap.size:=by omega
    have g3:D3 < w9.heap.size:=by omega
    have g4:wc.heap.size < w9.heap.size:=by omega
    clear hz9
    as_aux_lemma=>
     (try dsimp only [List.append])
     refine wp_region_noPanic ?_
     refine wp_region_held_drew (S:=(fun W=>∀c k,c < w9.heap.size→W.cell? ⟨c,k,none⟩=w9.cell? ⟨c,k,none⟩)) (by kernel_rfl) ?_ (fun hHeld=>?_)
     ·((try dsimp only);(refine keepA ?_;(exact Below.r)))
     refine tz 0 ?_
     try simp only [Act.put,sl,s0,ss]
     refine wrh1 1 fun K hK=>?_
     go_simp
     go_wp2_with (go_at_call 24;(with_reducible refine (cless_any _ _).mono ?_);rintro e w6 ⟨rfl,hb6⟩;have hz6:=hb6.size;(try simp at hz6))
     refine hK.out _ _ ?_ (fun hHeld=>?_)
     ·((try dsimp only);(refine keepA ?_;(exact Below.r)))
     clear hK K
     refine wrh1 2 fun K hK=>?_
     go_simp
     go_wp2_with (go_at_call 21;(with_reducible refine (shk1 _ (HG.out.below Below.r)).mono ?_);rintro e w6 ⟨rfl,hb6⟩;have hz6:=hb6.size;(try simp at hz6))
     refine hK.out _ _ ?_ (fun hHeld=>?_)
     ·((try dsimp only);(refine keepA ?_;(exact Below.r)))
     clear hK K
     refine tz 3 ?_
     try simp only [Act.put,sl,s0,ss]
     refine tz 4 ?_
     try simp only [Act.put,sl,s0,ss]
     refine wrh1 5 fun K hK=>?_
     go_simp
     go_wp2_with (go_at_call 24;(with_reducible refine (cless_any _ _).mono ?_);rintro e w6 ⟨rfl,hb6⟩;have hz6:=hb6.size;(try simp at hz6))
     refine hK.out _ _ ?_ (fun hHeld=>?_)
     ·((try dsimp only);(refine keepA ?_;(exact Below.r)))
     clear hK K
     refine wrh1 6 fun K hK=>?_
     go_simp
     go_wp2_with (go_at_call 21;(with_reducible refine (shk2 _ (HG.out.below Below.r)).mono ?_);rintro e w6 ⟨rfl,hb6⟩;have hz6:=hb6.size;(try simp at hz6))
     refine hK.out _ _ ?_ (fun hHeld=>?_)
     ·((try dsimp only);(refine keepA ?_;(exact Below.r)))
     clear hK K
     as_aux_lemma=>
      refine tz 7 ?_
      try simp only [Act.put,sl,s0,ss]
      refine tz 8 ?_
      try simp only [Act.put,sl,s0,ss]
      refine tz 9 ?_
      try simp only [Act.put,sl,s0,ss]
      refine wrh1 10 fun K hK=>?_
      go_simp
      go_wp2_with (go_at_call 24;(with_reducible refine (cless_any _ _).mono ?_);rintro e w6 ⟨rfl,hb6⟩;have hz6:=hb6.size;(try simp at hz6))
      refine hK.out _ _ ?_ (fun hHeld=>?_)
      ·((try dsimp only);(refine keepA ?_;(exact Below.r)))
      clear hK K
      refine wrh1 11 fun K hK=>?_
      go_simp
      go_wp2_with (go_at_call 23;(with_reducible refine (ref0 _).mono ?_);rintro e w6 ⟨rfl,hb6⟩;have hz6:=hb6.size;(try simp at hz6))
      refine hK.out _ _ ?_ (fun hHeld=>?_)
      ·((try dsimp only);(refine keepA ?_;(exact Below.r)))
      clear hK K
      refine tz 12 ?_
      try simp only [Act.put,sl,s0,ss]
      refine tz 13 ?_
      try simp only [Act.put,sl,s0,ss]
      refine tz 14 ?_
      try simp only [Act.put,sl,s0,ss]
      as_aux_lemma=>
       refine tz 15 ?_
       try simp only [Act.put,sl,s0,ss]
       refine tz 16 ?_
       try simp only [Act.put,sl,s0,ss]
       refine tz 17 ?_
       try simp only [Act.put,sl,s0,ss]
       refine tz 18 ?_
       try simp only [Act.put,sl,s0,ss]
       refine tq 19 (v:=.agg #[.int .u8 1,.int .i64 5,.slice none 0 0]) rfl (yields_buildG (by rfl) rfl bV15 (by simp [Act.eval])) ?_
       try simp only [Act.put,sl,s0,ss]
       refine tq 20 (v:=.agg #[.int .u8 1,.int .i64 2,.int .i64 1,.string ⟨#[49,48,49]⟩,.int .u8 1,.int .i64 5,.slice none 0 0]) rfl (yields_buildG (by rfl) rfl (bRp 1 2 1 1 5 ⟨#[49,48,49]⟩) (by simp [Act.eval])) ?_
       try simp only [Act.put,sl,s0,ss]
       refine wrh1 21 fun K hK=>?_
       go_simp
       go_wp2_with (go_at_call 19;(with_reducible refine (rs1 m1 _).mono ?_);rintro e w6 ⟨rfl,hb6⟩;have hz6:=hb6.size;(try simp at hz6))
       refine hK.out _ _ ?_ (fun hHeld=>?_)
       ·((try dsimp only);(refine keepA ?_;(exact Below.r)))
       clear hK K
       refine tz 22 ?_
       try simp only [Act.put,sl,s0,ss]
       as_aux_lemma=>
        refine tz 23 ?_
        try simp only [Act.put,sl,s0,ss]
        refine tz 24 ?_
        try simp only [Act.put,sl,s0,ss]
        refine tz 25 ?_
        try simp only [Act.put,sl,s0,ss]
        refine tz 26 ?_
        try simp only [Act.put,sl,s0,ss]
        refine tz 27 ?_
        try simp only [Act.put,sl,s0,ss]
        refine tz 28 ?_
        try simp only [Act.put,sl,s0,ss]
        refine tq 29 (v:=.agg #[.int .u8 3,.int .i64 2,.int .i64 0,.string ⟨#[]⟩,.int .u8 0,.int .i64 0,.slice none 0 0]) rfl (yields_buildG (by rfl) rfl (bRs 3 2) (by simp [Act.eval])) ?_
        try simp only [Act.put,sl,s0,ss]
        refine wrh1 30 fun K hK=>?_
        go_simp
        go_wp2_with (go_at_call 19;(with_reducible refine (rs2 m2 _).mono ?_);rintro e w6 ⟨rfl,hb6⟩;have hz6:=hb6.size;(try simp at hz6))
        refine hK.out _ _ ?_ (fun hHeld=>?_)
        ·((try dsimp only);(refine keepA ?_;(exact Below.r)))
        clear hK K
        as_aux_lemma=>
         refine tz 31 ?_
         try simp only [Act.put,sl,s0,ss]
         refine tz 32 ?_
         try simp only [Act.put,sl,s0,ss]
         refine tz 33 ?_
         try simp only [Act.put,sl,s0,ss]
         refine tz 34 ?_
         try simp only [Act.put,sl,s0,ss]
         refine tz 35 ?_
         try simp only [Act.put,sl,s0,ss]
         refine tz 36 ?_
         try simp only [Act.put,sl,s0,ss]
         refine tz 37 ?_
         try simp only [Act.put,sl,s0,ss]
         refine tz 38 ?_
         try simp only [Act.put,sl,s0,ss]
         as_aux_lemma=>
          refine tz 39 ?_
          try simp only [Act.put,sl,s0,ss]
          refine tz 40 ?_
          try simp only [Act.put,sl,s0,ss]
          refine tz 41 ?_
          try simp only [Act.put,sl,s0,ss]
          refine tz 42 ?_
          try simp only [Act.put,sl,s0,ss]
          refine tz 43 ?_
          try simp only [Act.put,sl,s0,ss]
          refine wrh1 44 fun K hK=>?_
          (rw [if_pos (by rfl)];refine wp_bSlK rfl rfl (bSlV _) (by simp [Act.eval]) ?_;simp only [Act.put,sl,s0,ss,World.size_alloc])
          refine hK.out _ _ ?_ (fun hHeld=>?_)
          ·((try dsimp only);(refine keepA ?_;(exact Below.r)))
          clear hK K
          refine wrh1 45 fun K hK=>?_
          go_simp
          go_wp2_with (go_at_call 41;(refine (vlist_any [numV 0,numV 0] _ 2 _ (fun _=>True) (by simp) (by simp only [okVs];exact ⟨okV_leaf (by unfold isU8;omega) (by unfold isI64;omega),okV_leaf (by unfold isU8;omega) (by unfold isI64;omega),trivial⟩) (zz_R (At_whole (l:=zzL) rfl))).mono ?_);rintro e w6 ⟨hb6,my,rfl,hrv⟩;have HRV:=hid hrv;clear hrv;have hz6:=hb6.size;(try simp at hz6))
          refine hK.out _ _ ?_ (fun hHeld=>?_)
          ·((try dsimp only);(refine keepA ?_;(exact Below.r)))
          clear hK K
          refine wrh1 46 fun K hK=>?_
          go_simp
          go_wp2_with (go_at_call 26;(refine (same_self ⟨4,0,[numV 0,numV 0]⟩ _ (fun _=>True) _ m3 my (okV_iff.2 ⟨by unfold isU8;simp,by unfold isI64;simp,by simp,by simp only [okVs];exact ⟨okV_leaf (by unfold isU8;omega) (by unfold isI64;omega),okV_leaf (by unfold isU8;omega) (by unfold isI64;omega),trivial⟩⟩) (by exact RV.ext (Agree.below Below.r) _ _ HV.out) (by exact HRV.out)).mono ?_);rintro e w7 ⟨rfl,hb7⟩;have hz7:=hb7.size;(try simp at hz7))
          refine hK.out _ _ ?_ (fun hHeld=>?_)
          ·((try dsimp only);(refine keepA ?_;(exact Below.r)))
          clear hK K
          as_aux_lemma=>
           refine tz 47 ?_
           try simp only [Act.put,sl,s0,ss]
           refine tz 48 ?_
           try simp only [Act.put,sl,s0,ss]
           refine tz 49 ?_
           try simp only [Act.put,sl,s0,ss]
           refine tz 50 ?_
           try simp only [Act.put,sl,s0,ss]
           refine tz 51 ?_
           try simp only [Act.put,sl,s0,ss]
           refine tz 52 ?_
           try simp only [Act.put,sl,s0,ss]
           refine wpAnyH_done (by kernel_rfl) ?_ _
           as_aux_lemma=>
            (refine NoPanic.normal ?_;go_wp2_with fail;go_ret;exact ⟨rfl,Below.r⟩)
theorem shr_again {t:GT} {p:GP} {u:ByteArray} {v:GV} (ox:okT t) (hE:shrE t p u=0) (hF:failT t p u=some (u,v)) {s:ByteArray} {y:GV} {n:Nat} (hT:shrT t p 1024 u v 0=(s,y,n)):
  shrE t p s=0∧failT t p s=some (s,y)∧n≤1024∧s.size≤u.size∧((n=0∧s=u)∨(0 < n∧s≠u∧cmpS s u= -1))∧(n < 1024→shrT t p 1024 s y 0=(s,y,0)):=by
 obtain ⟨h1,h2,h3,h4,h5,h6,h7⟩:=shr_all ox 1024 u v 0 hF
 rw [hT] at h1 h2 h3 h4 h5 h6 h7
 dsimp only at h1 h2 h3 h4 h5 h6 h7
 obtain ⟨e1,e2, -⟩:=shrE_zero hE
 refine ⟨?_,h1,by omega,h7,?_,fun hn=>?_⟩
 ·have hr:runE t s=0:=by
   unfold failT at h1
   split at h1
   ·cases h1
   ·rename_i h;omega
  unfold shrE
  rw [if_neg (by omega),if_neg (by omega),h1]
  simp
 ·rcases Nat.eq_zero_or_pos n with h|h
  ·exact .inl ⟨h,(h4 h).1⟩
  ·have hk:=h5 h
   refine .inr ⟨h,fun e=>by rw [e] at hk;omega,?_⟩
   rw [cmpS_key]
   unfold cmpI
   rw [if_pos (by omega)]
 ·have hs:=h6 (by omega)
  rw [show (1024:Nat)=1023+1 from rfl,shrT,hs]
theorem same_zero (w:World):Calls Tryz.prog 26 #[.agg #[.int .u8 0,.int .i64 0,.slice none 0 0],.agg #[.int .u8 0,.int .i64 0,.slice none 0 0]] w fun e w'=>e=.returned (.bool true)∧Below w.heap.size w w':=
 same_self ⟨0,0,[]⟩ w (fun _=>True) (fun _=>True) ⟨none,0⟩ ⟨none,0⟩ (okV_leaf (by unfold isU8;omega) (by unfold isI64;omega)) (by simp [RV,RVs]) (by simp [RV,RVs])
end Go.Proofs.YtojjdneicmbfjaaGreatDoor
