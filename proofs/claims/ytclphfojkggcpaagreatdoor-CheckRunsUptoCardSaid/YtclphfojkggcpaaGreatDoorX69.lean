/- Part 70. -/
import Derived.Great.BuildSlice
import Derived.Test.YtclphfojkggcpaaGreatDoorX67
import Derived.Test.YtclphfojkggcpaaGreatDoorXTk
set_option linter.all false
namespace Go.Proofs.YtclphfojkggcpaaGreatDoor
open Go.Lib (hid)
open Go Go.RowKit Go.Proofs.Tryz
set_option maxRecDepth 100000
set_option maxHeartbeats 1000000
theorem Zhx (l:List GV) (a:Option Addr) (cp:Nat) (w:World) (A:Nat→Prop) (hln:l.length≤1048576) (ol:okVs l) (hl:RVs w A l a):
  Calls prog 21 #[.slice a l.length cp] w fun e w'=>Below w.heap.size w w'∧∃m:VA,e=.returned (VV ⟨4,0,l⟩ m)∧RV w' (fun b=>w.heap.size≤b) ⟨4,0,l⟩ m.a:=by
 have HL:=hid hl
 have O:=hid ol
 clear hl ol
 go_enter func21,ntmps21
 go_wp2_with (go_at_call 36;refine (Za8 (Zi l) l _ A a cp (Nat.le_refl _) hln O.out (by exact ZmQ az _ _ HL.out)).mono ?_;rintro e w1 ⟨hb1,a',c,rfl,hr1⟩;obtain ⟨hc1,hf1⟩:=Za hb1;have hz1:=hb1.size;(try simp at hz1);have HR1:=hid (Znh (A':=fun b=>w.heap.size+1≤b) (fun b h _=>by (try simp at h);omega) _ _ hr1);clear hr1;have y0:w.heap.size < w1.heap.size:=om)
 refine bodyPost_ret (v:=VV ⟨4,0,l⟩ ⟨a',c⟩) (by first|(simp [results,Tryz.f21,go_sem];done)|(simp [results,Tryz.f21,go_sem, *];done)) rfl ?_
 exact ⟨ZlD,⟨a',c⟩,rfl,Zl.2 (Znh (A:=fun b=>w.heap.size+1≤b) (fun b hb _=>om) _ _ (ZmQ (WN _ _ _) _ _ HR1.out))⟩
set_option maxRecDepth 512
abbrev V4 (lo hi:Int):List Value:=[.int .u8 2,.int .u8 0,.int .i64 0,.slice none 0 0,.slice none 0 0,.int .i64 lo,.int .i64 hi,.slice none 0 0,.int .u8 0,.int .u8 0,.int .i64 0,.slice none 0 0,.int .i64 0,.slice none 0 0,.slice none 0 0]
abbrev Zan (n:Int):List Value:=[.int .u8 4,.int .u8 1,.int .i64 n,.slice none 0 0,.int .i64 0,.slice none 0 0]
theorem ZhS {hi n:Int} {s:ByteArray} {N:Nat} {e:Int} {m k:Nat} {u:ByteArray} {vk vn:Int} (h:Rx (Yh 0 hi) (YN n) s N ⟨e,m,k,u,⟨vk,vn,[]⟩⟩) (hh:Zv hi) (hn:Zv n) (w:World) (hG:GW w):
  Calls prog 12 #[TV (Yh 0 hi) VZ,PV (YN n) WG,.string s,.int .i64 N] w fun q w'=>Below w.heap.size w w'∧∃my:VA,q=.returned (.tuple #[RVr e m k u vk vn my,.int .i64 0]):=
 Zkb h w (fun _=>True) (fun _=>True) VZ WG (ZaW 0 hi (by unfold Zv;omega) hh) (J4 0 hi) (Zgy 0 hi) (Ji n hn) (J3 n) (Zgo n) hG
theorem Zkt (w:World) (hG:GW w):Calls prog 12 #[TV (Yh 0 7) VZ,PV (YN 5) WG,.string ⟨#[48,48,48,49,49,49]⟩,.int .i64 5] w fun q w'=>Below w.heap.size w w'∧∃my:VA,q=.returned (.tuple #[RVr 1 2 1 ⟨#[49,48,49]⟩ 1 5 my,.int .i64 0]):=
 ZhS (N:=5) rx1 (by unfold Zv;omega) (by unfold Zv;omega) w hG
theorem Zku (w:World) (hG:GW w):Calls prog 12 #[TV (Yh 0 7) VZ,PV (YN 5) WG,.string ⟨#[48,48,48,48,48,49]⟩,.int .i64 5] w fun q w'=>Below w.heap.size w w'∧∃my:VA,q=.returned (.tuple #[RVr 3 2 0 ⟨#[]⟩ 0 0 my,.int .i64 0]):=
 ZhS (N:=5) rx2 (by unfold Zv;omega) (by unfold Zv;omega) w hG
theorem ZjV {hi n:Int} {u s:ByteArray} {v y:GV} {k:Nat} (h:Sx (Yh 0 hi) (YN n) u v s y k) (hh:Zv hi) (hn:Zv n) (w:World) (hG:GW w):Calls prog 18 #[TV (Yh 0 hi) VZ,PV (YN n) WG,.string u,.string s,.int .i64 k] w fun e w'=>e=.returned (.bool true)∧Below w.heap.size w w':=
 ZeB h w (fun _=>True) (fun _=>True) VZ WG (ZaW 0 hi (by unfold Zv;omega) hh) (J4 0 hi) (Zgy 0 hi) (Ji n hn) (J3 n) (Zgo n) hG
theorem Zlz (w:World) (hG:GW w):Calls prog 18 #[.agg (V4 0 7).toArray,PV (YN 5) WG,.string ⟨#[49,49,49]⟩,.string ⟨#[49,48,49]⟩,.int .i64 1] w fun e w'=>e=.returned (.bool true)∧Below w.heap.size w w':=
 ZjV sx1 (by unfold Zv;omega) (by unfold Zv;omega) w hG
theorem ZlA (w:World) (hG:GW w):Calls prog 18 #[.agg (V4 0 7).toArray,PV (YN 5) WG,.string ⟨#[49,48,49]⟩,.string ⟨#[49,48,49]⟩,.int .i64 0] w fun e w'=>e=.returned (.bool true)∧Below w.heap.size w w':=
 ZjV sx2 (by unfold Zv;omega) (by unfold Zv;omega) w hG
theorem Zly (w:World):Calls prog 19 #[.agg (V4 0 7).toArray,PV (YN 5) WG,.string ⟨#[48,48,48]⟩,.int .i64 1] w fun e w'=>e=.returned (.bool true)∧Below w.heap.size w w':=
 Zeu se0 (by decide) w (fun _=>True) (fun _=>True) VZ WG (ZaW 0 7 (by unfold Zv;omega) (by unfold Zv;omega)) (J4 0 7) (Zgy 0 7) (Ji 5 (by unfold Zv;omega)) (J3 5) (Zgo 5) (by decide)
abbrev Zig (B:Nat):List Value:=[.int .u8 6,.int .u8 0,.int .i64 0,.slice none 0 0,.slice none 0 0,.int .i64 0,.int .i64 3,.slice none 0 0,.int .u8 0,.int .u8 0,.int .i64 0,.slice none 0 0,.int .i64 0,.slice none 0 0,.slice (some ⟨B,0,none⟩) 1 1]
abbrev zzL:List Value:=[.int .u8 1,.int .i64 0,.slice none 0 0,.int .u8 1,.int .i64 0,.slice none 0 0]
theorem Zlq (w:World):(Instr.buildSlice 29 1 #[(0,.agg (V4 0 1).toArray)]).run prog w=.ok (.slice (some ⟨w.heap.size,0,none⟩) 1 1) (w.alloc (.cells (V4 0 1).toArray 31)):=by
 obtain ⟨ie,hie,y0,y1,y2⟩:=info_parts Uy
 exact run_buildSlice w 29 31 1 _ _ ie _ underlying29 hie y0 (by rw [y1];decide) (by rw [y1];decide) (by rw [y1];kernel_rfl)
theorem ZgQ:(prog.info? 28).map (fun i=>(i.zero,i.size,i.bytes))=some (some (.agg #[.int .u8 0,.int .u8 0,.int .i64 0,.slice none 0 0,.int .i64 0,.slice none 0 0]),6,80):=kr
theorem Zka (w:World):(Instr.buildSlice 26 1 #[(0,.agg (Zan 2).toArray)]).run prog w=.ok (.slice (some ⟨w.heap.size,0,none⟩) 1 1) (w.alloc (.cells (Zan 2).toArray 28)):=by
 obtain ⟨ie,hie,y0,y1,y2⟩:=info_parts ZgQ
 exact run_buildSlice w 26 28 1 _ _ ie _ underlying26 hie y0 (by rw [y1];decide) (by rw [y1];decide) (by rw [y1];kernel_rfl)
theorem JH {P:Program} {o:Oper} {a:Act} {w w2:World} {d:Tmp} {v:Value} {T:TypeId} {n:Nat} {K:Act→World→Prop} {Q:Exit→Act→World→Prop} {parts:Array (Nat×Operand)} {ps:Array (Nat×Value)} (hd:o.dst=some d) (ho:o.op=.buildSlice T n parts)
  (hb:(Instr.buildSlice T n ps).run P w=.ok v w2) (hp:(parts.map fun (i,x)=>(i,a.eval x))=ps) (h:K (a.put (some d) v) w2):o.wp P a w K Q:=by
 unfold Oper.wp execOp
 rw [←hd] at h
 simp only [ho,Sem.run_bind,hp,hb,Result.andThen_ok]
 exact h
theorem ZeN {P:Program} {ops:Array Oper} {rest:List Oper} {o:Oper} {a:Act} {w w2:World} {d:Tmp} {v:Value} {T:TypeId} {n:Nat} {Q:Exit→Act→World→Prop} {parts:Array (Nat×Operand)} {ps:Array (Nat×Value)} (hg:o.guard=none) (hd:o.dst=some d) (ho:o.op=.buildSlice T n parts)
  (hb:(Instr.buildSlice T n ps).run P w=.ok v w2) (hp:(parts.map fun (i,x)=>(i,a.eval x))=ps) (h:wpList P ops Q rest (a.put (some d) v) w2):wpList P ops Q (o::rest) a w:=
 wpList_plain hg fun _ hK=>JH hd ho hb hp (hK _ _ h)
theorem bLs (B:Nat) (w:World):(Instr.build 31 #[(0,.int .u8 6),(4,.int .i64 3),(7,.slice (some ⟨B,0,none⟩) 1 1)]).run prog w=.ok (.agg (Zig B).toArray) w:=by
 go_simp
theorem rs1 (my:VA) (w:World):Calls prog 13 #[.agg #[.int .u8 1,.int .i64 2,.int .i64 1,.string ⟨#[49,48,49]⟩,.int .u8 1,.int .i64 5,.slice my.a 0 my.c],.agg #[.int .u8 1,.int .i64 2,.int .i64 1,.string ⟨#[49,48,49]⟩,.int .u8 1,.int .i64 5,.slice none 0 0]] w fun e w'=>e=.returned (.bool true)∧Below w.heap.size w w':=
 Zgv 1 2 1 ⟨#[49,48,49]⟩ 1 5 (by unfold Yg;omega) (by unfold Zv;omega) w my ⟨none,0⟩
theorem rs2 (my:VA) (w:World):Calls prog 13 #[.agg #[.int .u8 3,.int .i64 2,.int .i64 0,.string ⟨#[]⟩,.int .u8 0,.int .i64 0,.slice my.a 0 my.c],.agg #[.int .u8 3,.int .i64 2,.int .i64 0,.string ⟨#[]⟩,.int .u8 0,.int .i64 0,.slice none 0 0]] w fun e w'=>e=.returned (.bool true)∧Below w.heap.size w w':=
 Zgv 3 2 0 ⟨#[]⟩ 0 0 (by unfold Yg;omega) (by unfold Zv;omega) w my ⟨none,0⟩
theorem Zls (w:World):(Instr.build 24 #[(0,.int .u8 1),(1,.int .i64 5)]).run prog w=.ok (.agg #[.int .u8 1,.int .i64 5,.slice none 0 0]) w:=by
 go_simp
theorem bRp (e n s vk vn:Int) (u:ByteArray) (w:World):(Instr.build 41 #[(0,.int .u8 e),(1,.int .i64 n),(2,.int .i64 s),(3,.string u),(4,.agg #[.int .u8 vk,.int .i64 vn,.slice none 0 0])]).run prog w=.ok (.agg #[.int .u8 e,.int .i64 n,.int .i64 s,.string u,.int .u8 vk,.int .i64 vn,.slice none 0 0]) w:=by
 go_simp
theorem bRs (e n:Int) (w:World):(Instr.build 41 #[(0,.int .u8 e),(1,.int .i64 n)]).run prog w=.ok (.agg #[.int .u8 e,.int .i64 n,.int .i64 0,.string ⟨#[]⟩,.int .u8 0,.int .i64 0,.slice none 0 0]) w:=by
 go_simp
theorem Zib:(prog.info? 24).map (fun i=>(i.zero,i.size,i.bytes))=some (some (.agg #[.int .u8 0,.int .i64 0,.slice none 0 0]),3,40):=kr
theorem Zlr (w:World):(Instr.buildSlice 22 2 #[(0,.agg #[.int .u8 1,.int .i64 0,.slice none 0 0]),(1,.agg #[.int .u8 1,.int .i64 0,.slice none 0 0])]).run prog w=.ok (.slice (some ⟨w.heap.size,0,none⟩) 2 2) (w.alloc (.cells zzL.toArray 24)):=by
 obtain ⟨ie,hie,y0,y1,y2⟩:=info_parts Zib
 exact run_buildSlice w 22 24 2 _ _ ie _ underlying22 hie y0 (by rw [y1];decide) (by rw [y1];decide) (by rw [y1];kernel_rfl)
def mL (B:Nat):TA:={ VZ with a:=some ⟨B,0,none⟩,c:=1 }
def mP (B:Nat):PA:={ WG with a:=some ⟨B,0,none⟩,c:=1 }
theorem Zkn {w:World} {B:Nat} (h:At w B 0 (V4 0 1)):RT w (fun _=>True) YT (mL B):=
 Zo.2 ⟨by simp [YT,noV,RV,RVs],by simp [YT,RVs],by simp [YT,RIs],by simp [YT,noP,noV,RP,RV,RVs,RPs],by
  simp only [YT,RTs]
  exact ⟨B,0,VZ,rfl,trivial,h,Zgy 0 1,trivial⟩⟩
theorem ZkV {w:World} {B:Nat} (h:At w B 0 (Zan 2)):RP w (fun _=>True) (Kb 2) (mP B):=
 Wn.2 ⟨by simp [Kb,noV,RV,RVs],by
  simp only [Kb,RPs]
  exact ⟨B,0,WG,rfl,trivial,h,Zgo 2,trivial⟩⟩
theorem ZlB {w:World} {B:Nat} (h:At w B 0 zzL):RVs w (fun _=>True) [V0 0,V0 0] (some ⟨B,0,none⟩):=by
 obtain ⟨h0,h1,h2,h3,h4,h5, -⟩:=h
 simp only [RVs,V0]
 exact ⟨B,0,⟨none,0⟩,rfl,trivial,⟨h0,h1,h2,trivial⟩,by simp [RV,RVs],⟨B,3,⟨none,0⟩,rfl,trivial,⟨h3,h4,h5,trivial⟩,by simp [RV,RVs],trivial,ZaK _ _ _⟩,ZaK _ _ _⟩
theorem Zjm:okT YT:=
 Ze.2 ⟨by unfold Yg YT;simp,ZA.2 ⟨by unfold Yg YT noV;simp,by unfold Zv YT noV;simp,by simp [YT,noV],by simp [YT,noV,okVs]⟩,⟨by simp [YT],by simp [YT,okVs]⟩,by unfold Zv YT;simp,by unfold Zv YT;simp,⟨by simp [YT],by simp [YT,okIs]⟩,Y3.2 ⟨by unfold Yg YT noP;simp,ZA.2 ⟨by unfold Yg YT noP noV;simp,by unfold Zv YT noP noV;simp,by simp [YT,noP,noV],by simp [YT,noP,noV,okVs]⟩,by unfold Zv YT noP;simp,by simp [YT,noP],by simp [YT,noP,okPs]⟩,by simp [YT],by simp only [YT,okTs];exact ⟨ZaW 0 1 (by unfold Zv;omega) (by unfold Zv;omega),trivial⟩⟩
theorem Zkm:okP (Kb 2):=
 Y3.2 ⟨by unfold Yg Kb;simp,ZA.2 ⟨by unfold Yg Kb noV;simp,by unfold Zv Kb noV;simp,by simp [Kb,noV],by simp [Kb,noV,okVs]⟩,by unfold Zv Kb;simp,by simp [Kb],by simp only [Kb,okPs];exact ⟨Ji 2 (by unfold Zv;omega),trivial⟩⟩
theorem Zjx (w:World) (hG:GW w) (B C:Nat) (hB:At w B 0 (V4 0 1)) (hC:At w C 0 (Zan 2)):
  Calls prog 8 #[TV YT (mL B),PV (Kb 2) (mP C),.string ⟨#[49,49,49,49,49]⟩] w fun e w'=>Below w.heap.size w w'∧∃my:VA,e=.returned (.tuple #[.string ⟨#[49,48,48,48]⟩,.agg #[.int .u8 4,.int .i64 0,.slice my.a 2 my.c],.int .i64 1,.int .i64 0])∧RV w' (fun b=>w.heap.size≤b) ⟨4,0,[V0 0,V0 0]⟩ my.a:=by
 obtain ⟨h1,h2,h3⟩:=sx3
 refine (J2 YT (Kb 2) _ w (fun _=>True) (fun _=>True) (mL B) (mP C) Zjm (by simp [YT,Yh,noP,noV,Zb,Z5,Zg,Zi,Zm,ZY]) (Zkn hB) Zkm (by simp [Kb,YN,noV,Zg,Zi,Zm,ZY]) (ZkV hC) h1 _ h2 hG).mono fun e w' ⟨hb,my,he,hv⟩=>?_
 rw [h3] at he hv
 exact ⟨hb,my,he,hv⟩
theorem Zpr {p:Prop} (h:p:=by ((try dsimp only);(refine Yd hq0 (ZL sz ?_);(exact ZlD)))):p:=h
theorem Znp {p:Prop} (h:p:=by
 refine hK.out _ _ ?_ (fun hHeld=>?_)
 ·((try dsimp only);(refine Yd hq0 ?_;(exact ZlD)))
 clear hK K
 as_aux_lemma=>
  refine tz 3 ?_
  try simp only [Act.put,sl,s0,ss]
  refine tz 4 ?_
  try simp only [Act.put,sl,s0,ss]
  refine tz 5 ?_
  try simp only [Act.put,sl,s0,ss]
  refine wrh1 7 fun K hK=>?_
  (rw [if_pos (ZV rfl _)];refine wp_store_mid 44 _ _ rfl _ 0 _ rfl rfl thz kr (by simp [Value.oneCell']) ?_;simp only [Act.put,sl,s0,ss])
  refine hK.out _ _ ?_ (fun hHeld=>?_)
  ·exact Zpr
  clear hK K
  as_aux_lemma=>
   refine tz 8 ?_
   try simp only [Act.put,sl,s0,ss]
   refine wpAnyH_done kr ?_ _
   as_aux_lemma=>
    (go_wp2_with fail;(first|go_meet|(refine Met.intro ?_;go_step;go_meet));exact ⟨_,my,rfl,rfl,sz,(by rw [YI];first|omega|(simp;done)|(simp;omega)),ZL sz ZlD,hid (XG thz)⟩)):p:=h
theorem Zpm {p:Prop} (h:p:=by
 refine wpAnyH_done kr ?_ _
 as_aux_lemma=>
  (go_wp2_with fail;(first|go_meet|(refine Met.intro ?_;go_step;go_meet));exact ⟨_,my,rfl,rfl,rfl,rfl,sz,(by rw [YI];first|omega|(simp;done)|(simp;omega)),ZL sz ZlD,hid (XG thz),hid (ZmO (A:=fun b=>b≠_) (fun _ _ _=>trivial) _ _ (ZmG (Agree.trans (ZlH (show Below w6.heap.size w6 _ from ZlD)) (XH (fun h=>h rfl))) _ _ (ZmO (fun b h hb=>by first|omega|(simp at h;omega)|(simp at h hb ⊢;omega)) _ _ HRV.out)))⟩)):p:=h
theorem Zpn {p:Prop} (h:p:=by
 refine hK.out _ _ ?_ (fun hHeld=>?_)
 ·((try dsimp only);(refine Yd hq0 ?_;(exact ZlD)))
 clear hK K
 as_aux_lemma=>
  refine tz 3 ?_
  try simp only [Act.put,sl,s0,ss]
  refine tz 4 ?_
  try simp only [Act.put,sl,s0,ss]
  refine tz 5 ?_
  try simp only [Act.put,sl,s0,ss]
  refine wrh1 6 fun K hK=>?_
  go_simp
  refine hK.out _ _ ?_ (fun hHeld=>?_)
  ·((try dsimp only);(refine Yd hq0 ?_;(exact ZlD)))
  clear hK K
  as_aux_lemma=>
   refine wrh1 7 fun K hK=>?_
   (rw [if_pos (ZV rfl _)];refine wp_store_mid 44 _ _ rfl _ 0 _ rfl rfl thz kr (by simp [Value.oneCell']) ?_;simp only [Act.put,sl,s0,ss])
   refine hK.out _ _ ?_ (fun hHeld=>?_)
   ·exact Zpr
   clear hK K
   refine tz 8 ?_
   try simp only [Act.put,sl,s0,ss]
   refine wpAnyH_done kr ?_ _
   as_aux_lemma=>
    (go_wp2_with fail;(first|go_meet|(refine Met.intro ?_;go_step;go_meet));exact ⟨_,my,rfl,rfl,sz,(by rw [YI];first|omega|(simp;done)|(simp;omega)),ZL sz ZlD,hid (XG thz)⟩)):p:=h
theorem Zpo {p:Prop} (h:p:=by
 as_aux_lemma=>
  refine tz 11 ?_
  try simp only [Act.put,sl,s0,ss]
  refine wrh1 12 fun K hK=>?_
  (rw [if_pos (ZV rfl _)];refine wp_store_mid 24 _ _ rfl _ 0 _ rfl rfl thz kr (by simp [Value.oneCell']) ?_;simp only [Act.put,sl,s0,ss])
  refine hK.out _ _ ?_ (fun hHeld=>?_)
  ·exact Zpr
  clear hK K
  refine tz 13 ?_
  try simp only [Act.put,sl,s0,ss]
  refine tz 14 ?_
  try simp only [Act.put,sl,s0,ss]
  as_aux_lemma=>
   exact Zpm):p:=h
theorem Zpp {p:Prop} (h:p:=by
 refine hK.out _ _ ?_ (fun hHeld=>?_)
 ·((try dsimp only);(refine Yd hq0 ?_;(exact ZlD)))
 clear hK K
 refine wrh1 2 fun K hK=>?_
 go_simp
 go_wp2_with (go_at_call 12;(refine (Zkt _ (HG.out.below ZlD)).mono ?_);rintro e w6 ⟨hb6,my,rfl⟩;have hz6:=hb6.size;(try simp at hz6))
 exact Znp):p:=h
theorem Zpq {p:Prop} (h:p:=by
 refine hK.out _ _ ?_ (fun hHeld=>?_)
 ·((try dsimp only);(refine Yd hq0 ?_;(exact ZlD)))
 clear hK K
 refine wrh1 2 fun K hK=>?_
 go_simp
 go_wp2_with (go_at_call 12;(refine (Zku _ (HG.out.below ZlD)).mono ?_);rintro e w6 ⟨hb6,my,rfl⟩;have hz6:=hb6.size;(try simp at hz6))
 exact Znp):p:=h
theorem Zpd {p:Prop} (h:p:=by
 refine tz 13 ?_
 try simp only [Act.put,sl,s0,ss]
 refine tz 14 ?_
 try simp only [Act.put,sl,s0,ss]
 exact Zpm):p:=h
set_option maxRecDepth 100000
set_option maxHeartbeats 64000000
theorem Za4 (w:World) (hG:GW w):Calls prog 6 #[] w fun e w'=>e=.returned (.bool true)∧Below w.heap.size w w':=by
 have HG:=hid hG
 clear hG
 go_enter func6,ntmps6
 go_upto_region 2 with (first
  | (go_at_call 16;(with_reducible refine (Zck _ _ _).mono ?_);rintro e wa ⟨rfl,hba⟩;have hza:=hba.size;(try simp at hza))
  | (refine Y6 rfl 31 _ _ rfl _ _ (by rfl) (by rfl) kr (by rfl) (by simp [Value.oneCell',Yh,VZ,noV,noP]) ?_;try simp only [Act.put,sl,s0,ss]))
 refine ZT (fun W=>Below w.heap.size w W∧W.heap.size=wa.heap.size+1∧w.heap.size≤wa.heap.size∧Hid (At W wa.heap.size 0 (V4 0 7))) ⟨ZlD,sm,om,hid (Xr (l:=V4 0 7) rfl)⟩ ?_
 clear hba
 intro wb ⟨hbb,hzb,hza',HD⟩
 have hq0:wa.heap.size < wb.heap.size:=om
 clear hzb
 go_cut [2,3] from 13 to 18 (fun p q wx=>∃(D:Nat) (my:VA),p=.pointer (some ⟨D,0,none⟩)∧q=.int .i64 0∧wb.heap.size≤D∧D < wx.heap.size∧Below wb.heap.size wb wx∧Hid (At wx D 0 [.int .u8 1,.int .i64 2,.int .i64 1,.string ⟨#[49,48,49]⟩,.int .u8 1,.int .i64 5,.slice my.a 0 my.c]))
 case first=>
  obtain ⟨n0,n1,n2,n3,n4,n5,n6,n7,n8,n9,na,nb,nc,nd,ne⟩:=ZO.1 HD.out
  have hzB:=hbb.size
  as_aux_lemma=>
   (try dsimp only [List.append])
   refine wp_region_noPanic ?_
   refine wp_region_held_drew (S:=(fun W=>∀k,W.cell? ⟨wa.heap.size,k,none⟩=wb.cell? ⟨wa.heap.size,k,none⟩)) kr ?_ (fun hHeld=>?_)
   ·((try dsimp only);(refine Yd hq0 ?_;(exact ZlD)))
   refine tz 0 ?_
   try simp only [Act.put,sl,s0,ss]
   refine wrh [1,6] ?_
   refine rch (fun K hK=>?_) ?_
   ·go_simp
    go_wp2_with (go_at_call 17;(with_reducible refine (X0 _ _).mono ?_);rintro e w5 ⟨rfl,hb5⟩;have hz5:=hb5.size;(try simp at hz5))
    refine hK.out _ _ ?_ (fun hHeld=>?_)
    ·((try dsimp only);(refine Yd hq0 ?_;(exact ZlD)))
    clear hK K
    refine wrh [2,6] ?_
    refine rch (fun K hK=>?_) ?_
    ·go_simp
     go_wp2_with (go_at_call 12;(refine (Zkt _ (HG.out.below ZlD)).mono ?_);rintro e w6 ⟨hb6,my,rfl⟩;have hz6:=hb6.size;(try simp at hz6))
     exact Zpn
    refine rch (fun K hK=>?_) ?_
    ·go_simp
     exact Zpp
    exact AllReadyH.nil
   refine rch (fun K hK=>?_) ?_
   ·go_simp
    refine hK.out _ _ ?_ (fun hHeld=>?_)
    ·((try dsimp only);(refine Yd hq0 ?_;(exact ZlD)))
    clear hK K
    refine wrh1 1 fun K hK=>?_
    go_simp
    go_wp2_with (go_at_call 17;(with_reducible refine (X0 _ _).mono ?_);rintro e w5 ⟨rfl,hb5⟩;have hz5:=hb5.size;(try simp at hz5))
    exact Zpp
   exact AllReadyH.nil
 case rest=>
  obtain ⟨D1,m1,rfl,rfl,d0,d1,hbc,HA1⟩:=hcut
  have hzc:=hbc.size
  go_upto_region 3 with fail
  refine ZT (fun W=>Below w.heap.size w W∧wb.heap.size≤W.heap.size∧D1 < W.heap.size∧Hid (At W wa.heap.size 0 (V4 0 7))∧Hid (At W D1 0 [.int .u8 1,.int .i64 2,.int .i64 1,.string ⟨#[49,48,49]⟩,.int .u8 1,.int .i64 5,.slice m1.a 0 m1.c])) ⟨Below.trans hbb (Below.mono hbc (by have:=hbb.size;omega)),hzc,d1,hid (Xa HD.out hbc),HA1⟩ ?_
  clear hbc hzc d1 HD HA1 hbb
  intro w3 ⟨hbb,hzc,d1,HD,HA1⟩
  have hq0:wa.heap.size < w3.heap.size:=om
  go_cut [4,5] from 19 to 24 (fun p q wx=>∃(D:Nat) (my:VA),p=.pointer (some ⟨D,0,none⟩)∧q=.int .i64 0∧w3.heap.size≤D∧D < wx.heap.size∧Below w3.heap.size w3 wx∧Hid (At wx D 0 [.int .u8 3,.int .i64 2,.int .i64 0,.string ⟨#[]⟩,.int .u8 0,.int .i64 0,.slice my.a 0 my.c]))
  case first=>
   obtain ⟨n0,n1,n2,n3,n4,n5,n6,n7,n8,n9,na,nb,nc,nd,ne⟩:=ZO.1 HD.out
   have hzB:=hbb.size
   as_aux_lemma=>
    (try dsimp only [List.append])
    refine wp_region_noPanic ?_
    refine wp_region_held_drew (S:=(fun W=>∀k,W.cell? ⟨wa.heap.size,k,none⟩=w3.cell? ⟨wa.heap.size,k,none⟩)) kr ?_ (fun hHeld=>?_)
    ·((try dsimp only);(refine Yd hq0 ?_;(exact ZlD)))
    refine tz 0 ?_
    try simp only [Act.put,sl,s0,ss]
    refine wrh [1,6] ?_
    refine rch (fun K hK=>?_) ?_
    ·go_simp
     go_wp2_with (go_at_call 17;(with_reducible refine (X0 _ _).mono ?_);rintro e w5 ⟨rfl,hb5⟩;have hz5:=hb5.size;(try simp at hz5))
     refine hK.out _ _ ?_ (fun hHeld=>?_)
     ·((try dsimp only);(refine Yd hq0 ?_;(exact ZlD)))
     clear hK K
     refine wrh [2,6] ?_
     refine rch (fun K hK=>?_) ?_
     ·go_simp
      go_wp2_with (go_at_call 12;(refine (Zku _ (HG.out.below ZlD)).mono ?_);rintro e w6 ⟨hb6,my,rfl⟩;have hz6:=hb6.size;(try simp at hz6))
      exact Zpn
     refine rch (fun K hK=>?_) ?_
     ·go_simp
      exact Zpq
     exact AllReadyH.nil
    refine rch (fun K hK=>?_) ?_
    ·go_simp
     refine hK.out _ _ ?_ (fun hHeld=>?_)
     ·((try dsimp only);(refine Yd hq0 ?_;(exact ZlD)))
     clear hK K
     refine wrh1 1 fun K hK=>?_
     go_simp
     go_wp2_with (go_at_call 17;(with_reducible refine (X0 _ _).mono ?_);rintro e w5 ⟨rfl,hb5⟩;have hz5:=hb5.size;(try simp at hz5))
     exact Zpq
    exact AllReadyH.nil
  case rest=>
   obtain ⟨D2,m2,rfl,rfl,d2,d3,hbc,HA2⟩:=hcut
   have hzd:=hbc.size
   go_upto_region 4 with fail
   refine ZT (fun W=>Below w.heap.size w W∧wb.heap.size≤W.heap.size∧D1 < W.heap.size∧D2 < W.heap.size∧Hid (At W wa.heap.size 0 (V4 0 7))∧Hid (At W D1 0 [.int .u8 1,.int .i64 2,.int .i64 1,.string ⟨#[49,48,49]⟩,.int .u8 1,.int .i64 5,.slice m1.a 0 m1.c])∧Hid (At W D2 0 [.int .u8 3,.int .i64 2,.int .i64 0,.string ⟨#[]⟩,.int .u8 0,.int .i64 0,.slice m2.a 0 m2.c])) ⟨Below.trans hbb (Below.mono hbc (by have:=hbb.size;omega)),om,om,d3,hid (Xa HD.out hbc),hid (Xa HA1.out hbc),HA2⟩ ?_
   clear hbc hzd hzc d1 d3 HD HA1 HA2 hbb
   intro w4 ⟨hbb,hzc,d1,d3,HD,HA1,HA2⟩
   go_upto_region 5 with (first
    | (go_at_call 16;(with_reducible refine (Zck _ _ _).mono ?_);rintro e w7 ⟨rfl,hb7⟩;have hz7:=hb7.size;(try simp at hz7))
    | (refine ZeN rfl rfl rfl (Zlq _) (by simp [Act.eval,Act.put,Yh,VZ,noV,noP]) ?_)
    | (refine WY rfl rfl (bLs w7.heap.size) (by simp [Act.eval,Act.put]) ?_)
    | (refine Y6 rfl 31 _ _ rfl _ _ (by rfl) (by rfl) kr (by rfl) (by simp [Value.oneCell']) ?_;try simp only [Act.put,sl,s0,ss]))
   refine ZT (fun W=>Below w.heap.size w W∧W.heap.size=w7.heap.size+2∧wb.heap.size≤w7.heap.size∧D1 < w7.heap.size∧D2 < w7.heap.size∧Hid (At W wa.heap.size 0 (V4 0 7))∧Hid (At W D1 0 [.int .u8 1,.int .i64 2,.int .i64 1,.string ⟨#[49,48,49]⟩,.int .u8 1,.int .i64 5,.slice m1.a 0 m1.c])∧Hid (At W D2 0 [.int .u8 3,.int .i64 2,.int .i64 0,.string ⟨#[]⟩,.int .u8 0,.int .i64 0,.slice m2.a 0 m2.c])∧Hid (At W w7.heap.size 0 (V4 0 1))∧Hid (At W (w7.heap.size+1) 0 (Zig w7.heap.size)))
    ⟨ZlD,sm,om,om,om,hid (Wm (Wm (Xa HD.out hb7) om) sz),hid (Wm (Wm (Xa HA1.out hb7) om) sz),hid (Wm (Wm (Xa HA2.out hb7) om) sz),hid (Wm (Xr (l:=V4 0 1) rfl) sz),hid (Xr (l:=Zig w7.heap.size) sm)⟩ ?_
   clear hb7 hzc d1 d3 HD HA1 HA2 hbb
   intro w8 ⟨hbb,hz8,hzc,d1,d3,HD,HA1,HA2,HB,HL⟩
   (try simp only [Nat.add_assoc,Nat.reduceAdd])
   go_cut [7,8,9,10] from 28 to 37 (fun p q r s wx=>∃(D:Nat) (my:VA),p=.string ⟨#[49,48,48,48]⟩∧q=.pointer (some ⟨D,0,none⟩)∧r=.int .i64 1∧s=.int .i64 0∧w8.heap.size≤D∧D < wx.heap.size∧Below w8.heap.size w8 wx∧Hid (At wx D 0 [.int .u8 4,.int .i64 0,.slice my.a 2 my.c])∧Hid (RV wx (fun _=>True) ⟨4,0,[V0 0,V0 0]⟩ my.a))
   case first=>
    obtain ⟨n0,n1,n2,n3,n4,n5,n6,n7,n8,n9,na,nb,nc,nd,ne⟩:=ZO.1 HL.out
    have hq0:w7.heap.size+1 < w8.heap.size:=om
    clear hz8
    as_aux_lemma=>
     (try dsimp only [List.append])
     refine wp_region_noPanic ?_
     refine wp_region_held_drew (S:=(fun W=>∀k,W.cell? ⟨w7.heap.size+1,k,none⟩=w8.cell? ⟨w7.heap.size+1,k,none⟩)) kr ?_ (fun hHeld=>?_)
     ·((try dsimp only);(refine Yd hq0 ?_;(exact ZlD)))
     refine tz 0 ?_
     try simp only [Act.put,sl,s0,ss]
     refine wrh [1,10] ?_
     refine rch (fun K hK=>?_) ?_
     ·go_simp
      go_wp2_with (go_at_call 17;(with_reducible refine (X0 _ _).mono ?_);rintro e w5 ⟨rfl,hb5⟩;have hz5:=hb5.size;(try simp at hz5))
      refine hK.out _ _ ?_ (fun hHeld=>?_)
      ·((try dsimp only);(refine Yd hq0 ?_;(exact ZlD)))
      clear hK K
      refine wrh [2,10] ?_
      refine rch (fun K hK=>?_) ?_
      ·(rw [if_pos (ZV rfl _)];refine JH rfl rfl (Zka _) (by simp [Act.eval,YN,WG]) ?_;simp only [Act.put,sl,s0,ss,World.size_alloc])
       refine hK.out _ _ ?_ (fun hHeld=>?_)
       ·((try dsimp only);(refine Yd hq0 ?_;(exact ZlD)))
       clear hK K
       as_aux_lemma=>
        refine tz 3 ?_
        try simp only [Act.put,sl,s0,ss]
        refine wrh [4,10] ?_
        refine rch (fun K hK=>?_) ?_
        ·go_simp
         go_wp2_with (go_at_call 8;(refine (Zjx _ (HG.out.below ZlD) w7.heap.size _ (by exact ZmS (A:=fun _=>True) ar trivial _ _ HB.out) (by repeat (first|exact Xr (l:=Zan 2) (by first|(simp;done)|rfl)|with_reducible refine Wm ?_ sz|with_reducible refine KR ?_|with_reducible refine Xa ?_ (by with_reducible assumption)))).mono ?_);rintro e w6 ⟨hb6,my,rfl,hrv⟩;have HRV:=hid hrv;clear hrv;have hz6:=hb6.size;(try simp at hz6))
         refine hK.out _ _ ?_ (fun hHeld=>?_)
         ·((try dsimp only);(refine Yd hq0 ?_;(exact ZlD)))
         clear hK K
         refine tz 5 ?_
         try simp only [Act.put,sl,s0,ss]
         refine tz 6 ?_
         try simp only [Act.put,sl,s0,ss]
         as_aux_lemma=>
          refine tz 7 ?_
          try simp only [Act.put,sl,s0,ss]
          refine tz 8 ?_
          try simp only [Act.put,sl,s0,ss]
          refine tz 9 ?_
          try simp only [Act.put,sl,s0,ss]
          refine wrh1 10 fun K hK=>?_
          go_simp
          refine hK.out _ _ ?_ (fun hHeld=>?_)
          ·((try dsimp only);(refine Yd hq0 ?_;(exact ZlD)))
          clear hK K
          exact Zpo
        refine rch (fun K hK=>?_) ?_
        ·go_simp
         refine hK.out _ _ ?_ (fun hHeld=>?_)
         ·((try dsimp only);(refine Yd hq0 ?_;(exact ZlD)))
         clear hK K
         refine wrh1 4 fun K hK=>?_
         go_simp
         go_wp2_with (go_at_call 8;(refine (Zjx _ (HG.out.below ZlD) w7.heap.size _ (by exact ZmS (A:=fun _=>True) ar trivial _ _ HB.out) (by repeat (first|exact Xr (l:=Zan 2) (by first|(simp;done)|rfl)|with_reducible refine Wm ?_ sz|with_reducible refine KR ?_|with_reducible refine Xa ?_ (by with_reducible assumption)))).mono ?_);rintro e w6 ⟨hb6,my,rfl,hrv⟩;have HRV:=hid hrv;clear hrv;have hz6:=hb6.size;(try simp at hz6))
         refine hK.out _ _ ?_ (fun hHeld=>?_)
         ·((try dsimp only);(refine Yd hq0 ?_;(exact ZlD)))
         clear hK K
         refine tz 5 ?_
         try simp only [Act.put,sl,s0,ss]
         refine tz 6 ?_
         try simp only [Act.put,sl,s0,ss]
         as_aux_lemma=>
          refine tz 7 ?_
          try simp only [Act.put,sl,s0,ss]
          refine tz 8 ?_
          try simp only [Act.put,sl,s0,ss]
          refine tz 9 ?_
          try simp only [Act.put,sl,s0,ss]
          refine tz 11 ?_
          try simp only [Act.put,sl,s0,ss]
          as_aux_lemma=>
           refine wrh1 12 fun K hK=>?_
           (rw [if_pos (ZV rfl _)];refine wp_store_mid 24 _ _ rfl _ 0 _ rfl rfl thz kr (by simp [Value.oneCell']) ?_;simp only [Act.put,sl,s0,ss])
           refine hK.out _ _ ?_ (fun hHeld=>?_)
           ·exact Zpr
           clear hK K
           exact Zpd
        exact AllReadyH.nil
      refine rch (fun K hK=>?_) ?_
      ·go_simp
       refine hK.out _ _ ?_ (fun hHeld=>?_)
       ·((try dsimp only);(refine Yd hq0 ?_;(exact ZlD)))
       clear hK K
       as_aux_lemma=>
        refine wrh1 2 fun K hK=>?_
        (rw [if_pos (ZV rfl _)];refine JH rfl rfl (Zka _) (by simp [Act.eval,YN,WG]) ?_;simp only [Act.put,sl,s0,ss,World.size_alloc])
        refine hK.out _ _ ?_ (fun hHeld=>?_)
        ·((try dsimp only);(refine Yd hq0 ?_;(exact ZlD)))
        clear hK K
        refine tz 3 ?_
        try simp only [Act.put,sl,s0,ss]
        refine wrh1 4 fun K hK=>?_
        go_simp
        go_wp2_with (go_at_call 8;(refine (Zjx _ (HG.out.below ZlD) w7.heap.size _ (by exact ZmS (A:=fun _=>True) ar trivial _ _ HB.out) (by repeat (first|exact Xr (l:=Zan 2) (by first|(simp;done)|rfl)|with_reducible refine Wm ?_ sz|with_reducible refine KR ?_|with_reducible refine Xa ?_ (by with_reducible assumption)))).mono ?_);rintro e w6 ⟨hb6,my,rfl,hrv⟩;have HRV:=hid hrv;clear hrv;have hz6:=hb6.size;(try simp at hz6))
        refine hK.out _ _ ?_ (fun hHeld=>?_)
        ·((try dsimp only);(refine Yd hq0 ?_;(exact ZlD)))
        clear hK K
        refine tz 5 ?_
        try simp only [Act.put,sl,s0,ss]
        as_aux_lemma=>
         refine tz 6 ?_
         try simp only [Act.put,sl,s0,ss]
         refine tz 7 ?_
         try simp only [Act.put,sl,s0,ss]
         refine tz 8 ?_
         try simp only [Act.put,sl,s0,ss]
         refine tz 9 ?_
         try simp only [Act.put,sl,s0,ss]
         exact Zpo
      exact AllReadyH.nil
     refine rch (fun K hK=>?_) ?_
     ·go_simp
      refine hK.out _ _ ?_ (fun hHeld=>?_)
      ·((try dsimp only);(refine Yd hq0 ?_;(exact ZlD)))
      clear hK K
      refine wrh1 1 fun K hK=>?_
      go_simp
      go_wp2_with (go_at_call 17;(with_reducible refine (X0 _ _).mono ?_);rintro e w5 ⟨rfl,hb5⟩;have hz5:=hb5.size;(try simp at hz5))
      refine hK.out _ _ ?_ (fun hHeld=>?_)
      ·((try dsimp only);(refine Yd hq0 ?_;(exact ZlD)))
      clear hK K
      refine wrh1 2 fun K hK=>?_
      (rw [if_pos (ZV rfl _)];refine JH rfl rfl (Zka _) (by simp [Act.eval,YN,WG]) ?_;simp only [Act.put,sl,s0,ss,World.size_alloc])
      refine hK.out _ _ ?_ (fun hHeld=>?_)
      ·((try dsimp only);(refine Yd hq0 ?_;(exact ZlD)))
      clear hK K
      refine tz 3 ?_
      try simp only [Act.put,sl,s0,ss]
      as_aux_lemma=>
       refine wrh1 4 fun K hK=>?_
       go_simp
       go_wp2_with (go_at_call 8;(refine (Zjx _ (HG.out.below ZlD) w7.heap.size _ (by exact ZmS (A:=fun _=>True) ar trivial _ _ HB.out) (by repeat (first|exact Xr (l:=Zan 2) (by first|(simp;done)|rfl)|with_reducible refine Wm ?_ sz|with_reducible refine KR ?_|with_reducible refine Xa ?_ (by with_reducible assumption)))).mono ?_);rintro e w6 ⟨hb6,my,rfl,hrv⟩;have HRV:=hid hrv;clear hrv;have hz6:=hb6.size;(try simp at hz6))
       refine hK.out _ _ ?_ (fun hHeld=>?_)
       ·((try dsimp only);(refine Yd hq0 ?_;(exact ZlD)))
       clear hK K
       refine tz 5 ?_
       try simp only [Act.put,sl,s0,ss]
       refine tz 6 ?_
       try simp only [Act.put,sl,s0,ss]
       refine tz 7 ?_
       try simp only [Act.put,sl,s0,ss]
       as_aux_lemma=>
        refine tz 8 ?_
        try simp only [Act.put,sl,s0,ss]
        refine tz 9 ?_
        try simp only [Act.put,sl,s0,ss]
        refine tz 11 ?_
        try simp only [Act.put,sl,s0,ss]
        refine wrh1 12 fun K hK=>?_
        (rw [if_pos (ZV rfl _)];refine wp_store_mid 24 _ _ rfl _ 0 _ rfl rfl thz kr (by simp [Value.oneCell']) ?_;simp only [Act.put,sl,s0,ss])
        refine hK.out _ _ ?_ (fun hHeld=>?_)
        ·exact Zpr
        clear hK K
        as_aux_lemma=>
         exact Zpd
     exact AllReadyH.nil
   case rest=>
    obtain ⟨D3,m3,rfl,rfl,rfl,rfl,d4,d5,hbc,HA3,HV⟩:=hcut
    have hz9:=hbc.size
    go_upto_region 7 with fail
    refine ZT (fun W=>Below w.heap.size w W∧W.heap.size=wc.heap.size+1∧wa.heap.size < wc.heap.size∧D1 < wc.heap.size∧D2 < wc.heap.size∧D3 < wc.heap.size∧Hid (At W wa.heap.size 0 (V4 0 7))∧Hid (At W D1 0 [.int .u8 1,.int .i64 2,.int .i64 1,.string ⟨#[49,48,49]⟩,.int .u8 1,.int .i64 5,.slice m1.a 0 m1.c])∧Hid (At W D2 0 [.int .u8 3,.int .i64 2,.int .i64 0,.string ⟨#[]⟩,.int .u8 0,.int .i64 0,.slice m2.a 0 m2.c])∧Hid (At W D3 0 [.int .u8 4,.int .i64 0,.slice m3.a 2 m3.c])∧Hid (RV W (fun _=>True) ⟨4,0,[V0 0,V0 0]⟩ m3.a)∧Hid (At W wc.heap.size 0 [.int .u8 1,.int .i64 0,.slice none 0 0]))
     ⟨Below.alloc (Below.trans hbb (Below.mono hbc (by have:=hbb.size;omega))) (by have:=hbb.size;omega) _,sm,om,om,om,d5,hid (Wm (Xa HD.out hbc) om),hid (Wm (Xa HA1.out hbc) om),hid (Wm (Xa HA2.out hbc) om),hid (Wm HA3.out om),hid (ZmG (ZlH (Below.alloc (Below.refl _ _) (Nat.le_refl _) _)) _ _ HV.out),hid (Xr (l:=[.int .u8 1,.int .i64 0,.slice none 0 0]) rfl)⟩ ?_
    clear hbc hzc hz9 d1 d3 d4 d5 HD HA1 HA2 HA3 HV HB HL hbb
    intro w9 ⟨hbb,hz9,e0,e1,e2,e3,HD,HA1,HA2,HA3,HV,HZ⟩
    obtain ⟨n0,n1,n2,n3,n4,n5,n6,n7,n8,n9,na,nb,nc,nd,ne⟩:=ZO.1 HD.out
    obtain ⟨x0,x1,x2,x3,x4,x5,x6⟩:=ZeO.1 HA1.out
    obtain ⟨y0,y1,y2,y3,y4,y5,y6⟩:=ZeO.1 HA2.out
    obtain ⟨z0,z1,z2⟩:=Q9.1 HA3.out
    obtain ⟨q0,q1,q2⟩:=Q9.1 HZ.out
    have g0:wa.heap.size < w9.heap.size:=om
    have g1:D1 < w9.heap.size:=om
    have g2:D2 < w9.heap.size:=om
    have g3:D3 < w9.heap.size:=om
    have g4:wc.heap.size < w9.heap.size:=om
    clear hz9
    as_aux_lemma=>
     (try dsimp only [List.append])
     refine wp_region_noPanic ?_
     refine wp_region_held_drew (S:=(fun W=>∀c k,c < w9.heap.size→W.cell? ⟨c,k,none⟩=w9.cell? ⟨c,k,none⟩)) kr ?_ (fun hHeld=>?_)
     ·((try dsimp only);(refine Uh ?_;(exact ZlD)))
     refine tz 0 ?_
     try simp only [Act.put,sl,s0,ss]
     refine wrh1 1 fun K hK=>?_
     go_simp
     go_wp2_with (go_at_call 17;(with_reducible refine (X0 _ _).mono ?_);rintro e w6 ⟨rfl,hb6⟩;have hz6:=hb6.size;(try simp at hz6))
     refine hK.out _ _ ?_ (fun hHeld=>?_)
     ·((try dsimp only);(refine Uh ?_;(exact ZlD)))
     clear hK K
     refine wrh1 2 fun K hK=>?_
     go_simp
     go_wp2_with (go_at_call 18;(with_reducible refine (Zlz _ (HG.out.below ZlD)).mono ?_);rintro e w6 ⟨rfl,hb6⟩;have hz6:=hb6.size;(try simp at hz6))
     refine hK.out _ _ ?_ (fun hHeld=>?_)
     ·((try dsimp only);(refine Uh ?_;(exact ZlD)))
     clear hK K
     refine tz 3 ?_
     try simp only [Act.put,sl,s0,ss]
     refine tz 4 ?_
     try simp only [Act.put,sl,s0,ss]
     refine wrh1 5 fun K hK=>?_
     go_simp
     go_wp2_with (go_at_call 17;(with_reducible refine (X0 _ _).mono ?_);rintro e w6 ⟨rfl,hb6⟩;have hz6:=hb6.size;(try simp at hz6))
     refine hK.out _ _ ?_ (fun hHeld=>?_)
     ·((try dsimp only);(refine Uh ?_;(exact ZlD)))
     clear hK K
     refine wrh1 6 fun K hK=>?_
     go_simp
     go_wp2_with (go_at_call 18;(with_reducible refine (ZlA _ (HG.out.below ZlD)).mono ?_);rintro e w6 ⟨rfl,hb6⟩;have hz6:=hb6.size;(try simp at hz6))
     refine hK.out _ _ ?_ (fun hHeld=>?_)
     ·((try dsimp only);(refine Uh ?_;(exact ZlD)))
     clear hK K
     as_aux_lemma=>
      refine tz 7 ?_
      try simp only [Act.put,sl,s0,ss]
      refine tz 8 ?_
      try simp only [Act.put,sl,s0,ss]
      refine tz 9 ?_
      try simp only [Act.put,sl,s0,ss]
      refine wrh1 10 fun K hK=>?_
      go_simp
      go_wp2_with (go_at_call 17;(with_reducible refine (X0 _ _).mono ?_);rintro e w6 ⟨rfl,hb6⟩;have hz6:=hb6.size;(try simp at hz6))
      refine hK.out _ _ ?_ (fun hHeld=>?_)
      ·((try dsimp only);(refine Uh ?_;(exact ZlD)))
      clear hK K
      refine wrh1 11 fun K hK=>?_
      go_simp
      go_wp2_with (go_at_call 19;(with_reducible refine (Zly _).mono ?_);rintro e w6 ⟨rfl,hb6⟩;have hz6:=hb6.size;(try simp at hz6))
      refine hK.out _ _ ?_ (fun hHeld=>?_)
      ·((try dsimp only);(refine Uh ?_;(exact ZlD)))
      clear hK K
      refine tz 12 ?_
      try simp only [Act.put,sl,s0,ss]
      refine tz 13 ?_
      try simp only [Act.put,sl,s0,ss]
      refine tz 14 ?_
      try simp only [Act.put,sl,s0,ss]
      as_aux_lemma=>
       refine tz 15 ?_
       try simp only [Act.put,sl,s0,ss]
       refine tz 16 ?_
       try simp only [Act.put,sl,s0,ss]
       refine tz 17 ?_
       try simp only [Act.put,sl,s0,ss]
       refine tz 18 ?_
       try simp only [Act.put,sl,s0,ss]
       refine tq 19 (v:=.agg #[.int .u8 1,.int .i64 5,.slice none 0 0]) rfl (Us (by rfl) rfl Zls (by simp [Act.eval])) ?_
       try simp only [Act.put,sl,s0,ss]
       refine tq 20 (v:=.agg #[.int .u8 1,.int .i64 2,.int .i64 1,.string ⟨#[49,48,49]⟩,.int .u8 1,.int .i64 5,.slice none 0 0]) rfl (Us (by rfl) rfl (bRp 1 2 1 1 5 ⟨#[49,48,49]⟩) (by simp [Act.eval])) ?_
       try simp only [Act.put,sl,s0,ss]
       refine wrh1 21 fun K hK=>?_
       go_simp
       go_wp2_with (go_at_call 13;(with_reducible refine (rs1 m1 _).mono ?_);rintro e w6 ⟨rfl,hb6⟩;have hz6:=hb6.size;(try simp at hz6))
       refine hK.out _ _ ?_ (fun hHeld=>?_)
       ·((try dsimp only);(refine Uh ?_;(exact ZlD)))
       clear hK K
       refine tz 22 ?_
       try simp only [Act.put,sl,s0,ss]
       as_aux_lemma=>
        refine tz 23 ?_
        try simp only [Act.put,sl,s0,ss]
        refine tz 24 ?_
        try simp only [Act.put,sl,s0,ss]
        refine tz 25 ?_
        try simp only [Act.put,sl,s0,ss]
        refine tz 26 ?_
        try simp only [Act.put,sl,s0,ss]
        refine tz 27 ?_
        try simp only [Act.put,sl,s0,ss]
        refine tz 28 ?_
        try simp only [Act.put,sl,s0,ss]
        refine tq 29 (v:=.agg #[.int .u8 3,.int .i64 2,.int .i64 0,.string ⟨#[]⟩,.int .u8 0,.int .i64 0,.slice none 0 0]) rfl (Us (by rfl) rfl (bRs 3 2) (by simp [Act.eval])) ?_
        try simp only [Act.put,sl,s0,ss]
        refine wrh1 30 fun K hK=>?_
        go_simp
        go_wp2_with (go_at_call 13;(with_reducible refine (rs2 m2 _).mono ?_);rintro e w6 ⟨rfl,hb6⟩;have hz6:=hb6.size;(try simp at hz6))
        refine hK.out _ _ ?_ (fun hHeld=>?_)
        ·((try dsimp only);(refine Uh ?_;(exact ZlD)))
        clear hK K
        as_aux_lemma=>
         refine tz 31 ?_
         try simp only [Act.put,sl,s0,ss]
         refine tz 32 ?_
         try simp only [Act.put,sl,s0,ss]
         refine tz 33 ?_
         try simp only [Act.put,sl,s0,ss]
         refine tz 34 ?_
         try simp only [Act.put,sl,s0,ss]
         refine tz 35 ?_
         try simp only [Act.put,sl,s0,ss]
         refine tz 36 ?_
         try simp only [Act.put,sl,s0,ss]
         refine tz 37 ?_
         try simp only [Act.put,sl,s0,ss]
         refine tz 38 ?_
         try simp only [Act.put,sl,s0,ss]
         as_aux_lemma=>
          refine tz 39 ?_
          try simp only [Act.put,sl,s0,ss]
          refine tz 40 ?_
          try simp only [Act.put,sl,s0,ss]
          refine tz 41 ?_
          try simp only [Act.put,sl,s0,ss]
          refine tz 42 ?_
          try simp only [Act.put,sl,s0,ss]
          refine tz 43 ?_
          try simp only [Act.put,sl,s0,ss]
          refine wrh1 44 fun K hK=>?_
          (rw [if_pos (by rfl)];refine JH rfl rfl (Zlr _) (by simp [Act.eval]) ?_;simp only [Act.put,sl,s0,ss,World.size_alloc])
          refine hK.out _ _ ?_ (fun hHeld=>?_)
          ·((try dsimp only);(refine Uh ?_;(exact ZlD)))
          clear hK K
          refine wrh1 45 fun K hK=>?_
          go_simp
          go_wp2_with (go_at_call 21;(refine (Zhx [V0 0,V0 0] _ 2 _ (fun _=>True) sm (by simp only [okVs];exact ⟨UA (by unfold Yg;omega) (by unfold Zv;omega),UA (by unfold Yg;omega) (by unfold Zv;omega),trivial⟩) (ZlB (Xr (l:=zzL) rfl))).mono ?_);rintro e w6 ⟨hb6,my,rfl,hrv⟩;have HRV:=hid hrv;clear hrv;have hz6:=hb6.size;(try simp at hz6))
          refine hK.out _ _ ?_ (fun hHeld=>?_)
          ·((try dsimp only);(refine Uh ?_;(exact ZlD)))
          clear hK K
          refine wrh1 46 fun K hK=>?_
          go_simp
          go_wp2_with (go_at_call 20;(refine (Zhm ⟨4,0,[V0 0,V0 0]⟩ _ (fun _=>True) _ m3 my (ZA.2 ⟨by unfold Yg;simp,by unfold Zv;simp,sm,by simp only [okVs];exact ⟨UA (by unfold Yg;omega) (by unfold Zv;omega),UA (by unfold Yg;omega) (by unfold Zv;omega),trivial⟩⟩) (by exact ZmG ar _ _ HV.out) (by exact HRV.out)).mono ?_);rintro e w7 ⟨rfl,hb7⟩;have hz7:=hb7.size;(try simp at hz7))
          refine hK.out _ _ ?_ (fun hHeld=>?_)
          ·((try dsimp only);(refine Uh ?_;(exact ZlD)))
          clear hK K
          as_aux_lemma=>
           refine tz 47 ?_
           try simp only [Act.put,sl,s0,ss]
           refine tz 48 ?_
           try simp only [Act.put,sl,s0,ss]
           refine tz 49 ?_
           try simp only [Act.put,sl,s0,ss]
           refine tz 50 ?_
           try simp only [Act.put,sl,s0,ss]
           refine tz 51 ?_
           try simp only [Act.put,sl,s0,ss]
           refine tz 52 ?_
           try simp only [Act.put,sl,s0,ss]
           refine wpAnyH_done kr ?_ _
           as_aux_lemma=>
            (refine NoPanic.normal ?_;go_wp2_with fail;go_ret;exact ⟨rfl,ZlD⟩)
end Go.Proofs.YtclphfojkggcpaaGreatDoor
