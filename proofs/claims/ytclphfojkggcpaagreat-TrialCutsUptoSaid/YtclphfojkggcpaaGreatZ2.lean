/- What the proofs of the Trial statements need: part 3. -/
import Derived.Test.YtclphfojkggcpaaGreatZ0
set_option linter.unusedVariables false
set_option linter.unusedSimpArgs false
namespace Go.Proofs.YtclphfojkggcpaaGreat
open Go Go.RowKit
structure But (c B:Nat) (w w':World):Prop where
 os:w'.os=w.os
 tape:w'.tape=w.tape
 output:w'.output=w.output
 size:w.heap.size≤w'.heap.size
 block:∀k,k < B→k≠c→w'.heap[k]? =w.heap[k]?
theorem But.refl (c B:Nat) (w:World):But c B w w:=⟨rfl,rfl,rfl,Nat.le_refl _,fun _ _ _=>rfl⟩
theorem But.trans {c B:Nat} {a b d:World} (h:But c B a b) (k:But c B b d):But c B a d:=
 ⟨k.os.trans h.os,k.tape.trans h.tape,k.output.trans h.output,Nat.le_trans h.size k.size,fun i hi hc=>(k.block i hi hc).trans (h.block i hi hc)⟩
theorem But.mono {c B B':Nat} {w w':World} (h:But c B w w') (hB:B'≤B):But c B' w w':=⟨h.os,h.tape,h.output,h.size,fun k hk hc=>h.block k (Nat.lt_of_lt_of_le hk hB) hc⟩
theorem But.drew {c B:Nat} {a w:World} (h:But c B a w):But c B a w.drew:=⟨h.os,h.tape,h.output,h.size,h.block⟩
theorem But.of {c B:Nat} {w w':World} (h:Below B w w'):But c B w w':=⟨h.os,h.tape,h.output,h.size,fun k hk _=>h.block k hk⟩
theorem But.alloc {c B:Nat} {a w:World} (h:But c B a w) (hB:B≤w.heap.size) (o:Obj):But c B a (w.alloc o):=
 h.trans (But.of (Below.alloc (Below.refl B w) hB o))
theorem But.setCell {c B:Nat} {a w:World} (h:But c B a w) {p:Addr} (hp:B≤p.block) (u:Value):But c B a (w.setCell p u):=
 h.trans (But.of (Below.setCell (Below.refl B w) hp u))
theorem But.setOwn {c B:Nat} {a w:World} (h:But c B a w) (o:Nat) (u:Value):But c B a (w.setCell ⟨c,o,none⟩ u):=
 h.trans ⟨rfl,rfl,rfl,by simp [World.setCell],fun k hk hc=>Below.heap_setCell _ _ _ _ hc⟩
theorem But.cell {c B:Nat} {w w':World} (h:But c B w w') {p:Addr} (hp:p.block < B) (hc:p.block≠c):w'.cell? p=w.cell? p:=World.cell?_of_block (w:=w) (h.block p.block hp hc)
theorem But.frozen {c B:Nat} {w w':World} (h:But c B w w') {p:Addr} (hp:p.block < B) (hc:p.block≠c):w'.frozen? p=w.frozen? p:=World.frozen?_of_block (w:=w) (h.block p.block hp hc)
theorem But.ag {c B:Nat} {w w':World} (h:But c B w w') {p:Addr} {v:Value} (hp:p.block < B) (hc:p.block≠c) (hv:w.cell? p=some v):w'.cell? p=some v∧w'.frozen? p=w.frozen? p:=⟨(h.cell hp hc).trans hv,h.frozen hp hc⟩
theorem But.below {c B:Nat} {w w':World} (h:But c B w w') (hc:B≤c):Below B w w':=⟨h.os,h.tape,h.output,h.size,fun k hk=>h.block k hk (by omega)⟩
theorem Agree.but {c:Nat} {w w':World} (h:But c w.heap.size w w'):Agree (fun b=>b≠c) w w':=fun _ _ hA hc=>⟨(h.cell (World.block_lt_of_cell? _ _ hc) hA).trans hc,h.frozen (World.block_lt_of_cell? _ _ hc) hA⟩
theorem ccells {c B:Nat} {W w1:World} (hb:But c B W w1):(∀b o,b < B→¬b=c→w1.cell? ⟨b,o,none⟩=W.cell? ⟨b,o,none⟩)∧(∀b o,b < B→¬b=c→w1.frozen? ⟨b,o,none⟩=W.frozen? ⟨b,o,none⟩):=
 ⟨fun b o h k=>hb.cell (p:=⟨b,o,none⟩) h k,fun b o h k=>hb.frozen (p:=⟨b,o,none⟩) h k⟩
theorem But.m {c B B':Nat} {w w':World} (h:But c B w w') (k:B'≤B:=by first|omega|(simp;done)|(simp;omega)):But c B' w w':=But.mono h k
theorem But.a {c B:Nat} {w w':World} (h:But c B w w') (o:Obj) (k:B≤w'.heap.size:=by first|omega|(simp;done)|(simp;omega)):But c B w (w'.alloc o):=But.alloc h k o
theorem But.s {c B:Nat} {w w':World} (h:But c B w w') (u:Value) {p:Addr} (k:B≤p.block:=by first|omega|(simp;done)|(simp;omega)):But c B w (w'.setCell p u):=But.setCell h k u
theorem But.z {c B:Nat} {w w':World} (h:But c B w w':=by repeat (first|exact .refl _ _ _|assumption|refine .trans ?_ (.m (by assumption))|refine .trans ?_ (.of (.m (by assumption)))|refine .drew ?_|refine .a ?_ _|refine .setOwn ?_ _ _|refine .s ?_ _)):But c B w w':=h
theorem But.r {c B:Nat} {w w':World} (h:But c B w w':=by with_reducible repeat (first|exact .refl _ _ _|assumption|refine .trans ?_ (.m (by assumption))|refine .trans ?_ (.of (.m (by assumption)))|refine .drew ?_|refine .a ?_ _|refine .setOwn ?_ _ _|refine .s ?_ _)):But c B w w':=h
section
def lenN (n:Nat):Nat:=if n=0 then 0 else Nat.log2 n+1
theorem lenN_half (n:Nat) (h:n≠0):lenN n=1+lenN (n / 2):=by
 unfold lenN
 rw [if_neg h,Nat.log2_def]
 split
 ·rw [if_neg (by omega)];omega
 ·rw [if_pos (by omega)]
theorem lenN_shift (n:Nat):∀s,n / 2 ^ s≠0→lenN n=s+lenN (n / 2 ^ s)
 | 0,_=>by simp
 | s+1,h=>by
  have e:n / 2 ^ (s+1)=n / 2 ^ s / 2:=by rw [Nat.pow_succ,Nat.div_div_eq_div_mul]
  rw [e] at h ⊢
  have h2:n / 2 ^ s≠0:=by intro h3;rw [h3] at h;exact h (by simp)
  rw [lenN_shift n s h2,lenN_half _ h2]
  omega
theorem lenN_small (n:Nat) (h:n < 2):lenN n=n:=by
 rcases Nat.lt_or_ge n 1 with h1|h1
 ·obtain rfl:n=0:=by omega
  simp [lenN]
 ·obtain rfl:n=1:=by omega
  decide
end
theorem At15z {w b c0 c1 c2 c3 c4 c5 c6 c7 c8 c9 ca cb cc cd ce}:At w b 0 [c0,c1,c2,c3,c4,c5,c6,c7,c8,c9,ca,cb,cc,cd,ce]↔w.cell? ⟨b,0,none⟩=some c0∧w.cell? ⟨b,1,none⟩=some c1∧w.cell? ⟨b,2,none⟩=some c2 ∧
  w.cell? ⟨b,3,none⟩=some c3∧w.cell? ⟨b,4,none⟩=some c4∧w.cell? ⟨b,5,none⟩=some c5∧w.cell? ⟨b,6,none⟩=some c6∧w.cell? ⟨b,7,none⟩=some c7∧w.cell? ⟨b,8,none⟩=some c8 ∧
  w.cell? ⟨b,9,none⟩=some c9∧w.cell? ⟨b,10,none⟩=some ca∧w.cell? ⟨b,11,none⟩=some cb∧w.cell? ⟨b,12,none⟩=some cc∧w.cell? ⟨b,13,none⟩=some cd∧w.cell? ⟨b,14,none⟩=some ce:=by
 simp only [At,Nat.add_assoc,Nat.reduceAdd,and_true,Nat.zero_add]
theorem At6z {w b c0 c1 c2 c3 c4 c5}:At w b 0 [c0,c1,c2,c3,c4,c5]↔w.cell? ⟨b,0,none⟩=some c0∧w.cell? ⟨b,1,none⟩=some c1∧w.cell? ⟨b,2,none⟩=some c2 ∧
  w.cell? ⟨b,3,none⟩=some c3∧w.cell? ⟨b,4,none⟩=some c4∧w.cell? ⟨b,5,none⟩=some c5:=by
 simp only [At,Nat.add_assoc,Nat.reduceAdd,and_true,Nat.zero_add]
def noV:GV:=⟨0,0,[]⟩
def noP:GP:=⟨0,noV,0,[]⟩
def nilTA:TA:=⟨none,0,none,0,none,0,none,0,none,0,none,0⟩
def nilPA:PA:=⟨none,0,none,0⟩
def spanT (lo hi:Int):GT:=⟨2,noV,[],lo,hi,[],noP,[]⟩
def numT (n:Int):GT:=⟨1,⟨1,n,[]⟩,[],0,0,[],noP,[]⟩
def lessP (n:Int):GP:=⟨4,⟨1,n,[]⟩,0,[]⟩
def yesP:GP:=⟨1,noV,0,[]⟩
theorem RT_nil {w:World} {A:Nat→Prop} {t:GT} {m:TA} (h1:t.v.l=[]) (h2:t.vs=[]) (h3:t.w=[]) (h4:t.p.v.l=[]) (h5:t.p.a=[]) (h6:t.a=[]):RT w A t m:=by
 rw [RT_iff,RV_iff,RP_iff,RV_iff,h1,h2,h3,h4,h5,h6]
 simp only [RVs,RIs,RPs,RTs,and_self]
theorem RP_nil {w:World} {A:Nat→Prop} {t:GP} {m:PA} (h1:t.v.l=[]) (h2:t.a=[]):RP w A t m:=by
 rw [RP_iff,RV_iff,h1,h2]
 simp only [RVs,RPs,and_self]
theorem span_ok (lo hi:Int) (h:isI64 lo) (h2:isI64 hi):okT (spanT lo hi):=by
 refine okT_iff.2 ⟨by unfold isU8 spanT;simp,okV_iff.2 ⟨by unfold isU8 spanT noV;simp,by unfold isI64 spanT noV;simp,by simp [spanT,noV],by simp [spanT,noV,okVs]⟩,⟨by simp [spanT],by simp [spanT,okVs]⟩,h,h2,⟨by simp [spanT],by simp [spanT,okIs]⟩,okP_iff.2 ⟨by unfold isU8 spanT noP;simp,okV_iff.2 ⟨by unfold isU8 spanT noP noV;simp,by unfold isI64 spanT noP noV;simp,by simp [spanT,noP,noV],by simp [spanT,noP,noV,okVs]⟩,by unfold isI64 spanT noP;simp,by simp [spanT,noP],by simp [spanT,noP,okPs]⟩,by simp [spanT],by simp [spanT,okTs]⟩
theorem num_ok (n:Int) (h:isI64 n):okT (numT n):=by
 refine okT_iff.2 ⟨by unfold isU8 numT;simp,okV_iff.2 ⟨by unfold isU8 numT;simp,h,by simp [numT],by simp [numT,okVs]⟩,⟨by simp [numT],by simp [numT,okVs]⟩,by unfold isI64 numT;simp,by unfold isI64 numT;simp,⟨by simp [numT],by simp [numT,okIs]⟩,okP_iff.2 ⟨by unfold isU8 numT noP;simp,okV_iff.2 ⟨by unfold isU8 numT noP noV;simp,by unfold isI64 numT noP noV;simp,by simp [numT,noP,noV],by simp [numT,noP,noV,okVs]⟩,by unfold isI64 numT noP;simp,by simp [numT,noP],by simp [numT,noP,okPs]⟩,by simp [numT],by simp [numT,okTs]⟩
theorem lessP_ok (n:Int) (h:isI64 n):okP (lessP n):=
 okP_iff.2 ⟨by unfold isU8 lessP;simp,okV_iff.2 ⟨by unfold isU8 lessP;simp,h,by simp [lessP],by simp [lessP,okVs]⟩,by unfold isI64 lessP;simp,by simp [lessP],by simp [lessP,okPs]⟩
theorem yes_ok:okP yesP:=
 okP_iff.2 ⟨by unfold isU8 yesP;simp,okV_iff.2 ⟨by unfold isU8 yesP noV;simp,by unfold isI64 yesP noV;simp,by simp [yesP,noV],by simp [yesP,noV,okVs]⟩,by unfold isI64 yesP;simp,by simp [yesP],by simp [yesP,okPs]⟩
theorem spanR {w:World} {A:Nat→Prop} (lo hi:Int):RT w A (spanT lo hi) nilTA:=RT_nil rfl rfl rfl rfl rfl rfl
theorem numR {w:World} {A:Nat→Prop} (n:Int):RT w A (numT n) nilTA:=RT_nil rfl rfl rfl rfl rfl rfl
theorem lessR {w:World} {A:Nat→Prop} (n:Int):RP w A (lessP n) nilPA:=RP_nil rfl rfl
theorem yesR {w:World} {A:Nat→Prop}:RP w A yesP nilPA:=RP_nil rfl rfl
theorem size_span (lo hi:Int):sizeT (spanT lo hi)≤1099511627776:=by simp [spanT,sizeT,sizeV,sizeVs,sizeP,sizePs,sizeTs,noV,noP]
theorem size_num (n:Int):sizeT (numT n)≤1099511627776:=by simp [numT,sizeT,sizeV,sizeVs,sizeP,sizePs,sizeTs,noV,noP]
theorem size_less (n:Int):sizeP (lessP n)≤1099511627776:=by simp [lessP,sizeV,sizeVs,sizeP,sizePs]
theorem size_yes:sizeP yesP≤1099511627776:=by simp [yesP,noV,sizeV,sizeVs,sizeP,sizePs]
end Go.Proofs.YtclphfojkggcpaaGreat
