/- Part 3. -/
import Derived.ProofKit
import Derived.Test.YtkdffbdnjfgpeaaGreatY0
set_option linter.all false
namespace Go.Proofs.YtkdffbdnjfgpeaaGreat
open Go Go.RowKit
structure But (c B:Nat) (w w':World):Prop where
 os:w'.os=w.os
 tape:w'.tape=w.tape
 output:w'.output=w.output
 size:w.heap.size≤w'.heap.size
 block:∀k,k < B→k≠c→w'.heap[k]? =w.heap[k]?
theorem But.refl (c B:Nat) (w:World):But c B w w:=⟨rfl,rfl,rfl,Nat.le_refl _,fun _ _ _=>rfl⟩
theorem But.trans {c B:Nat} {a b d:World} (h:But c B a b) (k:But c B b d):But c B a d:=
 ⟨k.os.trans h.os,k.tape.trans h.tape,k.output.trans h.output,Nat.le_trans h.size k.size,fun i hi hc=>(k.block i hi hc).trans (h.block i hi hc)⟩
theorem But.mono {c B B':Nat} {w w':World} (h:But c B w w') (hB:B'≤B):But c B' w w':=⟨h.os,h.tape,h.output,h.size,fun k hk hc=>h.block k (Nat.lt_of_lt_of_le hk hB) hc⟩
theorem But.drew {c B:Nat} {a w:World} (h:But c B a w):But c B a w.drew:=⟨h.os,h.tape,h.output,h.size,h.block⟩
theorem But.of {c B:Nat} {w w':World} (h:Below B w w'):But c B w w':=⟨h.os,h.tape,h.output,h.size,fun k hk _=>h.block k hk⟩
abbrev Zue:=@But.of
theorem But.alloc {c B:Nat} {a w:World} (h:But c B a w) (hB:B≤w.heap.size) (o:Obj):But c B a (w.alloc o):=
 h.trans (Zue (Below.alloc (Below.refl B w) hB o))
theorem But.setCell {c B:Nat} {a w:World} (h:But c B a w) {p:Addr} (hp:B≤p.block) (u:Value):But c B a (w.setCell p u):=
 h.trans (Zue (Below.setCell (Below.refl B w) hp u))
theorem But.setOwn {c B:Nat} {a w:World} (h:But c B a w) (o:Nat) (u:Value):But c B a (w.setCell ⟨c,o,none⟩ u):=
 h.trans ⟨rfl,rfl,rfl,by simp [World.setCell],fun k hk hc=>Below.heap_setCell _ _ _ _ hc⟩
theorem But.cell {c B:Nat} {w w':World} (h:But c B w w') {p:Addr} (hp:p.block < B) (hc:p.block≠c):w'.cell? p=w.cell? p:=World.cell?_of_block (w:=w) (h.block p.block hp hc)
theorem But.frozen {c B:Nat} {w w':World} (h:But c B w w') {p:Addr} (hp:p.block < B) (hc:p.block≠c):w'.frozen? p=w.frozen? p:=World.frozen?_of_block (w:=w) (h.block p.block hp hc)
theorem But.ag {c B:Nat} {w w':World} (h:But c B w w') {p:Addr} {v:Value} (hp:p.block < B) (hc:p.block≠c) (hv:w.cell? p=some v):w'.cell? p=some v∧w'.frozen? p=w.frozen? p:=⟨(h.cell hp hc).trans hv,h.frozen hp hc⟩
theorem But.below {c B:Nat} {w w':World} (h:But c B w w') (hc:B≤c):Below B w w':=⟨h.os,h.tape,h.output,h.size,fun k hk=>h.block k hk om⟩
theorem Agree.but {c:Nat} {w w':World} (h:But c w.heap.size w w'):Agree (fun b=>b≠c) w w':=fun _ _ hA hc=>⟨(h.cell (World.block_lt_of_cell? _ _ hc) hA).trans hc,h.frozen (World.block_lt_of_cell? _ _ hc) hA⟩
abbrev Zt0:=@Agree.but
theorem ZE {c B:Nat} {W w1:World} (hb:But c B W w1):(∀b o,b < B→¬b=c→w1.cell? ⟨b,o,none⟩=W.cell? ⟨b,o,none⟩)∧(∀b o,b < B→¬b=c→w1.frozen? ⟨b,o,none⟩=W.frozen? ⟨b,o,none⟩):=
 ⟨fun b o h k=>hb.cell (p:=⟨b,o,none⟩) h k,fun b o h k=>hb.frozen (p:=⟨b,o,none⟩) h k⟩
theorem But.m {c B B':Nat} {w w':World} (h:But c B w w') (k:B'≤B:=by first|omega|(simp;done)|(simp;omega)):But c B' w w':=But.mono h k
theorem But.a {c B:Nat} {w w':World} (h:But c B w w') (o:Obj) (k:B≤w'.heap.size:=by first|omega|(simp;done)|(simp;omega)):But c B w (w'.alloc o):=But.alloc h k o
theorem But.s {c B:Nat} {w w':World} (h:But c B w w') (u:Value) {p:Addr} (k:B≤p.block:=by first|omega|(simp;done)|(simp;omega)):But c B w (w'.setCell p u):=But.setCell h k u
theorem But.z {c B:Nat} {w w':World} (h:But c B w w':=by repeat (first|exact .refl _ _ _|assumption|refine .trans ?_ (.m (by assumption))|refine .trans ?_ (.of (.m (by assumption)))|refine .drew ?_|refine .a ?_ _|refine .setOwn ?_ _ _|refine .s ?_ _)):But c B w w':=h
abbrev Zt1:=@But.z
theorem But.r {c B:Nat} {w w':World} (h:But c B w w':=by with_reducible repeat (first|exact .refl _ _ _|assumption|refine .trans ?_ (.m (by assumption))|refine .trans ?_ (.of (.m (by assumption)))|refine .drew ?_|refine .a ?_ _|refine .setOwn ?_ _ _|refine .s ?_ _)):But c B w w':=h
abbrev ZxG:=@But.r
section
def Qq (n:Nat):Nat:=if n=0 then 0 else Nat.log2 n+1
theorem Zcx (n:Nat) (h:n≠0):Qq n=1+Qq (n / 2):=by
 unfold Qq
 rw [if_neg h,Nat.log2_def]
 split
 ·rw [if_neg om];omega
 rw [if_pos om]
theorem Wq (n:Nat):∀s,n / 2 ^ s≠0→Qq n=s+Qq (n / 2 ^ s)
 | 0,_=>sm
 | s+1,h=>by
  have e:n / 2 ^ (s+1)=n / 2 ^ s / 2:=by rw [Nat.pow_succ,Nat.div_div_eq_div_mul]
  rw [e] at h ⊢
  have h2:n / 2 ^ s≠0:=by intro h3;rw [h3] at h;exact h sm
  rw [Wq n s h2,Zcx _ h2]
  omega
theorem Zbv (n:Nat) (h:n < 2):Qq n=n:=by
 rcases Nat.lt_or_ge n 1 with h1|h1
 ·obtain rfl:n=0:=om
  simp [Qq]
 obtain rfl:n=1:=om
 decide
end
theorem ZO {w b c0 c1 c2 c3 c4 c5 c6 c7 c8 c9 ca cb cc cd ce}:At w b 0 [c0,c1,c2,c3,c4,c5,c6,c7,c8,c9,ca,cb,cc,cd,ce]↔w.cell? ⟨b,0,none⟩=some c0∧w.cell? ⟨b,1,none⟩=some c1∧w.cell? ⟨b,2,none⟩=some c2 ∧
  w.cell? ⟨b,3,none⟩=some c3∧w.cell? ⟨b,4,none⟩=some c4∧w.cell? ⟨b,5,none⟩=some c5∧w.cell? ⟨b,6,none⟩=some c6∧w.cell? ⟨b,7,none⟩=some c7∧w.cell? ⟨b,8,none⟩=some c8 ∧
  w.cell? ⟨b,9,none⟩=some c9∧w.cell? ⟨b,10,none⟩=some ca∧w.cell? ⟨b,11,none⟩=some cb∧w.cell? ⟨b,12,none⟩=some cc∧w.cell? ⟨b,13,none⟩=some cd∧w.cell? ⟨b,14,none⟩=some ce:=by
 simp only [At,Nat.add_assoc,Nat.reduceAdd,and_true,Nat.zero_add]
theorem ZT {P:Program} {c:Code} {Q:Exit→Act→World→Prop} {a:Act} {W:World} (F:World→Prop) (hF:F W) (h:∀W1,F W1→c.wp P Q a W1):c.wp P Q a W:=h W hF
theorem ZxI {α:Type} (a0 a1 a2 a3 a4 a5 a6 a7 a8 a9 a10 a11 a12 a13 a14 a15:α) (l:List α) (n:Nat) (v:α):(a0::a1::a2::a3::a4::a5::a6::a7::a8::a9::a10::a11::a12::a13::a14::a15::l).set (n+16) v=a0::a1::a2::a3::a4::a5::a6::a7::a8::a9::a10::a11::a12::a13::a14::a15::l.set n v:=rfl
def RL (w:World) (A:Nat→Prop) (l:List Nat) (a:Option Addr):Prop:=
 l=[]∨∃b o,a=some ⟨b,o,none⟩∧A b∧∀i (h:i < l.length),w.cell? ⟨b,o+i,none⟩=some (.int .u64 (l[i]:Int))
theorem RL.nil (w:World) (A:Nat→Prop) (a:Option Addr):RL w A [] a:=.inl rfl
theorem RL.ext {w w':World} {A:Nat→Prop} (h:Agree A w w') {l:List Nat} {a:Option Addr} (hx:RL w A l a):RL w' A l a:=
 hx.elim .inl fun ⟨b,o,e,hA,hc⟩=>.inr ⟨b,o,e,hA,fun i hi=>(h _ _ hA (hc i hi)).1⟩
abbrev Zt6:=@RL.ext
theorem RL.get {w:World} {A:Nat→Prop} {l:List Nat} {a:Option Addr} (hx:RL w A l a) (i:Nat) (hi:i < l.length):∃b o,a=some ⟨b,o,none⟩∧A b∧b < w.heap.size∧w.cell? ⟨b,o+i,none⟩=some (.int .u64 (l[i]:Int)):=by
 rcases hx with rfl|⟨b,o,e,hA,hc⟩
 ·exact absurd hi sm
 exact ⟨b,o,e,hA,World.block_lt_of_cell? _ _ (hc i hi),hc i hi⟩
theorem RL.mono {w:World} {A A':Nat→Prop} (h:∀b,A b→b < w.heap.size→A' b) {l:List Nat} {a:Option Addr} (hx:RL w A l a):RL w A' l a:=by
 cases l with
 | nil=>exact .inl rfl
 | cons x l=>
  obtain ⟨b,o,e,hA,hb, -⟩:=hx.get 0 sm
  rcases hx with hx|⟨b',o',e',hA',hc⟩
  ·cases hx
  rw [e] at e'
  cases e'
  exact .inr ⟨b,o,e,h b hA hb,hc⟩
abbrev Zt7:=@RL.mono
theorem RL.take {w:World} {A:Nat→Prop} {l:List Nat} {a:Option Addr} (hx:RL w A l a) (k:Nat):RL w A (l.take k) a:=
 hx.elim (fun h=>.inl (by rw [h,List.take_nil])) fun ⟨b,o,e,hA,hc⟩=>.inr ⟨b,o,e,hA,fun i hi=>by
  rw [List.length_take] at hi
  rw [List.getElem_take]
  exact hc i om⟩
def W7 (x:Nat):List Nat:=if x=0 then [] else [x]
theorem Zpu:W7 0=[]:=rfl
theorem W8 {x:Nat} (h:0 < x):W7 x=[x]:=if_neg om
theorem Zr2 (x:Nat):(W7 x).length≤1:=by unfold W7;split<;>simp
theorem Zrn (x:Nat):(W7 x).length≤1048576:=by have:=Zr2 x;omega
def Zrg (l r:List Nat):Prop:=r=l.take r.length∧(∀j (h:j < l.length),r.length≤j→l[j]=0)∧(r≠[]→r.getLast? ≠some 0)
theorem ZqX (l:List Nat) (k:Nat) (hk:k≤l.length) (hz:∀j (h:j < l.length),k≤j→l[j]=0) (hl:k=0∨∃h:k - 1 < l.length,l[k - 1]≠0):Zrg l (l.take k):=by
 have hk:(l.take k).length=k:=by rw [List.length_take];omega
 refine ⟨by rw [hk],fun j h hj=>hz j h (by rw [hk] at hj;exact hj),fun hne=>?_⟩
 rcases hl with h0|⟨h,h1⟩
 ·rw [h0] at hne;exact absurd rfl hne
 rw [List.getLast?_eq_getElem?,hk,List.getElem?_take,if_pos (by have:0 < k:=Nat.pos_of_ne_zero (fun e=>by rw [e] at hne;exact absurd rfl hne);omega),List.getElem?_eq_getElem h]
 simpa using h1
def Zrx (l:List Nat) (x:Nat):Prop:=l=[]∧x=0∨∃n,l=x::List.replicate n 0
theorem Zp6 (x:Nat):Zrx [x] x:=.inr ⟨0,rfl⟩
theorem ZqT (x:Nat):Zrx (W7 x) x:=by
 rcases Nat.eq_zero_or_pos x with rfl|h
 ·exact .inl ⟨rfl,rfl⟩
 rw [W8 h];exact Zp6 x
def One (l:List Nat) (x:Nat):Prop:=l=[]∧x=0∨l=[x]
theorem QT (x:Nat):One (W7 x) x:=by
 rcases Nat.eq_zero_or_pos x with rfl|h
 ·exact .inl ⟨rfl,rfl⟩
 exact .inr (W8 h)
theorem ZqI {l r:List Nat} {x:Nat} (h:Zrg l r) (hl:Zrx l x):r=W7 x:=by
 obtain ⟨h1,h2,h3⟩:=h
 have hlen:r.length≤l.length:=by rw [h1,List.length_take];omega
 rcases hl with ⟨rfl,rfl⟩|⟨n,hy⟩
 ·have:r=[]:=List.length_eq_zero_iff.1 (by simpa using hlen)
  rw [this];rfl
 subst hy
 cases r with
 | nil=>
  have:=h2 0 sm sm
  simp at this
  rw [this];rfl
 | cons a r=>
  simp only [List.length_cons,List.take_succ_cons,List.cons.injEq] at h1
  obtain ⟨rfl,h4⟩:=h1
  cases r with
  | nil=>
   have:a≠0:=fun e=>h3 sm (by simp [e])
   rw [W8 om]
  | cons b r=>
   exfalso
   have hm:∀z∈b::r,z=0:=fun z hz'=>by
    have:z∈List.replicate n 0:=by rw [h4] at hz';exact List.mem_of_mem_take hz'
    exact (List.mem_replicate.1 this).2
   refine h3 sm ?_
   rw [List.getLast?_cons_cons,List.getLast?_eq_some_getLast sm]
   exact congrArg some (hm _ (List.getLast_mem _))
theorem Ztr (z:Nat):((z:Int) % 2==1)=(z % 2==1):=by
 rw [Bool.eq_iff_iff];simp;omega
def Zpw (a b:Nat):Nat×Nat:=(a / Nat.gcd a b,b / Nat.gcd a b)
theorem ZxJ {a b:Nat} (hb:0 < b):∃g x y,0 < g∧a=g*x∧b=g*y∧Nat.gcd x y=1∧0 < y∧Zpw a b=(x,y):=by
 have hg:0 < Nat.gcd a b:=Nat.gcd_pos_of_pos_right _ hb
 have ha:=Nat.div_mul_cancel (Nat.gcd_dvd_left a b)
 have hb':=Nat.div_mul_cancel (Nat.gcd_dvd_right a b)
 refine ⟨Nat.gcd a b,a / Nat.gcd a b,b / Nat.gcd a b,hg,by rw [Nat.mul_comm];exact ha.symm,by rw [Nat.mul_comm];exact hb'.symm,?_,Nat.div_pos (Nat.le_of_dvd hb (Nat.gcd_dvd_right a b)) hg,rfl⟩
 exact Nat.coprime_div_gcd_div_gcd hg
theorem ZxN {a b c d:Nat} (hb:0 < b) (hd:0 < d):Zpw a b=Zpw c d↔a*d=c*b:=by
 obtain ⟨g,x,y,hg,rfl,rfl,hxy,hy,e1⟩:=ZxJ (a:=a) hb
 obtain ⟨h,u,v,hh,rfl,rfl,huv,hv,e2⟩:=ZxJ (a:=c) hd
 rw [e1,e2]
 constructor
 ·intro e
  cases e
  rw [Nat.mul_mul_mul_comm,Nat.mul_mul_mul_comm h,Nat.mul_comm g h]
 intro e
 have e3:x*v=u*y:=by
  rw [Nat.mul_mul_mul_comm,Nat.mul_mul_mul_comm h u g y,Nat.mul_comm g h] at e
  exact Nat.eq_of_mul_eq_mul_left (Nat.mul_pos hh hg) e
 have h1:y ∣ v:=Nat.Coprime.dvd_of_dvd_mul_left (show Nat.gcd y x=1 by rw [Nat.gcd_comm];exact hxy) (show y ∣ x*v by rw [e3];exact Nat.dvd_mul_left _ _)
 have h2:v ∣ y:=Nat.Coprime.dvd_of_dvd_mul_left (show Nat.gcd v u=1 by rw [Nat.gcd_comm];exact huv) (show v ∣ u*y by rw [←e3];exact Nat.dvd_mul_left _ _)
 have hyv:y=v:=Nat.dvd_antisymm h1 h2
 subst hyv
 rw [Nat.eq_of_mul_eq_mul_right hy e3]
theorem ZxV {a b:Nat} (hb:0 < b):Zpw (Zpw a b).1 (Zpw a b).2=Zpw a b:=by
 obtain ⟨g,x,y,hg,rfl,rfl,hxy,hy,e1⟩:=ZxJ (a:=a) hb
 rw [e1]
 unfold Zpw
 rw [hxy,Nat.div_one,Nat.div_one]
theorem Zx3 {a b:Nat} (hb:0 < b):0 < (Zpw a b).2:=by
 obtain ⟨g,x,y,hg,rfl,rfl,hxy,hy,e1⟩:=ZxJ (a:=a) hb
 rw [e1];exact hy
theorem Zx5 {a b:Nat}:(Zpw a b).1≤a∧(Zpw a b).2≤b:=⟨Nat.div_le_self _ _,Nat.div_le_self _ _⟩
theorem Zx2 {a b c d:Nat} (hb:0 < b) (hd:0 < d):Zpw ((Zpw a b).1*(Zpw c d).2+(Zpw c d).1*(Zpw a b).2) ((Zpw a b).2*(Zpw c d).2)=Zpw (a*d+c*b) (b*d):=by
 obtain ⟨g,x,y,hg,rfl,rfl,hxy,hy,e1⟩:=ZxJ (a:=a) hb
 obtain ⟨h,u,v,hh,rfl,rfl,huv,hv,e2⟩:=ZxJ (a:=c) hd
 rw [e1,e2]
 refine (ZxN (Nat.mul_pos hy hv) (Nat.mul_pos hb hd)).2 ?_
 show (x*v+u*y)*(g*y*(h*v))=(g*x*(h*v)+h*u*(g*y))*(y*v)
 have e3:g*x*(h*v)+h*u*(g*y)=g*h*(x*v+u*y):=by
  rw [Nat.mul_add,Nat.mul_mul_mul_comm,Nat.mul_mul_mul_comm h u,Nat.mul_comm h g]
 rw [e3,Nat.mul_mul_mul_comm g y h v,←Nat.mul_assoc,Nat.mul_comm (x*v+u*y) (g*h)]
theorem ZxU {a c b:Nat} (hb:0 < b):Zpw (a*b+c*b) (b*b)=Zpw (a+c) b:=
 (ZxN (Nat.mul_pos hb hb) hb).2 (by rw [←Nat.add_mul,Nat.mul_assoc])
section
theorem ZsT {n:Nat} (h:0 < n):n < 2 ^ Qq n:=by
 unfold Qq
 rw [if_neg om]
 exact Nat.lt_log2_self
theorem ZrL {n:Nat} (h:n < 65536):Qq n≤16:=by
 unfold Qq
 split
 ·omega
 have:Nat.log2 n < 16:=(Nat.log2_lt om).2 (by simpa using h)
 omega
theorem Zsu {n:Nat} (h:0 < n):1≤Qq n:=by
 unfold Qq
 rw [if_neg om]
 omega
theorem Zq1 (x k:Nat):x / 2 % 2 ^ (k+1)=x / 2 % 2 ^ k+2 ^ k*(x / 2 ^ (k+1) % 2):=by
 rw [Nat.mod_pow_succ,Nat.div_div_eq_div_mul,Nat.pow_succ,Nat.mul_comm 2 (2 ^ k)]
theorem ZsO {x k:Nat} (h:(x / 2 ^ (k+1) % 2==1)=true):x / 2 % 2 ^ (k+1)=x / 2 % 2 ^ k+2 ^ k:=by
 rw [Zq1,beq_iff_eq.1 h,Nat.mul_one]
theorem Zsq {x k:Nat} (h:(x / 2 ^ (k+1) % 2==1)=false):x / 2 % 2 ^ (k+1)=x / 2 % 2 ^ k:=by
 have:x / 2 ^ (k+1) % 2=0:=by have:=beq_eq_false_iff_ne.1 h;omega
 rw [Zq1,this,Nat.mul_zero,Nat.add_zero]
theorem Zsp {x k:Nat} (h:Qq x=k+1) (h0:0 < x):x / 2 % 2 ^ k=x / 2:=by
 have:=ZsT h0
 rw [h,Nat.pow_succ] at this
 exact Nat.mod_eq_of_lt om
theorem ZrP {k:Nat} (h:k≤15):2 ^ k≤32768:=by
 have:=Nat.pow_le_pow_right (n:=2) om h
 simpa using this
end
def noV:GV:=⟨0,0,[]⟩
def noP:GP:=⟨0,noV,0,[]⟩
def VZ:TA:=⟨none,0,none,0,none,0,none,0,none,0,none,0⟩
def Yh (lo hi:Int):GT:=⟨2,noV,[],lo,hi,[],noP,[]⟩
def ZpB (n:Int):GT:=⟨1,⟨1,n,[]⟩,[],0,0,[],noP,[]⟩
theorem Zj9 {w:World} {A:Nat→Prop} {t:GT} {m:TA} (h1:t.v.l=[]) (h2:t.vs=[]) (h3:t.w=[]) (h4:t.p.v.l=[]) (h5:t.p.a=[]) (h6:t.a=[]):RT w A t m:=by
 rw [Zo,Zl,Wn,Zl,h1,h2,h3,h4,h5,h6]
 simp only [RVs,RIs,RPs,RTs,and_self]
theorem Zj8 {w:World} {A:Nat→Prop} {t:GP} {m:PA} (h1:t.v.l=[]) (h2:t.a=[]):RP w A t m:=by
 rw [Wn,Zl,h1,h2]
 simp only [RVs,RPs,and_self]
theorem ZaW (lo hi:Int) (h:Zv lo) (h2:Zv hi):okT (Yh lo hi):=by
 refine Ze.2 ⟨by unfold Yg Yh;simp,ZA.2 ⟨by unfold Yg Yh noV;simp,by unfold Zv Yh noV;simp,by simp [Yh,noV],by simp [Yh,noV,okVs]⟩,⟨by simp [Yh],by simp [Yh,okVs]⟩,h,h2,⟨by simp [Yh],by simp [Yh,okIs]⟩,Y3.2 ⟨by unfold Yg Yh noP;simp,ZA.2 ⟨by unfold Yg Yh noP noV;simp,by unfold Zv Yh noP noV;simp,by simp [Yh,noP,noV],by simp [Yh,noP,noV,okVs]⟩,by unfold Zv Yh noP;simp,by simp [Yh,noP],by simp [Yh,noP,okPs]⟩,by simp [Yh],by simp [Yh,okTs]⟩
theorem Zsz (n:Int) (h:Zv n):okT (ZpB n):=by
 refine Ze.2 ⟨by unfold Yg ZpB;simp,ZA.2 ⟨by unfold Yg ZpB;simp,h,by simp [ZpB],by simp [ZpB,okVs]⟩,⟨by simp [ZpB],by simp [ZpB,okVs]⟩,by unfold Zv ZpB;simp,by unfold Zv ZpB;simp,⟨by simp [ZpB],by simp [ZpB,okIs]⟩,Y3.2 ⟨by unfold Yg ZpB noP;simp,ZA.2 ⟨by unfold Yg ZpB noP noV;simp,by unfold Zv ZpB noP noV;simp,by simp [ZpB,noP,noV],by simp [ZpB,noP,noV,okVs]⟩,by unfold Zv ZpB noP;simp,by simp [ZpB,noP],by simp [ZpB,noP,okPs]⟩,by simp [ZpB],by simp [ZpB,okTs]⟩
theorem Zgy {w:World} {A:Nat→Prop} (lo hi:Int):RT w A (Yh lo hi) VZ:=Zj9 rfl rfl rfl rfl rfl rfl
theorem Zts {w:World} {A:Nat→Prop} (n:Int):RT w A (ZpB n) VZ:=Zj9 rfl rfl rfl rfl rfl rfl
theorem J4 (lo hi:Int):Zb (Yh lo hi)≤1099511627776:=by simp [Yh,Zb,Zg,Zi,Zm,ZY,Z5,noV,noP]
theorem Zru (n:Int):Zb (ZpB n)≤1099511627776:=by simp [ZpB,Zb,Zg,Zi,Zm,ZY,Z5,noV,noP]
end Go.Proofs.YtkdffbdnjfgpeaaGreat
