/- Part 61. -/
import Derived.Test.YtkdffbdnjfgpeaaGreatY42
import Derived.Test.YtkdffbdnjfgpeaaGreatY61
set_option linter.all false
namespace Go.Proofs.YtkdffbdnjfgpeaaGreat
open Go Go.RowKit Go.Proofs.Tryz
theorem Zuq {n k n1 c:Int} (hc:0≤c) (h:Zu n k=some n1):Zu (n - c) k=some (n1 - c):=by
 unfold Zu at h ⊢
 split at h
 ·cases h
 cases h
 rw [if_neg om]
 congr 1
 omega
theorem ZuI {k c:Int} (hc:0≤c):∀(l:List GV) (d n D n':Int),YB k l d n=some (D,n')→YB k l d (n - c)=some (D,n' - c)
 | [],d,n,D,n',h=>by
  simp only [YB,Option.some.injEq,Prod.mk.injEq] at h ⊢
  omega
 | x::l,d,n,D,n',h=>by
  rw [YB] at h ⊢
  cases hs:Zu n (k*(Zg x:Int)) with
  | none=>rw [hs] at h;cases h
  | some n1=>
   rw [hs] at h
   rw [Zuq hc hs]
   exact ZuI hc l _ _ _ _ h
theorem Zuu {g g':Int→GT→Option (Int×Int)} {c:Int} (hg:∀x n d n',g n x=some (d,n')→g' (n - c) x=some (d,n' - c)):∀(l:List GT) (d n D n':Int),Zx g l d n=some (D,n')→Zx g' l d (n - c)=some (D,n' - c)
 | [],d,n,D,n',h=>by
  simp only [Zx,Option.some.injEq,Prod.mk.injEq] at h ⊢
  omega
 | x::l,d,n,D,n',h=>by
  rw [Zx] at h ⊢
  cases hx:g n x with
  | none=>rw [hx] at h;cases h
  | some y=>
   obtain ⟨d1,n1⟩:=y
   rw [hx] at h
   rw [hg _ _ _ _ hx]
   exact Zuu hg l _ _ _ _ h
theorem ZuU {g g':GT→Env→Int→Int→Option (Int×Int)} {c:Int} (hc:0≤c) (hg:∀x e k n d n',g x e k n=some (d,n')→g' x e k (n - c)=some (d,n' - c)) (t:GT) (m:Int) (up:Env) (k n d n':Int)
  (h:Xx g t m up k n=some (d,n')):Xx g' t m up k (n - c)=some (d,n' - c):=by
 unfold Xx at h ⊢
 cases hs:Zu n k with
 | none=>rw [hs] at h;cases h
 | some n1=>
  rw [hs] at h
  rw [Zuq hc hs]
  dsimp only at h ⊢
  split at h
  ·rename_i hm
   rw [if_pos hm]
   cases ha:t.a[0]? with
   | none=>rw [ha] at h;cases h
   | some x=>rw [ha] at h;exact hg _ _ _ _ _ _ h
  rename_i hm
  rw [if_neg hm]
  cases ha:t.a[1]? with
  | none=>rw [ha] at h;cases h
  | some x=>rw [ha] at h;exact hg _ _ _ _ _ _ h
theorem ZuX (f:Nat) (t:GT) (e:Env) (k n:Int):wkT (f+1) t e k n =
  if t.k=1 then (match Zu n (k*Zg t.v) with|none=>none|some n'=>some (Yx t.v,n'))
  else if t.k=11 then (match e with|[]=>none|(t',m)::up=>Xx (wkT f) t' m up k n)
  else if t.k=10 then Xx (wkT f) t t.lo e k n
  else match Zu n k with
   | none=>none
   | some n1=>
    if t.k=2 then some (1,n1)
    else if t.k=4 then YB k t.vs 0 n1
    else if t.k=6 then (match Zx (fun n x=>wkT f x e (k*max 1 t.hi) n) t.a 0 n1 with|none=>none|some (d,n2)=>if t.hi=0 then some (1,n2) else some (1+d,n2))
    else if t.k=3∨t.k=9 then Zx (fun n x=>wkT f x e k n) t.a 0 n1
    else ZcE (Zx (fun n x=>wkT f x e k n) t.a 0 n1):=by
 cases e<;>rfl
theorem ZuW {c:Int} (hc:0≤c):∀(f:Nat) (t:GT) (e:Env) (k n d n':Int),wkT f t e k n=some (d,n')→wkT (f+1) t e k (n - c)=some (d,n' - c)
 | 0,_,_,_,_,_,_,h=>by simp [wkT] at h
 | f+1,t,e,k,n,d,n',h=>by
  have ih:=ZuW hc f
  rw [ZuX] at h ⊢
  split at h
  ·rename_i h1
   rw [if_pos h1]
   cases hs:Zu n (k*(Zg t.v:Int)) with
   | none=>rw [hs] at h;cases h
   | some n1=>
    rw [hs] at h
    rw [Zuq hc hs]
    cases h
    rfl
  rename_i h1
  rw [if_neg h1]
  split at h
  ·rename_i h2
   rw [if_pos h2]
   cases e with
   | nil=>cases h
   | cons p up=>exact ZuU hc (fun x e k n d n' h=>ih x e k n d n' h) _ _ _ _ _ _ _ h
  rename_i h2
  rw [if_neg h2]
  split at h
  ·rename_i h3
   rw [if_pos h3]
   exact ZuU hc (fun x e k n d n' h=>ih x e k n d n' h) _ _ _ _ _ _ _ h
  rename_i h3
  rw [if_neg h3]
  cases hs:Zu n k with
  | none=>rw [hs] at h;cases h
  | some n1=>
   rw [hs] at h
   rw [Zuq hc hs]
   dsimp only at h ⊢
   split at h
   ·rename_i h4;rw [if_pos h4];cases h;rfl
   rename_i h4
   rw [if_neg h4]
   split at h
   ·rename_i h5;rw [if_pos h5];exact ZuI hc _ _ _ _ _ h
   rename_i h5
   rw [if_neg h5]
   split at h
   ·rename_i h6
    rw [if_pos h6]
    cases hf:Zx (fun n x=>wkT f x e (k*max 1 t.hi) n) t.a 0 n1 with
    | none=>rw [hf] at h;cases h
    | some y=>
     obtain ⟨d1,n2⟩:=y
     rw [hf] at h
     rw [Zuu (g':=fun n x=>wkT (f+1) x e (k*max 1 t.hi) n) (fun x n d n' h=>ih x e _ n d n' h) _ _ _ _ _ hf]
     dsimp only at h ⊢
     split at h
     ·rename_i h7;rw [if_pos h7];cases h;rfl
     rename_i h7;rw [if_neg h7];cases h;rfl
   rename_i h6
   rw [if_neg h6]
   split at h
   ·rename_i h7
    rw [if_pos h7]
    exact Zuu (fun x n d n' h=>ih x e _ n d n' h) _ _ _ _ _ h
   rename_i h7
   rw [if_neg h7]
   cases hf:Zx (fun n x=>wkT f x e k n) t.a 0 n1 with
   | none=>rw [hf] at h;cases h
   | some y=>
    obtain ⟨d1,n2⟩:=y
    rw [hf] at h
    rw [Zuu (g':=fun n x=>wkT (f+1) x e k n) (fun x n d n' h=>ih x e _ n d n' h) _ _ _ _ _ hf]
    cases h
    rfl
theorem Zu1 (mo:Int):∀(N:Nat) (t:GT) (pl pl' d d':Int) (inn:Bool),Zb t≤N→d'≤d→(ZF pl d mo inn t).2=0→(ZF pl' d' mo inn t).2=0
 | 0,t,_,_,_,_,_,hN,_,_=>by have:=X8 t;omega
 | N+1,t,pl,pl',d,d',inn,hN,hd,h=>by
  have ih:=Zu1 mo N
  have key:∀(l:List GT) (k:Int) (i:Nat) (pl pl':Int),Z5 l≤N→(ZH pl (d+1) mo inn k i l).2=0→(ZH pl' (d'+1) mo inn k i l).2=0:=by
   intro l
   induction l with
   | nil=>intro k i pl pl' _ _;rfl
   | cons x l ihl=>
    intro k i pl pl' hs hx
    simp only [Z5] at hs
    rw [ZH] at hx ⊢
    split at hx
    ·rename_i h0;exact absurd hx h0
    rename_i h0
    have h1:=ih x pl pl' (d+1) (d'+1) (inn||ZU k i) om om (by simpa using h0)
    rw [if_neg (by simp [h1])]
    exact ihl _ _ _ _ om hx
  have hse:=Zq t
  rw [Zgg] at h ⊢
  split at h
  ·simp at h
  rename_i h1
  rw [if_neg om]
  split at h
  ·rename_i h2;exact absurd h h2
  rename_i h2
  rw [if_neg h2]
  split at h
  ·simp at h
  rename_i h3
  rw [if_neg h3]
  exact key _ _ _ _ _ om h
theorem Zus {β:Type} {g g':GT→Nat→Res β}:∀(l:List GT) (i:Nat),(∀x∈l,∀j,g x j=g' x j)→Xt g l i=Xt g' l i
 | [],_,_=>rfl
 | x::l,i,h=>by
  rw [Xt,Xt,h x (List.mem_cons_self ..)]
  congr 1
  funext v j
  rw [Zus l j fun y hy=>h y (List.mem_cons_of_mem _ hy)]
theorem Zvg {β:Type} {g g':Nat→Res β} (h:∀j,g j=g' j):∀(n i:Nat),QF g n i=QF g' n i:=fun n i=>by
 rw [show g=g' from funext h]
theorem ZuF {β:Type} {g g':GT→Nat→Res β} (l:List GT) (n i:Nat) (h:∀x∈l,∀j,g x j=g' x j):atD g l n i=atD g' l n i:=by
 unfold atD
 cases hx:l[n]? with
 | none=>rfl
 | some x=>exact h x (List.mem_of_getElem? hx) i
theorem ZuN {g g':GT→Env→Nat→Res GV} (t:GT) (m:Int) (up:Env) (i:Nat) (h0:m=0→∀x,t.a[0]? =some x→g x up i=g' x up i) (h1:m≠0→∀x,t.a[1]? =some x→g x ((t,m - 1)::up) i=g' x ((t,m - 1)::up) i):
  Wd g t m up i=Wd g' t m up i:=by
 unfold Wd
 split
 ·rename_i hm
  unfold atD
  cases hx:t.a[0]? with
  | none=>rfl
  | some x=>exact h0 hm x hx
 rename_i hm
 unfold atD
 cases hx:t.a[1]? with
 | none=>rfl
 | some x=>exact h1 hm x hx
theorem ZuV {g:GT→Env→Int→Int→Option (Int×Int)} {t:GT} {m:Int} {up:Env} {k n:Int} (h:Xx g t m up k n≠none):(m=0→∀x,t.a[0]? =some x→∃k n,g x up k n≠none)∧(m≠0→∀x,t.a[1]? =some x→∃k n,g x ((t,m - 1)::up) k n≠none):=by
 unfold Xx at h
 cases hs:Zu n k with
 | none=>rw [hs] at h;exact absurd rfl h
 | some n1=>
  rw [hs] at h
  dsimp only at h
  constructor
  ·intro hm x hx
   rw [if_pos hm,hx] at h
   exact ⟨k,n1,h⟩
  intro hm x hx
  rw [if_neg hm,hx] at h
  exact ⟨k,n1,h⟩
theorem ZuC (s:ByteArray) (S:Nat):∀(f:Nat) (t:GT) (e:Env) (i:Nat),Zp (!e.isEmpty) t→okT t→Zb t≤S→Ye S e→(∃k n,wkT f t e k n≠none)→Zd s (f+1) t e i=Zd s f t e i
 | 0,_,_,_,_,_,_,_,⟨k,n,h⟩=>by simp [wkT] at h
 | f+1,t,e,i,hg,ox,hs,he,hw=>by
  have ih:=ZuC s S f
  have hn:=(Zk.1 hg).1
  have harg:(¬t.k=1∧¬t.k=11∧¬t.k=10∧¬t.k=2∧¬t.k=4)→∀x∈t.a,∀j,Zd s (f+1) x e j=Zd s f x e j:=fun hk x hx j=>
   ih x e j (YG hg hk.2.2.1 hx) (Jl ox hx) (by have:=Q6 hx;omega) he (ZaX hk hw x hx)
  by_cases h1:t.k=1
  ·rw [ZaN _ _ _ _ _ h1,ZaN _ _ _ _ _ h1]
  by_cases h2:t.k=2
  ·rw [ZaO _ _ _ _ _ h2,ZaO _ _ _ _ _ h2]
  by_cases h3:t.k=3
  ·rw [ZaP _ _ _ _ _ h3,ZaP _ _ _ _ _ h3]
   congr 1
   funext k j
   exact ZuF _ _ _ (harg om)
  by_cases h4:t.k=4
  ·rw [ZaQ _ _ _ _ _ h4,ZaQ _ _ _ _ _ h4]
  by_cases h5:t.k=5
  ·rw [ZaR _ _ _ _ _ h5,ZaR _ _ _ _ _ h5,Zus _ _ (harg om)]
  by_cases h6:t.k=6
  ·rw [ZaS _ _ _ _ _ h6,ZaS _ _ _ _ _ h6]
   congr 1
   funext n j
   rw [Zvg fun j=>ZuF _ _ _ (harg om)]
  by_cases h7:t.k=7
  ·rw [ZaT _ _ _ _ _ h7,ZaT _ _ _ _ _ h7,Zus _ _ (harg om)]
  by_cases h8:t.k=8
  ·rw [ZaU _ _ _ _ _ h8,ZaU _ _ _ _ _ h8]
   congr 1
   funext row j
   rw [Zus _ _ fun x hx=>harg om x (QY hx)]
  by_cases h9:t.k=9
  ·rw [ZaV _ _ _ _ _ h9,ZaV _ _ _ _ _ h9]
   congr 1
   funext j
   exact ZuF _ _ _ (harg om)
  by_cases h11:t.k=11
  ·rw [ZbR _ _ _ _ _ h11,ZbR _ _ _ _ _ h11]
   cases e with
   | nil=>rfl
   | cons p up=>
    obtain ⟨t',m⟩:=p
    obtain ⟨e1,e2,e3,e4,e5,e6,e7⟩:=he
    obtain ⟨k,n,hw⟩:=hw
    rw [ZuX,if_neg h1,if_pos h11] at hw
    obtain ⟨w0,w1⟩:=ZuV hw
    have hga:=(Zk.1 e1).2.2
    have hoa:=(Ze.1 e3).2.2.2.2.2.2.2.2
    have hse:=Zq t'
    refine ZuN _ _ _ _ (fun hm x hx=>?_) (fun hm x hx=>?_)
    ·obtain ⟨hl,rfl⟩:=List.getElem?_eq_some_iff.1 hx
     have h1:=hga.get 0 hl
     have h2:=ZD t'.a 0 hl
     have h3:ZU t'.k (0+0)=false:=by simp [ZU]
     rw [h3,Bool.or_false] at h1
     exact ih _ _ _ h1 (hoa.get 0 hl) om e7 (w0 hm _ hx)
    obtain ⟨hl,rfl⟩:=List.getElem?_eq_some_iff.1 hx
    have h1:=hga.get 1 hl
    have h2:=ZD t'.a 1 hl
    have h3:ZU t'.k (0+1)=true:=by simp [ZU,e2]
    rw [h3,Bool.or_true] at h1
    exact ih _ _ _ h1 (hoa.get 1 hl) om ⟨e1,e2,e3,e4,om,om,e7⟩ (w1 hm _ hx)
  have h10:t.k=10:=by have:=(Y9 hn).1;omega
  rw [ZdC _ _ _ _ _ h1 h2 h3 h4 h5 h6 h7 h8 h9 h11,ZdC _ _ _ _ _ h1 h2 h3 h4 h5 h6 h7 h8 h9 h11]
  obtain ⟨k,n,hw⟩:=hw
  rw [ZuX,if_neg h1,if_neg h11,if_pos h10] at hw
  obtain ⟨w0,w1⟩:=ZuV hw
  obtain ⟨a,b,c⟩:=Yl hn h10
  have hga:=(Zk.1 hg).2.2
  have hoa:=(Ze.1 ox).2.2.2.2.2.2.2.2
  have hse:=Zq t
  refine ZuN _ _ _ _ (fun hm x hx=>?_) (fun hm x hx=>?_)
  ·obtain ⟨hl,rfl⟩:=List.getElem?_eq_some_iff.1 hx
   have h1:=hga.get 0 hl
   have h2:=ZD t.a 0 hl
   have h3:ZU t.k (0+0)=false:=by simp [ZU]
   rw [h3,Bool.or_false] at h1
   exact ih _ _ _ h1 (hoa.get 0 hl) om he (w0 hm _ hx)
  obtain ⟨hl,rfl⟩:=List.getElem?_eq_some_iff.1 hx
  have h1:=hga.get 1 hl
  have h2:=ZD t.a 1 hl
  have h3:ZU t.k (0+1)=true:=by simp [ZU,h10]
  rw [h3,Bool.or_true] at h1
  exact ih _ _ _ h1 (hoa.get 1 hl) om ⟨hg,h10,ox,hs,om,om,he⟩ (w1 hm _ hx)
def Zvu (b t u:GT):Prop:=b.k=5∧b.a=[t,u]
theorem ZuA {b t u:GT} (h:Zvu b t u) (hT:(Z3 b).2=0) (ob:okT b):((Z3 t).2=0∧okT t)∧((Z3 u).2=0∧okT u)∧Zp false t∧Zp false u∧(∃k n,wkT 4097 t [] k n≠none)∧(∃k n,wkT 4097 u [] k n≠none):=by
 obtain ⟨hk,ha⟩:=h
 have ot:okT t:=Jl ob (by rw [ha];simp)
 have ou:okT u:=Jl ob (by rw [ha];simp)
 unfold Z3 at hT
 by_cases hc:(ZF 0 1 12 false b).2=0
 case neg=>rw [if_pos hc] at hT;exact absurd hT hc
 rw [if_neg (by simp [hc])] at hT
 have hgb:=XL 12 b 0 1 false hc
 have hgs:=(Zk.1 hgb).2.2
 rw [hk,ha] at hgs
 simp only [goodTs] at hgs
 have s0:ZU 5 0=false:=by simp [ZU]
 have s1:ZU 5 1=false:=by simp [ZU]
 rw [s0,s1,Bool.or_false] at hgs
 obtain ⟨g1,g2, -⟩:=hgs
 have hch:(ZH 1 2 12 false 5 0 [t,u]).2=0:=by
  rw [Zgg,if_neg om] at hc
  split at hc
  ·rename_i h2;exact absurd hc h2
  split at hc
  ·simp at hc
  rw [hk,ha] at hc;exact hc
 simp only [ZH,s0,s1,Bool.or_false] at hch
 have c1:(ZF 1 2 12 false t).2=0:=by
  by_cases h0:(ZF 1 2 12 false t).2=0
  ·exact h0
  rw [if_pos h0] at hch;exact absurd hch h0
 rw [if_neg (by simp [c1])] at hch
 have c2:(ZF (ZF 1 2 12 false t).1 2 12 false u).2=0:=by
  by_cases h0:(ZF (ZF 1 2 12 false t).1 2 12 false u).2=0
  ·exact h0
  first
  | (rw [if_pos h0] at hch;exact absurd hch h0)
  | (simp [s1] at hch;exact absurd hch.1 h0)
  | (simp_all [ZU])
 have d1:=Zu1 12 (Zb t) t 1 0 2 1 false (Nat.le_refl _) om c1
 have d2:=Zu1 12 (Zb u) u _ 0 2 1 false (Nat.le_refl _) om c2
 by_cases hn:512 < (Z8 b:Int)∨4096 < (Zz b).1
 ·rw [if_pos hn] at hT;simp at hT
 rw [if_neg hn] at hT
 by_cases hd:128 < (Zz b).2
 ·rw [if_pos hd] at hT;simp at hT
 have hnb:=Wv b
 rw [ha] at hnb
 simp only [Z4] at hnb
 have hm:∃d n,wkT 4098 b [] 1 0=some (d,n)∧n≤4096∧d≤128:=by
  unfold Zz at hn hd
  cases hw:wkT 4098 b [] 1 0 with
  | none=>rw [hw] at hn;exact absurd (.inr sm) hn
  | some y=>
   obtain ⟨d,n⟩:=y
   rw [hw] at hn hd
   dsimp only at hn hd
   exact ⟨d,n,rfl,om,om⟩
 obtain ⟨d,n,hw,hn4,hd4⟩:=hm
 rw [Q8 (.inr (.inl hk)),ha] at hw
 have hsp:Zu 0 1=some 1:=rfl
 rw [hsp] at hw
 dsimp only at hw
 simp only [Zx] at hw
 cases e1:wkT 4097 t [] 1 1 with
 | none=>rw [e1] at hw;cases hw
 | some y1=>
  obtain ⟨d3,n1⟩:=y1
  rw [e1] at hw
  dsimp only at hw
  cases e2:wkT 4097 u [] 1 n1 with
  | none=>rw [e2] at hw;cases hw
  | some y2=>
   obtain ⟨d4,n2⟩:=y2
   rw [e2] at hw
   have hu1:=KQ 4097 t [] 1 1 d3 n1 om e1
   have hu2:=KQ 4097 u [] 1 n1 d4 n2 om e2
   have m1:=ZuW (c:=1) om 4097 t [] 1 1 d3 n1 e1
   have m2:=ZuW (c:=n1) om 4097 u [] 1 n1 d4 n2 e2
   rw [Int.sub_self] at m1 m2
   have hdn:d3≤d∧d4≤d∧n2≤4096:=by
    dsimp only at hw
    simp only [hk] at hw
    (repeat' split at hw)<;>simp_all<;>omega
   refine ⟨⟨?_,ot⟩,⟨?_,ou⟩,g1,g2,⟨1,1,by rw [e1];simp⟩,⟨1,n1,by rw [e2];simp⟩⟩
   ·unfold Z3
    rw [if_neg (by simp [d1])]
    have:Zz t=(n1 - 1,d3):=by unfold Zz;rw [m1]
    rw [this,if_neg (by dsimp only;omega),if_neg (by dsimp only;omega)]
   unfold Z3
   rw [if_neg (by simp [d2])]
   have:Zz u=(n2 - n1,d4):=by unfold Zz;rw [m2]
   rw [this,if_neg (by dsimp only;omega),if_neg (by dsimp only;omega)]
theorem Zu3 (s:ByteArray) (j:Nat) (h:j≤s.size):Zur s (Vh s j) j:=
 ⟨by rw [Q7 s j h];omega,fun i=>by rw [ZcX,List.getD_eq_getElem?_getD,List.getD_eq_getElem?_getD,List.getElem?_drop,Nat.add_comm]⟩
theorem Zvo {b t u:GT} (h:Zvu b t u) (hT:(Z3 b).2=0) (ob:okT b) {s:ByteArray} (hb:Zc s=true):
  Vm s b=(Vm s t).bind fun v j=>(Vm (Vh s j) u).bind fun y q=>.ok ⟨3,0,[v,y]⟩ (j+q):=by
 obtain ⟨⟨t1,t2⟩,⟨u1,u2⟩,g1,g2,w1,w2⟩:=ZuA h hT ob
 unfold Vm
 rw [ZaR _ _ _ _ _ h.1,h.2]
 simp only [Xt]
 rw [←ZuC s (Zb t) 4097 t [] 0 g1 t2 (Nat.le_refl _) trivial w1]
 have hin:=Zp7 t1 t2 hb
 unfold Vm at hin
 cases hr:Zd s 4098 t [] 0 with
 | no k=>rfl
 | ok v j=>
  rw [hr] at hin
  have hj:j≤s.size:=hin.2.1
  simp only [Res.bind]
  rw [←ZuC s (Zb u) 4097 u [] j g2 u2 (Nat.le_refl _) trivial w2]
  have hsh:=ZuM (Zu3 s j hj) 4098 u [] 0
  rw [Nat.zero_add] at hsh
  rw [hsh]
  cases Zd (Vh s j) 4098 u [] 0 with
  | no k=>rfl
  | ok y q=>simp [Res.shift,Res.map,Nat.add_comm]
section
theorem Zuy (t:GT) (n:Nat):(Zpv t n).Nodup:=(Zqf t n).imp fun {a b} h e=>by rw [e] at h;exact Nat.lt_irrefl _ h
theorem Zuk {t:GT} {n:Nat} {x:ByteArray} {v:GV} (hn:n≤1024):(x,v)∈Zpv t n↔Zc x=true∧x.size≤n∧Vm x t=.ok v x.size:=by
 rw [Zqv]
 have h0:(⟨#[]⟩:ByteArray).size=0:=rfl
 constructor
 ·rintro ⟨k,hk,h1,h2⟩
  have hz:=ZpC h1
  exact ⟨Zp8 ZpA om h1,om,h2⟩
 rintro ⟨h1,h2,h3⟩
 exact ⟨x.size,h2,Zpy.2 ⟨x,ByteArray.ext (Array.ext' (by rw [VN];simp)),rfl,(YL.1 h1).2⟩,h3⟩
theorem Zvn (a b:ByteArray):Qv (a++b) a.size=a:=ByteArray.ext (Array.ext' (by rw [VG,VN,ZK,List.take_left'];rfl))
theorem Zu2 (a b:ByteArray):Vh (a++b) a.size=b:=ByteArray.ext (Array.ext' (by rw [ZcX,VN,ZK,List.drop_left'];rfl))
theorem ZuQ {a b:ByteArray} (ha:Zc a=true) (hb:Zc b=true) (h:a.size+b.size≤1024):Zc (a++b)=true:=by
 rw [YL] at ha hb ⊢
 refine ⟨by rw [ByteArray.size_append];exact h,fun c hc=>?_⟩
 rw [VN,List.mem_append] at hc
 exact hc.elim (ha.2 c) (hb.2 c)
theorem Zvy (s:ByteArray) (j:Nat):Qv s j++Vh s j=s:=ByteArray.ext (Array.ext' (by rw [VN,VG,ZcX,List.take_append_drop]))
def Zvm (v y:GV):GV:=⟨3,0,[v,y]⟩
section
variable {b t u:GT} (h:Zvu b t u) (hT:(Z3 b).2=0) (ob:okT b) {n:Nat} (hn:n≤512)
include h hT ob hn
theorem ZuS (x:ByteArray) (z:GV):(x,z)∈Zpv b n↔∃p∈Zpv t n,∃q∈Zpv u n,p.1.size+q.1.size≤n∧x=p.1++q.1∧z=Zvm p.2 q.2:=by
 obtain ⟨⟨t1,t2⟩,⟨u1,u2⟩, -⟩:=ZuA h hT ob
 rw [Zuk om]
 constructor
 ·rintro ⟨h1,h2,h3⟩
  rw [Zvo h hT ob h1] at h3
  have hin:=Zp7 t1 t2 h1
  cases hr:Vm x t with
  | no k=>rw [hr] at h3;cases h3
  | ok v j=>
   rw [hr] at h3 hin
   have hj:j≤x.size:=hin.2.1
   simp only [Res.bind] at h3
   have hb2:=Ze9 h1 j hj
   cases hq:Vm (Vh x j) u with
   | no k=>rw [hq] at h3;cases h3
   | ok y q=>
    rw [hq] at h3
    simp only [Res.ok.injEq] at h3
    obtain ⟨rfl,hs⟩:=h3
    have hz1:=Q0 x j hj
    have hz2:=Q7 x j hj
    refine ⟨(Qv x j,v),(Zuk om).2 ⟨Ze8 h1 j,om,by rw [hz1];exact ZfW hr hj⟩,(Vh x j,y),(Zuk om).2 ⟨hb2,om,by rw [hz2,hq];congr 1;omega⟩,?_,(Zvy x j).symm,rfl⟩
    show (Qv x j).size+(Vh x j).size≤n
    omega
 rintro ⟨⟨w,v⟩,hp,⟨w',y⟩,hq,hs,rfl,rfl⟩
 obtain ⟨a1,a2,a3⟩:=(Zuk om).1 hp
 obtain ⟨b1,b2,b3⟩:=(Zuk om).1 hq
 have hb:=ZuQ a1 b1 (by have:w.size+w'.size≤n:=hs;omega)
 refine ⟨hb,by rw [ByteArray.size_append];exact hs,?_⟩
 rw [Zvo h hT ob hb]
 have hr:Vm (w++w') t=.ok v w.size:=by
  rcases ZqL t1 t2 hb with e|e
  ·rw [a3] at e;cases e
  rw [e,a3]
 rw [hr]
 simp only [Res.bind]
 rw [Zu2,b3,ByteArray.size_append]
 rfl
def ZuY (t u:GT) (n:Nat):List (ByteArray×GV):=(Zpv t n).flatMap fun p=>((Zpv u n).filter fun q=>decide (p.1.size+q.1.size≤n)).map fun q=>(p.1++q.1,Zvm p.2 q.2)
theorem Zvr (r:ByteArray×GV):r∈ZuY t u n↔r∈Zpv b n:=by
 obtain ⟨x,z⟩:=r
 rw [ZuS h hT ob hn]
 unfold ZuY
 simp only [List.mem_flatMap,List.mem_map,List.mem_filter,decide_eq_true_eq]
 constructor
 ·rintro ⟨p,hp,q,⟨hq,hs⟩,e⟩
  cases e
  exact ⟨p,hp,q,hq,hs,rfl,rfl⟩
 rintro ⟨p,hp,q,hq,hs,rfl,rfl⟩
 exact ⟨p,hp,q,⟨hq,hs⟩,rfl⟩
theorem ZuZ {p p' q q':ByteArray×GV} (hp:p∈Zpv t n) (hp':p'∈Zpv t n) (hq:q∈Zpv u n) (hq':q'∈Zpv u n) (e:p.1++q.1=p'.1++q'.1):p=p'∧q=q':=by
 obtain ⟨⟨t1,t2⟩,⟨u1,u2⟩, -⟩:=ZuA h hT ob
 obtain ⟨w,v⟩:=p
 obtain ⟨w1,v1⟩:=p'
 obtain ⟨x,y⟩:=q
 obtain ⟨x1,y1⟩:=q'
 obtain ⟨a1,a2,a3⟩:=(Zuk om).1 hp
 obtain ⟨b1,b2,b3⟩:=(Zuk om).1 hp'
 obtain ⟨c1,c2,c3⟩:=(Zuk om).1 hq
 obtain ⟨d1,d2,d3⟩:=(Zuk om).1 hq'
 have e':w++x=w1++x1:=e
 have r1:Vm (w++x) t=.ok v w.size:=by
  rcases ZqL t1 t2 (ZuQ a1 c1 om) with k|k
  ·rw [a3] at k;cases k
  rw [k,a3]
 have r2:Vm (w1++x1) t=.ok v1 w1.size:=by
  rcases ZqL t1 t2 (ZuQ b1 d1 om) with k|k
  ·rw [b3] at k;cases k
  rw [k,b3]
 rw [e',r2] at r1
 injection r1 with g1 g2
 have g2':w1.size=w.size:=g2
 have hw:w=w1:=by rw [←Zvn w x,←Zvn w1 x1,e',g2']
 have hx:x=x1:=by rw [←Zu2 w x,←Zu2 w1 x1,e',g2']
 subst hw hx
 rw [c3] at d3
 injection d3 with g3 g4
 have g1':v1=v:=g1
 have g3':y=y1:=g3
 rw [g1',g3']
 exact ⟨rfl,rfl⟩
theorem Zu6:(ZuY t u n).Nodup:=by
 unfold ZuY List.Nodup
 rw [List.pairwise_flatMap]
 constructor
 ·intro p hp
  rw [List.pairwise_map]
  refine List.Pairwise.imp_of_mem (fun {a c} ha hc hne e=>hne ?_) ((Zuy u n).filter _)
  have e1:p.1++a.1=p.1++c.1:=congrArg Prod.fst e
  exact (ZuZ h hT ob hn hp hp (List.mem_filter.1 ha).1 (List.mem_filter.1 hc).1 e1).2
 refine List.Pairwise.imp_of_mem (fun {p p'} hp hp' hne=>?_) (Zuy t n)
 intro x hx y hy e
 obtain ⟨q,hq,rfl⟩:=List.mem_map.1 hx
 obtain ⟨q',hq',rfl⟩:=List.mem_map.1 hy
 have e1:p.1++q.1=p'.1++q'.1:=congrArg Prod.fst e
 exact hne (ZuZ h hT ob hn hp hp' (List.mem_filter.1 hq).1 (List.mem_filter.1 hq').1 e1).1
theorem Zvq:(ZuY t u n).length=(Zpv b n).length:=
 ((List.perm_ext_iff_of_nodup (Zu6 h hT ob hn) (Zuy b n)).2 fun r=>Zvr h hT ob hn r).length_eq
end
end
section
def ZuJ (l:List (ByteArray×GV)) (s:ByteArray):Bool:=l.any fun r=>decide (r.1=s)
def ZuL (M:List (ByteArray×GV)) (K:Nat) (p:ByteArray):Nat:=(M.filter fun q=>decide (p.size+q.1.size≤K)).length
def ZuG (L M:List (ByteArray×GV)) (K:Nat):Nat:=(L.map fun p=>ZuL M K p.1).sum
theorem Zvb {l:List (ByteArray×GV)} {s:ByteArray} {i:Nat} {z:Bool} (h:i < l.length) (hs:ZuJ (l.take i) s=z):ZuJ (l.take (i+1)) s=(z||decide (l[i].1=s)):=by
 unfold ZuJ at *
 rw [List.take_succ_eq_append_getElem h,List.any_append,hs]
 simp
theorem Zve {M:List (ByteArray×GV)} {K:Nat} {p:ByteArray} {i:Nat} (h:i < M.length):ZuL (M.take (i+1)) K p=ZuL (M.take i) K p+if p.size+M[i].1.size≤K then 1 else 0:=by
 unfold ZuL
 rw [List.take_succ_eq_append_getElem h,List.filter_append,List.length_append]
 congr 1
 by_cases hc:p.size+M[i].1.size≤K<;>simp [hc]
theorem Zu7 {L M:List (ByteArray×GV)} {K:Nat} {i:Nat} (h:i < L.length):ZuG (L.take (i+1)) M K=ZuG (L.take i) M K+ZuL M K L[i].1:=by
 unfold ZuG
 rw [List.take_succ_eq_append_getElem h,List.map_append,List.sum_append]
 simp
section
variable {b t u:GT} (h:Zvu b t u) (hT:(Z3 b).2=0) (ob:okT b) {n:Nat} (hn:n≤512)
include h hT ob hn
theorem Zvf:ZuG (Zpv t n) (Zpv u n) n=(Zpv b n).length:=by
 rw [←Zvq h hT ob hn]
 unfold ZuY ZuG ZuL
 rw [List.length_flatMap]
 congr 1
 exact List.map_congr_left fun p _=>by rw [List.length_map]
theorem Zvs {p q:ByteArray×GV} (hp:p∈Zpv t n) (hq:q∈Zpv u n) (hs:p.1.size+q.1.size≤n):ZuJ (Zpv b n) (p.1++q.1)=true:=
 List.any_eq_true.2 ⟨(p.1++q.1,Zvm p.2 q.2),(ZuS h hT ob hn _ _).2 ⟨p,hp,q,hq,hs,rfl,rfl⟩,decide_eq_true rfl⟩
theorem Zvw {p q:ByteArray×GV} (hp:p∈Zpv t n) (hq:q∈Zpv u n) (hs:p.1.size+q.1.size≤n) {r:ByteArray×GV} (hr:r∈Zpv b n) (e:r.1=p.1++q.1):r.2=Zvm p.2 q.2:=by
 have h1:=(Zuk om).1 ((ZuS h hT ob hn _ _).2 ⟨p,hp,q,hq,hs,rfl,rfl⟩)
 obtain ⟨x,z⟩:=r
 have h2:=(Zuk om).1 hr
 have e':x=p.1++q.1:=e
 subst e'
 have:=h1.2.2.symm.trans h2.2.2
 injection this with g1 g2
 exact g1.symm
end
end
def Zuj (t u:GT):GT:=⟨5,noV,[],0,0,[],noP,[t,u]⟩
theorem Zux (t u:GT):Zvu (Zuj t u) t u:=⟨rfl,rfl⟩
theorem Zvt (t u:GT):Zb (Zuj t u)≤Zb t+Zb u+8:=by simp [Zuj,Zb,Z5,Zg,Zi,Zm,ZY,noV,noP];omega
theorem ZuD {t u:GT} (h:okT t) (h2:okT u):okT (Zuj t u):=Ze.2 ⟨by unfold Yg Zuj;simp,ZA.2 ⟨by unfold Yg Zuj noV;simp,by unfold Zv Zuj noV;simp,by simp [Zuj,noV],by simp [Zuj,noV,okVs]⟩,⟨by simp [Zuj],by simp [Zuj,okVs]⟩,by unfold Zv Zuj;simp,by unfold Zv Zuj;simp,⟨by simp [Zuj],by simp [Zuj,okIs]⟩,Y3.2 ⟨by unfold Yg Zuj noP;simp,ZA.2 ⟨by unfold Yg Zuj noP noV;simp,by unfold Zv Zuj noP noV;simp,by simp [Zuj,noP,noV],by simp [Zuj,noP,noV,okVs]⟩,by unfold Zv Zuj noP;simp,by simp [Zuj,noP],by simp [Zuj,noP,okPs]⟩,by simp [Zuj],by simp only [Zuj,okTs,and_true];exact ⟨h,h2⟩⟩
abbrev Zva (t:GT) (m:TA):List Value:=[.int .u8 t.k,.int .u8 t.v.k,.int .i64 t.v.n,.slice m.va t.v.l.length m.vc,.slice m.vsa t.vs.length m.vsc,.int .i64 t.lo,.int .i64 t.hi,.slice m.wa t.w.length m.wc,.int .u8 t.p.k,.int .u8 t.p.v.k,.int .i64 t.p.v.n,.slice m.pva t.p.v.l.length m.pvc,.int .i64 t.p.n,.slice m.pa t.p.a.length m.pc,.slice m.a t.a.length m.c]
theorem ZvC {w:World} {b:Nat}:∀(l:List Value) (o:Nat),(∀j u,l[j]? =some u→w.cell? ⟨b,o+j,none⟩=some u)→At w b o l
 | [],_,_=>trivial
 | v::l,o,h=>⟨h 0 v rfl,ZvC l (o+1) fun j u hj=>by rw [show o+1+j=o+(j+1) by omega];exact h (j+1) u (by simpa using hj)⟩
theorem ZvB (w:World) (l:List Value) (ty:TypeId):At (w.alloc (.cells l.toArray ty)) w.heap.size 0 l:=ZvC l 0 fun j u hj=>by
 rw [Nat.zero_add]
 simpa using hj
theorem Zvk {w:World} {b:Nat}:∀(l r:List Value) (o:Nat),At w b o (l++r)→At w b o l∧At w b (o+l.length) r
 | [],r,o,h=>⟨trivial,h⟩
 | v::l,r,o,h=>by
  obtain ⟨h1,h2⟩:=h
  obtain ⟨h3,h4⟩:=Zvk l r (o+1) h2
  exact ⟨⟨h1,h3⟩,by rwa [List.length_cons,show o+(l.length+1)=o+1+l.length by omega]⟩
def mB (b:Nat):TA:=⟨none,0,none,0,none,0,none,0,none,0,some ⟨b,0,none⟩,2⟩
theorem ZvE {w:World} {A A2:Nat→Prop} {t u:GT} {m m2:TA} {b:Nat} (h:At w b 0 (Zva t m)) (h2:At w b 15 (Zva u m2)) (hl:RT w A t m) (hr:RT w A2 u m2):RT w (fun _=>True) (Zuj t u) (mB b):=by
 refine Zo.2 ⟨by rw [Zl];simp [Zuj,noV,RVs],by simp [Zuj,RVs],by simp [Zuj,RIs],Zj8 rfl rfl,?_⟩
 show RTs w (fun _=>True) [t,u] (some ⟨b,0,none⟩)
 simp only [RTs]
 exact ⟨b,0,m,rfl,trivial,h,Zud (fun _ _ _=>trivial) _ _ hl,b,15,m2,rfl,trivial,h2,Zud (fun _ _ _=>trivial) _ _ hr,trivial⟩
set_option maxRecDepth 100000
theorem Zvx (k:Int) (a:Option Addr) (n c:Nat) (w:World):Calls prog 31 #[.int .u8 k,.slice a n c] w fun e w'=>e=.returned (.agg #[.int .u8 k,.int .u8 0,.int .i64 0,.slice none 0 0,.slice none 0 0,.int .i64 0,.int .i64 0,.slice none 0 0,.int .u8 0,.int .u8 0,.int .i64 0,.slice none 0 0,.int .i64 0,.slice none 0 0,.slice a n c])∧Below w.heap.size w w':=by
 go_enter func31,ntmps31
 go_wp2_with fail
 refine bodyPost_ret (v:=.agg #[.int .u8 k,.int .u8 0,.int .i64 0,.slice none 0 0,.slice none 0 0,.int .i64 0,.int .i64 0,.slice none 0 0,.int .u8 0,.int .u8 0,.int .i64 0,.slice none 0 0,.int .i64 0,.slice none 0 0,.slice a n c]) (by first|(simp [results,Tryz.f31,go_sem];done)|(simp [results,Tryz.f31,go_sem, *];done)) rfl ?_
 exact ⟨rfl,ZtZ⟩
end Go.Proofs.YtkdffbdnjfgpeaaGreat
