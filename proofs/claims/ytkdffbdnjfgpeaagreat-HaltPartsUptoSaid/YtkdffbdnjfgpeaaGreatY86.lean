/- Part 87. -/
import Derived.Test.YtkdffbdnjfgpeaaGreatY36
import Derived.Test.YtkdffbdnjfgpeaaGreatY83
import Derived.Test.YtkdffbdnjfgpeaaGreatYTk
set_option linter.all false
namespace Go.Proofs.YtkdffbdnjfgpeaaGreat
open Go.Lib (hid)
open Go Go.RowKit Go.Proofs.Tryz
set_option maxRecDepth 100000
set_option maxHeartbeats 4000000
theorem Zdq (N:Nat) (ih:Kq N) (u:GV) (n:Int) (x:GP) (v:GV) (w:World) (A A2:Nat→Prop) (mp:PA) (m:VA) (hN:Zm x≤N) (hg:VT x) (ox:okP x) (hx:RPs w A [x] mp.a) (ov:okV v) (hrow:Ua v=true):
  Calls prog 250 #[PV ⟨11,u,n,[x]⟩ mp,VV v m] w fun e w'=>e=.returned (.bool (Zh x ⟨1,v.l.length,[]⟩))∧Below w.heap.size w w':=by
 obtain ⟨ma,mc⟩:=m
 obtain ⟨na,nb,nc,nd⟩:=mp
 dsimp only at hx
 have OX:=hid ox
 have HG:=hid hg
 have IH:=hid ih
 have HRW:=hid (show J0 v.k=true from hrow)
 obtain ⟨ov1,ov2,ov3, -⟩:=ZA.1 ov
 have OK:=hid ov1
 have OL:Hid (okV ⟨1,v.l.length,[]⟩):=hid (ZA.2 ⟨by simp [Yg],by unfold Zv;dsimp only;omega,sm,by simp [okVs]⟩)
 simp only [RPs] at hx
 obtain ⟨b,o,mj,rfl,hA,g0,gx, -⟩:=hx
 have GX:=hid gx
 obtain ⟨k0,k1,k2,k3,k4,k5⟩:=At6.1 g0
 have hbs:b < w.heap.size:=World.block_lt_of_cell? _ _ k0
 generalize hF:Zh x ⟨1,v.l.length,[]⟩=F
 have HF:=hid hF
 clear ov ox hg ih gx g0 hF hrow ov1 ov2
 go_enter func250,ntmps250
 go_wp2_with (go_at_call 280;refine (V1 v ⟨ma,mc⟩ _ OK.out).mono ?_;rw [HRW.out];rintro e w1 ⟨rfl,hb1⟩;obtain ⟨hc1,hf1⟩:=Za hb1;have hz1:=hb1.size;(try simp at hz1);have y0:w.heap.size < w1.heap.size:=om;have y1:w.heap.size+1 < w1.heap.size:=om;have y2:b < w1.heap.size:=om;have e0:w1.cell? ⟨b,o,none⟩=some (.int .u8 x.k):=(hb1.cell so).trans gs;have e1:w1.cell? ⟨b,o+1,none⟩=some (.int .u8 x.v.k):=(hb1.cell so).trans gs;have e2:w1.cell? ⟨b,o+2,none⟩=some (.int .i64 x.v.n):=(hb1.cell so).trans gs;have e3:w1.cell? ⟨b,o+3,none⟩=some (.slice mj.va x.v.l.length mj.vc):=(hb1.cell so).trans gs;have e4:w1.cell? ⟨b,o+4,none⟩=some (.int .i64 x.n):=(hb1.cell so).trans gs;have e5:w1.cell? ⟨b,o+5,none⟩=some (.slice mj.a x.a.length mj.c):=(hb1.cell so).trans gs;have f5:w1.cell? ⟨w.heap.size,5,none⟩=some (.slice (some ⟨b,o,none⟩) 1 nd):=(hb1.cell so).trans gs;have f2:w1.cell? ⟨w.heap.size+1,2,none⟩=some (.slice ma v.l.length mc):=(hb1.cell so).trans gs)
 clear hc1 hf1
 go_region_held3 (fun W=>∀c k,c < w1.heap.size→W.cell? ⟨c,k,none⟩=w1.cell? ⟨c,k,none⟩) ((intro c k hc;refine Below.cell (B:=w1.heap.size) (w:=w1) (p:=⟨c,k,none⟩) ?_ hc;((repeat (first|with_reducible exact Below.refl _ _|with_reducible assumption|with_reducible refine Below.trans ?_ (Below.mono (by with_reducible assumption) (by first|omega|(simp;done)|(simp;omega)))|with_reducible refine Below.drew ?_|with_reducible refine Below.alloc ?_ (by first|omega|(simp;done)|(simp;omega)) _|with_reducible refine Below.setCell ?_ (by first|omega|(simp;done)|(simp;omega)) _));done))) ((go_at_call 250;refine (IH.out x ⟨1,v.l.length,[]⟩ _ A (fun _=>True) mj ⟨none,0⟩ hN HG.out OX.out (by exact Zub ar _ _ GX.out) OL.out (by simp [RV,RVs])).mono ?_;rw [HF.out];rintro e w2 ⟨rfl,hb2⟩))
 all_goals go_wp2_with fail
 all_goals go_ret
 all_goals exact ⟨rfl,ZtZ⟩
theorem Zen (N:Nat) (ih:Kq N) (u:GV) (n:Nat) (x:GP) (v:GV) (w:World) (A A2:Nat→Prop) (mp:PA) (m:VA) (hn:n≤64) (hN:Zm x≤N) (hg:VT x) (ox:okP x) (hx:RPs w A [x] mp.a) (ov:okV v) (hv:RV w A2 v m.a) (hrow:Ua v=true):
  Calls prog 250 #[PV ⟨8,u,n,[x]⟩ mp,VV v m] w fun e w'=>e=.returned (.bool (match v.l[n]? with|some y=>Zh x y|none=>false))∧Below w.heap.size w w':=by
 obtain ⟨ma,mc⟩:=m
 obtain ⟨na,nb,nc,nd⟩:=mp
 dsimp only at hx hv
 have OX:=hid ox
 have HG:=hid hg
 have IH:=hid ih
 have HRW:=hid (show J0 v.k=true from hrow)
 obtain ⟨ov1,ov2,ov3,ov4⟩:=ZA.1 ov
 have OK:=hid ov1
 have OVL:=hid ov4
 have HVL:=hid (Zl.1 hv)
 simp only [RPs] at hx
 obtain ⟨b,o,mj,rfl,hA,g0,gx, -⟩:=hx
 have GX:=hid gx
 obtain ⟨k0,k1,k2,k3,k4,k5⟩:=At6.1 g0
 have hbs:b < w.heap.size:=World.block_lt_of_cell? _ _ k0
 clear ov ox hg ih gx g0 hrow ov1 ov2 ov4 hv
 by_cases hlt:n < v.l.length
 ·rw [List.getElem?_eq_getElem hlt]
  dsimp only
  obtain ⟨b',o',mi,rfl,hA',hbs',g0',gy⟩:=HVL.out.get n hlt
  obtain ⟨j0,j1,j2⟩:=At3.1 g0'
  have GY:=hid gy
  have OY:=hid (OVL.out.get n hlt)
  generalize hF:Zh x v.l[n]=F
  have HF:=hid hF
  have hn0:(0:Int)≤(n:Int):=om
  have hlt2:(n:Int) < (v.l.length:Int):=om
  clear hF g0' gy
  go_enter func250,ntmps250
  go_wp2_with (go_at_call 280;refine (V1 v ⟨_,mc⟩ _ OK.out).mono ?_;rw [HRW.out];rintro e w1 ⟨rfl,hb1⟩;obtain ⟨hc1,hf1⟩:=Za hb1;have hz1:=hb1.size;(try simp at hz1);have y0:w.heap.size < w1.heap.size:=om;have y1:w.heap.size+1 < w1.heap.size:=om;have y2:b < w1.heap.size:=om;have y3:b' < w1.heap.size:=om;have e0:w1.cell? ⟨b,o,none⟩=some (.int .u8 x.k):=(hb1.cell so).trans gs;have e1:w1.cell? ⟨b,o+1,none⟩=some (.int .u8 x.v.k):=(hb1.cell so).trans gs;have e2:w1.cell? ⟨b,o+2,none⟩=some (.int .i64 x.v.n):=(hb1.cell so).trans gs;have e3:w1.cell? ⟨b,o+3,none⟩=some (.slice mj.va x.v.l.length mj.vc):=(hb1.cell so).trans gs;have e4:w1.cell? ⟨b,o+4,none⟩=some (.int .i64 x.n):=(hb1.cell so).trans gs;have e5:w1.cell? ⟨b,o+5,none⟩=some (.slice mj.a x.a.length mj.c):=(hb1.cell so).trans gs;have l0:w1.cell? ⟨b',o'+n*3,none⟩=some (.int .u8 v.l[n].k):=(hb1.cell so).trans gs;have l1:w1.cell? ⟨b',o'+n*3+1,none⟩=some (.int .i64 v.l[n].n):=(hb1.cell so).trans gs;have l2:w1.cell? ⟨b',o'+n*3+2,none⟩=some (.slice mi.a v.l[n].l.length mi.c):=(hb1.cell so).trans gs;have f4:w1.cell? ⟨w.heap.size,4,none⟩=some (.int .i64 n):=(hb1.cell so).trans gs;have f5:w1.cell? ⟨w.heap.size,5,none⟩=some (.slice (some ⟨b,o,none⟩) 1 nd):=(hb1.cell so).trans gs;have f2:w1.cell? ⟨w.heap.size+1,2,none⟩=some (.slice (some ⟨b',o',none⟩) v.l.length mc):=(hb1.cell so).trans gs)
  clear hc1 hf1
  go_region_held3 (fun W=>∀c k,c < w1.heap.size→W.cell? ⟨c,k,none⟩=w1.cell? ⟨c,k,none⟩) ((intro c k hc;refine Below.cell (B:=w1.heap.size) (w:=w1) (p:=⟨c,k,none⟩) ?_ hc;((repeat (first|with_reducible exact Below.refl _ _|with_reducible assumption|with_reducible refine Below.trans ?_ (Below.mono (by with_reducible assumption) (by first|omega|(simp;done)|(simp;omega)))|with_reducible refine Below.drew ?_|with_reducible refine Below.alloc ?_ (by first|omega|(simp;done)|(simp;omega)) _|with_reducible refine Below.setCell ?_ (by first|omega|(simp;done)|(simp;omega)) _));done))) ((go_at_call 250;refine (IH.out x v.l[n] _ A A2 mj mi hN HG.out OX.out (by exact Zub ar _ _ GX.out) OY.out (by exact Zt5 ar _ _ GY.out)).mono ?_;rw [HF.out];rintro e w2 ⟨rfl,hb2⟩))
  all_goals go_wp2_with fail
  all_goals go_ret
  all_goals exact ⟨sm,ZtZ⟩
 rw [List.getElem?_eq_none om]
 have hlt2:¬(n:Int) < (v.l.length:Int):=om
 have hlt3:decide ((n:Int) < (v.l.length:Int))=false:=by simpa using hlt
 go_enter func250,ntmps250
 go_wp2_with (go_at_call 280;refine (V1 v ⟨ma,mc⟩ _ OK.out).mono ?_;rw [HRW.out];rintro e w1 ⟨rfl,hb1⟩;obtain ⟨hc1,hf1⟩:=Za hb1;have hz1:=hb1.size;(try simp at hz1);have y0:w.heap.size < w1.heap.size:=om;have y1:w.heap.size+1 < w1.heap.size:=om)
 have f4:w1.cell? ⟨w.heap.size,4,none⟩=some (.int .i64 n):=(hb1.cell so).trans gs
 have f2:w1.cell? ⟨w.heap.size+1,2,none⟩=some (.slice ma v.l.length mc):=(hb1.cell so).trans gs
 have hbw:Below w.heap.size w w1:=ZtZ
 clear hc1 hf1 hb1
 as_aux_lemma=>
  (try dsimp only [List.append])
  refine wp_region_noPanic ?_
  refine wp_region_held_drew (S:=(fun W=>∀c k,c < w1.heap.size→W.cell? ⟨c,k,none⟩=w1.cell? ⟨c,k,none⟩)) kr ?_ (fun hHeld=>?_)
  ·((try dsimp only);(intro c k hc;refine Below.cell (B:=w1.heap.size) (w:=w1) (p:=⟨c,k,none⟩) ?_ hc;((repeat (first|with_reducible exact Below.refl _ _|with_reducible assumption|with_reducible refine Below.trans ?_ (Below.mono (by with_reducible assumption) (by first|omega|(simp;done)|(simp;omega)))|with_reducible refine Below.drew ?_|with_reducible refine Below.alloc ?_ (by first|omega|(simp;done)|(simp;omega)) _|with_reducible refine Below.setCell ?_ (by first|omega|(simp;done)|(simp;omega)) _));done)))
  refine tz 0 ?_
  try simp only [Act.put,sl,s0,ss]
  refine tz 1 ?_
  try simp only [Act.put,sl,s0,ss]
  refine tz 2 ?_
  try simp only [Act.put,sl,s0,ss]
  refine tz 3 ?_
  try simp only [Act.put,sl,s0,ss]
  refine tz 4 ?_
  try simp only [Act.put,sl,s0,ss]
  refine tz 5 ?_
  try simp only [Act.put,sl,s0,ss]
  refine tz 6 ?_
  try simp only [Act.put,sl,s0,ss]
  as_aux_lemma=>
   refine th 7 ?_
   try simp only [Act.put,sl,s0,ss]
   refine th 8 ?_
   try simp only [Act.put,sl,s0,ss]
   refine th 9 ?_
   try simp only [Act.put,sl,s0,ss]
   refine th 10 ?_
   try simp only [Act.put,sl,s0,ss]
   refine th 11 ?_
   try simp only [Act.put,sl,s0,ss]
   refine th 12 ?_
   try simp only [Act.put,sl,s0,ss]
   refine th 13 ?_
   try simp only [Act.put,sl,s0,ss]
   refine th 14 ?_
   try simp only [Act.put,sl,s0,ss]
   as_aux_lemma=>
    refine th 15 ?_
    try simp only [Act.put,sl,s0,ss]
    refine th 16 ?_
    try simp only [Act.put,sl,s0,ss]
    refine th 17 ?_
    try simp only [Act.put,sl,s0,ss]
    refine tz 18 ?_
    try simp only [Act.put,sl,s0,ss]
    refine tz 19 ?_
    try simp only [Act.put,sl,s0,ss]
    refine wpAnyH_done kr ?_ _
    as_aux_lemma=>
     (refine NoPanic.normal ?_;go_wp2_with fail;go_ret;exact ⟨rfl,ZtZ⟩)
set_option maxHeartbeats 8000000
theorem QB (N:Nat) (ih:Kq N) (k:Int) (u:GV) (n:Int) (x:GP) (v:GV) (w:World) (A A2:Nat→Prop) (mp:PA) (m:VA) (hk:k=9∨k=10) (hN:Zm x≤N) (hg:VT x) (ox:okP x) (hx:RPs w A [x] mp.a) (ov:okV v) (hv:RV w A2 v m.a) (hrow:Ua v=true):
  Calls prog 250 #[PV ⟨k,u,n,[x]⟩ mp,VV v m] w fun e w'=>e=.returned (.bool (if k=9 then v.l.all (fun y=>Zh x y) else v.l.any (fun y=>Zh x y)))∧Below w.heap.size w w':=by
 obtain ⟨ma,mc⟩:=m
 obtain ⟨na,nb,nc,nd⟩:=mp
 dsimp only at hx hv
 have OX:=hid ox
 have HG:=hid hg
 have IH:=hid ih
 have HRW:=hid (show J0 v.k=true from hrow)
 obtain ⟨ov1,ov2,ov3,ov4⟩:=ZA.1 ov
 have OK:=hid ov1
 have OVL:=hid ov4
 have HVL:=hid (Zl.1 hv)
 simp only [RPs] at hx
 obtain ⟨b,o,mj,rfl,hA,g0,gx, -⟩:=hx
 have GX:=hid gx
 have G0:=hid g0
 have hbs:b < w.heap.size:=World.block_lt_of_cell? _ _ (At6.1 g0).1
 clear ov ox hg ih gx g0 hrow ov1 ov2 ov4 hv
 rcases hk with rfl|rfl
 all_goals
  go_enter func250,ntmps250
  go_wp2_with (go_at_call 280;refine (V1 v ⟨ma,mc⟩ _ OK.out).mono ?_;rw [HRW.out];rintro e w1 ⟨rfl,hb1⟩;obtain ⟨hc1,hf1⟩:=Za hb1;have hz1:=hb1.size;(try simp at hz1);have y0:w.heap.size < w1.heap.size:=om;have y1:w.heap.size+1 < w1.heap.size:=om)
  go_loopg [7,8,9] (v.l.length) (fun gk t7 t8 i wr=>∃j:Nat,gk+j=v.l.length∧i=.int .i64 j∧t7=.bool ((v.l.take j).any fun y=>Zh x y)∧t8=.bool ((v.l.take j).all fun y=>Zh x y)∧Below w.heap.size w wr∧w.heap.size+1 < wr.heap.size ∧
   wr.cell? ⟨w.heap.size,0,none⟩=w1.cell? ⟨w.heap.size,0,none⟩∧wr.cell? ⟨w.heap.size,5,none⟩=some (.slice (some ⟨b,o,none⟩) 1 nd)∧wr.cell? ⟨w.heap.size+1,2,none⟩=some (.slice ma v.l.length mc))
  case atStart=>exact ⟨0,om,rfl,sm,sm,ZtZ,y1,rfl,gs,gs⟩
  case round=>
   obtain ⟨j,hj,rfl,rfl,rfl,hb,hz,ck,c5,c2⟩:=hrel
   by_cases hlt:j < v.l.length
   ·obtain ⟨b',o',mi,rfl,hA',hbs',g0',gy⟩:=HVL.out.get j hlt
    obtain ⟨k0,k1,k2,k3,k4,k5⟩:=At6.1 (G0.out.ext (ZtY hb) (A:=fun _=>True) trivial)
    obtain ⟨j0,j1,j2⟩:=At3.1 (g0'.ext (ZtY hb) (A:=fun _=>True) trivial)
    have GY:=hid gy
    have hs1:b < wr.heap.size:=om
    have hs2:b' < wr.heap.size:=om
    have HA1:=hid (ZhL (f:=fun y=>Zh x y) j hlt)
    have HA2:=hid (ZhK (f:=fun y=>Zh x y) j hlt)
    generalize hC:Zh x v.l[j]=C at HA1 HA2
    have HC:=hid hC
    generalize ((v.l.take j).any fun y=>Zh x y)=S at HA1 ⊢
    generalize ((v.l.take j).all fun y=>Zh x y)=E at HA2 ⊢
    clear hC gy g0'
    go_wp2_with fail
    refine Z0 9 kr kr ?_
    simp only [List.take_succ_cons,List.take_zero,List.drop_succ_cons,List.drop_zero]
    repeat still_step
    refine wpStill_nil ?_
    go_wp2_with (go_at_call 250;refine (IH.out x v.l[j] _ A A2 mj mi hN HG.out OX.out (by exact Zub ar _ _ GX.out) (OVL.out.get j hlt) (by exact Zt5 ar _ _ GY.out)).mono ?_;rw [HC.out];rintro e w2 ⟨rfl,hb2⟩;have hz2:=hb2.size;(try simp at hz2);have hbb:Below w.heap.size w w2:=ZtZ;cases S<;>cases E<;>cases C)
    all_goals go_roundg (gk - 1)
    all_goals first
     | (case measure=>omega)
     | (case rel=>exact ⟨j+1,om,by go_num,by rw [HA1.out];rfl,by rw [HA2.out];rfl,hbb,om,(hb2.cell so).trans (by simpa using ck),(hb2.cell so).trans gs,(hb2.cell so).trans gs⟩)
   obtain rfl:j=v.l.length:=om
   go_wp2_with fail
   go_ret
   exact ⟨sm,ZtZ⟩
set_option maxRecDepth 512
theorem Zkp {α:Type} {l:List α} (h:l.length=1):∃x,l=[x]:=by
 match l,h with
 | [x],_=>exact ⟨x,rfl⟩
theorem Zdp:∀N,Kq N:=by
 intro N
 induction N with
 | zero=>intro p;have:=ZS p;intros;omega
 | succ N ih=>
  rintro ⟨k,u,n,l⟩ v w A A2 mp m hN hg ox hr ov hv
  obtain ⟨hnd,hgs⟩:=Zbk.1 hg
  obtain ⟨h1,h2,h3,h4,h5⟩:=ZbB hnd
  obtain ⟨hu,hx⟩:=Wn.1 hr
  obtain ⟨o1,o2,o3,o4,o5⟩:=Y3.1 ox
  dsimp only at h1 h2 h3 h4 h5 hu hx hgs o1 o2 o3 o4 o5
  have hse:=Wk ⟨k,u,n,l⟩
  dsimp only at hse
  have hpos:=Zr u
  by_cases hleaf:k=1∨k=2∨k=3∨k=4
  ·exact Zb6 k u n l v w A A2 mp m hleaf o2 hu ov hv
  by_cases h6:k=6
  ·subst h6
   refine (Zdo N ih u n l v w A A2 mp m om hgs o5 (h4 (.inl rfl)) hx ov hv).mono fun e w' ⟨he,hb⟩=>⟨?_,hb⟩
   rw [he,←Zbp]
   simp [Zh]
  by_cases h7:k=7
  ·subst h7
   refine (Zep N ih u n l v w A A2 mp m om hgs o5 (h4 (.inr rfl)) hx ov hv).mono fun e w' ⟨he,hb⟩=>⟨?_,hb⟩
   rw [he,←Zbq]
   simp [Zh]
  obtain ⟨x,rfl⟩:=Zkp (h2 om)
  have hxN:Zm x≤N:=by simp only [ZY] at hse;omega
  have gx:VT x:=hgs.get 0 sm
  have okx:okP x:=o5.get 0 sm
  by_cases h50:k=5
  ·subst h50
   refine (Zdr N ih u n x v w A A2 mp m hxN gx okx hx ov hv).mono fun e w' ⟨he,hb⟩=>⟨?_,hb⟩
   rw [he]
   simp [Zh,Xz]
  cases hrow:Ua v with
  | false=>
   refine (Zeo k u n [x] v w mp m om ov hrow).mono fun e w' ⟨he,hb⟩=>⟨?_,hb⟩
   rw [he]
   rcases (show k=8∨k=9∨k=10∨k=11 by omega) with rfl|rfl|rfl|rfl<;>simp [Zh,hrow]
  | true=>
   rcases (show k=8∨k=9∨k=10∨k=11 by omega) with rfl|rfl|rfl|rfl
   ·obtain ⟨n0,n1⟩:=h3 rfl
    obtain ⟨q,rfl⟩:∃q:Nat,n=(q:Int):=⟨n.toNat,om⟩
    refine (Zen N ih u q x v w A A2 mp m om hxN gx okx hx ov hv hrow).mono fun e w' ⟨he,hb⟩=>⟨?_,hb⟩
    rw [he]
    simp [Zh,hrow,Xz]
    cases v.l[q]? <;>rfl
   ·refine (QB N ih 9 u n x v w A A2 mp m (.inl rfl) hxN gx okx hx ov hv hrow).mono fun e w' ⟨he,hb⟩=>⟨?_,hb⟩
    rw [he]
    simp [Zh,hrow,Xz]
   ·refine (QB N ih 10 u n x v w A A2 mp m (.inr rfl) hxN gx okx hx ov hv hrow).mono fun e w' ⟨he,hb⟩=>⟨?_,hb⟩
    rw [he]
    simp [Zh,hrow,Xz]
   refine (Zdq N ih u n x v w A A2 mp m hxN gx okx hx ov hrow).mono fun e w' ⟨he,hb⟩=>⟨?_,hb⟩
   rw [he]
   simp [Zh,hrow,Xz]
set_option maxRecDepth 100000
theorem Zfw (p:GP) (w:World) (A:Nat→Prop) (m:PA) (ox:okP p) (hs:Zm p≤1099511627776) (hl:RP w A p m):
  Calls prog 249 #[PV p m] w fun e w'=>e=.returned (.bool (Xo p))∧Below w.heap.size w w':=by
 obtain ⟨na,nb,nc,nd⟩:=m
 have HL:=hid hl
 have OX:=hid ox
 generalize hF:Xo p=F
 have HF:=hid (show (((Zw p).2==0)=F) from hF)
 clear hl ox hF
 go_enter func249,ntmps249
 go_wp2_with (go_at_call 239;refine (Z2 p _ A ⟨na,nb,nc,nd⟩ OX.out hs (by exact Zub ar _ _ HL.out)).mono ?_;rintro e w1 ⟨rfl,hb1⟩)
 go_ret
 exact ⟨XA HF.out,ZtZ⟩
set_option maxRecDepth 512
theorem Zdn (p:GP) (v:GV) (w:World) (A A2:Nat→Prop) (mp:PA) (m:VA) (ox:okP p) (hs:Zm p≤1099511627776) (hl:RP w A p mp) (ov:okV v) (hv:RV w A2 v m.a) (hmay:Xo p=true):
  Calls prog 195 #[PV p mp,VV v m] w fun e w'=>e=.returned (.bool (Zh p v))∧Below w.heap.size w w':=by
 obtain ⟨na,nb,nc,nd⟩:=mp
 obtain ⟨ma,mc⟩:=m
 have HL:=hid hl
 have OX:=hid ox
 have HV:=hid hv
 have OV:=hid ov
 have HM:=hid hmay
 have HG:=hid (Je hmay)
 clear hl ox hv ov hmay
 go_enter func195,ntmps195
 go_wp2_with (first
  | (go_at_call 249;refine (Zfw p _ A ⟨na,nb,nc,nd⟩ OX.out hs (by exact Zub ar _ _ HL.out)).mono ?_;rw [HM.out];rintro e w1 ⟨rfl,hb1⟩;obtain ⟨hc1,hf1⟩:=Za hb1;have hz1:=hb1.size;(try simp at hz1);have y0:w.heap.size < w1.heap.size:=om;have y1:w.heap.size+1 < w1.heap.size:=om)
  | (go_at_call 250;refine (Zdp (Zm p) p v _ A A2 ⟨na,nb,nc,nd⟩ ⟨ma,mc⟩ (Nat.le_refl _) HG.out OX.out (by exact Zub ar _ _ HL.out) OV.out (by exact Zt5 ar _ _ HV.out)).mono ?_;rintro e w2 ⟨rfl,hb2⟩))
 go_ret
 exact ⟨sm,ZtZ⟩
end Go.Proofs.YtkdffbdnjfgpeaaGreat
