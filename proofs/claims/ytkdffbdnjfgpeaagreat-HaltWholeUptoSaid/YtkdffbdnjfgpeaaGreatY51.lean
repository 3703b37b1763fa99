/- Part 52. -/
import Derived.Test.YtkdffbdnjfgpeaaGreatY42
import Derived.Test.YtkdffbdnjfgpeaaGreatY47
set_option linter.all false
namespace Go.Proofs.YtkdffbdnjfgpeaaGreat
open Go.Lib (hid)
open Go Go.RowKit Go.Proofs.Tryz
theorem ZsL (a b:ByteArray) (w:World):Calls prog 63 #[.string a,.string b] w fun e w'=>e=.returned (.int .i64 (Lib.compareBytes a.data.toList b.data.toList))∧w'=w:=
 Any.strings_Compare Tryz.lays106 a b w
set_option maxRecDepth 100000
set_option maxHeartbeats 1000000
theorem Zsg (a b:ByteArray) (w:World) (ha:a.size≤9223372036854775807) (hb:b.size≤9223372036854775807):
  Calls prog 36 #[.string a,.string b] w fun e w'=>e=.returned (.int .i64 (Zry a b))∧w=w':=by
 generalize hF:Zry a b=F
 have HF:=hid hF
 clear hF
 go_enter func36,ntmps36
 go_wp2_with (go_at_call 63;(with_reducible refine (ZsL a b _).mono ?_);rintro e w1 ⟨rfl,rfl⟩)
 all_goals go_ret
 all_goals refine ⟨Zf ?_,rfl⟩
 all_goals rw [←HF.out]
 all_goals unfold Zry
 all_goals (first|rfl|omega|((try simp only [beq_iff_eq,beq_eq_false_iff_ne,bne_iff_ne,bne_eq_false_iff_eq,decide_eq_true_eq,decide_eq_false_iff_not,ne_eq,Bool.and_eq_true,Bool.or_eq_true,Bool.and_eq_false_iff,Bool.or_eq_false_iff,Bool.not_eq_true',Bool.not_eq_false'] at *);(repeat' split)<;>first|rfl|omega|contradiction|(simp_all;done)|(simp_all;omega)))
set_option maxRecDepth 512
abbrev GHs:={ p:GH×VA // p.1.1.size≤1024 }
instance:Inhabited GHs:=⟨⟨((⟨#[]⟩,⟨0,0,[]⟩),⟨none,0⟩),Nat.zero_le _⟩⟩
def Zqc (x:GHs):List Value:=[.string x.1.1.1,.int .u8 x.1.1.2.k,.int .i64 x.1.1.2.n,.slice x.1.2.a x.1.1.2.l.length x.1.2.c]
def ZrW (x y:GHs):Int:=Zry x.1.1.1 y.1.1.1
open Go.Sort in
theorem ZqK (x y:GHs):ltOf ZrW x y=decide (Ka x.1.1.1 < Ka y.1.1.1):=by
 unfold ltOf ZrW
 rw [Zsi]
 unfold Vq
 split
 ·simp;omega
 split<;>simp<;>omega
open Go.Sort in
theorem Zsh:SWO (ltOf ZrW) where
 irrefl x:=by rw [ZqK];simp
 trans x y z h1 h2:=by rw [ZqK] at *;simp at *;omega
 ntrans x y z h1 h2:=by rw [ZqK] at *;simp at *;omega
set_option maxRecDepth 100000
theorem Zta (x y:GHs) (W:World):Calls prog 51 #[.agg (Zqc x).toArray,.agg (Zqc y).toArray] W fun e w'=>e=.returned (.int .i64 (ZrW x y))∧∃q os',w'=Go.Sort.grow (W.drewN q) os':=by
 obtain ⟨⟨⟨sx,x⟩,ax,cx⟩,hx⟩:=x
 obtain ⟨⟨⟨sy,y⟩,ay,cy⟩,hy⟩:=y
 have hc:=fun W=>Zsg sx sy W (by dsimp only at hx;omega) (by dsimp only at hy;omega)
 unfold ZrW Zqc
 dsimp only at hx hy ⊢
 generalize Zry sx sy=r at hc ⊢
 go_enter func51,ntmps51
 go_wp2_with (go_at_call 36;refine (hc _).mono ?_;rintro e w' ⟨rfl,rfl⟩)
 go_ret
 exact ⟨rfl,0,_,by rw [Go.Sort.alloc_eq_grow,Go.Sort.alloc_eq_grow,Go.Sort.grow_grow];rfl⟩
section
open Go Go.RowKit Go.Sort
set_option maxRecDepth 512
theorem ZqQ {w:World} {g n:Nat} {d':Array GHs} {os:Array Obj} {k:Nat} (hk:k≠g) (hw:k < w.heap.size):(sortWorldK Zqc 4 w g 0 n d' os).heap[k]? =w.heap[k]? :=by
 unfold sortWorldK
 rw [heap_grow_old _ _ (by simpa [putRowK,putRow,mapBlock,Sort.ahead] using hw)]
 simp only [putRowK,putRow,mapBlock,Sort.ahead,Array.getElem?_modify]
 rw [if_neg (fun e=>hk e.symm)]
theorem ZrD {w:World} {g n:Nat} {d':Array GHs} {os:Array Obj}:w.heap.size≤(sortWorldK Zqc 4 w g 0 n d' os).heap.size:=by
 simp [sortWorldK,grow,putRowK,putRow,mapBlock,Sort.ahead]
theorem Zrh {w:World} {g n B:Nat} {d':Array GHs} {os:Array Obj} (hB:B≤g) (hw:B≤w.heap.size):Below B w (sortWorldK Zqc 4 w g 0 n d' os):=
 ⟨rfl,rfl,rfl,ZrD,fun k hk=>ZqQ om om⟩
theorem ZqC {w:World} {g n:Nat} {d':Array GHs} {os:Array Obj}:Agree (fun b=>b≠g) w (sortWorldK Zqc 4 w g 0 n d' os):=fun p u hp hc=>by
 have hw:=World.block_lt_of_cell? _ _ hc
 have hh:=ZqQ (n:=n) (d':=d') (os:=os) hp hw
 exact ⟨(World.cell?_of_block (w:=w) hh).trans hc,World.frozen?_of_block (w:=w) hh⟩
def Zto (p:GH×VA):List Value:=[.string p.1.1,.int .u8 p.1.2.k,.int .i64 p.1.2.n,.slice p.2.a p.1.2.l.length p.2.c]
theorem Zri:∀(ps:List (GH×VA)) (i:Nat) (h:i < ps.length) (c:Nat),c < 4→(W0 ps)[i*4+c]? =some ((Zto ps[i])[c]!)
 | (x,m)::r,0,_,c,hc=>by
  simp only [W0,Nat.zero_mul,Nat.zero_add,List.getElem_cons_zero]
  rw [List.getElem?_append_left (by simpa using hc)]
  rcases (show c=0∨c=1∨c=2∨c=3 by omega) with rfl|rfl|rfl|rfl<;>rfl
 | (x,m)::r,i+1,h,c,hc=>by
  have ih:=Zri r i (by simpa using h) c hc
  simp only [W0,List.getElem_cons_succ]
  rw [List.getElem?_append_right (by simp;omega)]
  simp only [List.length_cons,List.length_nil]
  rw [show (i+1)*4+c - (0+1+1+1+1)=i*4+c by omega]
  exact ih
def Zrs (ps:List (GH×VA)) (h:∀p∈ps,p.1.1.size≤1024):Array GHs:=(ps.pmap (fun p hp=>(⟨p,hp⟩:GHs)) h).toArray
theorem Zr7 (ps:List (GH×VA)) (h:∀p∈ps,p.1.1.size≤1024):(Zrs ps h).size=ps.length:=by simp [Zrs]
theorem Zrt (ps:List (GH×VA)) (h:∀p∈ps,p.1.1.size≤1024):(Zrs ps h).toList.map Subtype.val=ps:=by
 unfold Zrs
 rw [List.map_pmap]
 exact List.pmap_eq_self.2 (fun a h=>rfl)
theorem Zq0 (d:Array GHs) (j:Nat) (h:j < d.size*4):(W0 (d.toList.map Subtype.val))[j]? =some (flatK Zqc 4 d)[j]! :=by
 have hi:j / 4 < d.size:=om
 have e:j=j / 4*4+j % 4:=om
 rw [get_flatK _ _ _ _ h]
 conv=>lhs;rw [e]
 rw [Zri _ _ (by simpa using hi) _ (Nat.mod_lt _ om)]
 rw [getElem!_pos d _ hi]
 simp [Zto,Zqc]
def Zs4 (ps:List (GH×VA)) (a:Option Addr) (w w':World):Prop:=
 ∃ps',ps'.Perm ps∧ps'.Pairwise (fun x y=>Ka x.1.1≤Ka y.1.1)∧(ps=[]∨∃g,a=some ⟨g,0,none⟩∧Agree (fun b=>b≠g) w w'∧∀j u,(W0 ps')[j]? =some u→w'.cell? ⟨g,j,none⟩=some u∧w'.frozen? ⟨g,j,none⟩=false)
theorem Zrv (ps:List (GH×VA)) (hsz:∀p∈ps,p.1.1.size≤1024) (hln:ps.length≤1048576) (w:World) (base c:Nat) (a:Option Addr) (hb:base≤w.heap.size) (hown:w.ownsRow base 71 4 (.slice a ps.length c) ps.length (W0 ps)):
  Calls prog 50 #[.slice a ps.length c,.func (.func 51) #[] #[]] w fun e w'=>e=.returned (.tuple #[])∧Below base w w'∧Agree (fun b=>(Value.slice a ps.length c).ownBlock≠some b) w w'∧Zs4 ps a w w':=by
 by_cases hz:ps=[]
 ·subst hz
  exact (AnyF.slices_SortFunc_none (P:=prog) (ρ:=Tryz.sortH_ren) { Tryz.sortH with } a c (.func (.func 51) #[] #[]) w).mono fun e w' ⟨he,hw⟩=>by
   subst hw
   exact ⟨he,Below.refl _ _,fun p u _ hc=>⟨hc,rfl⟩,[],List.Perm.refl _,List.Pairwise.nil,.inl rfl⟩
 have hp:=List.length_pos_iff.2 hz
 obtain ⟨g,cap,e2,hbg,hl⟩:=hown.form om
 obtain ⟨e3, -,e4⟩:=Value.slice.inj e2
 subst e3
 subst e4
 have hd:(Zrs ps hsz).size=ps.length:=Zr7 ps hsz
 have hH:HoldsK Zqc 4 w g 0 (Zrs ps hsz):=fun j hj=>by
  rw [size_flatK] at hj
  have h1:=Zq0 (Zrs ps hsz) j hj
  rw [Zrt] at h1
  have hl':=hown.1
  rw [Nat.zero_add]
  exact ⟨by rw [hown.cellAt j om];exact h1,hown.frozenAt j⟩
 have eg:∀args w,(callFunc 51 args).run prog w=.ok (.enter 51 args) w:=enters_of func51 kr rfl
 have hcon:=AnyQ.slices_SortFunc Tryz.sortH 4 Tryz.isAgg71 Tryz.sizeOf71 Zqc (fun _=>rfl) (fun x v hv=>by simp [Zqc] at hv;rcases hv with rfl|rfl|rfl|rfl<;>rfl) ZrW Zsh 51 #[] g 0 c (Zrs ps hsz) w eg (fun _ _ _ _ x y=>Zta x y _) hH hl om
 rw [hd] at hcon
 refine hcon.mono fun e w' ⟨he,d',n,os,hp',hs',hw'⟩=>?_
 subst hw'
 obtain ⟨hs1, -,hp1⟩:=hp'
 rw [Array.extract_eq_self_of_le om,Array.extract_eq_self_of_le om] at hp1
 refine ⟨he,Zrh hbg hb,fun p u hp hc=>ZqC p u (fun e=>hp (by rw [e];rfl)) hc,d'.toList.map Subtype.val,?_,?_,.inr ⟨g,rfl,ZqC,fun j u hj=>?_⟩⟩
 ·have:=hp1.map Subtype.val
  rwa [Zrt] at this
 ·rw [List.pairwise_map,List.pairwise_iff_getElem]
  intro i j hi hj hij
  have:=hs' i j (Nat.zero_le _) hij (by rw [←hd,←hs1];simpa using hj)
  rw [ZqK,getElem!_pos d' j (by simpa using hj),getElem!_pos d' i (by simpa using hi)] at this
  simpa using this
 have hj2:j < d'.size*4:=by
  have:=(List.getElem?_eq_some_iff.1 hj).1
  rw [Wr] at this
  simpa using this
 have h1:=Zq0 d' j hj2
 rw [h1] at hj
 cases hj
 have h2:=holdsK_grow Zqc 4 (putRowK Zqc 4 (Sort.ahead w n) g 0 d') os g 0 d' (by simpa [putRowK,putRow,mapBlock,Sort.ahead] using hl) (holdsK_putRowK Zqc 4 (Sort.ahead w n) g 0 _ d' (holdsK_ahead Zqc 4 w n g 0 _ hH) hs1)
 have h3:=h2 j (by rw [size_flatK];exact hj2)
 rw [Nat.zero_add] at h3
 exact h3
end
set_option maxRecDepth 512
theorem ZsF {ps:List (GH×VA)} {a:Option Addr} {w w':World} {base c:Nat} (hS:Zs4 ps a w w') (hown:w.ownsRow base 71 4 (.slice a ps.length c) ps.length (W0 ps)) (hrv:∀q∈ps,RV w (Own base (fun _=>False) (.slice a ps.length c)) q.1.2 q.2.a):
  ∃l,l.Perm (ps.map Prod.fst)∧l.Pairwise (fun x y=>Ka x.1≤Ka y.1)∧RJx w' (fun b=>base≤b) l a:=by
 obtain ⟨ps',hp,hs,h⟩:=hS
 refine ⟨ps'.map Prod.fst,hp.map _,by rw [List.pairwise_map];exact hs,?_⟩
 rcases h with rfl|⟨g,rfl,hag,hc⟩
 ·obtain rfl:=hp.eq_nil
  exact ⟨by simp [RJs],[],rfl,.inl rfl⟩
 have hbg:base≤g:=(hown.lt g rfl).1
 have hv:∀q∈ps',RV w' (fun b=>base≤b∧b≠g) q.1.2 q.2.a:=fun q hq=>
  Zt5 (fun p u hp hc=>hag p u hp.2 hc) _ _ (Zt9 (fun b h _=>by
   rcases h with ⟨h, -⟩|⟨h,h2⟩
   ·exact absurd h id
   exact ⟨h,fun e=>h2 (by rw [e];rfl)⟩) _ _ (hrv q (hp.mem_iff.1 hq)))
 refine ⟨ZpJ (A:=fun b=>base≤b) hbg ps' 0 (fun j u hj=>by rw [Nat.zero_add];exact (hc j u hj).1) (fun q hq=>Zt9 (fun b h _=>h.1) _ _ (hv q hq)),ps',rfl,?_⟩
 by_cases hz:ps'=[]
 ·exact .inl hz
 have hn:0 < (W0 ps').length:=by rw [Wr];have:=List.length_pos_iff.2 hz;omega
 exact .inr ⟨g,rfl,hbg,World.block_lt_of_cell? _ _ (hc 0 _ (List.getElem?_eq_getElem hn)).1,fun j u hj=>⟨(hc j u hj).1,fun _=>(hc j u hj).2⟩,hv⟩
set_option maxRecDepth 100000
set_option maxHeartbeats 2000000
theorem Zrk (t:GT) (n:Int) (w:World) (A:Nat→Prop) (m:TA) (ox:okT t) (hs:Zb t≤1099511627776) (hl:RT w A t m) (hE:Zqq t n≠0):
  Calls prog 13 #[TV t m,.int .i64 n] w fun e w'=>e=.returned (.tuple #[.slice none 0 0,.int .i64 (Zqq t n)])∧Below w.heap.size w w':=by
 obtain ⟨ma,mb,mc,md,me,mf,mg,mh,mi,mj,mk,ml⟩:=m
 have HL:=hid hl
 have HC:Hid (∀W,RT W A t ⟨ma,mb,mc,md,me,mf,mg,mh,mi,mj,mk,ml⟩→Calls prog 49 #[TV t ⟨ma,mb,mc,md,me,mf,mg,mh,mi,mj,mk,ml⟩,.int .i64 n] W fun e w'=>e=.returned (.tuple #[.agg #[.slice none 0 0,.int .i64 0,.int .i64 0,.int .i64 0],.int .i64 (Zqq t n)])∧Below W.heap.size W w'):=hid (fun W h=>ZrX t n W A _ ox hs h hE)
 have HSO:Hid (∀W:World,Calls prog 50 #[.slice none 0 0,.func (.func 51) #[] #[]] W fun e w'=>e=.returned (.tuple #[])∧Below W.heap.size W w'):=hid (fun W=>(Zrv [] (fun p hp=>by simp at hp) sm W W.heap.size 0 none (Nat.le_refl _) (World.ownsRow_nil _ _ _ _)).mono fun e w' ⟨h1,h2,_⟩=>⟨h1,h2⟩)
 generalize Zqq t n=E at *
 clear hl ox hE
 go_enter func13,ntmps13
 go_wp2_with (first
  | (go_at_call 49;(with_reducible refine (HC.out _ (by exact Zt2 ar _ _ HL.out)).mono ?_);rintro e w1 ⟨rfl,hb1⟩;have hz1:=hb1.size;(try simp at hz1))
  | (go_at_call 50;(with_reducible refine (HSO.out _).mono ?_);rintro e w2 ⟨rfl,hb2⟩;obtain ⟨hc2,hf2⟩:=Za hb2;have hz2:=hb2.size;(try simp at hz2)))
 go_ret2
 exact ⟨rfl,ZtZ⟩
set_option maxRecDepth 512
def Ztn (t:GT) (n:Nat) (w:World) (e:Ending) (w':World):Prop:=
 Below w.heap.size w w'∧∃a c,e=.returned (.tuple #[.slice a (Zpv t n).length c,.int .i64 0])∧RJx w' (fun b=>w.heap.size≤b) (Zpv t n) a
set_option maxRecDepth 100000
theorem ZrI (t:GT) (n:Nat) (w:World) (A:Nat→Prop) (m:TA) (ox:okT t) (hs:Zb t≤1099511627776) (hl:RT w A t m) (hn:n≤12) (hE:(Z3 t).2=0):
  Calls prog 13 #[TV t m,.int .i64 n] w (Ztn t n w):=by
 obtain ⟨ma,mb,mc,md,me,mf,mg,mh,mi,mj,mk,ml⟩:=m
 have HL:=hid hl
 have HC:Hid (∀W,RT W A t ⟨ma,mb,mc,md,me,mf,mg,mh,mi,mj,mk,ml⟩→Calls prog 49 #[TV t ⟨ma,mb,mc,md,me,mf,mg,mh,mi,mj,mk,ml⟩,.int .i64 n] W (Zqt t n W)):=hid (fun W h=>Zp4 t n W A _ ox hs h hn hE)
 have hin:∀p∈hL t n ⟨#[]⟩,p.1.size≤1024:=fun p hp=>by
  obtain ⟨k,hk,he,hr⟩:=(ZqP hE ox n ⟨#[]⟩ ZpA (by show 0+n≤1024;omega) (ZpR hE ox) p.1 p.2).1 hp
  have hz:=ZpC he
  rw [hz]
  show 0+k≤1024
  omega
 have HIN:=hid hin
 have hll:(hL t n ⟨#[]⟩).length≤4096:=Nat.le_trans (ZqO n ⟨#[]⟩) (ZpP hn)
 have HSD:Hid (∀l:List (ByteArray×GV),l.Perm (hL t n ⟨#[]⟩)→l.Pairwise (fun a b=>Ka a.1≤Ka b.1)→l=Zpv t n):=hid (fun l hp hs=>Zr1 hE ox om hp hs)
 clear hl ox hE hin
 go_enter func13,ntmps13
 go_wp2_with (go_at_call 49;(with_reducible refine (HC.out _ (by exact Zt2 ar _ _ HL.out)).mono ?_);rintro e w1 ⟨hb1,a1,c1,ps,rfl,hps,hown,hrv⟩;have HPS:=hid hps;have HOWN:=hid hown;have HRV:=hid hrv;clear hps hown hrv;have hz1:=hb1.size;(try simp at hz1);have HLEN:ps.length≤4096:=(by have:=congrArg List.length HPS.out;rw [List.length_map] at this;omega))
 go_wp2_with (go_at_call 50;refine (Zrv ps (fun p hp=>HIN.out p.1 (by rw [←HPS.out];exact List.mem_map_of_mem hp)) om _ _ c1 a1 (by (try simp);omega) (HOWN.out.alloc _)).mono ?_;rintro e w2 ⟨rfl,hb2,hag,hS⟩;have HS:=hid hS;have hz2:=hb2.size;(try simp at hz2);have k0:=(hag ⟨w1.heap.size,0,none⟩ (.slice a1 ps.length c1) (fun e=>(by have:=(HOWN.out.lt _ e).2;simp at this)) gs).1)
 obtain ⟨l,hp,hs,hx⟩:=ZsF HS.out (HOWN.out.alloc _) (fun q hq=>Zt5 (ZtY ((Below.refl _ _).alloc (Nat.le_refl _) _)) _ _ (HRV.out q hq))
 rw [HPS.out] at hp
 obtain rfl:=HSD.out l hp hs
 have hlen:ps.length=(Zpv t n).length:=by rw [hp.length_eq,←HPS.out,List.length_map]
 go_ret2
 exact ⟨ZtZ,a1,c1,by rw [←hlen];rfl,RJx.mono (fun b h _=>by (try simp at h);omega) _ _ hx⟩
theorem ZsG (L:List GH) (A A2:Nat→Prop) (w:World) (a b:Option Addr) (c d:Nat) (hln:L.length≤1048576) (ok:∀p∈L,okV p.2) (hx:RJs w A L a) (hy:RJs w A2 L b):
  Calls prog 14 #[.slice a L.length c,.slice b L.length d] w fun e w'=>e=.returned (.bool true)∧Below w.heap.size w w':=by
 have HX:=hid hx
 have HY:=hid hy
 have OK:=hid ok
 clear hx hy ok
 go_enter func14,ntmps14
 go_wp2_with fail
 go_loopg [5] (L.length) (fun gk t5' wr=>∃j:Nat,gk+j=L.length∧t5'=.int .i64 j∧Below w.heap.size w wr)
 case atStart=>exact ⟨0,rfl,rfl,Below.refl _ _⟩
 case round=>
  obtain ⟨j,hj,rfl,hb⟩:=hrel
  by_cases hlt:j < L.length
  ·obtain ⟨b1,o1,m1,rfl, -,hs1,gg,gx⟩:=HX.out.get j hlt
   obtain ⟨b2,o2,m2,rfl, -,hs2,hh,gy⟩:=HY.out.get j hlt
   have ok:=OK.out _ (List.getElem_mem hlt)
   obtain ⟨ma,mc⟩:=m1
   obtain ⟨na,nc⟩:=m2
   obtain ⟨g0,g1,g2,g3⟩:=Zsd.1 (Zuf (ZtY hb) (A:=fun _=>True) trivial _ _ gg)
   obtain ⟨q0,q1,q2,q3⟩:=Zsd.1 (Zuf (ZtY hb) (A:=fun _=>True) trivial _ _ hh)
   have HGX:=hid (Zl.1 (Zt5 (ZtY hb) _ _ gx))
   have HGY:=hid (Zl.1 (Zt5 (ZtY hb) _ _ gy))
   have OKV:=hid ok
   have hz:=hb.size
   have u1:b1 < wr.heap.size:=om
   have u2:b2 < wr.heap.size:=om
   have hjI:(j:Int) < (L.length:Int):=om
   have HSV:=hid (U8 L[j].2)
   clear gx gy ok gg hh
   generalize L[j]=Y at *
   obtain ⟨s,y⟩:=Y
   dsimp only at *
   go_wp2_with fail
   go_region_held3 (fun W=>∀c k,c < wr.heap.size→W.cell? ⟨c,k,none⟩=wr.cell? ⟨c,k,none⟩) ((intro c k hc;refine Below.cell (B:=wr.heap.size) (w:=wr) (p:=⟨c,k,none⟩) ?_ hc;(exact ZtZ))) ((go_at_call 52;refine (QA (Zg y) y y _ (fun _=>True) (fun _=>True) ⟨ma,mc⟩ ⟨na,nc⟩ (Nat.le_refl _) OKV.out OKV.out (by exact Zug (fun _ _ _=>trivial) _ _ (Zt8 ar _ _ HGX.out)) (by exact Zug (fun _ _ _=>trivial) _ _ (Zt8 ar _ _ HGY.out))).mono ?_;rw [HSV.out];rintro e w3 ⟨rfl,hb3⟩;have hz3:=hb3.size;(try simp at hz3)))
   go_wp2_with fail
   go_roundg (gk - 1)
   case measure=>omega
   case rel=>exact ⟨j+1,om,by go_num,ZtZ⟩
  obtain rfl:j=L.length:=om
  go_wp2_with fail
  go_ret
  exact ⟨rfl,hb⟩
theorem Zqx (t:GT) (n:Nat) (L:List GH) (w:World) (A A2:Nat→Prop) (m:TA) (b:Option Addr) (d:Nat) (ox:okT t) (hs:Zb t≤1099511627776) (hl:RT w A t m) (hn:n≤12) (hE:(Z3 t).2=0) (hL:Zpv t n=L) (hln:L.length≤1048576) (ok:∀p∈L,okV p.2) (hy:RJs w A2 L b):
  Calls prog 30 #[TV t m,.int .i64 n,.slice b L.length d] w fun e w'=>e=.returned (.bool true)∧Below w.heap.size w w':=by
 obtain ⟨ma,mb,mc,md,me,mf,mg,mh,mi,mj,mk,ml⟩:=m
 have HL:=hid hl
 have HY:=hid hy
 have HALL:Hid (∀W,RT W A t ⟨ma,mb,mc,md,me,mf,mg,mh,mi,mj,mk,ml⟩→Calls prog 13 #[TV t ⟨ma,mb,mc,md,me,mf,mg,mh,mi,mj,mk,ml⟩,.int .i64 n] W fun e w'=>Below W.heap.size W w'∧∃a c,e=.returned (.tuple #[.slice a L.length c,.int .i64 0])∧RJx w' (fun b=>W.heap.size≤b) L a):=hid (fun W h=>by have:=ZrI t n W A _ ox hs h hn hE;unfold Ztn at this;rw [hL] at this;exact this)
 have HSM:Hid (∀W a c,RJs W (fun _=>True) L a→RJs W A2 L b→Calls prog 14 #[.slice a L.length c,.slice b L.length d] W fun e w'=>e=.returned (.bool true)∧Below W.heap.size W w'):=hid (fun W a c h h'=>ZsG L _ A2 W a b c d hln ok h h')
 clear hl hy ox hE hL ok
 go_enter func30,ntmps30
 go_wp2_with (first
  | (go_at_call 13;(with_reducible refine (HALL.out _ (by exact Zt2 ar _ _ HL.out)).mono ?_);rintro e w1 ⟨hb1,a1,c1,rfl,hx⟩;have HX:=hid (RJs.mono (A':=fun _=>True) (fun _ _ _=>trivial) _ _ hx.1);clear hx;have hz1:=hb1.size;(try simp at hz1))
  | (go_at_call 14;(with_reducible refine (HSM.out _ a1 c1 (by exact HX.out) (by exact RJs.ext ar _ _ HY.out)).mono ?_);rintro e w2 ⟨rfl,hb2⟩))
 go_ret
 exact ⟨rfl,ZtZ⟩
set_option maxRecDepth 512
theorem Ztp:(prog.info? 68).map (fun i=>(i.zero,i.size,i.bytes))=some (some (.agg #[.string ⟨#[]⟩,.int .u8 0,.int .i64 0,.slice none 0 0]),4,56):=kr
abbrev ZpU (s:ByteArray) (n:Int):List Value:=[.string s,.int .u8 1,.int .i64 n,.slice none 0 0]
def ps3:List (GH×VA):=h3.map fun x=>(x,⟨none,0⟩)
def ps6:List (GH×VA):=h6.map fun x=>(x,⟨none,0⟩)
theorem Zrr:W0 ps3=ZpU ⟨#[48,48]⟩ 0++ZpU ⟨#[48,49]⟩ 1++ZpU ⟨#[49,48]⟩ 2:=kr
theorem ZsD:W0 ps6=W0 ps3++(ZpU ⟨#[49,49,48,48]⟩ 0++ZpU ⟨#[49,49,48,49]⟩ 1++ZpU ⟨#[49,49,49,48]⟩ 2):=kr
abbrev ZqA:Value:=.agg #[.int .u8 2,.int .u8 0,.int .i64 0,.slice none 0 0,.slice none 0 0,.int .i64 0,.int .i64 2,.slice none 0 0,.int .u8 0,.int .u8 0,.int .i64 0,.slice none 0 0,.int .i64 0,.slice none 0 0,.slice none 0 0]
theorem Zs3 (w:World):Calls prog 27 #[.int .i64 0,.int .i64 2] w fun e w'=>e=.returned ZqA∧Below w.heap.size w w':=ZsH 0 2 w
abbrev Ztj:Value:=.agg #[.int .u8 1,.int .u8 1,.int .i64 7,.slice none 0 0,.slice none 0 0,.int .i64 0,.int .i64 0,.slice none 0 0,.int .u8 0,.int .u8 0,.int .i64 0,.slice none 0 0,.int .i64 0,.slice none 0 0,.slice none 0 0]
theorem Ztt (w:World):Calls prog 26 #[.int .i64 7] w fun e w'=>e=.returned Ztj∧Below w.heap.size w w':=Zsv 7 w
theorem ZrK {w:World} {A:Nat→Prop} (q:GH×VA) (h:q∈ps6):RV w A q.1.2 q.2.a:=by
 have:q.1.2.l=[]:=by
  simp [ps6,h6,h3] at h
  rcases h with rfl|rfl|rfl|rfl|rfl|rfl<;>rfl
 rw [Zl,this]
 simp only [RVs]
theorem Zs5:∀p∈h6,okV p.2:=fun p hp=>by
 simp [h6,h3] at hp
 rcases hp with rfl|rfl|rfl|rfl|rfl|rfl<;>exact ZA.2 ⟨by unfold Yg;simp,by unfold Zv;simp,sm,by simp [okVs]⟩
theorem ZpE {k:Int} (h: -9223372036854775808≤k∧k≤9223372036854775807):Zv k:=by unfold Zv;omega
theorem ZsQ (W:World) (b:Option Addr) (d:Nat) (h:RJs W (fun _=>True) h3 b):Calls prog 30 #[ZqA,.int .i64 3,.slice b 3 d] W fun e w'=>e=.returned (.bool true)∧Below W.heap.size W w':=
 Zqx (Yh 0 2) 3 h3 W (fun _=>True) (fun _=>True) VZ b d (ZaW 0 2 (ZpE om) (ZpE om)) (J4 0 2) (Zgy 0 2) om ehs eh3 (by simp [h3]) (fun p hp=>Zs5 p (by simp [h6,hp])) h
theorem ZsR (W:World) (b:Option Addr) (d:Nat) (h:RJs W (fun _=>True) h6 b):Calls prog 30 #[ZqA,.int .i64 4,.slice b 6 d] W fun e w'=>e=.returned (.bool true)∧Below W.heap.size W w':=
 Zqx (Yh 0 2) 4 h6 W (fun _=>True) (fun _=>True) VZ b d (ZaW 0 2 (ZpE om) (ZpE om)) (J4 0 2) (Zgy 0 2) om ehs eh6 (by simp [h6,h3]) Zs5 h
theorem ZsP (W:World) (g d:Nat) (k0:W.cell? ⟨g,0,none⟩=some (.string ⟨#[]⟩)) (k1:W.cell? ⟨g,1,none⟩=some (.int .u8 1)) (k2:W.cell? ⟨g,2,none⟩=some (.int .i64 7)) (k3:W.cell? ⟨g,3,none⟩=some (.slice none 0 0)):
  Calls prog 30 #[Ztj,.int .i64 0,.slice (some ⟨g,0,none⟩) 1 d] W fun e w'=>e=.returned (.bool true)∧Below W.heap.size W w':=
 Zqx (ZpB 7) 0 h7 W (fun _=>True) (fun _=>True) VZ (some ⟨g,0,none⟩) d (Zsz 7 (ZpE om)) (Zru 7) (Zts 7) om ehn eh7 (by simp [h7]) (fun p hp=>by
  simp [h7] at hp
  subst hp
  exact ZA.2 ⟨by unfold Yg;simp,by unfold Zv;simp,sm,by simp [okVs]⟩)
  (by
   simp only [h7,RJs]
   exact ⟨g,0,⟨none,0⟩,rfl,trivial,Zsd.2 ⟨k0,k1,k2,k3⟩,by rw [Zl];simp only [RVs],trivial⟩)
theorem Zs0 (W:World):Calls prog 28 #[ZqA,.int .i64 2,.int .i64 0,.agg #[.int .i64 1,.int .i64 4],.agg #[.int .i64 1,.int .i64 4],.agg #[.int .i64 0,.int .i64 1],.agg #[.int .i64 2,.int .i64 1]] W fun e w'=>e=.returned (.bool true)∧Below W.heap.size W w':=
 Zqy (Yh 0 2) 2 0 1 4 1 4 0 1 2 1 _ _ _ _ W (fun _=>True) VZ (ZaW 0 2 (ZpE om) (ZpE om)) (J4 0 2) (Zgy 0 2) om ehs (ZpE om) er1 er2 er3 er4 kr kr kr kr om om om om
theorem Zs1 (W:World):Calls prog 28 #[ZqA,.int .i64 4,.int .i64 0,.agg #[.int .i64 5,.int .i64 16],.agg #[.int .i64 1,.int .i64 16],.agg #[.int .i64 0,.int .i64 1],.agg #[.int .i64 5,.int .i64 2]] W fun e w'=>e=.returned (.bool true)∧Below W.heap.size W w':=
 Zqy (Yh 0 2) 4 0 5 16 1 16 0 1 5 2 _ _ _ _ W (fun _=>True) VZ (ZaW 0 2 (ZpE om) (ZpE om)) (J4 0 2) (Zgy 0 2) om ehs (ZpE om) es1 es2 es3 es4 kr kr kr kr om om om om
theorem ZsZ (W:World):Calls prog 28 #[Ztj,.int .i64 0,.int .i64 7,.agg #[.int .i64 1,.int .i64 1],.agg #[.int .i64 0,.int .i64 1],.agg #[.int .i64 0,.int .i64 1],.agg #[.int .i64 0,.int .i64 1]] W fun e w'=>e=.returned (.bool true)∧Below W.heap.size W w':=
 Zqy (ZpB 7) 0 7 1 1 0 1 0 1 0 1 _ _ _ _ W (fun _=>True) VZ (Zsz 7 (ZpE om)) (Zru 7) (Zts 7) om ehn (ZpE om) en1 en2 en3 en4 kr kr kr kr om om om om
theorem Zs9 (W:World):Calls prog 13 #[ZqA,.int .i64 13] W fun e w'=>e=.returned (.tuple #[.slice none 0 0,.int .i64 1])∧Below W.heap.size W w':=by
 have e:Zqq (Yh 0 2) 13=1:=by unfold Zqq;rw [if_pos om]
 have:=Zrk (Yh 0 2) 13 W (fun _=>True) VZ (ZaW 0 2 (ZpE om) (ZpE om)) (J4 0 2) (Zgy 0 2) (by rw [e];omega)
 rw [e] at this
 exact this
set_option maxRecDepth 100000
set_option maxHeartbeats 4000000
theorem ZrU (w:World):Calls prog 11 #[] w fun e w'=>e=.returned (.bool true)∧Below w.heap.size w w':=by
 obtain ⟨i0,hi0,y0,y1,y2⟩:=info_parts Ztp
 go_enter func11,ntmps11
 go_upto_region 4 with (first
  | (go_at_call 27;(with_reducible refine (Zs3 _).mono ?_);rintro e w1 ⟨rfl,hb1⟩;have hz1:=hb1.size;(try simp at hz1))
  | (go_at_call 46;(with_reducible refine (Zqe _ _).mono ?_);rintro e w2 ⟨rfl,hb2⟩;have hz2:=hb2.size;(try simp at hz2);obtain ⟨hc2,hf2⟩:=Za hb2;have u2:w1.heap.size < w2.heap.size:=om))
 obtain ⟨b3,hb3⟩:∃b3,b3=w2.heap.size:=⟨_,rfl⟩
 rw [←hb3]
 refine ZT (fun W=>Below w.heap.size w W∧w1.heap.size < W.heap.size∧b3 < W.heap.size∧Hid (At W w1.heap.size 0 [.int .u8 2,.int .u8 0,.int .i64 0,.slice none 0 0,.slice none 0 0,.int .i64 0,.int .i64 2,.slice none 0 0,.int .u8 0,.int .u8 0,.int .i64 0,.slice none 0 0,.int .i64 0,.slice none 0 0,.slice none 0 0])∧Hid (∀j u,(W0 ps3)[j]? =some u→W.cell? ((⟨b3,0,none⟩:Addr).add j)=some u)) ⟨ZtZ,by simp;omega,by simp;omega,hid (ZO.2 ⟨gs,gs,gs,gs,gs,gs,gs,gs,gs,gs,gs,gs,gs,gs,gs⟩),hid (by rw [Zrr,hb3];exact fun j u hu=>World.news_of_block (heap_alloc_new w2 _) j u (by simpa using hu))⟩ ?_
 rintro wa ⟨hba,hza,hzb,HT,HC3⟩
 clear hc2 hf2 u2 hb3
 have hzw:=hba.size
 go_upto_region 5 with (first
  | (at_builtin;refine wpList_append_lies _ rfl _ _ 34 rfl w.heap.size 68 i0 _ 4 56 underlying34 hi0 y0 y1 y2 rfl (by decide) _ 0 [] (by rfl) (World.ownsRow_made wa _ 0 hzw (by unfold maxLen;omega) rfl) ⟨b3,0,none⟩ 3 3 (W0 ps3) (by rfl) (by rfl) (fun j u hu=>(Below.cell (Below.alloc (Below.refl wa.heap.size wa) (Nat.le_refl _) _) (World.block_lt_of_cell? _ _ (HC3.out j u hu))).trans (HC3.out j u hu)) (by rw [Zrr];simp [Value.oneCell']) (by decide) (by unfold maxLen;omega) om (by simp;omega) (wa.heap.size+1) sm ?_;intro g cap w4 hown hgrow hat hlt1;have HOWN4:Hid (w4.ownsRow w.heap.size 68 4 (.slice (some ⟨g,0,none⟩) 3 cap) 3 (W0 ps3)):=hid (by simpa using hown);have hb4:Below wa.heap.size wa w4:=Below.grown ((Below.refl _ _).alloc (Nat.le_refl _) _) hgrow sm (fun k e=>(by cases e;exact Nat.le_refl _));have hz4:=hb4.size;have hlt4:g < w4.heap.size:=(HOWN4.out.lt g rfl).2;have hg4:wa.heap.size≤g:=(by rcases hat with h|h<;>first|(cases h;exact Nat.le_refl _)|omega|(simp at h;omega));clear hown hgrow hat)
  | (go_at_call 46;(with_reducible refine (Zqe _ _).mono ?_);rintro e w5 ⟨rfl,hb5⟩;have hz5:=hb5.size;(try simp at hz5))
  | (at_builtin;refine wpList_append_lies _ rfl _ _ 34 rfl w.heap.size 68 i0 _ 4 56 underlying34 hi0 y0 y1 y2 rfl (by decide) _ 3 (W0 ps3) (by rfl) ((ZR (B:=w4.heap.size) HOWN4.out ZtZ (fun k e=>(by cases e;exact hlt4))).alloc _) ⟨w5.heap.size,0,none⟩ 3 3 (ZpU ⟨#[49,49,48,48]⟩ 0++ZpU ⟨#[49,49,48,49]⟩ 1++ZpU ⟨#[49,49,49,48]⟩ 2) (by rfl) (by rfl) (fun j u hu=>World.news_of_block (heap_alloc_new w5 _) j u (by simpa using hu)) (by simp [Value.oneCell']) (by decide) (by unfold maxLen;omega) om (by simp;omega) (w5.heap.size+1) sm ?_;intro g6 cap6 w6 hown hgrow hat hlt6;have HOWN6:Hid (w6.ownsRow w.heap.size 68 4 (.slice (some ⟨g6,0,none⟩) 6 cap6) 6 (W0 ps6)):=hid (by rw [ZsD];exact hown);have HG6:=hid hgrow;have HAT6:=hid hat;clear hown hgrow hat))
 have hb6:Below wa.heap.size w5 w6:=Below.grown ((Below.refl _ _).alloc om _) HG6.out (by simp;omega) (fun k e=>by cases e;exact hg4)
 have hbw6:Below wa.heap.size wa w6:=ZtZ
 have hr6:RJs w6 (fun _=>True) h6 (some ⟨g6,0,none⟩):=by
  obtain ⟨a,c,e,h⟩:=ZqM (ps:=ps6) (A:=fun _=>True) HOWN6.out (fun _ _=>trivial) (fun q hq=>ZrK q hq)
  obtain ⟨e1, -, -⟩:=Value.slice.inj e
  rw [e1]
  exact h
 have hr3:RJs w6 (fun _=>True) h3 (some ⟨b3,0,none⟩):=RJs.ext (A:=fun _=>True) (ZtY hbw6) _ _ (ZpJ (A:=fun _=>True) trivial ps3 0 (fun j u hj=>by have:=HC3.out j u hj;rw [Nat.zero_add];simpa [Addr.add] using (by by_cases h0:j=0<;>simp_all [Addr.add])) (fun q hq=>ZrK q (by simp [ps6,ps3,h6] at hq ⊢;exact .inl hq)))
 have HR3:=hid hr3
 have HR6:=hid hr6
 have HT6:=hid (Zuf (ZtY hbw6) (A:=fun _=>True) trivial _ _ HT.out)
 have hb06:Below w.heap.size w w6:=hba.trans (hbw6.mono hzw)
 have hz6:=hbw6.size
 have hy6:w1.heap.size < w6.heap.size:=om
 clear hb4 hb5 hb6 HOWN4 HOWN6 HG6 HAT6 HC3 HT hr3 hr6 hbw6
 obtain ⟨c0,c1,c2,c3,c4,c5,c6,c7,c8,c9,ca,cb,cc,cd,ce⟩:=ZO.1 HT6.out
 go_wp2_with (go_at_call 13;refine (Zs9 _).mono ?_;rintro e w7 ⟨rfl,hb7⟩;have hz7:=hb7.size;(try simp at hz7))
 have hb67:Below w6.heap.size w6 w7:=ZtZ
 have d0:=(hb7.cell (p:=⟨w6.heap.size,0,none⟩) (by simp;omega)).trans (show _=some (.int .i64 0) from gs)
 have d1:=(hb7.cell (p:=⟨w6.heap.size,1,none⟩) (by simp;omega)).trans (show _=some (.int .i64 1) from gs)
 have n0:=(hb7.cell (p:=⟨w6.heap.size+1,0,none⟩) sm).trans (show _=some (.int .i64 1) from gs)
 have n1:=(hb7.cell (p:=⟨w6.heap.size+1,1,none⟩) sm).trans (show _=some (.int .i64 1) from gs)
 have HQ3:=hid (RJs.ext (A:=fun _=>True) (ZtY hb67) _ _ HR3.out)
 have HQ6:=hid (RJs.ext (A:=fun _=>True) (ZtY hb67) _ _ HR6.out)
 have HQT:=hid (Zuf (ZtY hb67) (A:=fun _=>True) trivial _ _ HT6.out)
 have hbw7:Below w.heap.size w w7:=ZtZ
 clear hb7 hb67 HR3 HR6 HT6 c0 c1 c2 c3 c4 c5 c6 c7 c8 c9 ca cb cc cd ce hb06
 obtain ⟨c0,c1,c2,c3,c4,c5,c6,c7,c8,c9,ca,cb,cc,cd,ce⟩:=ZO.1 HQT.out
 have l1:w1.heap.size < w7.heap.size:=om
 have l2:w6.heap.size < w7.heap.size:=om
 have l3:w6.heap.size+1 < w7.heap.size:=om
 go_region_held3 (fun W=>∀c k,c < w7.heap.size→W.cell? ⟨c,k,none⟩=w7.cell? ⟨c,k,none⟩) ((intro c k hc;refine Below.cell (B:=w7.heap.size) (w:=w7) (p:=⟨c,k,none⟩) ?_ hc;(exact ZtZ))) ((first|(go_at_call 30;(with_reducible refine (ZsQ _ (some ⟨b3,0,none⟩) _ (by exact RJs.ext ar _ _ HQ3.out)).mono ?_);rintro e w8 ⟨rfl,hb8⟩;have hz8:=hb8.size;(try simp at hz8))|(go_at_call 30;(with_reducible refine (ZsR _ (some ⟨g6,0,none⟩) _ (by exact RJs.ext ar _ _ HQ6.out)).mono ?_);rintro e w8 ⟨rfl,hb8⟩;have hz8:=hb8.size;(try simp at hz8))|(go_at_call 28;(with_reducible refine (Zs0 _).mono ?_);rintro e w8 ⟨rfl,hb8⟩;have hz8:=hb8.size;(try simp at hz8))|(go_at_call 28;(with_reducible refine (Zs1 _).mono ?_);rintro e w8 ⟨rfl,hb8⟩;have hz8:=hb8.size;(try simp at hz8))|(go_at_call 28;(with_reducible refine (ZsZ _).mono ?_);rintro e w8 ⟨rfl,hb8⟩;have hz8:=hb8.size;(try simp at hz8))|(go_at_call 26;(with_reducible refine (Ztt _).mono ?_);rintro e w8 ⟨rfl,hb8⟩;have hz8:=hb8.size;(try simp at hz8))|(go_at_call 46;(with_reducible refine (Zqe 7 _).mono ?_);rintro e w9 ⟨rfl,hb9⟩;have hz9:=hb9.size;(try simp at hz9))|(go_at_call 30;(with_reducible refine (ZsP _ w9.heap.size _ gs gs gs gs).mono ?_);rintro e w8 ⟨rfl,hb8⟩;have hz8:=hb8.size;(try simp at hz8))|fail "no arm"))
 go_wp2_with fail
 go_ret
 exact ⟨rfl,ZtZ⟩
end Go.Proofs.YtkdffbdnjfgpeaaGreat
