/- What the proofs of the Trial statements need: part 34. -/
import Derived.Deep.RegionHeld3
import Derived.IntWalk
import Derived.Maps.AppendAt
import Derived.Test.YtojjdneicmbfjaaGreatDoorQ0
import Derived.Test.YtojjdneicmbfjaaGreatDoorQ10
import Derived.Test.YtojjdneicmbfjaaGreatDoorQ21
import Derived.Test.YtojjdneicmbfjaaGreatDoorQ24
import Derived.Test.YtojjdneicmbfjaaGreatDoorQ27
import Derived.Test.YtojjdneicmbfjaaGreatDoorQ28
import Derived.Test.YtojjdneicmbfjaaGreatDoorQ32
import Derived.Test.YtojjdneicmbfjaaGreatDoorQ36
import Derived.Test.YtojjdneicmbfjaaGreatDoorQ37
set_option linter.unusedVariables false
set_option linter.unusedSimpArgs false
namespace Go.Proofs.YtojjdneicmbfjaaGreatDoor
open Go.Lib (hid)
open Go Go.RowKit
theorem sampler_any (c:Nat) (s:ByteArray) (S:Nat) (hS:S≤1099511627776) (hb:isBits s=true):∀f,SamIH c s S f:=by
 intro f
 induction f with
 | zero=>
  intro t e i w m a hg ox hs he hi hwk
  obtain ⟨k,n,hw⟩:=hwk
  exact absurd rfl hw
 | succ f ih=>
  intro t e i w m a hg ox hs he hi hwk hc hr hv
  have hk:=(node_ok (goodT_eq.1 hg).1).1
  rcases (by omega:t.k=1∨t.k=2∨t.k=3∨t.k=4∨t.k=5∨t.k=6∨t.k=7∨t.k=8∨t.k=9∨t.k=10∨t.k=11) with h|h|h|h|h|h|h|h|h|h|h
  ·exact sam_1 c s f t e i w m a hb hg ox h hc hr
  ·exact sam_2 c s f t e i w m a hb hg ox hi h hc hr
  ·exact sam_3 c s S f hS ih t e i w m a hb hg ox hs he hi hwk h hc hr hv
  ·exact sam_4 c s S f hS t e i w m a hb hg ox hi h hc hr
  ·exact sam_5 c s S f hS ih t e i w m a hb hg ox hs he hi hwk h hc hr hv
  ·exact sam_6 c s S f hS ih t e i w m a hb hg ox hs he hi (wk_args (by omega) hwk) h hc hr hv
  ·exact sam_7 c s S f hS ih t e i w m a hb hg ox hs he hi hwk h hc hr hv
  ·exact sam_8 c s S f hS ih t e i w m a hb hg ox hs he hi hwk h hc hr hv
  ·exact sam_9 c s S f hS ih t e i w m a hb hg ox hs he hi hwk h hc hr hv
  ·exact sam_10 c s S f hS ih t e i w m a hb hg ox hs he hi hwk h hc hr hv
  ·exact sam_11 c s S f hS ih t e i w m a hg he hi hwk h hc hv
theorem run_any (t:GT) (s:ByteArray) (w:World) (A:Nat→Prop) (m:TA) (ox:okT t) (hs:sizeT t≤1099511627776) (hl:RT w A t m) (hss:s.size≤9223372036854775807):
  Calls Tryz.prog 30 #[TV t m,.string s] w (RunR t s w):=
 run_of t s w A m (fun hb c=>sampler_any c s (sizeT t) hs hb 4098) ox hs hl hss
theorem run_ok (t:GT) (s:ByteArray) (w:World) (A:Nat→Prop) (m:TA) (ox:okT t) (hs:sizeT t≤1099511627776) (hl:RT w A t m) (hss:s.size≤9223372036854775807) (hE:runE t s=0) (v:GV) (j:Nat) (hr:runT s t=.ok v j):
  Calls Tryz.prog 30 #[TV t m,.string s] w fun e w'=>Below w.heap.size w w'∧∃m:VA,e=.returned (.tuple #[.agg #[.int .u8 1,.int .u8 v.k,.int .i64 v.n,.slice m.a v.l.length m.c,.int .i64 j],.int .i64 0])∧RV w' (fun b=>w.heap.size≤b) v m.a:=
 (run_any t s w A m ox hs hl hss).mono fun e w' h=>by
  obtain ⟨hb,h⟩:=h
  rw [hE,hr] at h
  unfold RunV at h
  rw [if_neg (by simp)] at h
  exact ⟨hb,h⟩
theorem run_no (t:GT) (s:ByteArray) (w:World) (A:Nat→Prop) (m:TA) (ox:okT t) (hs:sizeT t≤1099511627776) (hl:RT w A t m) (hss:s.size≤9223372036854775807) (hE:runE t s=0) (k:Nat) (hr:runT s t=.no k):
  Calls Tryz.prog 30 #[TV t m,.string s] w fun e w'=>Below w.heap.size w w'∧e=.returned (.tuple #[.agg #[.int .u8 k,.int .u8 0,.int .i64 0,.slice none 0 0,.int .i64 0],.int .i64 0]):=
 (run_any t s w A m ox hs hl hss).mono fun e w' h=>by
  obtain ⟨hb,h⟩:=h
  rw [hE,hr] at h
  unfold RunV at h
  rw [if_neg (by simp)] at h
  exact ⟨hb,h⟩
theorem run_err (t:GT) (s:ByteArray) (w:World) (A:Nat→Prop) (m:TA) (ox:okT t) (hs:sizeT t≤1099511627776) (hl:RT w A t m) (hss:s.size≤9223372036854775807):
  Calls Tryz.prog 30 #[TV t m,.string s] w fun e w'=>Below w.heap.size w w'∧∃(k:Int) (v:GV) (m:VA) (n:Int),e=.returned (.tuple #[.agg #[.int .u8 k,.int .u8 v.k,.int .i64 v.n,.slice m.a v.l.length m.c,.int .i64 n],.int .i64 (runE t s)]):=
 (run_any t s w A m ox hs hl hss).mono fun e w' h=>by
  obtain ⟨hb,h⟩:=h
  refine ⟨hb,?_⟩
  unfold RunV at h
  split at h
  ·exact ⟨0,zeroV,⟨none,0⟩,0,h⟩
  ·rename_i h0
   have h0:runE t s=0:=by simpa using h0
   rw [h0]
   split at h
   ·obtain ⟨m,h,_⟩:=h
    exact ⟨1,_,m,_,h⟩
   ·exact ⟨_,zeroV,⟨none,0⟩,0,h⟩
set_option maxRecDepth 100000 in
set_option maxHeartbeats 2000000 in
theorem trialWrong_any (t:GT) (p:GP) (s:ByteArray) (n:Int) (w:World) (A A2:Nat→Prop) (m:TA) (mp:PA) (ox:okT t) (hs:sizeT t≤1099511627776) (hl:RT w A t m) (op:okP p) (hp:sizeP p≤1099511627776) (hr:RP w A2 p mp) (hss:s.size≤9223372036854775807):
  Calls Tryz.prog 60 #[TV t m,PV p mp,.string s,.int .i64 n] w fun e w'=>e=.returned (.int .i64 (cutE t p s n))∧Below w.heap.size w w':=by
 obtain ⟨ma,mb,mc,md,me,mf,mg,mh,mi,mj,mk,ml⟩:=m
 obtain ⟨na,nb,nc,nd⟩:=mp
 have HL:=hid hl
 have HR:=hid hr
 have OX:=hid ox
 have OP:=hid op
 clear hl hr ox op
 have hF:cutE t p s n=if runE t s≠0 then runE t s else if (checkPE p).2≠0 then (checkPE p).2 else if n < 0∨1000 < n then 1 else 0:=rfl
 rw [hF]
 clear hF
 by_cases h1:runE t s=0
 case neg=>
  rw [if_pos h1]
  have h1':(runE t s != 0)=true:=by simp [h1]
  clear h1
  go_enter Tryz.func60,Tryz.ntmps60
  go_wp2_with (go_at_call 30;refine (run_err t s _ A ⟨ma,mb,mc,md,me,mf,mg,mh,mi,mj,mk,ml⟩ OX.out hs (by exact RT.ext (Agree.below Below.z) _ _ HL.out) hss).mono ?_;rintro e w1 ⟨hb1,k,v,m,n1,rfl⟩;have hz1:=hb1.size;(try simp at hz1))
  go_ret
  exact ⟨rfl,Below.z⟩
 have h1':(runE t s != 0)=false:=by simp [h1]
 rw [if_neg (by simp [h1])]
 clear h1
 by_cases h2:(checkPE p).2=0
 case neg=>
  rw [if_pos h2]
  have h2':((checkPE p).2 != 0)=true:=by simp [h2]
  clear h2
  go_enter Tryz.func60,Tryz.ntmps60
  go_wp2_with (first
   | (go_at_call 30;refine (run_err t s _ A ⟨ma,mb,mc,md,me,mf,mg,mh,mi,mj,mk,ml⟩ OX.out hs (by exact RT.ext (Agree.below Below.z) _ _ HL.out) hss).mono ?_;rintro e w1 ⟨hb1,k,v,m,n1,rfl⟩;have hz1:=hb1.size;(try simp at hz1);obtain ⟨hc1,hf1⟩:=bcells hb1;have y0:w.heap.size+1 < w1.heap.size:=(by omega))
   | (go_at_call 46;refine (checkP_any p _ A2 ⟨na,nb,nc,nd⟩ OP.out hp (by exact RP.ext (Agree.below Below.z) _ _ HR.out)).mono ?_;rintro e w2 ⟨rfl,hb2⟩))
  go_ret
  exact ⟨rfl,Below.z⟩
 have h2':((checkPE p).2 != 0)=false:=by simp [h2]
 rw [if_neg (by simp [h2])]
 clear h2
 generalize hF:(if n < 0∨1000 < n then (1:Int) else 0)=F
 have HF:=hid hF
 clear hF
 go_enter Tryz.func60,Tryz.ntmps60
 go_wp2_with (first
  | (go_at_call 30;refine (run_err t s _ A ⟨ma,mb,mc,md,me,mf,mg,mh,mi,mj,mk,ml⟩ OX.out hs (by exact RT.ext (Agree.below Below.z) _ _ HL.out) hss).mono ?_;rintro e w1 ⟨hb1,k,v,m,n1,rfl⟩;have hz1:=hb1.size;(try simp at hz1);obtain ⟨hc1,hf1⟩:=bcells hb1;have y0:w.heap.size+1 < w1.heap.size:=(by omega))
  | (go_at_call 46;refine (checkP_any p _ A2 ⟨na,nb,nc,nd⟩ OP.out hp (by exact RP.ext (Agree.below Below.z) _ _ HR.out)).mono ?_;rintro e w2 ⟨rfl,hb2⟩))
 all_goals go_ret
 all_goals refine ⟨ret_int ?_,Below.z⟩
 all_goals rw [←HF.out]
 all_goals (first|rfl|omega|((try simp only [beq_iff_eq,beq_eq_false_iff_ne,bne_iff_ne,bne_eq_false_iff_eq,decide_eq_true_eq,decide_eq_false_iff_not,ne_eq,Bool.and_eq_true,Bool.or_eq_true,Bool.and_eq_false_iff,Bool.or_eq_false_iff,Bool.not_eq_true',Bool.not_eq_false'] at *);(repeat' split)<;>first|rfl|omega|contradiction|(simp_all;done)|(simp_all;omega)))
def CutV (R:List GR×Int) (w:World) (e:Ending) (w':World):Prop:=∃a c,e=.returned (.tuple #[.slice a R.1.length c,.int .u8 R.2,.int .i64 0])∧RRs w' (fun b=>w.heap.size≤b) R.1 a
def CutC (R:List GR×Int) (w:World) (e:Ending) (w':World):Prop:=∃a c,e=.returned (.tuple #[.slice a R.1.length (R.1.length+c),.int .u8 R.2,.int .i64 0])∧RRs w' (fun b=>w.heap.size≤b) R.1 a
set_option maxRecDepth 100000 in
set_option maxHeartbeats 2000000 in
theorem cut_err (t:GT) (p:GP) (s:ByteArray) (n:Int) (w:World) (A A2:Nat→Prop) (m:TA) (mp:PA) (ox:okT t) (hs:sizeT t≤1099511627776) (hl:RT w A t m) (op:okP p) (hp:sizeP p≤1099511627776) (hr:RP w A2 p mp) (hss:s.size≤9223372036854775807) (hE:cutE t p s n≠0):
  Calls Tryz.prog 34 #[TV t m,PV p mp,.string s,.int .i64 n] w fun e w'=>e=.returned (.tuple #[.slice none 0 0,.int .u8 0,.int .i64 (cutE t p s n)])∧Below w.heap.size w w':=by
 obtain ⟨ma,mb,mc,md,me,mf,mg,mh,mi,mj,mk,ml⟩:=m
 obtain ⟨na,nb,nc,nd⟩:=mp
 have HL:=hid hl
 have HR:=hid hr
 have OX:=hid ox
 have OP:=hid op
 have h1:(cutE t p s n != 0)=true:=by simp [hE]
 clear hl hr ox op hE
 go_enter Tryz.func34,Tryz.ntmps34
 go_wp2_with (go_at_call 60;refine (trialWrong_any t p s n _ A A2 ⟨ma,mb,mc,md,me,mf,mg,mh,mi,mj,mk,ml⟩ ⟨na,nb,nc,nd⟩ OX.out hs (by exact RT.ext (Agree.below Below.z) _ _ HL.out) OP.out hp (by exact RP.ext (Agree.below Below.z) _ _ HR.out) hss).mono ?_;rintro e w1 ⟨rfl,hb1⟩)
 refine bodyPost_ret (v:=.tuple #[.slice none 0 0,.int .u8 0,.int .i64 (cutE t p s n)]) (by simp [results,Tryz.f34,go_sem]) rfl ?_
 exact ⟨rfl,Below.r⟩
theorem cells_at5 {W:World} {n:Nat} (hn:W.heap.size=n) (a b c d e:Value) (t:TypeId):∀j u,[a,b,c,d,e][j]? =some u→(W.alloc (.cells #[a,b,c,d,e] t)).cell? ((⟨n,0,none⟩:Addr).add j)=some u:=by
 subst hn
 exact fun j u hu=>World.news_of_block (heap_alloc_new W _) j u (by simpa using hu)
theorem agree_set5 {W:World} {n:Nat} (v0 v1 v2 v3 v4:Value) (o:Obj):Agree (fun b=>n+1≤b) W ((((((W.setCell ⟨n,0,none⟩ v0).setCell ⟨n,1,none⟩ v1).setCell ⟨n,2,none⟩ v2).setCell ⟨n,3,none⟩ v3).setCell ⟨n,4,none⟩ v4).alloc o):=
 (((((Agree.set (p:=⟨n,0,none⟩) (fun h=>absurd h (Nat.not_succ_le_self n))).trans (Agree.set (p:=⟨n,1,none⟩) (fun h=>absurd h (Nat.not_succ_le_self n)))).trans (Agree.set (p:=⟨n,2,none⟩) (fun h=>absurd h (Nat.not_succ_le_self n)))).trans (Agree.set (p:=⟨n,3,none⟩) (fun h=>absurd h (Nat.not_succ_le_self n)))).trans (Agree.set (p:=⟨n,4,none⟩) (fun h=>absurd h (Nat.not_succ_le_self n)))).trans (Agree.below (Below.alloc (Below.refl _ _) (Nat.le_refl _) _))
theorem trialWrong_zero (t:GT) (p:GP) (s:ByteArray) (n:Int) (w:World) (A A2:Nat→Prop) (m:TA) (mp:PA) (ox:okT t) (hs:sizeT t≤1099511627776) (hl:RT w A t m) (op:okP p) (hp:sizeP p≤1099511627776) (hr:RP w A2 p mp) (hss:s.size≤9223372036854775807) (hE:cutE t p s n=0):
  Calls Tryz.prog 60 #[TV t m,PV p mp,.string s,.int .i64 n] w fun e w'=>e=.returned (.int .i64 0)∧Below w.heap.size w w':=by
 rw [←hE]
 exact trialWrong_any t p s n w A A2 m mp ox hs hl op hp hr hss
set_option maxRecDepth 100000 in
set_option maxHeartbeats 16000000 in
theorem cut_okc (t:GT) (p:GP) (s:ByteArray) (N:Nat) (w:World) (A A2:Nat→Prop) (m:TA) (mp:PA) (ox:okT t) (hs:sizeT t≤1099511627776) (hl:RT w A t m) (op:okP p) (hp:sizeP p≤1099511627776) (hr:RP w A2 p mp) (hE:cutE t p s N=0):
  Calls Tryz.prog 34 #[TV t m,PV p mp,.string s,.int .i64 N] w fun e w'=>Below w.heap.size w w'∧CutC (cutT s t p N 0) w e w':=by
 obtain ⟨ma,mb,mc,md,me,mf,mg,mh,mi,mj,mk,ml⟩:=m
 obtain ⟨na,nb,nc,nd⟩:=mp
 have HL:=hid hl
 have HR:=hid hr
 have OX:=hid ox
 have OP:=hid op
 have HCE:=hid hE
 obtain ⟨hRE,hPE,hN⟩:runE t s=0∧(checkPE p).2=0∧N≤1000:=by
  unfold cutE at hE
  split at hE
  ·omega
  ·split at hE
   ·omega
   ·split at hE
    ·omega
    ·refine ⟨by omega,by omega,by omega⟩
 have hmay:mayP p=true:=by unfold mayP;simp [hPE]
 have hbits:isBits s=true:=by
  unfold runE at hRE
  split at hRE
  ·omega
  ·split at hRE
   ·assumption
   ·omega
 have h1024:s.size≤1024:=by
  unfold isBits at hbits
  rw [Bool.and_eq_true] at hbits
  exact of_decide_eq_true hbits.1
 have HMAY:=hid hmay
 have HRE:=hid hRE
 have hss:s.size≤9223372036854775807:=by omega
 obtain ⟨i0,hi0,y0,y1,y2⟩:=info_parts infoTr
 generalize hR0:cutT s t p N 0=R
 have HR0:=hid hR0
 clear hl hr ox op hE hRE hPE hmay hbits hR0
 go_enter Tryz.func34,Tryz.ntmps34
 go_wp2_with (go_at_call 60;refine (trialWrong_zero t p s N _ A A2 ⟨ma,mb,mc,md,me,mf,mg,mh,mi,mj,mk,ml⟩ ⟨na,nb,nc,nd⟩ OX.out hs (by exact RT.ext (Agree.below Below.z) _ _ HL.out) OP.out hp (by exact RP.ext (Agree.below Below.z) _ _ HR.out) hss HCE.out).mono ?_;rintro e w1 ⟨rfl,hb1⟩)
 have hz1:=hb1.size
 simp at hz1
 have hbw1:Below w.heap.size w w1:=Below.r
 have HBT:Hid (At w1 w.heap.size 0 [.int .u8 t.k,.int .u8 t.v.k,.int .i64 t.v.n,.slice ma t.v.l.length mb,.slice mc t.vs.length md,.int .i64 t.lo,.int .i64 t.hi,.slice me t.w.length mf,.int .u8 t.p.k,.int .u8 t.p.v.k,.int .i64 t.p.v.n,.slice mg t.p.v.l.length mh,.int .i64 t.p.n,.slice mi t.p.a.length mj,.slice mk t.a.length ml]):=hid (At15z.2 ⟨(hb1.cell so).trans (by go_simp),(hb1.cell so).trans (by go_simp),(hb1.cell so).trans (by go_simp),(hb1.cell so).trans (by go_simp),(hb1.cell so).trans (by go_simp),(hb1.cell so).trans (by go_simp),(hb1.cell so).trans (by go_simp),(hb1.cell so).trans (by go_simp),(hb1.cell so).trans (by go_simp),(hb1.cell so).trans (by go_simp),(hb1.cell so).trans (by go_simp),(hb1.cell so).trans (by go_simp),(hb1.cell so).trans (by go_simp),(hb1.cell so).trans (by go_simp),(hb1.cell so).trans (by go_simp)⟩)
 have HBP:Hid (At w1 (w.heap.size+1) 0 [.int .u8 p.k,.int .u8 p.v.k,.int .i64 p.v.n,.slice na p.v.l.length nb,.int .i64 p.n,.slice nc p.a.length nd]):=hid (At6z.2 ⟨(hb1.cell so).trans (by go_simp),(hb1.cell so).trans (by go_simp),(hb1.cell so).trans (by go_simp),(hb1.cell so).trans (by go_simp),(hb1.cell so).trans (by go_simp),(hb1.cell so).trans (by go_simp)⟩)
 go_loopg [8,12,24] N (fun gk t8 t12 t24 wr=>∃(j i:Nat) (ps:List (GR×VA)) (v:Value),v=t8∧gk+j=N∧t24=.int .i64 j∧t12=.int .i64 i∧i≤s.size∧Below w1.heap.size w1 wr∧Hid (ps.length=j)∧Hid ((ps.map Prod.fst++(cutT s t p (N - j) i).1,(cutT s t p (N - j) i).2)=R) ∧
  Hid (wr.ownsRow w1.heap.size 75 5 v j (flatR ps))∧Hid (∀q∈ps,RV wr (Own w1.heap.size (fun _=>False) v) q.1.v q.2.a))
 case atStart=>exact ⟨0,0,[],_,rfl,by omega,rfl,rfl,by omega,Below.refl _ _,hid rfl,hid (by simpa using HR0.out),hid (World.ownsRow_nil _ _ _ _),hid (fun q hq=>by simp at hq)⟩
 case round=>
  obtain ⟨j,i,ps,v,rfl,hj,rfl,rfl,hi,hbr,HPL,HP,HO,HQ⟩:=hrel
  have hzr:=hbr.size
  have hbw:Below w.heap.size w wr:=hbw1.trans (hbr.mono (by omega))
  by_cases hlt:j < N
  ·have hst:=HP.out
   rw [show N - j=(N - (j+1))+1 by omega,cutT_step] at hst
   have hre:=runE_sub HRE.out i hi
   have hin:=runT_in (s:=subS s i) hre OX.out
   have hsz:=subS_size s i hi
   have HRS:=hid hre
   have hs9:(subS s i).size≤9223372036854775807:=by omega
   have hiI:(i:Int)≤(s.size:Int):=by omega
   have QT:=hid (RT.ext (Agree.below hbw) _ _ HL.out)
   have HOK:=hid (show ∀k,v.ownBlock=some k→k < wr.heap.size from fun k hk=>(HO.out.lt _ hk).2)
   have hownk:∀k,v.ownBlock=some k→w1.heap.size≤k:=fun k hk=>(HO.out.lt _ hk).1
   have HOWN:=hid hownk
   obtain ⟨c0,c1,c2,c3,c4,c5,c6,c7,c8,c9,ca,cb,cc,cd,ce⟩:=At15z.1 (At.ext (Agree.below hbr) (A:=fun _=>True) trivial _ _ HBT.out)
   have u0:w.heap.size < wr.heap.size:=by omega
   have u1:w.heap.size+1 < wr.heap.size:=by omega
   clear hre hownk
   rcases hW:runT (subS s i) t with ⟨x,u⟩|⟨k⟩
   ·rw [hW] at hst hin
    obtain ⟨_,hu,hokx⟩:=hin
    have hu2:i+u≤s.size:=by omega
    have OKX:=hid hokx
    have HW:=hid hW
    have wiu:IntKind.i64.wrap ((i:Int)+(u:Int))=(i:Int)+(u:Int):=IntWalk.i64_in _ (by omega)
    clear hW hokx hsz hu
    dsimp only at hst
    cases hHv:holdsP p x
    ·have HH:=hid (show (mayP p&&holdsP p x)=false by rw [hHv];simp)
     rw [hHv,if_neg (by simp)] at hst
     have HST:=hid hst
     clear hst hHv
     go_wp2_with fail
     go_region_held3 (fun W=>∀k,W.cell? ⟨w.heap.size,k,none⟩=wr.cell? ⟨w.heap.size,k,none⟩) ((intro k;refine Below.cell (B:=wr.heap.size) (w:=wr) (p:=⟨w.heap.size,k,none⟩) ?_ u0;((repeat (first|with_reducible exact Below.refl _ _|with_reducible assumption|with_reducible refine Below.trans ?_ (Below.mono (by with_reducible assumption) (by first|omega|(simp;done)|(simp;omega)))|with_reducible refine Below.drew ?_|with_reducible refine Below.alloc ?_ (by first|omega|(simp;done)|(simp;omega)) _|with_reducible refine Below.setCell ?_ (by first|omega|(simp;done)|(simp;omega)) _));done))) ((go_at_call 30;refine (run_ok t (subS s i) _ A ⟨ma,mb,mc,md,me,mf,mg,mh,mi,mj,mk,ml⟩ OX.out hs (by exact RT.ext (A:=A) (Agree.below Below.r) _ _ QT.out) hs9 HRS.out x u HW.out).mono ?_;rintro e w2 ⟨hb2,mv,rfl,hrv⟩;have HRV:=hid hrv;clear hrv;have hz2:=hb2.size;(try simp at hz2);have hbr2:Below wr.heap.size wr w2:=Below.r;have v0:w.heap.size < w2.heap.size:=(by omega);have v1:w.heap.size+1 < w2.heap.size:=(by omega);have v2:wr.heap.size≤w2.heap.size:=(by omega);(try (have y5':wr.heap.size < w2.heap.size:=(by omega);have q0:w2.cell? ⟨wr.heap.size,0,none⟩=some (.int .u8 0):=(hb2.cell (by simp)).trans (by go_simp);have q1:w2.cell? ⟨wr.heap.size,1,none⟩=some (.int .u8 0):=(hb2.cell (by simp)).trans (by go_simp);have q2:w2.cell? ⟨wr.heap.size,2,none⟩=some (.int .i64 0):=(hb2.cell (by simp)).trans (by go_simp);have q3:w2.cell? ⟨wr.heap.size,3,none⟩=some (.slice none 0 0):=(hb2.cell (by simp)).trans (by go_simp);have q4:w2.cell? ⟨wr.heap.size,4,none⟩=some (.int .i64 0):=(hb2.cell (by simp)).trans (by go_simp);have qf:∀k,w2.frozen? ⟨wr.heap.size,k,none⟩=false:=fun k=>(hb2.frozen (by simp)).trans (by go_simp)))))
     ·go_wp2_with (first|(at_builtin;refine wpList_append_lies _ rfl _ _ 71 rfl w1.heap.size 75 i0 _ 5 56 Tryz.underlying71 hi0 y0 y1 y2 rfl (by decide) _ j _ (by rfl) ((owns_below HO.out (B:=wr.heap.size) (by exact Below.r) HOK.out).alloc _) ⟨w2.heap.size+1,0,none⟩ 1 1 [.int .i64 i,.int .i64 (i+u),.int .u8 x.k,.int .i64 x.n,.slice mv.a x.l.length mv.c] (by rfl) rfl (cells_at5 (by simp) _ _ _ _ _ _) (by simp [Value.oneCell']) (by decide) (by unfold maxLen;omega) (by omega) (by simp;omega) (w2.heap.size+1+1) (by simp) ?_;intro g cap w4 hown hgrow hat hlt1;have hbg:Below w1.heap.size w1 w4:=Below.grown (by exact Below.r) hgrow (by simp;omega) HOWN.out;have hag:Agree (fun b=>b=w2.heap.size) _ w4:=Agree.grown hgrow (fun b hb e=>(by have h8:b=w2.heap.size:=hb;have h9:=HOK.out _ e.symm;omega));have x0:w4.cell? ⟨w2.heap.size,0,none⟩=some (.int .u8 1):=hag ⟨w2.heap.size,0,none⟩ _ rfl (by go_simp);have x1:w4.cell? ⟨w2.heap.size,1,none⟩=some (.int .u8 x.k):=hag ⟨w2.heap.size,1,none⟩ _ rfl (by go_simp);have x2:w4.cell? ⟨w2.heap.size,2,none⟩=some (.int .i64 x.n):=hag ⟨w2.heap.size,2,none⟩ _ rfl (by go_simp);have x3:w4.cell? ⟨w2.heap.size,3,none⟩=some (.slice mv.a x.l.length mv.c):=hag ⟨w2.heap.size,3,none⟩ _ rfl (by go_simp);have x4:w4.cell? ⟨w2.heap.size,4,none⟩=some (.int .i64 u):=hag ⟨w2.heap.size,4,none⟩ _ rfl (by go_simp);obtain ⟨g0,g1,g2,g3,g4,g5⟩:=At6z.1 (At.ext (Agree.below hbg) (A:=fun _=>True) trivial _ _ HBP.out);have hz4:=hbg.size;have hbw4:Below w.heap.size w w4:=hbw1.trans (hbg.mono (by omega));have hrx:RV w4 (Own w1.heap.size (fun _=>False) (.slice (some ⟨g,0,none⟩) (j+1) cap)) x mv.a:=RV.own hgrow HOWN.out hat (by simp) (RV.mono (fun b hb _=>(Or.inr ⟨(by omega),fun e=>(by have h9:=HOK.out _ e;omega)⟩)) _ _ (RV.ext (A:=fun b=>wr.heap.size≤b) (Agree.below Below.r) _ _ (RV.mono (fun b hb _=>(by simpa using hb)) _ _ HRV.out)));have hqx:∀q∈ps,RV w4 (Own w1.heap.size (fun _=>False) (.slice (some ⟨g,0,none⟩) (j+1) cap)) q.1.v q.2.a:=fun q hq=>RV.own hgrow HOWN.out hat (by simp) (RV.ext (Agree.below (Below.mono (B:=wr.heap.size) Below.r (Nat.le_refl _))) _ _ (HQ.out q hq));have HRX:=hid hrx;have HQX:=hid hqx;have HOX:=hid hown;clear hrx hqx hown)|(go_at_call 31;refine (Holds_at p x false HH.out A2 (Own w1.heap.size (fun _=>False) (.slice (some ⟨g,0,none⟩) (j+1) cap)) ⟨na,nb,nc,nd⟩ mv _ OP.out hp (by exact RP.ext (Agree.below hbw4) _ _ HR.out) OKX.out (by exact HRX.out)).mono ?_;rintro e6 w6 ⟨rfl,hb6⟩))
      have hz6:=hb6.size
      have hown6:w6.ownsRow w1.heap.size 75 5 (.slice (some ⟨g,0,none⟩) (j+1) cap) (j+1) (flatR (ps++[(⟨(i:Int),((i+u:Nat):Int),x⟩,mv)])):=by
       rw [flatR_append,show ((i+u:Nat):Int)=(i:Int)+(u:Int) from Int.natCast_add i u]
       exact owns_below HOX.out hb6 (fun k hk=>by cases hk;exact hlt1)
      have hq6:∀q∈ps++[((⟨(i:Int),((i+u:Nat):Int),x⟩:GR),mv)],RV w6 (Own w1.heap.size (fun _=>False) (.slice (some ⟨g,0,none⟩) (j+1) cap)) q.1.v q.2.a:=by
       intro q hq
       rcases List.mem_append.1 hq with hq|hq
       ·exact RV.ext (Agree.below hb6) _ _ (HQX.out q hq)
       ·simp at hq
        subst hq
        exact RV.ext (Agree.below hb6) _ _ HRX.out
      have hE2:=RRs_of_row (A:=fun b=>w1.heap.size≤b) hown6 (fun b h=>h) (fun q hq=>RV.mono (fun b hb _=>by rcases hb with ⟨h,_⟩|⟨h,_⟩;exact absurd h id;exact h) _ _ (hq6 q hq))
      obtain ⟨av,cv,hav,hrd⟩:=hE2
      refine bodyPost_ret (v:=.tuple #[.slice (some ⟨g,0,none⟩) (j+1) cap,.int .u8 1,.int .i64 0]) (by simp [results,Tryz.f34,go_sem]) rfl ?_
      have hst2:((ps++[((⟨(i:Int),((i+u:Nat):Int),x⟩:GR),mv)]).map Prod.fst,(1:Int))=R:=by rw [←HST.out];simp
      rw [←hst2]
      exact ⟨hbw4.trans (hb6.mono (by omega)),av,cv,by rw [hav],RRs.mono (fun b hb _=>by omega) _ _ hrd⟩
     ·go_wp2_with (first|(at_builtin;refine wpList_append_lies _ rfl _ _ 71 rfl w1.heap.size 75 i0 _ 5 56 Tryz.underlying71 hi0 y0 y1 y2 rfl (by decide) _ j _ (by rfl) ((owns_below HO.out (B:=wr.heap.size) (by exact Below.r) HOK.out).alloc _) ⟨w2.heap.size,0,none⟩ 1 1 [.int .i64 i,.int .i64 (i+u),.int .u8 x.k,.int .i64 x.n,.slice mv.a x.l.length mv.c] (by rfl) rfl (cells_at5 (by simp) _ _ _ _ _ _) (by simp [Value.oneCell']) (by decide) (by unfold maxLen;omega) (by omega) (by simp;omega) (w2.heap.size+1) (by simp) ?_;intro g cap w4 hown hgrow hat hlt1;have hbg:Below w1.heap.size w1 w4:=Below.grown (by exact Below.r) hgrow (by simp;omega) HOWN.out;have hag:Agree (fun b=>b=wr.heap.size) _ w4:=Agree.grown hgrow (fun b hb e=>(by have h8:b=wr.heap.size:=hb;have h9:=HOK.out _ e.symm;omega));have x0:w4.cell? ⟨wr.heap.size,0,none⟩=some (.int .u8 1):=hag ⟨wr.heap.size,0,none⟩ _ rfl (by go_simp);have x1:w4.cell? ⟨wr.heap.size,1,none⟩=some (.int .u8 x.k):=hag ⟨wr.heap.size,1,none⟩ _ rfl (by go_simp);have x2:w4.cell? ⟨wr.heap.size,2,none⟩=some (.int .i64 x.n):=hag ⟨wr.heap.size,2,none⟩ _ rfl (by go_simp);have x3:w4.cell? ⟨wr.heap.size,3,none⟩=some (.slice mv.a x.l.length mv.c):=hag ⟨wr.heap.size,3,none⟩ _ rfl (by go_simp);have x4:w4.cell? ⟨wr.heap.size,4,none⟩=some (.int .i64 u):=hag ⟨wr.heap.size,4,none⟩ _ rfl (by go_simp);obtain ⟨g0,g1,g2,g3,g4,g5⟩:=At6z.1 (At.ext (Agree.below hbg) (A:=fun _=>True) trivial _ _ HBP.out);have hz4:=hbg.size;have hbw4:Below w.heap.size w w4:=hbw1.trans (hbg.mono (by omega));have hrx:RV w4 (Own w1.heap.size (fun _=>False) (.slice (some ⟨g,0,none⟩) (j+1) cap)) x mv.a:=RV.own hgrow HOWN.out hat (by simp) (RV.mono (fun b hb _=>(Or.inr ⟨(by omega),fun e=>(by have h9:=HOK.out _ e;omega)⟩)) _ _ (RV.ext (A:=fun b=>wr.heap.size+1≤b) (agree_set5 _ _ _ _ _ _) _ _ (RV.mono (fun b hb _=>(by simpa using hb)) _ _ HRV.out)));have hqx:∀q∈ps,RV w4 (Own w1.heap.size (fun _=>False) (.slice (some ⟨g,0,none⟩) (j+1) cap)) q.1.v q.2.a:=fun q hq=>RV.own hgrow HOWN.out hat (by simp) (RV.ext (Agree.below (Below.mono (B:=wr.heap.size) Below.r (Nat.le_refl _))) _ _ (HQ.out q hq));have HRX:=hid hrx;have HQX:=hid hqx;have HOX:=hid hown;clear hrx hqx hown)|(go_at_call 31;refine (Holds_at p x false HH.out A2 (Own w1.heap.size (fun _=>False) (.slice (some ⟨g,0,none⟩) (j+1) cap)) ⟨na,nb,nc,nd⟩ mv _ OP.out hp (by exact RP.ext (Agree.below hbw4) _ _ HR.out) OKX.out (by exact HRX.out)).mono ?_;rintro e6 w6 ⟨rfl,hb6⟩))
      have hz6:=hb6.size
      have hown6:w6.ownsRow w1.heap.size 75 5 (.slice (some ⟨g,0,none⟩) (j+1) cap) (j+1) (flatR (ps++[(⟨(i:Int),((i+u:Nat):Int),x⟩,mv)])):=by
       rw [flatR_append,show ((i+u:Nat):Int)=(i:Int)+(u:Int) from Int.natCast_add i u]
       exact owns_below HOX.out hb6 (fun k hk=>by cases hk;exact hlt1)
      have hq6:∀q∈ps++[((⟨(i:Int),((i+u:Nat):Int),x⟩:GR),mv)],RV w6 (Own w1.heap.size (fun _=>False) (.slice (some ⟨g,0,none⟩) (j+1) cap)) q.1.v q.2.a:=by
       intro q hq
       rcases List.mem_append.1 hq with hq|hq
       ·exact RV.ext (Agree.below hb6) _ _ (HQX.out q hq)
       ·simp at hq
        subst hq
        exact RV.ext (Agree.below hb6) _ _ HRX.out
      have hE2:=RRs_of_row (A:=fun b=>w1.heap.size≤b) hown6 (fun b h=>h) (fun q hq=>RV.mono (fun b hb _=>by rcases hb with ⟨h,_⟩|⟨h,_⟩;exact absurd h id;exact h) _ _ (hq6 q hq))
      obtain ⟨av,cv,hav,hrd⟩:=hE2
      refine bodyPost_ret (v:=.tuple #[.slice (some ⟨g,0,none⟩) (j+1) cap,.int .u8 1,.int .i64 0]) (by simp [results,Tryz.f34,go_sem]) rfl ?_
      have hst2:((ps++[((⟨(i:Int),((i+u:Nat):Int),x⟩:GR),mv)]).map Prod.fst,(1:Int))=R:=by rw [←HST.out];simp
      rw [←hst2]
      exact ⟨hbw4.trans (hb6.mono (by omega)),av,cv,by rw [hav],RRs.mono (fun b hb _=>by omega) _ _ hrd⟩
    ·have HH:=hid (show (mayP p&&holdsP p x)=true by rw [hHv,HMAY.out];rfl)
     rw [hHv,if_pos rfl] at hst
     have HST:=hid hst
     clear hst hHv
     go_wp2_with fail
     go_region_held3 (fun W=>∀k,W.cell? ⟨w.heap.size,k,none⟩=wr.cell? ⟨w.heap.size,k,none⟩) ((intro k;refine Below.cell (B:=wr.heap.size) (w:=wr) (p:=⟨w.heap.size,k,none⟩) ?_ u0;((repeat (first|with_reducible exact Below.refl _ _|with_reducible assumption|with_reducible refine Below.trans ?_ (Below.mono (by with_reducible assumption) (by first|omega|(simp;done)|(simp;omega)))|with_reducible refine Below.drew ?_|with_reducible refine Below.alloc ?_ (by first|omega|(simp;done)|(simp;omega)) _|with_reducible refine Below.setCell ?_ (by first|omega|(simp;done)|(simp;omega)) _));done))) ((go_at_call 30;refine (run_ok t (subS s i) _ A ⟨ma,mb,mc,md,me,mf,mg,mh,mi,mj,mk,ml⟩ OX.out hs (by exact RT.ext (A:=A) (Agree.below Below.r) _ _ QT.out) hs9 HRS.out x u HW.out).mono ?_;rintro e w2 ⟨hb2,mv,rfl,hrv⟩;have HRV:=hid hrv;clear hrv;have hz2:=hb2.size;(try simp at hz2);have hbr2:Below wr.heap.size wr w2:=Below.r;have v0:w.heap.size < w2.heap.size:=(by omega);have v1:w.heap.size+1 < w2.heap.size:=(by omega);have v2:wr.heap.size≤w2.heap.size:=(by omega);(try (have y5':wr.heap.size < w2.heap.size:=(by omega);have q0:w2.cell? ⟨wr.heap.size,0,none⟩=some (.int .u8 0):=(hb2.cell (by simp)).trans (by go_simp);have q1:w2.cell? ⟨wr.heap.size,1,none⟩=some (.int .u8 0):=(hb2.cell (by simp)).trans (by go_simp);have q2:w2.cell? ⟨wr.heap.size,2,none⟩=some (.int .i64 0):=(hb2.cell (by simp)).trans (by go_simp);have q3:w2.cell? ⟨wr.heap.size,3,none⟩=some (.slice none 0 0):=(hb2.cell (by simp)).trans (by go_simp);have q4:w2.cell? ⟨wr.heap.size,4,none⟩=some (.int .i64 0):=(hb2.cell (by simp)).trans (by go_simp);have qf:∀k,w2.frozen? ⟨wr.heap.size,k,none⟩=false:=fun k=>(hb2.frozen (by simp)).trans (by go_simp)))))
     ·go_wp2_with (first|(at_builtin;refine wpList_append_lies _ rfl _ _ 71 rfl w1.heap.size 75 i0 _ 5 56 Tryz.underlying71 hi0 y0 y1 y2 rfl (by decide) _ j _ (by rfl) ((owns_below HO.out (B:=wr.heap.size) (by exact Below.r) HOK.out).alloc _) ⟨w2.heap.size+1,0,none⟩ 1 1 [.int .i64 i,.int .i64 (i+u),.int .u8 x.k,.int .i64 x.n,.slice mv.a x.l.length mv.c] (by rfl) rfl (cells_at5 (by simp) _ _ _ _ _ _) (by simp [Value.oneCell']) (by decide) (by unfold maxLen;omega) (by omega) (by simp;omega) (w2.heap.size+1+1) (by simp) ?_;intro g cap w4 hown hgrow hat hlt1;have hbg:Below w1.heap.size w1 w4:=Below.grown (by exact Below.r) hgrow (by simp;omega) HOWN.out;have hag:Agree (fun b=>b=w2.heap.size) _ w4:=Agree.grown hgrow (fun b hb e=>(by have h8:b=w2.heap.size:=hb;have h9:=HOK.out _ e.symm;omega));have x0:w4.cell? ⟨w2.heap.size,0,none⟩=some (.int .u8 1):=hag ⟨w2.heap.size,0,none⟩ _ rfl (by go_simp);have x1:w4.cell? ⟨w2.heap.size,1,none⟩=some (.int .u8 x.k):=hag ⟨w2.heap.size,1,none⟩ _ rfl (by go_simp);have x2:w4.cell? ⟨w2.heap.size,2,none⟩=some (.int .i64 x.n):=hag ⟨w2.heap.size,2,none⟩ _ rfl (by go_simp);have x3:w4.cell? ⟨w2.heap.size,3,none⟩=some (.slice mv.a x.l.length mv.c):=hag ⟨w2.heap.size,3,none⟩ _ rfl (by go_simp);have x4:w4.cell? ⟨w2.heap.size,4,none⟩=some (.int .i64 u):=hag ⟨w2.heap.size,4,none⟩ _ rfl (by go_simp);obtain ⟨g0,g1,g2,g3,g4,g5⟩:=At6z.1 (At.ext (Agree.below hbg) (A:=fun _=>True) trivial _ _ HBP.out);have hz4:=hbg.size;have hbw4:Below w.heap.size w w4:=hbw1.trans (hbg.mono (by omega));have hrx:RV w4 (Own w1.heap.size (fun _=>False) (.slice (some ⟨g,0,none⟩) (j+1) cap)) x mv.a:=RV.own hgrow HOWN.out hat (by simp) (RV.mono (fun b hb _=>(Or.inr ⟨(by omega),fun e=>(by have h9:=HOK.out _ e;omega)⟩)) _ _ (RV.ext (A:=fun b=>wr.heap.size≤b) (Agree.below Below.r) _ _ (RV.mono (fun b hb _=>(by simpa using hb)) _ _ HRV.out)));have hqx:∀q∈ps,RV w4 (Own w1.heap.size (fun _=>False) (.slice (some ⟨g,0,none⟩) (j+1) cap)) q.1.v q.2.a:=fun q hq=>RV.own hgrow HOWN.out hat (by simp) (RV.ext (Agree.below (Below.mono (B:=wr.heap.size) Below.r (Nat.le_refl _))) _ _ (HQ.out q hq));have HRX:=hid hrx;have HQX:=hid hqx;have HOX:=hid hown;clear hrx hqx hown)|(go_at_call 31;refine (Holds_at p x true HH.out A2 (Own w1.heap.size (fun _=>False) (.slice (some ⟨g,0,none⟩) (j+1) cap)) ⟨na,nb,nc,nd⟩ mv _ OP.out hp (by exact RP.ext (Agree.below hbw4) _ _ HR.out) OKX.out (by exact HRX.out)).mono ?_;rintro e6 w6 ⟨rfl,hb6⟩))
      have hz6:=hb6.size
      have hown6:w6.ownsRow w1.heap.size 75 5 (.slice (some ⟨g,0,none⟩) (j+1) cap) (j+1) (flatR (ps++[(⟨(i:Int),((i+u:Nat):Int),x⟩,mv)])):=by
       rw [flatR_append,show ((i+u:Nat):Int)=(i:Int)+(u:Int) from Int.natCast_add i u]
       exact owns_below HOX.out hb6 (fun k hk=>by cases hk;exact hlt1)
      have hq6:∀q∈ps++[((⟨(i:Int),((i+u:Nat):Int),x⟩:GR),mv)],RV w6 (Own w1.heap.size (fun _=>False) (.slice (some ⟨g,0,none⟩) (j+1) cap)) q.1.v q.2.a:=by
       intro q hq
       rcases List.mem_append.1 hq with hq|hq
       ·exact RV.ext (Agree.below hb6) _ _ (HQX.out q hq)
       ·simp at hq
        subst hq
        exact RV.ext (Agree.below hb6) _ _ HRX.out
      go_roundg (gk - 1)
      case measure=>omega
      case rel=>exact ⟨j+1,i+u,ps++[(⟨(i:Int),((i+u:Nat):Int),x⟩,mv)],_,rfl,by omega,by go_num,by go_num,hu2,hbg.trans (hb6.mono (by omega)),hid (by have:=HPL.out;simp;omega),hid (by rw [←HST.out];simp),hid hown6,hid hq6⟩
     ·go_wp2_with (first|(at_builtin;refine wpList_append_lies _ rfl _ _ 71 rfl w1.heap.size 75 i0 _ 5 56 Tryz.underlying71 hi0 y0 y1 y2 rfl (by decide) _ j _ (by rfl) ((owns_below HO.out (B:=wr.heap.size) (by exact Below.r) HOK.out).alloc _) ⟨w2.heap.size,0,none⟩ 1 1 [.int .i64 i,.int .i64 (i+u),.int .u8 x.k,.int .i64 x.n,.slice mv.a x.l.length mv.c] (by rfl) rfl (cells_at5 (by simp) _ _ _ _ _ _) (by simp [Value.oneCell']) (by decide) (by unfold maxLen;omega) (by omega) (by simp;omega) (w2.heap.size+1) (by simp) ?_;intro g cap w4 hown hgrow hat hlt1;have hbg:Below w1.heap.size w1 w4:=Below.grown (by exact Below.r) hgrow (by simp;omega) HOWN.out;have hag:Agree (fun b=>b=wr.heap.size) _ w4:=Agree.grown hgrow (fun b hb e=>(by have h8:b=wr.heap.size:=hb;have h9:=HOK.out _ e.symm;omega));have x0:w4.cell? ⟨wr.heap.size,0,none⟩=some (.int .u8 1):=hag ⟨wr.heap.size,0,none⟩ _ rfl (by go_simp);have x1:w4.cell? ⟨wr.heap.size,1,none⟩=some (.int .u8 x.k):=hag ⟨wr.heap.size,1,none⟩ _ rfl (by go_simp);have x2:w4.cell? ⟨wr.heap.size,2,none⟩=some (.int .i64 x.n):=hag ⟨wr.heap.size,2,none⟩ _ rfl (by go_simp);have x3:w4.cell? ⟨wr.heap.size,3,none⟩=some (.slice mv.a x.l.length mv.c):=hag ⟨wr.heap.size,3,none⟩ _ rfl (by go_simp);have x4:w4.cell? ⟨wr.heap.size,4,none⟩=some (.int .i64 u):=hag ⟨wr.heap.size,4,none⟩ _ rfl (by go_simp);obtain ⟨g0,g1,g2,g3,g4,g5⟩:=At6z.1 (At.ext (Agree.below hbg) (A:=fun _=>True) trivial _ _ HBP.out);have hz4:=hbg.size;have hbw4:Below w.heap.size w w4:=hbw1.trans (hbg.mono (by omega));have hrx:RV w4 (Own w1.heap.size (fun _=>False) (.slice (some ⟨g,0,none⟩) (j+1) cap)) x mv.a:=RV.own hgrow HOWN.out hat (by simp) (RV.mono (fun b hb _=>(Or.inr ⟨(by omega),fun e=>(by have h9:=HOK.out _ e;omega)⟩)) _ _ (RV.ext (A:=fun b=>wr.heap.size+1≤b) (agree_set5 _ _ _ _ _ _) _ _ (RV.mono (fun b hb _=>(by simpa using hb)) _ _ HRV.out)));have hqx:∀q∈ps,RV w4 (Own w1.heap.size (fun _=>False) (.slice (some ⟨g,0,none⟩) (j+1) cap)) q.1.v q.2.a:=fun q hq=>RV.own hgrow HOWN.out hat (by simp) (RV.ext (Agree.below (Below.mono (B:=wr.heap.size) Below.r (Nat.le_refl _))) _ _ (HQ.out q hq));have HRX:=hid hrx;have HQX:=hid hqx;have HOX:=hid hown;clear hrx hqx hown)|(go_at_call 31;refine (Holds_at p x true HH.out A2 (Own w1.heap.size (fun _=>False) (.slice (some ⟨g,0,none⟩) (j+1) cap)) ⟨na,nb,nc,nd⟩ mv _ OP.out hp (by exact RP.ext (Agree.below hbw4) _ _ HR.out) OKX.out (by exact HRX.out)).mono ?_;rintro e6 w6 ⟨rfl,hb6⟩))
      have hz6:=hb6.size
      have hown6:w6.ownsRow w1.heap.size 75 5 (.slice (some ⟨g,0,none⟩) (j+1) cap) (j+1) (flatR (ps++[(⟨(i:Int),((i+u:Nat):Int),x⟩,mv)])):=by
       rw [flatR_append,show ((i+u:Nat):Int)=(i:Int)+(u:Int) from Int.natCast_add i u]
       exact owns_below HOX.out hb6 (fun k hk=>by cases hk;exact hlt1)
      have hq6:∀q∈ps++[((⟨(i:Int),((i+u:Nat):Int),x⟩:GR),mv)],RV w6 (Own w1.heap.size (fun _=>False) (.slice (some ⟨g,0,none⟩) (j+1) cap)) q.1.v q.2.a:=by
       intro q hq
       rcases List.mem_append.1 hq with hq|hq
       ·exact RV.ext (Agree.below hb6) _ _ (HQX.out q hq)
       ·simp at hq
        subst hq
        exact RV.ext (Agree.below hb6) _ _ HRX.out
      go_roundg (gk - 1)
      case measure=>omega
      case rel=>exact ⟨j+1,i+u,ps++[(⟨(i:Int),((i+u:Nat):Int),x⟩,mv)],_,rfl,by omega,by go_num,by go_num,hu2,hbg.trans (hb6.mono (by omega)),hid (by have:=HPL.out;simp;omega),hid (by rw [←HST.out];simp),hid hown6,hid hq6⟩
   ·rw [hW] at hst hin
    have hk:k=2∨k=3:=hin
    have HW:=hid hW
    clear hW hsz
    dsimp only at hst
    have HST:=hid hst
    clear HOK HOWN
    have hE2:=RRs_of_row (A:=fun b=>w1.heap.size≤b) HO.out (fun b h=>h) (fun q hq=>RV.mono (fun b hb _=>by rcases hb with ⟨h,_⟩|⟨h,_⟩;exact absurd h id;exact h) _ _ (HQ.out q hq))
    obtain ⟨av,cv,hav,hrd⟩:=hE2
    have HRD:=hid hrd
    have HAV:=hid hav
    clear hrd hav hst
    have hle:w.heap.size≤wr.heap.size:=by omega
    have hle1:w1.heap.size≤wr.heap.size:=by omega
    rcases hk with rfl|rfl
    ·have hst2:(ps.map Prod.fst,(3:Int))=R:=by rw [←HST.out];simp
     clear HST
     subst hst2
     go_wp2_with fail
     go_region_held3 (fun W=>∀k,W.cell? ⟨w.heap.size,k,none⟩=wr.cell? ⟨w.heap.size,k,none⟩) ((intro k;refine Below.cell (B:=wr.heap.size) (w:=wr) (p:=⟨w.heap.size,k,none⟩) ?_ u0;((repeat (first|with_reducible exact Below.refl _ _|with_reducible assumption|with_reducible refine Below.trans ?_ (Below.mono (by with_reducible assumption) (by first|omega|(simp;done)|(simp;omega)))|with_reducible refine Below.drew ?_|with_reducible refine Below.alloc ?_ (by first|omega|(simp;done)|(simp;omega)) _|with_reducible refine Below.setCell ?_ (by first|omega|(simp;done)|(simp;omega)) _));done))) ((go_at_call 30;refine (run_no t (subS s i) _ A ⟨ma,mb,mc,md,me,mf,mg,mh,mi,mj,mk,ml⟩ OX.out hs (by exact RT.ext (A:=A) (Agree.below Below.r) _ _ QT.out) hs9 HRS.out _ HW.out).mono ?_;rintro e w2 ⟨hb2,rfl⟩;have hz2:=hb2.size;(try simp at hz2);have hbr2:Below wr.heap.size wr w2:=Below.r;have v0:w.heap.size < w2.heap.size:=(by omega);have v1:w.heap.size+1 < w2.heap.size:=(by omega);have v2:wr.heap.size≤w2.heap.size:=(by omega);(try (have y5':wr.heap.size < w2.heap.size:=(by omega);have q0:w2.cell? ⟨wr.heap.size,0,none⟩=some (.int .u8 0):=(hb2.cell (by simp)).trans (by go_simp);have q1:w2.cell? ⟨wr.heap.size,1,none⟩=some (.int .u8 0):=(hb2.cell (by simp)).trans (by go_simp);have q2:w2.cell? ⟨wr.heap.size,2,none⟩=some (.int .i64 0):=(hb2.cell (by simp)).trans (by go_simp);have q3:w2.cell? ⟨wr.heap.size,3,none⟩=some (.slice none 0 0):=(hb2.cell (by simp)).trans (by go_simp);have q4:w2.cell? ⟨wr.heap.size,4,none⟩=some (.int .i64 0):=(hb2.cell (by simp)).trans (by go_simp);have qf:∀k,w2.frozen? ⟨wr.heap.size,k,none⟩=false:=fun k=>(hb2.frozen (by simp)).trans (by go_simp)))))
     all_goals go_wp2_with fail
     all_goals refine bodyPost_ret (v:=.tuple #[v,.int .u8 3,.int .i64 0]) (by simp [results,Tryz.f34,go_sem]) rfl ?_
     all_goals exact ⟨hbw.trans (Below.mono (B:=wr.heap.size) Below.r hle),av,cv,by rw [HAV.out],RRs.mono (fun b hb _=>by omega) _ _ (RRs.ext (Agree.below (Below.mono (B:=wr.heap.size) Below.r (Nat.le_refl _))) _ _ HRD.out)⟩
    ·have hst2:(ps.map Prod.fst,(4:Int))=R:=by rw [←HST.out];simp
     clear HST
     subst hst2
     go_wp2_with fail
     go_region_held3 (fun W=>∀k,W.cell? ⟨w.heap.size,k,none⟩=wr.cell? ⟨w.heap.size,k,none⟩) ((intro k;refine Below.cell (B:=wr.heap.size) (w:=wr) (p:=⟨w.heap.size,k,none⟩) ?_ u0;((repeat (first|with_reducible exact Below.refl _ _|with_reducible assumption|with_reducible refine Below.trans ?_ (Below.mono (by with_reducible assumption) (by first|omega|(simp;done)|(simp;omega)))|with_reducible refine Below.drew ?_|with_reducible refine Below.alloc ?_ (by first|omega|(simp;done)|(simp;omega)) _|with_reducible refine Below.setCell ?_ (by first|omega|(simp;done)|(simp;omega)) _));done))) ((go_at_call 30;refine (run_no t (subS s i) _ A ⟨ma,mb,mc,md,me,mf,mg,mh,mi,mj,mk,ml⟩ OX.out hs (by exact RT.ext (A:=A) (Agree.below Below.r) _ _ QT.out) hs9 HRS.out _ HW.out).mono ?_;rintro e w2 ⟨hb2,rfl⟩;have hz2:=hb2.size;(try simp at hz2);have hbr2:Below wr.heap.size wr w2:=Below.r;have v0:w.heap.size < w2.heap.size:=(by omega);have v1:w.heap.size+1 < w2.heap.size:=(by omega);have v2:wr.heap.size≤w2.heap.size:=(by omega);(try (have y5':wr.heap.size < w2.heap.size:=(by omega);have q0:w2.cell? ⟨wr.heap.size,0,none⟩=some (.int .u8 0):=(hb2.cell (by simp)).trans (by go_simp);have q1:w2.cell? ⟨wr.heap.size,1,none⟩=some (.int .u8 0):=(hb2.cell (by simp)).trans (by go_simp);have q2:w2.cell? ⟨wr.heap.size,2,none⟩=some (.int .i64 0):=(hb2.cell (by simp)).trans (by go_simp);have q3:w2.cell? ⟨wr.heap.size,3,none⟩=some (.slice none 0 0):=(hb2.cell (by simp)).trans (by go_simp);have q4:w2.cell? ⟨wr.heap.size,4,none⟩=some (.int .i64 0):=(hb2.cell (by simp)).trans (by go_simp);have qf:∀k,w2.frozen? ⟨wr.heap.size,k,none⟩=false:=fun k=>(hb2.frozen (by simp)).trans (by go_simp)))))
     all_goals go_wp2_with fail
     all_goals refine bodyPost_ret (v:=.tuple #[v,.int .u8 4,.int .i64 0]) (by simp [results,Tryz.f34,go_sem]) rfl ?_
     all_goals exact ⟨hbw.trans (Below.mono (B:=wr.heap.size) Below.r hle),av,cv,by rw [HAV.out],RRs.mono (fun b hb _=>by omega) _ _ (RRs.ext (Agree.below (Below.mono (B:=wr.heap.size) Below.r (Nat.le_refl _))) _ _ HRD.out)⟩
  ·have hjl:j=N:=by omega
   have hst:=HP.out
   rw [hjl,Nat.sub_self] at hst
   have hst2:(ps.map Prod.fst,2)=R:=by rw [←hst];simp [cutT]
   have hE2:=RRs_of_row (A:=fun b=>w1.heap.size≤b) HO.out (fun b h=>h) (fun q hq=>RV.mono (fun b hb _=>by rcases hb with ⟨h,_⟩|⟨h,_⟩;exact absurd h id;exact h) _ _ (HQ.out q hq))
   obtain ⟨av,cv,hav,hrd⟩:=hE2
   have HRD:=hid hrd
   have HAV:=hid hav
   clear hst hrd hav hjl
   subst hst2
   go_wp2_with fail
   refine bodyPost_ret (v:=.tuple #[v,.int .u8 2,.int .i64 0]) (by simp [results,Tryz.f34,go_sem]) rfl ?_
   exact ⟨hbw,av,cv,by rw [HAV.out],RRs.mono (fun b hb _=>by omega) _ _ HRD.out⟩
theorem cut_ok (t:GT) (p:GP) (s:ByteArray) (N:Nat) (w:World) (A A2:Nat→Prop) (m:TA) (mp:PA) (ox:okT t) (hs:sizeT t≤1099511627776) (hl:RT w A t m) (op:okP p) (hp:sizeP p≤1099511627776) (hr:RP w A2 p mp) (hE:cutE t p s N=0):
  Calls Tryz.prog 34 #[TV t m,PV p mp,.string s,.int .i64 N] w fun e w'=>Below w.heap.size w w'∧CutV (cutT s t p N 0) w e w':=
 (cut_okc t p s N w A A2 m mp ox hs hl op hp hr hE).mono fun e w' h=>by
  obtain ⟨hb,a,c,h,hr⟩:=h
  exact ⟨hb,a,_,h,hr⟩
end Go.Proofs.YtojjdneicmbfjaaGreatDoor
