/- Part 66. -/
import Derived.Test.YtkdffbdnjfgpeaaGreatY64
import Derived.Test.YtkdffbdnjfgpeaaGreatYTk
set_option linter.all false
namespace Go.Proofs.YtkdffbdnjfgpeaaGreat
open Go.Lib (hid)
open Go Go.RowKit Go.Proofs.Tryz
theorem ZoN {p:Prop} (h:p:=by
 ((try simp only [Act.put,List.setIfInBounds_toArray,ZxI]);(try simp only [List.set_cons_zero,List.set_cons_succ]))
 refine tz 29 ?_
 ((try simp only [Act.put,List.setIfInBounds_toArray,ZxI]);(try simp only [List.set_cons_zero,List.set_cons_succ]))
 refine tz 30 ?_
 ((try simp only [Act.put,List.setIfInBounds_toArray,ZxI]);(try simp only [List.set_cons_zero,List.set_cons_succ]))
 as_aux_lemma=>
  refine wpAnyH_done kr ?_ _
  as_aux_lemma=>
   (go_wp2_with fail;go_roundg (gk - 1);(case measure=>omega);(case rel=>exact ⟨q+1,true,om,rfl,by go_num,HZ1,ZtZ⟩))):p:=h
theorem Zo8 {p:Prop} (h:p:=by ((try dsimp only);(intro c k hc;refine Below.cell (B:=wr.heap.size) (w:=wr) (p:=⟨c,k,none⟩) ?_ hc;(exact ZtZ)))):p:=h
set_option maxRecDepth 100000
set_option maxHeartbeats 16000000
theorem Zwu (w:World) (t:GT) (A:Nat→Prop) (m:TA) (ox:okT t) (hs:Zb t≤1048576) (hl:RT w A t m) (u:GT) (A2:Nat→Prop) (m2:TA) (ou:okT u) (hs2:Zb u≤1048576) (hl2:RT w A2 u m2) (k:Int) (hk:0≤k∧k≤255) (hE:(Z3 (Zuj t u)).2=0):
  Calls prog 6 #[TV t m,TV u m2,.int .u8 k] w fun e w'=>e=.returned (.bool true)∧Below w.heap.size w w':=by
 obtain ⟨ma,mb,mc,md,me,mf,mg,mh,mi,mj,mk,ml⟩:=m
 obtain ⟨na,nb,nc,nd,ne,nf,ng,nh,ni,nj,nk,nl⟩:=m2
 have HL:=hid hl
 have HL2:=hid hl2
 have OX:=hid ox
 have OU:=hid ou
 obtain ⟨kn,rfl⟩:∃kn:Nat,k=kn:=⟨k.toNat,om⟩
 obtain ⟨K,hK⟩:∃K,K=kn % 7:=⟨_,rfl⟩
 have hK8:K≤6:=om
 have hK1:(kn:Int) % 7=(K:Int):=om
 have hs9:Zb t≤1099511627776:=om
 have hs8:Zb u≤1099511627776:=om
 have OB:=hid (ZuD ox ou)
 have hsb:=Zvt t u
 have hsb9:Zb (Zuj t u)≤1099511627776:=om
 have hsb4:Zb (Zuj t u)≤4194304:=om
 have HMAY:Hid (∀W b,RT W (fun _=>True) (Zuj t u) (mB b)→Calls prog 32 #[.agg #[.int .u8 5,.int .u8 0,.int .i64 0,.slice none 0 0,.slice none 0 0,.int .i64 0,.int .i64 0,.slice none 0 0,.int .u8 0,.int .u8 0,.int .i64 0,.slice none 0 0,.int .i64 0,.slice none 0 0,.slice (some ⟨b,0,none⟩) 2 2]] W fun e w'=>e=.returned (.bool (ZtP (Zuj t u)))∧Below W.heap.size W w'):=hid (fun W b h=>ZtQ (Zuj t u) W (fun _=>True) (mB b) (ZuD ox ou) hsb9 h)
 have HLONG:Hid (∀W b,RT W (fun _=>True) (Zuj t u) (mB b)→Calls prog 10 #[.agg #[.int .u8 5,.int .u8 0,.int .i64 0,.slice none 0 0,.slice none 0 0,.int .i64 0,.int .i64 0,.slice none 0 0,.int .u8 0,.int .u8 0,.int .i64 0,.slice none 0 0,.int .i64 0,.slice none 0 0,.slice (some ⟨b,0,none⟩) 2 2],.int .i64 K] W (KY W)):=hid (fun W b h=>ZrA (Zuj t u) K W (fun _=>True) (mB b) (ZuD ox ou) hsb4 h)
 have hm:ZtP (Zuj t u)=true:=by unfold ZtP;simp [hE]
 rw [hm] at HMAY
 have HALL:Hid ((∀W (h:RT W A t ⟨ma,mb,mc,md,me,mf,mg,mh,mi,mj,mk,ml⟩),Calls prog 13 #[TV t ⟨ma,mb,mc,md,me,mf,mg,mh,mi,mj,mk,ml⟩,.int .i64 K] W (Ztn t K W))∧(∀W (h:RT W A2 u ⟨na,nb,nc,nd,ne,nf,ng,nh,ni,nj,nk,nl⟩),Calls prog 13 #[TV u ⟨na,nb,nc,nd,ne,nf,ng,nh,ni,nj,nk,nl⟩,.int .i64 K] W (Ztn u K W))∧∀W b (h:RT W (fun _=>True) (Zuj t u) (mB b)),Calls prog 13 #[.agg #[.int .u8 5,.int .u8 0,.int .i64 0,.slice none 0 0,.slice none 0 0,.int .i64 0,.int .i64 0,.slice none 0 0,.int .u8 0,.int .u8 0,.int .i64 0,.slice none 0 0,.int .i64 0,.slice none 0 0,.slice (some ⟨b,0,none⟩) 2 2],.int .i64 K] W (Ztn (Zuj t u) K W)):=by
  obtain ⟨⟨t1, -⟩,⟨u1, -⟩, -⟩:=ZuA (Zux t u) hE (ZuD ox ou)
  exact hid ⟨fun W h=>ZrI t K W A _ ox hs9 h om t1,fun W h=>ZrI u K W A2 _ ou hs8 h om u1,fun W b h=>ZrI (Zuj t u) K W (fun _=>True) (mB b) (ZuD ox ou) hsb9 h om hE⟩
 have HEE:=hid hE
 clear hE hm hl hl2 ox ou hK hs9 hs8 hs hs2 hsb hsb9 hsb4
 go_enter func6,ntmps6
 go_upto_region 1 with fail
 refine ZT (fun W=>Below w.heap.size w W∧w.heap.size+1 < W.heap.size∧Hid (At W w.heap.size 0 [.int .u8 t.k,.int .u8 t.v.k,.int .i64 t.v.n,.slice ma t.v.l.length mb,.slice mc t.vs.length md,.int .i64 t.lo,.int .i64 t.hi,.slice me t.w.length mf,.int .u8 t.p.k,.int .u8 t.p.v.k,.int .i64 t.p.v.n,.slice mg t.p.v.l.length mh,.int .i64 t.p.n,.slice mi t.p.a.length mj,.slice mk t.a.length ml])∧Hid (At W (w.heap.size+1) 0 [.int .u8 u.k,.int .u8 u.v.k,.int .i64 u.v.n,.slice na u.v.l.length nb,.slice nc u.vs.length nd,.int .i64 u.lo,.int .i64 u.hi,.slice ne u.w.length nf,.int .u8 u.p.k,.int .u8 u.p.v.k,.int .i64 u.p.v.n,.slice ng u.p.v.l.length nh,.int .i64 u.p.n,.slice ni u.p.a.length nj,.slice nk u.a.length nl])) ⟨ZtZ,sm,hid (ZO.2 ⟨gs,gs,gs,gs,gs,gs,gs,gs,gs,gs,gs,gs,gs,gs,gs⟩),hid (ZO.2 ⟨gs,gs,gs,gs,gs,gs,gs,gs,gs,gs,gs,gs,gs,gs,gs⟩)⟩ ?_
 rintro wa ⟨hba,hza,HT,HU⟩
 obtain ⟨c0,c1,c2,c3,c4,c5,c6,c7,c8,c9,ca,cb,cc,cd,ce⟩:=ZO.1 HT.out
 obtain ⟨d0,d1,d2,d3,d4,d5,d6,d7,d8,d9,da,db,dc,dd,de⟩:=ZO.1 HU.out
 go_upto_region 3 with (go_at_call 31;(with_reducible refine (Zvx _ _ _ _ _).mono ?_);rintro e w1 ⟨rfl,hb1⟩;have hz1:=hb1.size;(try simp at hz1))
 have hb2:Below wa.heap.size wa w1:=ZtZ
 have HN:Hid (At w1 wa.heap.size 0 ([.int .u8 t.k,.int .u8 t.v.k,.int .i64 t.v.n,.slice ma t.v.l.length mb,.slice mc t.vs.length md,.int .i64 t.lo,.int .i64 t.hi,.slice me t.w.length mf,.int .u8 t.p.k,.int .u8 t.p.v.k,.int .i64 t.p.v.n,.slice mg t.p.v.l.length mh,.int .i64 t.p.n,.slice mi t.p.a.length mj,.slice mk t.a.length ml]++[.int .u8 u.k,.int .u8 u.v.k,.int .i64 u.v.n,.slice na u.v.l.length nb,.slice nc u.vs.length nd,.int .i64 u.lo,.int .i64 u.hi,.slice ne u.w.length nf,.int .u8 u.p.k,.int .u8 u.p.v.k,.int .i64 u.p.v.n,.slice ng u.p.v.l.length nh,.int .i64 u.p.n,.slice ni u.p.a.length nj,.slice nk u.a.length nl])):=hid (Zuf (ZtY hb1) (A:=fun _=>True) trivial _ _ (ZvB wa _ _))
 refine ZT (fun W=>Below w.heap.size w W∧Below wa.heap.size wa W∧w1.heap.size < W.heap.size∧Hid (RT W (fun _=>True) (Zuj t u) (mB wa.heap.size))∧Hid (At W w1.heap.size 0 [.int .u8 5,.int .u8 0,.int .i64 0,.slice none 0 0,.slice none 0 0,.int .i64 0,.int .i64 0,.slice none 0 0,.int .u8 0,.int .u8 0,.int .i64 0,.slice none 0 0,.int .i64 0,.slice none 0 0,.slice (some ⟨wa.heap.size,0,none⟩) 2 2])) ⟨ZtZ,ZtZ,sm,hid ?_,hid (ZvB w1 _ _)⟩ ?_
 ·have hb3:∀o,Below w1.heap.size w1 (w1.alloc o):=fun o=>Below.alloc (Below.refl _ _) (Nat.le_refl _) _
  obtain ⟨h1,h2⟩:=Zvk _ _ _ HN.out
  exact ZvE (m:=⟨ma,mb,mc,md,me,mf,mg,mh,mi,mj,mk,ml⟩) (m2:=⟨na,nb,nc,nd,ne,nf,ng,nh,ni,nj,nk,nl⟩) (Zuf (ZtY (hb3 _)) (A:=fun _=>True) trivial _ _ h1) (Zuf (ZtY (hb3 _)) (A:=fun _=>True) trivial _ _ h2) (Zt2 ar _ _ HL.out) (Zt2 ar _ _ HL2.out)
 rintro wb ⟨hbb,hbab,hzb,HRB,HBT⟩
 as_aux_lemma=>
  clear c0 c1 c2 c3 c4 c5 c6 c7 c8 c9 ca cb cc cd ce d0 d1 d2 d3 d4 d5 d6 d7 d8 d9 da db dc dd de hb1 hb2 HN
  have HT:=hid (Zuf (ZtY hbab) (A:=fun _=>True) trivial _ _ HT.out)
  have HU:=hid (Zuf (ZtY hbab) (A:=fun _=>True) trivial _ _ HU.out)
  have HLb:=hid (Zt2 (ZtY hbb) _ _ HL.out)
  have HLb2:=hid (Zt2 (ZtY hbb) _ _ HL2.out)
  have hzab:=hbab.size
  generalize w1.heap.size=x0 at *
  have hzxb:x0 < wb.heap.size:=hzb
  clear hzb hbab
  have hE:=HEE.out
  obtain ⟨HA1,HA2,HA3⟩:=HALL.out
  have HA1:=hid HA1
  have HA2:=hid HA2
  have HA3:=hid HA3
  clear HALL
  obtain ⟨c0,c1,c2,c3,c4,c5,c6,c7,c8,c9,ca,cb,cc,cd,ce⟩:=ZO.1 HBT.out
  obtain ⟨d0,d1,d2,d3,d4,d5,d6,d7,d8,d9,da,db,dc,dd,de⟩:=ZO.1 HT.out
  obtain ⟨e0,e1,e2,e3,e4,e5,e6,e7,e8,e9,ea,eb,ec,ed,ee⟩:=ZO.1 HU.out
  have u1:w.heap.size < wb.heap.size:=om
  have u2:w.heap.size+1 < wb.heap.size:=om
  go_wp2_with (first
   | (go_at_call 10;(with_reducible refine (HLONG.out _ _ (by exact Zt2 ar _ _ HRB.out)).mono ?_);rintro e w2 ⟨⟨b2,rfl⟩,hb2⟩;obtain ⟨hc2,hf2⟩:=Za hb2;have hz2:=hb2.size;(try simp at hz2);have y2:x0 < w2.heap.size:=om;have y2a:w.heap.size < w2.heap.size:=om;have y2b:w.heap.size+1 < w2.heap.size:=om;cases b2)
   | (go_at_call 32;(with_reducible refine (HMAY.out _ _ (by exact Zt2 ar _ _ HRB.out)).mono ?_);rintro e w3 ⟨rfl,hb3⟩;obtain ⟨hc3,hf3⟩:=Za hb3;have hz3:=hb3.size;(try simp at hz3);have y3:x0 < w3.heap.size:=om;have y3a:w.heap.size < w3.heap.size:=om;have y3b:w.heap.size+1 < w3.heap.size:=om)
   | (go_at_call 11;(with_reducible refine (ZrU _).mono ?_);rintro e w4 ⟨rfl,hb4⟩;obtain ⟨hc4,hf4⟩:=Za hb4;have hz4:=hb4.size;(try simp at hz4);have y4:x0 < w4.heap.size:=om;have y4a:w.heap.size < w4.heap.size:=om;have y4b:w.heap.size+1 < w4.heap.size:=om)
   | (go_at_call 13;(with_reducible refine (HA1.out _ (by exact Zt2 ar _ _ HL.out)).mono ?_);rintro e w5 ⟨hb5,a1,k1,rfl,hx1⟩;have HX1:=hid (RJs.mono (A':=fun _=>True) (fun _ _ _=>trivial) _ _ hx1.1);clear hx1;obtain ⟨hc5,hf5⟩:=Za hb5;have hz5:=hb5.size;(try simp at hz5);have y5:x0 < w5.heap.size:=om;have y5b:w.heap.size+1 < w5.heap.size:=om)
   | (go_at_call 13;(with_reducible refine (HA2.out _ (by exact Zt2 ar _ _ HL2.out)).mono ?_);rintro e w6 ⟨hb6,a2,k2,rfl,hx2⟩;have HX2:=hid (RJs.mono (A':=fun _=>True) (fun _ _ _=>trivial) _ _ hx2.1);clear hx2;obtain ⟨hc6,hf6⟩:=Za hb6;have hz6:=hb6.size;(try simp at hz6);have y6:x0 < w6.heap.size:=om)
   | (go_at_call 13;(with_reducible refine (HA3.out _ _ (by exact Zt2 ar _ _ HRB.out)).mono ?_);rintro e w7 ⟨hb7,a3,k3,rfl,hx3⟩;have HX3:=hid (RJs.mono (A':=fun _=>True) (fun _ _ _=>trivial) _ _ hx3.1);clear hx3;obtain ⟨hc7,hf7⟩:=Za hb7;have hz7:=hb7.size;(try simp at hz7)))
  rotate_right
  ·go_ret
   exact ⟨rfl,ZtZ⟩
  as_aux_lemma=>
   have hbw:Below w.heap.size w w7:=ZtZ
   have hb7x:Below w6.heap.size w6 w7:=by first|exact hb7|(refine Below.mono hb7 ?_;omega)
   have hb6x:Below w5.heap.size w5 w7:=(by first|exact hb6|(refine Below.mono hb6 ?_;omega):Below w5.heap.size w5 w6).trans (hb7x.mono om)
   have HX1:=hid (RJs.ext (A:=fun _=>True) (ZtY hb6x) _ _ HX1.out)
   have HX2:=hid (RJs.ext (A:=fun _=>True) (ZtY hb7x) _ _ HX2.out)
   obtain ⟨⟨t1, -⟩,⟨t2, -⟩, -⟩:=ZuA (Zux t u) hE OB.out
   have HERE:=hid (fun p hp q hq h=>Zvs (Zux t u) hE OB.out (n:=K) om (p:=p) (q:=q) hp hq h)
   have HVAL:=hid (fun p hp q hq h r hr e=>Zvw (Zux t u) hE OB.out (n:=K) om (p:=p) (q:=q) hp hq h (r:=r) hr e)
   have HLEN:=hid (Zvf (Zux t u) hE OB.out (n:=K) om)
   have HIN1:=hid (Zqk t1 OX.out (n:=K) om)
   have HIN2:=hid (Zqk t2 OU.out (n:=K) om)
   have HIN3:=hid (Zqk hE OB.out (n:=K) om)
   have ln1:(Zpv t K).length≤4096:=by
    rw [(ZtL t1 OX.out (n:=K) om).length_eq]
    exact Nat.le_trans (ZqO K ⟨#[]⟩) (ZpP om)
   have ln2:(Zpv u K).length≤4096:=by
    rw [(ZtL t2 OU.out (n:=K) om).length_eq]
    exact Nat.le_trans (ZqO K ⟨#[]⟩) (ZpP om)
   have ln3:(Zpv (Zuj t u) K).length≤4096:=by
    rw [(ZtL hE OB.out (n:=K) om).length_eq]
    exact Nat.le_trans (ZqO K ⟨#[]⟩) (ZpP om)
   clear t1 t2 hE hb2 hb3 hb4 hb5 hb6 hb7 hc2 hc3 hc4 hc5 hc6 hc7 hf2 hf3 hf4 hf5 hf6 hf7 HA1 HA2 HA3 HT HU HBT HRB HL HL2 HLb HLb2 HLONG HMAY c0 c1 c2 c3 c4 c5 c6 c7 c8 c9 ca cb cc cd ce d0 d1 d2 d3 d4 d5 d6 d7 d8 d9 da db dc dd de e0 e1 e2 e3 e4 e5 e6 e7 e8 e9 ea eb ec ed ee
   generalize Zpv t K=L1 at *
   generalize Zpv u K=L2 at *
   generalize Zpv (Zuj t u) K=L3 at *
   generalize (Value.agg #[.int .u8 t.k,.int .u8 t.v.k,.int .i64 t.v.n,.slice ma t.v.l.length mb,.slice mc t.vs.length md,.int .i64 t.lo,.int .i64 t.hi,.slice me t.w.length mf,.int .u8 t.p.k,.int .u8 t.p.v.k,.int .i64 t.p.v.n,.slice mg t.p.v.l.length mh,.int .i64 t.p.n,.slice mi t.p.a.length mj,.slice mk t.a.length ml])=X1
   generalize (Value.agg #[.int .u8 u.k,.int .u8 u.v.k,.int .i64 u.v.n,.slice na u.v.l.length nb,.slice nc u.vs.length nd,.int .i64 u.lo,.int .i64 u.hi,.slice ne u.w.length nf,.int .u8 u.p.k,.int .u8 u.p.v.k,.int .i64 u.p.v.n,.slice ng u.p.v.l.length nh,.int .i64 u.p.n,.slice ni u.p.a.length nj,.slice nk u.a.length nl])=X2
   generalize (Value.agg #[.int .u8 5,.int .u8 0,.int .i64 0,.slice none 0 0,.slice none 0 0,.int .i64 0,.int .i64 0,.slice none 0 0,.int .u8 0,.int .u8 0,.int .i64 0,.slice none 0 0,.int .i64 0,.slice none 0 0,.slice (some ⟨wa.heap.size,0,none⟩) 2 2])=X3
   as_aux_lemma=>
    go_loopg [15,16] (L1.length) (fun gk t15' t16' wr=>∃i a:Nat,gk+i=L1.length∧t15'=.int .i64 a∧t16'=.int .i64 i∧a≤4096*i∧Hid (a=ZuG (L1.take i) L2 K)∧Below w7.heap.size w7 wr)
    case atStart=>exact ⟨0,0,om,rfl,rfl,om,hid rfl,Below.refl _ _⟩
    case round=>
     obtain ⟨i,a,hi,rfl,rfl,ha,HA,hbr⟩:=hrel
     have hzr:=hbr.size
     by_cases hlt:i < L1.length
     ·as_aux_lemma=>
      obtain ⟨b1,o1,mv1,rfl, -,hbs1,gg1,gx1⟩:=HX1.out.get i hlt
      have j1:=(HIN1.out _ (List.getElem_mem hlt)).2.1
      have OV1:=hid (HIN1.out _ (List.getElem_mem hlt)).2.2.2
      have HE1:=hid (fun q hq h=>HERE.out _ (List.getElem_mem hlt) q hq h)
      have HV1:=hid (fun q hq h r hr e=>HVAL.out _ (List.getElem_mem hlt) q hq h r hr e)
      have HTK:=hid (Zu7 (M:=L2) (K:=K) hlt)
      have HG1:=hid gg1
      have HGX1:=hid gx1
      have hiI:(i:Int) < (L1.length:Int):=om
      have hi0:(0:Int)≤(i:Int):=om
      clear gg1 gx1
      obtain ⟨xa,xc⟩:=mv1
      generalize L1[i]=Y1 at *
      obtain ⟨s1,v1⟩:=Y1
      dsimp only at *
      go_wp2_with fail
      go_loopg [15,17] (L2.length) (fun gk t15' t17' wr=>∃j c:Nat,gk+j=L2.length∧t15'=.int .i64 c∧t17'=.int .i64 j∧c≤a+j∧Hid (c=a+ZuL (L2.take j) K s1)∧Below w7.heap.size w7 wr)
      case atStart=>exact ⟨0,a,om,rfl,rfl,om,hid rfl,hbr⟩
      case round=>
       clear hbr
       obtain ⟨j,c,hj,rfl,rfl,hc,HC,hbr⟩:=hrel
       have hzr:=hbr.size
       by_cases hlt2:j < L2.length
       ·as_aux_lemma=>
         obtain ⟨b2,o2,mv2,rfl, -,hbs2,gg2,gx2⟩:=HX2.out.get j hlt2
         have j2:=(HIN2.out _ (List.getElem_mem hlt2)).2.1
         have OV2:=hid (HIN2.out _ (List.getElem_mem hlt2)).2.2.2
         have HE2:=hid (fun h=>HE1.out _ (List.getElem_mem hlt2) h)
         have HV2:=hid (fun h r hr e=>HV1.out _ (List.getElem_mem hlt2) h r hr e)
         have HPK:=hid (Zve (K:=K) (p:=s1) hlt2)
         have HG2:=hid gg2
         have HGX2:=hid gx2
         have hjI:(j:Int) < (L2.length:Int):=om
         have hj0:(0:Int)≤(j:Int):=om
         clear gg2 gx2
         obtain ⟨xa2,xc2⟩:=mv2
         generalize L2[j]=Y2 at *
         obtain ⟨s2,v2⟩:=Y2
         dsimp only at *
         obtain ⟨f0, -, -, -⟩:=Zsd.1 (Zuf (ZtY hbr) (A:=fun _=>True) trivial _ _ HG1.out)
         obtain ⟨g0, -, -, -⟩:=Zsd.1 (Zuf (ZtY hbr) (A:=fun _=>True) trivial _ _ HG2.out)
         have z1:b1 < wr.heap.size:=om
         have z2:b2 < wr.heap.size:=om
         have hss:¬9223372036854775807 < s1.size+s2.size:=om
         go_wp2_with fail
         go_region_held3 (fun W=>∀c k,c < wr.heap.size→W.cell? ⟨c,k,none⟩=wr.cell? ⟨c,k,none⟩) ((intro c k hc;refine Below.cell (B:=wr.heap.size) (w:=wr) (p:=⟨c,k,none⟩) ?_ hc;(exact ZtZ))) ((fail))
         obtain ⟨S,hS⟩:∃S,S=s1++s2:=⟨_,rfl⟩
         have hSz:S.size=s1.size+s2.size:=by rw [hS];exact ByteArray.size_append
         rw [←hS]
         rw [←hS] at HE2 HV2
         clear f0 g0 hss
         by_cases hsz:s1.size+s2.size≤K
         ·have hszI:¬(K:Int) < (S.size:Int):=om
          have hszN:¬K < S.size:=om
          have HE3:=hid (HE2.out hsz)
          have HV3:=hid (HV2.out hsz)
          have hcw:IntKind.i64.wrap ((c:Int)+1)=(c:Int)+1:=IntWalk.i64_in _ om
          have HC1:=hid (show c+1=a+ZuL (L2.take (j+1)) K s1 from by rw [HPK.out,if_pos hsz,HC.out];omega)
          have HS:=hid hS
          clear HE1 HE2 HV1 HV2 HPK hS
          go_wp2_with fail
          as_aux_lemma=>
           go_loopg [19,20] (L3.length) (fun gk t19' t20' wr=>∃(q:Nat) (z:Bool),gk+q=L3.length∧t19'=.bool z∧t20'=.int .i64 q∧Hid (ZuJ (L3.take q) S=z)∧Below w7.heap.size w7 wr)
           case atStart=>exact ⟨0,false,om,rfl,rfl,hid rfl,ZtZ⟩
           case round=>
            obtain ⟨q,z,hq,rfl,rfl,HZ,hbx⟩:=hrel
            have hzx:=hbx.size
            clear hbr hzr z1 z2
            by_cases hlt3:q < L3.length
            ·have HTK3:=hid (Zvb hlt3 HZ.out)
             obtain ⟨b3,o3,mv3,rfl, -,hbs3,gg3,gx3⟩:=HX3.out.get q hlt3
             have OV3:=hid (HIN3.out _ (List.getElem_mem hlt3)).2.2.2
             have HV4:=hid (HV3.out _ (List.getElem_mem hlt3))
             have hqI:(q:Int) < (L3.length:Int):=om
             have hq0:(0:Int)≤(q:Int):=om
             obtain ⟨xa3,xc3⟩:=mv3
             obtain ⟨f0,f1,f2,f3⟩:=Zsd.1 (Zuf (ZtY hbx) (A:=fun _=>True) trivial _ _ HG1.out)
             obtain ⟨g0,g1,g2,g3⟩:=Zsd.1 (Zuf (ZtY hbx) (A:=fun _=>True) trivial _ _ HG2.out)
             obtain ⟨p0,p1,p2,p3⟩:=Zsd.1 (Zuf (ZtY hbx) (A:=fun _=>True) trivial _ _ gg3)
             have HGX1:=hid (Zt5 (ZtY hbx) _ _ HGX1.out)
             have HGX2:=hid (Zt5 (ZtY hbx) _ _ HGX2.out)
             have HGX3:=hid (Zt5 (ZtY hbx) _ _ gx3)
             have z1:b1 < wr.heap.size:=om
             have z2:b2 < wr.heap.size:=om
             have z3:b3 < wr.heap.size:=om
             clear gg3 gx3 HV3
             generalize L3[q]=Y3 at *
             obtain ⟨s3,v3⟩:=Y3
             dsimp only at *
             cases z with
             | true=>
              as_aux_lemma=>
               have HZ1:Hid (ZuJ (L3.take (q+1)) S=true):=hid (by rw [HTK3.out];rfl)
               clear HTK3 HV4
               go_wp2_with fail
               refine wp_region_held_drew (S:=(fun W=>∀c k,c < wr.heap.size→W.cell? ⟨c,k,none⟩=wr.cell? ⟨c,k,none⟩)) kr ?_ (fun hHeld=>?_)
               ·exact Zo8
               refine tz 0 ?_
               ((try simp only [Act.put,List.setIfInBounds_toArray,ZxI]);(try simp only [List.set_cons_zero,List.set_cons_succ]))
               refine tz 1 ?_
               ((try simp only [Act.put,List.setIfInBounds_toArray,ZxI]);(try simp only [List.set_cons_zero,List.set_cons_succ]))
               refine th 2 ?_
               ((try simp only [Act.put,List.setIfInBounds_toArray,ZxI]);(try simp only [List.set_cons_zero,List.set_cons_succ]))
               refine th 3 ?_
               ((try simp only [Act.put,List.setIfInBounds_toArray,ZxI]);(try simp only [List.set_cons_zero,List.set_cons_succ]))
               refine th 4 ?_
               ((try simp only [Act.put,List.setIfInBounds_toArray,ZxI]);(try simp only [List.set_cons_zero,List.set_cons_succ]))
               refine th 5 ?_
               ((try simp only [Act.put,List.setIfInBounds_toArray,ZxI]);(try simp only [List.set_cons_zero,List.set_cons_succ]))
               refine th 6 ?_
               ((try simp only [Act.put,List.setIfInBounds_toArray,ZxI]);(try simp only [List.set_cons_zero,List.set_cons_succ]))
               as_aux_lemma=>
                refine th 7 ?_
                ((try simp only [Act.put,List.setIfInBounds_toArray,ZxI]);(try simp only [List.set_cons_zero,List.set_cons_succ]))
                refine th 8 ?_
                ((try simp only [Act.put,List.setIfInBounds_toArray,ZxI]);(try simp only [List.set_cons_zero,List.set_cons_succ]))
                refine th 9 ?_
                ((try simp only [Act.put,List.setIfInBounds_toArray,ZxI]);(try simp only [List.set_cons_zero,List.set_cons_succ]))
                refine th 10 ?_
                ((try simp only [Act.put,List.setIfInBounds_toArray,ZxI]);(try simp only [List.set_cons_zero,List.set_cons_succ]))
                refine th 11 ?_
                ((try simp only [Act.put,List.setIfInBounds_toArray,ZxI]);(try simp only [List.set_cons_zero,List.set_cons_succ]))
                refine th 12 ?_
                ((try simp only [Act.put,List.setIfInBounds_toArray,ZxI]);(try simp only [List.set_cons_zero,List.set_cons_succ]))
                refine th 13 ?_
                ((try simp only [Act.put,List.setIfInBounds_toArray,ZxI]);(try simp only [List.set_cons_zero,List.set_cons_succ]))
                refine th 14 ?_
                ((try simp only [Act.put,List.setIfInBounds_toArray,ZxI]);(try simp only [List.set_cons_zero,List.set_cons_succ]))
                as_aux_lemma=>
                 refine th 15 ?_
                 ((try simp only [Act.put,List.setIfInBounds_toArray,ZxI]);(try simp only [List.set_cons_zero,List.set_cons_succ]))
                 refine th 16 ?_
                 ((try simp only [Act.put,List.setIfInBounds_toArray,ZxI]);(try simp only [List.set_cons_zero,List.set_cons_succ]))
                 refine th 17 ?_
                 ((try simp only [Act.put,List.setIfInBounds_toArray,ZxI]);(try simp only [List.set_cons_zero,List.set_cons_succ]))
                 refine th 18 ?_
                 ((try simp only [Act.put,List.setIfInBounds_toArray,ZxI]);(try simp only [List.set_cons_zero,List.set_cons_succ]))
                 refine th 19 ?_
                 ((try simp only [Act.put,List.setIfInBounds_toArray,ZxI]);(try simp only [List.set_cons_zero,List.set_cons_succ]))
                 refine th 20 ?_
                 ((try simp only [Act.put,List.setIfInBounds_toArray,ZxI]);(try simp only [List.set_cons_zero,List.set_cons_succ]))
                 refine th 21 ?_
                 ((try simp only [Act.put,List.setIfInBounds_toArray,ZxI]);(try simp only [List.set_cons_zero,List.set_cons_succ]))
                 refine th 22 ?_
                 ((try simp only [Act.put,List.setIfInBounds_toArray,ZxI]);(try simp only [List.set_cons_zero,List.set_cons_succ]))
                 as_aux_lemma=>
                  refine th 23 ?_
                  ((try simp only [Act.put,List.setIfInBounds_toArray,ZxI]);(try simp only [List.set_cons_zero,List.set_cons_succ]))
                  refine th 24 ?_
                  ((try simp only [Act.put,List.setIfInBounds_toArray,ZxI]);(try simp only [List.set_cons_zero,List.set_cons_succ]))
                  refine th 25 ?_
                  ((try simp only [Act.put,List.setIfInBounds_toArray,ZxI]);(try simp only [List.set_cons_zero,List.set_cons_succ]))
                  refine th 26 ?_
                  ((try simp only [Act.put,List.setIfInBounds_toArray,ZxI]);(try simp only [List.set_cons_zero,List.set_cons_succ]))
                  refine th 27 ?_
                  ((try simp only [Act.put,List.setIfInBounds_toArray,ZxI]);(try simp only [List.set_cons_zero,List.set_cons_succ]))
                  refine th 28 ?_
                  exact ZoN
             | false=>
              by_cases he:s3=S
              ·as_aux_lemma=>
                have hv:v3=⟨3,0,[v1,v2]⟩:=HV4.out he
                have HZ1:Hid (ZuJ (L3.take (q+1)) S=true):=hid (by rw [HTK3.out,he];simp)
                clear HTK3 HV4
                subst he
                subst hv
                dsimp only at *
                go_wp2_with fail
                refine wp_region_held_drew (S:=(fun W=>∀c k,c < wr.heap.size→W.cell? ⟨c,k,none⟩=wr.cell? ⟨c,k,none⟩)) kr ?_ (fun hHeld=>?_)
                ·exact Zo8
                refine tz 0 ?_
                ((try simp only [Act.put,List.setIfInBounds_toArray,ZxI]);(try simp only [List.set_cons_zero,List.set_cons_succ]))
                refine tz 1 ?_
                ((try simp only [Act.put,List.setIfInBounds_toArray,ZxI]);(try simp only [List.set_cons_zero,List.set_cons_succ]))
                refine tz 2 ?_
                ((try simp only [Act.put,List.setIfInBounds_toArray,ZxI]);(try simp only [List.set_cons_zero,List.set_cons_succ]))
                refine tz 3 ?_
                ((try simp only [Act.put,List.setIfInBounds_toArray,ZxI]);(try simp only [List.set_cons_zero,List.set_cons_succ]))
                refine tz 4 ?_
                ((try simp only [Act.put,List.setIfInBounds_toArray,ZxI]);(try simp only [List.set_cons_zero,List.set_cons_succ]))
                refine tz 5 ?_
                ((try simp only [Act.put,List.setIfInBounds_toArray,ZxI]);(try simp only [List.set_cons_zero,List.set_cons_succ]))
                refine tz 6 ?_
                ((try simp only [Act.put,List.setIfInBounds_toArray,ZxI]);(try simp only [List.set_cons_zero,List.set_cons_succ]))
                as_aux_lemma=>
                 refine tz 7 ?_
                 ((try simp only [Act.put,List.setIfInBounds_toArray,ZxI]);(try simp only [List.set_cons_zero,List.set_cons_succ]))
                 refine tz 8 ?_
                 ((try simp only [Act.put,List.setIfInBounds_toArray,ZxI]);(try simp only [List.set_cons_zero,List.set_cons_succ]))
                 refine tz 9 ?_
                 ((try simp only [Act.put,List.setIfInBounds_toArray,ZxI]);(try simp only [List.set_cons_zero,List.set_cons_succ]))
                 refine tz 10 ?_
                 ((try simp only [Act.put,List.setIfInBounds_toArray,ZxI]);(try simp only [List.set_cons_zero,List.set_cons_succ]))
                 refine tz 11 ?_
                 ((try simp only [Act.put,List.setIfInBounds_toArray,ZxI]);(try simp only [List.set_cons_zero,List.set_cons_succ]))
                 refine tz 12 ?_
                 ((try simp only [Act.put,List.setIfInBounds_toArray,ZxI]);(try simp only [List.set_cons_zero,List.set_cons_succ]))
                 refine tz 13 ?_
                 ((try simp only [Act.put,List.setIfInBounds_toArray,ZxI]);(try simp only [List.set_cons_zero,List.set_cons_succ]))
                 refine tz 14 ?_
                 ((try simp only [Act.put,List.setIfInBounds_toArray,ZxI]);(try simp only [List.set_cons_zero,List.set_cons_succ]))
                 as_aux_lemma=>
                  refine tz 15 ?_
                  ((try simp only [Act.put,List.setIfInBounds_toArray,ZxI]);(try simp only [List.set_cons_zero,List.set_cons_succ]))
                  refine tz 16 ?_
                  ((try simp only [Act.put,List.setIfInBounds_toArray,ZxI]);(try simp only [List.set_cons_zero,List.set_cons_succ]))
                  refine tz 17 ?_
                  ((try simp only [Act.put,List.setIfInBounds_toArray,ZxI]);(try simp only [List.set_cons_zero,List.set_cons_succ]))
                  refine tz 18 ?_
                  ((try simp only [Act.put,List.setIfInBounds_toArray,ZxI]);(try simp only [List.set_cons_zero,List.set_cons_succ]))
                  refine tz 19 ?_
                  ((try simp only [Act.put,List.setIfInBounds_toArray,ZxI]);(try simp only [List.set_cons_zero,List.set_cons_succ]))
                  refine tz 20 ?_
                  ((try simp only [Act.put,List.setIfInBounds_toArray,ZxI]);(try simp only [List.set_cons_zero,List.set_cons_succ]))
                  refine tz 21 ?_
                  ((try simp only [Act.put,List.setIfInBounds_toArray,ZxI]);(try simp only [List.set_cons_zero,List.set_cons_succ]))
                  refine tz 22 ?_
                  ((try simp only [Act.put,List.setIfInBounds_toArray,ZxI]);(try simp only [List.set_cons_zero,List.set_cons_succ]))
                  as_aux_lemma=>
                   refine tz 23 ?_
                   ((try simp only [Act.put,List.setIfInBounds_toArray,ZxI]);(try simp only [List.set_cons_zero,List.set_cons_succ]))
                   refine tz 24 ?_
                   ((try simp only [Act.put,List.setIfInBounds_toArray,ZxI]);(try simp only [List.set_cons_zero,List.set_cons_succ]))
                   refine wrh1 25 fun K hK=>?_
                   (rw [if_pos (c:=Region.wanted _ _=true) (by rfl)];refine Zwj (d:=129) (k:=v1.k) (n:=v1.n) (b:=xa) (l:=v1.l.length) (c:=xc) (k2:=v2.k) (n2:=v2.n) (b2:=xa2) (l2:=v2.l.length) (c2:=xc2) rfl rfl kr ?_;simp only [Act.put,sl,s0,ss,World.size_alloc])
                   refine hK.out _ _ ?_ (fun hHeld=>?_)
                   ·exact Zo8
                   clear hK K
                   refine wrh1 26 fun K hK=>?_
                   go_simp
                   go_wp2_with (go_at_call 34;refine (Zvj [v1,v2] _ (fun _=>True) (some ⟨wr.heap.size,0,none⟩) 2 sm (show okVs [v1,v2] from by simp only [okVs];exact ⟨OV1.out,OV2.out,trivial⟩) (by exact Zvz (m:=⟨xa,xc⟩) (m2:=⟨xa2,xc2⟩) ⟨gs,gs,gs,gs,gs,gs,trivial⟩ (Zt5 ar _ _ HGX1.out) (Zt5 ar _ _ HGX2.out))).mono ?_;rintro e w8 ⟨hb8,mo,rfl,hrv⟩;have HRV:=hid hrv;clear hrv;have hz8:=hb8.size;(try simp at hz8))
                   refine hK.out _ _ ?_ (fun hHeld=>?_)
                   ·exact Zo8
                   clear hK K
                   refine wrh1 27 fun K hK=>?_
                   go_simp
                   go_wp2_with (go_at_call 33;refine (Zhm ⟨3,0,[v1,v2]⟩ _ (fun _=>True) _ ⟨xa3,xc3⟩ mo OV3.out (by exact Zt5 ar _ _ HGX3.out) (by exact HRV.out)).mono ?_;rintro e w9 ⟨rfl,hb9⟩;have hz9:=hb9.size;(try simp at hz9))
                   refine hK.out _ _ ?_ (fun hHeld=>?_)
                   ·exact Zo8
                   clear hK K
                   refine tz 28 ?_
                   exact ZoN
              as_aux_lemma=>
              have he3:decide (s3=S)=false:=decide_eq_false he
              have he4:¬s3.toList=S.toList:=fun e=>he (by rw [ByteArray.toList_eq,ByteArray.toList_eq] at e;exact ByteArray.ext (Array.ext' e))
              have he5:(s3.toList==S.toList)=false:=beq_eq_false_iff_ne.2 he4
              have HZ1:Hid (ZuJ (L3.take (q+1)) S=false):=hid (by rw [HTK3.out,he3];rfl)
              clear HTK3 HV4
              go_wp2_with fail
              refine wp_region_held_drew (S:=(fun W=>∀c k,c < wr.heap.size→W.cell? ⟨c,k,none⟩=wr.cell? ⟨c,k,none⟩)) kr ?_ (fun hHeld=>?_)
              ·exact Zo8
              refine tz 0 ?_
              ((try simp only [Act.put,List.setIfInBounds_toArray,ZxI]);(try simp only [List.set_cons_zero,List.set_cons_succ]))
              refine tz 1 ?_
              ((try simp only [Act.put,List.setIfInBounds_toArray,ZxI]);(try simp only [List.set_cons_zero,List.set_cons_succ]))
              refine tz 2 ?_
              ((try simp only [Act.put,List.setIfInBounds_toArray,ZxI]);(try simp only [List.set_cons_zero,List.set_cons_succ]))
              refine tz 3 ?_
              ((try simp only [Act.put,List.setIfInBounds_toArray,ZxI]);(try simp only [List.set_cons_zero,List.set_cons_succ]))
              refine tz 4 ?_
              ((try simp only [Act.put,List.setIfInBounds_toArray,ZxI]);(try simp only [List.set_cons_zero,List.set_cons_succ]))
              refine tz 5 ?_
              ((try simp only [Act.put,List.setIfInBounds_toArray,ZxI]);(try simp only [List.set_cons_zero,List.set_cons_succ]))
              refine tz 6 ?_
              ((try simp only [Act.put,List.setIfInBounds_toArray,ZxI]);(try simp only [List.set_cons_zero,List.set_cons_succ]))
              as_aux_lemma=>
               refine tz 7 ?_
               ((try simp only [Act.put,List.setIfInBounds_toArray,ZxI]);(try simp only [List.set_cons_zero,List.set_cons_succ]))
               refine tz 8 ?_
               ((try simp only [Act.put,List.setIfInBounds_toArray,ZxI]);(try simp only [List.set_cons_zero,List.set_cons_succ]))
               refine tz 9 ?_
               ((try simp only [Act.put,List.setIfInBounds_toArray,ZxI]);(try simp only [List.set_cons_zero,List.set_cons_succ]))
               refine th 10 ?_
               ((try simp only [Act.put,List.setIfInBounds_toArray,ZxI]);(try simp only [List.set_cons_zero,List.set_cons_succ]))
               refine th 11 ?_
               ((try simp only [Act.put,List.setIfInBounds_toArray,ZxI]);(try simp only [List.set_cons_zero,List.set_cons_succ]))
               refine th 12 ?_
               ((try simp only [Act.put,List.setIfInBounds_toArray,ZxI]);(try simp only [List.set_cons_zero,List.set_cons_succ]))
               refine th 13 ?_
               ((try simp only [Act.put,List.setIfInBounds_toArray,ZxI]);(try simp only [List.set_cons_zero,List.set_cons_succ]))
               refine th 14 ?_
               ((try simp only [Act.put,List.setIfInBounds_toArray,ZxI]);(try simp only [List.set_cons_zero,List.set_cons_succ]))
               as_aux_lemma=>
                refine th 15 ?_
                ((try simp only [Act.put,List.setIfInBounds_toArray,ZxI]);(try simp only [List.set_cons_zero,List.set_cons_succ]))
                refine th 16 ?_
                ((try simp only [Act.put,List.setIfInBounds_toArray,ZxI]);(try simp only [List.set_cons_zero,List.set_cons_succ]))
                refine th 17 ?_
                ((try simp only [Act.put,List.setIfInBounds_toArray,ZxI]);(try simp only [List.set_cons_zero,List.set_cons_succ]))
                refine th 18 ?_
                ((try simp only [Act.put,List.setIfInBounds_toArray,ZxI]);(try simp only [List.set_cons_zero,List.set_cons_succ]))
                refine th 19 ?_
                ((try simp only [Act.put,List.setIfInBounds_toArray,ZxI]);(try simp only [List.set_cons_zero,List.set_cons_succ]))
                refine th 20 ?_
                ((try simp only [Act.put,List.setIfInBounds_toArray,ZxI]);(try simp only [List.set_cons_zero,List.set_cons_succ]))
                refine th 21 ?_
                ((try simp only [Act.put,List.setIfInBounds_toArray,ZxI]);(try simp only [List.set_cons_zero,List.set_cons_succ]))
                refine th 22 ?_
                ((try simp only [Act.put,List.setIfInBounds_toArray,ZxI]);(try simp only [List.set_cons_zero,List.set_cons_succ]))
                as_aux_lemma=>
                 refine th 23 ?_
                 ((try simp only [Act.put,List.setIfInBounds_toArray,ZxI]);(try simp only [List.set_cons_zero,List.set_cons_succ]))
                 refine th 24 ?_
                 ((try simp only [Act.put,List.setIfInBounds_toArray,ZxI]);(try simp only [List.set_cons_zero,List.set_cons_succ]))
                 refine th 25 ?_
                 ((try simp only [Act.put,List.setIfInBounds_toArray,ZxI]);(try simp only [List.set_cons_zero,List.set_cons_succ]))
                 refine th 26 ?_
                 ((try simp only [Act.put,List.setIfInBounds_toArray,ZxI]);(try simp only [List.set_cons_zero,List.set_cons_succ]))
                 refine th 27 ?_
                 ((try simp only [Act.put,List.setIfInBounds_toArray,ZxI]);(try simp only [List.set_cons_zero,List.set_cons_succ]))
                 refine tz 28 ?_
                 ((try simp only [Act.put,List.setIfInBounds_toArray,ZxI]);(try simp only [List.set_cons_zero,List.set_cons_succ]))
                 refine tz 29 ?_
                 ((try simp only [Act.put,List.setIfInBounds_toArray,ZxI]);(try simp only [List.set_cons_zero,List.set_cons_succ]))
                 refine tz 30 ?_
                 ((try simp only [Act.put,List.setIfInBounds_toArray,ZxI]);(try simp only [List.set_cons_zero,List.set_cons_succ]))
                 as_aux_lemma=>
                  refine wpAnyH_done kr ?_ _
                  as_aux_lemma=>
                   (go_wp2_with fail;go_roundg (gk - 1);(case measure=>omega);(case rel=>exact ⟨q+1,false,om,rfl,by go_num,HZ1,ZtZ⟩))
            have hqL:¬(q:Int) < (L3.length:Int):=om
            have hqE:q=L3.length:=om
            have hzt:z=true:=by rw [←HZ.out,hqE,List.take_length];exact HE3.out
            subst hzt
            go_wp2_with fail
            go_roundg (L2.length - j - 1)
            case measure=>omega
            case rel=>exact ⟨j+1,c+1,om,by push_cast;rfl,by go_num,om,HC1,ZtZ⟩
         have hszI:(K:Int) < (S.size:Int):=om
         have hszN:K < S.size:=om
         clear hS
         go_wp2_with fail
         go_roundg (gk - 1)
         case measure=>omega
         case rel=>exact ⟨j+1,c,om,rfl,by go_num,om,hid (by rw [HPK.out,if_neg hsz,HC.out];omega),ZtZ⟩
       have hjL:¬(j:Int) < (L2.length:Int):=om
       have hjE:j=L2.length:=om
       go_wp2_with fail
       go_roundg (L1.length - i - 1)
       case measure=>omega
       case rel=>exact ⟨i+1,c,om,rfl,by go_num,om,hid (by rw [HTK.out,HC.out,←HA.out,hjE,List.take_length]),hbr⟩
     have hiL:¬(i:Int) < (L1.length:Int):=om
     have hiE:i=L1.length:=om
     have haE:(a:Int)=(L3.length:Int):=by rw [HA.out,hiE,List.take_length,HLEN.out]
     have haE2:((a:Int)==(L3.length:Int))=true:=by rw [haE];exact beq_self_eq_true _
     clear haE
     go_wp2_with fail
     go_ret
     exact ⟨rfl,ZtZ⟩
set_option maxRecDepth 512
theorem Zvd (w:World) (t:GT) (A:Nat→Prop) (m:TA) (ox:okT t) (hs:Zb t≤1048576) (hl:RT w A t m) (u:GT) (A2:Nat→Prop) (m2:TA) (ou:okT u) (hs2:Zb u≤1048576) (hl2:RT w A2 u m2) (k:Int) (hk:0≤k∧k≤255):
  Calls prog 6 #[TV t m,TV u m2,.int .u8 k] w fun e w'=>e=.returned (.bool true)∧Below w.heap.size w w':=by
 by_cases hE:(Z3 (Zuj t u)).2=0
 ·exact Zwu w t A m ox hs hl u A2 m2 ou hs2 hl2 k hk hE
 exact Zwt w t A m ox hs hl u A2 m2 ou hs2 hl2 k hk hE
end Go.Proofs.YtkdffbdnjfgpeaaGreat
