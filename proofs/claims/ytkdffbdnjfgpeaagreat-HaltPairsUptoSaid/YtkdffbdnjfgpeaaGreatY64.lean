/- Part 65. -/
import Derived.Test.YtkdffbdnjfgpeaaGreatY51
import Derived.Test.YtkdffbdnjfgpeaaGreatY54
import Derived.Test.YtkdffbdnjfgpeaaGreatY59
import Derived.Test.YtkdffbdnjfgpeaaGreatY60
import Derived.Test.YtkdffbdnjfgpeaaGreatY63
set_option linter.all false
namespace Go.Proofs.YtkdffbdnjfgpeaaGreat
open Go.Lib (hid)
open Go Go.RowKit Go.Proofs.Tryz
set_option maxRecDepth 100000
set_option maxHeartbeats 16000000
theorem Zwt (w:World) (t:GT) (A:Nat→Prop) (m:TA) (ox:okT t) (hs:Zb t≤1048576) (hl:RT w A t m) (u:GT) (A2:Nat→Prop) (m2:TA) (ou:okT u) (hs2:Zb u≤1048576) (hl2:RT w A2 u m2) (k:Int) (hk:0≤k∧k≤255) (hE:(Z3 (Zuj t u)).2≠0):
  Calls prog 6 #[TV t m,TV u m2,.int .u8 k] w fun e w'=>e=.returned (.bool true)∧Below w.heap.size w w':=by
 obtain ⟨ma,mb,mc,md,me,mf,mg,mh,mi,mj,mk,ml⟩:=m
 obtain ⟨na,nb,nc,nd,ne,nf,ng,nh,ni,nj,nk,nl⟩:=m2
 have HL:=hid hl
 have HL2:=hid hl2
 have OX:=hid ox
 have OU:=hid ou
 obtain ⟨kn,rfl⟩:∃kn:Nat,k=kn:=⟨k.toNat,om⟩
 obtain ⟨K,hK⟩:∃K,K=kn % 7:=⟨_,rfl⟩
 have hK8:K≤6:=om
 have hK1:(kn:Int) % 7=(K:Int):=om
 have hs9:Zb t≤1099511627776:=om
 have hs8:Zb u≤1099511627776:=om
 have OB:=hid (ZuD ox ou)
 have hsb:=Zvt t u
 have hsb9:Zb (Zuj t u)≤1099511627776:=om
 have hsb4:Zb (Zuj t u)≤4194304:=om
 have HMAY:Hid (∀W b,RT W (fun _=>True) (Zuj t u) (mB b)→Calls prog 32 #[.agg #[.int .u8 5,.int .u8 0,.int .i64 0,.slice none 0 0,.slice none 0 0,.int .i64 0,.int .i64 0,.slice none 0 0,.int .u8 0,.int .u8 0,.int .i64 0,.slice none 0 0,.int .i64 0,.slice none 0 0,.slice (some ⟨b,0,none⟩) 2 2]] W fun e w'=>e=.returned (.bool (ZtP (Zuj t u)))∧Below W.heap.size W w'):=hid (fun W b h=>ZtQ (Zuj t u) W (fun _=>True) (mB b) (ZuD ox ou) hsb9 h)
 have HLONG:Hid (∀W b,RT W (fun _=>True) (Zuj t u) (mB b)→Calls prog 10 #[.agg #[.int .u8 5,.int .u8 0,.int .i64 0,.slice none 0 0,.slice none 0 0,.int .i64 0,.int .i64 0,.slice none 0 0,.int .u8 0,.int .u8 0,.int .i64 0,.slice none 0 0,.int .i64 0,.slice none 0 0,.slice (some ⟨b,0,none⟩) 2 2],.int .i64 K] W (KY W)):=hid (fun W b h=>ZrA (Zuj t u) K W (fun _=>True) (mB b) (ZuD ox ou) hsb4 h)
 have hm:ZtP (Zuj t u)=false:=by unfold ZtP;simp [hE]
 rw [hm] at HMAY
 clear hE hm hl hl2 ox ou hK hs9 hs8 hs hs2 hsb hsb9 hsb4
 go_enter func6,ntmps6
 go_upto_region 1 with fail
 refine ZT (fun W=>Below w.heap.size w W∧w.heap.size+1 < W.heap.size∧Hid (At W w.heap.size 0 [.int .u8 t.k,.int .u8 t.v.k,.int .i64 t.v.n,.slice ma t.v.l.length mb,.slice mc t.vs.length md,.int .i64 t.lo,.int .i64 t.hi,.slice me t.w.length mf,.int .u8 t.p.k,.int .u8 t.p.v.k,.int .i64 t.p.v.n,.slice mg t.p.v.l.length mh,.int .i64 t.p.n,.slice mi t.p.a.length mj,.slice mk t.a.length ml])∧Hid (At W (w.heap.size+1) 0 [.int .u8 u.k,.int .u8 u.v.k,.int .i64 u.v.n,.slice na u.v.l.length nb,.slice nc u.vs.length nd,.int .i64 u.lo,.int .i64 u.hi,.slice ne u.w.length nf,.int .u8 u.p.k,.int .u8 u.p.v.k,.int .i64 u.p.v.n,.slice ng u.p.v.l.length nh,.int .i64 u.p.n,.slice ni u.p.a.length nj,.slice nk u.a.length nl])) ⟨ZtZ,sm,hid (ZO.2 ⟨gs,gs,gs,gs,gs,gs,gs,gs,gs,gs,gs,gs,gs,gs,gs⟩),hid (ZO.2 ⟨gs,gs,gs,gs,gs,gs,gs,gs,gs,gs,gs,gs,gs,gs,gs⟩)⟩ ?_
 rintro wa ⟨hba,hza,HT,HU⟩
 obtain ⟨c0,c1,c2,c3,c4,c5,c6,c7,c8,c9,ca,cb,cc,cd,ce⟩:=ZO.1 HT.out
 obtain ⟨d0,d1,d2,d3,d4,d5,d6,d7,d8,d9,da,db,dc,dd,de⟩:=ZO.1 HU.out
 go_upto_region 3 with (go_at_call 31;(with_reducible refine (Zvx _ _ _ _ _).mono ?_);rintro e w1 ⟨rfl,hb1⟩;have hz1:=hb1.size;(try simp at hz1))
 have hb2:Below wa.heap.size wa w1:=ZtZ
 have HN:Hid (At w1 wa.heap.size 0 ([.int .u8 t.k,.int .u8 t.v.k,.int .i64 t.v.n,.slice ma t.v.l.length mb,.slice mc t.vs.length md,.int .i64 t.lo,.int .i64 t.hi,.slice me t.w.length mf,.int .u8 t.p.k,.int .u8 t.p.v.k,.int .i64 t.p.v.n,.slice mg t.p.v.l.length mh,.int .i64 t.p.n,.slice mi t.p.a.length mj,.slice mk t.a.length ml]++[.int .u8 u.k,.int .u8 u.v.k,.int .i64 u.v.n,.slice na u.v.l.length nb,.slice nc u.vs.length nd,.int .i64 u.lo,.int .i64 u.hi,.slice ne u.w.length nf,.int .u8 u.p.k,.int .u8 u.p.v.k,.int .i64 u.p.v.n,.slice ng u.p.v.l.length nh,.int .i64 u.p.n,.slice ni u.p.a.length nj,.slice nk u.a.length nl])):=hid (Zuf (ZtY hb1) (A:=fun _=>True) trivial _ _ (ZvB wa _ _))
 refine ZT (fun W=>Below w.heap.size w W∧Below wa.heap.size wa W∧w1.heap.size < W.heap.size∧Hid (RT W (fun _=>True) (Zuj t u) (mB wa.heap.size))∧Hid (At W w1.heap.size 0 [.int .u8 5,.int .u8 0,.int .i64 0,.slice none 0 0,.slice none 0 0,.int .i64 0,.int .i64 0,.slice none 0 0,.int .u8 0,.int .u8 0,.int .i64 0,.slice none 0 0,.int .i64 0,.slice none 0 0,.slice (some ⟨wa.heap.size,0,none⟩) 2 2])) ⟨ZtZ,ZtZ,sm,hid ?_,hid (ZvB w1 _ _)⟩ ?_
 ·have hb3:∀o,Below w1.heap.size w1 (w1.alloc o):=fun o=>Below.alloc (Below.refl _ _) (Nat.le_refl _) _
  obtain ⟨h1,h2⟩:=Zvk _ _ _ HN.out
  exact ZvE (m:=⟨ma,mb,mc,md,me,mf,mg,mh,mi,mj,mk,ml⟩) (m2:=⟨na,nb,nc,nd,ne,nf,ng,nh,ni,nj,nk,nl⟩) (Zuf (ZtY (hb3 _)) (A:=fun _=>True) trivial _ _ h1) (Zuf (ZtY (hb3 _)) (A:=fun _=>True) trivial _ _ h2) (Zt2 ar _ _ HL.out) (Zt2 ar _ _ HL2.out)
 rintro wb ⟨hbb,hbab,hzb,HRB,HBT⟩
 clear c0 c1 c2 c3 c4 c5 c6 c7 c8 c9 ca cb cc cd ce d0 d1 d2 d3 d4 d5 d6 d7 d8 d9 da db dc dd de hb1 hb2 HN
 have HT:=hid (Zuf (ZtY hbab) (A:=fun _=>True) trivial _ _ HT.out)
 have HU:=hid (Zuf (ZtY hbab) (A:=fun _=>True) trivial _ _ HU.out)
 have HLb:=hid (Zt2 (ZtY hbb) _ _ HL.out)
 have HLb2:=hid (Zt2 (ZtY hbb) _ _ HL2.out)
 have hzab:=hbab.size
 generalize w1.heap.size=x0 at *
 have hzxb:x0 < wb.heap.size:=hzb
 clear hzb hbab
 obtain ⟨c0,c1,c2,c3,c4,c5,c6,c7,c8,c9,ca,cb,cc,cd,ce⟩:=ZO.1 HBT.out
 go_wp2_with (first
  | (go_at_call 10;(with_reducible refine (HLONG.out _ _ (by exact Zt2 ar _ _ HRB.out)).mono ?_);rintro e w2 ⟨⟨b2,rfl⟩,hb2⟩;obtain ⟨hc2,hf2⟩:=Za hb2;have hz2:=hb2.size;(try simp at hz2);have y2:x0 < w2.heap.size:=om;cases b2)
  | (go_at_call 32;(with_reducible refine (HMAY.out _ _ (by exact Zt2 ar _ _ HRB.out)).mono ?_);rintro e w3 ⟨rfl,hb3⟩;have hz3:=hb3.size)
  | (go_at_call 11;(with_reducible refine (ZrU _).mono ?_);rintro e w4 ⟨rfl,hb4⟩;have hz4:=hb4.size))
 all_goals go_ret
 all_goals exact ⟨rfl,ZtZ⟩
end Go.Proofs.YtkdffbdnjfgpeaaGreat
