/- What the proofs of the Trial statements need: part 24. -/
import Derived.Deep.RegionHeld3
import Derived.Test.YtclphfojkggcpaaGreatZ16
import Derived.Test.YtclphfojkggcpaaGreatZ19
import Derived.Test.YtclphfojkggcpaaGreatZ22
set_option linter.unusedVariables false
set_option linter.unusedSimpArgs false
namespace Go.Proofs.YtclphfojkggcpaaGreat
open Go.Lib (hid)
open Go Go.RowKit
theorem r13Draw_at (s:ByteArray) (k n i c:Nat) (K:Int) (hK:K=k) (w:World) (hb:isBits s=true) (hi:i≤s.size) (hk:k≤n) (hn:n≤64) (hc:Cur w c s i false):
  Calls Tryz.prog 81 #[.pointer (some ⟨c,0,none⟩),.int .i64 K,.int .i64 n] w (rowR c s (poolP s k n i) w):=by
 subst hK
 exact r13Draw_any s k n i c w hb hi hk hn hc
set_option maxRecDepth 100000 in
set_option maxHeartbeats 4000000 in
theorem s22_8 (c:Nat) (s:ByteArray) (f:Nat) (ih:SamIH22 c s f) (t:GT) (i:Nat) (w:World) (m:TA) (hb:isBits s=true) (hk:t.k=8) (hn:nodeT t=0) (hx:∀x∈t.a,goodT false x∧okT x∧∃k n,wkT f x [] k n≠none) (hi:i≤s.size) (hc:Cur w c s i false) (hl:RT w (fun b=>b≠c) t m):
  Calls Tryz.prog 53 #[.pointer (some ⟨c,0,none⟩),TV t m] w (Sam22 c s (sampT s (f+1) t [] i) w):=by
 rw [sampT_8 s f t [] i hk]
 obtain ⟨ma,mb,mc,md,me,mf,mg,mh,mi,mj,mk,ml⟩:=m
 have h64:=node_args hn (.inr (.inr hk))
 obtain ⟨hp0,hp1⟩:=node_pick hn hk
 obtain ⟨kk,hkk⟩:∃kk:Nat,t.lo=(kk:Int):=⟨t.lo.toNat,by omega⟩
 have hkn:t.lo.toNat=kk:=by omega
 have hkl:kk≤t.a.length:=by omega
 rw [hkn]
 have HKK:=hid hkk
 obtain ⟨c1,c2',c3⟩:=poolP_in s kk t.a.length i hi hkl
 have HL:=hid (RTs.mono (A':=fun b=>b≠c∧b < w.heap.size) (fun b h hb=>⟨h,hb⟩) _ _ (RT_iff.1 hl).2.2.2.2)
 have HC:=hid hc
 have HB:=hid hb
 have HX:=hid hx
 have IH:=hid ih
 have hcs:c < w.heap.size:=World.block_lt_of_cell? _ _ hc.1.1
 have hk1:(t.k==1)=false:=by simp [hk]
 have hk2:(t.k==2)=false:=by simp [hk]
 have hk3:(t.k==3)=false:=by simp [hk]
 have hk4:(t.k==4)=false:=by simp [hk]
 have hk5:(t.k==5)=false:=by simp [hk]
 have hk6:(t.k==6)=false:=by simp [hk]
 have hk7:(t.k==7)=false:=by simp [hk]
 have hk8:(t.k==8)=true:=by simp [hk]
 obtain ⟨i0,hi0,g0,g1,g2⟩:=info_parts infoTerm
 clear hc hk hl hx ih hn hb c1 hkn hkk hp0 hp1
 rcases hP:poolP s kk t.a.length i with ⟨_|row,j⟩
 ·have HP:=hid hP
  clear hP c2' c3
  show Calls _ _ _ _ (Sam22 c s (.no 2) w)
  go_enter Tryz.func53,Tryz.ntmps53
  go_wp2_with (go_at_call 81;refine (r13Draw_at s kk t.a.length i c t.lo HKK.out _ HB.out hi hkl h64 (by exact Cur.below (B:=w.heap.size) Below.r hcs HC.out)).mono ?_;rw [HP.out];rintro e1 w3 ⟨hb3,rfl,hc3⟩;clear hc3;have hz3:=hb3.size;(try simp at hz3);obtain ⟨hc3,hf3⟩:=ccells hb3;have y1:w.heap.size+1 < w3.heap.size:=(by omega);have y2:¬w.heap.size+1=c:=(by omega);have y3:¬w.heap.size=c:=(by omega))
  refine bodyPost_ret (v:=(.tuple #[VV ⟨0,0,[]⟩ ⟨none,0⟩,.int .u8 2])) (by first|(simp [results,Tryz.f53,go_sem];done)|(simp [results,Tryz.f53,go_sem, *];done)) rfl ?_
  exact ⟨But.r,rfl,by omega,by omega⟩
 ·rw [hP] at c2' c3
  dsimp only at c2' c3
  obtain ⟨hr1,hr2⟩:=c3 row rfl
  have HM:=hid hr2
  have hr64:row.length≤64:=by omega
  have HPL0:=hid (pickL_length _ _ hr2)
  have HG:=hid (fun x (hx:x∈pickL t.a row)=>HX.out x (pickL_mem hx))
  have HP:=hid hP
  clear hP c3 hr2 hr1
  simp only [needR,Res.bind]
  generalize hA:allD (fun x=>sampT s f x []) (pickL t.a row) j=A
  have HA:=hid hA
  clear hA
  go_enter Tryz.func53,Tryz.ntmps53
  go_wp2_with (go_at_call 81;refine (r13Draw_at s kk t.a.length i c t.lo HKK.out _ HB.out hi hkl h64 (by exact Cur.below (B:=w.heap.size) Below.r hcs HC.out)).mono ?_;rw [HP.out];rintro e1 w3 ⟨hb3,⟨a3,cp3,rfl,hri⟩,hc3⟩;have HC3:=hid hc3;have HI:=hid hri;clear hc3 hri;have hz3:=hb3.size;(try simp at hz3);have y1:w.heap.size+1 < w3.heap.size:=(by omega);have y2:¬w.heap.size+1=c:=(by omega);have y3:¬w.heap.size=c:=(by omega);have hbb3:But c w.heap.size w w3:=But.r;have HZ3:=hid (show ZRes w3 (w.heap.size+1) from (by obtain ⟨hc3,hf3⟩:=ccells hb3;exact ⟨⟨by go_simp,by go_simp,by go_simp⟩,by go_simp,by go_simp,by go_simp⟩));have HQ3:=hid (show w3.cell? ⟨w.heap.size,14,none⟩=some (.slice mk t.a.length ml) from (by obtain ⟨hc3,hf3⟩:=ccells hb3;go_simp));have HR3:=hid (RTs.mono (A':=fun b=>b≠c∧b < w3.heap.size) (fun b h hb=>⟨h.1,hb⟩) _ _ (RTs.ext (fun q u hq hcq=>Agree.but hbb3 q u hq.1 hcq) _ _ HL.out));clear hb3)
  go_loopg [27,28] (row.length) (fun gk t27 i' wr=>∃(k:Nat) (ps:List (GT×TA)) (v:Value),v=t27∧gk+k=row.length∧i'=.int .i64 k∧Below w3.heap.size w3 wr∧Hid (ps.length=k)∧Hid (ps.map Prod.fst=pickL t.a (row.take k)) ∧
    Hid (wr.ownsRow w3.heap.size 31 15 v k (flatT ps))∧Hid (∀q∈ps,RT wr (Own w3.heap.size (fun b=>b≠c) v) q.1 q.2))
  case atStart=>exact ⟨0,[],_,rfl,by omega,rfl,Below.refl _ _,hid rfl,hid rfl,hid (World.ownsRow_nil _ _ _ _),hid (fun q hq=>by simp at hq)⟩
  case round=>
   obtain ⟨k,ps,v,rfl,hk,rfl,hbr,HPL,HPS,HO,HQ⟩:=hrel
   have hzr:=hbr.size
   by_cases hlt:k < row.length
   ·obtain ⟨b1,o1,rfl,hA1,hbs1,h1⟩:=HI.out.get k hlt
    obtain ⟨x0,x1⟩:=HM.out row[k] (List.getElem_mem hlt)
    obtain ⟨n,hn⟩:∃n:Nat,row[k]=(n:Int):=⟨row[k].toNat,by omega⟩
    have hnl:n < t.a.length:=by omega
    have hnI:(n:Int) < (t.a.length:Int):=by omega
    have hn0:(0:Int)≤(n:Int):=by omega
    have hkI:(k:Int) < (row.length:Int):=by omega
    have hk0:(0:Int)≤(k:Int):=by omega
    have hst:=pickL_take t.a row k hlt n hn hnl
    rw [hn] at h1
    have r0:wr.cell? ⟨b1,o1+k,none⟩=some (.int .i64 n):=(hbr.cell hbs1).trans h1
    have rq:wr.cell? ⟨w.heap.size,14,none⟩=some (.slice mk t.a.length ml):=(hbr.cell (p:=⟨w.heap.size,14,none⟩) (by simp;omega)).trans HQ3.out
    obtain ⟨b,o,mj',rfl,hA,hbs,h0,gx⟩:=HR3.out.get n hnl
    obtain ⟨z0,z1,z2,z3,z4,z5,z6,z7,z8,z9,za,zb,zc,zd,ze⟩:=At15.1 (h0.ext (Agree.below hbr) (A:=fun _=>True) trivial)
    have hs0:w.heap.size < w3.heap.size:=by omega
    have hs1:b < w3.heap.size:=by omega
    have hs2:b1 < w3.heap.size:=by omega
    have HST:=hid hst
    have hownk:∀q,v.ownBlock=some q→w3.heap.size≤q:=fun q e=>(HO.out.lt _ e).1
    have HK:=hid hownk
    clear h0 h1 hn x0 x1 hst hownk
    go_wp2_with fail
    go_region_held3 (fun W=>∀c' q,c' < w3.heap.size→W.cell? ⟨c',q,none⟩=wr.cell? ⟨c',q,none⟩) ((intro c' q hc';refine Below.cell (B:=w3.heap.size) (w:=wr) (p:=⟨c',q,none⟩) ?_ hc';((repeat (first|with_reducible exact Below.refl _ _|with_reducible assumption|with_reducible refine Below.trans ?_ (Below.mono (by with_reducible assumption) (by first|omega|(simp;done)|(simp;omega)))|with_reducible refine Below.drew ?_|with_reducible refine Below.alloc ?_ (by first|omega|(simp;done)|(simp;omega)) _|with_reducible refine Below.setCell ?_ (by first|omega|(simp;done)|(simp;omega)) _));done))) ((refine step_append_lies _ (by rfl) _ _ 29 (by rfl) w3.heap.size 31 i0 _ 15 216 Tryz.underlying29 hi0 g0 g1 g2 rfl (by decide) _ k _ (by rfl) (World.ownsRow.alloc (World.ownsRow.drew HO.out) _) ⟨wr.heap.size,0,none⟩ 1 1 [.int .u8 t.a[n].k,.int .u8 t.a[n].v.k,.int .i64 t.a[n].v.n,.slice mj'.va t.a[n].v.l.length mj'.vc,.slice mj'.vsa t.a[n].vs.length mj'.vsc,.int .i64 t.a[n].lo,.int .i64 t.a[n].hi,.slice mj'.wa t.a[n].w.length mj'.wc,.int .u8 t.a[n].p.k,.int .u8 t.a[n].p.v.k,.int .i64 t.a[n].p.v.n,.slice mj'.pva t.a[n].p.v.l.length mj'.pvc,.int .i64 t.a[n].p.n,.slice mj'.pa t.a[n].p.a.length mj'.pc,.slice mj'.a t.a[n].a.length mj'.c] (by rfl) (by rfl) (fun j u hu=>World.news_of_block (heap_alloc_new wr.drew _) j u (by simpa using hu)) (by simp [Value.oneCell']) (by decide) (by unfold maxLen;omega) (by omega) (by simp;omega) (wr.heap.size+1) (by simp) ?_;intro g cap w4 hown hgrow hat hlt1;have hbw1:Below w3.heap.size wr w4:=Below.grown (((Below.refl _ _).drew).alloc (by simp;omega) _) hgrow (by simp;omega) HK.out))
    go_wp2_with fail
    have hownk:=HK.out
    have hag2:Agree (Own w3.heap.size (fun b=>b≠c) v) wr (wr.drew.alloc (.cells #[.int .u8 t.a[n].k,.int .u8 t.a[n].v.k,.int .i64 t.a[n].v.n,.slice mj'.va t.a[n].v.l.length mj'.vc,.slice mj'.vsa t.a[n].vs.length mj'.vsc,.int .i64 t.a[n].lo,.int .i64 t.a[n].hi,.slice mj'.wa t.a[n].w.length mj'.wc,.int .u8 t.a[n].p.k,.int .u8 t.a[n].p.v.k,.int .i64 t.a[n].p.v.n,.slice mj'.pva t.a[n].p.v.l.length mj'.pvc,.int .i64 t.a[n].p.n,.slice mj'.pa t.a[n].p.a.length mj'.pc,.slice mj'.a t.a[n].a.length mj'.c] 31)):=Agree.below (((Below.refl _ _).drew).alloc (Nat.le_refl _) _)
    go_roundg (gk - 1)
    case measure=>omega
    case rel=>
     refine ⟨k+1,ps++[(t.a[n],mj')],_,rfl,by omega,by go_num,hbr.trans hbw1,hid (by have:=HPL.out;simp;omega),hid (by rw [List.map_append,HPS.out,HST.out];rfl),hid ?_,hid ?_⟩
     ·rw [flatT_append];exact hown
     ·intro q hq
      rcases List.mem_append.1 hq with hq|hq
      ·exact RT.own hgrow hownk hat (by simp) (RT.ext hag2 _ _ (HQ.out q hq))
      ·simp at hq
       subst hq
       exact RT.own hgrow hownk hat (by simp) (RT.ext hag2 _ _ (RT.mono (fun b h hb=>.inl h) _ _ (RT.ext (Agree.below hbr) _ _ gx)))
   ·have hjl:k=row.length:=by omega
    subst hjl
    have hst:=HPS.out
    rw [List.take_length] at hst
    obtain ⟨av,cv,hav,hrd⟩:=RTs_of_row (A:=fun b=>b≠c) HO.out (fun b h=>by omega) (fun q hq=>RT.mono (fun b hb _=>by rcases hb with ⟨h,_⟩|⟨h,_⟩;exact h;omega) _ _ (HQ.out q hq))
    rw [hst] at hav hrd
    subst hav
    have HRD:=hid hrd
    have hcs3:c < w3.heap.size:=by omega
    have HC5:=hid (Cur.below hbr hcs3 HC3.out)
    have HZ5:=hid (HZ3.out.but (c:=c) (But.of hbr) y1 y2)
    have y5:w.heap.size+1 < wr.heap.size:=by omega
    clear hst hrd HO HQ HPS HPL HR3
    rcases A with ⟨l,q⟩|⟨k'⟩
    ·go_wp2_with (first
      | (go_at_call 77;refine (r22all_any c s f IH.out (pickL t.a row) j _ av cv (by have:=HPL0.out;omega) HG.out c2' (by exact HC5.out) (by exact HRD.out)).mono ?_;rw [HA.out];rintro e w4 ⟨hb4,⟨a4,cp4,rfl,hrv⟩,hc4⟩;have HC4:=hid hc4;have HRV:=hid hrv;clear hc4 hrv;have hz4:=hb4.size;(try simp at hz4);obtain ⟨⟨q0,q1,q2⟩,f0,f1,f2⟩:=HZ5.out.but hb4 y5 y2;have y6:w.heap.size+1 < w4.heap.size:=(by omega))
      | (go_at_call 78;refine (r22made_ok 4 a4 l.length cp4 _).mono ?_;rintro e w5 ⟨rfl,hb5⟩;have hz5:=hb5.size;(try simp at hz5);obtain ⟨hc5,hf5⟩:=bcells hb5;have y7:w.heap.size+1 < w5.heap.size:=(by omega)))
     refine bodyPost_ret (v:=(.tuple #[VV ⟨4,0,l⟩ ⟨a4,cp4⟩,.int .u8 1])) (by first|(simp [results,Tryz.f53,go_sem];done)|(simp [results,Tryz.f53,go_sem, *];done)) rfl ?_
     exact ⟨But.r,⟨⟨a4,cp4⟩,rfl,RV_iff.2 (RVs.mono (fun b hb _=>by (try simp at hb);omega) _ _ (RVs.ext ((Agree.below (show Below w4.heap.size w4 w5 from Below.r)).trans (((Agree.set so).trans (Agree.set so)).trans (Agree.set so))) _ _ HRV.out))⟩,Cur.below (B:=w.heap.size+1) Below.r (by omega) HC4.out⟩
    ·go_wp2_with (first
      | (go_at_call 77;refine (r22all_any c s f IH.out (pickL t.a row) j _ av cv (by have:=HPL0.out;omega) HG.out c2' (by exact HC5.out) (by exact HRD.out)).mono ?_;rw [HA.out];rintro e w4 ⟨hb4,rfl,hk8,hk9⟩;have hz4:=hb4.size;(try simp at hz4);obtain ⟨⟨q0,q1,q2⟩,f0,f1,f2⟩:=HZ5.out.but hb4 y5 y2;have y6:w.heap.size+1 < w4.heap.size:=(by omega))
      | (go_at_call 78;refine (r22made_no 4 k' none 0 0 _ (by simp;omega)).mono ?_;rintro e w5 ⟨rfl,hb5⟩;have hz5:=hb5.size;(try simp at hz5);obtain ⟨hc5,hf5⟩:=bcells hb5;have y7:w.heap.size+1 < w5.heap.size:=(by omega)))
     refine bodyPost_ret (v:=(.tuple #[VV ⟨0,0,[]⟩ ⟨none,0⟩,.int .u8 k'])) (by first|(simp [results,Tryz.f53,go_sem];done)|(simp [results,Tryz.f53,go_sem, *];done)) rfl ?_
     exact ⟨But.r,rfl,hk8,hk9⟩
end Go.Proofs.YtclphfojkggcpaaGreat
