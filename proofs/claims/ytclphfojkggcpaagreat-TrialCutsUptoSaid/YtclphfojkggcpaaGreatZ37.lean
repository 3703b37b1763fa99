/- What the proofs of the Trial statements need: part 38. -/
import Derived.Deep.AppendLies
import Derived.Deep.RegionHeld3
import Derived.Test.YtclphfojkggcpaaGreatZ8
import Derived.Test.YtclphfojkggcpaaGreatZ16
import Derived.Test.YtclphfojkggcpaaGreatZTk
set_option linter.unusedVariables false
set_option linter.unusedSimpArgs false
namespace Go.Proofs.YtclphfojkggcpaaGreat
open Go.Lib (hid)
open Go Go.RowKit
set_option maxRecDepth 100000 in
set_option maxHeartbeats 16000000 in
theorem r19put_x (N:Nat) (ih:PutIH N) (t s:GT) (w:World) (A:Nat→Prop) (m q:TA) (hN:sizeT t≤N+1) (ox:okT t) (hl:RT w A t m) (hs:RT w A s q) (hk:¬t.k=11) (hk0:¬t.k=10):
  Calls Tryz.prog 69 #[TV t m,TV s q] w (PutR w A (putT s t)):=by
 obtain ⟨ma,mb,mc,md,me,mf,mg,mh,mi,mj,mk,ml⟩:=m
 obtain ⟨na,nb,nc,nd,ne,nf,ng,nh,ni,nj,nk,nl⟩:=q
 have IH:=hid ih
 have HT:=hid (RT.mono (A':=fun b=>A b∧b < w.heap.size) (fun b h hb=>⟨h,hb⟩) _ _ hl)
 have HS:=hid (RT.mono (A':=fun b=>A b∧b < w.heap.size) (fun b h hb=>⟨h,hb⟩) _ _ hs)
 have HL:=hid (RT_iff.1 HT.out).2.2.2.2
 obtain ⟨-, -, -, -, -, -, -,oal,oa⟩:=okT_iff.1 ox
 have O:=hid oa
 have hse:=sizeT_eq t
 clear ih hl hs ox oa
 have hk10:(t.k==10)=false:=by simp [hk0]
 rw [putT_eq,if_neg hk]
 have hk':(t.k==11)=false:=by simp [hk]
 obtain ⟨i0,hi0,y0,y1,y2⟩:=info_parts infoTerm
 clear hk
 go_enter Tryz.func69,Tryz.ntmps69
 go_wp2_with fail
 go_loopg [6] (t.a.length) (fun gk t6 wr=>∃(j:Nat) (ps:List (GT×TA)) (v:Value),gk+j=t.a.length∧t6=.int .i64 j∧Below w.heap.size w wr∧Hid (PutM w.heap.size t s ⟨ma,mb,mc,md,me,mf,mg,mh,mi,mj,mk,ml⟩ ⟨na,nb,nc,nd,ne,nf,ng,nh,ni,nj,nk,nl⟩ v wr)∧Hid (ps.length=j)∧Hid (ps.map Prod.fst=(putTs s t.k 0 t.a).take j)∧Hid (wr.ownsRow (w.heap.size+4) 31 15 v j (flatT ps))∧Hid (∀q∈ps,RT wr (Own (w.heap.size+4) (fun b=>A b∧b < w.heap.size) v) q.1 q.2))
 case atStart=>exact ⟨0,[],.slice none 0 0,by omega,rfl,Below.r,hid ⟨by simp,At15z.2 ⟨by go_simp,by go_simp,by go_simp,by go_simp,by go_simp,by go_simp,by go_simp,by go_simp,by go_simp,by go_simp,by go_simp,by go_simp,by go_simp,by go_simp,by go_simp⟩,At15z.2 ⟨by go_simp,by go_simp,by go_simp,by go_simp,by go_simp,by go_simp,by go_simp,by go_simp,by go_simp,by go_simp,by go_simp,by go_simp,by go_simp,by go_simp,by go_simp⟩,At15z.2 ⟨by go_simp,by go_simp,by go_simp,by go_simp,by go_simp,by go_simp,by go_simp,by go_simp,by go_simp,by go_simp,by go_simp,by go_simp,by go_simp,by go_simp,by go_simp⟩,fun k=>by go_simp,At15z.2 ⟨by go_simp,by go_simp,by go_simp,by go_simp,by go_simp,by go_simp,by go_simp,by go_simp,by go_simp,by go_simp,by go_simp,by go_simp,by go_simp,by go_simp,by go_simp⟩,fun k=>by go_simp⟩,hid rfl,hid rfl,hid (World.ownsRow_nil _ _ _ _),hid (fun q hq=>by simp at hq)⟩
 case round=>
  obtain ⟨j,ps,v,hj,rfl,hb,HM,HPL,HP,HO,HQ⟩:=hrel
  have hz:=HM.out.sz
  by_cases hlt:j < t.a.length
  ·obtain ⟨b,o,mj',rfl,hA,hbs,g0,gx⟩:=HL.out.get j hlt
   have hbw:=hA.2
   obtain ⟨k0,k1,k2,k3,k4,k5,k6,k7,k8,k9,ka,kb,kc,kd,ke⟩:=At15.1 (g0.ext (Agree.below hb) (A:=fun _=>True) trivial)
   obtain ⟨a0, -, -, -, -, -, -, -, -, -, -, -, -, -,ae⟩:=At15z.1 HM.out.a
   obtain ⟨b0,b1,b2,b3,b4,b5,b6,b7,b8,b9,ba,bb,bc,bd,be⟩:=At15z.1 HM.out.b
   obtain ⟨-, -, -, -, -, -, -, -, -, -, -, -, -, -,de⟩:=At15z.1 HM.out.d
   have df:=HM.out.df
   have u0:w.heap.size < wr.heap.size:=by omega
   have u1:w.heap.size+1 < wr.heap.size:=by omega
   have u3:w.heap.size+1+1+1 < wr.heap.size:=by omega
   have hs1:b < wr.heap.size:=by omega
   have hb4:b < w.heap.size+4:=by omega
   have hb5:¬b=w.heap.size+1+1+1:=by omega
   have HOK:=hid (show ∀k,v.ownBlock=some k→k < wr.heap.size from fun k hk=>(HO.out.lt _ hk).2)
   have HOWN:=hid (show ∀k,v.ownBlock=some k→w.heap.size+4≤k from fun k hk=>(HO.out.lt _ hk).1)
   have hst:=putTs_take s t.k t.a j hlt
   have hsj:=sizeTs_get t.a j hlt
   have HC:=hid (fun (W:World) (m1 m2:TA) (h1:RT W (fun b=>A b∧b < w.heap.size) (t.a[j]'hlt) m1) (h2:RT W (fun b=>A b∧b < w.heap.size) s m2)=>IH.out (t.a[j]'hlt) s W (fun b=>A b∧b < w.heap.size) m1 m2 (by omega) (O.out.get j hlt) h1 h2)
   clear g0
   have hsb:stepB t.k j=false:=by simp [stepB,hk10]
   rw [hsb,if_neg (by simp)] at hst
   generalize putT s t.a[j]=X at HC hst
   have HST:=hid hst
   clear hst hsb
   go_wp2_with fail
   refine wp_region_held_drew (S:=(fun W=>W.cell? ⟨w.heap.size,14,none⟩=some (.slice (some ⟨b,o,none⟩) t.a.length ml)∧(∀k,W.cell? ⟨b,k,none⟩=wr.cell? ⟨b,k,none⟩)∧∀k,W.cell? ⟨w.heap.size+1,k,none⟩=wr.cell? ⟨w.heap.size+1,k,none⟩)) (by kernel_rfl) ?_ (fun hHeld=>?_)
   ·((try dsimp only);(refine ⟨by go_simp,fun k=>by go_simp,fun k=>by go_simp⟩))
   refine tzh 0 ?_
   try simp only [Act.put,sl,s0,ss]
   refine tzh 2 ?_
   try simp only [Act.put,sl,s0,ss]
   refine tzh 3 ?_
   try simp only [Act.put,sl,s0,ss]
   refine tzh 4 ?_
   try simp only [Act.put,sl,s0,ss]
   refine tzh 5 ?_
   try simp only [Act.put,sl,s0,ss]
   refine tzh 6 ?_
   try simp only [Act.put,sl,s0,ss]
   refine tzh 7 ?_
   try simp only [Act.put,sl,s0,ss]
   refine wpAnyH_ready (rs:=[1,8]) (by kernel_rfl) (by simp) ?_
   refine rch (fun K hK=>?_) ?_
   ·go_simp
    refine hK.out _ _ ?_ (fun hHeld=>?_)
    ·((try dsimp only);(refine ⟨by go_simp,fun k=>by go_simp,fun k=>by go_simp⟩))
    clear hK K
    refine wpAnyH_ready (rs:=[8]) (by kernel_rfl) (by simp) ?_
    refine rch (fun K hK=>?_) ?_
    ·go_simp
     go_wp2_with (go_at_call 69;(with_reducible refine (HC.out _ mj' ⟨na,nb,nc,nd,ne,nf,ng,nh,ni,nj,nk,nl⟩ (by exact RT.ext (Agree.below Below.r) _ _ gx) (by exact RT.ext (Agree.below Below.r) _ _ HS.out)).mono ?_);rintro e w2 ⟨hb2,m2,rfl,hrt⟩;have HRT:Hid (RT w2 (fun c=>(A c∧c < w.heap.size)∨wr.heap.size≤c) X m2):=hid hrt;clear hrt;have hz2:=hb2.size;(try simp at hz2);have hbr2:Below wr.heap.size wr w2:=Below.r;have hw2:w.heap.size+4≤w2.heap.size:=(by omega);have v0:w.heap.size < w2.heap.size:=(by omega);have v1:w.heap.size+1 < w2.heap.size:=(by omega);have v3:w.heap.size+1+1+1 < w2.heap.size:=(by omega);have vb:b < w2.heap.size:=(by omega);have yb:∀k,w2.cell? ⟨b,k,none⟩=wr.cell? ⟨b,k,none⟩:=(fun k=>hbr2.cell (p:=⟨b,k,none⟩) hs1);have yn1:∀k,w2.cell? ⟨w.heap.size+1,k,none⟩=wr.cell? ⟨w.heap.size+1,k,none⟩:=(fun k=>hbr2.cell (p:=⟨w.heap.size+1,k,none⟩) u1);have ya:=(hbr2.cell (p:=⟨w.heap.size,14,none⟩) u0).trans ae;have yd:=(hbr2.cell (p:=⟨w.heap.size+1+1+1,14,none⟩) u3).trans de;have yf:∀k,w2.frozen? ⟨w.heap.size+1+1+1,k,none⟩=false:=(fun k=>(hbr2.frozen (p:=⟨w.heap.size+1+1+1,k,none⟩) u3).trans (df k)))
     refine hK.out _ _ ?_ (fun hHeld=>?_)
     ·((try dsimp only);(refine ⟨by go_simp,fun k=>by go_simp,fun k=>by go_simp⟩))
     clear hK K
     refine wpAnyH_ready (rs:=[9]) (by kernel_rfl) (by simp) ?_
     refine rch (fun K hK=>?_) ?_
     ·go_simp
      refine hK.out _ _ ?_ (fun hHeld=>?_)
      ·((try dsimp only);(refine ⟨by go_simp,fun k=>by go_simp,fun k=>by go_simp⟩))
      clear hK K
      refine wpAnyH_ready (rs:=[10]) (by kernel_rfl) (by simp) ?_
      refine rch (fun K hK=>?_) ?_
      ·(refine step_append_lies _ rfl _ _ 29 rfl (w.heap.size+4) 31 i0 _ 15 216 Tryz.underlying29 hi0 y0 y1 y2 rfl (by decide) v j _ (by rfl) ((owns_below HO.out (B:=wr.heap.size) hbr2 HOK.out).alloc _) ⟨w2.heap.size,0,none⟩ 1 1 [.int .u8 X.k,.int .u8 X.v.k,.int .i64 X.v.n,.slice m2.va X.v.l.length m2.vc,.slice m2.vsa X.vs.length m2.vsc,.int .i64 X.lo,.int .i64 X.hi,.slice m2.wa X.w.length m2.wc,.int .u8 X.p.k,.int .u8 X.p.v.k,.int .i64 X.p.v.n,.slice m2.pva X.p.v.l.length m2.pvc,.int .i64 X.p.n,.slice m2.pa X.p.a.length m2.pc,.slice m2.a X.a.length m2.c] (by rfl) rfl (cells_at15 rfl _ _ _ _ _ _ _ _ _ _ _ _ _ _ _ _) (by simp [Value.oneCell']) (by decide) (by unfold maxLen;omega) (by omega) (by simp;omega) (w2.heap.size+1) (by simp) ?_;intro g cap w4 hown hgrow hat hlt1;have hbg:Below w.heap.size w w4:=Below.grown (by exact Below.r) hgrow (by simp;omega) (fun k hk=>by have:=HOWN.out k hk;omega);obtain ⟨hc4,hf4⟩:=grown_low hgrow HOWN.out (by simp;omega);have hz4:=hgrow.size;(try simp at hz4))
       refine hK.out _ _ ?_ (fun hHeld=>?_)
       ·((try dsimp only);(refine ⟨by go_simp,fun k=>by go_simp,fun k=>by go_simp⟩))
       clear hK K
       refine tzh 11 ?_
       try simp only [Act.put,sl,s0,ss]
       refine wpAnyH_ready (rs:=[12]) (by kernel_rfl) (by simp) ?_
       refine rch (fun K hK=>?_) ?_
       ·go_simp
        refine hK.out _ _ ?_ (fun hHeld=>?_)
        ·((try dsimp only);(refine ⟨by go_simp,fun k=>by go_simp,fun k=>by go_simp⟩))
        clear hK K
        refine wpAnyH_done (by kernel_rfl) ?_ _
        (go_wp2_with fail;go_roundg (gk - 1);(case measure=>omega);exact put_rel hj hlt hb HM.out HPL.out HP.out HST.out HQ.out Below.r (RT.mono (fun c hc _=>by rcases hc with h|h;exact .inl ⟨h,by omega⟩;exact .inr ⟨by omega,fun e=>by have:=HOK.out _ e;omega⟩) _ _ (RT.ext (Agree.below ((Below.refl _ _).alloc (Nat.le_refl _) _)) _ _ HRT.out)) hown hgrow HOWN.out hat (by simp) hlt1)
       exact AllReadyH.nil
      exact AllReadyH.nil
     exact AllReadyH.nil
    exact AllReadyH.nil
   refine rch (fun K hK=>?_) ?_
   ·go_simp
    go_wp2_with (go_at_call 69;(with_reducible refine (HC.out _ mj' ⟨na,nb,nc,nd,ne,nf,ng,nh,ni,nj,nk,nl⟩ (by exact RT.ext (Agree.below Below.r) _ _ gx) (by exact RT.ext (Agree.below Below.r) _ _ HS.out)).mono ?_);rintro e w2 ⟨hb2,m2,rfl,hrt⟩;have HRT:Hid (RT w2 (fun c=>(A c∧c < w.heap.size)∨wr.heap.size≤c) X m2):=hid hrt;clear hrt;have hz2:=hb2.size;(try simp at hz2);have hbr2:Below wr.heap.size wr w2:=Below.r;have hw2:w.heap.size+4≤w2.heap.size:=(by omega);have v0:w.heap.size < w2.heap.size:=(by omega);have v1:w.heap.size+1 < w2.heap.size:=(by omega);have v3:w.heap.size+1+1+1 < w2.heap.size:=(by omega);have vb:b < w2.heap.size:=(by omega);have yb:∀k,w2.cell? ⟨b,k,none⟩=wr.cell? ⟨b,k,none⟩:=(fun k=>hbr2.cell (p:=⟨b,k,none⟩) hs1);have yn1:∀k,w2.cell? ⟨w.heap.size+1,k,none⟩=wr.cell? ⟨w.heap.size+1,k,none⟩:=(fun k=>hbr2.cell (p:=⟨w.heap.size+1,k,none⟩) u1);have ya:=(hbr2.cell (p:=⟨w.heap.size,14,none⟩) u0).trans ae;have yd:=(hbr2.cell (p:=⟨w.heap.size+1+1+1,14,none⟩) u3).trans de;have yf:∀k,w2.frozen? ⟨w.heap.size+1+1+1,k,none⟩=false:=(fun k=>(hbr2.frozen (p:=⟨w.heap.size+1+1+1,k,none⟩) u3).trans (df k)))
    refine hK.out _ _ ?_ (fun hHeld=>?_)
    ·((try dsimp only);(refine ⟨by go_simp,fun k=>by go_simp,fun k=>by go_simp⟩))
    clear hK K
    refine wpAnyH_ready (rs:=[1,9]) (by kernel_rfl) (by simp) ?_
    refine rch (fun K hK=>?_) ?_
    ·go_simp
     refine hK.out _ _ ?_ (fun hHeld=>?_)
     ·((try dsimp only);(refine ⟨by go_simp,fun k=>by go_simp,fun k=>by go_simp⟩))
     clear hK K
     refine wpAnyH_ready (rs:=[9]) (by kernel_rfl) (by simp) ?_
     refine rch (fun K hK=>?_) ?_
     ·go_simp
      refine hK.out _ _ ?_ (fun hHeld=>?_)
      ·((try dsimp only);(refine ⟨by go_simp,fun k=>by go_simp,fun k=>by go_simp⟩))
      clear hK K
      refine wpAnyH_ready (rs:=[10]) (by kernel_rfl) (by simp) ?_
      refine rch (fun K hK=>?_) ?_
      ·(refine step_append_lies _ rfl _ _ 29 rfl (w.heap.size+4) 31 i0 _ 15 216 Tryz.underlying29 hi0 y0 y1 y2 rfl (by decide) v j _ (by rfl) ((owns_below HO.out (B:=wr.heap.size) hbr2 HOK.out).alloc _) ⟨w2.heap.size,0,none⟩ 1 1 [.int .u8 X.k,.int .u8 X.v.k,.int .i64 X.v.n,.slice m2.va X.v.l.length m2.vc,.slice m2.vsa X.vs.length m2.vsc,.int .i64 X.lo,.int .i64 X.hi,.slice m2.wa X.w.length m2.wc,.int .u8 X.p.k,.int .u8 X.p.v.k,.int .i64 X.p.v.n,.slice m2.pva X.p.v.l.length m2.pvc,.int .i64 X.p.n,.slice m2.pa X.p.a.length m2.pc,.slice m2.a X.a.length m2.c] (by rfl) rfl (cells_at15 rfl _ _ _ _ _ _ _ _ _ _ _ _ _ _ _ _) (by simp [Value.oneCell']) (by decide) (by unfold maxLen;omega) (by omega) (by simp;omega) (w2.heap.size+1) (by simp) ?_;intro g cap w4 hown hgrow hat hlt1;have hbg:Below w.heap.size w w4:=Below.grown (by exact Below.r) hgrow (by simp;omega) (fun k hk=>by have:=HOWN.out k hk;omega);obtain ⟨hc4,hf4⟩:=grown_low hgrow HOWN.out (by simp;omega);have hz4:=hgrow.size;(try simp at hz4))
       refine hK.out _ _ ?_ (fun hHeld=>?_)
       ·((try dsimp only);(refine ⟨by go_simp,fun k=>by go_simp,fun k=>by go_simp⟩))
       clear hK K
       refine tzh 11 ?_
       try simp only [Act.put,sl,s0,ss]
       refine wpAnyH_ready (rs:=[12]) (by kernel_rfl) (by simp) ?_
       refine rch (fun K hK=>?_) ?_
       ·go_simp
        refine hK.out _ _ ?_ (fun hHeld=>?_)
        ·((try dsimp only);(refine ⟨by go_simp,fun k=>by go_simp,fun k=>by go_simp⟩))
        clear hK K
        refine wpAnyH_done (by kernel_rfl) ?_ _
        (go_wp2_with fail;go_roundg (gk - 1);(case measure=>omega);exact put_rel hj hlt hb HM.out HPL.out HP.out HST.out HQ.out Below.r (RT.mono (fun c hc _=>by rcases hc with h|h;exact .inl ⟨h,by omega⟩;exact .inr ⟨by omega,fun e=>by have:=HOK.out _ e;omega⟩) _ _ (RT.ext (Agree.below ((Below.refl _ _).alloc (Nat.le_refl _) _)) _ _ HRT.out)) hown hgrow HOWN.out hat (by simp) hlt1)
       exact AllReadyH.nil
      exact AllReadyH.nil
     exact AllReadyH.nil
    refine rch (fun K hK=>?_) ?_
    ·go_simp
     refine hK.out _ _ ?_ (fun hHeld=>?_)
     ·((try dsimp only);(refine ⟨by go_simp,fun k=>by go_simp,fun k=>by go_simp⟩))
     clear hK K
     refine wpAnyH_ready (rs:=[1]) (by kernel_rfl) (by simp) ?_
     refine rch (fun K hK=>?_) ?_
     ·go_simp
      refine hK.out _ _ ?_ (fun hHeld=>?_)
      ·((try dsimp only);(refine ⟨by go_simp,fun k=>by go_simp,fun k=>by go_simp⟩))
      clear hK K
      refine wpAnyH_ready (rs:=[10]) (by kernel_rfl) (by simp) ?_
      refine rch (fun K hK=>?_) ?_
      ·(refine step_append_lies _ rfl _ _ 29 rfl (w.heap.size+4) 31 i0 _ 15 216 Tryz.underlying29 hi0 y0 y1 y2 rfl (by decide) v j _ (by rfl) ((owns_below HO.out (B:=wr.heap.size) hbr2 HOK.out).alloc _) ⟨w2.heap.size,0,none⟩ 1 1 [.int .u8 X.k,.int .u8 X.v.k,.int .i64 X.v.n,.slice m2.va X.v.l.length m2.vc,.slice m2.vsa X.vs.length m2.vsc,.int .i64 X.lo,.int .i64 X.hi,.slice m2.wa X.w.length m2.wc,.int .u8 X.p.k,.int .u8 X.p.v.k,.int .i64 X.p.v.n,.slice m2.pva X.p.v.l.length m2.pvc,.int .i64 X.p.n,.slice m2.pa X.p.a.length m2.pc,.slice m2.a X.a.length m2.c] (by rfl) rfl (cells_at15 rfl _ _ _ _ _ _ _ _ _ _ _ _ _ _ _ _) (by simp [Value.oneCell']) (by decide) (by unfold maxLen;omega) (by omega) (by simp;omega) (w2.heap.size+1) (by simp) ?_;intro g cap w4 hown hgrow hat hlt1;have hbg:Below w.heap.size w w4:=Below.grown (by exact Below.r) hgrow (by simp;omega) (fun k hk=>by have:=HOWN.out k hk;omega);obtain ⟨hc4,hf4⟩:=grown_low hgrow HOWN.out (by simp;omega);have hz4:=hgrow.size;(try simp at hz4))
       refine hK.out _ _ ?_ (fun hHeld=>?_)
       ·((try dsimp only);(refine ⟨by go_simp,fun k=>by go_simp,fun k=>by go_simp⟩))
       clear hK K
       refine tzh 11 ?_
       try simp only [Act.put,sl,s0,ss]
       refine wpAnyH_ready (rs:=[12]) (by kernel_rfl) (by simp) ?_
       refine rch (fun K hK=>?_) ?_
       ·go_simp
        refine hK.out _ _ ?_ (fun hHeld=>?_)
        ·((try dsimp only);(refine ⟨by go_simp,fun k=>by go_simp,fun k=>by go_simp⟩))
        clear hK K
        refine wpAnyH_done (by kernel_rfl) ?_ _
        (go_wp2_with fail;go_roundg (gk - 1);(case measure=>omega);exact put_rel hj hlt hb HM.out HPL.out HP.out HST.out HQ.out Below.r (RT.mono (fun c hc _=>by rcases hc with h|h;exact .inl ⟨h,by omega⟩;exact .inr ⟨by omega,fun e=>by have:=HOK.out _ e;omega⟩) _ _ (RT.ext (Agree.below ((Below.refl _ _).alloc (Nat.le_refl _) _)) _ _ HRT.out)) hown hgrow HOWN.out hat (by simp) hlt1)
       exact AllReadyH.nil
      exact AllReadyH.nil
     exact AllReadyH.nil
    exact AllReadyH.nil
   exact AllReadyH.nil
  ·have hjl:j=t.a.length:=by omega
   have hst:=HP.out
   rw [hjl,List.take_of_length_le (by rw [putTs_length];omega)] at hst
   have hE:=RTs_of_row (A:=fun b=>(A b∧b < w.heap.size)∨w.heap.size+4≤b) HO.out (fun b h=>.inr (by omega)) (fun q hq=>RT.mono (fun b hb _=>by rcases hb with ⟨h,_⟩|⟨h,_⟩;exact .inl h;exact .inr h) _ _ (HQ.out q hq))
   obtain ⟨av,cv,hav,hrd⟩:=hE
   rw [hst] at hav hrd
   rw [putTs_length] at hav
   subst hav
   have HRD:=hid hrd
   obtain ⟨a0, -, -, -, -, -, -, -, -, -, -, -, -, -,ae⟩:=At15z.1 HM.out.a
   obtain ⟨c0,c1,c2,c3,c4,c5,c6,c7,c8,c9,ca,cb,cc,cd,ce⟩:=At15z.1 HM.out.c
   obtain ⟨d0,d1,d2,d3,d4,d5,d6,d7,d8,d9,da,db,dc,dd,de⟩:=At15z.1 HM.out.d
   have cf:=HM.out.cf
   have u2:w.heap.size+1+1 < wr.heap.size:=by omega
   clear hst hrd
   go_wp2_with fail
   refine bodyPost_ret (v:=TV ⟨t.k,t.v,t.vs,t.lo,t.hi,t.w,t.p,putTs s t.k 0 t.a⟩ ⟨ma,mb,mc,md,me,mf,mg,mh,mi,mj,av,cv⟩) (by simp [results,Tryz.f69,go_sem,putTs_length,c0,c1,c2,c3,c4,c5,c6,c7,c8,c9,ca,cb,cc,cd,ce,cf,u2]) rfl ?_
   obtain ⟨r1,r2,r3,r4, -⟩:=RT_iff.1 (RT.mono (A':=fun b=>(A b∧b < w.heap.size)∨w.heap.size+4≤b) (fun b h _=>.inl h) _ _ (RT.ext (Agree.below hb) _ _ HT.out))
   exact ⟨Below.r,_,rfl,RT.mono (fun b h _=>by rcases h with h|h;exact .inl h.1;exact .inr (by omega)) _ _ (RT.ext (A:=fun b=>(A b∧b < w.heap.size)∨w.heap.size+4≤b) (fun p v hA hc=>Agree.but (c:=w.heap.size+1+1) But.r p v (fun e=>by rcases hA with h|h;have:=h.2;omega;omega) hc) _ _ (RT_iff.2 ⟨r1,r2,r3,r4,HRD.out⟩))⟩
set_option maxRecDepth 100000 in
set_option maxHeartbeats 16000000 in
theorem r19put_10 (N:Nat) (ih:PutIH N) (t s:GT) (w:World) (A:Nat→Prop) (m q:TA) (hN:sizeT t≤N+1) (ox:okT t) (hl:RT w A t m) (hs:RT w A s q) (hk0:t.k=10):
  Calls Tryz.prog 69 #[TV t m,TV s q] w (PutR w A (putT s t)):=by
 obtain ⟨ma,mb,mc,md,me,mf,mg,mh,mi,mj,mk,ml⟩:=m
 obtain ⟨na,nb,nc,nd,ne,nf,ng,nh,ni,nj,nk,nl⟩:=q
 have IH:=hid ih
 have HT:=hid (RT.mono (A':=fun b=>A b∧b < w.heap.size) (fun b h hb=>⟨h,hb⟩) _ _ hl)
 have HS:=hid (RT.mono (A':=fun b=>A b∧b < w.heap.size) (fun b h hb=>⟨h,hb⟩) _ _ hs)
 have HL:=hid (RT_iff.1 HT.out).2.2.2.2
 obtain ⟨-, -, -, -, -, -, -,oal,oa⟩:=okT_iff.1 ox
 have O:=hid oa
 have hse:=sizeT_eq t
 clear ih hl hs ox oa
 have hk10:(t.k==10)=true:=by simp [hk0]
 have hk:¬t.k=11:=by omega
 rw [putT_eq,if_neg hk]
 clear hk0
 have hk':(t.k==11)=false:=by simp [hk]
 obtain ⟨i0,hi0,y0,y1,y2⟩:=info_parts infoTerm
 clear hk
 go_enter Tryz.func69,Tryz.ntmps69
 go_wp2_with fail
 go_loopg [6] (t.a.length) (fun gk t6 wr=>∃(j:Nat) (ps:List (GT×TA)) (v:Value),gk+j=t.a.length∧t6=.int .i64 j∧Below w.heap.size w wr∧Hid (PutM w.heap.size t s ⟨ma,mb,mc,md,me,mf,mg,mh,mi,mj,mk,ml⟩ ⟨na,nb,nc,nd,ne,nf,ng,nh,ni,nj,nk,nl⟩ v wr)∧Hid (ps.length=j)∧Hid (ps.map Prod.fst=(putTs s t.k 0 t.a).take j)∧Hid (wr.ownsRow (w.heap.size+4) 31 15 v j (flatT ps))∧Hid (∀q∈ps,RT wr (Own (w.heap.size+4) (fun b=>A b∧b < w.heap.size) v) q.1 q.2))
 case atStart=>exact ⟨0,[],.slice none 0 0,by omega,rfl,Below.r,hid ⟨by simp,At15z.2 ⟨by go_simp,by go_simp,by go_simp,by go_simp,by go_simp,by go_simp,by go_simp,by go_simp,by go_simp,by go_simp,by go_simp,by go_simp,by go_simp,by go_simp,by go_simp⟩,At15z.2 ⟨by go_simp,by go_simp,by go_simp,by go_simp,by go_simp,by go_simp,by go_simp,by go_simp,by go_simp,by go_simp,by go_simp,by go_simp,by go_simp,by go_simp,by go_simp⟩,At15z.2 ⟨by go_simp,by go_simp,by go_simp,by go_simp,by go_simp,by go_simp,by go_simp,by go_simp,by go_simp,by go_simp,by go_simp,by go_simp,by go_simp,by go_simp,by go_simp⟩,fun k=>by go_simp,At15z.2 ⟨by go_simp,by go_simp,by go_simp,by go_simp,by go_simp,by go_simp,by go_simp,by go_simp,by go_simp,by go_simp,by go_simp,by go_simp,by go_simp,by go_simp,by go_simp⟩,fun k=>by go_simp⟩,hid rfl,hid rfl,hid (World.ownsRow_nil _ _ _ _),hid (fun q hq=>by simp at hq)⟩
 case round=>
  obtain ⟨j,ps,v,hj,rfl,hb,HM,HPL,HP,HO,HQ⟩:=hrel
  have hz:=HM.out.sz
  by_cases hlt:j < t.a.length
  ·obtain ⟨b,o,mj',rfl,hA,hbs,g0,gx⟩:=HL.out.get j hlt
   have hbw:=hA.2
   obtain ⟨k0,k1,k2,k3,k4,k5,k6,k7,k8,k9,ka,kb,kc,kd,ke⟩:=At15.1 (g0.ext (Agree.below hb) (A:=fun _=>True) trivial)
   obtain ⟨a0, -, -, -, -, -, -, -, -, -, -, -, -, -,ae⟩:=At15z.1 HM.out.a
   obtain ⟨b0,b1,b2,b3,b4,b5,b6,b7,b8,b9,ba,bb,bc,bd,be⟩:=At15z.1 HM.out.b
   obtain ⟨-, -, -, -, -, -, -, -, -, -, -, -, -, -,de⟩:=At15z.1 HM.out.d
   have df:=HM.out.df
   have u0:w.heap.size < wr.heap.size:=by omega
   have u1:w.heap.size+1 < wr.heap.size:=by omega
   have u3:w.heap.size+1+1+1 < wr.heap.size:=by omega
   have hs1:b < wr.heap.size:=by omega
   have hb4:b < w.heap.size+4:=by omega
   have hb5:¬b=w.heap.size+1+1+1:=by omega
   have HOK:=hid (show ∀k,v.ownBlock=some k→k < wr.heap.size from fun k hk=>(HO.out.lt _ hk).2)
   have HOWN:=hid (show ∀k,v.ownBlock=some k→w.heap.size+4≤k from fun k hk=>(HO.out.lt _ hk).1)
   have hst:=putTs_take s t.k t.a j hlt
   have hsj:=sizeTs_get t.a j hlt
   have HC:=hid (fun (W:World) (m1 m2:TA) (h1:RT W (fun b=>A b∧b < w.heap.size) (t.a[j]'hlt) m1) (h2:RT W (fun b=>A b∧b < w.heap.size) s m2)=>IH.out (t.a[j]'hlt) s W (fun b=>A b∧b < w.heap.size) m1 m2 (by omega) (O.out.get j hlt) h1 h2)
   clear g0
   by_cases hj1:j=1
   ·have hj1':((j:Int)==1)=true:=by rw [hj1];rfl
    have hsb:stepB t.k j=true:=by simp [stepB,hk10,hj1]
    rw [hsb,if_pos rfl] at hst
    have HST:=hid hst
    have HJ1:=hid hj1
    clear hst hsb hj1 HC
    go_wp2_with fail
    refine wp_region_held_drew (S:=(fun W=>W.cell? ⟨w.heap.size,14,none⟩=some (.slice (some ⟨b,o,none⟩) t.a.length ml)∧(∀k,W.cell? ⟨b,k,none⟩=wr.cell? ⟨b,k,none⟩)∧∀k,W.cell? ⟨w.heap.size+1,k,none⟩=wr.cell? ⟨w.heap.size+1,k,none⟩)) (by kernel_rfl) ?_ (fun hHeld=>?_)
    ·((try dsimp only);(refine ⟨by go_simp,fun k=>by go_simp,fun k=>by go_simp⟩))
    refine tzh 0 ?_
    try simp only [Act.put,sl,s0,ss]
    refine tzh 2 ?_
    try simp only [Act.put,sl,s0,ss]
    refine tzh 3 ?_
    try simp only [Act.put,sl,s0,ss]
    refine tzh 4 ?_
    try simp only [Act.put,sl,s0,ss]
    refine tzh 5 ?_
    try simp only [Act.put,sl,s0,ss]
    refine tzh 6 ?_
    try simp only [Act.put,sl,s0,ss]
    refine wpAnyH_ready (rs:=[1,7]) (by kernel_rfl) (by simp) ?_
    refine rch (fun K hK=>?_) ?_
    ·go_simp
     refine hK.out _ _ ?_ (fun hHeld=>?_)
     ·((try dsimp only);(refine ⟨by go_simp,fun k=>by go_simp,fun k=>by go_simp⟩))
     clear hK K
     refine wpAnyH_ready (rs:=[7]) (by kernel_rfl) (by simp) ?_
     refine rch (fun K hK=>?_) ?_
     ·go_simp
      refine hK.out _ _ ?_ (fun hHeld=>?_)
      ·((try dsimp only);(refine ⟨by go_simp,fun k=>by go_simp,fun k=>by go_simp⟩))
      clear hK K
      refine wpAnyH_ready (rs:=[8]) (by kernel_rfl) (by simp) ?_
      refine rch (fun K hK=>?_) ?_
      ·(refine step_append_lies _ rfl _ _ 29 rfl (w.heap.size+4) 31 i0 _ 15 216 Tryz.underlying29 hi0 y0 y1 y2 rfl (by decide) v j _ (by rfl) (World.ownsRow.alloc (by exact HO.out) _) ⟨wr.heap.size,0,none⟩ 1 1 [.int .u8 t.a[j].k,.int .u8 t.a[j].v.k,.int .i64 t.a[j].v.n,.slice mj'.va t.a[j].v.l.length mj'.vc,.slice mj'.vsa t.a[j].vs.length mj'.vsc,.int .i64 t.a[j].lo,.int .i64 t.a[j].hi,.slice mj'.wa t.a[j].w.length mj'.wc,.int .u8 t.a[j].p.k,.int .u8 t.a[j].p.v.k,.int .i64 t.a[j].p.v.n,.slice mj'.pva t.a[j].p.v.l.length mj'.pvc,.int .i64 t.a[j].p.n,.slice mj'.pa t.a[j].p.a.length mj'.pc,.slice mj'.a t.a[j].a.length mj'.c] (by rfl) rfl (cells_at15 rfl _ _ _ _ _ _ _ _ _ _ _ _ _ _ _ _) (by simp [Value.oneCell']) (by decide) (by unfold maxLen;omega) (by omega) (by simp;omega) (wr.heap.size+1) (by simp) ?_;intro g cap w4 hown hgrow hat hlt1;have hbg:Below w.heap.size w w4:=Below.grown (by exact Below.r) hgrow (by simp;omega) (fun k hk=>by have:=HOWN.out k hk;omega);obtain ⟨hc4,hf4⟩:=grown_low hgrow HOWN.out (by simp;omega);have hz4:=hgrow.size;(try simp at hz4))
       refine hK.out _ _ ?_ (fun hHeld=>?_)
       ·((try dsimp only);(refine ⟨by go_simp,fun k=>by go_simp,fun k=>by go_simp⟩))
       clear hK K
       refine tzh 9 ?_
       try simp only [Act.put,sl,s0,ss]
       refine wpAnyH_ready (rs:=[10]) (by kernel_rfl) (by simp) ?_
       refine rch (fun K hK=>?_) ?_
       ·go_simp
        refine hK.out _ _ ?_ (fun hHeld=>?_)
        ·((try dsimp only);(refine ⟨by go_simp,fun k=>by go_simp,fun k=>by go_simp⟩))
        clear hK K
        refine wpAnyH_done (by kernel_rfl) ?_ _
        (go_wp2_with fail;go_roundg (gk - 1);(case measure=>omega);exact put_rel hj hlt hb HM.out HPL.out HP.out HST.out HQ.out Below.r (RT.mono (fun c hc _=>.inl ⟨hc,by have:=hc.2;omega⟩) _ _ (RT.ext (Agree.below Below.r) _ _ gx)) hown hgrow HOWN.out hat (by simp) hlt1)
       exact AllReadyH.nil
      exact AllReadyH.nil
     exact AllReadyH.nil
    refine rch (fun K hK=>?_) ?_
    ·go_simp
     refine hK.out _ _ ?_ (fun hHeld=>?_)
     ·((try dsimp only);(refine ⟨by go_simp,fun k=>by go_simp,fun k=>by go_simp⟩))
     clear hK K
     refine wpAnyH_ready (rs:=[1]) (by kernel_rfl) (by simp) ?_
     refine rch (fun K hK=>?_) ?_
     ·go_simp
      refine hK.out _ _ ?_ (fun hHeld=>?_)
      ·((try dsimp only);(refine ⟨by go_simp,fun k=>by go_simp,fun k=>by go_simp⟩))
      clear hK K
      refine wpAnyH_ready (rs:=[8]) (by kernel_rfl) (by simp) ?_
      refine rch (fun K hK=>?_) ?_
      ·(refine step_append_lies _ rfl _ _ 29 rfl (w.heap.size+4) 31 i0 _ 15 216 Tryz.underlying29 hi0 y0 y1 y2 rfl (by decide) v j _ (by rfl) (World.ownsRow.alloc (by exact HO.out) _) ⟨wr.heap.size,0,none⟩ 1 1 [.int .u8 t.a[j].k,.int .u8 t.a[j].v.k,.int .i64 t.a[j].v.n,.slice mj'.va t.a[j].v.l.length mj'.vc,.slice mj'.vsa t.a[j].vs.length mj'.vsc,.int .i64 t.a[j].lo,.int .i64 t.a[j].hi,.slice mj'.wa t.a[j].w.length mj'.wc,.int .u8 t.a[j].p.k,.int .u8 t.a[j].p.v.k,.int .i64 t.a[j].p.v.n,.slice mj'.pva t.a[j].p.v.l.length mj'.pvc,.int .i64 t.a[j].p.n,.slice mj'.pa t.a[j].p.a.length mj'.pc,.slice mj'.a t.a[j].a.length mj'.c] (by rfl) rfl (cells_at15 rfl _ _ _ _ _ _ _ _ _ _ _ _ _ _ _ _) (by simp [Value.oneCell']) (by decide) (by unfold maxLen;omega) (by omega) (by simp;omega) (wr.heap.size+1) (by simp) ?_;intro g cap w4 hown hgrow hat hlt1;have hbg:Below w.heap.size w w4:=Below.grown (by exact Below.r) hgrow (by simp;omega) (fun k hk=>by have:=HOWN.out k hk;omega);obtain ⟨hc4,hf4⟩:=grown_low hgrow HOWN.out (by simp;omega);have hz4:=hgrow.size;(try simp at hz4))
       refine hK.out _ _ ?_ (fun hHeld=>?_)
       ·((try dsimp only);(refine ⟨by go_simp,fun k=>by go_simp,fun k=>by go_simp⟩))
       clear hK K
       refine tzh 9 ?_
       try simp only [Act.put,sl,s0,ss]
       refine wpAnyH_ready (rs:=[10]) (by kernel_rfl) (by simp) ?_
       refine rch (fun K hK=>?_) ?_
       ·go_simp
        refine hK.out _ _ ?_ (fun hHeld=>?_)
        ·((try dsimp only);(refine ⟨by go_simp,fun k=>by go_simp,fun k=>by go_simp⟩))
        clear hK K
        refine wpAnyH_done (by kernel_rfl) ?_ _
        (go_wp2_with fail;go_roundg (gk - 1);(case measure=>omega);exact put_rel hj hlt hb HM.out HPL.out HP.out HST.out HQ.out Below.r (RT.mono (fun c hc _=>.inl ⟨hc,by have:=hc.2;omega⟩) _ _ (RT.ext (Agree.below Below.r) _ _ gx)) hown hgrow HOWN.out hat (by simp) hlt1)
       exact AllReadyH.nil
      exact AllReadyH.nil
     exact AllReadyH.nil
    exact AllReadyH.nil
   ·have hj1':((j:Int)==1)=false:=beq_eq_false_iff_ne.2 (by omega)
    have hsb:stepB t.k j=false:=by simp [stepB,hk10,hj1]
    rw [hsb,if_neg (by simp)] at hst
    generalize putT s t.a[j]=X at HC hst
    have HST:=hid hst
    have HJ1:=hid hj1
    clear hst hsb hj1
    go_wp2_with fail
    refine wp_region_held_drew (S:=(fun W=>W.cell? ⟨w.heap.size,14,none⟩=some (.slice (some ⟨b,o,none⟩) t.a.length ml)∧(∀k,W.cell? ⟨b,k,none⟩=wr.cell? ⟨b,k,none⟩)∧∀k,W.cell? ⟨w.heap.size+1,k,none⟩=wr.cell? ⟨w.heap.size+1,k,none⟩)) (by kernel_rfl) ?_ (fun hHeld=>?_)
    ·((try dsimp only);(refine ⟨by go_simp,fun k=>by go_simp,fun k=>by go_simp⟩))
    refine tzh 0 ?_
    try simp only [Act.put,sl,s0,ss]
    refine tzh 2 ?_
    try simp only [Act.put,sl,s0,ss]
    refine tzh 3 ?_
    try simp only [Act.put,sl,s0,ss]
    refine tzh 4 ?_
    try simp only [Act.put,sl,s0,ss]
    refine tzh 5 ?_
    try simp only [Act.put,sl,s0,ss]
    refine tzh 6 ?_
    try simp only [Act.put,sl,s0,ss]
    refine tzh 7 ?_
    try simp only [Act.put,sl,s0,ss]
    refine wpAnyH_ready (rs:=[1,8]) (by kernel_rfl) (by simp) ?_
    refine rch (fun K hK=>?_) ?_
    ·go_simp
     refine hK.out _ _ ?_ (fun hHeld=>?_)
     ·((try dsimp only);(refine ⟨by go_simp,fun k=>by go_simp,fun k=>by go_simp⟩))
     clear hK K
     refine wpAnyH_ready (rs:=[8]) (by kernel_rfl) (by simp) ?_
     refine rch (fun K hK=>?_) ?_
     ·go_simp
      go_wp2_with (go_at_call 69;(with_reducible refine (HC.out _ mj' ⟨na,nb,nc,nd,ne,nf,ng,nh,ni,nj,nk,nl⟩ (by exact RT.ext (Agree.below Below.r) _ _ gx) (by exact RT.ext (Agree.below Below.r) _ _ HS.out)).mono ?_);rintro e w2 ⟨hb2,m2,rfl,hrt⟩;have HRT:Hid (RT w2 (fun c=>(A c∧c < w.heap.size)∨wr.heap.size≤c) X m2):=hid hrt;clear hrt;have hz2:=hb2.size;(try simp at hz2);have hbr2:Below wr.heap.size wr w2:=Below.r;have hw2:w.heap.size+4≤w2.heap.size:=(by omega);have v0:w.heap.size < w2.heap.size:=(by omega);have v1:w.heap.size+1 < w2.heap.size:=(by omega);have v3:w.heap.size+1+1+1 < w2.heap.size:=(by omega);have vb:b < w2.heap.size:=(by omega);have yb:∀k,w2.cell? ⟨b,k,none⟩=wr.cell? ⟨b,k,none⟩:=(fun k=>hbr2.cell (p:=⟨b,k,none⟩) hs1);have yn1:∀k,w2.cell? ⟨w.heap.size+1,k,none⟩=wr.cell? ⟨w.heap.size+1,k,none⟩:=(fun k=>hbr2.cell (p:=⟨w.heap.size+1,k,none⟩) u1);have ya:=(hbr2.cell (p:=⟨w.heap.size,14,none⟩) u0).trans ae;have yd:=(hbr2.cell (p:=⟨w.heap.size+1+1+1,14,none⟩) u3).trans de;have yf:∀k,w2.frozen? ⟨w.heap.size+1+1+1,k,none⟩=false:=(fun k=>(hbr2.frozen (p:=⟨w.heap.size+1+1+1,k,none⟩) u3).trans (df k)))
      refine hK.out _ _ ?_ (fun hHeld=>?_)
      ·((try dsimp only);(refine ⟨by go_simp,fun k=>by go_simp,fun k=>by go_simp⟩))
      clear hK K
      refine wpAnyH_ready (rs:=[9]) (by kernel_rfl) (by simp) ?_
      refine rch (fun K hK=>?_) ?_
      ·go_simp
       refine hK.out _ _ ?_ (fun hHeld=>?_)
       ·((try dsimp only);(refine ⟨by go_simp,fun k=>by go_simp,fun k=>by go_simp⟩))
       clear hK K
       refine wpAnyH_ready (rs:=[10]) (by kernel_rfl) (by simp) ?_
       refine rch (fun K hK=>?_) ?_
       ·(refine step_append_lies _ rfl _ _ 29 rfl (w.heap.size+4) 31 i0 _ 15 216 Tryz.underlying29 hi0 y0 y1 y2 rfl (by decide) v j _ (by rfl) ((owns_below HO.out (B:=wr.heap.size) hbr2 HOK.out).alloc _) ⟨w2.heap.size,0,none⟩ 1 1 [.int .u8 X.k,.int .u8 X.v.k,.int .i64 X.v.n,.slice m2.va X.v.l.length m2.vc,.slice m2.vsa X.vs.length m2.vsc,.int .i64 X.lo,.int .i64 X.hi,.slice m2.wa X.w.length m2.wc,.int .u8 X.p.k,.int .u8 X.p.v.k,.int .i64 X.p.v.n,.slice m2.pva X.p.v.l.length m2.pvc,.int .i64 X.p.n,.slice m2.pa X.p.a.length m2.pc,.slice m2.a X.a.length m2.c] (by rfl) rfl (cells_at15 rfl _ _ _ _ _ _ _ _ _ _ _ _ _ _ _ _) (by simp [Value.oneCell']) (by decide) (by unfold maxLen;omega) (by omega) (by simp;omega) (w2.heap.size+1) (by simp) ?_;intro g cap w4 hown hgrow hat hlt1;have hbg:Below w.heap.size w w4:=Below.grown (by exact Below.r) hgrow (by simp;omega) (fun k hk=>by have:=HOWN.out k hk;omega);obtain ⟨hc4,hf4⟩:=grown_low hgrow HOWN.out (by simp;omega);have hz4:=hgrow.size;(try simp at hz4))
        refine hK.out _ _ ?_ (fun hHeld=>?_)
        ·((try dsimp only);(refine ⟨by go_simp,fun k=>by go_simp,fun k=>by go_simp⟩))
        clear hK K
        refine tzh 11 ?_
        try simp only [Act.put,sl,s0,ss]
        refine wpAnyH_ready (rs:=[12]) (by kernel_rfl) (by simp) ?_
        refine rch (fun K hK=>?_) ?_
        ·go_simp
         refine hK.out _ _ ?_ (fun hHeld=>?_)
         ·((try dsimp only);(refine ⟨by go_simp,fun k=>by go_simp,fun k=>by go_simp⟩))
         clear hK K
         refine wpAnyH_done (by kernel_rfl) ?_ _
         (go_wp2_with fail;go_roundg (gk - 1);(case measure=>omega);exact put_rel hj hlt hb HM.out HPL.out HP.out HST.out HQ.out Below.r (RT.mono (fun c hc _=>by rcases hc with h|h;exact .inl ⟨h,by omega⟩;exact .inr ⟨by omega,fun e=>by have:=HOK.out _ e;omega⟩) _ _ (RT.ext (Agree.below ((Below.refl _ _).alloc (Nat.le_refl _) _)) _ _ HRT.out)) hown hgrow HOWN.out hat (by simp) hlt1)
        exact AllReadyH.nil
       exact AllReadyH.nil
      exact AllReadyH.nil
     exact AllReadyH.nil
    refine rch (fun K hK=>?_) ?_
    ·go_simp
     go_wp2_with (go_at_call 69;(with_reducible refine (HC.out _ mj' ⟨na,nb,nc,nd,ne,nf,ng,nh,ni,nj,nk,nl⟩ (by exact RT.ext (Agree.below Below.r) _ _ gx) (by exact RT.ext (Agree.below Below.r) _ _ HS.out)).mono ?_);rintro e w2 ⟨hb2,m2,rfl,hrt⟩;have HRT:Hid (RT w2 (fun c=>(A c∧c < w.heap.size)∨wr.heap.size≤c) X m2):=hid hrt;clear hrt;have hz2:=hb2.size;(try simp at hz2);have hbr2:Below wr.heap.size wr w2:=Below.r;have hw2:w.heap.size+4≤w2.heap.size:=(by omega);have v0:w.heap.size < w2.heap.size:=(by omega);have v1:w.heap.size+1 < w2.heap.size:=(by omega);have v3:w.heap.size+1+1+1 < w2.heap.size:=(by omega);have vb:b < w2.heap.size:=(by omega);have yb:∀k,w2.cell? ⟨b,k,none⟩=wr.cell? ⟨b,k,none⟩:=(fun k=>hbr2.cell (p:=⟨b,k,none⟩) hs1);have yn1:∀k,w2.cell? ⟨w.heap.size+1,k,none⟩=wr.cell? ⟨w.heap.size+1,k,none⟩:=(fun k=>hbr2.cell (p:=⟨w.heap.size+1,k,none⟩) u1);have ya:=(hbr2.cell (p:=⟨w.heap.size,14,none⟩) u0).trans ae;have yd:=(hbr2.cell (p:=⟨w.heap.size+1+1+1,14,none⟩) u3).trans de;have yf:∀k,w2.frozen? ⟨w.heap.size+1+1+1,k,none⟩=false:=(fun k=>(hbr2.frozen (p:=⟨w.heap.size+1+1+1,k,none⟩) u3).trans (df k)))
     refine hK.out _ _ ?_ (fun hHeld=>?_)
     ·((try dsimp only);(refine ⟨by go_simp,fun k=>by go_simp,fun k=>by go_simp⟩))
     clear hK K
     refine wpAnyH_ready (rs:=[1,9]) (by kernel_rfl) (by simp) ?_
     refine rch (fun K hK=>?_) ?_
     ·go_simp
      refine hK.out _ _ ?_ (fun hHeld=>?_)
      ·((try dsimp only);(refine ⟨by go_simp,fun k=>by go_simp,fun k=>by go_simp⟩))
      clear hK K
      refine wpAnyH_ready (rs:=[9]) (by kernel_rfl) (by simp) ?_
      refine rch (fun K hK=>?_) ?_
      ·go_simp
       refine hK.out _ _ ?_ (fun hHeld=>?_)
       ·((try dsimp only);(refine ⟨by go_simp,fun k=>by go_simp,fun k=>by go_simp⟩))
       clear hK K
       refine wpAnyH_ready (rs:=[10]) (by kernel_rfl) (by simp) ?_
       refine rch (fun K hK=>?_) ?_
       ·(refine step_append_lies _ rfl _ _ 29 rfl (w.heap.size+4) 31 i0 _ 15 216 Tryz.underlying29 hi0 y0 y1 y2 rfl (by decide) v j _ (by rfl) ((owns_below HO.out (B:=wr.heap.size) hbr2 HOK.out).alloc _) ⟨w2.heap.size,0,none⟩ 1 1 [.int .u8 X.k,.int .u8 X.v.k,.int .i64 X.v.n,.slice m2.va X.v.l.length m2.vc,.slice m2.vsa X.vs.length m2.vsc,.int .i64 X.lo,.int .i64 X.hi,.slice m2.wa X.w.length m2.wc,.int .u8 X.p.k,.int .u8 X.p.v.k,.int .i64 X.p.v.n,.slice m2.pva X.p.v.l.length m2.pvc,.int .i64 X.p.n,.slice m2.pa X.p.a.length m2.pc,.slice m2.a X.a.length m2.c] (by rfl) rfl (cells_at15 rfl _ _ _ _ _ _ _ _ _ _ _ _ _ _ _ _) (by simp [Value.oneCell']) (by decide) (by unfold maxLen;omega) (by omega) (by simp;omega) (w2.heap.size+1) (by simp) ?_;intro g cap w4 hown hgrow hat hlt1;have hbg:Below w.heap.size w w4:=Below.grown (by exact Below.r) hgrow (by simp;omega) (fun k hk=>by have:=HOWN.out k hk;omega);obtain ⟨hc4,hf4⟩:=grown_low hgrow HOWN.out (by simp;omega);have hz4:=hgrow.size;(try simp at hz4))
        refine hK.out _ _ ?_ (fun hHeld=>?_)
        ·((try dsimp only);(refine ⟨by go_simp,fun k=>by go_simp,fun k=>by go_simp⟩))
        clear hK K
        refine tzh 11 ?_
        try simp only [Act.put,sl,s0,ss]
        refine wpAnyH_ready (rs:=[12]) (by kernel_rfl) (by simp) ?_
        refine rch (fun K hK=>?_) ?_
        ·go_simp
         refine hK.out _ _ ?_ (fun hHeld=>?_)
         ·((try dsimp only);(refine ⟨by go_simp,fun k=>by go_simp,fun k=>by go_simp⟩))
         clear hK K
         refine wpAnyH_done (by kernel_rfl) ?_ _
         (go_wp2_with fail;go_roundg (gk - 1);(case measure=>omega);exact put_rel hj hlt hb HM.out HPL.out HP.out HST.out HQ.out Below.r (RT.mono (fun c hc _=>by rcases hc with h|h;exact .inl ⟨h,by omega⟩;exact .inr ⟨by omega,fun e=>by have:=HOK.out _ e;omega⟩) _ _ (RT.ext (Agree.below ((Below.refl _ _).alloc (Nat.le_refl _) _)) _ _ HRT.out)) hown hgrow HOWN.out hat (by simp) hlt1)
        exact AllReadyH.nil
       exact AllReadyH.nil
      exact AllReadyH.nil
     refine rch (fun K hK=>?_) ?_
     ·go_simp
      refine hK.out _ _ ?_ (fun hHeld=>?_)
      ·((try dsimp only);(refine ⟨by go_simp,fun k=>by go_simp,fun k=>by go_simp⟩))
      clear hK K
      refine wpAnyH_ready (rs:=[1]) (by kernel_rfl) (by simp) ?_
      refine rch (fun K hK=>?_) ?_
      ·go_simp
       refine hK.out _ _ ?_ (fun hHeld=>?_)
       ·((try dsimp only);(refine ⟨by go_simp,fun k=>by go_simp,fun k=>by go_simp⟩))
       clear hK K
       refine wpAnyH_ready (rs:=[10]) (by kernel_rfl) (by simp) ?_
       refine rch (fun K hK=>?_) ?_
       ·(refine step_append_lies _ rfl _ _ 29 rfl (w.heap.size+4) 31 i0 _ 15 216 Tryz.underlying29 hi0 y0 y1 y2 rfl (by decide) v j _ (by rfl) ((owns_below HO.out (B:=wr.heap.size) hbr2 HOK.out).alloc _) ⟨w2.heap.size,0,none⟩ 1 1 [.int .u8 X.k,.int .u8 X.v.k,.int .i64 X.v.n,.slice m2.va X.v.l.length m2.vc,.slice m2.vsa X.vs.length m2.vsc,.int .i64 X.lo,.int .i64 X.hi,.slice m2.wa X.w.length m2.wc,.int .u8 X.p.k,.int .u8 X.p.v.k,.int .i64 X.p.v.n,.slice m2.pva X.p.v.l.length m2.pvc,.int .i64 X.p.n,.slice m2.pa X.p.a.length m2.pc,.slice m2.a X.a.length m2.c] (by rfl) rfl (cells_at15 rfl _ _ _ _ _ _ _ _ _ _ _ _ _ _ _ _) (by simp [Value.oneCell']) (by decide) (by unfold maxLen;omega) (by omega) (by simp;omega) (w2.heap.size+1) (by simp) ?_;intro g cap w4 hown hgrow hat hlt1;have hbg:Below w.heap.size w w4:=Below.grown (by exact Below.r) hgrow (by simp;omega) (fun k hk=>by have:=HOWN.out k hk;omega);obtain ⟨hc4,hf4⟩:=grown_low hgrow HOWN.out (by simp;omega);have hz4:=hgrow.size;(try simp at hz4))
        refine hK.out _ _ ?_ (fun hHeld=>?_)
        ·((try dsimp only);(refine ⟨by go_simp,fun k=>by go_simp,fun k=>by go_simp⟩))
        clear hK K
        refine tzh 11 ?_
        try simp only [Act.put,sl,s0,ss]
        refine wpAnyH_ready (rs:=[12]) (by kernel_rfl) (by simp) ?_
        refine rch (fun K hK=>?_) ?_
        ·go_simp
         refine hK.out _ _ ?_ (fun hHeld=>?_)
         ·((try dsimp only);(refine ⟨by go_simp,fun k=>by go_simp,fun k=>by go_simp⟩))
         clear hK K
         refine wpAnyH_done (by kernel_rfl) ?_ _
         (go_wp2_with fail;go_roundg (gk - 1);(case measure=>omega);exact put_rel hj hlt hb HM.out HPL.out HP.out HST.out HQ.out Below.r (RT.mono (fun c hc _=>by rcases hc with h|h;exact .inl ⟨h,by omega⟩;exact .inr ⟨by omega,fun e=>by have:=HOK.out _ e;omega⟩) _ _ (RT.ext (Agree.below ((Below.refl _ _).alloc (Nat.le_refl _) _)) _ _ HRT.out)) hown hgrow HOWN.out hat (by simp) hlt1)
        exact AllReadyH.nil
       exact AllReadyH.nil
      exact AllReadyH.nil
     exact AllReadyH.nil
    exact AllReadyH.nil
  ·have hjl:j=t.a.length:=by omega
   have hst:=HP.out
   rw [hjl,List.take_of_length_le (by rw [putTs_length];omega)] at hst
   have hE:=RTs_of_row (A:=fun b=>(A b∧b < w.heap.size)∨w.heap.size+4≤b) HO.out (fun b h=>.inr (by omega)) (fun q hq=>RT.mono (fun b hb _=>by rcases hb with ⟨h,_⟩|⟨h,_⟩;exact .inl h;exact .inr h) _ _ (HQ.out q hq))
   obtain ⟨av,cv,hav,hrd⟩:=hE
   rw [hst] at hav hrd
   rw [putTs_length] at hav
   subst hav
   have HRD:=hid hrd
   obtain ⟨a0, -, -, -, -, -, -, -, -, -, -, -, -, -,ae⟩:=At15z.1 HM.out.a
   obtain ⟨c0,c1,c2,c3,c4,c5,c6,c7,c8,c9,ca,cb,cc,cd,ce⟩:=At15z.1 HM.out.c
   obtain ⟨d0,d1,d2,d3,d4,d5,d6,d7,d8,d9,da,db,dc,dd,de⟩:=At15z.1 HM.out.d
   have cf:=HM.out.cf
   have u2:w.heap.size+1+1 < wr.heap.size:=by omega
   clear hst hrd
   go_wp2_with fail
   refine bodyPost_ret (v:=TV ⟨t.k,t.v,t.vs,t.lo,t.hi,t.w,t.p,putTs s t.k 0 t.a⟩ ⟨ma,mb,mc,md,me,mf,mg,mh,mi,mj,av,cv⟩) (by simp [results,Tryz.f69,go_sem,putTs_length,c0,c1,c2,c3,c4,c5,c6,c7,c8,c9,ca,cb,cc,cd,ce,cf,u2]) rfl ?_
   obtain ⟨r1,r2,r3,r4, -⟩:=RT_iff.1 (RT.mono (A':=fun b=>(A b∧b < w.heap.size)∨w.heap.size+4≤b) (fun b h _=>.inl h) _ _ (RT.ext (Agree.below hb) _ _ HT.out))
   exact ⟨Below.r,_,rfl,RT.mono (fun b h _=>by rcases h with h|h;exact .inl h.1;exact .inr (by omega)) _ _ (RT.ext (A:=fun b=>(A b∧b < w.heap.size)∨w.heap.size+4≤b) (fun p v hA hc=>Agree.but (c:=w.heap.size+1+1) But.r p v (fun e=>by rcases hA with h|h;have:=h.2;omega;omega) hc) _ _ (RT_iff.2 ⟨r1,r2,r3,r4,HRD.out⟩))⟩
set_option maxRecDepth 100000 in
set_option maxHeartbeats 16000000 in
theorem r19put_11 (t s:GT) (w:World) (A:Nat→Prop) (m q:TA) (hl:RT w A t m) (hs:RT w A s q) (hk:t.k=11):
  Calls Tryz.prog 69 #[TV t m,TV s q] w (PutR w A (putT s t)):=by
 obtain ⟨ma,mb,mc,md,me,mf,mg,mh,mi,mj,mk,ml⟩:=m
 obtain ⟨na,nb,nc,nd,ne,nf,ng,nh,ni,nj,nk,nl⟩:=q
 have HS:=hid (RT.mono (A':=fun b=>A b∧b < w.heap.size) (fun b h hb=>⟨h,hb⟩) _ _ hs)
 rw [putT_eq,if_pos hk]
 clear hl hs
 have hk':(t.k==11)=true:=by simp [hk]
 clear hk
 go_enter Tryz.func69,Tryz.ntmps69
 go_wp2_with fail
 refine bodyPost_ret (v:=TV s ⟨na,nb,nc,nd,ne,nf,ng,nh,ni,nj,nk,nl⟩) (by simp [results,Tryz.f69,go_sem]) rfl ?_
 exact ⟨Below.r,_,rfl,RT.mono (fun b h _=>.inl h.1) _ _ (RT.ext (Agree.below Below.r) _ _ HS.out)⟩
theorem r19put_any (N:Nat):PutIH N:=by
 induction N with
 | zero=>intro t;have:=sizeT_pos t;intros;omega
 | succ N ih=>
  intro t s w A m q hN ox hl hs
  by_cases h11:t.k=11
  ·exact r19put_11 t s w A m q hl hs h11
  by_cases h10:t.k=10
  ·exact r19put_10 N ih t s w A m q hN ox hl hs h10
  ·exact r19put_x N ih t s w A m q hN ox hl hs h11 h10
def BulkR (M:Int) (w:World) (e:Ending) (w':World):Prop:=(∃r:Int,e=.returned (.int .i64 r)∧1≤r∧r≤M+1)∧Below w.heap.size w w'
theorem head_of_node {t:GT} (hn:nodeT t=0):headE t=0∧weightsE t=0∧endsE t=0∧argumentsE t=0∧restV t=0∧1≤t.k∧t.k≤11:=by
 unfold nodeT at hn
 by_cases hk:t.k < 1∨11 < t.k
 ·rw [if_pos hk] at hn;omega
 rw [if_neg hk] at hn
 by_cases h1:valuesE t=0
 case neg=>rw [if_pos h1] at hn;exact absurd hn h1
 rw [if_neg (by simp [h1])] at hn
 by_cases h2:weightsE t=0
 case neg=>rw [if_pos h2] at hn;exact absurd hn h2
 rw [if_neg (by simp [h2])] at hn
 by_cases h3:endsE t=0
 case neg=>rw [if_pos h3] at hn;exact absurd hn h3
 rw [if_neg (by simp [h3])] at hn
 have hv:=valuesE_head t
 rw [h1] at hv
 by_cases h4:headE t=0
 case neg=>rw [if_pos h4] at hv;omega
 rw [if_neg (by simp [h4])] at hv
 exact ⟨h4,h2,h3,hn,hv.symm,by omega,by omega⟩
theorem many_at {n a b:Int} (h:manyE n a b=0):a≤n∧n≤b:=by
 unfold manyE at h
 split at h
 ·omega
 ·split at h
  ·omega
  ·omega
theorem freq_len {l:List Int} (h:freqE l=0):l.length≤64:=by
 unfold freqE at h
 split at h
 ·omega
 ·split at h
  ·omega
  ·omega
theorem firstVs_all:∀(l:List GV),firstVs l=0→∀j (hj:j < l.length),checkV l[j]=0
 | [],_,j,hj=>absurd hj (by simp)
 | x::l,h,j,hj=>by
  unfold firstVs at h
  by_cases hx:checkV x=0
  ·rw [if_neg (by simp [hx])] at h
   cases j with
   | zero=>exact hx
   | succ j=>exact firstVs_all l h j (by simpa using hj)
  ·rw [if_pos hx] at h;exact absurd h hx
theorem row_at {t:GT} (hk:t.k=4) (hn:nodeT t=0):t.vs.length≤64∧∀j (hj:j < t.vs.length),checkV t.vs[j]=0:=by
 obtain ⟨_,h2,_,h4,h5,_,_⟩:=head_of_node hn
 unfold restV at h5
 rw [if_neg (by omega)] at h5
 unfold weightsE at h2
 rw [if_neg (by omega)] at h2
 have h6:restW t=0:=by
  split at h2
  ·exact h2
  ·omega
 unfold restW at h6
 rw [if_neg (by omega)] at h6
 have h7:=freq_len h6
 unfold argumentsE at h4
 rw [if_neg (by omega),if_neg (by omega),if_neg (by omega),if_neg (by omega),if_pos hk] at h4
 have h8:manyE (t.vs.length:Int) (t.w.length:Int) (t.w.length:Int)=0:=by
  split at h4
  ·omega
  ·omega
 have:=many_at h8
 exact ⟨by omega,firstVs_all _ h5⟩
theorem one_at {t:GT} (hk:t.k=6) (hn:nodeT t=0):t.a.length=1∧0≤t.lo∧t.hi≤16∧0≤t.hi:=by
 obtain ⟨_,_,h3,h4,_,_,_⟩:=head_of_node hn
 unfold endsE at h3
 rw [if_neg (by omega),if_pos hk] at h3
 unfold argumentsE at h4
 rw [if_neg (by omega),if_neg (by omega),if_pos (by omega)] at h4
 have:=many_at h4
 have h9:(withinB t.lo 0 t.hi&&withinB t.hi t.lo 16)=true:=by
  split at h3
  ·assumption
  ·omega
 simp [withinB] at h9
 omega
theorem value_at {t:GT} (hk:t.k=1) (hn:nodeT t=0):checkV t.v=0:=by
 have:=(head_of_node hn).1
 unfold headE at this
 rw [if_pos hk] at this
 exact this
end Go.Proofs.YtclphfojkggcpaaGreat
