/- Part 67. -/
import Derived.Test.YtclphfojkggcpaaGreatDoorX44
import Derived.Test.YtclphfojkggcpaaGreatDoorX65
set_option linter.all false
namespace Go.Proofs.YtclphfojkggcpaaGreatDoor
open Go.Lib (hid)
open Go Go.RowKit Go.Proofs.Tryz
theorem Zm8 {w:World} {base e size n:Nat} {v:Value} {xs:List Value} (h:w.ownsRow base e size v n xs):∃a c,v=.slice a n c:=by
 rcases h.2 with ⟨h1,h2⟩|⟨g,cap,cur,h1,_⟩
 ·exact ⟨none,0,by rw [h1,h2]⟩
 exact ⟨_,cap,h1⟩
set_option maxRecDepth 100000
set_option maxHeartbeats 2000000
theorem Zm3 (t:GT) (p:GP) (s:ByteArray) (n:Int) (w:World) (A A2:Nat→Prop) (m:TA) (mp:PA) (ox:okT t) (hs:Zb t≤1048576) (hl:RT w A t m) (op:okP p) (hp:Zm p≤1099511627776) (hr:RP w A2 p mp) (hss:s.size≤9223372036854775807) (hE:VQ t p s n≠0):
  Calls prog 30 #[TV t m,PV p mp,.string s,.int .i64 n] w fun e w'=>e=.returned (.tuple #[.slice none 0 0,.int .u8 0,.int .i64 (VQ t p s n)])∧Below w.heap.size w w':=by
 obtain ⟨ma,mb,mc,md,me,mf,mg,mh,mi,mj,mk,ml⟩:=m
 obtain ⟨na,nb,nc,nd⟩:=mp
 have HL:=hid hl
 have HR:=hid hr
 have OX:=hid ox
 have OP:=hid op
 have h1:(VQ t p s n != 0)=true:=by simp [hE]
 clear hl hr ox op hE
 go_enter func30,ntmps30
 go_wp2_with (go_at_call 51;refine (Zjv t p s n _ A A2 ⟨ma,mb,mc,md,me,mf,mg,mh,mi,mj,mk,ml⟩ ⟨na,nb,nc,nd⟩ OX.out hs (by exact ZlV ar _ _ HL.out) OP.out hp (by exact ZmP ar _ _ HR.out) hss).mono ?_;rintro e w1 ⟨rfl,hb1⟩)
 refine bodyPost_ret (v:=.tuple #[.slice none 0 0,.int .u8 0,.int .i64 (VQ t p s n)]) (by simp [results,Tryz.f30,go_sem]) rfl ?_
 exact ⟨rfl,ZlD⟩
set_option maxRecDepth 512
theorem Zm0 (t:GT) (p:GP) (s:ByteArray) (n:Int) (w:World) (A A2:Nat→Prop) (m:TA) (mp:PA) (ox:okT t) (hs:Zb t≤1048576) (hl:RT w A t m) (op:okP p) (hp:Zm p≤1099511627776) (hr:RP w A2 p mp) (hss:s.size≤9223372036854775807) (hE:VQ t p s n=0):
  Calls prog 51 #[TV t m,PV p mp,.string s,.int .i64 n] w fun e w'=>e=.returned (.int .i64 0)∧Below w.heap.size w w':=by
 rw [←hE]
 exact Zjv t p s n w A A2 m mp ox hs hl op hp hr hss
theorem Zpe {p:Prop} (h:p:=by
 intro q hq
 rcases List.mem_append.1 hq with hq|hq
 ·exact ZmG (ZlH hb6) _ _ (HQX.out q hq)
 simp at hq
 subst hq
 exact ZmG (ZlH hb6) _ _ HRX.out):p:=h
theorem Zpf {p:Prop} (h:p:=by
 rw [WE,show ((i+u:Nat):Int)=(i:Int)+(u:Int) from Int.natCast_add i u]
 exact ZR HOX.out hb6 (fun k hk=>by cases hk;exact hlt1)):p:=h
theorem ZoO {p:Prop} (h:p:=by
 have hz6:=hb6.size
 have hown6:w6.ownsRow w1.heap.size 73 5 (.slice (some ⟨g,0,none⟩) (j+1) cap) (j+1) (WM (ps++[(⟨(i:Int),((i+u:Nat):Int),x⟩,mv)])):=by
  exact Zpf
 have hq6:∀q∈ps++[((⟨(i:Int),((i+u:Nat):Int),x⟩:GR),mv)],RV w6 (Own w1.heap.size (fun _=>False) (.slice (some ⟨g,0,none⟩) (j+1) cap)) q.1.v q.2.a:=by
  exact Zpe
 have hE2:=UG (A:=fun b=>w1.heap.size≤b) hown6 (fun b h=>h) (fun q hq=>ZmO (fun b hb _=>by rcases hb with ⟨h,_⟩|⟨h,h2⟩;exact absurd h id;exact ⟨h,h2⟩) _ _ (hq6 q hq))
 obtain ⟨av,cv,hav,hrd⟩:=hE2
 refine bodyPost_ret (v:=.tuple #[.slice (some ⟨g,0,none⟩) (j+1) cap,.int .u8 1,.int .i64 0]) (by simp [results,Tryz.f30,go_sem]) rfl ?_
 have hst2:((ps++[((⟨(i:Int),((i+u:Nat):Int),x⟩:GR),mv)]).map Prod.fst,(1:Int))=R:=by rw [←HST.out];simp
 rw [←hst2]
 exact ⟨hbw4.trans (hb6.mono om),av,cv,by rw [hav],RRx.mono (fun b hb _=>om) _ _ hrd⟩):p:=h
theorem Zpl {p:Prop} (h:p:=by exact ⟨hbw.trans (Below.mono (B:=wr.heap.size) ZlD hle),av,cv,by rw [HAV.out],RRx.mono (fun b hb _=>om) _ _ (RRx.ext (ZlH (Below.mono (B:=wr.heap.size) ZlD (Nat.le_refl _))) _ _ HRD.out)⟩):p:=h
set_option maxRecDepth 100000
set_option maxHeartbeats 16000000
theorem Zm4 (t:GT) (p:GP) (s:ByteArray) (N:Nat) (w:World) (A A2:Nat→Prop) (m:TA) (mp:PA) (ox:okT t) (hs:Zb t≤1048576) (hl:RT w A t m) (op:okP p) (hp:Zm p≤1099511627776) (hr:RP w A2 p mp) (hE:VQ t p s N=0):
  Calls prog 30 #[TV t m,PV p mp,.string s,.int .i64 N] w fun e w'=>Below w.heap.size w w'∧Zln (Yz s t p N 0) w e w':=by
 obtain ⟨ma,mb,mc,md,me,mf,mg,mh,mi,mj,mk,ml⟩:=m
 obtain ⟨na,nb,nc,nd⟩:=mp
 have HL:=hid hl
 have HR:=hid hr
 have OX:=hid ox
 have OP:=hid op
 have HCE:=hid hE
 obtain ⟨hRE,hPE,hN⟩:ZP t s=0∧(Zw p).2=0∧N≤1000:=by
  unfold VQ at hE
  split at hE
  ·omega
  split at hE
  ·omega
  split at hE
  ·omega
  refine ⟨om,om,om⟩
 have hmay:Xo p=true:=by unfold Xo;simp [hPE]
 have hbits:Zc s=true:=by
  unfold ZP at hRE
  split at hRE
  ·omega
  split at hRE
  ·assumption
  omega
 have h1024:s.size≤1024:=by
  unfold Zc at hbits
  rw [Bool.and_eq_true] at hbits
  exact of_decide_eq_true hbits.1
 have HMAY:=hid hmay
 have HRE:=hid hRE
 have hss:s.size≤9223372036854775807:=om
 obtain ⟨i0,hi0,y0,y1,y2⟩:=info_parts Zm7
 generalize hR0:Yz s t p N 0=R
 have HR0:=hid hR0
 clear hl hr ox op hE hRE hPE hmay hbits hR0
 go_enter func30,ntmps30
 go_wp2_with (go_at_call 51;refine (Zm0 t p s N _ A A2 ⟨ma,mb,mc,md,me,mf,mg,mh,mi,mj,mk,ml⟩ ⟨na,nb,nc,nd⟩ OX.out hs (by exact ZlV ar _ _ HL.out) OP.out hp (by exact ZmP ar _ _ HR.out) hss HCE.out).mono ?_;rintro e w1 ⟨rfl,hb1⟩)
 have hz1:=hb1.size
 simp at hz1
 have hbw1:Below w.heap.size w w1:=ZlD
 have HBT:Hid (At w1 w.heap.size 0 [.int .u8 t.k,.int .u8 t.v.k,.int .i64 t.v.n,.slice ma t.v.l.length mb,.slice mc t.vs.length md,.int .i64 t.lo,.int .i64 t.hi,.slice me t.w.length mf,.int .u8 t.p.k,.int .u8 t.p.v.k,.int .i64 t.p.v.n,.slice mg t.p.v.l.length mh,.int .i64 t.p.n,.slice mi t.p.a.length mj,.slice mk t.a.length ml]):=hid (ZO.2 ⟨(hb1.cell so).trans gs,(hb1.cell so).trans gs,(hb1.cell so).trans gs,(hb1.cell so).trans gs,(hb1.cell so).trans gs,(hb1.cell so).trans gs,(hb1.cell so).trans gs,(hb1.cell so).trans gs,(hb1.cell so).trans gs,(hb1.cell so).trans gs,(hb1.cell so).trans gs,(hb1.cell so).trans gs,(hb1.cell so).trans gs,(hb1.cell so).trans gs,(hb1.cell so).trans gs⟩)
 have HBP:Hid (At w1 (w.heap.size+1) 0 [.int .u8 p.k,.int .u8 p.v.k,.int .i64 p.v.n,.slice na p.v.l.length nb,.int .i64 p.n,.slice nc p.a.length nd]):=hid (Qf.2 ⟨(hb1.cell so).trans gs,(hb1.cell so).trans gs,(hb1.cell so).trans gs,(hb1.cell so).trans gs,(hb1.cell so).trans gs,(hb1.cell so).trans gs⟩)
 go_loopg [12,13] N (fun gk t8 t12 wr=>∃(j i:Nat) (ps:List (GR×VA)) (v:Value),v=t8∧gk+j=N∧t12=.int .i64 i∧i≤s.size∧Below w1.heap.size w1 wr∧Hid (ps.length=j)∧Hid ((ps.map Prod.fst++(Yz s t p (N - j) i).1,(Yz s t p (N - j) i).2)=R) ∧
  Hid (wr.ownsRow w1.heap.size 73 5 v j (WM ps))∧Hid (∀q∈ps,RV wr (Own w1.heap.size (fun _=>False) v) q.1.v q.2.a))
 case atStart=>exact ⟨0,0,[],_,rfl,om,rfl,om,Below.refl _ _,hid rfl,hid (by simpa using HR0.out),hid (World.ownsRow_nil _ _ _ _),hid (fun q hq=>by simp at hq)⟩
 case round=>
  obtain ⟨j,i,ps,v,rfl,hj,rfl,hi,hbr,HPL,HP,HO,HQ⟩:=hrel
  obtain ⟨va,vcp,hvf⟩:=Zm8 HO.out
  subst hvf
  have hzr:=hbr.size
  have hbw:Below w.heap.size w wr:=hbw1.trans (hbr.mono om)
  by_cases hlt:j < N
  ·have hjN:((j:Int)==(N:Int))=false:=beq_eq_false_iff_ne.2 om
   have hst:=HP.out
   rw [show N - j=(N - (j+1))+1 by omega,Zcl] at hst
   have hre:=ZbQ HRE.out i hi
   have hin:=Vy (s:=Vh s i) hre OX.out
   have hsz:=Q7 s i hi
   have HRS:=hid hre
   have hs9:(Vh s i).size≤9223372036854775807:=om
   have hiI:(i:Int)≤(s.size:Int):=om
   have QT:=hid (ZlV (ZlH hbw) _ _ HL.out)
   have HOK:=hid (show ∀k,(Value.slice va j vcp).ownBlock=some k→k < wr.heap.size from fun k hk=>(HO.out.lt _ hk).2)
   have hownk:∀k,(Value.slice va j vcp).ownBlock=some k→w1.heap.size≤k:=fun k hk=>(HO.out.lt _ hk).1
   have HOWN:=hid hownk
   obtain ⟨c0,c1,c2,c3,c4,c5,c6,c7,c8,c9,ca,cb,cc,cd,ce⟩:=ZO.1 (ZmS (ZlH hbr) (A:=fun _=>True) trivial _ _ HBT.out)
   have u0:w.heap.size < wr.heap.size:=om
   have u1:w.heap.size+1 < wr.heap.size:=om
   clear hre hownk
   rcases hW:Vm (Vh s i) t with ⟨x,u⟩|⟨k⟩
   ·rw [hW] at hst hin
    obtain ⟨_,hu,hokx⟩:=hin
    have hu2:i+u≤s.size:=om
    have OKX:=hid hokx
    have HW:=hid hW
    have wiu:IntKind.i64.wrap ((i:Int)+(u:Int))=(i:Int)+(u:Int):=IntWalk.i64_in _ om
    clear hW hokx hsz hu
    dsimp only at hst
    cases hHv:Zh p x
    ·have HH:=hid hHv
     rw [hHv,if_neg sm] at hst
     have HST:=hid hst
     clear hst hHv
     go_wp2_with fail
     go_region_held3 (fun W=>∀k,W.cell? ⟨w.heap.size,k,none⟩=wr.cell? ⟨w.heap.size,k,none⟩) ((intro k;refine Below.cell (B:=wr.heap.size) (w:=wr) (p:=⟨w.heap.size,k,none⟩) ?_ u0;((repeat (first|with_reducible exact Below.refl _ _|with_reducible assumption|with_reducible refine Below.trans ?_ (Below.mono (by with_reducible assumption) (by first|omega|(simp;done)|(simp;omega)))|with_reducible refine Below.drew ?_|with_reducible refine Below.alloc ?_ (by first|omega|(simp;done)|(simp;omega)) _|with_reducible refine Below.setCell ?_ (by first|omega|(simp;done)|(simp;omega)) _));done))) ((go_at_call 22;refine (ZcJ t (Vh s i) _ A ⟨ma,mb,mc,md,me,mf,mg,mh,mi,mj,mk,ml⟩ OX.out hs (by exact ZlV (A:=A) ar _ _ QT.out) hs9 HRS.out x u HW.out).mono ?_;rintro e w2 ⟨hb2,mv,rfl,hrv⟩;have HRV:=hid hrv;clear hrv;have hz2:=hb2.size;(try simp at hz2);have hbr2:Below wr.heap.size wr w2:=ZlD;have v0:w.heap.size < w2.heap.size:=om;have v1:w.heap.size+1 < w2.heap.size:=om;have v2:wr.heap.size≤w2.heap.size:=om;(try (have y5':wr.heap.size < w2.heap.size:=om;have q0:w2.cell? ⟨wr.heap.size,0,none⟩=some (.int .u8 0):=(hb2.cell sm).trans gs;have q1:w2.cell? ⟨wr.heap.size,1,none⟩=some (.int .u8 0):=(hb2.cell sm).trans gs;have q2:w2.cell? ⟨wr.heap.size,2,none⟩=some (.int .i64 0):=(hb2.cell sm).trans gs;have q3:w2.cell? ⟨wr.heap.size,3,none⟩=some (.slice none 0 0):=(hb2.cell sm).trans gs;have q4:w2.cell? ⟨wr.heap.size,4,none⟩=some (.int .i64 0):=(hb2.cell sm).trans gs;have qf:∀k,w2.frozen? ⟨wr.heap.size,k,none⟩=false:=fun k=>(hb2.frozen sm).trans gs))))
     ·go_wp2_with (first|(at_builtin;refine wpList_append_lies _ rfl _ _ 69 rfl w1.heap.size 73 i0 _ 5 56 underlying69 hi0 y0 y1 y2 rfl (by decide) _ j _ (by rfl) ((ZR HO.out (B:=wr.heap.size) (by exact ZlD) HOK.out).alloc _) ⟨w2.heap.size+1,0,none⟩ 1 1 [.int .i64 i,.int .i64 (i+u),.int .u8 x.k,.int .i64 x.n,.slice mv.a x.l.length mv.c] (by rfl) rfl (QO sm _ _ _ _ _ _) (by simp [Value.oneCell']) (by decide) (by unfold maxLen;omega) om (by simp;omega) (w2.heap.size+1+1) sm ?_;intro g cap w4 hown hgrow hat hlt1;have hbg:Below w1.heap.size w1 w4:=Below.grown (by exact ZlD) hgrow (by simp;omega) HOWN.out;have hag:Agree (fun b=>b=w2.heap.size) _ w4:=Znm hgrow (fun b hb e=>(by have h8:b=w2.heap.size:=hb;have h9:=HOK.out _ e.symm;omega));have x0:w4.cell? ⟨w2.heap.size,0,none⟩=some (.int .u8 1):=(hag ⟨w2.heap.size,0,none⟩ _ rfl gs).1;have x1:w4.cell? ⟨w2.heap.size,1,none⟩=some (.int .u8 x.k):=(hag ⟨w2.heap.size,1,none⟩ _ rfl gs).1;have x2:w4.cell? ⟨w2.heap.size,2,none⟩=some (.int .i64 x.n):=(hag ⟨w2.heap.size,2,none⟩ _ rfl gs).1;have x3:w4.cell? ⟨w2.heap.size,3,none⟩=some (.slice mv.a x.l.length mv.c):=(hag ⟨w2.heap.size,3,none⟩ _ rfl gs).1;have x4:w4.cell? ⟨w2.heap.size,4,none⟩=some (.int .i64 u):=(hag ⟨w2.heap.size,4,none⟩ _ rfl gs).1;obtain ⟨g0,g1,g2,g3,g4,g5⟩:=Qf.1 (ZmS (ZlH hbg) (A:=fun _=>True) trivial _ _ HBP.out);have hz4:=hbg.size;have hbw4:Below w.heap.size w w4:=hbw1.trans (hbg.mono om);have hrx:RV w4 (Own w1.heap.size (fun _=>False) (.slice (some ⟨g,0,none⟩) (j+1) cap)) x mv.a:=Znj hgrow HOWN.out hat sm (ZmO (fun b hb _=>(Or.inr ⟨om,fun e=>(by have h9:=HOK.out _ e;omega)⟩)) _ _ (ZmG (A:=fun b=>wr.heap.size≤b) ar _ _ (ZmO (fun b hb _=>(by simpa using hb)) _ _ HRV.out)));have hqx:∀q∈ps,RV w4 (Own w1.heap.size (fun _=>False) (.slice (some ⟨g,0,none⟩) (j+1) cap)) q.1.v q.2.a:=fun q hq=>Znj hgrow HOWN.out hat sm (ZmG (ZlH (Below.mono (B:=wr.heap.size) ZlD (Nat.le_refl _))) _ _ (HQ.out q hq));have HRX:=hid hrx;have HQX:=hid hqx;have HOX:=hid hown;clear hrx hqx hown)|(go_at_call 42;refine (Vg p x false HH.out A2 (Own w1.heap.size (fun _=>False) (.slice (some ⟨g,0,none⟩) (j+1) cap)) ⟨na,nb,nc,nd⟩ mv _ OP.out hp (by exact ZmP (ZlH hbw4) _ _ HR.out) OKX.out (by exact HRX.out) HMAY.out).mono ?_;rintro e6 w6 ⟨rfl,hb6⟩))
      exact ZoO
     go_wp2_with (first|(at_builtin;refine wpList_append_lies _ rfl _ _ 69 rfl w1.heap.size 73 i0 _ 5 56 underlying69 hi0 y0 y1 y2 rfl (by decide) _ j _ (by rfl) ((ZR HO.out (B:=wr.heap.size) (by exact ZlD) HOK.out).alloc _) ⟨w2.heap.size,0,none⟩ 1 1 [.int .i64 i,.int .i64 (i+u),.int .u8 x.k,.int .i64 x.n,.slice mv.a x.l.length mv.c] (by rfl) rfl (QO sm _ _ _ _ _ _) (by simp [Value.oneCell']) (by decide) (by unfold maxLen;omega) om (by simp;omega) (w2.heap.size+1) sm ?_;intro g cap w4 hown hgrow hat hlt1;have hbg:Below w1.heap.size w1 w4:=Below.grown (by exact ZlD) hgrow (by simp;omega) HOWN.out;have hag:Agree (fun b=>b=wr.heap.size) _ w4:=Znm hgrow (fun b hb e=>(by have h8:b=wr.heap.size:=hb;have h9:=HOK.out _ e.symm;omega));have x0:w4.cell? ⟨wr.heap.size,0,none⟩=some (.int .u8 1):=(hag ⟨wr.heap.size,0,none⟩ _ rfl gs).1;have x1:w4.cell? ⟨wr.heap.size,1,none⟩=some (.int .u8 x.k):=(hag ⟨wr.heap.size,1,none⟩ _ rfl gs).1;have x2:w4.cell? ⟨wr.heap.size,2,none⟩=some (.int .i64 x.n):=(hag ⟨wr.heap.size,2,none⟩ _ rfl gs).1;have x3:w4.cell? ⟨wr.heap.size,3,none⟩=some (.slice mv.a x.l.length mv.c):=(hag ⟨wr.heap.size,3,none⟩ _ rfl gs).1;have x4:w4.cell? ⟨wr.heap.size,4,none⟩=some (.int .i64 u):=(hag ⟨wr.heap.size,4,none⟩ _ rfl gs).1;obtain ⟨g0,g1,g2,g3,g4,g5⟩:=Qf.1 (ZmS (ZlH hbg) (A:=fun _=>True) trivial _ _ HBP.out);have hz4:=hbg.size;have hbw4:Below w.heap.size w w4:=hbw1.trans (hbg.mono om);have hrx:RV w4 (Own w1.heap.size (fun _=>False) (.slice (some ⟨g,0,none⟩) (j+1) cap)) x mv.a:=Znj hgrow HOWN.out hat sm (ZmO (fun b hb _=>(Or.inr ⟨om,fun e=>(by have h9:=HOK.out _ e;omega)⟩)) _ _ (ZmG (A:=fun b=>wr.heap.size+1≤b) (Za0 _ _ _ _ _ _) _ _ (ZmO (fun b hb _=>(by simpa using hb)) _ _ HRV.out)));have hqx:∀q∈ps,RV w4 (Own w1.heap.size (fun _=>False) (.slice (some ⟨g,0,none⟩) (j+1) cap)) q.1.v q.2.a:=fun q hq=>Znj hgrow HOWN.out hat sm (ZmG (ZlH (Below.mono (B:=wr.heap.size) ZlD (Nat.le_refl _))) _ _ (HQ.out q hq));have HRX:=hid hrx;have HQX:=hid hqx;have HOX:=hid hown;clear hrx hqx hown)|(go_at_call 42;refine (Vg p x false HH.out A2 (Own w1.heap.size (fun _=>False) (.slice (some ⟨g,0,none⟩) (j+1) cap)) ⟨na,nb,nc,nd⟩ mv _ OP.out hp (by exact ZmP (ZlH hbw4) _ _ HR.out) OKX.out (by exact HRX.out) HMAY.out).mono ?_;rintro e6 w6 ⟨rfl,hb6⟩))
     exact ZoO
    have HH:=hid hHv
    rw [hHv,if_pos rfl] at hst
    have HST:=hid hst
    clear hst hHv
    go_wp2_with fail
    go_region_held3 (fun W=>∀k,W.cell? ⟨w.heap.size,k,none⟩=wr.cell? ⟨w.heap.size,k,none⟩) ((intro k;refine Below.cell (B:=wr.heap.size) (w:=wr) (p:=⟨w.heap.size,k,none⟩) ?_ u0;((repeat (first|with_reducible exact Below.refl _ _|with_reducible assumption|with_reducible refine Below.trans ?_ (Below.mono (by with_reducible assumption) (by first|omega|(simp;done)|(simp;omega)))|with_reducible refine Below.drew ?_|with_reducible refine Below.alloc ?_ (by first|omega|(simp;done)|(simp;omega)) _|with_reducible refine Below.setCell ?_ (by first|omega|(simp;done)|(simp;omega)) _));done))) ((go_at_call 22;refine (ZcJ t (Vh s i) _ A ⟨ma,mb,mc,md,me,mf,mg,mh,mi,mj,mk,ml⟩ OX.out hs (by exact ZlV (A:=A) ar _ _ QT.out) hs9 HRS.out x u HW.out).mono ?_;rintro e w2 ⟨hb2,mv,rfl,hrv⟩;have HRV:=hid hrv;clear hrv;have hz2:=hb2.size;(try simp at hz2);have hbr2:Below wr.heap.size wr w2:=ZlD;have v0:w.heap.size < w2.heap.size:=om;have v1:w.heap.size+1 < w2.heap.size:=om;have v2:wr.heap.size≤w2.heap.size:=om;(try (have y5':wr.heap.size < w2.heap.size:=om;have q0:w2.cell? ⟨wr.heap.size,0,none⟩=some (.int .u8 0):=(hb2.cell sm).trans gs;have q1:w2.cell? ⟨wr.heap.size,1,none⟩=some (.int .u8 0):=(hb2.cell sm).trans gs;have q2:w2.cell? ⟨wr.heap.size,2,none⟩=some (.int .i64 0):=(hb2.cell sm).trans gs;have q3:w2.cell? ⟨wr.heap.size,3,none⟩=some (.slice none 0 0):=(hb2.cell sm).trans gs;have q4:w2.cell? ⟨wr.heap.size,4,none⟩=some (.int .i64 0):=(hb2.cell sm).trans gs;have qf:∀k,w2.frozen? ⟨wr.heap.size,k,none⟩=false:=fun k=>(hb2.frozen sm).trans gs))))
    ·go_wp2_with (first|(at_builtin;refine wpList_append_lies _ rfl _ _ 69 rfl w1.heap.size 73 i0 _ 5 56 underlying69 hi0 y0 y1 y2 rfl (by decide) _ j _ (by rfl) ((ZR HO.out (B:=wr.heap.size) (by exact ZlD) HOK.out).alloc _) ⟨w2.heap.size+1,0,none⟩ 1 1 [.int .i64 i,.int .i64 (i+u),.int .u8 x.k,.int .i64 x.n,.slice mv.a x.l.length mv.c] (by rfl) rfl (QO sm _ _ _ _ _ _) (by simp [Value.oneCell']) (by decide) (by unfold maxLen;omega) om (by simp;omega) (w2.heap.size+1+1) sm ?_;intro g cap w4 hown hgrow hat hlt1;have hbg:Below w1.heap.size w1 w4:=Below.grown (by exact ZlD) hgrow (by simp;omega) HOWN.out;have hag:Agree (fun b=>b=w2.heap.size) _ w4:=Znm hgrow (fun b hb e=>(by have h8:b=w2.heap.size:=hb;have h9:=HOK.out _ e.symm;omega));have x0:w4.cell? ⟨w2.heap.size,0,none⟩=some (.int .u8 1):=(hag ⟨w2.heap.size,0,none⟩ _ rfl gs).1;have x1:w4.cell? ⟨w2.heap.size,1,none⟩=some (.int .u8 x.k):=(hag ⟨w2.heap.size,1,none⟩ _ rfl gs).1;have x2:w4.cell? ⟨w2.heap.size,2,none⟩=some (.int .i64 x.n):=(hag ⟨w2.heap.size,2,none⟩ _ rfl gs).1;have x3:w4.cell? ⟨w2.heap.size,3,none⟩=some (.slice mv.a x.l.length mv.c):=(hag ⟨w2.heap.size,3,none⟩ _ rfl gs).1;have x4:w4.cell? ⟨w2.heap.size,4,none⟩=some (.int .i64 u):=(hag ⟨w2.heap.size,4,none⟩ _ rfl gs).1;obtain ⟨g0,g1,g2,g3,g4,g5⟩:=Qf.1 (ZmS (ZlH hbg) (A:=fun _=>True) trivial _ _ HBP.out);have hz4:=hbg.size;have hbw4:Below w.heap.size w w4:=hbw1.trans (hbg.mono om);have hrx:RV w4 (Own w1.heap.size (fun _=>False) (.slice (some ⟨g,0,none⟩) (j+1) cap)) x mv.a:=Znj hgrow HOWN.out hat sm (ZmO (fun b hb _=>(Or.inr ⟨om,fun e=>(by have h9:=HOK.out _ e;omega)⟩)) _ _ (ZmG (A:=fun b=>wr.heap.size≤b) ar _ _ (ZmO (fun b hb _=>(by simpa using hb)) _ _ HRV.out)));have hqx:∀q∈ps,RV w4 (Own w1.heap.size (fun _=>False) (.slice (some ⟨g,0,none⟩) (j+1) cap)) q.1.v q.2.a:=fun q hq=>Znj hgrow HOWN.out hat sm (ZmG (ZlH (Below.mono (B:=wr.heap.size) ZlD (Nat.le_refl _))) _ _ (HQ.out q hq));have HRX:=hid hrx;have HQX:=hid hqx;have HOX:=hid hown;clear hrx hqx hown)|(go_at_call 42;refine (Vg p x true HH.out A2 (Own w1.heap.size (fun _=>False) (.slice (some ⟨g,0,none⟩) (j+1) cap)) ⟨na,nb,nc,nd⟩ mv _ OP.out hp (by exact ZmP (ZlH hbw4) _ _ HR.out) OKX.out (by exact HRX.out) HMAY.out).mono ?_;rintro e6 w6 ⟨rfl,hb6⟩))
     have hz6:=hb6.size
     have hown6:w6.ownsRow w1.heap.size 73 5 (.slice (some ⟨g,0,none⟩) (j+1) cap) (j+1) (WM (ps++[(⟨(i:Int),((i+u:Nat):Int),x⟩,mv)])):=by
      exact Zpf
     have hq6:∀q∈ps++[((⟨(i:Int),((i+u:Nat):Int),x⟩:GR),mv)],RV w6 (Own w1.heap.size (fun _=>False) (.slice (some ⟨g,0,none⟩) (j+1) cap)) q.1.v q.2.a:=by
      exact Zpe
     go_roundg (gk - 1)
     case measure=>omega
     case rel=>exact ⟨j+1,i+u,ps++[(⟨(i:Int),((i+u:Nat):Int),x⟩,mv)],_,rfl,om,by go_num,hu2,hbg.trans (hb6.mono om),hid (by have:=HPL.out;simp;omega),hid (by rw [←HST.out];simp),hid hown6,hid hq6⟩
    go_wp2_with (first|(at_builtin;refine wpList_append_lies _ rfl _ _ 69 rfl w1.heap.size 73 i0 _ 5 56 underlying69 hi0 y0 y1 y2 rfl (by decide) _ j _ (by rfl) ((ZR HO.out (B:=wr.heap.size) (by exact ZlD) HOK.out).alloc _) ⟨w2.heap.size,0,none⟩ 1 1 [.int .i64 i,.int .i64 (i+u),.int .u8 x.k,.int .i64 x.n,.slice mv.a x.l.length mv.c] (by rfl) rfl (QO sm _ _ _ _ _ _) (by simp [Value.oneCell']) (by decide) (by unfold maxLen;omega) om (by simp;omega) (w2.heap.size+1) sm ?_;intro g cap w4 hown hgrow hat hlt1;have hbg:Below w1.heap.size w1 w4:=Below.grown (by exact ZlD) hgrow (by simp;omega) HOWN.out;have hag:Agree (fun b=>b=wr.heap.size) _ w4:=Znm hgrow (fun b hb e=>(by have h8:b=wr.heap.size:=hb;have h9:=HOK.out _ e.symm;omega));have x0:w4.cell? ⟨wr.heap.size,0,none⟩=some (.int .u8 1):=(hag ⟨wr.heap.size,0,none⟩ _ rfl gs).1;have x1:w4.cell? ⟨wr.heap.size,1,none⟩=some (.int .u8 x.k):=(hag ⟨wr.heap.size,1,none⟩ _ rfl gs).1;have x2:w4.cell? ⟨wr.heap.size,2,none⟩=some (.int .i64 x.n):=(hag ⟨wr.heap.size,2,none⟩ _ rfl gs).1;have x3:w4.cell? ⟨wr.heap.size,3,none⟩=some (.slice mv.a x.l.length mv.c):=(hag ⟨wr.heap.size,3,none⟩ _ rfl gs).1;have x4:w4.cell? ⟨wr.heap.size,4,none⟩=some (.int .i64 u):=(hag ⟨wr.heap.size,4,none⟩ _ rfl gs).1;obtain ⟨g0,g1,g2,g3,g4,g5⟩:=Qf.1 (ZmS (ZlH hbg) (A:=fun _=>True) trivial _ _ HBP.out);have hz4:=hbg.size;have hbw4:Below w.heap.size w w4:=hbw1.trans (hbg.mono om);have hrx:RV w4 (Own w1.heap.size (fun _=>False) (.slice (some ⟨g,0,none⟩) (j+1) cap)) x mv.a:=Znj hgrow HOWN.out hat sm (ZmO (fun b hb _=>(Or.inr ⟨om,fun e=>(by have h9:=HOK.out _ e;omega)⟩)) _ _ (ZmG (A:=fun b=>wr.heap.size+1≤b) (Za0 _ _ _ _ _ _) _ _ (ZmO (fun b hb _=>(by simpa using hb)) _ _ HRV.out)));have hqx:∀q∈ps,RV w4 (Own w1.heap.size (fun _=>False) (.slice (some ⟨g,0,none⟩) (j+1) cap)) q.1.v q.2.a:=fun q hq=>Znj hgrow HOWN.out hat sm (ZmG (ZlH (Below.mono (B:=wr.heap.size) ZlD (Nat.le_refl _))) _ _ (HQ.out q hq));have HRX:=hid hrx;have HQX:=hid hqx;have HOX:=hid hown;clear hrx hqx hown)|(go_at_call 42;refine (Vg p x true HH.out A2 (Own w1.heap.size (fun _=>False) (.slice (some ⟨g,0,none⟩) (j+1) cap)) ⟨na,nb,nc,nd⟩ mv _ OP.out hp (by exact ZmP (ZlH hbw4) _ _ HR.out) OKX.out (by exact HRX.out) HMAY.out).mono ?_;rintro e6 w6 ⟨rfl,hb6⟩))
    have hz6:=hb6.size
    have hown6:w6.ownsRow w1.heap.size 73 5 (.slice (some ⟨g,0,none⟩) (j+1) cap) (j+1) (WM (ps++[(⟨(i:Int),((i+u:Nat):Int),x⟩,mv)])):=by
     exact Zpf
    have hq6:∀q∈ps++[((⟨(i:Int),((i+u:Nat):Int),x⟩:GR),mv)],RV w6 (Own w1.heap.size (fun _=>False) (.slice (some ⟨g,0,none⟩) (j+1) cap)) q.1.v q.2.a:=by
     exact Zpe
    go_roundg (gk - 1)
    case measure=>omega
    case rel=>exact ⟨j+1,i+u,ps++[(⟨(i:Int),((i+u:Nat):Int),x⟩,mv)],_,rfl,om,by go_num,hu2,hbg.trans (hb6.mono om),hid (by have:=HPL.out;simp;omega),hid (by rw [←HST.out];simp),hid hown6,hid hq6⟩
   rw [hW] at hst hin
   have hk:k=2∨k=3:=hin
   have HW:=hid hW
   clear hW hsz
   dsimp only at hst
   have HST:=hid hst
   clear HOK HOWN
   have hE2:=UG (A:=fun b=>w1.heap.size≤b) HO.out (fun b h=>h) (fun q hq=>ZmO (fun b hb _=>by rcases hb with ⟨h,_⟩|⟨h,h2⟩;exact absurd h id;exact ⟨h,h2⟩) _ _ (HQ.out q hq))
   obtain ⟨av,cv,hav,hrd⟩:=hE2
   have HRD:=hid hrd
   have HAV:=hid hav
   clear hrd hav hst
   have hle:w.heap.size≤wr.heap.size:=om
   have hle1:w1.heap.size≤wr.heap.size:=om
   rcases hk with rfl|rfl
   ·have hst2:(ps.map Prod.fst,(3:Int))=R:=by rw [←HST.out];simp
    clear HST
    subst hst2
    go_wp2_with fail
    go_region_held3 (fun W=>∀k,W.cell? ⟨w.heap.size,k,none⟩=wr.cell? ⟨w.heap.size,k,none⟩) ((intro k;refine Below.cell (B:=wr.heap.size) (w:=wr) (p:=⟨w.heap.size,k,none⟩) ?_ u0;((repeat (first|with_reducible exact Below.refl _ _|with_reducible assumption|with_reducible refine Below.trans ?_ (Below.mono (by with_reducible assumption) (by first|omega|(simp;done)|(simp;omega)))|with_reducible refine Below.drew ?_|with_reducible refine Below.alloc ?_ (by first|omega|(simp;done)|(simp;omega)) _|with_reducible refine Below.setCell ?_ (by first|omega|(simp;done)|(simp;omega)) _));done))) ((go_at_call 22;refine (Zhe t (Vh s i) _ A ⟨ma,mb,mc,md,me,mf,mg,mh,mi,mj,mk,ml⟩ OX.out hs (by exact ZlV (A:=A) ar _ _ QT.out) hs9 HRS.out _ HW.out).mono ?_;rintro e w2 ⟨hb2,rfl⟩;have hz2:=hb2.size;(try simp at hz2);have hbr2:Below wr.heap.size wr w2:=ZlD;have v0:w.heap.size < w2.heap.size:=om;have v1:w.heap.size+1 < w2.heap.size:=om;have v2:wr.heap.size≤w2.heap.size:=om;(try (have y5':wr.heap.size < w2.heap.size:=om;have q0:w2.cell? ⟨wr.heap.size,0,none⟩=some (.int .u8 0):=(hb2.cell sm).trans gs;have q1:w2.cell? ⟨wr.heap.size,1,none⟩=some (.int .u8 0):=(hb2.cell sm).trans gs;have q2:w2.cell? ⟨wr.heap.size,2,none⟩=some (.int .i64 0):=(hb2.cell sm).trans gs;have q3:w2.cell? ⟨wr.heap.size,3,none⟩=some (.slice none 0 0):=(hb2.cell sm).trans gs;have q4:w2.cell? ⟨wr.heap.size,4,none⟩=some (.int .i64 0):=(hb2.cell sm).trans gs;have qf:∀k,w2.frozen? ⟨wr.heap.size,k,none⟩=false:=fun k=>(hb2.frozen sm).trans gs))))
    all_goals go_wp2_with fail
    all_goals refine bodyPost_ret (v:=.tuple #[.slice va j vcp,.int .u8 3,.int .i64 0]) (by simp [results,Tryz.f30,go_sem]) rfl ?_
    all_goals exact Zpl
   have hst2:(ps.map Prod.fst,(4:Int))=R:=by rw [←HST.out];simp
   clear HST
   subst hst2
   go_wp2_with fail
   go_region_held3 (fun W=>∀k,W.cell? ⟨w.heap.size,k,none⟩=wr.cell? ⟨w.heap.size,k,none⟩) ((intro k;refine Below.cell (B:=wr.heap.size) (w:=wr) (p:=⟨w.heap.size,k,none⟩) ?_ u0;((repeat (first|with_reducible exact Below.refl _ _|with_reducible assumption|with_reducible refine Below.trans ?_ (Below.mono (by with_reducible assumption) (by first|omega|(simp;done)|(simp;omega)))|with_reducible refine Below.drew ?_|with_reducible refine Below.alloc ?_ (by first|omega|(simp;done)|(simp;omega)) _|with_reducible refine Below.setCell ?_ (by first|omega|(simp;done)|(simp;omega)) _));done))) ((go_at_call 22;refine (Zhe t (Vh s i) _ A ⟨ma,mb,mc,md,me,mf,mg,mh,mi,mj,mk,ml⟩ OX.out hs (by exact ZlV (A:=A) ar _ _ QT.out) hs9 HRS.out _ HW.out).mono ?_;rintro e w2 ⟨hb2,rfl⟩;have hz2:=hb2.size;(try simp at hz2);have hbr2:Below wr.heap.size wr w2:=ZlD;have v0:w.heap.size < w2.heap.size:=om;have v1:w.heap.size+1 < w2.heap.size:=om;have v2:wr.heap.size≤w2.heap.size:=om;(try (have y5':wr.heap.size < w2.heap.size:=om;have q0:w2.cell? ⟨wr.heap.size,0,none⟩=some (.int .u8 0):=(hb2.cell sm).trans gs;have q1:w2.cell? ⟨wr.heap.size,1,none⟩=some (.int .u8 0):=(hb2.cell sm).trans gs;have q2:w2.cell? ⟨wr.heap.size,2,none⟩=some (.int .i64 0):=(hb2.cell sm).trans gs;have q3:w2.cell? ⟨wr.heap.size,3,none⟩=some (.slice none 0 0):=(hb2.cell sm).trans gs;have q4:w2.cell? ⟨wr.heap.size,4,none⟩=some (.int .i64 0):=(hb2.cell sm).trans gs;have qf:∀k,w2.frozen? ⟨wr.heap.size,k,none⟩=false:=fun k=>(hb2.frozen sm).trans gs))))
   all_goals go_wp2_with fail
   all_goals refine bodyPost_ret (v:=.tuple #[.slice va j vcp,.int .u8 4,.int .i64 0]) (by simp [results,Tryz.f30,go_sem]) rfl ?_
   all_goals exact Zpl
  have hjN:((j:Int)==(N:Int))=true:=beq_iff_eq.2 om
  have hjl:j=N:=om
  have hst:=HP.out
  rw [hjl,Nat.sub_self] at hst
  have hst2:(ps.map Prod.fst,2)=R:=by rw [←hst];simp [Yz]
  have hE2:=UG (A:=fun b=>w1.heap.size≤b) HO.out (fun b h=>h) (fun q hq=>ZmO (fun b hb _=>by rcases hb with ⟨h,_⟩|⟨h,h2⟩;exact absurd h id;exact ⟨h,h2⟩) _ _ (HQ.out q hq))
  obtain ⟨av,cv,hav,hrd⟩:=hE2
  have HRD:=hid hrd
  have HAV:=hid hav
  clear hst hrd hav hjl
  subst hst2
  go_wp2_with fail
  refine bodyPost_ret (v:=.tuple #[.slice va j vcp,.int .u8 2,.int .i64 0]) (by simp [results,Tryz.f30,go_sem]) rfl ?_
  exact ⟨hbw,av,cv,by rw [HAV.out],RRx.mono (fun b hb _=>om) _ _ HRD.out⟩
set_option maxRecDepth 512
theorem Zm1 (t:GT) (p:GP) (s:ByteArray) (N:Nat) (w:World) (A A2:Nat→Prop) (m:TA) (mp:PA) (ox:okT t) (hs:Zb t≤1048576) (hl:RT w A t m) (op:okP p) (hp:Zm p≤1099511627776) (hr:RP w A2 p mp) (hE:VQ t p s N=0):
  Calls prog 30 #[TV t m,PV p mp,.string s,.int .i64 N] w fun e w'=>Below w.heap.size w w'∧Zlm (Yz s t p N 0) w e w':=
 (Zm4 t p s N w A A2 m mp ox hs hl op hp hr hE).mono fun e w' h=>by
  obtain ⟨hb,a,c,h,hr⟩:=h
  exact ⟨hb,a,_,h,hr.1⟩
end Go.Proofs.YtclphfojkggcpaaGreatDoor
