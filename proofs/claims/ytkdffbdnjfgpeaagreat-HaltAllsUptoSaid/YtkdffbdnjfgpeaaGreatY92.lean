/- Part 93. -/
import Derived.Test.YtkdffbdnjfgpeaaGreatY51
import Derived.Test.YtkdffbdnjfgpeaaGreatY91
import Derived.Test.YtkdffbdnjfgpeaaGreatY93
set_option linter.all false
namespace Go.Proofs.YtkdffbdnjfgpeaaGreat
open Go.Lib (hid)
open Go Go.RowKit Go.Proofs.Tryz
theorem Zxi:(prog.info? 68).map (fun i=>(i.zero,i.size,i.bytes))=some (some (.agg #[.string ⟨#[]⟩,.int .u8 0,.int .i64 0,.slice none 0 0]),4,56):=kr
def ZwX (t:GT) (k:Nat):List GH:=(List.range k).flatMap fun k=>Zsj t k (Zqm k ⟨#[]⟩)
theorem Zw1 (t:GT) (k:Nat):ZwX t (k+1)=ZwX t k++Zsj t k (Zqm k ⟨#[]⟩):=by
 unfold ZwX
 rw [List.range_succ,List.flatMap_append,List.flatMap_cons,List.flatMap_nil,List.append_nil]
theorem Zxa {t:GT} {k:Nat} {l:List ByteArray} {i:Nat} (h:i < l.length):Zsj t k (l.take (i+1))=Zsj t k (l.take i)++Zsj t k [l[i]]:=by
 unfold Zsj
 rw [List.take_succ_eq_append_getElem h,List.filterMap_append]
theorem Zxh (t:GT) (s:ByteArray) (k:Nat) (A:Nat→Prop) (m:TA) (ht:(Z3 t).2=0) (ox:okT t) (hs:Zb t≤1048576) (hb:Zc s=true) (hss:s.size≤12):
  ∃(KD:Int) (X:GV) (U:Nat),(∀W,RT W A t m→Calls prog 48 #[TV t m,.string s] W fun e w'=>Below W.heap.size W w'∧∃mv:VA,e=.returned (.tuple #[.agg #[.int .u8 KD,.int .u8 X.k,.int .i64 X.n,.slice mv.a X.l.length mv.c,.int .i64 U],.int .i64 0])∧RV w' (fun b=>W.heap.size≤b) X mv.a) ∧
   ((KD==1)=true∧((U:Int)==(k:Int))=true∧Zsj t k [s]=[(s,X)]∨(KD==1)=true∧((U:Int)==(k:Int))=false∧Zsj t k [s]=[]∨(KD==1)=false∧Zsj t k [s]=[]):=by
 have hE:=Zdz ht hb
 rcases hr:Vm s t with ⟨x,u⟩|⟨e⟩
 ·refine ⟨1,x,u,fun W h=>ZcJ t s W A m ox hs h om hE x u hr,?_⟩
  by_cases hu:u=k
  ·exact .inl ⟨rfl,by simp [hu],by simp [Zsj,hr,hu]⟩
  exact .inr (.inl ⟨rfl,beq_eq_false_iff_ne.2 om,by simp [Zsj,hr,hu]⟩)
 have hin:=Zp7 ht ox hb
 rw [hr] at hin
 refine ⟨e,Y8,0,fun W h=>(Zhe t s W A m ox hs h om hE e hr).mono fun _ _ ⟨h1,h2⟩=>⟨h1,⟨none,0⟩,h2,by simp [RV,Y8,RVs]⟩,.inr (.inr ⟨?_,by simp [Zsj,hr]⟩)⟩
 rcases hin with rfl|rfl<;>rfl
set_option maxRecDepth 100000
set_option maxHeartbeats 2000000
theorem Zw9 (t:GT) (n:Int) (w:World) (A:Nat→Prop) (m:TA) (ox:okT t) (hs:Zb t≤1048576) (hl:RT w A t m) (hE:Zqq t n≠0):
  Calls prog 12 #[TV t m,.int .i64 n] w fun e w'=>e=.returned (.tuple #[.slice none 0 0,.int .i64 (Zqq t n)])∧Below w.heap.size w w':=by
 obtain ⟨ma,mb,mc,md,me,mf,mg,mh,mi,mj,mk,ml⟩:=m
 have HL:=hid hl
 have HW:Hid (∀W,RT W A t ⟨ma,mb,mc,md,me,mf,mg,mh,mi,mj,mk,ml⟩→Calls prog 21 #[TV t ⟨ma,mb,mc,md,me,mf,mg,mh,mi,mj,mk,ml⟩,.int .i64 n] W fun e w'=>e=.returned (.int .i64 (Zqq t n))∧Below W.heap.size W w'):=hid (fun W h=>ZwT t n W A _ ox hs h)
 have h1:(Zqq t n != 0)=true:=by simp [hE]
 generalize Zqq t n=E at *
 clear hl ox hE
 go_enter func12,ntmps12
 go_wp2_with (go_at_call 21;(with_reducible refine (HW.out _ (by exact Zt2 ar _ _ HL.out)).mono ?_);rintro e w1 ⟨rfl,hb1⟩;have hz1:=hb1.size;(try simp at hz1))
 go_ret2
 exact ⟨rfl,ZtZ⟩
set_option maxHeartbeats 4000000
theorem Zxe (t:GT) (n:Nat) (w:World) (A:Nat→Prop) (m:TA) (ox:okT t) (hs:Zb t≤1048576) (hl:RT w A t m) (hn:n≤12) (ht:(Z3 t).2=0):
  Calls prog 12 #[TV t m,.int .i64 n] w fun e w'=>Below w.heap.size w w'∧∃a c,e=.returned (.tuple #[.slice a (Zpv t n).length c,.int .i64 0])∧RJs w' (fun b=>w.heap.size≤b) (Zpv t n) a:=by
 obtain ⟨ma,mb,mc,md,me,mf,mg,mh,mi,mj,mk,ml⟩:=m
 have HL:=hid hl
 have hE0:Zqq t n=0:=by unfold Zqq;rw [if_neg om,ht]
 have HW:Hid (∀W,RT W A t ⟨ma,mb,mc,md,me,mf,mg,mh,mi,mj,mk,ml⟩→Calls prog 21 #[TV t ⟨ma,mb,mc,md,me,mf,mg,mh,mi,mj,mk,ml⟩,.int .i64 n] W fun e w'=>e=.returned (.int .i64 0)∧Below W.heap.size W w'):=hid (fun W h=>by have:=ZwT t n W A _ ox hs h;rw [hE0] at this;exact this)
 have HTOLD:=hid (fun k s hb hz=>Zxh t s k A ⟨ma,mb,mc,md,me,mf,mg,mh,mi,mj,mk,ml⟩ ht ox hs hb hz)
 obtain ⟨i0,hi0,y0,y1,y2⟩:=info_parts Zxi
 have HDL:Hid (Zpv t n=ZwX t (n+1)):=hid rfl
 clear hl ox ht hE0
 go_enter func12,ntmps12
 go_wp2_with (go_at_call 21;(with_reducible refine (HW.out _ (by exact Zt2 ar _ _ HL.out)).mono ?_);rintro e w1 ⟨rfl,hb1⟩;have hz1:=hb1.size;(try simp at hz1))
 have hbw1:Below w.heap.size w w1:=ZtZ
 have HBT:Hid (At w1 w.heap.size 0 [.int .u8 t.k,.int .u8 t.v.k,.int .i64 t.v.n,.slice ma t.v.l.length mb,.slice mc t.vs.length md,.int .i64 t.lo,.int .i64 t.hi,.slice me t.w.length mf,.int .u8 t.p.k,.int .u8 t.p.v.k,.int .i64 t.p.v.n,.slice mg t.p.v.l.length mh,.int .i64 t.p.n,.slice mi t.p.a.length mj,.slice mk t.a.length ml]):=hid (ZO.2 ⟨(hb1.cell so).trans gs,(hb1.cell so).trans gs,(hb1.cell so).trans gs,(hb1.cell so).trans gs,(hb1.cell so).trans gs,(hb1.cell so).trans gs,(hb1.cell so).trans gs,(hb1.cell so).trans gs,(hb1.cell so).trans gs,(hb1.cell so).trans gs,(hb1.cell so).trans gs,(hb1.cell so).trans gs,(hb1.cell so).trans gs,(hb1.cell so).trans gs,(hb1.cell so).trans gs⟩)
 have HL1:=hid (Zt2 (ZtY hbw1) _ _ HL.out)
 clear HL hb1
 go_loopg [7,8] (n+1) (fun gk t7' t8' wr=>∃(k:Nat) (ps:List (GH×VA)) (v:Value),v=t7'∧gk+k=n+1∧t8'=.int .i64 k∧Below w1.heap.size w1 wr∧ps.length≤4096*k∧Hid (ps.map Prod.fst=ZwX t k) ∧
  Hid (wr.ownsRow w1.heap.size 68 4 v ps.length (W0 ps))∧Hid (∀q∈ps,RV wr (Own w1.heap.size (fun _=>False) v) q.1.2 q.2.a))
 case atStart=>exact ⟨0,[],_,rfl,om,rfl,Below.refl _ _,sm,hid rfl,hid (World.ownsRow_nil _ _ _ _),hid (fun q hq=>by simp at hq)⟩
 case round=>
  obtain ⟨k,ps0,v0,rfl,hk,rfl,hbr,hpl0,HP0,HO0,HQ0⟩:=hrel
  obtain ⟨wo,rfl⟩:∃x,x=wr:=⟨_,rfl⟩
  have hzr:=hbr.size
  by_cases hlt:k < n+1
  ·have hkI:(k:Int)≤(n:Int):=om
   have HOK0:=hid (show ∀b,v0.ownBlock=some b→b < wo.heap.size from fun b hb=>(HO0.out.lt _ hb).2)
   go_wp2_with (go_at_call 47;(with_reducible refine (Zw8 k om _).mono ?_);rintro e wl ⟨hbl,vl,rfl,hol⟩;have HOL:=hid hol;clear hol;have hzl:=hbl.size)
   have hlen:=ZwS k ⟨#[]⟩
   have hp:=ZpP (k:=k) om
   have hpos:0 < 2 ^ k:=Nat.pos_of_ne_zero sm
   have HSZ:=hid (fun x (h:x∈Zqm k ⟨#[]⟩)=>(by have:=ZpC h;have h0:(⟨#[]⟩:ByteArray).size=0:=rfl;exact ⟨Zp8 ZpA om h,om⟩:Zc x=true∧x.size≤12))
   have HNX:=hid (Zw1 t k)
   generalize Zqm k ⟨#[]⟩=L at *
   have hL9:L.length≤4096:=om
   have hL0:0 < L.length:=om
   clear hlen hp hpos
   obtain ⟨gsb,cs,rfl,hg0,hg1⟩:=HOL.out.form hL0
   have HSR:Hid (SR wl gsb L):=hid (fun j hj=>by rw [HOL.out.cellAt j om,List.getElem?_map,List.getElem?_eq_getElem hj];rfl)
   have hbrl:Below w1.heap.size w1 wl:=hbr.trans (hbl.mono om)
   have HOl:=hid (ZR HO0.out hbl HOK0.out)
   have HQl:=hid (fun q hq=>Zt5 (ZtY hbl) _ _ (HQ0.out q hq))
   have hne0:some gsb≠v0.ownBlock:=fun e=>by have:=HOK0.out _ e.symm;omega
   clear HOL HO0 HQ0 HOK0
   obtain ⟨hgk,hgke⟩:∃x:Nat,x=gk:=⟨gk,rfl⟩
   have hk5:hgk+k=n+1:=om
   have HGK:=hid hgke
   clear hgke
   go_loopg [7,10] L.length (fun gq t7' t10' wq=>∃(i:Nat) (ps:List (GH×VA)) (v:Value),v=t7'∧gq+i=L.length∧t10'=.int .i64 i∧Below w1.heap.size w1 wq∧ps.length≤4096*k+i∧gsb < wq.heap.size∧some gsb≠v.ownBlock∧Hid (ps.map Prod.fst=ZwX t k++Zsj t k (L.take i))∧Hid (SR wq gsb L) ∧
    Hid (wq.ownsRow w1.heap.size 68 4 v ps.length (W0 ps))∧Hid (∀q∈ps,RV wq (Own w1.heap.size (fun _=>False) v) q.1.2 q.2.a))
   case atStart=>exact ⟨0,ps0,v0,rfl,om,rfl,hbrl,om,hg1,hne0,hid (by rw [HP0.out];simp [Zsj]),HSR,HOl,HQl⟩
   case round=>
    clear HOl HQl HSR hbr hzr hbrl hne0 hpl0 HP0
    obtain ⟨i,ps,v,rfl,hi,rfl,hbq,hpl,hgq,hne,HP,HSR,HO,HQ⟩:=hrel
    have hzq:=hbq.size
    by_cases hil:i < L.length
    ·have HTK:=hid (Zxa (t:=t) (k:=k) hil)
     have c0s:wr.cell? ⟨gsb,i,none⟩=some (.string L[i]):=HSR.out i hil
     obtain ⟨KD,X,U,hrun,hcond⟩:=HTOLD.out k L[i] (HSZ.out _ (List.getElem_mem hil)).1 (HSZ.out _ (List.getElem_mem hil)).2
     generalize L[i]=s at *
     have HRUN:=hid hrun
     have HCOND:=hid hcond
     have hiI:(i:Int) < (L.length:Int):=om
     have hi0':(0:Int)≤(i:Int):=om
     have HOK:=hid (show ∀b,v.ownBlock=some b→b < wr.heap.size from fun b hb=>(HO.out.lt _ hb).2)
     have HLO:=hid (show ∀b,v.ownBlock=some b→w1.heap.size≤b from fun b hb=>(HO.out.lt _ hb).1)
     have HLq:=hid (Zt2 (ZtY hbq) _ _ HL1.out)
     obtain ⟨c0,c1,c2,c3,c4,c5,c6,c7,c8,c9,ca,cb,cc,cd,ce⟩:=ZO.1 (Zuf (ZtY hbq) (A:=fun _=>True) trivial _ _ HBT.out)
     have u0:w.heap.size < wr.heap.size:=om
     clear hrun hcond
     go_wp2_with fail
     go_cut [11,12] from 32 to 40 (fun v11 v12 wx=>∃(o:Nat) (mv:VA),v11=.pointer (some ⟨o,0,none⟩)∧v12=.int .i64 0∧o < wx.heap.size∧Below wr.heap.size wr wx∧Hid (At wx o 0 [.int .u8 KD,.int .u8 X.k,.int .i64 X.n,.slice mv.a X.l.length mv.c,.int .i64 U])∧Hid (RV wx (fun b=>wr.heap.size≤b) X mv.a))
     case first=>
      go_region_held3 (fun W=>∀c k,c < wr.heap.size→W.cell? ⟨c,k,none⟩=wr.cell? ⟨c,k,none⟩) ((intro c k hc;refine Below.cell (B:=wr.heap.size) (w:=wr) (p:=⟨c,k,none⟩) ?_ hc;(exact ZtZ))) ((go_at_call 48;(with_reducible refine (HRUN.out _ (by exact Zt2 ar _ _ HLq.out)).mono ?_);rintro e w2 ⟨hb2,mv,rfl,hrv⟩;have HRV:=hid (Zt9 (A':=fun b=>_≤b∧b < w2.heap.size) (fun b h hb=>⟨h,hb⟩) _ _ hrv);clear hrv;have hz2:=hb2.size;(try simp at hz2);have v1:w.heap.size < w2.heap.size:=om;(try (have y5':wr.heap.size < w2.heap.size:=om;have q0:w2.cell? ⟨wr.heap.size,0,none⟩=some (.int .u8 0):=(hb2.cell sm).trans gs;have q1:w2.cell? ⟨wr.heap.size,1,none⟩=some (.int .u8 0):=(hb2.cell sm).trans gs;have q2:w2.cell? ⟨wr.heap.size,2,none⟩=some (.int .i64 0):=(hb2.cell sm).trans gs;have q3:w2.cell? ⟨wr.heap.size,3,none⟩=some (.slice none 0 0):=(hb2.cell sm).trans gs;have q4:w2.cell? ⟨wr.heap.size,4,none⟩=some (.int .i64 0):=(hb2.cell sm).trans gs;have qf:∀k,w2.frozen? ⟨wr.heap.size,k,none⟩=false:=fun k=>(hb2.frozen sm).trans gs))))
      all_goals go_wp2_with fail
      all_goals go_meet
      all_goals refine ⟨_,mv,rfl,rfl,by first|omega|(simp;done)|(simp;omega),ZtZ,hid (Zxs.2 ⟨gs,gs,gs,gs,gs⟩),hid ?_⟩
      all_goals first|refine Zx9 HRV.out ?_ _|refine Zya HRV.out ?_ _ _ _ _ _
      all_goals first|omega|(simp;done)|(simp;omega)
     case rest=>
      obtain ⟨o,mv,rfl,rfl,ho1,hbx,HAO,HRX⟩:=hcut
      have hzx:=hbx.size
      obtain ⟨o0,o1,o2,o3,o4⟩:=Zxs.1 HAO.out
      have c0s:=(hbx.cell (p:=⟨gsb,i,none⟩) hgq).trans c0s
      have HOX:=hid (ZR HO.out hbx HOK.out)
      have HQX:=hid (fun q hq=>Zt5 (ZtY hbx) _ _ (HQ.out q hq))
      have HSX:=hid (HSR.out.ext (ZtY hbx))
      have hbq':Below w1.heap.size w1 wc:=hbq.trans (hbx.mono hzq)
      clear c0 c1 c2 c3 c4 c5 c6 c7 c8 c9 ca cb cc cd ce HO HQ HSR HLq HRUN u0
      rcases HCOND.out with ⟨g1,g2,hD⟩|⟨g1,g2,hD⟩|⟨g1,hD⟩
      ·have HD:=hid hD
       clear hD
       have hOKx:∀b,v.ownBlock=some b→b < wc.heap.size:=fun b hb=>by have:=HOK.out b hb;omega
       have HOKx:=hid hOKx
       clear hOKx
       go_wp2_with fail
       go_region_law ((refine step_append_lies _ (by rfl) _ _ 34 (by rfl) w1.heap.size 68 i0 _ 4 56 underlying34 hi0 y0 y1 y2 rfl (by decide) _ ps.length _ (by rfl) (HOX.out.drew.alloc _) ⟨wc.heap.size,0,none⟩ 1 1 [.string s,.int .u8 X.k,.int .i64 X.n,.slice mv.a X.l.length mv.c] (by rfl) (by rfl) (ZrV sm _ _ _ _ _) (by simp [Value.oneCell']) (by decide) (by unfold maxLen;omega) om (by simp;omega) (wc.heap.size+1) sm ?_;intro g cap w4 hown hgrow hat hlt1;have hbw4:Below w1.heap.size wc w4:=Below.grown (((Below.refl _ _).drew).alloc (by simp;omega) _) hgrow (by simp;omega) HLO.out;have hz4:=hbw4.size;have HOWN:=hid hown;have HG:=hid hgrow;have HAT:=hid hat;have HQ4:Hid (∀q∈ps,RV w4 (Own w1.heap.size (fun _=>False) (.slice (some ⟨g,0,none⟩) (ps.length+1) cap)) q.1.2 q.2.a):=hid (fun q hq=>RV.own HG.out HLO.out HAT.out sm (Zt5 ar _ _ (HQX.out q hq)));have HX4:Hid (RV w4 (Own w1.heap.size (fun _=>False) (.slice (some ⟨g,0,none⟩) (ps.length+1) cap)) X mv.a):=hid (RV.own HG.out HLO.out HAT.out sm (Zt9 (fun b hb _=>(Or.inr ⟨om,fun e=>(by have h9:=HOK.out _ e;omega)⟩)) _ _ (Zt5 (A:=fun b=>wr.heap.size≤b) ar _ _ HRX.out)));have HS4:Hid (SR w4 gsb L):=hid (SR.ext (SR.ext HSX.out (ZtY (((Below.refl _ _).drew).alloc sm _))) (Agree.grown HG.out (fun b hb=>(by rw [hb];exact hne))));have hne4:some gsb≠some g:=(fun e=>(by rcases HAT.out with h|h;exact hne (e.trans h.symm);(cases e;omega)));clear hown hgrow hat))
       all_goals
        go_wp2_with fail
        go_roundg (gk - 1)
        case measure=>omega
        case rel=>exact ⟨i+1,ps++[((s,X),mv)],_,rfl,om,by go_num,hbq'.trans hbw4,by simp;omega,om,hne4,hid (by rw [HTK.out,HD.out,List.map_append,HP.out,List.append_assoc];rfl),HS4,hid (by rw [List.length_append,Zqo];exact HOWN.out),hid (fun q hq=>by
         rcases List.mem_append.1 hq with hq|hq
         ·exact HQ4.out q hq
         simp at hq
         subst hq
         exact HX4.out)⟩
      ·have HD:=hid hD
       clear hD
       go_wp2_with fail
       go_roundg (gk - 1)
       case measure=>omega
       case rel=>exact ⟨i+1,ps,v,rfl,om,by go_num,hbq',om,om,hne,hid (by rw [HTK.out,HD.out,HP.out,List.append_nil]),HSX,HOX,HQX⟩
      have HD:=hid hD
      clear hD
      go_wp2_with fail
      go_roundg (gk - 1)
      case measure=>omega
      case rel=>exact ⟨i+1,ps,v,rfl,om,by go_num,hbq',om,om,hne,hid (by rw [HTK.out,HD.out,HP.out,List.append_nil]),HSX,HOX,HQX⟩
    obtain rfl:i=L.length:=om
    go_wp2_with fail
    go_roundg (hgk - 1)
    case measure=>have:=HGK.out;omega
    case rel=>exact ⟨k+1,ps,v,rfl,om,by go_num,hbq,om,hid (by rw [HP.out,HNX.out,List.take_length]),HO,HQ⟩
  have hkI:¬(k:Int)≤(n:Int):=om
  obtain rfl:k=n+1:=om
  obtain ⟨av,cv,rfl,hrd⟩:=ZqM (A:=fun b=>w.heap.size≤b) HO0.out (fun b h=>om) (fun q hq=>Zt9 (fun b hb _=>by rcases hb with ⟨h,_⟩|⟨h,_⟩;exact absurd h id;omega) _ _ (HQ0.out q hq))
  rw [HP0.out,←HDL.out] at hrd
  have hln:ps0.length=(Zpv t n).length:=by rw [HDL.out,←HP0.out,List.length_map]
  have HRD:=hid hrd
  have HLN:=hid hln
  clear hrd hln
  go_wp2_with fail
  refine bodyPost_ret (v:=.tuple #[.slice av ps0.length (ps0.length+cv),.int .i64 0]) (by simp [results,Tryz.f12,go_sem]) rfl ?_
  exact ⟨hbw1.trans (hbr.mono om),av,⟨ps0.length+cv,by rw [←HLN.out]⟩,HRD.out⟩
set_option maxRecDepth 512
structure SpJs (ps:List (GH×VA)) (N g j:Nat) (w:World):Prop where
 row:∀i (h:i < ps.length),j≤i→At w g (i*4) [.string ps[i].1.1,.int .u8 ps[i].1.2.k,.int .i64 ps[i].1.2.n,.slice ps[i].2.a ps[i].1.2.l.length ps[i].2.c]
 fz:∀i,i < ps.length*4→w.frozen? ⟨g,i,none⟩=false
 it:∀q∈ps,WritV w N g q.2.a q.1.2.l.length
theorem SpJs.set {ps:List (GH×VA)} {N g j:Nat} {w:World} (h:SpJs ps N g j w) {p:Addr} (hp:p.block≠g) (u:Value):SpJs ps N g j (w.setCell p u):=
 ⟨fun i hi hj=>Zuf (Zt4 (A:=fun b=>b=g) hp) rfl _ _ (h.row i hi hj),fun i hi=>by rw [World.frozen?_setCell];exact h.fz i hi,fun q hq=>(h.it q hq).set p u⟩
theorem SpJs.next {ps:List (GH×VA)} {N g j:Nat} {w:World} (h:SpJs ps N g j w):SpJs ps N g (j+1) w:=⟨fun i hi hj=>h.row i hi om,h.fz,h.it⟩
theorem Zw5 {w:World} {b o o':Nat} {u:Value} (h:o' < o):∀(l:List Value) (k:Nat),o≤k→At w b k l→At (w.setCell ⟨b,o',none⟩ u) b k l
 | [],_,_,_=>by simp only [At]
 | v::l,k,hk,hx=>by
  simp only [At] at hx ⊢
  exact ⟨(World.cell?_setCell_other _ _ _ _ (by intro e;simp only [Addr.mk.injEq] at e;omega)).trans hx.1,Zw5 h l (k+1) om hx.2⟩
theorem SpJs.put {ps:List (GH×VA)} {N g j:Nat} {w:World} (h:SpJs ps N g (j+1) w) {o:Nat} (ho:o < (j+1)*4) (u:Value):SpJs ps N g (j+1) (w.setCell ⟨g,o,none⟩ u):=
 ⟨fun i hi hj=>Zw5 (o:=(j+1)*4) ho _ _ om (h.row i hi hj),fun i hi=>by rw [World.frozen?_setCell];exact h.fz i hi,fun q hq=>(h.it q hq).set _ u⟩
theorem Zx8:∀(ps:List (GH×VA)) (i:Nat) (h:i < ps.length),(W0 ps)[i*4]? =some (.string ps[i].1.1)∧(W0 ps)[i*4+1]? =some (.int .u8 ps[i].1.2.k)∧(W0 ps)[i*4+2]? =some (.int .i64 ps[i].1.2.n)∧(W0 ps)[i*4+3]? =some (.slice ps[i].2.a ps[i].1.2.l.length ps[i].2.c)
 | [],i,h=>absurd h sm
 | (x,m)::r,0,_=>⟨rfl,rfl,rfl,rfl⟩
 | (x,m)::r,i+1,h=>by
  have:=Zx8 r i (by simpa using h)
  rw [show (i+1)*4=i*4+4 by omega]
  exact this
theorem Zx1 {p:Prop} (h:p:=by
 go_wp2_with fail
 refine bodyPost_end (v:=.tuple #[]) (by simp [results,Tryz.f15,go_sem]) rfl ?_
 exact ⟨rfl,hb⟩):p:=h
theorem ZwW (a:Option Addr) (c:Nat) (w:World) (N:Nat):Calls prog 15 #[.slice a 0 c] w fun e w'=>e=.returned (.tuple #[])∧Below N w w':=by
 go_enter func15,ntmps15
 go_wp2_with fail
 go_loopg [2] 0 (fun gk i' wr=>gk=0∧i'=.int .i64 0∧Below N w wr)
 case atStart=>exact ⟨rfl,rfl,ZtZ⟩
 case round=>
  obtain ⟨rfl,rfl,hb⟩:=hrel
  exact Zx1
set_option maxRecDepth 100000
theorem Zw3 (ps:List (GH×VA)) (g c N:Nat) (w:World) (hl:ps.length≤1048576) (hg:N≤g) (hv:∀q∈ps,q.1.2.l.length≤1048576) (hs:SpJs ps N g 0 w):
  Calls prog 15 #[.slice (some ⟨g,0,none⟩) ps.length c] w fun e w'=>e=.returned (.tuple #[])∧Below N w w':=by
 have HS:=hid hs
 have HV:=hid hv
 clear hs hv
 go_enter func15,ntmps15
 go_wp2_with fail
 go_loopg [2] (ps.length) (fun gk i' wr=>∃j:Nat,gk+j=ps.length∧i'=.int .i64 j∧Below N w wr∧Hid (SpJs ps N g j wr))
 case atStart=>exact ⟨0,om,rfl,ZtZ,HS⟩
 case round=>
  obtain ⟨j,hj,rfl,hb,HJ⟩:=hrel
  by_cases hlt:j < ps.length
  ·obtain ⟨r0,r1,r2,r3⟩:=Zsd.1 (HJ.out.row j hlt (Nat.le_refl _))
   have hvl:=HV.out ps[j] (List.getElem_mem hlt)
   obtain ⟨n,hn⟩:∃n,ps[j].1.2.l.length=n:=⟨_,rfl⟩
   have HIT:=hid (fun (W:World) (h:SpJs ps N g j W)=>hn ▸ h.it ps[j] (List.getElem_mem hlt))
   have HN:=hid hn
   rw [hn] at r3 hvl
   clear hn
   go_wp2_with fail
   obtain ⟨hgk,hgke⟩:∃x:Nat,x=gk:=⟨gk,rfl⟩
   have HGK:=hid hgke
   have HJ5:=hid (show hgk+j=ps.length by omega)
   clear hgke
   clear r0 r1 r2 r3
   go_loopg [3] n (fun gq k' wq=>∃k:Nat,gq+k=n∧k'=.int .i64 k∧Below N w wq∧Hid (SpJs ps N g j wq))
   case atStart=>exact ⟨0,om,rfl,hb,HJ⟩
   case round=>
    obtain ⟨k,hk,rfl,hbq,HJQ⟩:=hrel
    obtain ⟨r0,r1,r2,r3⟩:=Zsd.1 (HJQ.out.row j hlt (Nat.le_refl _))
    rw [HN.out] at r3
    by_cases hkn:k < n
    ·obtain ⟨b,o,e,hNb,hbg,hx⟩:=HIT.out _ HJQ.out k hkn
     rw [e] at r3
     obtain ⟨f0,u0,c0⟩:=hx 0 om
     obtain ⟨f1,u1,c1⟩:=hx 1 om
     obtain ⟨f2,u2,c2⟩:=hx 2 om
     simp only [Nat.add_zero] at f0 c0
     clear hx r0 r1 r2 e
     go_wp2_with fail
     go_roundg (gk - 1)
     case measure=>omega
     case rel=>exact ⟨k+1,om,by go_num,ZtZ,hid (((HJQ.out.set hbg _).set hbg _).set hbg _)⟩
    have hke:k=n:=om
    subst hke
    have f0:=HJQ.out.fz (j*4) om
    have f1:=HJQ.out.fz (j*4+1) om
    have f2:=HJQ.out.fz (j*4+2) om
    have f3:=HJQ.out.fz (j*4+3) om
    go_wp2_with fail
    go_roundg (hgk - 1)
    case measure=>have:=HGK.out;have:=HJ5.out;omega
    case rel=>exact ⟨j+1,by have:=HJ5.out;omega,by go_num,ZtZ,hid ((((HJQ.out.next.put om _).put om _).put om _).put om _)⟩
  have hjl:j=ps.length:=om
  subst hjl
  exact Zx1
set_option maxRecDepth 512
theorem Zw4 (l:List GH) (a:Option Addr) (c N:Nat) (w:World) (hN:0 < N) (hl:l.length≤1048576) (hv:∀x∈l,x.2.l.length≤1048576) (hx:SpJ w (fun b=>N≤b) l a):
  Calls prog 15 #[.slice a l.length c] w fun e w'=>e=.returned (.tuple #[])∧Below N w w':=by
 obtain ⟨ps,rfl,h|⟨g,rfl,hg,hgs,hc,hr⟩⟩:=hx
 ·subst h
  exact ZwW a c w N
 rw [List.length_map]
 rw [List.length_map] at hl
 have hL:ZkJ (fun b=>N≤b):=⟨N,hN,fun _ h=>h⟩
 refine Zw3 ps g c N w hl hg (fun q hq=>hv q.1 (List.mem_map_of_mem hq)) ⟨fun i hi _=>?_,fun i hi=>?_,fun q hq=>WritV.of hN (hr q hq)⟩
 ·obtain ⟨k0,k1,k2,k3⟩:=Zx8 ps i hi
  exact Zsd.2 ⟨(hc _ _ k0).1,(hc _ _ k1).1,(hc _ _ k2).1,(hc _ _ k3).1⟩
 exact (hc i _ (List.getElem?_eq_getElem (by rw [Wr];exact hi))).2 hL
theorem Zx0 {p:Prop} (h:p:=by
 go_wp2_with (go_at_call 11;(with_reducible refine (ZrU _).mono ?_);rintro e wa ⟨rfl,hba⟩)
 go_ret
 exact ⟨rfl,ZtZ⟩):p:=h
set_option maxRecDepth 100000
set_option maxHeartbeats 8000000
theorem Zxc (t:GT) (n:Int) (w:World) (A:Nat→Prop) (m:TA) (ox:okT t) (hs1:Zb t≤1048576) (hl:RT w A t m) (hE:Zqq t n≠0):
  Calls prog 3 #[TV t m,.int .i64 n] w fun e w'=>e=.returned (.bool true)∧Below w.heap.size w w':=by
 obtain ⟨ma,mb,mc,md,me,mf,mg,mh,mi,mj,mk,ml⟩:=m
 have HL:=hid hl
 have hs:Zb t≤1099511627776:=om
 have hs4:Zb t≤4194304:=om
 have HLONG:Hid (∀W,RT W A t ⟨ma,mb,mc,md,me,mf,mg,mh,mi,mj,mk,ml⟩→Calls prog 10 #[TV t ⟨ma,mb,mc,md,me,mf,mg,mh,mi,mj,mk,ml⟩,.int .i64 n] W (KY W)):=hid (fun W h=>ZrA t n W A _ ox hs4 h)
 have HREF:Hid (∀W,RT W A t ⟨ma,mb,mc,md,me,mf,mg,mh,mi,mj,mk,ml⟩→Calls prog 12 #[TV t ⟨ma,mb,mc,md,me,mf,mg,mh,mi,mj,mk,ml⟩,.int .i64 n] W fun e w'=>e=.returned (.tuple #[.slice none 0 0,.int .i64 (Zqq t n)])∧Below W.heap.size W w'):=hid (fun W h=>Zw9 t n W A _ ox hs1 h hE)
 have HALL:Hid (∀W,RT W A t ⟨ma,mb,mc,md,me,mf,mg,mh,mi,mj,mk,ml⟩→Calls prog 13 #[TV t ⟨ma,mb,mc,md,me,mf,mg,mh,mi,mj,mk,ml⟩,.int .i64 n] W fun e w'=>e=.returned (.tuple #[.slice none 0 0,.int .i64 (Zqq t n)])∧Below W.heap.size W w'):=hid (fun W h=>Zrk t n W A _ ox hs h hE)
 clear hl ox hE
 generalize Zqq t n=E at *
 go_enter func3,ntmps3
 go_wp2_with (first
  | (go_at_call 10;(with_reducible refine (HLONG.out _ (by exact Zt2 ar _ _ HL.out)).mono ?_);rintro e w1 ⟨⟨b1,rfl⟩,hb1⟩;obtain ⟨hc1,hf1⟩:=Za hb1;have hz1:=hb1.size;(try simp at hz1);have y1:w.heap.size < w1.heap.size:=om;cases b1)
  | (go_at_call 11;(with_reducible refine (ZrU _).mono ?_);rintro e wa ⟨rfl,hba⟩)
  | (go_at_call 12;(with_reducible refine (HREF.out _ (by exact Zt2 ar _ _ HL.out)).mono ?_);rintro e w3 ⟨rfl,hb3⟩;obtain ⟨hc3,hf3⟩:=Za hb3;have hz3:=hb3.size;(try simp at hz3);have y3:w.heap.size < w3.heap.size:=om))
 rotate_left
 ·go_ret
  exact ⟨rfl,ZtZ⟩
 have hbw:Below w.heap.size w w3:=ZtZ
 go_loopg [7] 2 (fun gk t7' wr=>∃r:Nat,gk+r=2∧t7'=.int .i64 r∧Below w3.heap.size w3 wr)
 case atStart=>exact ⟨0,rfl,rfl,Below.refl _ _⟩
 case round=>
  obtain ⟨r,hr2,rfl,hbr⟩:=hrel
  obtain ⟨hcr,hfr⟩:=Za hbr
  have hzr:=hbr.size
  have hbwr:Below w.heap.size w wr:=hbw.trans (hbr.mono om)
  have u0:w.heap.size < wr.heap.size:=om
  by_cases hlt:r < 2
  ·go_wp2_with (first
    | (go_at_call 13;(with_reducible refine (HALL.out _ (by exact Zt2 ar _ _ HL.out)).mono ?_);rintro e w4 ⟨rfl,hb4⟩;have hz4:=hb4.size)
    | (go_at_call 14;(refine (ZsG [] (fun _=>True) (fun _=>True) _ none none 0 0 sm (fun x hx=>absurd hx sm) (by simp [RJs]) (by simp [RJs])).mono ?_);rintro e w6 ⟨rfl,hb6⟩;have hz6:=hb6.size)
    | (go_at_call 15;(refine (ZwW none 0 _ w3.heap.size).mono ?_);rintro e w7 ⟨rfl,hb7⟩)
    | fail "no arm")
   go_roundg (gk - 1)
   case measure=>omega
   case rel=>exact ⟨r+1,om,by go_num,ZtZ⟩
  exact Zx0
theorem Zxf (t:GT) (n:Nat) (w:World) (A:Nat→Prop) (m:TA) (ox:okT t) (hs1:Zb t≤1048576) (hl:RT w A t m) (hn:n≤12) (hE:(Z3 t).2=0):
  Calls prog 3 #[TV t m,.int .i64 n] w fun e w'=>e=.returned (.bool true)∧Below w.heap.size w w':=by
 obtain ⟨ma,mb,mc,md,me,mf,mg,mh,mi,mj,mk,ml⟩:=m
 have HL:=hid hl
 have hs:Zb t≤1099511627776:=om
 have hs4:Zb t≤4194304:=om
 have HLONG:Hid (∀W,RT W A t ⟨ma,mb,mc,md,me,mf,mg,mh,mi,mj,mk,ml⟩→Calls prog 10 #[TV t ⟨ma,mb,mc,md,me,mf,mg,mh,mi,mj,mk,ml⟩,.int .i64 n] W (KY W)):=hid (fun W h=>ZrA t n W A _ ox hs4 h)
 have hln:(Zpv t n).length≤4096:=by
  rw [(ZtL hE ox (n:=n) om).length_eq]
  exact Nat.le_trans (ZqO n ⟨#[]⟩) (ZpP hn)
 have HIN:=hid (fun x (hx:x∈Zpv t n)=>(Zqk hE ox (n:=n) om x hx).2.2.2)
 have HIN2:=hid (fun x (hx:x∈Zpv t n)=>((ZA.1 (HIN.out x hx)).2.2.1:x.2.l.length≤1048576))
 have HREF:Hid (∀W,RT W A t ⟨ma,mb,mc,md,me,mf,mg,mh,mi,mj,mk,ml⟩→Calls prog 12 #[TV t ⟨ma,mb,mc,md,me,mf,mg,mh,mi,mj,mk,ml⟩,.int .i64 n] W fun e w'=>Below W.heap.size W w'∧∃a c,e=.returned (.tuple #[.slice a (Zpv t n).length c,.int .i64 0])∧RJs w' (fun b=>W.heap.size≤b) (Zpv t n) a):=hid (fun W h=>Zxe t n W A _ ox hs1 h hn hE)
 have HALL:Hid (∀W,RT W A t ⟨ma,mb,mc,md,me,mf,mg,mh,mi,mj,mk,ml⟩→Calls prog 13 #[TV t ⟨ma,mb,mc,md,me,mf,mg,mh,mi,mj,mk,ml⟩,.int .i64 n] W (Ztn t n W)):=hid (fun W h=>ZrI t n W A _ ox hs h hn hE)
 unfold Ztn at HALL
 clear hl ox hE
 generalize Zpv t n=L at *
 go_enter func3,ntmps3
 go_wp2_with (first
  | (go_at_call 10;(with_reducible refine (HLONG.out _ (by exact Zt2 ar _ _ HL.out)).mono ?_);rintro e w1 ⟨⟨b1,rfl⟩,hb1⟩;obtain ⟨hc1,hf1⟩:=Za hb1;have hz1:=hb1.size;(try simp at hz1);have y1:w.heap.size < w1.heap.size:=om;cases b1)
  | (go_at_call 11;(with_reducible refine (ZrU _).mono ?_);rintro e wa ⟨rfl,hba⟩)
  | (go_at_call 12;(with_reducible refine (HREF.out _ (by exact Zt2 ar _ _ HL.out)).mono ?_);rintro e w3 ⟨hb3,a3,c3,rfl,hr3⟩;have HR3:=hid hr3;clear hr3;obtain ⟨hc3,hf3⟩:=Za hb3;have hz3:=hb3.size;(try simp at hz3);have y3:w.heap.size < w3.heap.size:=om))
 rotate_left
 ·go_ret
  exact ⟨rfl,ZtZ⟩
 have hbw:Below w.heap.size w w3:=ZtZ
 go_loopg [7] 2 (fun gk t7' wr=>∃r:Nat,gk+r=2∧t7'=.int .i64 r∧Below w3.heap.size w3 wr)
 case atStart=>exact ⟨0,rfl,rfl,Below.refl _ _⟩
 case round=>
  obtain ⟨r,hr2,rfl,hbr⟩:=hrel
  obtain ⟨hcr,hfr⟩:=Za hbr
  have hzr:=hbr.size
  have hbwr:Below w.heap.size w wr:=hbw.trans (hbr.mono om)
  have u0:w.heap.size < wr.heap.size:=om
  have HRR:=hid (RJs.ext (ZtY hbr) _ _ HR3.out)
  by_cases hlt:r < 2
  ·go_wp2_with (first
    | (go_at_call 13;(with_reducible refine (HALL.out _ (by exact Zt2 ar _ _ HL.out)).mono ?_);rintro e w4 ⟨hb4,a4,c4,rfl,hr4⟩;have HR4:=hid hr4;clear hr4;have hz4:=hb4.size)
    | (go_at_call 14;(refine (ZsG L (fun b=>wr.heap.size≤b) _ _ a4 a3 c4 c3 om HIN.out (by exact RJs.ext (ZtY (show Below w4.heap.size w4 _ from ZtZ)) _ _ HR4.out.1) (by exact RJs.ext (ZtY (show Below wr.heap.size wr _ from ZtZ)) _ _ HRR.out)).mono ?_);rintro e w6 ⟨rfl,hb6⟩;have hz6:=hb6.size)
    | (go_at_call 15;(refine (Zw4 L a4 _ wr.heap.size _ om om HIN2.out (by exact (RJx.ext (ZtY (show Below w4.heap.size w4 _ from ZtZ)) _ _ HR4.out).2)).mono ?_);rintro e w7 ⟨rfl,hb7⟩)
    | fail "no arm")
   go_roundg (gk - 1)
   case measure=>omega
   case rel=>exact ⟨r+1,om,by go_num,ZtZ⟩
  exact Zx0
set_option maxRecDepth 512
theorem Zxb (w:World) (t:GT) (A:Nat→Prop) (m:TA) (ox:okT t) (hs:Zb t≤1048576) (hl:RT w A t m) (n:Int):
  Calls prog 3 #[TV t m,.int .i64 n] w fun e w'=>e=.returned (.bool true)∧Below w.heap.size w w':=by
 by_cases hE:Zqq t n=0
 ·have h:(0≤n∧n≤12)∧(Z3 t).2=0:=by
   unfold Zqq at hE
   split at hE
   ·omega
   exact ⟨om,hE⟩
  obtain ⟨N,rfl⟩:∃N:Nat,n=N:=⟨n.toNat,om⟩
  exact Zxf t N w A m ox hs hl om h.2
 exact Zxc t n w A m ox hs hl hE
end Go.Proofs.YtkdffbdnjfgpeaaGreat
