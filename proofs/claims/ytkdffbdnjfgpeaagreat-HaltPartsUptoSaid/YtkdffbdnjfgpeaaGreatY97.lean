/- Part 98. -/
import Derived.Test.YtkdffbdnjfgpeaaGreatY91
set_option linter.all false
namespace Go.Proofs.YtkdffbdnjfgpeaaGreat
open Go.Lib (hid)
open Go Go.RowKit Go.Proofs.Tryz
def Zyg (t:GT) (φ:Res GV→Nat→Nat) (L:List ByteArray):Nat:=(L.map fun x=>φ (Vm x t) x.size).sum
theorem Zyd {t:GT} {φ:Res GV→Nat→Nat} {L:List ByteArray} {i:Nat} (h:i < L.length):Zyg t φ (L.take (i+1))=Zyg t φ (L.take i)+φ (Vm L[i] t) L[i].size:=by
 unfold Zyg
 rw [List.take_succ_eq_append_getElem h,List.map_append,List.sum_append]
 simp
theorem Zye {t:GT} (hT:(Z3 t).2=0) (ox:okT t) (φ:Res GV→Nat→Nat) {n:Nat} (hn:n≤12):Zyg t φ (Zqm n ⟨#[]⟩)=W9 t φ n ⟨#[]⟩:=
 (ZxL hT ox φ n ⟨#[]⟩ ZpA (by show 0+n≤1024;omega)).symm
theorem Zyk (t:GT) (s:ByteArray) (A:Nat→Prop) (m:TA) (ht:(Z3 t).2=0) (ox:okT t) (hs:Zb t≤1048576) (hb:Zc s=true) (hss:s.size≤12):
  ∃(KD:Int) (X:GV) (U:Nat),(∀W,RT W A t m→Calls prog 48 #[TV t m,.string s] W fun e w'=>Below W.heap.size W w'∧∃mv:VA,e=.returned (.tuple #[.agg #[.int .u8 KD,.int .u8 X.k,.int .i64 X.n,.slice mv.a X.l.length mv.c,.int .i64 U],.int .i64 0])∧RV w' (fun b=>W.heap.size≤b) X mv.a) ∧
   ((KD==1)=true∧Vm s t=.ok X U∧okV X∧U≤12∨(KD==1)=false∧(KD==2)=true∧Vm s t=.no 2∨(KD==1)=false∧(KD==2)=false∧Vm s t=.no 3):=by
 have hE:=Zdz ht hb
 have hin:=Zp7 ht ox hb
 rcases hr:Vm s t with ⟨x,u⟩|⟨e⟩
 ·rw [hr] at hin
  obtain ⟨_,h2,h3⟩:=hin
  exact ⟨1,x,u,fun W h=>ZcJ t s W A m ox hs h om hE x u hr,.inl ⟨rfl,rfl,h3,om⟩⟩
 rw [hr] at hin
 refine ⟨e,Y8,0,fun W h=>(Zhe t s W A m ox hs h om hE e hr).mono fun _ _ ⟨h1,h2⟩=>⟨h1,⟨none,0⟩,h2,by simp [RV,Y8,RVs]⟩,.inr ?_⟩
 rcases hin with rfl|rfl
 ·exact .inl ⟨rfl,rfl,rfl⟩
 exact .inr ⟨rfl,rfl,rfl⟩
set_option maxRecDepth 100000
set_option maxHeartbeats 4000000
theorem Zyf (t:GT) (n:Nat) (x:GV) (mx:VA) (w:World) (A A2:Nat→Prop) (m:TA) (ox:okT t) (hs:Zb t≤1048576) (hl:RT w A t m) (hx:okV x) (hv:RV w A2 x mx.a) (hn:n≤12) (ht:(Z3 t).2=0):
  Calls prog 23 #[TV t m,.int .i64 n,VV x mx] w fun e w'=>e=.returned (.agg #[.int .i64 (W9 t (Zqz fun y=>XX y x) n ⟨#[]⟩:Nat),.int .i64 (W9 t ZpX n ⟨#[]⟩:Nat),.int .i64 (W9 t Zp3 n ⟨#[]⟩:Nat),.int .i64 (W9 t Zp2 n ⟨#[]⟩:Nat)])∧Below w.heap.size w w':=by
 obtain ⟨ma,mb,mc,md,me,mf,mg,mh,mi,mj,mk,ml⟩:=m
 obtain ⟨xa,xc⟩:=mx
 have HL:=hid hl
 have HV:=hid hv
 have HX:=hid hx
 have HSAID:=hid (fun A s hb hz=>Zyk t s A ⟨ma,mb,mc,md,me,mf,mg,mh,mi,mj,mk,ml⟩ ht ox hs hb hz)
 rw [←Zye ht ox _ hn,←Zye ht ox _ hn,←Zye ht ox _ hn,←Zye ht ox _ hn]
 have hlen:=ZwS n ⟨#[]⟩
 have hp:=ZpP hn
 have hpos:0 < 2 ^ n:=Nat.pos_of_ne_zero sm
 have HSZ:=hid (fun x (h:x∈Zqm n ⟨#[]⟩)=>(by have:=ZpC h;have h0:(⟨#[]⟩:ByteArray).size=0:=rfl;exact ⟨Zp8 ZpA om h,om⟩:Zc x=true∧x.size=n))
 have HALL:=hid (fun W=>Zw8 n hn W)
 generalize Zqm n ⟨#[]⟩=L at *
 have hL9:L.length≤4096:=om
 have hL0:0 < L.length:=om
 clear hl ox ht hv hx hlen hp hpos
 go_enter func23,ntmps23
 go_wp2_with (go_at_call 47;(with_reducible refine (HALL.out _).mono ?_);rintro e wl ⟨hbl,vl,rfl,hol⟩;have HOL:=hid hol;clear hol;have hzl:=hbl.size;(try simp at hzl))
 have hbwl:Below w.heap.size w wl:=ZtZ
 have HBT:Hid (At wl w.heap.size 0 [.int .u8 t.k,.int .u8 t.v.k,.int .i64 t.v.n,.slice ma t.v.l.length mb,.slice mc t.vs.length md,.int .i64 t.lo,.int .i64 t.hi,.slice me t.w.length mf,.int .u8 t.p.k,.int .u8 t.p.v.k,.int .i64 t.p.v.n,.slice mg t.p.v.l.length mh,.int .i64 t.p.n,.slice mi t.p.a.length mj,.slice mk t.a.length ml]):=hid (ZO.2 ⟨(hbl.cell so).trans gs,(hbl.cell so).trans gs,(hbl.cell so).trans gs,(hbl.cell so).trans gs,(hbl.cell so).trans gs,(hbl.cell so).trans gs,(hbl.cell so).trans gs,(hbl.cell so).trans gs,(hbl.cell so).trans gs,(hbl.cell so).trans gs,(hbl.cell so).trans gs,(hbl.cell so).trans gs,(hbl.cell so).trans gs,(hbl.cell so).trans gs,(hbl.cell so).trans gs⟩)
 have xk0:wl.cell? ⟨w.heap.size+1,0,none⟩=some (.int .u8 x.k):=(hbl.cell so).trans gs
 have xk1:wl.cell? ⟨w.heap.size+1,1,none⟩=some (.int .i64 x.n):=(hbl.cell so).trans gs
 have xk2:wl.cell? ⟨w.heap.size+1,2,none⟩=some (.slice xa x.l.length xc):=(hbl.cell so).trans gs
 have o0:wl.cell? ⟨w.heap.size+1+1,0,none⟩=some (.int .i64 0):=(hbl.cell so).trans gs
 have o1:wl.cell? ⟨w.heap.size+1+1,1,none⟩=some (.int .i64 0):=(hbl.cell so).trans gs
 have o2:wl.cell? ⟨w.heap.size+1+1,2,none⟩=some (.int .i64 0):=(hbl.cell so).trans gs
 have o3:wl.cell? ⟨w.heap.size+1+1,3,none⟩=some (.int .i64 0):=(hbl.cell so).trans gs
 have of:∀k,wl.frozen? ⟨w.heap.size+1+1,k,none⟩=false:=fun k=>(hbl.frozen so).trans gs
 have q0:wl.cell? ⟨w.heap.size+1+1+1,0,none⟩=some (.int .i64 0):=(hbl.cell so).trans gs
 have q1:wl.cell? ⟨w.heap.size+1+1+1,1,none⟩=some (.int .i64 0):=(hbl.cell so).trans gs
 have q2:wl.cell? ⟨w.heap.size+1+1+1,2,none⟩=some (.int .i64 0):=(hbl.cell so).trans gs
 have q3:wl.cell? ⟨w.heap.size+1+1+1,3,none⟩=some (.int .i64 0):=(hbl.cell so).trans gs
 have qf:∀k,wl.frozen? ⟨w.heap.size+1+1+1,k,none⟩=false:=fun k=>(hbl.frozen so).trans gs
 obtain ⟨gsb,cs,rfl,hg0,hg1⟩:=HOL.out.form hL0
 (try simp at hg0)
 have HSR:Hid (SR wl gsb L):=hid (fun j hj=>by rw [HOL.out.cellAt j om,List.getElem?_map,List.getElem?_eq_getElem hj];rfl)
 have HTl:=hid (Zud (A':=fun b=>b < w.heap.size) (fun b hb _=>hb) _ _ (Zt2 (ZtY hbwl) _ _ (Zud (A':=fun b=>b < w.heap.size) (fun b _ h=>h) _ _ HL.out)))
 have HVl:=hid (Zt5 (ZtY hbwl) _ _ (Zt9 (A':=fun b=>b < w.heap.size) (fun b _ h=>h) _ _ HV.out))
 have hh:w.heap.size < w.heap.size+1∧w.heap.size+1 < w.heap.size+1+1∧w.heap.size+1+1 < w.heap.size+1+1+1∧w.heap.size+1+1+1 < gsb:=om
 clear hbl HOL HL HV HALL
 generalize w.heap.size+1+1+1=C at *
 generalize w.heap.size+1+1=B2 at *
 generalize w.heap.size+1=B1 at *
 obtain ⟨hh1,hh2,hh3,hh4⟩:=hh
 have hCl:C < wl.heap.size:=om
 clear hg0 hzl
 go_loopg [9] L.length (fun gk t9' wr=>∃i d1 d2 d3 d4:Nat,gk+i=L.length∧t9'=.int .i64 i∧But C wl.heap.size wl wr∧d1≤i∧d2≤i∧d3≤i∧d4≤12*i∧wr.cell? ⟨C,0,none⟩=some (.int .i64 d1)∧wr.cell? ⟨C,1,none⟩=some (.int .i64 d2)∧wr.cell? ⟨C,2,none⟩=some (.int .i64 d3)∧wr.cell? ⟨C,3,none⟩=some (.int .i64 d4)∧(∀k,wr.frozen? ⟨C,k,none⟩=false) ∧
  Hid (Zyg t (Zqz fun y=>XX y x) (L.take i)=d1)∧Hid (Zyg t ZpX (L.take i)=d2)∧Hid (Zyg t Zp3 (L.take i)=d3)∧Hid (Zyg t Zp2 (L.take i)=d4))
 case atStart=>exact ⟨0,0,0,0,0,om,rfl,But.refl _ _ _,om,om,om,om,q0,q1,q2,q3,qf,hid rfl,hid rfl,hid rfl,hid rfl⟩
 case round=>
  clear q0 q1 q2 q3 qf
  obtain ⟨i,d1,d2,d3,d4,hi,rfl,hbr,hd1,hd2,hd3,hd4,q0,q1,q2,q3,qf,HD1,HD2,HD3,HD4⟩:=hrel
  have hzr:=hbr.size
  have hag:Agree (fun b=>b < wl.heap.size∧b≠C) wl wr:=fun p u hp hc=>hbr.ag hp.1 hp.2 hc
  by_cases hil:i < L.length
  ·have HN1:=hid (Zyd (t:=t) (φ:=Zqz fun y=>XX y x) hil)
   have HN2:=hid (Zyd (t:=t) (φ:=ZpX) hil)
   have HN3:=hid (Zyd (t:=t) (φ:=Zp3) hil)
   have HN4:=hid (Zyd (t:=t) (φ:=Zp2) hil)
   have c0s:wr.cell? ⟨gsb,i,none⟩=some (.string L[i]):=(hag ⟨gsb,i,none⟩ _ ⟨hg1,by show gsb≠C;omega⟩ (HSR.out i hil)).1
   have hsz:=(HSZ.out _ (List.getElem_mem hil)).2
   obtain ⟨KD,X,U,hrun,hcond⟩:=HSAID.out (fun b=>b < wl.heap.size∧b≠C) L[i] (HSZ.out _ (List.getElem_mem hil)).1 om
   generalize L[i]=s at *
   have HRUN:=hid hrun
   have HCOND:=hid hcond
   have hiI:(i:Int) < (L.length:Int):=om
   have hi0':(0:Int)≤(i:Int):=om
   have HLq:=hid (Zt2 hag _ _ (Zud (fun b hb _=>(⟨om,om⟩:b < wl.heap.size∧b≠C)) _ _ HTl.out))
   have HVq:=hid (Zt5 hag _ _ (Zt9 (fun b hb _=>(⟨om,om⟩:b < wl.heap.size∧b≠C)) _ _ HVl.out))
   obtain ⟨c0,c1,c2,c3,c4,c5,c6,c7,c8,c9,ca,cb,cc,cd,ce⟩:=ZO.1 (Zuf hag (show w.heap.size < wl.heap.size∧w.heap.size≠C from ⟨om,om⟩) _ _ HBT.out)
   have xk0:=(hag ⟨B1,0,none⟩ _ ⟨by show B1 < _;omega,by show B1≠C;omega⟩ xk0).1
   have xk1:=(hag ⟨B1,1,none⟩ _ ⟨by show B1 < _;omega,by show B1≠C;omega⟩ xk1).1
   have xk2:=(hag ⟨B1,2,none⟩ _ ⟨by show B1 < _;omega,by show B1≠C;omega⟩ xk2).1
   have u0:w.heap.size < wr.heap.size:=om
   have hCr:C < wr.heap.size:=om
   have hgr:gsb < wr.heap.size:=om
   have hBr:B1 < wr.heap.size:=om
   clear hrun hcond o0 o1 o2 o3 of
   go_wp2_with fail
   go_cut [10,11] from 20 to 28 (fun v11 v12 wx=>∃(o:Nat) (mv:VA),v11=.pointer (some ⟨o,0,none⟩)∧v12=.int .i64 0∧o < wx.heap.size∧wr.heap.size≤o∧Below wr.heap.size wr wx∧Hid (At wx o 0 [.int .u8 KD,.int .u8 X.k,.int .i64 X.n,.slice mv.a X.l.length mv.c,.int .i64 U])∧Hid (RV wx (fun b=>wr.heap.size≤b) X mv.a))
   case first=>
    clear q0 q1 q2 q3 qf xk0 xk1 xk2
    go_region_held3 (fun W=>∀c k,c < wr.heap.size→W.cell? ⟨c,k,none⟩=wr.cell? ⟨c,k,none⟩) ((intro c k hc;refine Below.cell (B:=wr.heap.size) (w:=wr) (p:=⟨c,k,none⟩) ?_ hc;(exact ZtZ))) ((go_at_call 48;(with_reducible refine (HRUN.out _ (by exact Zt2 ar _ _ HLq.out)).mono ?_);rintro e w2 ⟨hb2,mv,rfl,hrv⟩;have HRV:=hid (Zt9 (A':=fun b=>_≤b∧b < w2.heap.size) (fun b h hb=>⟨h,hb⟩) _ _ hrv);clear hrv;have hz2:=hb2.size;(try simp at hz2);have v1:w.heap.size < w2.heap.size:=om;(try (have y5':wr.heap.size < w2.heap.size:=om;have q0:w2.cell? ⟨wr.heap.size,0,none⟩=some (.int .u8 0):=(hb2.cell sm).trans gs;have q1:w2.cell? ⟨wr.heap.size,1,none⟩=some (.int .u8 0):=(hb2.cell sm).trans gs;have q2:w2.cell? ⟨wr.heap.size,2,none⟩=some (.int .i64 0):=(hb2.cell sm).trans gs;have q3:w2.cell? ⟨wr.heap.size,3,none⟩=some (.slice none 0 0):=(hb2.cell sm).trans gs;have q4:w2.cell? ⟨wr.heap.size,4,none⟩=some (.int .i64 0):=(hb2.cell sm).trans gs;have qf:∀k,w2.frozen? ⟨wr.heap.size,k,none⟩=false:=fun k=>(hb2.frozen sm).trans gs))))
    all_goals go_wp2_with fail
    all_goals go_meet
    all_goals refine ⟨_,mv,rfl,rfl,by first|omega|(simp;done)|(simp;omega),by first|omega|(simp;done)|(simp;omega),ZtZ,hid (Zxs.2 ⟨gs,gs,gs,gs,gs⟩),hid ?_⟩
    all_goals first|refine Zx9 HRV.out ?_ _|refine Zya HRV.out ?_ _ _ _ _ _
    all_goals first|omega|(simp;done)|(simp;omega)
   case rest=>
    obtain ⟨o,mv,rfl,rfl,ho1,ho2,hbx,HAO,HRX⟩:=hcut
    have hzx:=hbx.size
    obtain ⟨m0,m1,m2,m3,m4⟩:=Zxs.1 HAO.out
    have q0:=(hbx.cell (p:=⟨C,0,none⟩) hCr).trans q0
    have q1:=(hbx.cell (p:=⟨C,1,none⟩) hCr).trans q1
    have q2:=(hbx.cell (p:=⟨C,2,none⟩) hCr).trans q2
    have q3:=(hbx.cell (p:=⟨C,3,none⟩) hCr).trans q3
    have qf:∀k,wc.frozen? ⟨C,k,none⟩=false:=fun k=>(hbx.frozen (p:=⟨C,k,none⟩) hCr).trans (qf k)
    have xk0:=(hbx.cell (p:=⟨B1,0,none⟩) hBr).trans xk0
    have xk1:=(hbx.cell (p:=⟨B1,1,none⟩) hBr).trans xk1
    have xk2:=(hbx.cell (p:=⟨B1,2,none⟩) hBr).trans xk2
    have HVx:=hid (Zl.1 (Zt5 (ZtY hbx) _ _ HVq.out))
    have HRXs:=hid (Zl.1 HRX.out)
    have hbc:But C wl.heap.size wl wc:=hbr.trans (Zue (hbx.mono hzr))
    have ne1:¬o=C:=om
    have ne2:¬B1=C:=om
    have hCc:C < wc.heap.size:=om
    clear c0 c1 c2 c3 c4 c5 c6 c7 c8 c9 ca cb cc cd ce HLq HRUN u0 hag hbx hbr HVq HRX HAO c0s
    rcases HCOND.out with ⟨g1,hr,hox,hU⟩|⟨g1,g2,hr⟩|⟨g1,g2,hr⟩
    ·have HOKX:=hid hox
     have HR:=hid hr
     have hw4:IntKind.i64.wrap ((d4:Int)+(U:Int))=(d4:Int)+(U:Int):=IntWalk.i64_in _ om
     have hw1:IntKind.i64.wrap ((d1:Int)+1)=(d1:Int)+1:=IntWalk.i64_in _ om
     have E2:=hid (show ZpX (Vm s t) s.size=0 by rw [hr];rfl)
     have E3:=hid (show Zp3 (Vm s t) s.size=0 by rw [hr];rfl)
     have E4:=hid (show Zp2 (Vm s t) s.size=U by rw [hr];rfl)
     have E1:=hid (show Zqz (fun y=>XX y x) (Vm s t) s.size=if XX X x=true then 1 else 0 by rw [hr];rfl)
     have nA:¬(fun b=>wr.heap.size≤b) C:=by show ¬wr.heap.size≤C;omega
     have nK:¬(fun b=>b < wl.heap.size∧b≠C) C:=fun k=>k.2 rfl
     clear hr hox
     cases hS:XX X x
     ·have HS:=hid hS
      clear hS
      go_wp2_with (go_at_call 52;refine (QA (Zg X) X x _ (fun b=>wr.heap.size≤b) (fun b=>b < wl.heap.size∧b≠C) mv ⟨xa,xc⟩ (Nat.le_refl _) HOKX.out HX.out (by exact Zt8 (Zt4 (p:=⟨C,3,none⟩) nA) _ _ HRXs.out) (by exact Zt8 (Zt4 (p:=⟨C,3,none⟩) nK) _ _ HVx.out)).mono ?_;rw [HS.out];rintro e w3 ⟨rfl,hb3⟩;obtain ⟨hc3,hf3⟩:=Za hb3;have hz3:=hb3.size;(try simp at hz3);have z3:C < w3.heap.size:=om)
      go_roundg (gk - 1)
      case measure=>omega
      case rel=>exact ⟨i+1,d1,d2,d3,d4+U,om,by go_num,ZxG,om,om,om,om,gs,gs,gs,by push_cast;go_simp,fun k=>gs,hid (by rw [HN1.out,HD1.out,E1.out,HS.out];rfl),hid (by rw [HN2.out,HD2.out,E2.out,Nat.add_zero]),hid (by rw [HN3.out,HD3.out,E3.out,Nat.add_zero]),hid (by rw [HN4.out,HD4.out,E4.out])⟩
     have HS:=hid hS
     clear hS
     go_wp2_with (go_at_call 52;refine (QA (Zg X) X x _ (fun b=>wr.heap.size≤b) (fun b=>b < wl.heap.size∧b≠C) mv ⟨xa,xc⟩ (Nat.le_refl _) HOKX.out HX.out (by exact Zt8 (Zt4 (p:=⟨C,3,none⟩) nA) _ _ HRXs.out) (by exact Zt8 (Zt4 (p:=⟨C,3,none⟩) nK) _ _ HVx.out)).mono ?_;rw [HS.out];rintro e w3 ⟨rfl,hb3⟩;obtain ⟨hc3,hf3⟩:=Za hb3;have hz3:=hb3.size;(try simp at hz3);have z3:C < w3.heap.size:=om)
     go_roundg (gk - 1)
     case measure=>omega
     case rel=>exact ⟨i+1,d1+1,d2,d3,d4+U,om,by go_num,ZxG,om,om,om,om,by push_cast;go_simp,gs,gs,by push_cast;go_simp,fun k=>gs,hid (by rw [HN1.out,HD1.out,E1.out,HS.out];rfl),hid (by rw [HN2.out,HD2.out,E2.out,Nat.add_zero]),hid (by rw [HN3.out,HD3.out,E3.out,Nat.add_zero]),hid (by rw [HN4.out,HD4.out,E4.out])⟩
    ·have hw4:IntKind.i64.wrap ((d4:Int)+(n:Int))=(d4:Int)+(n:Int):=IntWalk.i64_in _ om
     have hw2:IntKind.i64.wrap ((d2:Int)+1)=(d2:Int)+1:=IntWalk.i64_in _ om
     have E1:=hid (show Zqz (fun y=>XX y x) (Vm s t) s.size=0 by rw [hr];rfl)
     have E2:=hid (show ZpX (Vm s t) s.size=1 by rw [hr];rfl)
     have E3:=hid (show Zp3 (Vm s t) s.size=0 by rw [hr];rfl)
     have E4:=hid (show Zp2 (Vm s t) s.size=n by rw [hr,hsz];rfl)
     clear hr
     go_wp2_with fail
     go_roundg (gk - 1)
     case measure=>omega
     case rel=>exact ⟨i+1,d1,d2+1,d3,d4+n,om,by go_num,ZxG,om,om,om,om,gs,by push_cast;go_simp,gs,by push_cast;go_simp,fun k=>gs,hid (by rw [HN1.out,HD1.out,E1.out,Nat.add_zero]),hid (by rw [HN2.out,HD2.out,E2.out]),hid (by rw [HN3.out,HD3.out,E3.out,Nat.add_zero]),hid (by rw [HN4.out,HD4.out,E4.out])⟩
    have hw3:IntKind.i64.wrap ((d3:Int)+1)=(d3:Int)+1:=IntWalk.i64_in _ om
    have E1:=hid (show Zqz (fun y=>XX y x) (Vm s t) s.size=0 by rw [hr];rfl)
    have E2:=hid (show ZpX (Vm s t) s.size=0 by rw [hr];rfl)
    have E3:=hid (show Zp3 (Vm s t) s.size=1 by rw [hr];rfl)
    have E4:=hid (show Zp2 (Vm s t) s.size=0 by rw [hr];rfl)
    clear hr
    go_wp2_with fail
    go_roundg (gk - 1)
    case measure=>omega
    case rel=>exact ⟨i+1,d1,d2,d3+1,d4,om,by go_num,ZxG,om,om,om,om,gs,gs,by push_cast;go_simp,gs,fun k=>gs,hid (by rw [HN1.out,HD1.out,E1.out,Nat.add_zero]),hid (by rw [HN2.out,HD2.out,E2.out,Nat.add_zero]),hid (by rw [HN3.out,HD3.out,E3.out]),hid (by rw [HN4.out,HD4.out,E4.out,Nat.add_zero])⟩
  obtain rfl:i=L.length:=om
  have hD1:=HD1.out
  have hD2:=HD2.out
  have hD3:=HD3.out
  have hD4:=HD4.out
  rw [List.take_length] at hD1 hD2 hD3 hD4
  have HD1:=hid hD1
  have HD2:=hid hD2
  have HD3:=hid hD3
  have HD4:=hid hD4
  have o0:=(hag ⟨B2,0,none⟩ _ ⟨by show B2 < _;omega,by show B2≠C;omega⟩ o0).1
  have o1:=(hag ⟨B2,1,none⟩ _ ⟨by show B2 < _;omega,by show B2≠C;omega⟩ o1).1
  have o2:=(hag ⟨B2,2,none⟩ _ ⟨by show B2 < _;omega,by show B2≠C;omega⟩ o2).1
  have o3:=(hag ⟨B2,3,none⟩ _ ⟨by show B2 < _;omega,by show B2≠C;omega⟩ o3).1
  have of:∀k,wr.frozen? ⟨B2,k,none⟩=false:=fun k=>(hbr.frozen (p:=⟨B2,k,none⟩) (by show B2 < _;omega) (by show B2≠C;omega)).trans (of k)
  have hBw:Below w.heap.size w wr:=hbwl.trans ((hbr.mono hbwl.size).below om)
  have ne3:¬B2=C:=om
  clear hD1 hD2 hD3 hD4 hag hbr
  go_wp2_with fail
  refine bodyPost_ret (v:=.agg #[.int .i64 d1,.int .i64 d2,.int .i64 d3,.int .i64 d4]) (by first|(simp [results,Tryz.f23,go_sem];done)|(simp [results,Tryz.f23,go_sem, *];done)) rfl ?_
  exact ⟨by rw [HD1.out,HD2.out,HD3.out,HD4.out],ZtZ⟩
end Go.Proofs.YtkdffbdnjfgpeaaGreat
