/- Part 91. -/
import Derived.Deep.CutRange
import Derived.Deep.RegionLaw
import Derived.Test.YtkdffbdnjfgpeaaGreatY76
set_option linter.all false
namespace Go.Proofs.YtkdffbdnjfgpeaaGreat
open Go.Lib (hid)
open Go Go.RowKit Go.Proofs.Tryz
structure TT (w:World) (bt:Nat) (S:Int) (vc vo:Value):Prop where
 z:bt < w.heap.size
 t0:w.cell? ⟨bt,0,none⟩=some (.int .i64 S)
 t1:w.cell? ⟨bt,1,none⟩=some vc
 t2:w.cell? ⟨bt,2,none⟩=some vo
 tf:∀k,w.frozen? ⟨bt,k,none⟩=false
theorem TT.below {w w':World} {bt B:Nat} {S:Int} {vc vo:Value} (h:TT w bt S vc vo) (hb:Below B w w') (hB:bt < B):TT w' bt S vc vo:=
 ⟨by have:=hb.size;have:=h.z;omega,(hb.cell (p:=⟨bt,0,none⟩) hB).trans h.t0,(hb.cell (p:=⟨bt,1,none⟩) hB).trans h.t1,(hb.cell (p:=⟨bt,2,none⟩) hB).trans h.t2,fun k=>(hb.frozen (p:=⟨bt,k,none⟩) hB).trans (h.tf k)⟩
theorem TT.setC {w:World} {bt:Nat} {S:Int} {vc vo:Value} (h:TT w bt S vc vo) (u:Value):TT (w.setCell ⟨bt,1,none⟩ u) bt S u vo:=
 ⟨by simpa using h.z,(World.cell?_setCell_other _ _ _ _ sm).trans h.t0,World.cell?_setCell_same _ _ _ h.t1,(World.cell?_setCell_other _ _ _ _ sm).trans h.t2,fun k=>by rw [World.frozen?_setCell];exact h.tf k⟩
theorem TT.setO {w:World} {bt:Nat} {S:Int} {vc vo:Value} (h:TT w bt S vc vo) (u:Value):TT (w.setCell ⟨bt,2,none⟩ u) bt S vc u:=
 ⟨by simpa using h.z,(World.cell?_setCell_other _ _ _ _ sm).trans h.t0,(World.cell?_setCell_other _ _ _ _ sm).trans h.t1,World.cell?_setCell_same _ _ _ h.t2,fun k=>by rw [World.frozen?_setCell];exact h.tf k⟩
theorem TT.far {w:World} {bt:Nat} {S:Int} {vc vo:Value} (h:TT w bt S vc vo) (p:Addr) (u:Value) (hp:bt < p.block):TT (w.setCell p u) bt S vc vo:=
 h.below (B:=p.block) (Below.setCell (Below.refl _ _) (Nat.le_refl _) _) hp
structure A11 (w wr:World) (eI eJ:TypeId) (bt:Nat) (S:Int) (i:Nat) (vc vo vh vl vi:Value) (T:AT):Prop where
 below:Below w.heap.size w wr
 b0:w.heap.size≤bt
 t:TT wr bt S vc vo
 ok:T.Ok i
 ht:HtOk S 67108864 T.h T.lo T.hi
 r:R5 wr (bt+1) eI eJ vc vo vh vl vi T
theorem Ws {W:World} {n:Nat} (hn:W.heap.size=n) (a:Value) (t:TypeId):∀j u,[a][j]? =some u→(W.alloc (.cells #[a] t)).cell? ((⟨n,0,none⟩:Addr).add j)=some u:=by
 subst hn
 exact fun j u hu=>World.news_of_block (heap_alloc_new W _) j u (by simpa using hu)
theorem Zfs (l:List Int) (w:World) (A:Nat→Prop) (a:Option Addr) (cp:Nat) (he:Yc l=0) (hlen:l.length≤1048576) (ol:okIs l) (hl:RIs w A l a):
  Calls prog 241 #[.slice a l.length cp] w fun e w'=>e=.returned (.int .i64 0)∧Below w.heap.size w w':=by
 rw [←he]
 exact WH l w A a cp hlen ol hl
theorem A11.done {l:List Int} {w wr:World} {eI eJ:TypeId} {bt:Nat} {vc vo vh vl vi:Value} (h:A11 w wr eI eJ bt (Zj l) l.length vc vo vh vl vi (Zy l)) (h1:1≤l.length):
  ∃gc go cc co,T11 wr bt gc go l.length cc co (Zj l)∧RIs wr (fun k=>w.heap.size≤k) (Zy l).c (some ⟨gc,0,none⟩)∧RIs wr (fun k=>w.heap.size≤k) (Zy l).o (some ⟨go,0,none⟩):=by
 obtain ⟨hb,hb0,tt,ok,ht,hr⟩:=h
 obtain ⟨gc,cc,e1,q1,q2,i1⟩:=hr.c.cellv (by rw [ok.c];exact h1)
 obtain ⟨go,co,e2,q3,q4,i2⟩:=hr.o.cellv (by rw [ok.o];exact h1)
 have t1:=tt.t1
 have t2:=tt.t2
 rw [e1,ok.c] at t1
 rw [e2,ok.o] at t2
 exact ⟨gc,go,cc,co,⟨tt.t0,t1,t2⟩,i1.ris om,i2.ris om⟩
theorem ZxC {p:Prop} (h:p:=by
 go_wp2_with fail
 go_ret2
 exact ⟨hbf,w1.heap.size,gc,go,cc,co,hz1,rfl,H11.out,HC1.out,HO1.out⟩):p:=h
set_option maxRecDepth 100000
set_option maxHeartbeats 8000000
theorem ZbK (l:List Int) (w:World) (A:Nat→Prop) (a:Option Addr) (cp:Nat) (he:Yc l=0) (ol:okIs l) (hr:RIs w A l a):
  Calls prog 188 #[.slice a l.length cp] w fun e w'=>Below w.heap.size w w'∧∃b gc go cc co,w.heap.size≤b∧e=.returned (.tuple #[.pointer (some ⟨b,0,none⟩),.int .i64 0])∧T11 w' b gc go l.length cc co (Zj l) ∧
   RIs w' (fun k=>w.heap.size≤k) (Zy l).c (some ⟨gc,0,none⟩)∧RIs w' (fun k=>w.heap.size≤k) (Zy l).o (some ⟨go,0,none⟩):=by
 obtain ⟨f1,f64,fw,f2,f3⟩:=Y0 he
 have HL:=hid hr
 have HW:=hid fw
 have HE:=hid he
 have OL:=hid ol
 obtain ⟨i0,hi0,x0,x1,x2⟩:=info_parts Zde
 obtain ⟨j0,hj0,y0,y1,y2⟩:=info_parts XB
 obtain ⟨FT,hFT⟩:∃FT,Yr (Zj l) l.length l 0 ⟨[],[],[],[],[]⟩=FT:=⟨_,rfl⟩
 have HAT:=hid (show YF (Zj l) (2*l.length+1) FT=Zy l by rw [←hFT];rfl)
 have HFT:=hid hFT
 clear hr fw he ol hFT
 go_enter func188,ntmps188
 go_wp2_with (go_at_call 241;refine (Zfs l _ A a cp HE.out om OL.out (by exact HL.out)).mono ?_;rintro e w1 ⟨rfl,hb1⟩;have hz1:=hb1.size)
 go_loopg [7] (l.length) (fun gk i' wr=>∃j:Nat,gk+j=l.length∧i'=.int .i64 j∧Below w.heap.size w wr∧wr.heap.size=w1.heap.size+1∧wr.cell? ⟨w1.heap.size,0,none⟩=some (.int .i64 (Zj (l.take j)))∧wr.cell? ⟨w1.heap.size,1,none⟩=some (.slice none 0 0)∧wr.cell? ⟨w1.heap.size,2,none⟩=some (.slice none 0 0)∧∀k,wr.frozen? ⟨w1.heap.size,k,none⟩=false)
 case atStart=>exact ⟨0,om,rfl,ZtZ,sm,by go_simp;simp [Zj],gs,gs,fun k=>gs⟩
 case round=>
  obtain ⟨j,hj,rfl,hb,hz,t0,t1,t2,t3⟩:=hrel
  have HZ:=hid hz
  have hzr:w1.heap.size < wr.heap.size:=om
  clear hz
  by_cases hlt:j < l.length
  ·obtain ⟨bb,o,rfl,hA,hbs,g0⟩:=HL.out.get j hlt
   have k0:wr.cell? ⟨bb,o+j,none⟩=some (.int .i64 l[j]):=(hb.cell hbs).trans g0
   obtain ⟨u1,u2⟩:=HW.out l[j] (List.getElem_mem hlt)
   have hst:=WR l j hlt
   obtain ⟨p1,p2⟩:=WX (l.take j) (fun y hy=>HW.out y (List.mem_of_mem_take hy))
   have hjl:(l.take j).length=j:=by simp;omega
   rw [hjl] at p2
   have HST:=hid hst
   have hs1:bb < wr.heap.size:=om
   clear hst g0 hjl
   generalize hSj:Zj (l.take j)=Sj at *
   have HSJ:=hid hSj
   clear hSj
   go_wp2_with fail
   refine Z0 10 kr kr ?_
   simp only [List.take_succ_cons,List.take_zero,List.drop_succ_cons,List.drop_zero]
   repeat still_step
   refine wpStill_nil ?_
   go_wp2_with fail
   go_roundg (gk - 1)
   case measure=>omega
   case rel=>exact ⟨j+1,om,by go_num,ZtZ,by have:=HZ.out;simp;omega,by rw [HST.out];go_simp,gs,gs,fun q=>by first|(go_simp;done)|(go_simp;exact t3 q)⟩
  have hjl:j=l.length:=om
  subst hjl
  rw [List.take_length] at t0
  go_wp2_with fail
  go_loopg [8,9,10,11] (l.length) (fun gk v8 v9 v10 i' wr=>∃(i:Nat) (T:AT) (vc vo vh vl vi:Value),v8=vh∧v9=vl∧v10=vi∧gk+i=l.length∧i'=.int .i64 i∧Hid (T.lo.length+T.hi.length=i)∧Hid (Yr (Zj l) l.length (l.drop i) i T=FT) ∧
   Hid (A11 w wr 2 3 w1.heap.size (Zj l) i vc vo vh vl vi T))
  case atStart=>
   exact ⟨0,⟨[],[],[],[],[]⟩,.slice none 0 0,.slice none 0 0,.slice none 0 0,.slice none 0 0,.slice none 0 0,rfl,rfl,rfl,om,rfl,hid rfl,by simpa using HFT,hid ⟨hb,hz1,⟨hzr,t0,t1,t2,t3⟩,⟨rfl,rfl,fun _ h=>by simp at h,rfl,fun _ h=>by simp at h,fun _ h=>by simp at h⟩,⟨sm,fun x hx=>by simp at hx,fun x hx=>by simp at hx,fun x hx=>by simp at hx⟩,R5.nil _ _ _ _⟩⟩
  case round=>
   obtain ⟨i,T,vc,vo,vh,vl,vi,rfl,rfl,rfl,hi,rfl,HLN,HF,AS⟩:=hrel
   clear t0 t1 t2 t3 hb HZ hzr
   obtain ⟨hb,hb0,tt,ok,ht,hr⟩:=AS.out
   have hz:=tt.z
   by_cases hlt:i < l.length
   ·obtain ⟨bb,o,rfl,hA,hbs,g0⟩:=HL.out.get i hlt
    have k0:wr.cell? ⟨bb,o+i,none⟩=some (.int .i64 l[i]):=(hb.cell hbs).trans g0
    obtain ⟨u1,u2⟩:=HW.out l[i] (List.getElem_mem hlt)
    have hst:=HF.out
    rw [VL _ _ _ _ hlt] at hst
    have hp0:0≤(l.length:Int)*l[i]:=Int.mul_nonneg om u1
    have hp1:(l.length:Int)*l[i]≤64*1048576:=Int.mul_le_mul om u2 u1 om
    generalize hP:(l.length:Int)*l[i]=P at *
    have hPw:IntKind.i64.wrap P=P:=IntWalk.i64_in _ om
    have HST:=hid hst
    have HR:=hid hr
    have OK:=hid ok
    have HT:=hid ht
    have hs1:bb < wr.heap.size:=om
    have hi64:i < 64:=om
    clear hst g0 ok ht hr
    generalize hS:Zj l=S at *
    have HS:=hid hS
    clear hS
    have TT0:=hid tt
    clear tt
    go_upto_region 16 with (at_builtin;refine wpList_append_lies _ rfl _ _ 25 rfl (w1.heap.size+1) 2 i0 _ 1 8 underlying25 hi0 x0 x1 x2 rfl (by decide) _ i _ (by rfl) ((HR.out.alloc _).h.at OK.out.h) ⟨wr.heap.size,0,none⟩ 1 1 [.int .i64 P] (by rfl) rfl (Ws sm _ _) (by simp [Value.oneCell']) (by decide) (by unfold maxLen;omega) om (by simp;omega) (wr.heap.size+1) sm ?_;intro g cap w4 hown hgrow hat hlt1;have hbw4:Below (w1.heap.size+1) wr w4:=Below.grown ((Below.refl _ _).alloc om _) hgrow (by simp;omega) (fun q e=>(HR.out.h.lt _ e).1);have HR4:=hid ((HR.out.alloc _).pushH OK.out.h hown hgrow (by simpa using hat));have TT4:=hid (TT0.out.below hbw4 om);have hz4:=hbw4.size;have hb4:Below w.heap.size w w4:=hb.trans (hbw4.mono om))
    clear k0 hown hgrow hat hlt1 hs1 HR TT0
    go_cut [] from 54 to 66 (fun wx=>∃(g5 cap5:Nat),Below w1.heap.size w4 wx∧Hid (TT wx w1.heap.size S (.slice (some ⟨g5,0,none⟩) (i+1) cap5) vo)∧Hid (R5 wx (w1.heap.size+1) 2 3 (.slice (some ⟨g5,0,none⟩) (i+1) cap5) vo (.slice (some ⟨g,0,none⟩) (i+1) cap) u9 u10 ⟨T.c++[S],T.o,T.h++[P],T.lo,T.hi⟩))
    case first=>
     obtain ⟨hz,t0,t1,t2,t3⟩:=TT4.out
     go_region_law ((refine step_append_lies _ (by rfl) _ _ 25 (by rfl) (w1.heap.size+1) 2 i0 _ 1 8 underlying25 hi0 x0 x1 x2 rfl (by decide) _ i _ (by rfl) (((HR4.out.drew.alloc _).c).at OK.out.c) ⟨w4.heap.size,0,none⟩ 1 1 [.int .i64 S] (by rfl) (by rfl) (Ws sm _ _) (by simp [Value.oneCell']) (by decide) (by unfold maxLen;omega) om (by simp;omega) (w4.heap.size+1) sm ?_;intro g5 cap5 w5 hown hgrow hat hlt1;have hbw5:Below (w1.heap.size+1) w4 w5:=Below.grown (((Below.refl _ _).drew).alloc (by simp;omega) _) hgrow (by simp;omega) (fun q e=>(HR4.out.c.lt _ e).1);have HR5:=hid ((HR4.out.drew.alloc _).pushC OK.out.c hown hgrow (by simpa using hat));have TT5:=hid (TT4.out.below hbw5 om);have hz5:=hbw5.size;have t15:=TT5.out.t1;have t35:=TT5.out.tf))
     all_goals go_wp2_with fail
     all_goals go_meet
     all_goals exact ⟨g5,cap5,(hbw5.mono om).setCell sm _,hid (TT5.out.setC _),hid (HR5.out.setLow _ _ sm)⟩
    obtain ⟨g5,cap5,hbc,TT5,HR5⟩:=hcut
    have hzc:=hbc.size
    have hbw:Below w.heap.size w wc:=hb4.trans (hbc.mono om)
    clear HR4 TT4 hbw4
    obtain ⟨hz5,t0,t1,t2,t3⟩:=TT5.out
    go_upto_region 18 with (at_builtin;refine wpList_append_lies _ rfl _ _ 215 rfl (w1.heap.size+1) 3 j0 _ 1 8 underlying215 hj0 y0 y1 y2 rfl (by decide) _ i _ (by rfl) ((HR5.out.alloc _).o.at OK.out.o) ⟨wc.heap.size,0,none⟩ 1 1 [.int .i64 i] (by rfl) rfl (Ws sm _ _) (by simp [Value.oneCell']) (by decide) (by unfold maxLen;omega) om (by simp;omega) (wc.heap.size+1) sm ?_;intro g7 cap7 w7 hown hgrow hat hlt1;have hbw7:Below (w1.heap.size+1) wc w7:=Below.grown ((Below.refl _ _).alloc om _) hgrow (by simp;omega) (fun q e=>(HR5.out.o.lt _ e).1);have HR7:=hid ((HR5.out.alloc _).pushO OK.out.o hown hgrow (by simpa using hat));have TT7:=hid (TT5.out.below hbw7 om);have t27:=TT7.out.t2;have t37:=TT7.out.tf;have hz7:=hbw7.size;have hz8:w1.heap.size < w7.heap.size:=om)
    have HR8:=hid (HR7.out.setLow ⟨w1.heap.size,2,none⟩ (.slice (some ⟨g7,0,none⟩) (i+1) cap7) sm)
    have TT8:=hid (TT7.out.setO (.slice (some ⟨g7,0,none⟩) (i+1) cap7))
    have hb8:Below w1.heap.size wc (w7.setCell ⟨w1.heap.size,2,none⟩ (.slice (some ⟨g7,0,none⟩) (i+1) cap7)):=(hbw7.mono om).setCell sm _
    clear t0 t1 t2 t3 t27 t37 hown hgrow hat hlt1 HR7 TT7 HR5 TT5
    generalize w7.setCell ⟨w1.heap.size,2,none⟩ (.slice (some ⟨g7,0,none⟩) (i+1) cap7)=w8 at *
    obtain ⟨hz9,t0,t1,t2,t3⟩:=TT8.out
    have hgi:w8.cell? ⟨g,i,none⟩=some (.int .i64 P):=by
     have h1:=World.ownsRow.cellAt (HR8.out.h.at (n:=i+1) (by simp;exact OK.out.h)) i om
     rw [h1]
     simp [←OK.out.h]
    have hgb:=HR8.out.h.lt g rfl
    have hgz:g < w8.heap.size:=hgb.2
    have hii:(i:Int) < ((i+1:Nat):Int):=om
    have hij:(i:Int) < (i:Int)+1:=om
    have hik:(0:Int)≤(i:Int):=om
    refine Z0 8 kr kr ?_
    simp only [List.take_succ_cons,List.take_zero,List.drop_succ_cons,List.drop_zero]
    repeat still_step
    refine wpStill_nil ?_
    have hll:=HLN.out
    by_cases hPS:P < S
    ·go_wp2_with (at_builtin;refine wpList_append_lies _ rfl _ _ 215 rfl (w1.heap.size+1) 3 j0 _ 1 8 underlying215 hj0 y0 y1 y2 rfl (by decide) _ T.lo.length _ (by rfl) ((HR8.out.drew.alloc _).l.at rfl) ⟨w8.heap.size,0,none⟩ 1 1 [.int .i64 i] (by rfl) rfl (Ws sm _ _) (by simp [Value.oneCell']) (by decide) (by unfold maxLen;omega) om (by simp;omega) (w8.heap.size+1) sm ?_;intro g9 cap9 w9 hown hgrow hat hlt1;have hbw9:Below (w1.heap.size+1) w8 w9:=Below.grown (((Below.refl _ _).drew).alloc (by simp;omega) _) hgrow (by simp;omega) (fun q e=>(HR8.out.l.lt _ e).1);have HR9:=hid ((HR8.out.drew.alloc _).pushL rfl hown hgrow (by simpa using hat));have TT9:=hid (TT8.out.below hbw9 om))
     go_roundg (gk - 1)
     case measure=>omega
     case rel=>
      have hst:=HST.out
      rw [if_pos hPS] at hst
      refine ⟨i+1,⟨T.c++[S],T.o++[(i:Int)],T.h++[P],T.lo++[(i:Int)],T.hi⟩,_,_,_,_,_,rfl,rfl,rfl,om,by go_num,hid (by have:=HLN.out;simp;omega),hid hst,hid ⟨hbw.trans ((hb8.mono om).trans (hbw9.mono om)),om,TT9.out,(OK.out.push S P).1,?_,HR9.out⟩⟩
      have h1:=HT.out.pushLo P ⟨hp0,hPS⟩
      rw [OK.out.h] at h1
      exact h1
    go_wp2_with (at_builtin;refine wpList_append_lies _ rfl _ _ 215 rfl (w1.heap.size+1) 3 j0 _ 1 8 underlying215 hj0 y0 y1 y2 rfl (by decide) _ T.hi.length _ (by rfl) ((HR8.out.drew.alloc _).i.at rfl) ⟨w8.heap.size,0,none⟩ 1 1 [.int .i64 i] (by rfl) rfl (Ws sm _ _) (by simp [Value.oneCell']) (by decide) (by unfold maxLen;omega) om (by simp;omega) (w8.heap.size+1) sm ?_;intro g9 cap9 w9 hown hgrow hat hlt1;have hbw9:Below (w1.heap.size+1) w8 w9:=Below.grown (((Below.refl _ _).drew).alloc (by simp;omega) _) hgrow (by simp;omega) (fun q e=>(HR8.out.i.lt _ e).1);have HR9:=hid ((HR8.out.drew.alloc _).pushI rfl hown hgrow (by simpa using hat));have TT9:=hid (TT8.out.below hbw9 om))
    go_roundg (gk - 1)
    case measure=>omega
    case rel=>
     have hst:=HST.out
     rw [if_neg om] at hst
     refine ⟨i+1,⟨T.c++[S],T.o++[(i:Int)],T.h++[P],T.lo,T.hi++[(i:Int)]⟩,_,_,_,_,_,rfl,rfl,rfl,om,by go_num,hid (by have:=HLN.out;simp;omega),hid hst,hid ⟨hbw.trans ((hb8.mono om).trans (hbw9.mono om)),om,TT9.out,(OK.out.push S P).2,?_,HR9.out⟩⟩
     have h1:=HT.out.pushHi P ⟨om,om⟩
     rw [OK.out.h] at h1
     exact h1
   have hil:i=l.length:=om
   subst hil
   have hFT:=HF.out
   rw [List.drop_length,Yr] at hFT
   subst hFT
   obtain ⟨gh,chh,e8,qh1,qh2,ih⟩:=hr.h.cellv (by rw [ok.h];exact f1)
   rw [ok.h] at e8
   subst e8
   clear hb hb0 tt ok ht hr ih qh1 qh2
   go_wp2_with fail
   go_loopg [9,10] (T.lo.length+T.hi.length) (fun gk v9 v10 wr=>∃(f:Nat) (T:AT) (vl vi:Value),v9=vl∧v10=vi∧gk=T.lo.length+T.hi.length∧gk < f∧T.lo.length+T.hi.length≤64∧Hid (YF (Zj l) f T=Zy l) ∧
    Hid (A11 w wr 2 3 w1.heap.size (Zj l) l.length vc vo (.slice (some ⟨gh,0,none⟩) l.length chh) vl vi T))
   case atStart=>exact ⟨2*l.length+1,T,_,_,rfl,rfl,rfl,by have:=HLN.out;omega,by have:=HLN.out;omega,hid HAT.out,AS⟩
   case round=>
    clear AS HF HLN
    obtain ⟨f,T,vl,vi,rfl,rfl,rfl,hf,hl64,HF,AS⟩:=hrel
    by_cases hne:T.lo=[]∨T.hi=[]
    ·have hT:T=Zy l:=(VM hne f).symm.trans HF.out
     subst hT
     obtain ⟨gc,go,cc,co,h11,hc1,ho1⟩:=AS.out.done f1
     have H11:=hid h11
     have HC1:=hid hc1
     have HO1:=hid ho1
     obtain ⟨a9,c9,e9⟩:=AS.out.r.l.form
     obtain ⟨a10,c10,e10⟩:=AS.out.r.i.form
     have hbf:=AS.out.below
     subst e9 e10
     clear h11 hc1 ho1
     by_cases hn1:(Zy l).lo=[]
     ·have hl0:(Zy l).lo.length=0:=by rw [hn1];rfl
      exact ZxC
     have hl0:0 < (Zy l).lo.length:=List.length_pos_iff.2 hn1
     have hl1:(Zy l).hi.length=0:=by rw [hne.resolve_left hn1];rfl
     exact ZxC
    obtain ⟨Tc,To,Th,Tl,Ti⟩:=T
    (try dsimp only at hne hf hl64)
    obtain ⟨hb,hb0,tt,ok,ht,hr⟩:=AS.out
    obtain ⟨lo,lx,hlo,hlx⟩:=VE (fun e=>hne (.inl e)) ok.lo
    obtain ⟨hi,hx,hhi,hhx⟩:=VE (fun e=>hne (.inr e)) ok.hi
    (try dsimp only at hlo hhi)
    subst hlo hhi
    obtain ⟨gc,cc,e1,qc1,qc2,ic⟩:=hr.c.cellv (by rw [ok.c];exact f1)
    obtain ⟨go,co,e2,qo1,qo2,io⟩:=hr.o.cellv (by rw [ok.o];exact f1)
    obtain ⟨gh',ch',e3,qh1,qh2,ih⟩:=hr.h.cellv (by rw [ok.h];exact f1)
    obtain ⟨gl,cl,e4,ql1,ql2,il⟩:=hr.l.cellv sm
    obtain ⟨gi,ci,e5,qi1,qi2,ii⟩:=hr.i.cellv sm
    simp only [List.length_append,List.length_cons,List.length_nil,Nat.zero_add] at e4 e5
    rw [ok.c] at e1
    rw [ok.o] at e2
    simp only [Value.slice.injEq,Option.some.injEq,Addr.mk.injEq] at e3
    obtain ⟨⟨rfl, -⟩, -,rfl⟩:=e3
    subst e1 e2 e4 e5
    have kc:=ic.cell lx (by rw [ok.c];exact hlx)
    have ko:=io.cell lx (by rw [ok.o];exact hlx)
    have khl:=ih.cell lx (by rw [ok.h];exact hlx)
    have khx:=ih.cell hx (by rw [ok.h];exact hhx)
    have kl:wr.cell? ⟨gl,lo.length,none⟩=some (.int .i64 lx):=by have:=il.cell lo.length sm;simpa using this
    have ki:wr.cell? ⟨gi,hi.length,none⟩=some (.int .i64 hx):=by have:=ii.cell hi.length sm;simpa using this
    have fc:=ic.frz
    have fo:=io.frz
    have fh:=ih.frz
    have hvl:=ht.lo lx sm
    have hvh:=ht.hi hx sm
    rw [Int.toNat_natCast] at hvl hvh
    have d1:¬gc=go:=fun e=>hr.co gc rfl (by rw [e];rfl)
    have d2:¬gc=gh:=fun e=>hr.ch gc rfl (by rw [e];rfl)
    have d3:¬go=gh:=fun e=>hr.oh go rfl (by rw [e];rfl)
    have d4:¬gc=w1.heap.size:=om
    have d5:¬go=w1.heap.size:=om
    have d6:¬gh=w1.heap.size:=om
    have d7:¬w1.heap.size=gc:=om
    have d8:¬w1.heap.size=go:=om
    have d9:¬w1.heap.size=gh:=om
    have da:¬gh=gc:=fun e=>d2 e.symm
    have db:¬gh=go:=fun e=>d3 e.symm
    have dc:¬go=gc:=fun e=>d1 e.symm
    have hgl:Th.getD lx 0=Th[lx]'(by rw [ok.h];exact hlx):=by simp [List.getD_eq_getElem?_getD,List.getElem?_eq_getElem (show lx < Th.length by rw [ok.h];exact hlx)]
    have hgh:Th.getD hx 0=Th[hx]'(by rw [ok.h];exact hhx):=by simp [List.getD_eq_getElem?_getD,List.getElem?_eq_getElem (show hx < Th.length by rw [ok.h];exact hhx)]
    rw [←hgl] at khl
    rw [←hgh] at khx
    have hcl:=NRow.room hr.l
    have hci:=NRow.room hr.i
    have hlen:lo.length+hi.length < 128:=by simp at hl64;omega
    have OK:=hid ok
    have HT:=hid ht
    have HR:=hid hr
    have TT0:=hid tt
    obtain ⟨hz,t0,t1,t2,t3⟩:=tt
    obtain ⟨uc,kc9⟩:∃u,wr.cell? ⟨gc,lx,none⟩=some (.int .i64 u):=⟨_,kc⟩
    obtain ⟨uo,ko9⟩:∃u,wr.cell? ⟨go,lx,none⟩=some (.int .i64 u):=⟨_,ko⟩
    clear kc ko
    have kc:=kc9
    have ko:=ko9
    clear kc9 ko9
    obtain ⟨HL,hHL⟩:∃v,Th.getD lx 0=v:=⟨_,rfl⟩
    obtain ⟨HX,hHX⟩:∃v,Th.getD hx 0=v:=⟨_,rfl⟩
    rw [hHL] at khl hvl
    rw [hHX] at khx hvh
    have EL:=hid hHL
    have EX:=hid hHX
    have hlo0:(0:Int)≤(lo.length:Int):=om
    have hlo1:(lo.length:Int)≤(cl:Int):=om
    have hhi0:(0:Int)≤(hi.length:Int):=om
    have hhi1:(hi.length:Int)≤(ci:Int):=om
    have hli:(lo.length:Int) < (lo.length:Int)+1:=om
    have hhj:(hi.length:Int) < (hi.length:Int)+1:=om
    have hlk:(lo.length:Int) < ((lo.length+1:Nat):Int):=om
    have hhk:(hi.length:Int) < ((hi.length+1:Nat):Int):=om
    have hw1:IntKind.i64.wrap (lo.length:Int)=(lo.length:Int):=IntWalk.i64_in _ om
    have hw2:IntKind.i64.wrap (hi.length:Int)=(hi.length:Int):=IntWalk.i64_in _ om
    have hw3:IntKind.i64.wrap ((lo.length:Int)+1 - 1)=(lo.length:Int):=by rw [IntWalk.i64_in _ om];omega
    have hw4:IntKind.i64.wrap ((hi.length:Int)+1 - 1)=(hi.length:Int):=by rw [IntWalk.i64_in _ om];omega
    have hlxI:(lx:Int) < (l.length:Int):=om
    have hhxI:(hx:Int) < (l.length:Int):=om
    clear hgl hgh ok ht hr hHL hHX ic io ih il ii hne AS
    go_wp2_with fail
    go_region_held3 (fun W=>∀c k,W.cell? ⟨c,k,none⟩=wr.cell? ⟨c,k,none⟩) ((intro c k;rfl)) ((fail))
    go_upto_region 24 with (fail)
    go_region_held3 (fun W=>∀c k,¬c=gc→¬c=go→W.cell? ⟨c,k,none⟩=wr.cell? ⟨c,k,none⟩) ((intro c k h1 h2;first|rfl|exact World.cell?_setCell_far _ _ _ _ (fun e=>h1 e.symm)|exact (World.cell?_setCell_far _ _ _ _ (fun e=>h2 e.symm)).trans (World.cell?_setCell_far _ _ _ _ (fun e=>h1 e.symm)))) ((fail))
    rename_i hhd
    have hhd2:∀(c k:Nat),¬c=gc→¬c=go→World.cell? _ ⟨c,k,none⟩=wr.cell? ⟨c,k,none⟩:=hhd
    clear hhd2 hhd
    go_upto_region 25 with (fail)
    have r1:R5 wr (w1.heap.size+1) 2 3 (.slice (some ⟨gc,0,none⟩) l.length cc) (.slice (some ⟨go,0,none⟩) l.length co) (.slice (some ⟨gh,0,none⟩) l.length chh) (.slice (some ⟨gl,0,none⟩) lo.length cl) (.slice (some ⟨gi,0,none⟩) (hi.length+1) ci) ⟨Tc,To,Th,lo,hi++[(hx:Int)]⟩:=R5.popL (T:=⟨Tc,To,Th,[],hi++[(hx:Int)]⟩) HR.out rfl
    have HR2:=hid ((r1.setC OK.out.c lx HL).setO OK.out.o lx hx)
    clear r1
    have TT2:=hid ((TT0.out.far ⟨gc,lx,none⟩ (.int .i64 HL) (by simp;omega)).far ⟨go,lx,none⟩ (.int .i64 hx) (by simp;omega))
    have kh2:((wr.setCell ⟨gc,lx,none⟩ (.int .i64 HL)).setCell ⟨go,lx,none⟩ (.int .i64 hx)).cell? ⟨gh,lx,none⟩=some (.int .i64 HL):=gs
    have kx2:((wr.setCell ⟨gc,lx,none⟩ (.int .i64 HL)).setCell ⟨go,lx,none⟩ (.int .i64 hx)).cell? ⟨gh,hx,none⟩=some (.int .i64 HX):=gs
    have fh2:∀k,((wr.setCell ⟨gc,lx,none⟩ (.int .i64 HL)).setCell ⟨go,lx,none⟩ (.int .i64 hx)).frozen? ⟨gh,k,none⟩=false:=fun k=>gs
    have hb2:Below w1.heap.size wr ((wr.setCell ⟨gc,lx,none⟩ (.int .i64 HL)).setCell ⟨go,lx,none⟩ (.int .i64 hx)):=((Below.refl _ _).setCell (by simp;omega) _).setCell (by simp;omega) _
    have hz2:((wr.setCell ⟨gc,lx,none⟩ (.int .i64 HL)).setCell ⟨go,lx,none⟩ (.int .i64 hx)).heap.size=wr.heap.size:=sm
    have HZ2:=hid hz2
    clear hz2 kc ko khl khx kl ki fc fo fh t0 t1 t2 t3 HR TT0
    generalize (wr.setCell ⟨gc,lx,none⟩ (.int .i64 HL)).setCell ⟨go,lx,none⟩ (.int .i64 hx)=w2 at *
    obtain ⟨hz5,t0,t1,t2,t3⟩:=TT2.out
    obtain ⟨V,hV⟩:∃V,V=HX - (Zj l - HL):=⟨_,rfl⟩
    have hwV1:IntKind.i64.wrap (Zj l - HL)=Zj l - HL:=IntWalk.i64_in _ om
    have hwV2:IntKind.i64.wrap (HX - (Zj l - HL))=V:=by rw [IntWalk.i64_in _ om,hV]
    have HV:=hid hV
    clear hV
    refine Z0 16 kr kr ?_
    simp only [List.take_succ_cons,List.take_zero,List.drop_succ_cons,List.drop_zero]
    repeat still_step
    refine wpStill_nil ?_
    go_upto_region 26 with (fail)
    have r3:R5 (w2.setCell ⟨gh,hx,none⟩ (.int .i64 V)) (w1.heap.size+1) 2 3 (.slice (some ⟨gc,0,none⟩) l.length cc) (.slice (some ⟨go,0,none⟩) l.length co) (.slice (some ⟨gh,0,none⟩) l.length chh) (.slice (some ⟨gl,0,none⟩) lo.length cl) (.slice (some ⟨gi,0,none⟩) (hi.length+1) ci) ⟨Tc.set lx HL,To.set lx hx,Th.set hx V,lo,hi++[(hx:Int)]⟩:=HR2.out.setH OK.out.h hx V
    have t3f:=TT2.out.far ⟨gh,hx,none⟩ (.int .i64 V) (by simp;omega)
    refine ZT (fun W=>Hid (R5 W (w1.heap.size+1) 2 3 (.slice (some ⟨gc,0,none⟩) l.length cc) (.slice (some ⟨go,0,none⟩) l.length co) (.slice (some ⟨gh,0,none⟩) l.length chh) (.slice (some ⟨gl,0,none⟩) lo.length cl) (.slice (some ⟨gi,0,none⟩) (hi.length+1) ci) ⟨Tc.set lx HL,To.set lx hx,Th.set hx V,lo,hi++[(hx:Int)]⟩)∧Hid (TT W w1.heap.size (Zj l) (.slice (some ⟨gc,0,none⟩) l.length cc) (.slice (some ⟨go,0,none⟩) l.length co))∧Below w1.heap.size w2 W∧W.cell? ⟨gh,hx,none⟩=some (.int .i64 V)) ⟨hid (r3.block fun _ _ _=>rfl),hid ⟨t3f.z,t3f.t0,t3f.t1,t3f.t2,t3f.tf⟩,ZtZ,gs⟩ ?_
    clear r3 t3f t0 t1 t2 t3 HR2 TT2 kh2 kx2 fh2 hwV1 hwV2
    intro w4 ⟨HR4,TT4,hb4,kv⟩
    obtain ⟨hz6,t0,t1,t2,t3⟩:=TT4.out
    have hb9:Below w.heap.size w w4:=hb.trans ((hb2.mono om).trans (hb4.mono (by have:=HZ2.out;omega)))
    refine Z0 8 kr kr ?_
    simp only [List.take_succ_cons,List.take_zero,List.drop_succ_cons,List.drop_zero]
    repeat still_step
    refine wpStill_nil ?_
    by_cases hVS:V < Zj l
    ·have r4:R5 w4 (w1.heap.size+1) 2 3 (.slice (some ⟨gc,0,none⟩) l.length cc) (.slice (some ⟨go,0,none⟩) l.length co) (.slice (some ⟨gh,0,none⟩) l.length chh) (.slice (some ⟨gl,0,none⟩) lo.length cl) (.slice (some ⟨gi,0,none⟩) hi.length ci) ⟨Tc.set lx HL,To.set lx hx,Th.set hx V,lo,hi⟩:=R5.popI (T:=⟨Tc.set lx HL,To.set lx hx,Th.set hx V,lo,[]⟩) HR4.out rfl
     have HR5:=hid r4
     clear r4
     go_wp2_with (at_builtin;refine wpList_append_lies _ rfl _ _ 215 rfl (w1.heap.size+1) 3 j0 _ 1 8 underlying215 hj0 y0 y1 y2 rfl (by decide) _ lo.length _ (by rfl) ((HR5.out.drew.alloc _).l.at rfl) ⟨w4.heap.size,0,none⟩ 1 1 [.int .i64 hx] (by rfl) rfl (Ws sm _ _) (by simp [Value.oneCell']) (by decide) (by unfold maxLen;omega) om (by simp;omega) (w4.heap.size+1) sm ?_;intro g9 cap9 w9 hown hgrow hat hlt1;have hbw9:Below (w1.heap.size+1) w4 w9:=Below.grown (((Below.refl _ _).drew).alloc (by simp;omega) _) hgrow (by simp;omega) (fun q e=>(HR5.out.l.lt _ e).1);have HR9:=hid ((HR5.out.drew.alloc _).pushL rfl hown hgrow (by simpa using hat));have TT9:=hid (TT4.out.below hbw9 om))
     have e1:ZM (Zj l) ⟨Tc,To,Th,lo++[(lx:Int)],hi++[(hx:Int)]⟩ lx hx=⟨Tc.set lx HL,To.set lx hx,Th.set hx V,lo++[(hx:Int)],hi⟩:=by
      unfold ZM
      simp only [Int.toNat_natCast,EL.out,EX.out,←HV.out]
      rw [if_pos hVS]
      simp
     have hok:=WA (S:=Zj l) (l:=(lx:Int)) OK.out (h:=(hx:Int)) (OK.out.hi hx sm)
     have hst:=(HtOk.step (S:=Zj l) (M:=67108864) (g:=Th) (lo:=lo) (hi:=hi) (l:=(lx:Int)) (h:=(hx:Int)) HT.out V (by simp only [Int.toNat_natCast];rw [EL.out,EX.out];exact HV.out)).2.1 hVS
     have hfr:=HF.out
     rw [e1] at hok
     rw [show f=(f - 1)+1 by omega,Wz rfl rfl,e1] at hfr
     go_roundg ((lo++[(hx:Int)]).length+(hi).length)
     case measure=>first|(simp;done)|(simp;omega)
     case rel=>exact ⟨f - 1,⟨Tc.set lx HL,To.set lx hx,Th.set hx V,lo++[(hx:Int)],hi⟩,_,_,rfl,rfl,rfl,by simp at hf ⊢;omega,by simp at hl64 ⊢;omega,hid hfr,hid ⟨hb9.trans (hbw9.mono om),om,TT9.out,hok,by simpa using hst,HR9.out⟩⟩
    go_wp2_with fail
    have e1:ZM (Zj l) ⟨Tc,To,Th,lo++[(lx:Int)],hi++[(hx:Int)]⟩ lx hx=⟨Tc.set lx HL,To.set lx hx,Th.set hx V,lo,hi++[(hx:Int)]⟩:=by
     unfold ZM
     simp only [Int.toNat_natCast,EL.out,EX.out,←HV.out]
     rw [if_neg om]
     simp
    have hok:=WA (S:=Zj l) (l:=(lx:Int)) OK.out (h:=(hx:Int)) (OK.out.hi hx sm)
    have hst:=(HtOk.step (S:=Zj l) (M:=67108864) (g:=Th) (lo:=lo) (hi:=hi) (l:=(lx:Int)) (h:=(hx:Int)) HT.out V (by simp only [Int.toNat_natCast];rw [EL.out,EX.out];exact HV.out)).2.2 om
    have hfr:=HF.out
    rw [e1] at hok
    rw [show f=(f - 1)+1 by omega,Wz rfl rfl,e1] at hfr
    go_roundg ((lo).length+(hi++[(hx:Int)]).length)
    case measure=>first|(simp;done)|(simp;omega)
    case rel=>exact ⟨f - 1,⟨Tc.set lx HL,To.set lx hx,Th.set hx V,lo,hi++[(hx:Int)]⟩,_,_,rfl,rfl,rfl,by simp at hf ⊢;omega,by simp at hl64 ⊢;omega,hid hfr,hid ⟨hb9.drew,om,⟨TT4.out.z,TT4.out.t0,TT4.out.t1,TT4.out.t2,TT4.out.tf⟩,hok,by simpa using hst,HR4.out.drew⟩⟩
end Go.Proofs.YtkdffbdnjfgpeaaGreat
