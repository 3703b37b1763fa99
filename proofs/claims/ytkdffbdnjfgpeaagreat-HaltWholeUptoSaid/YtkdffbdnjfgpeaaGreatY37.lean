/- Part 38. -/
import Derived.Deep.CutRange
import Derived.Deep.RegionLaw
import Derived.Test.YtkdffbdnjfgpeaaGreatY28
import Derived.Test.YtkdffbdnjfgpeaaGreatY35
import Derived.Test.YtkdffbdnjfgpeaaGreatY36
set_option linter.all false
namespace Go.Proofs.YtkdffbdnjfgpeaaGreat
open Go.Lib (hid)
open Go Go.RowKit Go.Proofs.Tryz
section
theorem ZpP {k:Nat} (h:k≤12):2 ^ k≤4096:=by
 have:=Nat.pow_le_pow_right (n:=2) om h
 simpa using this
theorem ZqY {k:Nat} (h:k≤12):wrap64 ((2:Int) ^ k)=((2 ^ k:Nat):Int):=by
 have h1:((2:Int) ^ k)=((2 ^ k:Nat):Int):=(Int.natCast_pow 2 k).symm
 have h2:=ZpP h
 rw [h1]
 generalize 2 ^ k=p at h2
 unfold wrap64
 omega
set_option maxRecDepth 100000
theorem Zq2 (s:ByteArray) (n k B:Nat) (w:World) (hn:s.size+k=n) (hk:k≤12) (hc:w.cell? ⟨B,19,none⟩=some (.int .i64 n)):
  Calls prog 118 #[.pointer (some ⟨B,0,none⟩),.string s] w fun e w'=>e=.returned (.int .i64 (2 ^ k:Nat))∧w=w':=by
 have hw:IntKind.i64.wrap ((n:Int) - (s.size:Int))=(k:Int):=by rw [IntWalk.i64_in _ om];omega
 have hd:(n:Int) - (s.size:Int)=(k:Int):=om
 go_enter func118,ntmps118
 go_wp2_with fail
 go_ret
 exact ⟨Zf (ZqY hk),rfl⟩
set_option maxRecDepth 512
theorem Ztq:(prog.info? 71).map (fun i=>(i.zero,i.size,i.bytes))=some (some (.agg #[.string ⟨#[]⟩,.int .u8 0,.int .i64 0,.slice none 0 0]),4,56):=kr
def HkC (w:World) (B:Nat) (v:Value) (m st b n:Nat):Prop:=
 w.cell? ⟨B,0,none⟩=some v∧w.cell? ⟨B,1,none⟩=some (.int .i64 m)∧w.cell? ⟨B,2,none⟩=some (.int .i64 st)∧w.cell? ⟨B,3,none⟩=some (.int .i64 b)∧w.cell? ⟨B,19,none⟩=some (.int .i64 n)∧∀k,w.frozen? ⟨B,k,none⟩=false
def HkR (w:World) (B:Nat) (v:Value) (ps:List (GH×VA)):Prop:=
 w.ownsRow (B+1) 71 4 v ps.length (W0 ps)∧∀q∈ps,RV w (Own (B+1) (fun _=>False) v) q.1.2 q.2.a
def HkT (w:World) (B:Nat) (t:GT) (m:TA):Prop:=
 At w B 4 [.int .u8 t.k,.int .u8 t.v.k,.int .i64 t.v.n,.slice m.va t.v.l.length m.vc,.slice m.vsa t.vs.length m.vsc,.int .i64 t.lo,.int .i64 t.hi,.slice m.wa t.w.length m.wc,.int .u8 t.p.k,.int .u8 t.p.v.k,.int .i64 t.p.v.n,.slice m.pva t.p.v.l.length m.pvc,.int .i64 t.p.n,.slice m.pa t.p.a.length m.pc,.slice m.a t.a.length m.c]
theorem Zre {w b c0 c1 c2 c3 c4 c5 c6 c7 c8 c9 ca cb cc cd ce}:At w b 4 [c0,c1,c2,c3,c4,c5,c6,c7,c8,c9,ca,cb,cc,cd,ce]↔w.cell? ⟨b,4,none⟩=some c0∧w.cell? ⟨b,5,none⟩=some c1∧w.cell? ⟨b,6,none⟩=some c2∧w.cell? ⟨b,7,none⟩=some c3∧w.cell? ⟨b,8,none⟩=some c4∧w.cell? ⟨b,9,none⟩=some c5∧w.cell? ⟨b,10,none⟩=some c6∧w.cell? ⟨b,11,none⟩=some c7∧w.cell? ⟨b,12,none⟩=some c8∧w.cell? ⟨b,13,none⟩=some c9∧w.cell? ⟨b,14,none⟩=some ca∧w.cell? ⟨b,15,none⟩=some cb∧w.cell? ⟨b,16,none⟩=some cc∧w.cell? ⟨b,17,none⟩=some cd∧w.cell? ⟨b,18,none⟩=some ce:=by
 simp only [At,Nat.reduceAdd,and_true]
theorem ZrV {W:World} {n:Nat} (hn:W.heap.size=n) (a b c d:Value) (t:TypeId):∀j u,[a,b,c,d][j]? =some u→(W.alloc (.cells #[a,b,c,d] t)).cell? ((⟨n,0,none⟩:Addr).add j)=some u:=by
 subst hn
 exact fun j u hu=>World.news_of_block (heap_alloc_new W _) j u (by simpa using hu)
theorem ZpH {w:World} {base e sz n:Nat} {v:Value} {xs:List Value} (h:w.ownsRow base e sz v n xs) (p:Addr) (u:Value) (hp:p.block < base):(w.setCell p u).ownsRow base e sz v n xs:=
 ⟨h.1,h.2.imp id fun ⟨g,cap,cur,e,hb,hh,r⟩=>⟨g,cap,cur,e,hb,by rw [Below.heap_setCell _ _ _ _ om];exact hh,r⟩⟩
theorem At.setBefore {w:World} {b j:Nat} {u:Value}:∀(l:List Value) (o:Nat),j < o→At w b o l→At (w.setCell ⟨b,j,none⟩ u) b o l
 | [],_,_,_=>by simp only [At]
 | v::l,o,hj,hx=>by
  simp only [At] at hx ⊢
  have hne:¬j=o:=om
  have h1:=hx.1
  exact ⟨gs,At.setBefore l (o+1) om hx.2⟩
theorem Zrb {B:Nat} (v:Value):¬Own (B+1) (fun _=>False) v B:=by
 rintro (⟨h, -⟩|⟨h, -⟩)
 ·exact h
 omega
theorem ZpN {t:GT} {s:ByteArray} (h:ZpO (Vm s t)=false) (φ:Res GV→Nat→Nat) (k:Nat):W9 t φ k s=2 ^ k*φ (Vm s t) (s.size+k):=by
 cases k with
 | zero=>simp [W9]
 | succ k=>rw [W9,if_neg (by rw [h];simp)]
theorem Zq8 {t:GT} {s:ByteArray} (h:ZpO (Vm s t)=true) (φ:Res GV→Nat→Nat) (k:Nat):W9 t φ (k+1) s=W9 t φ k (W3 s 48)+W9 t φ k (W3 s 49):=by
 rw [W9,if_pos h]
def HkW (w:World) (B:Nat) (t:GT) (mt:TA) (n:Nat) (v:Value) (ps:List (GH×VA)) (m st b:Nat):Prop:=
 HkC w B v m st b n∧HkR w B v ps∧HkT w B t mt∧B < w.heap.size
section
variable {w:World} {B n m st b:Nat} {t:GT} {mt:TA} {v:Value} {ps:List (GH×VA)}
theorem HkW.drew (h:HkW w B t mt n v ps m st b):HkW w.drew B t mt n v ps m st b:=by
 obtain ⟨⟨k0,k1,k2,k3,k4,kf⟩,⟨hown,hrv⟩,hterm,hBw⟩:=h
 have hd:Below w.heap.size w w.drew:=(Below.refl _ _).drew
 exact ⟨⟨gs,gs,gs,gs,gs,fun k=>kf k⟩,⟨hown.drew,fun q hq=>Zt5 (ZtY hd) _ _ (hrv q hq)⟩,Zuf (ZtY hd) (A:=fun _=>True) trivial _ _ hterm,hBw⟩
theorem Zmu {p:Prop} (h:p:=by
 obtain ⟨⟨k0,k1,k2,k3,k4,kf⟩,⟨hown,hrv⟩,hterm,hBw⟩:=h
 exact ⟨⟨gs,gs,gs,gs,gs,fun k=>gs⟩,⟨ZpH hown _ _ (Nat.lt_succ_self _),fun q hq=>Zt5 (Zt4 (Zrb _)) _ _ (hrv q hq)⟩,At.setBefore _ _ om hterm,by simpa using hBw⟩):p:=h
theorem HkW.setB (h:HkW w B t mt n v ps m st b) (x:Nat):HkW (w.setCell ⟨B,3,none⟩ (.int .i64 x)) B t mt n v ps m st x:=by
 exact Zmu
theorem HkW.setS (h:HkW w B t mt n v ps m st b) (x:Nat):HkW (w.setCell ⟨B,2,none⟩ (.int .i64 x)) B t mt n v ps m x b:=by
 exact Zmu
theorem HkW.setM (h:HkW w B t mt n v ps m st b) (x:Nat):HkW (w.setCell ⟨B,1,none⟩ (.int .i64 x)) B t mt n v ps x st b:=by
 exact Zmu
theorem HkW.below {w':World} (h:HkW w B t mt n v ps m st b) (hb:Below w.heap.size w w'):HkW w' B t mt n v ps m st b:=by
 obtain ⟨⟨k0,k1,k2,k3,k4,kf⟩,⟨hown,hrv⟩,hterm,hBw⟩:=h
 have hz:=hb.size
 exact ⟨⟨(hb.cell (p:=⟨B,0,none⟩) hBw).trans k0,(hb.cell (p:=⟨B,1,none⟩) hBw).trans k1,(hb.cell (p:=⟨B,2,none⟩) hBw).trans k2,(hb.cell (p:=⟨B,3,none⟩) hBw).trans k3,(hb.cell (p:=⟨B,19,none⟩) hBw).trans k4,fun k=>(hb.frozen (p:=⟨B,k,none⟩) hBw).trans (kf k)⟩,⟨ZR hown hb fun k hk=>(hown.lt _ hk).2,fun q hq=>Zt5 (ZtY hb) _ _ (hrv q hq)⟩,Zuf (ZtY hb) (A:=fun _=>True) trivial _ _ hterm,om⟩
end
def HkP (w:World) (B:Nat) (t:GT) (mt:TA) (n k:Nat) (s:ByteArray) (ps:List (GH×VA)) (m st b:Nat) (e:Ending) (w':World):Prop:=
 e=.returned (.tuple #[])∧Below B w w'∧∃v' ps',HkW w' B t mt n v' (ps++ps') (m+W9 t ZpX k s) (st+W9 t Zp3 k s) (b+W9 t Zp2 k s)∧ps'.map Prod.fst=hL t k s
set_option maxRecDepth 100000
set_option maxHeartbeats 4000000
theorem ZrH {t:GT} (ht:(Z3 t).2=0) (ox:okT t) (hsz:Zb t≤1099511627776) (mt:TA) (n k B:Nat) (s:ByteArray) (w:World) (v:Value) (ps:List (GH×VA)) (m st b:Nat) (x:GV)
  (hn:s.size+k=n) (hn12:n≤12) (hbits:Zc s=true) (hr:Vm s t=.ok x s.size) (hW:HkW w B t mt n v ps m st b) (hT:RT w (fun b=>b < B) t mt) (hb49:b+12*2 ^ k≤49152) (hl:ps.length+1≤4096):
  Calls prog 79 #[.pointer (some ⟨B,0,none⟩),.string s] w (HkP w B t mt n k s ps m st b):=by
 obtain ⟨⟨k0,k1,k2,k3,k4,kf⟩,⟨hown,hrv⟩,hterm,hBw⟩:=hW
 have HOX:=hid ox
 have HRUN:=hid hr
 have hE:=Zdz ht hbits
 have HE:=hid hE
 have HT:=hid hT
 have HTM:=hid hterm
 have HOWN:=hid hown
 have HRV:=hid hrv
 have hss:s.size≤9223372036854775807:=om
 obtain ⟨ma,mb,mc,md,me,mf,mg,mh,mi,mj,mk,ml⟩:=mt
 obtain ⟨c0,c1,c2,c3,c4,c5,c6,c7,c8,c9,ca,cb,cc,cd,ce⟩:=Zre.1 hterm
 clear ox hr hE hT hterm hown hrv
 obtain ⟨i0,hi0,y0,y1,y2⟩:=info_parts Ztq
 have HOK:=hid (show ∀k,v.ownBlock=some k→k < w.heap.size from fun k hk=>(HOWN.out.lt _ hk).2)
 have HLO:=hid (show ∀k,v.ownBlock=some k→B+1≤k from fun k hk=>(HOWN.out.lt _ hk).1)
 go_enter func79,ntmps79
 go_wp2_with (go_at_call 35;refine (ZdB t s _ (fun b=>b < B) ⟨ma,mb,mc,md,me,mf,mg,mh,mi,mj,mk,ml⟩ HOX.out hsz (by exact HT.out) hss HE.out x s.size HRUN.out).mono ?_;rintro e w2 ⟨hb2,mv,rfl,hrx⟩;have HRX:=hid hrx;clear hrx;have hz2:=hb2.size)
 refine ZT (fun W=>Below w.heap.size w W∧w2.heap.size < W.heap.size∧Hid (RV W (fun b=>w.heap.size≤b) x mv.a)∧W.cell? ⟨w2.heap.size,0,none⟩=some (.int .u8 1)∧W.cell? ⟨w2.heap.size,1,none⟩=some (.int .u8 x.k)∧W.cell? ⟨w2.heap.size,2,none⟩=some (.int .i64 x.n)∧W.cell? ⟨w2.heap.size,3,none⟩=some (.slice mv.a x.l.length mv.c)) ⟨ZtZ,sm,hid (Zt5 ar _ _ HRX.out),gs,gs,gs,gs⟩ ?_
 rintro wa ⟨hba,hza,HRX,o0,o1,o2,o3⟩
 have HOWNa:=hid (ZR HOWN.out hba HOK.out)
 have HTM:=hid (Zuf (ZtY hba) (A:=fun _=>True) trivial _ _ HTM.out)
 have HT:=hid (Zt2 (ZtY hba) _ _ HT.out)
 have HRV:=hid (fun q hq=>Zt5 (ZtY hba) _ _ (HRV.out q hq))
 replace k0:=(hba.cell (p:=⟨B,0,none⟩) hBw).trans k0
 replace k1:=(hba.cell (p:=⟨B,1,none⟩) hBw).trans k1
 replace k2:=(hba.cell (p:=⟨B,2,none⟩) hBw).trans k2
 replace k3:=(hba.cell (p:=⟨B,3,none⟩) hBw).trans k3
 replace k4:=(hba.cell (p:=⟨B,19,none⟩) hBw).trans k4
 replace kf:∀k,wa.frozen? ⟨B,k,none⟩=false:=fun k=>(hba.frozen (p:=⟨B,k,none⟩) hBw).trans (kf k)
 clear c0 c1 c2 c3 c4 c5 c6 c7 c8 c9 ca cb cc cd ce hb2
 have hzw:=hba.size
 have hBa:B < wa.heap.size:=om
 have HOKa:=hid (show ∀k,v.ownBlock=some k→k < wa.heap.size from fun k hk=>by have:=HOK.out k hk;omega)
 clear HOWN
 go_wp2_with fail
 go_cut [] from 27 to 41 (fun wx=>∃g cap,Below B w wx∧Hid (HkW wx B t ⟨ma,mb,mc,md,me,mf,mg,mh,mi,mj,mk,ml⟩ n (.slice (some ⟨g,0,none⟩) (ps.length+1) cap) (ps++[((s,x),mv)]) m st b))
 case first=>
  go_region_law ((refine step_append_lies _ (by rfl) _ _ 38 (by rfl) (B+1) 71 i0 _ 4 56 underlying38 hi0 y0 y1 y2 rfl (by decide) _ ps.length _ (by rfl) (HOWNa.out.drew.alloc _) ⟨wa.heap.size,0,none⟩ 1 1 [.string s,.int .u8 x.k,.int .i64 x.n,.slice mv.a x.l.length mv.c] (by rfl) (by rfl) (ZrV sm _ _ _ _ _) (by simp [Value.oneCell']) (by decide) (by unfold maxLen;omega) om (by simp;omega) (wa.heap.size+1) sm ?_;intro g cap w4 hown hgrow hat hlt1;have hbw4:Below (B+1) wa w4:=Below.grown (((Below.refl _ _).drew).alloc (by simp;omega) _) hgrow (by simp;omega) HLO.out;have hz4:=hbw4.size;have q0:=(hbw4.cell (p:=⟨B,0,none⟩) (Nat.lt_succ_self _)).trans k0;have q1:=(hbw4.cell (p:=⟨B,1,none⟩) (Nat.lt_succ_self _)).trans k1;have q2:=(hbw4.cell (p:=⟨B,2,none⟩) (Nat.lt_succ_self _)).trans k2;have q3:=(hbw4.cell (p:=⟨B,3,none⟩) (Nat.lt_succ_self _)).trans k3;have q4:=(hbw4.cell (p:=⟨B,19,none⟩) (Nat.lt_succ_self _)).trans k4;have qf:∀k,w4.frozen? ⟨B,k,none⟩=false:=fun k=>(hbw4.frozen (p:=⟨B,k,none⟩) (Nat.lt_succ_self _)).trans (kf k);have HOWNb:=hid hown;have HTMb:=hid (Zuf (A:=fun b=>b < B+1) (fun p u hp hc=>⟨(hbw4.cell hp).trans hc,hbw4.frozen hp⟩) (Nat.lt_succ_self _) _ _ HTM.out);have HG:=hid hgrow;have HAT:=hid hat;have HRVb:Hid (∀q∈ps,RV w4 (Own (B+1) (fun _=>False) (.slice (some ⟨g,0,none⟩) (ps.length+1) cap)) q.1.2 q.2.a):=hid (fun q hq=>RV.own HG.out HLO.out HAT.out sm (Zt5 ar _ _ (HRV.out q hq)));have HRXb:Hid (RV w4 (Own (B+1) (fun _=>False) (.slice (some ⟨g,0,none⟩) (ps.length+1) cap)) x mv.a):=hid (RV.own HG.out HLO.out HAT.out sm (Zt9 (fun b hb _=>(Or.inr ⟨om,fun e=>(by have h9:=HOK.out _ e;omega)⟩)) _ _ (Zt5 (A:=fun b=>w.heap.size≤b) ar _ _ HRX.out)));clear hown hgrow hat))
  all_goals go_wp2_with fail
  all_goals go_meet
  all_goals exact ⟨g,cap,(hba.mono om).trans ((hbw4.mono om).setCell sm _),hid ⟨⟨gs,gs,gs,gs,gs,fun k=>gs⟩,⟨by
   rw [List.length_append,Zqo]
   exact ZpH HOWNb.out _ _ (Nat.lt_succ_self _),fun q hq=>by
   rcases List.mem_append.1 hq with hq|hq
   ·exact Zt5 (Zt4 (Zrb _)) _ _ (HRVb.out q hq)
   simp at hq
   subst hq
   exact Zt5 (Zt4 (Zrb _)) _ _ HRXb.out⟩,At.setBefore _ _ om HTMb.out,by simp;omega⟩⟩
 obtain ⟨g,cap,hbc,HC⟩:=hcut
 obtain ⟨⟨k0,k1,k2,k3,k4,kf⟩,hrow,hterm,hBc⟩:=HC.out
 obtain ⟨P,hP⟩:∃P,2 ^ k=P:=⟨_,rfl⟩
 obtain ⟨M,hM⟩:∃M,s.size*P=M:=⟨_,rfl⟩
 have hM1:(s.size:Int)*(P:Int)=(M:Int):=by rw [←hM];simp
 have hMP:M≤12*P:=by rw [←hM];exact Nat.mul_le_mul_right P om
 have hP9:=ZpP (k:=k) om
 rw [hP] at hb49 hP9
 have hw1:IntKind.i64.wrap (M:Int)=(M:Int):=IntWalk.i64_in _ om
 have hw2:IntKind.i64.wrap ((b:Int)+(M:Int))=(b:Int)+(M:Int):=IntWalk.i64_in _ om
 have HROOM:Hid (∀W:World,W.cell? ⟨B,19,none⟩=some (.int .i64 n)→Calls prog 118 #[.pointer (some ⟨B,0,none⟩),.string s] W fun e w'=>e=.returned (.int .i64 P)∧W=w'):=hid (fun W h=>by have:=Zq2 s n k B W hn om h;rw [hP] at this;exact this)
 have HP:=hid hP
 have HM:=hid hM
 clear hrow hterm hP hM
 go_wp2_with fail
 go_region_law ((go_simp;go_at_call 118;refine (HROOM.out _ gs).mono ?_;rintro e w5 ⟨rfl,rfl⟩))
 all_goals go_wp2_with fail
 all_goals (try simp only [Exit.inBlock])
 all_goals refine bodyPost_end (v:=.tuple #[]) (by simp [results,Tryz.f79,go_sem]) rfl ?_
 all_goals
  have hm:ZpO (Vm s t)=false:=by rw [HRUN.out];rfl
  have e1:W9 t ZpX k s=0:=by rw [ZpN hm,HRUN.out];simp [ZpX,ZpO]
  have e2:W9 t Zp3 k s=0:=by rw [ZpN hm,HRUN.out];simp [Zp3]
  have e3:W9 t Zp2 k s=M:=by rw [ZpN hm,HRUN.out,HP.out,←HM.out];exact Nat.mul_comm _ _
  have e4:hL t k s=[(s,x)]:=by cases k<;>simp [hL,HRUN.out]
  refine ⟨rfl,ZtZ,.slice (some ⟨g,0,none⟩) (ps.length+1) cap,[((s,x),mv)],?_,by rw [e4];rfl⟩
  rw [e1,e2,e3]
  first|exact HC.out.drew.setB (b+M)|exact (HC.out.setB (b+M)).drew
end
section
section
variable {t:GT} (ht:(Z3 t).2=0) (ox:okT t) (hsz:Zb t≤1099511627776) (mt:TA) (n B:Nat) (hn12:n≤12)
include ht ox hsz hn12
set_option maxRecDepth 100000
set_option maxHeartbeats 4000000
theorem ZqN (k:Nat) (s:ByteArray) (w:World) (v:Value) (ps:List (GH×VA)) (m st b:Nat)
  (hn:s.size+k=n) (hbits:Zc s=true) (hr:Vm s t=.no 3) (hW:HkW w B t mt n v ps m st b) (hT:RT w (fun b=>b < B) t mt) (hs9:st+2 ^ k≤4096):
  Calls prog 79 #[.pointer (some ⟨B,0,none⟩),.string s] w (HkP w B t mt n k s ps m st b):=by
 obtain ⟨⟨k0,k1,k2,k3,k4,kf⟩,hrow0,hterm,hBw⟩:=hW
 have HW0:Hid (HkW w B t mt n v ps m st b):=hid ⟨⟨k0,k1,k2,k3,k4,kf⟩,hrow0,hterm,hBw⟩
 have HOX:=hid ox
 have HRUN:=hid hr
 have HE:=hid (Zdz ht hbits)
 have HT:=hid hT
 have hss:s.size≤9223372036854775807:=om
 obtain ⟨ma,mb,mc,md,me,mf,mg,mh,mi,mj,mk,ml⟩:=mt
 obtain ⟨c0,c1,c2,c3,c4,c5,c6,c7,c8,c9,ca,cb,cc,cd,ce⟩:=Zre.1 hterm
 clear ox hr hT hterm hrow0
 go_enter func79,ntmps79
 go_wp2_with (go_at_call 35;refine (ZfX t s _ (fun b=>b < B) ⟨ma,mb,mc,md,me,mf,mg,mh,mi,mj,mk,ml⟩ HOX.out hsz (by exact HT.out) hss HE.out 3 HRUN.out).mono ?_;rintro e w2 ⟨hb2,rfl⟩;have hz2:=hb2.size)
 refine ZT (fun W=>Below w.heap.size w W∧w2.heap.size < W.heap.size∧W.cell? ⟨w2.heap.size,0,none⟩=some (.int .u8 3)) ⟨ZtZ,sm,gs⟩ ?_
 rintro wa ⟨hba,hza,o0⟩
 have HWA:=hid (HW0.out.below hba)
 clear c0 c1 c2 c3 c4 c5 c6 c7 c8 c9 ca cb cc cd ce hb2 k0 k1 k2 k3 k4 kf
 obtain ⟨⟨k0,k1,k2,k3,k4,kf⟩, -, -,hBa⟩:=HWA.out
 have hba':Below B w wa:=hba.mono om
 obtain ⟨P,hP⟩:∃P,2 ^ k=P:=⟨_,rfl⟩
 rw [hP] at hs9
 have hw2:IntKind.i64.wrap ((st:Int)+(P:Int))=(st:Int)+(P:Int):=IntWalk.i64_in _ om
 have HROOM:Hid (∀W:World,W.cell? ⟨B,19,none⟩=some (.int .i64 n)→Calls prog 118 #[.pointer (some ⟨B,0,none⟩),.string s] W fun e w'=>e=.returned (.int .i64 P)∧W=w'):=hid (fun W h=>by have:=Zq2 s n k B W hn om h;rw [hP] at this;exact this)
 have HP:=hid hP
 clear hP
 go_wp2_with fail
 go_region_law ((go_simp;go_at_call 118;refine (HROOM.out _ gs).mono ?_;rintro e w5 ⟨rfl,rfl⟩))
 all_goals go_wp2_with fail
 all_goals (try simp only [Exit.inBlock])
 all_goals refine bodyPost_end (v:=.tuple #[]) (by simp [results,Tryz.f79,go_sem]) rfl ?_
 all_goals
  have hm:ZpO (Vm s t)=false:=by rw [HRUN.out];rfl
  have e1:W9 t ZpX k s=0:=by rw [ZpN hm,HRUN.out];simp [ZpX,ZpO]
  have e2:W9 t Zp3 k s=P:=by rw [ZpN hm,HRUN.out,HP.out];simp [Zp3]
  have e3:W9 t Zp2 k s=0:=by rw [ZpN hm,HRUN.out];simp [Zp2]
  have e4:hL t k s=[]:=by cases k<;>simp [hL,HRUN.out]
  refine ⟨rfl,ZtZ,v,[],?_,by rw [e4];rfl⟩
  rw [e1,e2,e3,List.append_nil]
  first|exact HWA.out.drew.setS (st+P)|exact (HWA.out.setS (st+P)).drew
theorem Zr0 (s:ByteArray) (w:World) (v:Value) (ps:List (GH×VA)) (m st b:Nat)
  (hn:s.size=n) (hbits:Zc s=true) (hr:Vm s t=.no 2) (hW:HkW w B t mt n v ps m st b) (hT:RT w (fun b=>b < B) t mt) (hm9:m+1≤4096) (hb9:b+12≤49152):
  Calls prog 79 #[.pointer (some ⟨B,0,none⟩),.string s] w (HkP w B t mt n 0 s ps m st b):=by
 have hnB:((s.size:Int)==(n:Int))=true:=by simp;omega
 obtain ⟨⟨k0,k1,k2,k3,k4,kf⟩,hrow0,hterm,hBw⟩:=hW
 have HW0:Hid (HkW w B t mt n v ps m st b):=hid ⟨⟨k0,k1,k2,k3,k4,kf⟩,hrow0,hterm,hBw⟩
 have HOX:=hid ox
 have HRUN:=hid hr
 have HE:=hid (Zdz ht hbits)
 have HT:=hid hT
 have hss:s.size≤9223372036854775807:=om
 obtain ⟨ma,mb,mc,md,me,mf,mg,mh,mi,mj,mk,ml⟩:=mt
 obtain ⟨c0,c1,c2,c3,c4,c5,c6,c7,c8,c9,ca,cb,cc,cd,ce⟩:=Zre.1 hterm
 clear ox hr hT hterm hrow0
 have hs12:s.size≤12:=om
 clear hn
 have hw1:IntKind.i64.wrap ((m:Int)+1)=(m:Int)+1:=IntWalk.i64_in _ om
 have hw2:IntKind.i64.wrap ((b:Int)+(s.size:Int))=(b:Int)+(s.size:Int):=IntWalk.i64_in _ om
 go_enter func79,ntmps79
 go_wp2_with (go_at_call 35;refine (ZfX t s _ (fun b=>b < B) ⟨ma,mb,mc,md,me,mf,mg,mh,mi,mj,mk,ml⟩ HOX.out hsz (by exact HT.out) hss HE.out 2 HRUN.out).mono ?_;rintro e w2 ⟨hb2,rfl⟩;have hz2:=hb2.size;have k0:=(hb2.cell (p:=⟨B,0,none⟩) hBw).trans k0;have k1:=(hb2.cell (p:=⟨B,1,none⟩) hBw).trans k1;have k3:=(hb2.cell (p:=⟨B,3,none⟩) hBw).trans k3;have k4:=(hb2.cell (p:=⟨B,19,none⟩) hBw).trans k4;have kf:∀k,w2.frozen? ⟨B,k,none⟩=false:=fun k=>(hb2.frozen (p:=⟨B,k,none⟩) hBw).trans (kf k);have hB2:B < w2.heap.size:=om)
 refine bodyPost_end (v:=.tuple #[]) (by simp [results,Tryz.f79,go_sem]) rfl ?_
 have e1:W9 t ZpX 0 s=1:=by rw [W9,HRUN.out];rfl
 have e2:W9 t Zp3 0 s=0:=by rw [W9,HRUN.out];rfl
 have e3:W9 t Zp2 0 s=s.size:=by rw [W9,HRUN.out];rfl
 have e4:hL t 0 s=[]:=by simp [hL,HRUN.out]
 refine ⟨rfl,ZtZ,v,[],?_,by rw [e4];rfl⟩
 simp only [e1,e2,e3,List.append_nil,Nat.add_zero]
 have h:=((HW0.out.below hb2).setM (m+1)).setB (b+s.size)
 simp only [Int.natCast_add,Int.natCast_one] at h
 exact h.below ((Below.refl _ _).alloc (Nat.le_refl _) _)
theorem Zsl:∀(k:Nat) (s:ByteArray) (w:World) (v:Value) (ps:List (GH×VA)) (m st b:Nat),
  s.size+k=n→Zc s=true→Zrf t s→HkW w B t mt n v ps m st b→RT w (fun b=>b < B) t mt→m+2 ^ k≤4096→st+2 ^ k≤4096→b+12*2 ^ k≤49152→ps.length+2 ^ k≤4096 →
  Calls prog 79 #[.pointer (some ⟨B,0,none⟩),.string s] w (HkP w B t mt n k s ps m st b):=by
 intro k
 induction k with
 | zero=>
  intro s w v ps m st b hn hb hl hW hT h1 h2 h3 h4
  have hin:=Zp7 ht ox hb
  rcases hr:Vm s t with ⟨x,u⟩|⟨q⟩
  ·obtain rfl:u=s.size:=hl x u hr
   exact ZrH ht ox hsz mt n 0 B s w v ps m st b x hn hn12 hb hr hW hT h3 (by simpa using h4)
  rw [hr] at hin
  rcases hin with rfl|rfl
  ·exact Zr0 ht ox hsz mt n B hn12 s w v ps m st b hn hb hr hW hT (by simpa using h1) (by simpa using h3)
  exact ZqN ht ox hsz mt n B hn12 0 s w v ps m st b hn hb hr hW hT h2
 | succ k ih=>
  intro s w v ps m st b hn hb hl hW hT h1 h2 h3 h4
  have hp:2 ^ (k+1)=2*2 ^ k:=by rw [Nat.pow_succ];omega
  have h0:0 < 2 ^ k:=Nat.pos_of_ne_zero sm
  have hin:=Zp7 ht ox hb
  rcases hr:Vm s t with ⟨x,u⟩|⟨q⟩
  ·obtain rfl:u=s.size:=hl x u hr
   exact ZrH ht ox hsz mt n (k+1) B s w v ps m st b x hn hn12 hb hr hW hT h3 om
  rw [hr] at hin
  rcases hin with rfl|rfl
  ·have hmore:ZpO (Vm s t)=true:=by rw [hr];rfl
   have hb0:=Zpz hb om (.inl rfl:(48:UInt8)=48∨(48:UInt8)=49)
   have hb1:=Zpz hb om (.inr rfl:(49:UInt8)=48∨(49:UInt8)=49)
   have hM0:=Zsn (t:=t) k (W3 s 48)
   have hS0:=Zso (t:=t) k (W3 s 48)
   have hB0:=Zq7 ht ox k (W3 s 48) hb0 (by rw [QP];omega)
   have hL0:=ZqO (t:=t) k (W3 s 48)
   have IH0:=hid (fun w v ps m st b=>ih (W3 s 48) w v ps m st b (by rw [QP];omega) hb0 (ZpF ht ox hb0 hmore))
   have IH1:=hid (fun w v ps m st b=>ih (W3 s 49) w v ps m st b (by rw [QP];omega) hb1 (ZpF ht ox hb1 hmore))
   have eM:=hid (Zq8 hmore ZpX k)
   have eS:=hid (Zq8 hmore Zp3 k)
   have eB:=hid (Zq8 hmore Zp2 k)
   have eL:Hid (hL t (k+1) s=hL t k (W3 s 48)++hL t k (W3 s 49)):=hid (by rw [hL,hr];simp)
   clear ih
   have hbits:=hb
   obtain ⟨⟨k0,k1,k2,k3,k4,kf⟩,hrow0,hterm,hBw⟩:=hW
   have HW0:Hid (HkW w B t mt n v ps m st b):=hid ⟨⟨k0,k1,k2,k3,k4,kf⟩,hrow0,hterm,hBw⟩
   have HOX:=hid ox
   have HRUN:=hid hr
   have HE:=hid (Zdz ht hbits)
   have HT:=hid hT
   have hss:s.size≤9223372036854775807:=om
   obtain ⟨ma,mb,mc,md,me,mf,mg,mh,mi,mj,mk,ml⟩:=mt
   obtain ⟨c0,c1,c2,c3,c4,c5,c6,c7,c8,c9,ca,cb,cc,cd,ce⟩:=Zre.1 hterm
   clear ox hr hT hterm hrow0
   have hnB:((s.size:Int)==(n:Int))=false:=by simp;omega
   have hcat0:s++⟨#[48]⟩=W3 s 48:=rfl
   have hcat1:s++⟨#[49]⟩=W3 s 49:=rfl
   go_enter func79,ntmps79
   go_wp2_with (first
    | (go_at_call 35;(with_reducible refine (ZfX t s _ (fun b=>b < B) ⟨ma,mb,mc,md,me,mf,mg,mh,mi,mj,mk,ml⟩ HOX.out hsz (by exact HT.out) hss HE.out 2 HRUN.out).mono ?_);rintro e w2 ⟨hb2,rfl⟩;have hz2:=hb2.size;have k4:=(hb2.cell (p:=⟨B,19,none⟩) hBw).trans k4;have hB2:B < w2.heap.size:=om)
    | (go_at_call 79;(with_reducible refine (IH0.out _ v ps m st b (by exact HW0.out.below ZtZ) (by exact Zt2 ar _ _ HT.out) om om om om).mono ?_);rintro e w3 ⟨rfl,hb3,v3,ps3,hW3,hl3⟩;have HW3:=hid hW3;have HL3:=hid hl3;clear hW3 hl3;have hz3:=hb3.size;(try simp at hz3);have hbw3:Below B w w3:=(by (exact ZtZ));have HT3:=hid (Zt2 (show Agree (fun b=>b < B) w w3 from fun p u hp hc=>⟨(hbw3.cell hp).trans hc,hbw3.frozen hp⟩) _ _ HT.out);have Q3:(ps++ps3).length+2 ^ k≤4096:=(by have h:=HL3.out;have h5:=congrArg List.length h;rw [List.length_map] at h5;rw [List.length_append];omega))
    | (go_at_call 79;(with_reducible refine (IH1.out _ v3 (ps++ps3) (m+W9 t ZpX k (W3 s 48)) (st+W9 t Zp3 k (W3 s 48)) (b+W9 t Zp2 k (W3 s 48)) (by exact HW3.out) (by exact HT3.out) om om om Q3).mono ?_);rintro e w4 ⟨rfl,hb4,v4,ps4,hW4,hl4⟩;have HW4:=hid hW4;have HL4:=hid hl4;clear hW4 hl4))
   refine bodyPost_end (v:=.tuple #[]) (by simp [results,Tryz.f79,go_sem]) rfl ?_
   refine ⟨rfl,hbw3.trans hb4,v4,ps3++ps4,?_,by rw [eL.out,List.map_append,HL3.out,HL4.out]⟩
   rw [eM.out,eS.out,eB.out,←List.append_assoc,←Nat.add_assoc,←Nat.add_assoc,←Nat.add_assoc]
   exact HW4.out
  exact ZqN ht ox hsz mt n B hn12 (k+1) s w v ps m st b hn hb hr hW hT h2
end
end
end Go.Proofs.YtkdffbdnjfgpeaaGreat
