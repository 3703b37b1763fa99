/- Part 62. -/
import Derived.Test.YtclphfojkggcpaaGreatDoorX16
import Derived.Test.YtclphfojkggcpaaGreatDoorX42
import Derived.Test.YtclphfojkggcpaaGreatDoorX56
set_option linter.all false
namespace Go.Proofs.YtclphfojkggcpaaGreatDoor
open Go.Lib (hid)
open Go Go.RowKit Go.Proofs.Tryz
abbrev AV (x:GT) (m:TA) (p:GP) (q:PA):Value:=.agg #[.int .u8 x.k,.int .u8 x.v.k,.int .i64 x.v.n,.slice m.va x.v.l.length m.vc,.slice m.vsa x.vs.length m.vsc,.int .i64 x.lo,.int .i64 x.hi,.slice m.wa x.w.length m.wc,
 .int .u8 x.p.k,.int .u8 x.p.v.k,.int .i64 x.p.v.n,.slice m.pva x.p.v.l.length m.pvc,.int .i64 x.p.n,.slice m.pa x.p.a.length m.pc,.slice m.a x.a.length m.c,.int .u8 p.k,.int .u8 p.v.k,.int .i64 p.v.n,.slice q.va p.v.l.length q.vc,.int .i64 p.n,.slice q.a p.a.length q.c]
def ZjL (r:Option (ByteArray×GV)) (w:World) (e:Ending) (w':World):Prop:=match r with
 | none=>e=.returned (.tuple #[.string ⟨#[]⟩,.agg #[.int .u8 0,.int .i64 0,.slice none 0 0],.bool false])
 | some r=>∃m:VA,e=.returned (.tuple #[.string r.1,VV r.2 m,.bool true])∧RV w' (fun b=>w.heap.size≤b) r.2 m.a
theorem WN {W:World} {n:Nat} (v0 v1 v2:Value):Agree (fun b=>n+1≤b) W (((W.setCell ⟨n,0,none⟩ v0).setCell ⟨n,1,none⟩ v1).setCell ⟨n,2,none⟩ v2):=
 ((ZmA (p:=⟨n,0,none⟩) (fun h=>absurd h (Nat.not_succ_le_self n))).trans (ZmA (p:=⟨n,1,none⟩) (fun h=>absurd h (Nat.not_succ_le_self n)))).trans (ZmA (p:=⟨n,2,none⟩) (fun h=>absurd h (Nat.not_succ_le_self n)))
theorem Znd {p:Prop} (h:p:=by
 have r0:w1.cell? ⟨w.heap.size+1,0,none⟩=some (.int .u8 0):=gs
 have q0:w1.frozen? ⟨w.heap.size+1,0,none⟩=false:=gs
 have r1:w1.cell? ⟨w.heap.size+1,1,none⟩=some (.int .i64 0):=gs
 have q1:w1.frozen? ⟨w.heap.size+1,1,none⟩=false:=gs
 have r2:w1.cell? ⟨w.heap.size+1,2,none⟩=some (.slice none 0 0):=gs
 have q2:w1.frozen? ⟨w.heap.size+1,2,none⟩=false:=gs
 refine bodyPost_ret (v:=(.tuple #[.string ⟨#[]⟩,.agg #[.int .u8 0,.int .i64 0,.slice none 0 0],.bool false])) (by first|(simp [results,Tryz.f28,go_sem];done)|(simp [results,Tryz.f28,go_sem, *];done)) rfl ?_
 exact ⟨ZlD,rfl⟩):p:=h
set_option maxRecDepth 100000
set_option maxHeartbeats 4000000
theorem QR (t:GT) (p:GP) (u:ByteArray) (w:World) (A A2:Nat→Prop) (m:TA) (mp:PA) (ox:okT t) (hs:Zb t≤1099511627776) (hl:RT w A t m) (op:okP p) (hp:Zm p≤1099511627776) (hr:RP w A2 p mp) (hus:u.size≤9223372036854775807) (hmay:Xo p=true):
  Calls prog 28 #[AV t m p mp,.string u] w fun e w'=>Below w.heap.size w w'∧ZjL (Yf t p u) w e w':=by
 obtain ⟨ma,mb,mc,md,me,mf,mg,mh,mi,mj,mk,ml⟩:=m
 obtain ⟨na,nb,nc,nd⟩:=mp
 have HL:=hid hl
 have HR:=hid hr
 have OX:=hid ox
 have OP:=hid op
 have HM:=hid hmay
 clear hl hr ox op hmay
 unfold Yf
 by_cases hE:ZP t u=0
 case neg=>
  rw [if_pos hE]
  have h1':(ZP t u != 0)=true:=by simp [hE]
  clear hE
  go_enter func28,ntmps28
  go_wp2_with (go_at_call 26;refine (Vz t u _ A ⟨ma,mb,mc,md,me,mf,mg,mh,mi,mj,mk,ml⟩ OX.out hs (by exact ZlV az _ _ HL.out) hus).mono ?_;rintro e w1 ⟨hb1,k,v,m,n1,rfl⟩;have hz1:=hb1.size;(try simp at hz1);obtain ⟨hc1,hf1⟩:=Za hb1;have y0:w.heap.size < w1.heap.size:=om;have y1:w.heap.size+1 < w1.heap.size:=om)
  exact Znd
 have h1':(ZP t u != 0)=false:=by simp [hE]
 rw [if_neg (by simp [hE])]
 have HE:=hid hE
 have hin:=Vy hE OX.out
 clear hE
 rcases hR:Vm u t with ⟨v,k⟩|⟨k⟩
 case no=>
  rw [hR] at hin
  have HRR:=hid hR
  have hk:((k:Int) != 1)=true:=by rcases hin with rfl|rfl<;>rfl
  have hk1:Yg k:=by rcases hin with rfl|rfl<;>(unfold Yg;omega)
  clear hR hin
  go_enter func28,ntmps28
  go_wp2_with (go_at_call 26;refine (ZfX t u _ A ⟨ma,mb,mc,md,me,mf,mg,mh,mi,mj,mk,ml⟩ OX.out hs (by exact ZlV az _ _ HL.out) hus HE.out k HRR.out).mono ?_;rintro e w1 ⟨hb1,rfl⟩;have hz1:=hb1.size;(try simp at hz1);obtain ⟨hc1,hf1⟩:=Za hb1;have y0:w.heap.size < w1.heap.size:=om;have y1:w.heap.size+1 < w1.heap.size:=om)
  exact Znd
 rw [hR] at hin
 obtain ⟨i1,i2,i3⟩:=hin
 have HRR:=hid hR
 have OV3:=hid i3
 clear hR i3
 dsimp only
 by_cases hh:Zh p v=true
 ·rw [if_pos hh]
  have HH:=hid (show (Xo p&&Zh p v)=true by rw [HM.out,hh];rfl)
  clear hh
  go_enter func28,ntmps28
  go_wp2_with (first
   | (go_at_call 26;refine (ZdB t u _ A ⟨ma,mb,mc,md,me,mf,mg,mh,mi,mj,mk,ml⟩ OX.out hs (by exact ZlV az _ _ HL.out) hus HE.out v k HRR.out).mono ?_;rintro e w1 ⟨hb1,mv,rfl,hrv⟩;have HRV:=hid hrv;clear hrv;have hz1:=hb1.size;(try simp at hz1);obtain ⟨hc1,hf1⟩:=Za hb1;have y0:w.heap.size < w1.heap.size:=om;have y1:w.heap.size+1 < w1.heap.size:=om)
   | (go_at_call 49;refine (Xs p v true HH.out A2 (fun _=>True) ⟨na,nb,nc,nd⟩ mv _ OP.out hp (by exact ZmP az _ _ HR.out) OV3.out (by exact ZmO (fun _ _ _=>trivial) _ _ (ZmG (ZlH (Below.mono (B:=w1.heap.size) ZlD (Nat.le_refl _))) _ _ HRV.out))).mono ?_;rintro e w2 ⟨rfl,hb2⟩;have hz2:=hb2.size;(try simp at hz2);obtain ⟨hc2,hf2⟩:=Za hb2;have y2:w.heap.size < w2.heap.size:=om;have y3:w.heap.size+1 < w2.heap.size:=om))
  have r0:w2.cell? ⟨w.heap.size+1,0,none⟩=some (.int .u8 0):=gs
  have q0:w2.frozen? ⟨w.heap.size+1,0,none⟩=false:=gs
  have r1:w2.cell? ⟨w.heap.size+1,1,none⟩=some (.int .i64 0):=gs
  have q1:w2.frozen? ⟨w.heap.size+1,1,none⟩=false:=gs
  have r2:w2.cell? ⟨w.heap.size+1,2,none⟩=some (.slice none 0 0):=gs
  have q2:w2.frozen? ⟨w.heap.size+1,2,none⟩=false:=gs
  refine bodyPost_ret (v:=(.tuple #[.string ⟨#[]⟩,.agg #[.int .u8 0,.int .i64 0,.slice none 0 0],.bool false])) (by first|(simp [results,Tryz.f28,go_sem];done)|(simp [results,Tryz.f28,go_sem, *];done)) rfl ?_
  exact ⟨ZlD,rfl⟩
 rw [if_neg hh]
 have HH:=hid (show (Xo p&&Zh p v)=false by rw [HM.out];simpa using hh)
 have x1:(k:Int)≤(u.size:Int):=om
 clear hh
 go_enter func28,ntmps28
 go_wp2_with (first
  | (go_at_call 26;refine (ZdB t u _ A ⟨ma,mb,mc,md,me,mf,mg,mh,mi,mj,mk,ml⟩ OX.out hs (by exact ZlV az _ _ HL.out) hus HE.out v k HRR.out).mono ?_;rintro e w1 ⟨hb1,mv,rfl,hrv⟩;have HRV:=hid hrv;clear hrv;have hz1:=hb1.size;(try simp at hz1);obtain ⟨hc1,hf1⟩:=Za hb1;have y0:w.heap.size < w1.heap.size:=om;have y1:w.heap.size+1 < w1.heap.size:=om)
  | (go_at_call 49;refine (Xs p v false HH.out A2 (fun _=>True) ⟨na,nb,nc,nd⟩ mv _ OP.out hp (by exact ZmP az _ _ HR.out) OV3.out (by exact ZmO (fun _ _ _=>trivial) _ _ (ZmG (ZlH (Below.mono (B:=w1.heap.size) ZlD (Nat.le_refl _))) _ _ HRV.out))).mono ?_;rintro e w2 ⟨rfl,hb2⟩;have hz2:=hb2.size;(try simp at hz2);obtain ⟨hc2,hf2⟩:=Za hb2;have y2:w.heap.size < w2.heap.size:=om;have y3:w.heap.size+1 < w2.heap.size:=om;have y4:w1.heap.size < w2.heap.size:=om))
 obtain ⟨vk,vn,vl⟩:=v
 obtain ⟨va,vc⟩:=mv
 have hbw:Below w1.heap.size w1 w2:=ZlD
 have HW2:=hid (ZmG (ZlH hbw) _ _ HRV.out)
 have k0:w2.cell? ⟨w1.heap.size,0,none⟩=some (.int .u8 1):=gs
 have k1:w2.cell? ⟨w1.heap.size,1,none⟩=some (.int .u8 vk):=gs
 have k2:w2.cell? ⟨w1.heap.size,2,none⟩=some (.int .i64 vn):=gs
 have k3:w2.cell? ⟨w1.heap.size,3,none⟩=some (.slice va vl.length vc):=gs
 have k4:w2.cell? ⟨w1.heap.size,4,none⟩=some (.int .i64 k):=gs
 have hB:Below w.heap.size w w2:=ZlD
 have r0:w2.cell? ⟨w.heap.size+1,0,none⟩=some (.int .u8 0):=gs
 have q0:w2.frozen? ⟨w.heap.size+1,0,none⟩=false:=gs
 have r1:w2.cell? ⟨w.heap.size+1,1,none⟩=some (.int .i64 0):=gs
 have q1:w2.frozen? ⟨w.heap.size+1,1,none⟩=false:=gs
 have r2:w2.cell? ⟨w.heap.size+1,2,none⟩=some (.slice none 0 0):=gs
 have q2:w2.frozen? ⟨w.heap.size+1,2,none⟩=false:=gs
 clear hc1 hc2 hf1 hf2
 go_region_held3 (fun W=>∀j,W.cell? ⟨w1.heap.size,j,none⟩=w2.cell? ⟨w1.heap.size,j,none⟩) ((intro j;first|(refine Below.cell (B:=w2.heap.size) (w:=w2) (p:=⟨w1.heap.size,j,none⟩) ?_ y4;((repeat (first|with_reducible exact Below.refl _ _|with_reducible assumption|with_reducible refine Below.trans ?_ (Below.mono (by with_reducible assumption) (by first|omega|(simp;done)|(simp;omega)))|with_reducible refine Below.drew ?_|with_reducible refine Below.alloc ?_ (by first|omega|(simp;done)|(simp;omega)) _|with_reducible refine Below.setCell ?_ (by first|omega|(simp;done)|(simp;omega)) _));done);done)|go_simp)) ((fail))
 all_goals go_wp2_with fail
 all_goals refine bodyPost_ret (v:=(.tuple #[.string (u.extract 0 k),VV ⟨vk,vn,vl⟩ ⟨va,vc⟩,.bool true])) (by first|(simp [results,Tryz.f28,go_sem];done)|(simp [results,Tryz.f28,go_sem, *];done)) rfl ?_
 all_goals exact ⟨ZlD,⟨va,vc⟩,rfl,ZmO (A:=fun b=>w.heap.size+1+1≤b) (fun b h _=>om) _ _ (ZmG ((WN _ _ _).trans (ZlH (Below.drew (Below.refl _ _)))) _ _ (ZmO (fun b h _=>by simpa using h) _ _ HW2.out))⟩
section
open Go Go.RowKit Go.Shelf
attribute [local go_sem] Oper.semAt_some
set_option maxRecDepth 512
theorem ZiE {t:GT} {p:GP} {a b:List ByteArray} {r:ByteArray×GV} (h:a <+: b) (ha:Yn t p a=some r):Yn t p b=some r:=by
 obtain ⟨c,rfl⟩:=h
 rw [UD,ha]
theorem ZcO {t:GT} {p:GP} {a:List ByteArray} {x:ByteArray} (ha:Yn t p a=none):Yn t p (a++[x])=Yf t p x:=by
 rw [UD,ha]
 simp only [Yn]
 cases Yf t p x<;>rfl
theorem ZcR {t:GT} {p:GP} {k:Nat} (hk:k < 1024) {s:ByteArray} {y:GV} {r:ByteArray×GV} (h:Yn t p (Xu s)=some r):YO t p (1024 - k) s y k=YO t p (1024 - (k+1)) r.1 r.2 (k+1):=by
 rw [show 1024 - k=(1024 - (k+1))+1 by omega,YO,h]
theorem ZcQ {t:GT} {p:GP} {k:Nat} {s:ByteArray} {y:GV} (h:Yn t p (Xu s)=none):YO t p (1024 - k) s y k=(s,y,k):=by
 cases hk:1024 - k with
 | zero=>rfl
 | succ n=>rw [YO,h]
theorem ZcP {t:GT} {p:GP} {s:ByteArray} {y:GV}:YO t p (1024 - 1024) s y 1024=(s,y,1024):=rfl
def shI (t:GT) (p:GP) (W1:World):List Bit→World→Prop:=fun pre W'=>Below W1.heap.size W1 W'∧Hid (Yn t p (pre.map Subtype.val)=none)
def shX (t:GT) (p:GP) (w:World) (A:Nat→Prop) (L:List Value) (k:Nat) (Ds:List Nat):Code→List Bit→World→Prop:=fun c pre W'=>∃(r:ByteArray×GV) (my':VA),Hid (c=.exit 1∧Yn t p (pre.map Subtype.val)=some r∧Zc r.1=true)∧SMem w A L (k+1) r.1 r.2 my' Ds W'
theorem ZfU {t:GT} {p:GP} {w W1 W2 w3:World} {A:Nat→Prop} {L:List Value} {k:Nat} {s s':ByteArray} {y:GV} {my:VA} {Ds:List Nat} {pre:List Bit} {x:Bit} {yk yn:Int} {yl:List GV} {ya:Option Addr} {yc:Nat} (a:Act) (o:Obj)
  (hm:SMem w A L k s y my Ds W2) (hb3:Below W2.heap.size W2 w3) (hsc:Yn t p (pre.map Subtype.val)=none) (hf:Yf t p x.1=some (s',⟨yk,yn,yl⟩)) (hb:Zc s'=true) (hrv:RV w3 (fun b=>W2.heap.size≤b) ⟨yk,yn,yl⟩ ya):
  ownPostK (KC fun _=>False) (shI t p W1) (shX t p w A L k Ds) (pre++[x]) W2 (.exit 1) a
   ((((((w3.setCell ⟨w.heap.size+1,0,none⟩ (.string s')).setCell ⟨w.heap.size+2,0,none⟩ (.int .u8 yk)).setCell ⟨w.heap.size+2,1,none⟩ (.int .i64 yn)).setCell ⟨w.heap.size+2,2,none⟩ (.slice ya yl.length yc)).setCell ⟨w.heap.size+4,0,none⟩ (.int .i64 ((k:Int)+1))).alloc o).drew:=
 ⟨(((((((KS (KeepsOthers.refl _) hb3).trans (KeepsOthers.setCell _ _ _)).trans (KeepsOthers.setCell _ _ _)).trans (KeepsOthers.setCell _ _ _)).trans (KeepsOthers.setCell _ _ _)).trans (KeepsOthers.setCell _ _ _)).trans (KeepsOthers.alloc _ _)).trans (KeepsOthers.drew _),
  (s',⟨yk,yn,yl⟩),⟨ya,yc⟩,hid ⟨rfl,(by rw [List.map_append];exact (ZcO hsc).trans hf),hb⟩,
  SMem.below (SMem.store (hm.below hb3) s' ⟨yk,yn,yl⟩ ⟨ya,yc⟩ (ZmO (fun b h _=>by have:=hm.sz;omega) _ _ hrv)) (Below.drew (Below.alloc (Below.refl _ _) (Nat.le_refl _) _))⟩
theorem ZfT {t:GT} {p:GP} {w W1 W2 w3:World} {A:Nat→Prop} {L:List Value} {k:Nat} {Ds:List Nat} {pre:List Bit} {x:Bit} (a:Act) (o:Obj)
  (hB:Below W1.heap.size W1 W2) (hb3:Below W2.heap.size W2 w3) (hsc:Yn t p (pre.map Subtype.val)=none) (hf:Yf t p x.1=none):
  ownPostK (KC fun _=>False) (shI t p W1) (shX t p w A L k Ds) (pre++[x]) W2 .normal a (w3.alloc o):=
 have h3:Below W2.heap.size W2 (w3.alloc o):=Below.alloc hb3 hb3.size _
 ⟨(KS (KeepsOthers.refl _) hb3).trans (KeepsOthers.alloc _ _),KC.below (Znn _ _) h3,hB.trans (h3.mono hB.size),hid (by rw [List.map_append];exact (ZcO hsc).trans hf)⟩
theorem Zpk {p:Prop} (h:p:=by first|(exact Below.trans ZlD (Below.mono hb9 om))|(exact ZmO (A:=fun b=>(A3 b∧b < w.heap.size)∨w.heap.size+5≤b) (fun b h _=>h.elim (fun h=>Or.inl h.1) (fun h=>Or.inr om)) _ _ (ZmG (fun p v _ hc=>ha9 p v trivial hc) _ _ (ZmG (by repeat (first|with_reducible exact Agree.refl _ _|with_reducible refine Agree.trans ?_ (ZmA (fun h=>by rcases h with ⟨_,h⟩|h<;>(simp at h;try omega)))|with_reducible refine Agree.trans ?_ (ZlH (Below.drew (Below.refl _ _))))) _ _ RVX.out)))):p:=h
set_option maxRecDepth 100000
set_option maxHeartbeats 32000000
theorem ZaD (t:GT) (p:GP) (u:ByteArray) (v:GV) (w:World) (A A2 A3:Nat→Prop) (m:TA) (mp:PA) (mv:VA) (ox:okT t) (hs:Zb t≤1099511627776) (hl:RT w A t m) (op:okP p) (hp:Zm p≤1099511627776) (hr:RP w A2 p mp) (hmay:Xo p=true)
  (hu:Zc u=true) (hrv:RV w A3 v mv.a) (hG:GW w):
  Calls prog 29 #[AV t m p mp,.string u,VV v mv] w fun e w'=>Below w.heap.size w w'∧∃my:VA,e=.returned (.tuple #[.string (YO t p 1024 u v 0).1,VV (YO t p 1024 u v 0).2.1 my,.int .i64 (YO t p 1024 u v 0).2.2])∧RV w' (fun b=>A3 b∨w.heap.size≤b) (YO t p 1024 u v 0).2.1 my.a:=by
 refine (callsIn_wide (n:=5)).1 ?_
 obtain ⟨ma,mb,mc,md,me,mf,mg,mh,mi,mj,mk,ml⟩:=m
 obtain ⟨na,nb,nc,nd⟩:=mp
 obtain ⟨va,vc⟩:=mv
 have HL:=hid hl
 have HR:=hid hr
 have OX:=hid ox
 have OP:=hid op
 have HM:=hid hmay
 have HU:=hid hu
 have HV:=hid hrv
 have HG:=hid hG
 generalize hT:YO t p 1024 u v 0=T
 have HT:=hid hT
 clear hl hr ox op hmay hu hrv hG hT
 refine callsIn_of_wp_marks func29 rfl trivial ?_ rfl
 simp only [ntmps29,List.size_toArray,List.length_cons,List.length_nil,Nat.reduceAdd,Nat.reduceSub,Array.replicate_succ,Array.replicate_zero,List.push_toArray,List.append_toArray,List.nil_append,List.cons_append]
 refine wpIn_wide.2 ?_
 go_wp2_with fail
 refine wp_scope_straight ?_
 go_wp2_with fail
 go_step3
 go_wp2_with fail
 refine ZT (fun W=>SMem w A3 (avL t ⟨ma,mb,mc,md,me,mf,mg,mh,mi,mj,mk,ml⟩ p ⟨na,nb,nc,nd⟩) 0 u v ⟨va,vc⟩ [] W) ?_ ?_
 ·as_aux_lemma=>
   exact ⟨ZlD,sm,Zlk.2 ⟨gs,gs,gs,gs,gs,gs,gs,gs,gs,gs,gs,gs,gs,gs,gs,gs,gs,gs,gs,gs,gs⟩,
    gs,gs,gs,gs,gs,gs,gs,gs,gs,gs,gs,gs,gs,gs,gs,gs,
    ZmG ar _ _ (ZmO (fun b h hb=>Or.inl ⟨h,hb⟩) _ _ HV.out),List.nodup_nil,fun D h=>by simp at h⟩
 intro W0 H0
 refine wp_loop_ghost_k (fun gk a W=>∃(x14 x15 x16 x17:Value) (ds:List Deferred),Hid (∃(k:Nat) (s:ByteArray) (y:GV) (my:VA) (Ds:List Nat),gk+k=1025∧k≤1024∧ds=Ds.map ZjT∧YO t p (1024 - k) s y k=T∧Zc s=true ∧
   SMem w A3 (avL t ⟨ma,mb,mc,md,me,mf,mg,mh,mi,mj,mk,ml⟩ p ⟨na,nb,nc,nd⟩) k s y my Ds W) ∧
   a={ tmps:=#[AV t ⟨ma,mb,mc,md,me,mf,mg,mh,mi,mj,mk,ml⟩ p ⟨na,nb,nc,nd⟩,.string u,VV v ⟨va,vc⟩,.pointer (some ⟨w.heap.size,0,none⟩),.pointer (some ⟨w.heap.size+1,0,none⟩),.pointer (some ⟨w.heap.size+2,0,none⟩),.string ⟨#[]⟩,.pointer (some ⟨w.heap.size+3,0,none⟩),.int .i64 0,.pointer (some ⟨w.heap.size+4,0,none⟩),
    undef,undef,undef,undef,x14,x15,x16,x17,undef,undef,undef,undef,undef,undef,undef,undef,undef,undef,undef,undef,undef,undef,undef,undef],defers:=ds }) 1025 ⟨undef,undef,undef,undef,[],hid ⟨0,u,v,⟨va,vc⟩,[],om,om,rfl,HT.out,HU.out,H0⟩,rfl⟩ ?_
 rintro gk a W ⟨x14,x15,x16,x17,ds,HI,rfl⟩ J K hJ hK
 obtain ⟨k,s,y,my,Ds,hgk,hk,rfl,hsh,hus,hm⟩:=HI.out
 by_cases hk1:k=1024
 ·subst hk1
  rw [ZcP] at hsh
  subst hsh
  clear HT HI hJ hK
  as_aux_lemma=>
   have c4:=hm.c4
   have c1:=hm.c1
   obtain ⟨bw,sz, -,c1,f1,c20,c21,c22,f20,f21,f22,c30,c31,c32,f30,f31,f32,c4,f4,rv,nd',dsx⟩:=hm
   have RVX:=hid rv
   have DSX:=hid dsx
   have ND:=hid nd'
   have BW:=hid bw
   clear rv dsx nd' bw
   go_wp2_with fail
   go_region_held3 (fun W'=>(∀j,W'.cell? ⟨w.heap.size+1,j,none⟩=W.cell? ⟨w.heap.size+1,j,none⟩)∧(∀j,W'.cell? ⟨w.heap.size+2,j,none⟩=W.cell? ⟨w.heap.size+2,j,none⟩)∧(∀j,W'.cell? ⟨w.heap.size+4,j,none⟩=W.cell? ⟨w.heap.size+4,j,none⟩)) ((refine ⟨fun j=>?_,fun j=>?_,fun j=>?_⟩<;>(first|rfl|go_simp))) ((fail))
   all_goals go_wp2_with fail
   all_goals rw [Exit.noGoto_ret]
   all_goals have hbw:=BW.out
   all_goals refine UV (w.heap.size+5) Ds _ ND.out (fun D hD=>⟨(DSX.out D hD).1,(show KeepsOthers W _ from (by repeat (first|with_reducible exact KeepsOthers.refl _|with_reducible refine KeepsOthers.trans ?_ (KeepsOthers.setCell _ _ _)|with_reducible refine KeepsOthers.trans ?_ (KeepsOthers.drew _)))).same D _ (DSX.out D hD).2 rfl⟩) (fun W9 hb9 ha9=>?_)
   all_goals have q0:W9.cell? ⟨w.heap.size+3,0,none⟩=some (.int .u8 y.k):=(ha9 _ _ trivial gs).1
   all_goals have q1:W9.cell? ⟨w.heap.size+3,1,none⟩=some (.int .i64 y.n):=(ha9 _ _ trivial gs).1
   all_goals have q2:W9.cell? ⟨w.heap.size+3,2,none⟩=some (.slice my.a y.l.length my.c):=(ha9 _ _ trivial gs).1
   all_goals refine ⟨.tuple #[.string s,VV y my,.int .i64 (1024:Nat)],by (first|(simp [results,Tryz.f29,go_sem];done)|(simp [results,Tryz.f29,go_sem, *];done)),?_,my,rfl,?_⟩
   all_goals exact Zpk
 have hk2:k < 1024:=om
 have h4:=hm.c4
 have h1:=hm.c1
 clear HI H0 HT
 go_wp2_with (go_at_call 50;refine (Zh3 s _).mono ?_;rintro e w1 ⟨rfl,rfl⟩)
 obtain ⟨W1,hW1⟩:∃W1,W1=W.alloc (.cells #[.string s] 9):=⟨_,rfl⟩
 have hm1:SMem w A3 (avL t ⟨ma,mb,mc,md,me,mf,mg,mh,mi,mj,mk,ml⟩ p ⟨na,nb,nc,nd⟩) k s y my Ds W1:=by rw [hW1];exact hm.below (Below.alloc (Below.refl _ _) (Nat.le_refl _) _)
 have hc1:W1.cell? ⟨W.heap.size,0,none⟩=some (.string s):=by rw [hW1];go_simp
 have hs1:W1.heap.size=W.heap.size+1:=by rw [hW1];simp
 rw [←hW1]
 clear hW1
 have hsz:=hm.sz
 have hds:∀D∈Ds,D < W1.heap.size:=fun D hD=>(Array.getElem?_eq_some_iff.1 (hm1.ds D hD).2).1
 have HDS:=hid hds
 have HUS:=hid hus
 have HM1:=hid hm1
 have HSH:=hid hsh
 have hg1:GW W1:=HG.out.below hm1.bw
 clear hm hds hus hm1 h4 h1 hsh
 refine (wpIn_wide (n:=5)).1 ?_
 refine wpIn_rangeFunc_ownF rfl om (gf:=83) (lb:=#[.pointer (some ⟨W.heap.size,0,none⟩)]) rfl trivial (enters_of func83 kr rfl)
  (Ze3 4 (fun _=>False) s W1 W.heap.size HUS.out (fun h=>h) (fun h=>h) hc1 (fun _ _ h=>h) hg1) (fun h k=>KC.trans h k) (fun W l o o' _ h1 h2 _=>KC.putObj l o o' h1 h2) (Below.refl _ _) (fun _=>rfl)
  (shI t p W1) (shX t p w A3 (avL t ⟨ma,mb,mc,md,me,mf,mg,mh,mi,mj,mk,ml⟩ p ⟨na,nb,nc,nd⟩) k Ds)
  (OwnFrom.and (ownFrom_below (Nat.le_refl _) om) (fun s A B row hs hg hr=>hs))
  (fun c s A B row hs hg hr=>by
   obtain ⟨r,my',h1,h2⟩:=hs
   exact ⟨r,my',h1,h2.own hg hr om HDS.out⟩) ⟨Below.refl _ _,rfl⟩
  (fun x=>{ tmps:=#[AV t ⟨ma,mb,mc,md,me,mf,mg,mh,mi,mj,mk,ml⟩ p ⟨na,nb,nc,nd⟩,.string u,VV v ⟨va,vc⟩,.pointer (some ⟨w.heap.size,0,none⟩),.pointer (some ⟨w.heap.size+1,0,none⟩),.pointer (some ⟨w.heap.size+2,0,none⟩),.string ⟨#[]⟩,.pointer (some ⟨w.heap.size+3,0,none⟩),.int .i64 0,.pointer (some ⟨w.heap.size+4,0,none⟩),
    .string x.1,undef,undef,undef,.int .i64 k,.bool true,.string s,.func (.func 83) #[] #[.pointer (some ⟨W.heap.size,0,none⟩)],.string x.1,undef,undef,undef,undef,undef,undef,undef,undef,undef,undef,undef,undef,undef,undef,undef],defers:=[] }) ?assign ?body ?done ?stop
 case assign=>
  intro l x W K hK
  gi_wp2
  (try simp)
  exact hK
 case body=>
  as_aux_lemma=>
   rintro l pre x W2 ⟨hB2,HSC⟩ hlen
   have hm2:SMem w A3 (avL t ⟨ma,mb,mc,md,me,mf,mg,mh,mi,mj,mk,ml⟩ p ⟨na,nb,nc,nd⟩) k s y my Ds W2:=HM1.out.below hB2
   have HM2:=hid hm2
   have hxs:=Wl x.2
   have hcl:=QR t p x.1 W2 A A2 ⟨ma,mb,mc,md,me,mf,mg,mh,mi,mj,mk,ml⟩ ⟨na,nb,nc,nd⟩ OX.out hs (ZlV (ZlH hm2.bw) _ _ HL.out) OP.out hp (ZmP (ZlH hm2.bw) _ _ HR.out) om HM.out
   have HC:=hid hcl
   have HAT:=hid (show W2.rangeAt w.heap.size 0 _ from Xb hm2.a)
   have hsz2:=hm2.sz
   have hz0:w.heap.size < W2.heap.size:=om
   clear hm2 hcl
   gi_wp2_with (refine JG l rfl rfl (fun _=>trivial) 65 _ rfl w.heap.size 0 (by rfl) (avL t ⟨ma,mb,mc,md,me,mf,mg,mh,mi,mj,mk,ml⟩ p ⟨na,nb,nc,nd⟩) _ HAT.out underlying65 rfl kr ?_)
   refine ⟨trivial,(CallsIn.inRound l (callsIn_wide.2 HC.out)).mono ?_⟩
   clear HAT HC
   cases hF:Yf t p x.1 with
   | none=>
    as_aux_lemma=>
     have HF:=hid hF
     clear hF
     rintro e w3 ⟨hb3,rfl⟩
     have hz3:=hb3.size
     gi_wp2
     exact ZfT _ _ hB2 hb3 HSC.out HF.out
   | some r=>
    as_aux_lemma=>
     have HF:=hid hF
     clear hF
     obtain ⟨s',yk,yn,yl⟩:=r
     rintro e w3 ⟨hb3,⟨na',nc'⟩,rfl,hrv3⟩
     have hz3:=hb3.size
     have HRV3:=hid hrv3
     have hm3:=HM2.out.below hb3
     obtain ⟨bw,sz, -,c1,f1,c20,c21,c22,f20,f21,f22,c30,c31,c32,f30,f31,f32,c4,f4,rv,nd',dsx⟩:=hm3
     have y1:w.heap.size+1 < w3.heap.size:=om
     have y2:w.heap.size+2 < w3.heap.size:=om
     have y4:w.heap.size+4 < w3.heap.size:=om
     have hmx:prog.follows .mixedOrders=true:=kr
     have hwr:IntKind.i64.wrap ((k:Int)+1)=(k:Int)+1:=IntWalk.i64_in _ om
     clear hrv3 rv nd' dsx
     gi_wp2
     gi_region_o
     all_goals gi_wp2
     all_goals exact ZfU _ _ HM2.out hb3 HSC.out HF.out (Wp OX.out HF.out).2.1 HRV3.out
 case done=>
  as_aux_lemma=>
   rintro D xs W2 hD hxs ⟨hB2,HSC⟩ hKD
   have hq:Yn t p (Xu s)=none:=hxs ▸ HSC.out
   have hsh:=HSH.out
   rw [ZcQ hq] at hsh
   subst hsh
   have hm2:=(HM1.out.below hB2).mark hKD hD om HDS.out
   clear HSH HM1 HDS HSC hB2 hKD hq
   obtain ⟨bw,sz, -,c1,f1,c20,c21,c22,f20,f21,f22,c30,c31,c32,f30,f31,f32,c4,f4,rv,nd',dsx⟩:=hm2
   have RVX:=hid rv
   have DSX:=hid dsx
   have ND:=hid nd'
   have BW:=hid bw
   clear rv dsx nd' bw
   go_wp2_with fail
   go_region_held3 (fun W'=>(∀j,W'.cell? ⟨w.heap.size+1,j,none⟩=W2.cell? ⟨w.heap.size+1,j,none⟩)∧(∀j,W'.cell? ⟨w.heap.size+2,j,none⟩=W2.cell? ⟨w.heap.size+2,j,none⟩)∧(∀j,W'.cell? ⟨w.heap.size+4,j,none⟩=W2.cell? ⟨w.heap.size+4,j,none⟩)) ((refine ⟨fun j=>?_,fun j=>?_,fun j=>?_⟩<;>(first|rfl|go_simp))) ((fail))
   all_goals go_wp2_with fail
   all_goals rw [Exit.noGoto_ret]
   all_goals have hbw:=BW.out
   all_goals refine UV (w.heap.size+5) (D::Ds) _ ND.out (fun D hD=>⟨(DSX.out D hD).1,(show KeepsOthers W2 _ from (by repeat (first|with_reducible exact KeepsOthers.refl _|with_reducible refine KeepsOthers.trans ?_ (KeepsOthers.setCell _ _ _)|with_reducible refine KeepsOthers.trans ?_ (KeepsOthers.drew _)))).same D _ (DSX.out D hD).2 rfl⟩) (fun W9 hb9 ha9=>?_)
   all_goals have q0:W9.cell? ⟨w.heap.size+3,0,none⟩=some (.int .u8 y.k):=(ha9 _ _ trivial gs).1
   all_goals have q1:W9.cell? ⟨w.heap.size+3,1,none⟩=some (.int .i64 y.n):=(ha9 _ _ trivial gs).1
   all_goals have q2:W9.cell? ⟨w.heap.size+3,2,none⟩=some (.slice my.a y.l.length my.c):=(ha9 _ _ trivial gs).1
   all_goals refine ⟨.tuple #[.string s,VV y my,.int .i64 (k:Nat)],by (first|(simp [results,Tryz.f29,go_sem];done)|(simp [results,Tryz.f29,go_sem, *];done)),?_,my,rfl,?_⟩
   all_goals exact Zpk
 case stop=>
  as_aux_lemma=>
   rintro D c pre W2 hD hpre ⟨⟨s',y'⟩,my',HX,hm2⟩ hKD
   obtain ⟨rfl,hsc,hrb⟩:=HX.out
   have hsh:=HSH.out
   rw [ZcR hk2 (ZiE hpre hsc)] at hsh
   have hm3:=hm2.mark hKD hD om HDS.out
   have HM3:=hid hm3
   have HS3:=hid hsh
   have HB3:=hid hrb
   clear HSH HM1 HDS hm2 hKD hm3 hsh hrb hsc HX
   refine wpIn_wide.2 ?_
   go_wp2_with fail
   go_roundg (gk - 1)
   case measure=>omega
   case rel=>exact hid ⟨k+1,s',y',my',D::Ds,om,om,rfl,HS3.out,HB3.out,HM3.out⟩
end
end Go.Proofs.YtclphfojkggcpaaGreatDoor
