/- Part 58. -/
import Derived.Deep.RegionHeld3
import Derived.IntWalk
import Derived.Test.YtkdffbdnjfgpeaaGreatY55
import Derived.Test.YtkdffbdnjfgpeaaGreatYTk
set_option linter.all false
namespace Go.Proofs.YtkdffbdnjfgpeaaGreat
open Go.Lib (hid)
open Go Go.RowKit Go.Proofs.Tryz
abbrev ZaZ (N:Nat) (mo:Int):Prop:=∀(t:GT) (w:World) (A:Nat→Prop) (m:TA) (pl d:Int) (inn:Bool),Zb t≤N→okT t→0≤pl→pl+Zb t≤1099511627776→0≤d→d+Zb t≤2199023255552→RT w A t m →
  Calls prog 75 #[TV t m,.int .i64 pl,.int .i64 d,.int .i64 mo,.bool inn] w fun e w'=>e=.returned (.tuple #[.int .i64 (ZF pl d mo inn t).1,.int .i64 (ZF pl d mo inn t).2])∧Below w.heap.size w w'
theorem ZlV {p:Prop} (h:p:=by
 refine wpAny_ready (rs:=[19]) kr sm ?_
 refine rc (fun K hK=>?_) ?_
 ·go_simp
  go_wp2_with (go_at_call 75;(with_reducible refine (IH.out t.a[j] _ A mj' Q (d+1) false om (O.out.get j hlt) om om om om (by exact Zt2 ar _ _ gx)).mono ?_);rintro e w2 ⟨rfl,hb2⟩;have hz2:=hb2.size;(try simp at hz2);have hbr2:Below wr.heap.size wr w2:=ZtZ;have ya:=(hbr2.cell (p:=⟨w.heap.size,14,none⟩) hz).trans hb14;have y0:=(hbr2.cell (p:=⟨w.heap.size,0,none⟩) hz).trans hb0;have yb:∀k,w2.cell? ⟨b,k,none⟩=wr.cell? ⟨b,k,none⟩:=(fun k=>hbr2.cell (p:=⟨b,k,none⟩) hs1))
  refine ty 20 ?_
  refine ty 21 ?_
  refine ty 23 ?_
  refine ty 22 ?_
  refine ty 24 ?_
  refine wpAny_done kr ?_ _
  (go_wp2_with fail;(all_goals have hbb:Below w.heap.size w w2:=ZtZ);(all_goals first|(have hne:(ZF Q (d+1) mo false t.a[j]).2≠0:=(by simpa using ‹((ZF Q (d+1) mo false t.a[j]).2 != 0)=true›);go_ret2;have h1:ZF Q (d+1) mo false t.a[j]=F:=(by rw [←HF.out,←HST.out];exact (Yu _ _ _ _ _ _ _ (by rw [HST.out];exact hne)).symm);exact ⟨YS (congrArg Prod.fst h1) (congrArg Prod.snd h1),hbb⟩)|(have hne:(ZF Q (d+1) mo false t.a[j]).2=0:=(by simpa using ‹((ZF Q (d+1) mo false t.a[j]).2 != 0)=false›);go_roundg (gk - 1);case measure=>omega));(all_goals exact ⟨j+1,om,by rw [HST.out],by rw [hne],by go_num,by rw [HST.out];exact hne,hbb,om,gs,gs⟩))
 exact AllReady.nil):p:=h
theorem Zwh {p:Prop} (h:p:=by
 refine wpAny_ready (rs:=[4]) kr sm ?_
 refine rc (fun K hK=>?_) ?_
 ·go_simp
  refine hK _ _ ?_
  clear hK K
  exact ZlV
 exact AllReady.nil):p:=h
theorem Zwi {p:Prop} (h:p:=by exact ⟨j+1,om,by rw [HST.out],by rw [hne],by go_num,by rw [HST.out];exact hne,hbb,om,gs,gs⟩):p:=h
set_option maxRecDepth 100000
set_option maxHeartbeats 4000000
theorem ZfD (N:Nat) (mo:Int) (hmo0:0≤mo) (hmo1:mo≤4611686018427387904) (ih:ZaZ N mo) (t:GT) (w:World) (A:Nat→Prop) (m:TA) (pl d:Int) (hN:Zb t≤N+1) (ox:okT t) (hp0:0≤pl) (hp1:pl+Zb t≤1099511627776)
  (hd0:0≤d) (hd1:d+Zb t≤2199023255552) (hl:RT w A t m) (hd:¬mo < d) (hn:ZG t=0) (h11':(t.k==11)=false):
  Calls prog 75 #[TV t m,.int .i64 pl,.int .i64 d,.int .i64 mo,.bool false] w fun e w'=>e=.returned (.tuple #[.int .i64 (ZH (pl+1) (d+1) mo false t.k 0 t.a).1,.int .i64 (ZH (pl+1) (d+1) mo false t.k 0 t.a).2])∧Below w.heap.size w w':=by
 obtain ⟨ma,mb,mc,md,me,mf,mg,mh,mi,mj,mk,ml⟩:=m
 have IH:=hid ih
 have HL:=hid (Zo.1 hl).2.2.2.2
 have HT:=hid hl
 have OX:=hid ox
 obtain ⟨⟨x1,x2⟩,ov,⟨ovl,ovs⟩,⟨l1,l2⟩,⟨l3,l4⟩,⟨owl,ow⟩,op,oal,oa⟩:=Ze.1 ox
 have O:=hid oa
 have hse:=Zq t
 have hsv:=Zr t.v
 have hsp:=ZS t.p
 clear ih hl ox oa ov ovs ow op
 have hsz:Zb t≤1099511627776:=om
 have HN:=hid hn
 have hn':(ZG t != 0)=false:=by simp [hn]
 have hn2:(ZG t==0)=true:=by simp [hn]
 clear hn
 have wd:IntKind.i64.wrap (d+1)=d+1:=IntWalk.i64_in _ om
 generalize hF:ZH (pl+1) (d+1) mo false t.k 0 t.a=F
 have HF:=hid hF
 clear hF
 go_enter func75,ntmps75
 go_wp2_with (go_at_call 112;refine (Uk t A ⟨ma,mb,mc,md,me,mf,mg,mh,mi,mj,mk,ml⟩ _ OX.out hsz (by exact Zt2 ar _ _ HT.out)).mono ?_;rintro e w1 ⟨rfl,hb⟩;have hB1:=hb;clear hb;obtain ⟨hc1,hf1⟩:=Za hB1)
 go_loopg [1,12,13] (t.a.length) (fun gk t1 t12 t13 wr=>∃j:Nat,gk+j=t.a.length∧t1=.int .i64 (ZH (pl+1) (d+1) mo false t.k 0 (t.a.take j)).1∧t12=.int .i64 0∧t13=.int .i64 j∧Hid ((ZH (pl+1) (d+1) mo false t.k 0 (t.a.take j)).2=0)∧Below w.heap.size w wr∧w.heap.size < wr.heap.size∧wr.cell? ⟨w.heap.size,0,none⟩=some (.int .u8 t.k)∧wr.cell? ⟨w.heap.size,14,none⟩=some (.slice mk t.a.length ml))
 case atStart=>exact ⟨0,om,by simp [ZH],by rw [HN.out],rfl,by simp [ZH,Hid],ZtZ,by have:=hB1.size;simp at this;omega,gs,gs⟩
 case round=>
  obtain ⟨j,hj,rfl,rfl,rfl,HZ,hb,hz,hb0,hb14⟩:=hrel
  by_cases hlt:j < t.a.length
  ·obtain ⟨b,o,mj',rfl,hA,hbs,g0,gx⟩:=HL.out.get j hlt
   obtain ⟨k0,k1,k2,k3,k4,k5,k6,k7,k8,k9,ka,kb,kc,kd,ke⟩:=Yp.1 (g0.ext (ZtY hb) (A:=fun _=>True) trivial)
   have hs1:b < wr.heap.size:=om
   have hq:=XK mo (t.a.take j) (pl+1) (d+1) false t.k 0
   have hq1:=Yo t.a j
   have hq2:=YV t.a j hlt
   have hq3:=Yo t.a (j+1)
   have hst:=VP (pl+1) (d+1) mo false t.k t.a j hlt HZ.out
   clear g0
   generalize hQ:(ZH (pl+1) (d+1) mo false t.k 0 (t.a.take j)).1=Q at *
   have HQ:=hid hQ
   clear hQ
   cases hk10:(t.k==10)
   ·have hstb:(false||ZU t.k j)=false:=by simp [ZU,hk10]
    rw [hstb] at hst
    have HST:=hid hst
    clear hst hstb
    go_wp2_with fail
    refine wp_region_any kr ?_
    try (change wpAny _ _ _ _ _ _ _ (World.drew _))
    refine ty 0 ?_
    refine ty 2 ?_
    refine ty 5 ?_
    refine ty 6 ?_
    refine ty 7 ?_
    refine ty 8 ?_
    refine ty 9 ?_
    refine ty 10 ?_
    refine tk 11 (v:=?_) rfl (.inl ⟨kr,?_⟩) ?_
    rotate_left
    ·((intro w;go_simp)<;>with_reducible rfl)
    refine wpAny_ready (rs:=[1,12]) kr sm ?_
    refine rc (fun K hK=>?_) ?_
    ·go_simp
     refine hK _ _ ?_
     clear hK K
     refine ty 3 ?_
     refine wpAny_ready (rs:=[4,12]) kr sm ?_
     refine rc (fun K hK=>?_) ?_
     ·go_simp
      refine hK _ _ ?_
      clear hK K
      refine wpAny_ready (rs:=[12]) kr sm ?_
      refine rc (fun K hK=>?_) ?_
      ·go_simp
       refine hK _ _ ?_
       clear hK K
       refine tk 13 (v:=.bool false) rfl (.inl ⟨kr,?_⟩) ?_
       ·(intro w;go_simp)
       refine tk 14 (v:=.bool false) rfl (.inl ⟨kr,?_⟩) ?_
       ·(intro w;go_simp)
       refine tk 15 (v:=undef) rfl (.inr ⟨kr,rfl⟩) ?_
       refine tk 16 (v:=undef) rfl (.inr ⟨kr,rfl⟩) ?_
       refine tk 17 (v:=?_) rfl (.inl ⟨kr,?_⟩) ?_
       rotate_left
       ·((intro w;go_simp)<;>with_reducible rfl)
       refine ty 18 ?_
       exact ZlV
      exact AllReady.nil
     refine rc (fun K hK=>?_) ?_
     ·go_simp
      refine hK _ _ ?_
      clear hK K
      refine tk 13 (v:=.bool false) rfl (.inl ⟨kr,?_⟩) ?_
      ·(intro w;go_simp)
      refine tk 14 (v:=.bool false) rfl (.inl ⟨kr,?_⟩) ?_
      ·(intro w;go_simp)
      refine tk 15 (v:=undef) rfl (.inr ⟨kr,rfl⟩) ?_
      refine tk 16 (v:=undef) rfl (.inr ⟨kr,rfl⟩) ?_
      refine tk 17 (v:=?_) rfl (.inl ⟨kr,?_⟩) ?_
      rotate_left
      ·((intro w;go_simp)<;>with_reducible rfl)
      refine ty 18 ?_
      exact Zwh
     exact AllReady.nil
    refine rc (fun K hK=>?_) ?_
    ·go_simp
     refine hK _ _ ?_
     clear hK K
     refine tk 13 (v:=.bool false) rfl (.inl ⟨kr,?_⟩) ?_
     ·(intro w;go_simp)
     refine tk 14 (v:=.bool false) rfl (.inl ⟨kr,?_⟩) ?_
     ·(intro w;go_simp)
     refine tk 15 (v:=undef) rfl (.inr ⟨kr,rfl⟩) ?_
     refine tk 16 (v:=undef) rfl (.inr ⟨kr,rfl⟩) ?_
     refine tk 17 (v:=?_) rfl (.inl ⟨kr,?_⟩) ?_
     rotate_left
     ·((intro w;go_simp)<;>with_reducible rfl)
     refine ty 18 ?_
     refine wpAny_ready (rs:=[1]) kr sm ?_
     refine rc (fun K hK=>?_) ?_
     ·go_simp
      refine hK _ _ ?_
      clear hK K
      refine ty 3 ?_
      exact Zwh
     exact AllReady.nil
    exact AllReady.nil
   by_cases hj1:j=1
   ·have hj1':((j:Int)==1)=true:=by rw [hj1];rfl
    have hstb:(false||ZU t.k j)=true:=by simp [ZU,hk10,hj1]
    rw [hstb] at hst
    have HST:=hid hst
    have HJ1:=hid hj1
    clear hst hstb hj1
    go_wp2_with fail
    first|(go_region_held3 (fun W=>W.cell? ⟨w.heap.size,14,none⟩=some (.slice (some ⟨b,o,none⟩) t.a.length ml)∧W.cell? ⟨w.heap.size,0,none⟩=some (.int .u8 t.k)∧∀k,W.cell? ⟨b,k,none⟩=wr.cell? ⟨b,k,none⟩) ((refine ⟨gs,gs,?_⟩;intro k;refine Below.cell (B:=wr.heap.size) (w:=wr) (p:=⟨b,k,none⟩) ?_ hs1;(exact ZtZ))) ((go_at_call 75;(with_reducible refine (IH.out t.a[j] _ A mj' Q (d+1) true om (O.out.get j hlt) om om om om (by exact Zt2 ar _ _ gx)).mono ?_);rintro e w2 ⟨rfl,hb2⟩;have hz2:=hb2.size;(try simp at hz2);have hbr2:Below wr.heap.size wr w2:=ZtZ;have ya:=(hbr2.cell (p:=⟨w.heap.size,14,none⟩) hz).trans hb14;have y0:=(hbr2.cell (p:=⟨w.heap.size,0,none⟩) hz).trans hb0;have yb:∀k,w2.cell? ⟨b,k,none⟩=wr.cell? ⟨b,k,none⟩:=(fun k=>hbr2.cell (p:=⟨b,k,none⟩) hs1))))|fail
    all_goals go_wp2_with fail
    all_goals have hbb:Below w.heap.size w w2:=ZtZ
    all_goals first|(have hne:(ZF Q (d+1) mo true t.a[j]).2≠0:=(by simpa using ‹((ZF Q (d+1) mo true t.a[j]).2 != 0)=true›);go_ret2;have h1:ZF Q (d+1) mo true t.a[j]=F:=(by rw [←HF.out,←HST.out];exact (Yu _ _ _ _ _ _ _ (by rw [HST.out];exact hne)).symm);exact ⟨YS (congrArg Prod.fst h1) (congrArg Prod.snd h1),hbb⟩)|(have hne:(ZF Q (d+1) mo true t.a[j]).2=0:=(by simpa using ‹((ZF Q (d+1) mo true t.a[j]).2 != 0)=false›);go_roundg (gk - 1);case measure=>omega)
    all_goals exact Zwi
   have hj1':((j:Int)==1)=false:=beq_eq_false_iff_ne.2 om
   have hstb:(false||ZU t.k j)=false:=by simp [ZU,hk10,hj1]
   rw [hstb] at hst
   have HST:=hid hst
   have HJ1:=hid hj1
   clear hst hstb hj1
   go_wp2_with fail
   first|(go_region_held3 (fun W=>W.cell? ⟨w.heap.size,14,none⟩=some (.slice (some ⟨b,o,none⟩) t.a.length ml)∧W.cell? ⟨w.heap.size,0,none⟩=some (.int .u8 t.k)∧∀k,W.cell? ⟨b,k,none⟩=wr.cell? ⟨b,k,none⟩) ((refine ⟨gs,gs,?_⟩;intro k;refine Below.cell (B:=wr.heap.size) (w:=wr) (p:=⟨b,k,none⟩) ?_ hs1;(exact ZtZ))) ((go_at_call 75;(with_reducible refine (IH.out t.a[j] _ A mj' Q (d+1) false om (O.out.get j hlt) om om om om (by exact Zt2 ar _ _ gx)).mono ?_);rintro e w2 ⟨rfl,hb2⟩;have hz2:=hb2.size;(try simp at hz2);have hbr2:Below wr.heap.size wr w2:=ZtZ;have ya:=(hbr2.cell (p:=⟨w.heap.size,14,none⟩) hz).trans hb14;have y0:=(hbr2.cell (p:=⟨w.heap.size,0,none⟩) hz).trans hb0;have yb:∀k,w2.cell? ⟨b,k,none⟩=wr.cell? ⟨b,k,none⟩:=(fun k=>hbr2.cell (p:=⟨b,k,none⟩) hs1))))|fail
   all_goals go_wp2_with fail
   all_goals have hbb:Below w.heap.size w w2:=ZtZ
   all_goals first|(have hne:(ZF Q (d+1) mo false t.a[j]).2≠0:=(by simpa using ‹((ZF Q (d+1) mo false t.a[j]).2 != 0)=true›);go_ret2;have h1:ZF Q (d+1) mo false t.a[j]=F:=(by rw [←HF.out,←HST.out];exact (Yu _ _ _ _ _ _ _ (by rw [HST.out];exact hne)).symm);exact ⟨YS (congrArg Prod.fst h1) (congrArg Prod.snd h1),hbb⟩)|(have hne:(ZF Q (d+1) mo false t.a[j]).2=0:=(by simpa using ‹((ZF Q (d+1) mo false t.a[j]).2 != 0)=false›);go_roundg (gk - 1);case measure=>omega)
   all_goals exact Zwi
  have hjl:j=t.a.length:=om
  go_wp2_with fail
  go_ret2
  have h1:ZH (pl+1) (d+1) mo false t.k 0 (t.a.take j)=F:=by rw [hjl,List.take_length];exact HF.out
  exact ⟨YS (by rw [h1]) (by rw [←h1,HZ.out]),hb⟩
theorem ZfE (N:Nat) (mo:Int) (hmo0:0≤mo) (hmo1:mo≤4611686018427387904) (ih:ZaZ N mo) (t:GT) (w:World) (A:Nat→Prop) (m:TA) (pl d:Int) (hN:Zb t≤N+1) (ox:okT t) (hp0:0≤pl) (hp1:pl+Zb t≤1099511627776)
  (hd0:0≤d) (hd1:d+Zb t≤2199023255552) (hl:RT w A t m) (hd:¬mo < d) (hn:ZG t=0) (b11:Bool) (h11':(t.k==11)=b11):
  Calls prog 75 #[TV t m,.int .i64 pl,.int .i64 d,.int .i64 mo,.bool true] w fun e w'=>e=.returned (.tuple #[.int .i64 (ZH (pl+1) (d+1) mo true t.k 0 t.a).1,.int .i64 (ZH (pl+1) (d+1) mo true t.k 0 t.a).2])∧Below w.heap.size w w':=by
 obtain ⟨ma,mb,mc,md,me,mf,mg,mh,mi,mj,mk,ml⟩:=m
 have IH:=hid ih
 have HL:=hid (Zo.1 hl).2.2.2.2
 have HT:=hid hl
 have OX:=hid ox
 obtain ⟨⟨x1,x2⟩,ov,⟨ovl,ovs⟩,⟨l1,l2⟩,⟨l3,l4⟩,⟨owl,ow⟩,op,oal,oa⟩:=Ze.1 ox
 have O:=hid oa
 have hse:=Zq t
 have hsv:=Zr t.v
 have hsp:=ZS t.p
 clear ih hl ox oa ov ovs ow op
 have hsz:Zb t≤1099511627776:=om
 have HN:=hid hn
 have hn':(ZG t != 0)=false:=by simp [hn]
 have hn2:(ZG t==0)=true:=by simp [hn]
 clear hn
 have wd:IntKind.i64.wrap (d+1)=d+1:=IntWalk.i64_in _ om
 generalize hF:ZH (pl+1) (d+1) mo true t.k 0 t.a=F
 have HF:=hid hF
 clear hF
 cases b11
 all_goals
  go_enter func75,ntmps75
  go_wp2_with (go_at_call 112;refine (Uk t A ⟨ma,mb,mc,md,me,mf,mg,mh,mi,mj,mk,ml⟩ _ OX.out hsz (by exact Zt2 ar _ _ HT.out)).mono ?_;rintro e w1 ⟨rfl,hb⟩;have hB1:=hb;clear hb;obtain ⟨hc1,hf1⟩:=Za hB1)
  go_loopg [1,12,13] (t.a.length) (fun gk t1 t12 t13 wr=>∃j:Nat,gk+j=t.a.length∧t1=.int .i64 (ZH (pl+1) (d+1) mo true t.k 0 (t.a.take j)).1∧t12=.int .i64 0∧t13=.int .i64 j∧Hid ((ZH (pl+1) (d+1) mo true t.k 0 (t.a.take j)).2=0)∧Below w.heap.size w wr∧w.heap.size < wr.heap.size∧wr.cell? ⟨w.heap.size,0,none⟩=some (.int .u8 t.k)∧wr.cell? ⟨w.heap.size,14,none⟩=some (.slice mk t.a.length ml))
  case atStart=>exact ⟨0,om,by simp [ZH],by rw [HN.out],rfl,by simp [ZH,Hid],ZtZ,by have:=hB1.size;simp at this;omega,gs,gs⟩
  case round=>
   obtain ⟨j,hj,rfl,rfl,rfl,HZ,hb,hz,hb0,hb14⟩:=hrel
   by_cases hlt:j < t.a.length
   ·obtain ⟨b,o,mj',rfl,hA,hbs,g0,gx⟩:=HL.out.get j hlt
    obtain ⟨k0,k1,k2,k3,k4,k5,k6,k7,k8,k9,ka,kb,kc,kd,ke⟩:=Yp.1 (g0.ext (ZtY hb) (A:=fun _=>True) trivial)
    have hs1:b < wr.heap.size:=om
    have hq:=XK mo (t.a.take j) (pl+1) (d+1) true t.k 0
    have hq1:=Yo t.a j
    have hq2:=YV t.a j hlt
    have hq3:=Yo t.a (j+1)
    have hst:=VP (pl+1) (d+1) mo true t.k t.a j hlt HZ.out
    clear g0
    generalize hQ:(ZH (pl+1) (d+1) mo true t.k 0 (t.a.take j)).1=Q at *
    have HQ:=hid hQ
    clear hQ
    have hstb:(true||ZU t.k j)=true:=rfl
    rw [hstb] at hst
    have HST:=hid hst
    clear hst hstb
    go_wp2_with fail
    refine wp_region_any kr ?_
    try (change wpAny _ _ _ _ _ _ _ (World.drew _))
    refine ty 0 ?_
    refine ty 2 ?_
    refine ty 5 ?_
    refine ty 6 ?_
    refine ty 7 ?_
    refine ty 8 ?_
    refine ty 9 ?_
    refine ty 10 ?_
    refine tk 11 (v:=undef) rfl (.inr ⟨kr,rfl⟩) ?_
    refine tk 12 (v:=undef) rfl (.inr ⟨kr,rfl⟩) ?_
    refine tk 13 (v:=undef) rfl (.inr ⟨kr,rfl⟩) ?_
    refine tk 14 (v:=undef) rfl (.inr ⟨kr,rfl⟩) ?_
    refine tk 15 (v:=undef) rfl (.inr ⟨kr,rfl⟩) ?_
    refine tk 16 (v:=undef) rfl (.inr ⟨kr,rfl⟩) ?_
    refine tk 17 (v:=undef) rfl (.inr ⟨kr,rfl⟩) ?_
    refine ty 18 ?_
    refine wpAny_ready (rs:=[1]) kr sm ?_
    refine rc (fun K hK=>?_) ?_
    ·go_simp
     refine hK _ _ ?_
     clear hK K
     refine ty 3 ?_
     refine wpAny_ready (rs:=[4]) kr sm ?_
     refine rc (fun K hK=>?_) ?_
     ·go_simp
      refine hK _ _ ?_
      clear hK K
      refine wpAny_ready (rs:=[19]) kr sm ?_
      refine rc (fun K hK=>?_) ?_
      ·go_simp
       go_wp2_with (go_at_call 75;(with_reducible refine (IH.out t.a[j] _ A mj' Q (d+1) true om (O.out.get j hlt) om om om om (by exact Zt2 ar _ _ gx)).mono ?_);rintro e w2 ⟨rfl,hb2⟩;have hz2:=hb2.size;(try simp at hz2);have hbr2:Below wr.heap.size wr w2:=ZtZ;have ya:=(hbr2.cell (p:=⟨w.heap.size,14,none⟩) hz).trans hb14;have y0:=(hbr2.cell (p:=⟨w.heap.size,0,none⟩) hz).trans hb0;have yb:∀k,w2.cell? ⟨b,k,none⟩=wr.cell? ⟨b,k,none⟩:=(fun k=>hbr2.cell (p:=⟨b,k,none⟩) hs1))
       refine ty 20 ?_
       refine ty 21 ?_
       refine ty 23 ?_
       refine ty 22 ?_
       refine ty 24 ?_
       refine wpAny_done kr ?_ _
       (go_wp2_with fail;(all_goals have hbb:Below w.heap.size w w2:=ZtZ);(all_goals first|(have hne:(ZF Q (d+1) mo true t.a[j]).2≠0:=(by simpa using ‹((ZF Q (d+1) mo true t.a[j]).2 != 0)=true›);go_ret2;have h1:ZF Q (d+1) mo true t.a[j]=F:=(by rw [←HF.out,←HST.out];exact (Yu _ _ _ _ _ _ _ (by rw [HST.out];exact hne)).symm);exact ⟨YS (congrArg Prod.fst h1) (congrArg Prod.snd h1),hbb⟩)|(have hne:(ZF Q (d+1) mo true t.a[j]).2=0:=(by simpa using ‹((ZF Q (d+1) mo true t.a[j]).2 != 0)=false›);go_roundg (gk - 1);case measure=>omega));(all_goals exact ⟨j+1,om,by rw [HST.out],by rw [hne],by go_num,by rw [HST.out];exact hne,hbb,om,gs,gs⟩))
      exact AllReady.nil
     exact AllReady.nil
    exact AllReady.nil
   have hjl:j=t.a.length:=om
   go_wp2_with fail
   go_ret2
   have h1:ZH (pl+1) (d+1) mo true t.k 0 (t.a.take j)=F:=by rw [hjl,List.take_length];exact HF.out
   exact ⟨YS (by rw [h1]) (by rw [←h1,HZ.out]),hb⟩
set_option maxRecDepth 512
theorem ZlW {p:Prop} (h:p:=by
 go_enter func75,ntmps75
 go_wp2_with (go_at_call 112;refine (Uk t A ⟨ma,mb,mc,md,me,mf,mg,mh,mi,mj,mk,ml⟩ _ OX.out hsz (by exact Zt2 ar _ _ HT.out)).mono ?_;rintro e w1 ⟨rfl,hb⟩;have hB1:=hb;clear hb;obtain ⟨hc1,hf1⟩:=Za hB1)
 go_ret2
 exact ⟨rfl,ZtZ⟩):p:=h
set_option maxRecDepth 100000
theorem Y5 (N:Nat) (mo:Int) (hmo:0≤mo∧mo≤4611686018427387904):∀(t:GT) (w:World) (A:Nat→Prop) (m:TA) (pl d:Int) (inn:Bool),Zb t≤N→okT t→0≤pl→pl+Zb t≤1099511627776→0≤d→d+Zb t≤2199023255552→RT w A t m →
  Calls prog 75 #[TV t m,.int .i64 pl,.int .i64 d,.int .i64 mo,.bool inn] w fun e w'=>e=.returned (.tuple #[.int .i64 (ZF pl d mo inn t).1,.int .i64 (ZF pl d mo inn t).2])∧Below w.heap.size w w':=by
 obtain ⟨hmo0,hmo1⟩:=hmo
 induction N with
 | zero=>intro t;have:=X8 t;intros;omega
 | succ N ih=>
  rintro t w A ⟨ma,mb,mc,md,me,mf,mg,mh,mi,mj,mk,ml⟩ pl d inn hN ox hp0 hp1 hd0 hd1 hl
  have IH:=hid ih
  have HL:=hid (Zo.1 hl).2.2.2.2
  have HT:=hid hl
  have OX:=hid ox
  obtain ⟨⟨x1,x2⟩,ov,⟨ovl,ovs⟩,⟨l1,l2⟩,⟨l3,l4⟩,⟨owl,ow⟩,op,oal,oa⟩:=Ze.1 ox
  have O:=hid oa
  have hse:=Zq t
  have hsv:=Zr t.v
  have hsp:=ZS t.p
  clear ih hl ox oa ov ovs ow op
  rw [Zgg]
  by_cases hd:mo < d
  ·rw [if_pos hd]
   go_enter func75,ntmps75
   go_wp2_with fail
   go_ret2
   exact ⟨rfl,ZtZ⟩
  rw [if_neg hd]
  have hsz:Zb t≤1099511627776:=om
  by_cases hn:ZG t=0
  case neg=>
   rw [if_pos hn]
   have hn':(ZG t != 0)=true:=by simp [hn]
   have hn2:(ZG t==0)=false:=by simp [hn]
   clear hn
   exact ZlW
  rw [if_neg (by simp [hn])]
  have HN:=hid hn
  have hn':(ZG t != 0)=false:=by simp [hn]
  have hn2:(ZG t==0)=true:=by simp [hn]
  clear hn
  by_cases h11:t.k=11∧inn=false
  ·rw [if_pos h11]
   obtain ⟨h11,rfl⟩:=h11
   have h11':(t.k==11)=true:=by simp [h11]
   clear h11
   exact ZlW
  rw [if_neg h11]
  cases inn
  ·have h11':(t.k==11)=false:=by
    cases h:(t.k==11)
    ·rfl
    exact absurd ⟨by simpa using h,rfl⟩ h11
   exact ZfD N mo hmo0 hmo1 IH.out t w A ⟨ma,mb,mc,md,me,mf,mg,mh,mi,mj,mk,ml⟩ pl d hN OX.out hp0 hp1 hd0 hd1 HT.out hd HN.out h11'
  exact ZfE N mo hmo0 hmo1 IH.out t w A ⟨ma,mb,mc,md,me,mf,mg,mh,mi,mj,mk,ml⟩ pl d hN OX.out hp0 hp1 hd0 hd1 HT.out hd HN.out _ rfl
end Go.Proofs.YtkdffbdnjfgpeaaGreat
