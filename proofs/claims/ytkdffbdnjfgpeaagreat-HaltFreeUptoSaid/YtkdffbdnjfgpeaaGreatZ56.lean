/- Part 57. -/
import Derived.Test.YtkdffbdnjfgpeaaGreatZ49
import Derived.Test.YtkdffbdnjfgpeaaGreatZ51
import Derived.Test.YtkdffbdnjfgpeaaGreatZ55
import Derived.Test.YtkdffbdnjfgpeaaGreatZTk
set_option linter.all false
namespace Go.Proofs.YtkdffbdnjfgpeaaGreat
open Go.Lib (hid)
open Go Go.RowKit Go.Proofs.Tryz
theorem ZtM {s:ByteArray} {v:GV} {j:Int} {l:List (ByteArray×GV)} {i a:Nat} {b:Bool} (h:i < l.length) (hs:ZqF s v j (l.take i) (0,false)=(a,b)):
  ZqF s v j (l.take (i+1)) (0,false)=if Zqh l[i].1 s=true then (a+1,XX l[i].2 v&&((l[i].1.size:Int)==j)) else (a,b):=by
 rw [List.take_succ_eq_append_getElem h,Zr8,hs]
 rfl
theorem Znl {p:Prop} (h:p:=by ((try dsimp only);(intro c k hc;refine Below.cell (B:=wc.heap.size) (w:=wc) (p:=⟨c,k,none⟩) ?_ hc;(exact ZtZ)))):p:=h
set_option maxRecDepth 100000
set_option maxHeartbeats 16000000
theorem W1 (w:World) (t:GT) (A:Nat→Prop) (m:TA) (ox:okT t) (hs:Zb t≤1048576) (hl:RT w A t m) (k:Int) (hk:0≤k∧k≤255) (u:Int) (hu:0≤u∧u≤65535):
  Calls prog 7 #[TV t m,.int .u8 k,.int .u16 u] w fun e w'=>e=.returned (.bool true)∧Below w.heap.size w w':=by
 obtain ⟨ma,mb,mc,md,me,mf,mg,mh,mi,mj,mk,ml⟩:=m
 have HL:=hid hl
 have OX:=hid ox
 obtain ⟨kn,rfl⟩:∃kn:Nat,k=kn:=⟨k.toNat,om⟩
 obtain ⟨un,rfl⟩:∃un:Nat,u=un:=⟨u.toNat,om⟩
 obtain ⟨K,hK⟩:∃K,K=kn % 9:=⟨_,rfl⟩
 have hK8:K≤8:=om
 have hK1:(kn:Int) % 9=(K:Int):=om
 have hs9:Zb t≤1099511627776:=om
 by_cases hE:(Z3 t).2=0
 ·have HE:=hid hE
  have HALL:=hid (fun W h=>ZrI t K W A ⟨ma,mb,mc,md,me,mf,mg,mh,mi,mj,mk,ml⟩ ox hs9 h om hE)
  clear hl ox hE hK hs9
  go_enter func7,ntmps7
  go_wp2_with (first
   | (go_at_call 10;(with_reducible refine (ZrA t K _ A ⟨ma,mb,mc,md,me,mf,mg,mh,mi,mj,mk,ml⟩ OX.out om (by exact Zt2 ar _ _ HL.out)).mono ?_);rintro e w1 ⟨⟨b1,rfl⟩,hb1⟩;obtain ⟨hc1,hf1⟩:=Za hb1;have hz1:=hb1.size;(try simp at hz1);have y1:w.heap.size < w1.heap.size:=om;cases b1)
   | (go_at_call 11;(with_reducible refine (ZrU _).mono ?_);rintro e w2 ⟨rfl,hb2⟩;obtain ⟨hc2,hf2⟩:=Za hb2;have hz2:=hb2.size;(try simp at hz2);have y2:w.heap.size < w2.heap.size:=om)
   | (go_at_call 13;(with_reducible refine (HALL.out _ (by exact Zt2 ar _ _ HL.out)).mono ?_);rintro e w3 ⟨hb3,a3,c3,rfl,hx3⟩;have HX:=hid (RJs.mono (A':=fun _=>True) (fun _ _ _=>trivial) _ _ hx3.1);clear hx3;obtain ⟨hc3,hf3⟩:=Za hb3;have hz3:=hb3.size;have y3:w.heap.size < w3.heap.size:=om))
  rotate_right
  ·go_ret
   exact ⟨rfl,ZtZ⟩
  have hbw3:Below w.heap.size w w3:=ZtZ
  have HBT:Hid (At w3 w.heap.size 0 [.int .u8 t.k,.int .u8 t.v.k,.int .i64 t.v.n,.slice ma t.v.l.length mb,.slice mc t.vs.length md,.int .i64 t.lo,.int .i64 t.hi,.slice me t.w.length mf,.int .u8 t.p.k,.int .u8 t.p.v.k,.int .i64 t.p.v.n,.slice mg t.p.v.l.length mh,.int .i64 t.p.n,.slice mi t.p.a.length mj,.slice mk t.a.length ml]):=hid (ZO.2 ⟨gs,gs,gs,gs,gs,gs,gs,gs,gs,gs,gs,gs,gs,gs,gs⟩)
  have HIN:=hid (Zqk HE.out OX.out (n:=K) om)
  have HFREE:Hid (∀(i m:Nat) (hlt:i < (Zpv t K).length) (hm:m < i),Zqh ((Zpv t K)[m]'(Nat.lt_trans hm hlt)).1 ((Zpv t K)[i]'hlt).1=false):=hid (fun i m hlt hm=>Zrz HE.out OX.out (n:=K) om i m hlt hm)
  have HRISE:=hid (Zqf t K)
  have HLN:(Zpv t K).length≤4096:=by
   have:=(ZtL HE.out OX.out (n:=K) om).length_eq
   rw [this]
   exact Nat.le_trans (ZqO K ⟨#[]⟩) (ZpP om)
  have HT3:=hid (Zt2 (ZtY hbw3) _ _ HL.out)
  generalize hLL:Zpv t K=L at *
  have HLL:=hid hLL
  clear hb1 hb2 hb3 hc1 hc2 hc3 hf1 hf2 hf3 HALL hLL
  go_loopg [10] (L.length) (fun gk t10' wr=>∃i:Nat,gk+i=L.length∧t10'=.int .i64 i∧Below w3.heap.size w3 wr)
  case atStart=>exact ⟨0,rfl,rfl,Below.refl _ _⟩
  case round=>
   obtain ⟨i,hi,rfl,hbr⟩:=hrel
   have hzr:=hbr.size
   have hbw:Below w.heap.size w wr:=hbw3.trans (hbr.mono om)
   by_cases hlt:i < L.length
   ·as_aux_lemma=>
    obtain ⟨b,o,mv,rfl, -,hbs,gg,gx⟩:=HX.out.get i hlt
    obtain ⟨i1,i2,i3,i4⟩:=HIN.out _ (List.getElem_mem hlt)
    obtain ⟨xa,xc⟩:=mv
    obtain ⟨g0,g1,g2,g3⟩:=Zsd.1 (Zuf (ZtY hbr) (A:=fun _=>True) trivial _ _ gg)
    obtain ⟨c0,c1,c2,c3,c4,c5,c6,c7,c8,c9,ca,cb,cc,cd,ce⟩:=ZO.1 (Zuf (ZtY hbr) (A:=fun _=>True) trivial _ _ HBT.out)
    have HGX:=hid (Zt5 (ZtY hbr) _ _ gx)
    have HRUN:=hid i3
    have HB:=hid i1
    have OKV:=hid i4
    have HRE:=hid (Zdz HE.out i1)
    have u1:b < wr.heap.size:=om
    have u2:w.heap.size < wr.heap.size:=om
    have hiI:(i:Int) < (L.length:Int):=om
    clear gg gx i1 i3 i4
    have HW9:=hid (show ∀m (hm:m < i),Zqh (L[m]'om).1 L[i].1=false from fun m hm=>HFREE.out i m hlt hm)
    have HK9:=hid (show ∀(h:0 < i),Zry (L[i - 1]'om).1 L[i].1= -1 from fun h=>by
     have:=List.pairwise_iff_getElem.1 HRISE.out (i - 1) i om hlt om
     rw [Zsi,Vq,if_pos om])
    generalize hY:L[i]=Y at *
    obtain ⟨s,v⟩:=Y
    dsimp only at *
    have hs2:s.size≤9223372036854775807:=om
    go_wp2_with fail
    go_cut [11,12] from 54 to 64 (fun v11 v12 wx=>∃(B5:Nat) (mo:VA),v11=.pointer (some ⟨B5,0,none⟩)∧v12=.int .i64 0∧wr.heap.size≤B5∧B5 < wx.heap.size∧Below wr.heap.size wr wx∧wx.cell? ⟨B5,0,none⟩=some (.int .u8 1)∧wx.cell? ⟨B5,1,none⟩=some (.int .u8 v.k)∧wx.cell? ⟨B5,2,none⟩=some (.int .i64 v.n)∧wx.cell? ⟨B5,3,none⟩=some (.slice mo.a v.l.length mo.c)∧wx.cell? ⟨B5,4,none⟩=some (.int .i64 s.size)∧Hid (RV wx (fun _=>True) v mo.a))
    case first=>
     go_region_held3 (fun W=>∀c k,c < wr.heap.size→W.cell? ⟨c,k,none⟩=wr.cell? ⟨c,k,none⟩) ((intro c k hc;refine Below.cell (B:=wr.heap.size) (w:=wr) (p:=⟨c,k,none⟩) ?_ hc;(exact ZtZ))) ((go_at_call 35;refine (ZdB t s _ A ⟨ma,mb,mc,md,me,mf,mg,mh,mi,mj,mk,ml⟩ OX.out om (by exact Zt2 ar _ _ HT3.out) hs2 HRE.out v s.size HRUN.out).mono ?_;rintro e w4 ⟨hb4,mo,rfl,hrv⟩;have HRV:=hid hrv;clear hrv;have hz4:=hb4.size;(try simp at hz4);(try (have y5':wr.heap.size < w4.heap.size:=om;have q0:w4.cell? ⟨wr.heap.size,0,none⟩=some (.int .u8 0):=(hb4.cell sm).trans gs;have q1:w4.cell? ⟨wr.heap.size,1,none⟩=some (.int .u8 0):=(hb4.cell sm).trans gs;have q2:w4.cell? ⟨wr.heap.size,2,none⟩=some (.int .i64 0):=(hb4.cell sm).trans gs;have q3:w4.cell? ⟨wr.heap.size,3,none⟩=some (.slice none 0 0):=(hb4.cell sm).trans gs;have q4:w4.cell? ⟨wr.heap.size,4,none⟩=some (.int .i64 0):=(hb4.cell sm).trans gs;have qf:∀k,w4.frozen? ⟨wr.heap.size,k,none⟩=false:=fun k=>(hb4.frozen sm).trans gs))))
     all_goals go_wp2_with fail
     all_goals go_meet
     ·exact ⟨_,mo,rfl,rfl,om,sz,ZtZ,gs,gs,gs,gs,gs,hid (Zt9 (fun _ _ _=>trivial) _ _ (Zt5 (A:=fun b=>wr.heap.size≤b) ar _ _ (Zt9 (fun b h _=>by (try simp at h);omega) _ _ HRV.out)))⟩
     exact ⟨_,mo,rfl,rfl,om,sz,ZtZ,gs,gs,gs,gs,gs,hid (Zt9 (fun _ _ _=>trivial) _ _ (Zt5 (A:=fun b=>wr.heap.size+1≤b) (ZtI _ _ _ _ _) _ _ (Zt9 (fun b h _=>by (try simp at h);omega) _ _ HRV.out)))⟩
    obtain ⟨B5,mo,rfl,rfl,hB5,hB5x,hbc,o0,o1,o2,o3,o4,HRV⟩:=hcut
    have hzc:=hbc.size
    have hbw2:Below w.heap.size w wc:=hbw.trans (hbc.mono om)
    have hbr2:Below w3.heap.size w3 wc:=hbr.trans (hbc.mono om)
    replace g0:=(hbc.cell (p:=⟨b,o+i*4,none⟩) u1).trans g0
    replace g1:=(hbc.cell (p:=⟨b,o+i*4+1,none⟩) u1).trans g1
    replace g2:=(hbc.cell (p:=⟨b,o+i*4+2,none⟩) u1).trans g2
    replace g3:=(hbc.cell (p:=⟨b,o+i*4+3,none⟩) u1).trans g3
    have HGX:=hid (Zt5 (ZtY hbc) _ _ HGX.out)
    have u1:b < wc.heap.size:=om
    have u2:w.heap.size < wc.heap.size:=om
    clear c0 c1 c2 c3 c4 c5 c6 c7 c8 c9 ca cb cc cd ce
    have hsK:¬(K < s.size):=om
    have hsK2:decide (K < s.size)=false:=decide_eq_false hsK
    have hsK3:decide ((K:Int) < (s.size:Int))=false:=decide_eq_false om
    go_wp2_with fail
    go_cut [121] from 64 to 122 (fun v121 wx=>v121=.bool false∧Below wc.heap.size wc wx)
    case first=>
     by_cases hi0:i=0
     ·subst hi0
      simp only [Nat.zero_mul,Nat.add_zero] at g0 g1 g2 g3
      clear HW9 HK9 hY
      refine wp_region_held_drew (S:=(fun W=>∀c k,c < wc.heap.size→W.cell? ⟨c,k,none⟩=wc.cell? ⟨c,k,none⟩)) kr ?_ (fun hHeld=>?_)
      ·exact Znl
      refine tz 0 ?_
      try simp only [Act.put,sl,s0,ss]
      refine tz 1 ?_
      try simp only [Act.put,sl,s0,ss]
      refine tz 2 ?_
      try simp only [Act.put,sl,s0,ss]
      refine tz 3 ?_
      try simp only [Act.put,sl,s0,ss]
      refine tz 4 ?_
      try simp only [Act.put,sl,s0,ss]
      refine tz 5 ?_
      try simp only [Act.put,sl,s0,ss]
      refine tz 6 ?_
      try simp only [Act.put,sl,s0,ss]
      as_aux_lemma=>
       refine tz 7 ?_
       try simp only [Act.put,sl,s0,ss]
       refine tz 8 ?_
       try simp only [Act.put,sl,s0,ss]
       refine tz 9 ?_
       try simp only [Act.put,sl,s0,ss]
       refine tz 10 ?_
       try simp only [Act.put,sl,s0,ss]
       refine tz 11 ?_
       try simp only [Act.put,sl,s0,ss]
       refine tz 12 ?_
       try simp only [Act.put,sl,s0,ss]
       refine tz 13 ?_
       try simp only [Act.put,sl,s0,ss]
       refine tz 14 ?_
       try simp only [Act.put,sl,s0,ss]
       as_aux_lemma=>
        refine tz 15 ?_
        try simp only [Act.put,sl,s0,ss]
        refine tz 16 ?_
        try simp only [Act.put,sl,s0,ss]
        refine tz 17 ?_
        try simp only [Act.put,sl,s0,ss]
        refine tz 18 ?_
        try simp only [Act.put,sl,s0,ss]
        refine tz 19 ?_
        try simp only [Act.put,sl,s0,ss]
        refine tz 20 ?_
        try simp only [Act.put,sl,s0,ss]
        refine tz 21 ?_
        try simp only [Act.put,sl,s0,ss]
        refine tz 22 ?_
        try simp only [Act.put,sl,s0,ss]
        as_aux_lemma=>
         refine tz 23 ?_
         try simp only [Act.put,sl,s0,ss]
         refine tz 24 ?_
         try simp only [Act.put,sl,s0,ss]
         refine tz 25 ?_
         try simp only [Act.put,sl,s0,ss]
         refine tz 26 ?_
         try simp only [Act.put,sl,s0,ss]
         refine tz 27 ?_
         try simp only [Act.put,sl,s0,ss]
         refine tz 28 ?_
         try simp only [Act.put,sl,s0,ss]
         refine tz 29 ?_
         try simp only [Act.put,sl,s0,ss]
         refine tz 30 ?_
         try simp only [Act.put,sl,s0,ss]
         as_aux_lemma=>
          refine tz 31 ?_
          try simp only [Act.put,sl,s0,ss]
          refine tz 32 ?_
          try simp only [Act.put,sl,s0,ss]
          refine tz 33 ?_
          try simp only [Act.put,sl,s0,ss]
          refine tz 34 ?_
          try simp only [Act.put,sl,s0,ss]
          refine tz 35 ?_
          try simp only [Act.put,sl,s0,ss]
          refine wrh1 36 fun K hK=>?_
          go_simp
          go_wp2_with (go_at_call 33;(refine (Zhm v _ (fun _=>True) (fun _=>True) mo ⟨xa,xc⟩ OKV.out (by exact Zt5 ar _ _ HRV.out) (by exact Zt5 ar _ _ HGX.out)).mono ?_);rintro e w6 ⟨rfl,hb6⟩;have hz6:=hb6.size;(try simp at hz6))
          refine hK.out _ _ ?_ (fun hHeld=>?_)
          ·exact Znl
          clear hK K
          refine tz 37 ?_
          try simp only [Act.put,sl,s0,ss]
          refine tz 38 ?_
          try simp only [Act.put,sl,s0,ss]
          as_aux_lemma=>
           refine tz 39 ?_
           try simp only [Act.put,sl,s0,ss]
           refine tz 40 ?_
           try simp only [Act.put,sl,s0,ss]
           refine tz 41 ?_
           try simp only [Act.put,sl,s0,ss]
           refine tz 42 ?_
           try simp only [Act.put,sl,s0,ss]
           refine th 43 ?_
           try simp only [Act.put,sl,s0,ss]
           refine th 44 ?_
           try simp only [Act.put,sl,s0,ss]
           refine th 45 ?_
           try simp only [Act.put,sl,s0,ss]
           refine th 46 ?_
           try simp only [Act.put,sl,s0,ss]
           as_aux_lemma=>
            refine th 47 ?_
            try simp only [Act.put,sl,s0,ss]
            refine th 48 ?_
            try simp only [Act.put,sl,s0,ss]
            refine th 49 ?_
            try simp only [Act.put,sl,s0,ss]
            refine th 50 ?_
            try simp only [Act.put,sl,s0,ss]
            refine th 51 ?_
            try simp only [Act.put,sl,s0,ss]
            refine th 52 ?_
            try simp only [Act.put,sl,s0,ss]
            refine th 53 ?_
            try simp only [Act.put,sl,s0,ss]
            refine th 54 ?_
            try simp only [Act.put,sl,s0,ss]
            as_aux_lemma=>
             refine th 55 ?_
             try simp only [Act.put,sl,s0,ss]
             refine tz 56 ?_
             try simp only [Act.put,sl,s0,ss]
             refine tz 57 ?_
             try simp only [Act.put,sl,s0,ss]
             refine wpAnyH_done kr ?_ _
             as_aux_lemma=>
              (go_wp2_with fail;(first|go_meet|(refine Met.intro ?_;go_step;go_meet));exact ⟨rfl,ZtZ⟩)
     obtain ⟨q,hqi⟩:∃q,q+1=i:=⟨i - 1,om⟩
     have hC:=HK9.out om
     have hqe:i - 1=q:=om
     simp only [hqe] at hC
     obtain ⟨b',o',m',e9, -, -,gg, -⟩:=HX.out.get q om
     cases e9
     obtain ⟨f0, -, -, -⟩:=Zsd.1 (Zuf (ZtY hbr2) (A:=fun _=>True) trivial _ _ gg)
     have j2:L[q].1.size≤K:=(HIN.out _ (List.getElem_mem om)).2.1
     generalize L[q].1=s' at *
     have hq1:(i:Int) - 1=(q:Int):=om
     have hq1w:IntKind.i64.wrap (q:Int)=(q:Int):=IntWalk.i64_in _ om
     have hq1x:IntKind.i64.wrap ((i:Int) - 1)=(q:Int):=by rw [hq1];exact hq1w
     have hq2:(0:Int) < (i:Int):=om
     have hq2n:0 < i:=om
     have hq3:(q:Int) < (L.length:Int):=om
     have hq4:(0:Int)≤(q:Int):=om
     have hi4:(0:Int)≤(i:Int):=om
     have HC:=hid hC
     have HQI:=hid hqi
     clear HW9 HK9 hY gg hC hqi hqe hi0
     go_region_held3 (fun W=>∀c k,c < wc.heap.size→W.cell? ⟨c,k,none⟩=wc.cell? ⟨c,k,none⟩) ((intro c k hc;refine Below.cell (B:=wc.heap.size) (w:=wc) (p:=⟨c,k,none⟩) ?_ hc;(exact ZtZ))) ((first|(go_at_call 33;(refine (Zhm v _ (fun _=>True) (fun _=>True) mo ⟨xa,xc⟩ OKV.out (by exact Zt5 ar _ _ HRV.out) (by exact Zt5 ar _ _ HGX.out)).mono ?_);rintro e w6 ⟨rfl,hb6⟩;have hz6:=hb6.size;(try simp at hz6))|(go_at_call 36;(refine (Zsg s' s _ om om).mono ?_);rw [HC.out];rintro e w7 ⟨rfl,rfl⟩)))
     go_wp2_with fail
     go_meet
     exact ⟨rfl,ZtZ⟩
    obtain ⟨rfl,hbd⟩:=hcut
    have hbd2:Below w.heap.size w wc:=hbw2.trans (hbd.mono om)
    have hbr3:Below w3.heap.size w3 wc:=hbr2.trans (hbd.mono om)
    have hzd:=hbd.size
    replace g0:=(hbd.cell (p:=⟨b,o+i*4,none⟩) u1).trans g0
    clear g1 g2 g3 o0 o1 o2 o3 o4 HGX HRV HK9 HRUN HRE
    go_wp2_with fail
    go_loopg [13] (i) (fun gk t13' wr=>∃m:Nat,gk+m=i∧t13'=.int .i64 m∧Below wc.heap.size wc wr)
    case atStart=>exact ⟨0,rfl,rfl,Below.refl _ _⟩
    case round=>
     obtain ⟨m,hm,rfl,hbm⟩:=hrel
     have hzm:=hbm.size
     by_cases hmi:m < i
     ·have hW:=HW9.out m hmi
      obtain ⟨b',o',m',e9, -, -,gg, -⟩:=HX.out.get m om
      cases e9
      obtain ⟨f0, -, -, -⟩:=Zsd.1 (Zuf (ZtY (hbr3.trans (hbm.mono om))) (A:=fun _=>True) trivial _ _ gg)
      have j2:L[m].1.size≤K:=(HIN.out _ (List.getElem_mem om)).2.1
      replace g0:=(hbm.cell (p:=⟨b,o+i*4,none⟩) (show b < wc.heap.size by omega)).trans g0
      have hm3:(m:Int) < (L.length:Int):=om
      have hm4:(0:Int)≤(m:Int):=om
      have hi4:(0:Int)≤(i:Int):=om
      have hmi2:(m:Int) < (i:Int):=om
      have u3:b < wr.heap.size:=om
      generalize L[m].1=s' at *
      have HW:=hid hW
      have HM:=hid hm
      clear HW9 hY gg hW hm
      go_wp2_with fail
      go_region_held3 (fun W=>∀c k,c < wr.heap.size→W.cell? ⟨c,k,none⟩=wr.cell? ⟨c,k,none⟩) ((intro c k hc;refine Below.cell (B:=wr.heap.size) (w:=wr) (p:=⟨c,k,none⟩) ?_ hc;(exact ZtZ))) ((go_at_call 37;(refine (ZtF s' s _ om om).mono ?_);rw [HW.out];rintro e w7 ⟨rfl,hb7⟩;have hz7:=hb7.size;(try simp at hz7)))
      go_wp2_with fail
      go_roundg (gk - 1)
      case measure=>have:=HM.out;omega
      case rel=>exact ⟨m+1,by have:=HM.out;omega,by go_num,ZtZ⟩
     have hmi2:¬(m:Int) < (i:Int):=om
     go_wp2_with fail
     go_roundg (L.length - i - 1)
     case measure=>omega
     case rel=>exact ⟨i+1,om,by go_num,ZtZ⟩
   have hin:i=L.length:=om
   have hiL:¬(i:Int) < (L.length:Int):=om
   obtain ⟨U,hU⟩:∃U,U=un % 2 ^ K:=⟨_,rfl⟩
   have hU1:U < 2 ^ K:=by rw [hU];exact Nat.mod_lt _ (Nat.two_pow_pos _)
   have hKw:(2:Nat) ^ K≤256:=Nat.pow_le_pow_right (n:=2) om hK8
   have hK0:(0:Int)≤(K:Int):=om
   have hK64:(K:Int) < 64:=om
   have hKn:K < 64:=om
   have hmod:(un:Int) % 2 ^ K=(U:Int):=by rw [hU];push_cast;rfl
   have hp2:(2:Int) ^ K=((2 ^ K:Nat):Int):=by push_cast;rfl
   have hsh0:IntKind.u64.wrap ((2:Int) ^ K)=2 ^ K:=by rw [hp2];exact IntWalk.u64_in _ om
   have hsh1:(2:Int) ^ K % 18446744073709551616=2 ^ K:=by rw [hp2];omega
   have hmin:min K 64=K:=om
   clear hp2
   have HOF:=hid (fun W=>ZtK U K ⟨om,om⟩ hU1 W)
   have hS2:=ZtN K U om
   generalize hS:ofB K U=S at *
   obtain ⟨hSb,hSz⟩:=hS2
   have HRE:=hid (Zdz HE.out hSb)
   have HSB:=hid hSb
   have hs3:S.size≤9223372036854775807:=om
   obtain ⟨c0,c1,c2,c3,c4,c5,c6,c7,c8,c9,ca,cb,cc,cd,ce⟩:=ZO.1 (Zuf (ZtY hbr) (A:=fun _=>True) trivial _ _ HBT.out)
   have HSZ:=hid hSz
   have u2:w.heap.size < wr.heap.size:=om
   clear hU hS hSb hSz hmin hsh0
   cases hR:Vm S t with
   | no q=>as_aux_lemma=>
    have hq:q=2∨q=3:=by
     have h:=Zp7 HE.out OX.out HSB.out
     rw [hR] at h
     exact h
    have HNB:=hid (fun m (hm:m < L.length)=>show Zqh L[m].1 S=false from by
     cases hq:Zqh L[m].1 S with
     | false=>rfl
     | true=>
      have:=Zq6 HE.out OX.out HSB.out (HIN.out _ (List.getElem_mem hm)).2.2.1 hq
      rw [hR] at this;cases this)
    have hq1:((q:Int)==1)=false:=by rcases hq with rfl|rfl<;>rfl
    have hq2:((q:Int) != 1)=true:=by rcases hq with rfl|rfl<;>rfl
    have hq3:¬q=1:=om
    have HR:=hid hR
    have hS4:S.size≤1024:=by have:=HSZ.out;omega
    clear hR hq
    go_wp2_with (first
     | (go_at_call 38;(with_reducible refine (HOF.out _).mono ?_);rintro e w4 ⟨rfl,hb4⟩;have hz4:=hb4.size;obtain ⟨hc4,hf4⟩:=Za hb4)
     | (go_at_call 35;refine (ZfX t S _ A ⟨ma,mb,mc,md,me,mf,mg,mh,mi,mj,mk,ml⟩ OX.out om (by exact Zt2 ar _ _ HT3.out) hs3 HRE.out q HR.out).mono ?_;rintro e w5 ⟨hb5,rfl⟩;have hz5:=hb5.size;obtain ⟨hc5,hf5⟩:=Za hb5))
    go_loopg [18,19,20] (L.length) (fun gk t18 t19 t20 wr=>∃i:Nat,gk+i=L.length∧t18=.int .i64 0∧t19=.bool false∧t20=.int .i64 i∧Below w3.heap.size w3 wr∧w5.heap.size < wr.heap.size∧wr.cell? ⟨w5.heap.size,0,none⟩=some (.int .u8 q))
    case atStart=>exact ⟨0,rfl,rfl,rfl,rfl,ZtZ,sz,gs⟩
    case round=>
     obtain ⟨i,hi,rfl,rfl,rfl,hbn,h5,hq0⟩:=hrel
     have hzn:=hbn.size
     have hbwn:Below w.heap.size w wr:=hbw3.trans (hbn.mono om)
     clear c0 c1 c2 c3 c4 c5 c6 c7 c8 c9 ca cb cc cd ce hc4 hf4 hc5 hf5
     by_cases hlt:i < L.length
     ·have hNB:=HNB.out i hlt
      obtain ⟨b,o,m',rfl, -,hbs,gg, -⟩:=HX.out.get i hlt
      obtain ⟨f0, -, -, -⟩:=Zsd.1 (Zuf (ZtY hbn) (A:=fun _=>True) trivial _ _ gg)
      have j2:L[i].1.size≤K:=(HIN.out _ (List.getElem_mem hlt)).2.1
      have hiI:(i:Int) < (L.length:Int):=om
      have hi4:(0:Int)≤(i:Int):=om
      have u3:b < wr.heap.size:=om
      generalize L[i].1=s' at *
      have HW:=hid hNB
      clear hNB gg
      go_wp2_with (go_at_call 37;(refine (ZtF s' S _ om om).mono ?_);rw [HW.out];rintro e w7 ⟨rfl,hb7⟩;have hz7:=hb7.size)
      go_roundg (gk - 1)
      case measure=>omega
      case rel=>exact ⟨i+1,om,rfl,rfl,by go_num,ZtZ,om,(hb7.cell (p:=⟨w5.heap.size,0,none⟩) h5).trans hq0⟩
     have hiL:¬(i:Int) < (L.length:Int):=om
     go_wp2_with fail
     go_ret
     exact ⟨rfl,ZtZ⟩
   | ok v j=>as_aux_lemma=>
    have HSC:=hid (Zr9 HE.out OX.out (n:=K) om HSB.out HSZ.out hR)
    have HNB:=hid (fun m (hm:m < L.length)=>show Zqh L[m].1 S=true→v=L[m].2∧L[m].1.size=j from fun hq=>by
     have:=Zq6 HE.out OX.out HSB.out (HIN.out _ (List.getElem_mem hm)).2.2.1 hq
     rw [hR] at this
     injection this with e1 e2
     exact ⟨e1,e2.symm⟩)
    have OKV:=hid (show okV v from by
     have h:=Zp7 HE.out OX.out HSB.out
     rw [hR] at h
     exact h.2.2)
    have HR:=hid hR
    have hS4:S.size≤1024:=by have:=HSZ.out;omega
    clear hR
    rw [HLL.out] at HSC
    go_wp2_with (first
     | (go_at_call 38;(with_reducible refine (HOF.out _).mono ?_);rintro e w4 ⟨rfl,hb4⟩;have hz4:=hb4.size;obtain ⟨hc4,hf4⟩:=Za hb4)
     | (go_at_call 35;refine (ZdB t S _ A ⟨ma,mb,mc,md,me,mf,mg,mh,mi,mj,mk,ml⟩ OX.out om (by exact Zt2 ar _ _ HT3.out) hs3 HRE.out v j HR.out).mono ?_;rintro e w5 ⟨hb5,mo,rfl,hrv⟩;have HRV:=hid hrv;clear hrv;have hz5:=hb5.size;obtain ⟨hc5,hf5⟩:=Za hb5))
    go_loopg [18,19,20] (L.length) (fun gk t18 t19 t20 wr=>∃(i a:Nat) (z:Bool),gk+i=L.length∧t18=.int .i64 a∧t19=.bool z∧t20=.int .i64 i∧a≤i∧Hid (ZqF S v j (L.take i) (0,false)=(a,z))∧Below w3.heap.size w3 wr∧w5.heap.size < wr.heap.size∧wr.cell? ⟨w5.heap.size,0,none⟩=some (.int .u8 1)∧wr.cell? ⟨w5.heap.size,1,none⟩=some (.int .u8 v.k)∧wr.cell? ⟨w5.heap.size,2,none⟩=some (.int .i64 v.n)∧wr.cell? ⟨w5.heap.size,3,none⟩=some (.slice mo.a v.l.length mo.c)∧wr.cell? ⟨w5.heap.size,4,none⟩=some (.int .i64 j)∧Hid (RV wr (fun _=>True) v mo.a))
    case atStart=>exact ⟨0,0,false,rfl,rfl,rfl,rfl,Nat.le_refl _,hid rfl,ZtZ,sz,gs,gs,gs,gs,gs,hid (Zt5 ar _ _ (Zt9 (fun _ _ _=>trivial) _ _ HRV.out))⟩
    case round=>
     obtain ⟨i,a,z,hi,rfl,rfl,rfl,ha,HA,hbn,h5,o0,o1,o2,o3,o4,HRV⟩:=hrel
     have hzn:=hbn.size
     have hbwn:Below w.heap.size w wr:=hbw3.trans (hbn.mono om)
     clear c0 c1 c2 c3 c4 c5 c6 c7 c8 c9 ca cb cc cd ce hc4 hf4 hc5 hf5
     by_cases hlt:i < L.length
     ·have hNB:=HNB.out i hlt
      have HTK:=hid (ZtM hlt HA.out)
      obtain ⟨b,o,m',rfl, -,hbs,gg,gx⟩:=HX.out.get i hlt
      obtain ⟨xa,xc⟩:=m'
      obtain ⟨f0,f1,f2,f3⟩:=Zsd.1 (Zuf (ZtY hbn) (A:=fun _=>True) trivial _ _ gg)
      have HGX:=hid (Zt5 (ZtY hbn) _ _ gx)
      have j2:L[i].1.size≤K:=(HIN.out _ (List.getElem_mem hlt)).2.1
      have hiI:(i:Int) < (L.length:Int):=om
      have hi4:(0:Int)≤(i:Int):=om
      have u3:b < wr.heap.size:=om
      have wa:IntKind.i64.wrap ((a:Int)+1)=(a:Int)+1:=IntWalk.i64_in _ om
      clear gg gx
      generalize L[i]=Y at *
      obtain ⟨s',v'⟩:=Y
      dsimp only at *
      cases hbe:Zqh s' S with
      | false=>
       have HW:=hid hbe
       have HT:=hid (show ZqF S v j (L.take (i+1)) (0,false)=(a,z) from by rw [HTK.out,if_neg (by rw [hbe];exact Bool.false_ne_true)])
       clear hbe hNB
       go_wp2_with (go_at_call 37;(refine (ZtF s' S _ om om).mono ?_);rw [HW.out];rintro e w7 ⟨rfl,hb7⟩;have hz7:=hb7.size)
       go_roundg (gk - 1)
       case measure=>omega
       case rel=>exact ⟨i+1,a,z,om,rfl,rfl,by go_num,om,HT,ZtZ,om,(hb7.cell (p:=⟨w5.heap.size,0,none⟩) h5).trans o0,(hb7.cell (p:=⟨w5.heap.size,1,none⟩) h5).trans o1,(hb7.cell (p:=⟨w5.heap.size,2,none⟩) h5).trans o2,(hb7.cell (p:=⟨w5.heap.size,3,none⟩) h5).trans o3,(hb7.cell (p:=⟨w5.heap.size,4,none⟩) h5).trans o4,hid (Zt5 (ZtY hb7) _ _ HRV.out)⟩
      | true=>
       obtain ⟨rfl,hsj⟩:=hNB hbe
       have HW:=hid hbe
       have HT:=hid (show ZqF S v j (L.take (i+1)) (0,false)=(a+1,true) from by rw [HTK.out,if_pos hbe,U8,hsj];simp)
       have hsj2:((s'.size:Int)==(j:Int))=true:=by rw [hsj];exact beq_self_eq_true _
       clear hbe hNB
       go_wp2_with (go_at_call 37;(refine (ZtF s' S _ om om).mono ?_);rw [HW.out];rintro e w7 ⟨rfl,hb7⟩;have hz7:=hb7.size;have p0:=(hb7.cell (p:=⟨b,o+i*4,none⟩) u3).trans f0;have p1:=(hb7.cell (p:=⟨b,o+i*4+1,none⟩) u3).trans f1;have p2:=(hb7.cell (p:=⟨b,o+i*4+2,none⟩) u3).trans f2;have p3:=(hb7.cell (p:=⟨b,o+i*4+3,none⟩) u3).trans f3;have r0:=(hb7.cell (p:=⟨w5.heap.size,0,none⟩) h5).trans o0;have r1:=(hb7.cell (p:=⟨w5.heap.size,1,none⟩) h5).trans o1;have r2:=(hb7.cell (p:=⟨w5.heap.size,2,none⟩) h5).trans o2;have r3:=(hb7.cell (p:=⟨w5.heap.size,3,none⟩) h5).trans o3;have r4:=(hb7.cell (p:=⟨w5.heap.size,4,none⟩) h5).trans o4)
       have HGX7:=hid (Zt5 (ZtY hb7) _ _ HGX.out)
       have HRV7:=hid (Zt5 (ZtY hb7) _ _ HRV.out)
       have u4:b < w7.heap.size:=om
       have h6:w5.heap.size < w7.heap.size:=om
       clear f0 f1 f2 f3 o0 o1 o2 o3 o4 HGX HRV
       go_region_held3 (fun W=>∀c k,c < w7.heap.size→W.cell? ⟨c,k,none⟩=w7.cell? ⟨c,k,none⟩) ((intro c k hc;refine Below.cell (B:=w7.heap.size) (w:=w7) (p:=⟨c,k,none⟩) ?_ hc;(exact ZtZ))) ((go_at_call 33;(refine (Zhm v _ (fun _=>True) (fun _=>True) ⟨xa,xc⟩ mo OKV.out (by exact Zt5 ar _ _ HGX7.out) (by exact Zt5 ar _ _ HRV7.out)).mono ?_);rintro e w8 ⟨rfl,hb8⟩;have hz8:=hb8.size;(try simp at hz8)))
       go_wp2_with fail
       go_roundg (gk - 1)
       case measure=>omega
       case rel=>exact ⟨i+1,a+1,true,om,by first|rfl|go_num,by first|rfl|simp [hsj],by first|rfl|go_num,om,HT,ZtZ,sz,(by first|exact (hb8.cell (p:=⟨w5.heap.size,0,none⟩) h6).trans r0|go_simp),(by first|exact (hb8.cell (p:=⟨w5.heap.size,1,none⟩) h6).trans r1|go_simp),(by first|exact (hb8.cell (p:=⟨w5.heap.size,2,none⟩) h6).trans r2|go_simp),(by first|exact (hb8.cell (p:=⟨w5.heap.size,3,none⟩) h6).trans r3|go_simp),(by first|exact (hb8.cell (p:=⟨w5.heap.size,4,none⟩) h6).trans r4|go_simp),hid (Zt5 ar _ _ HRV7.out)⟩
     have hiE:i=L.length:=om
     have hfin:a=1∧z=true:=by
      have h:=HA.out
      rw [hiE,List.take_length,HSC.out] at h
      injection h with e1 e2
      exact ⟨e1.symm,e2.symm⟩
     obtain ⟨rfl,rfl⟩:=hfin
     have hiL:¬(i:Int) < (L.length:Int):=om
     go_wp2_with fail
     go_ret
     exact ⟨rfl,ZtZ⟩
 as_aux_lemma=>
 have hEE:Zqq t K≠0:=by
  unfold Zqq
  first|exact hE|(split<;>first|exact hE|omega)
 have hm:ZtP t=false:=by
  unfold ZtP
  simp [hE]
 have HMAY:=hid (fun W h=>ZtQ t W A ⟨ma,mb,mc,md,me,mf,mg,mh,mi,mj,mk,ml⟩ ox hs9 h)
 rw [hm] at HMAY
 have HALL:=hid (fun W h=>Zrk t K W A ⟨ma,mb,mc,md,me,mf,mg,mh,mi,mj,mk,ml⟩ ox hs9 h hEE)
 generalize Zqq t K=E at *
 have hE1:(E != 0)=true:=by simpa using hEE
 clear hl ox hE hK hs9 hm hEE
 go_enter func7,ntmps7
 go_wp2_with (first
  | (go_at_call 10;(with_reducible refine (ZrA t K _ A ⟨ma,mb,mc,md,me,mf,mg,mh,mi,mj,mk,ml⟩ OX.out om (by exact Zt2 ar _ _ HL.out)).mono ?_);rintro e w1 ⟨⟨b1,rfl⟩,hb1⟩;obtain ⟨hc1,hf1⟩:=Za hb1;have hz1:=hb1.size;(try simp at hz1);have y1:w.heap.size < w1.heap.size:=om;cases b1)
  | (go_at_call 11;(with_reducible refine (ZrU _).mono ?_);rintro e w2 ⟨rfl,hb2⟩;obtain ⟨hc2,hf2⟩:=Za hb2;have hz2:=hb2.size;(try simp at hz2);have y2:w.heap.size < w2.heap.size:=om)
  | (go_at_call 13;(with_reducible refine (HALL.out _ (by exact Zt2 ar _ _ HL.out)).mono ?_);rintro e w3 ⟨rfl,hb3⟩;obtain ⟨hc3,hf3⟩:=Za hb3;have hz3:=hb3.size;have y3:w.heap.size < w3.heap.size:=om)
  | (go_at_call 32;(refine (HMAY.out _ (by exact Zt2 ar _ _ HL.out)).mono ?_);rintro e w4 ⟨rfl,hb4⟩;obtain ⟨hc4,hf4⟩:=Za hb4;have hz4:=hb4.size))
 all_goals go_ret
 all_goals exact ⟨rfl,ZtZ⟩
end Go.Proofs.YtkdffbdnjfgpeaaGreat
