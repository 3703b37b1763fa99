/- HaltParts: for every term and value of bulk at most 1048576 and every number, the statement's function returns true, and its arguments read as they did. -/
import Derived.Carry
import Derived.ChangeMaps5
import Derived.JoinedCond
import Derived.Test.YtkdffbdnjfgpeaaGreatY1
import Derived.Test.YtkdffbdnjfgpeaaGreatY98
set_option linter.all false
namespace Go.Proofs.YtkdffbdnjfgpeaaGreat.haltParts
open Go Go.RowKit
section
open Go.ChangeShapes Go.WideShapes Go.ChangeAt Go.ChangeMaps Go.RowKit
open Go.Proofs.YtkdffbdnjfgpeaaGreat

theorem own:ownKnob Tryz.prog.godebug=none:=kr
theorem laidOut:laidOutB Tryz.prog=true:=kr

set_option maxRecDepth 100000
theorem contract (H:Type) (enc:TypeId×Value→H) (W:World) (base:Nat) (args:Array Value) (ds gs:List (DataW H)) (before:List MemPlace)
  (hval:∀(j:Nat) t v,Tryz.f4.params[j]? =some t→args[j]? =some v→Value.okWide Tryz.prog W .any base t v)
  (hW:DataW.Whole enc Tryz.prog Tryz.f4.params.toList Rows.haltPartsSpec.vars false W args.toList ds gs before) (hk:Rows.uptoSmall H (ds++gs)=true):
  Calls Tryz.prog 4 args W fun e W'=>∃v,e=.returned v∧Rows.haltPartsSpec.post enc Tryz.prog Tryz.f4 false true false false W args v W':=by
 have hW':=hW
 obtain ⟨p,q,hA0,hV,rfl,hfz,hnd⟩:=hW
 have hA:DataW.TrodAll enc Tryz.prog W 0 (fun _=>true) true Tryz.f4.params.toList args.toList ds p:=hA0
 rw [Tryz.params4] at hA hval
 obtain ⟨v0,vs0,d0,ds0,p0,q0,hargs,rfl,rfl,h0,r0⟩:=trodAll_cons hA
 obtain ⟨v1,vs1,d1,ds1,p1,q1,rfl,rfl,rfl,h1,r1⟩:=trodAll_cons r0
 obtain ⟨v2,vs2,d2,ds2,p2,q2,rfl,rfl,rfl,h2,r2⟩:=trodAll_cons r1
 obtain ⟨rfl,rfl,rfl⟩:=trodAll_nil r2
 obtain rfl:args= #[v0,v1,v2]:=by cases args;simp_all
 obtain ⟨rfl,rfl⟩:=trodVars_none hV
 clear hA0
 simp only [List.append_nil] at hW' hk
 have hbulk:Rows.uptoBulkAll [d0,d1,d2]≤1048576:=of_decide_eq_true hk
 have hlt:∀x∈p0++(p1++(p2)),x.block < W.heap.size:=fun x hx=>hW'.lt x (by simpa using hx)
 obtain ⟨n1,rfl,rfl,rfl,w1⟩:=open_int Tryz.underlying3 (hval 1 3 v1 rfl rfl) h1
 have hb:Rows.uptoBulk d0+1+Rows.uptoBulk d2≤1048576:=by
  simp [Rows.uptoBulkAll,Rows.uptoBulk] at hbulk
  omega
 obtain ⟨c0,rfl,_⟩:=okWide_struct Tryz.underlying31 (hval 0 31 v0 rfl rfl)
 have h0k:=h0
 obtain ⟨f0,hf0⟩:=h0
 obtain ⟨x0,m0,e0,a0,b0,z0⟩:=Zkr (B:=1048576) (Nat.le_refl _) _ _ _ hf0 (by show Rows.uptoBulk d0≤_;omega)
 have hc0:(Value.agg c0)=TV x0 m0:=by
  have:c0.toList=_:=e0
  congr 1
  exact Array.ext' this
 rw [hc0]
 have y0:Zb x0≤Rows.uptoBulk d0:=z0
 obtain ⟨c2,rfl,_⟩:=okWide_struct Tryz.underlying24 (hval 2 24 v2 rfl rfl)
 have h2k:=h2
 obtain ⟨f2,hf2⟩:=h2
 obtain ⟨x2,m2,e2,a2,b2,z2⟩:=Zfl (B:=1048576) (Nat.le_refl _) _ _ _ hf2 (by show Rows.uptoBulk d2≤_;omega)
 have hc2:(Value.agg c2)=VV x2 m2:=by
  have:c2.toList=_:=e2
  congr 1
  exact Array.ext' this
 rw [hc2]
 have y2:Zg x2≤Rows.uptoBulk d2:=z2
 refine (Zyh W x0 (fun _=>True) m0 b0 om a0 n1 x2 (fun _=>True) m2 b2 om a2).mono fun e W' ⟨he,hB⟩=>?_
 subst he
 have g0:=Below.trod laidOut kr (of_decide_eq_true kr) h0k hB (fun x hx=>hlt x (by simp [hx]))
 rw [hc0] at g0
 have g2:=Below.trod laidOut kr (of_decide_eq_true kr) h2k hB (fun x hx=>hlt x (by simp [hx]))
 rw [hc2] at g2
 rw [hc0,hc2] at hW'
 refine ⟨_,rfl,_,_,_,[],p0++([]++(p2++([]))),[],hW',?_,?_,?_,hB.frame _,fun h=>by cases h⟩
 ·exact trodAll_cons_mk (shut_bool Tryz.underlying4 _) trodAll_mk0
 ·exact trodAll_cons_mk g0 (trodAll_cons_mk (shut_int Tryz.underlying3 w1) (trodAll_cons_mk g2 trodAll_mk0))
 rfl

theorem lifted (os:Os) (started:os.Started) (H:Type) (enc:TypeId×Value→H) (F:Stop.Interp):
  ReturnsInHanded {} Tryz.checked os 4 .any ((Rows.OpenSpec.upto Rows.haltPartsSpec).pre6 enc Tryz.prog Tryz.f4 Rows.haltPartsUptoRow.domain false) (((Rows.OpenSpec.upto Rows.haltPartsSpec).at F).post enc Tryz.prog Tryz.f4 false true false false):=by
 refine returnsInHanded_of_cond (C:=Tryz.checked) (s:=Rows.OpenSpec.upto Rows.haltPartsSpec) (k:=Rows.uptoSmall) rfl own started kr Tryz.func4
  (OpenSpec.witness (enc:=enc) (C:=Tryz.checked) (s:=Rows.OpenSpec.upto Rows.haltPartsSpec) (k:=Rows.uptoSmall) rfl false ⟨#[], #[.agg #[.int .u8 0,.int .u8 0,.int .i64 0,.slice none 0 0,.slice none 0 0,.int .i64 0,.int .i64 0,.slice none 0 0,.int .u8 0,.int .u8 0,.int .i64 0,.slice none 0 0,.int .i64 0,.slice none 0 0,.slice none 0 0],.int .i64 0,.agg #[.int .u8 0,.int .i64 0,.slice none 0 0]],[]⟩ 12 kr kr kr
   (x:=([.agg [.lit (.int .u8 0),.agg [.lit (.int .u8 0),.lit (.int .i64 0),.nil],.nil,.lit (.int .i64 0),.lit (.int .i64 0),.nil,.agg [.lit (.int .u8 0),.agg [.lit (.int .u8 0),.lit (.int .i64 0),.nil],.lit (.int .i64 0),.nil],.nil],.lit (.int .i64 0),.agg [.lit (.int .u8 0),.lit (.int .i64 0),.nil]],[],[])) kr rfl kr) ?_
 intro W base args ds gs before hval hW _ hk _
 exact contract H enc W base args ds gs before hval hW hk

set_option maxRecDepth 512
theorem jf1:(Rows.haltPartsUptoRow.inPlace==Tryz.pinned.checked.prog.inPlace 4)=true:=kr
theorem jf2:(Rows.haltPartsUptoRow.unfollowed==Tryz.pinned.checked.prog.unfollowed 4)=true:=kr
theorem jf3:(Rows.haltPartsUptoRow.recurses==Tryz.pinned.checked.prog.recurses 4)=true:=kr
theorem jf4:(Rows.haltPartsUptoRow.named==Tryz.pinned.checked.prog.varsNamed 4)=true:=kr
theorem Zui:joinedFacts Tryz.pinned.checked.prog 4 Tryz.f4 (Rows.OpenSpec.upto Rows.haltPartsSpec).bare Rows.haltPartsUptoRow=true:=by
 unfold joinedFacts
 rw [jf1,jf2,jf3,jf4]
 kernel_rfl
theorem W6:Rows.haltPartsUptoRow.holds Tryz.pinned (Rows.OpenSpec.upto Rows.haltPartsSpec):=
 OpenClaim.holds_of_cond 4 Tryz.f4 rfl rfl rfl rfl rfl rfl rfl ⟨rfl,rfl,rfl,rfl,rfl⟩ rfl rfl rfl rfl rfl kr Tryz.func4 Zui
  (of_decide_eq_true kr) (by unfold Func.isWrapper;first|(rw [if_pos (by decide +kernel)];kernel_rfl)|(rw [if_neg (by decide +kernel)];exact ⟨rfl,rfl⟩))
  (fun os started H enc _ F=>lifted os started H enc F)

theorem proved:Rows.HaltPartsUptoSaid:=
 W6
end
end Go.Proofs.YtkdffbdnjfgpeaaGreat.haltParts
