/- HaltNames: the statement's function, which takes nothing, returns true. -/
import Derived.Carry
import Derived.ChangeMaps5
import Derived.JoinedCond
import Derived.OpenShut
import Derived.Test.YtkdffbdnjfgpeaaGreatRows
import Derived.Test.YtkdffbdnjfgpeaaGreatY70
set_option linter.all false
namespace Go.Proofs.YtkdffbdnjfgpeaaGreat.haltNames
open Go Go.RowKit
section
open Go.ChangeShapes Go.WideShapes Go.ChangeAt Go.ChangeMaps Go.RowKit
open Go.Proofs.YtkdffbdnjfgpeaaGreat

theorem own:ownKnob Tryz.prog.godebug=none:=kr
theorem laidOut:laidOutB Tryz.prog=true:=kr

set_option maxRecDepth 100000
theorem contract (H:Type) (enc:TypeId×Value→H) (W:World) (base:Nat) (args:Array Value) (ds gs:List (DataW H)) (before:List MemPlace)
  (hval:∀(j:Nat) t v,Tryz.f5.params[j]? =some t→args[j]? =some v→Value.okWide Tryz.prog W .any base t v)
  (hW:DataW.Whole enc Tryz.prog Tryz.f5.params.toList Rows.haltNamesSpec.vars false W args.toList ds gs before) (hk:Rows.uptoSmall H (ds++gs)=true):
  Calls Tryz.prog 5 args W fun e W'=>∃v,e=.returned v∧Rows.haltNamesSpec.post enc Tryz.prog Tryz.f5 false true false false W args v W':=by
 have hW':=hW
 obtain ⟨p,q,hA0,hV,rfl,hfz,hnd⟩:=hW
 have hA:DataW.TrodAll enc Tryz.prog W 0 (fun _=>true) true Tryz.f5.params.toList args.toList ds p:=hA0
 rw [Tryz.params5] at hA
 obtain ⟨hargs,rfl,rfl⟩:=trodAll_nil hA
 obtain rfl:args= #[]:=by cases args;simp_all
 obtain ⟨rfl,rfl⟩:=trodVars_none hV
 clear hA0
 simp only [List.append_nil] at hW'
 refine (Zvc W).mono fun e W' ⟨he,hB⟩=>?_
 subst he
 refine ⟨_,rfl,_,_,_,[],[],[],hW',?_,?_,?_,hB.frame _,fun h=>by cases h⟩
 ·exact trodAll_cons_mk (shut_bool Tryz.underlying4 _) trodAll_mk0
 ·exact trodAll_mk0
 rfl

theorem lifted (os:Os) (started:os.Started) (H:Type) (enc:TypeId×Value→H) (F:Stop.Interp):
  ReturnsInHanded {} Tryz.checked os 5 .any ((Rows.OpenSpec.upto Rows.haltNamesSpec).pre6 enc Tryz.prog Tryz.f5 Rows.haltNamesUptoRow.domain false) (((Rows.OpenSpec.upto Rows.haltNamesSpec).at F).post enc Tryz.prog Tryz.f5 false true false false):=by
 refine returnsInHanded_of_cond (C:=Tryz.checked) (s:=Rows.OpenSpec.upto Rows.haltNamesSpec) (k:=Rows.uptoSmall) rfl own started kr Tryz.func5
  (OpenSpec.witness (enc:=enc) (C:=Tryz.checked) (s:=Rows.OpenSpec.upto Rows.haltNamesSpec) (k:=Rows.uptoSmall) rfl false ⟨#[], #[],[]⟩ 12 kr kr kr
   (x:=([],[],[])) kr rfl kr) ?_
 intro W base args ds gs before hval hW _ hk _
 exact contract H enc W base args ds gs before hval hW hk

set_option maxRecDepth 512
theorem jf1:(Rows.haltNamesUptoRow.inPlace==Tryz.pinned.checked.prog.inPlace 5)=true:=kr
theorem jf2:(Rows.haltNamesUptoRow.unfollowed==Tryz.pinned.checked.prog.unfollowed 5)=true:=kr
theorem jf3:(Rows.haltNamesUptoRow.recurses==Tryz.pinned.checked.prog.recurses 5)=true:=kr
theorem jf4:(Rows.haltNamesUptoRow.named==Tryz.pinned.checked.prog.varsNamed 5)=true:=kr
theorem Zui:joinedFacts Tryz.pinned.checked.prog 5 Tryz.f5 (Rows.OpenSpec.upto Rows.haltNamesSpec).bare Rows.haltNamesUptoRow=true:=by
 unfold joinedFacts
 rw [jf1,jf2,jf3,jf4]
 kernel_rfl
theorem W6:Rows.haltNamesUptoRow.holds Tryz.pinned (Rows.OpenSpec.upto Rows.haltNamesSpec):=
 OpenClaim.holds_of_cond 5 Tryz.f5 rfl rfl rfl rfl rfl rfl rfl ⟨rfl,rfl,rfl,rfl,rfl⟩ rfl rfl rfl rfl rfl kr Tryz.func5 Zui
  (of_decide_eq_true kr) (by unfold Func.isWrapper;first|(rw [if_pos (by decide +kernel)];kernel_rfl)|(rw [if_neg (by decide +kernel)];exact ⟨rfl,rfl⟩))
  (fun os started H enc _ F=>lifted os started H enc F)

theorem proved:Rows.HaltNamesUptoSaid:=
 W6
end
end Go.Proofs.YtkdffbdnjfgpeaaGreat.haltNames
