/- HaltAlls: for every term of bulk at most 1048576 and every number, the statement's function returns true, and its arguments read as they did. -/
import Derived.Carry
import Derived.ChangeMaps5
import Derived.JoinedCond
import Derived.Test.YtkdffbdnjfgpeaaGreatY1
import Derived.Test.YtkdffbdnjfgpeaaGreatY92
set_option linter.all false
namespace Go.Proofs.YtkdffbdnjfgpeaaGreat.haltAlls
open Go Go.RowKit
section
open Go.ChangeShapes Go.WideShapes Go.ChangeAt Go.ChangeMaps Go.RowKit
open Go.Proofs.YtkdffbdnjfgpeaaGreat

theorem own:ownKnob Tryz.prog.godebug=none:=kr
theorem laidOut:laidOutB Tryz.prog=true:=kr

set_option maxRecDepth 100000
theorem contract (H:Type) (enc:TypeId×Value→H) (W:World) (base:Nat) (args:Array Value) (ds gs:List (DataW H)) (before:List MemPlace)
  (hval:∀(j:Nat) t v,Tryz.f3.params[j]? =some t→args[j]? =some v→Value.okWide Tryz.prog W .any base t v)
  (hW:DataW.Whole enc Tryz.prog Tryz.f3.params.toList Rows.haltAllsSpec.vars false W args.toList ds gs before) (hk:Rows.uptoSmall H (ds++gs)=true):
  Calls Tryz.prog 3 args W fun e W'=>∃v,e=.returned v∧Rows.haltAllsSpec.post enc Tryz.prog Tryz.f3 false true false false W args v W':=by
 have hW':=hW
 obtain ⟨p,q,hA0,hV,rfl,hfz,hnd⟩:=hW
 have hA:DataW.TrodAll enc Tryz.prog W 0 (fun _=>true) true Tryz.f3.params.toList args.toList ds p:=hA0
 rw [Tryz.params3] at hA hval
 obtain ⟨v0,vs0,d0,ds0,p0,q0,hargs,rfl,rfl,h0,r0⟩:=trodAll_cons hA
 obtain ⟨v1,vs1,d1,ds1,p1,q1,rfl,rfl,rfl,h1,r1⟩:=trodAll_cons r0
 obtain ⟨rfl,rfl,rfl⟩:=trodAll_nil r1
 obtain rfl:args= #[v0,v1]:=by cases args;simp_all
 obtain ⟨rfl,rfl⟩:=trodVars_none hV
 clear hA0
 simp only [List.append_nil] at hW' hk
 have hbulk:Rows.uptoBulkAll [d0,d1]≤1048576:=of_decide_eq_true hk
 have hlt:∀x∈p0++(p1),x.block < W.heap.size:=fun x hx=>hW'.lt x (by simpa using hx)
 obtain ⟨n1,rfl,rfl,rfl,w1⟩:=open_int Tryz.underlying3 (hval 1 3 v1 rfl rfl) h1
 have hb:Rows.uptoBulk d0+1≤1048576:=by
  simp [Rows.uptoBulkAll,Rows.uptoBulk] at hbulk
  omega
 obtain ⟨c0,rfl,_⟩:=okWide_struct Tryz.underlying31 (hval 0 31 v0 rfl rfl)
 have h0k:=h0
 obtain ⟨f0,hf0⟩:=h0
 obtain ⟨x0,m0,e0,a0,b0,z0⟩:=Zkr (B:=1048576) (Nat.le_refl _) _ _ _ hf0 (by show Rows.uptoBulk d0≤_;omega)
 have hc0:(Value.agg c0)=TV x0 m0:=by
  have:c0.toList=_:=e0
  congr 1
  exact Array.ext' this
 rw [hc0]
 have y0:Zb x0≤Rows.uptoBulk d0:=z0
 refine (Zxb W x0 (fun _=>True) m0 b0 om a0 n1).mono fun e W' ⟨he,hB⟩=>?_
 subst he
 have g0:=Below.trod laidOut kr (of_decide_eq_true kr) h0k hB (fun x hx=>hlt x (by simp [hx]))
 rw [hc0] at g0
 rw [hc0] at hW'
 refine ⟨_,rfl,_,_,_,[],p0++([]++([])),[],hW',?_,?_,?_,hB.frame _,fun h=>by cases h⟩
 ·exact trodAll_cons_mk (shut_bool Tryz.underlying4 _) trodAll_mk0
 ·exact trodAll_cons_mk g0 (trodAll_cons_mk (shut_int Tryz.underlying3 w1) trodAll_mk0)
 rfl

theorem lifted (os:Os) (started:os.Started) (H:Type) (enc:TypeId×Value→H) (F:Stop.Interp):
  ReturnsInHanded {} Tryz.checked os 3 .any ((Rows.OpenSpec.upto Rows.haltAllsSpec).pre6 enc Tryz.prog Tryz.f3 Rows.haltAllsUptoRow.domain false) (((Rows.OpenSpec.upto Rows.haltAllsSpec).at F).post enc Tryz.prog Tryz.f3 false true false false):=by
 refine returnsInHanded_of_cond (C:=Tryz.checked) (s:=Rows.OpenSpec.upto Rows.haltAllsSpec) (k:=Rows.uptoSmall) rfl own started kr Tryz.func3
  (OpenSpec.witness (enc:=enc) (C:=Tryz.checked) (s:=Rows.OpenSpec.upto Rows.haltAllsSpec) (k:=Rows.uptoSmall) rfl false ⟨#[], #[.agg #[.int .u8 0,.int .u8 0,.int .i64 0,.slice none 0 0,.slice none 0 0,.int .i64 0,.int .i64 0,.slice none 0 0,.int .u8 0,.int .u8 0,.int .i64 0,.slice none 0 0,.int .i64 0,.slice none 0 0,.slice none 0 0],.int .i64 0],[]⟩ 12 kr kr kr
   (x:=([.agg [.lit (.int .u8 0),.agg [.lit (.int .u8 0),.lit (.int .i64 0),.nil],.nil,.lit (.int .i64 0),.lit (.int .i64 0),.nil,.agg [.lit (.int .u8 0),.agg [.lit (.int .u8 0),.lit (.int .i64 0),.nil],.lit (.int .i64 0),.nil],.nil],.lit (.int .i64 0)],[],[])) kr rfl kr) ?_
 intro W base args ds gs before hval hW _ hk _
 exact contract H enc W base args ds gs before hval hW hk

set_option maxRecDepth 512
theorem jf1:(Rows.haltAllsUptoRow.inPlace==Tryz.pinned.checked.prog.inPlace 3)=true:=kr
theorem jf2:(Rows.haltAllsUptoRow.unfollowed==Tryz.pinned.checked.prog.unfollowed 3)=true:=kr
theorem jf3:(Rows.haltAllsUptoRow.recurses==Tryz.pinned.checked.prog.recurses 3)=true:=kr
theorem jf4:(Rows.haltAllsUptoRow.named==Tryz.pinned.checked.prog.varsNamed 3)=true:=kr
theorem Zui:joinedFacts Tryz.pinned.checked.prog 3 Tryz.f3 (Rows.OpenSpec.upto Rows.haltAllsSpec).bare Rows.haltAllsUptoRow=true:=by
 unfold joinedFacts
 rw [jf1,jf2,jf3,jf4]
 kernel_rfl
theorem W6:Rows.haltAllsUptoRow.holds Tryz.pinned (Rows.OpenSpec.upto Rows.haltAllsSpec):=
 OpenClaim.holds_of_cond 3 Tryz.f3 rfl rfl rfl rfl rfl rfl rfl ⟨rfl,rfl,rfl,rfl,rfl⟩ rfl rfl rfl rfl rfl kr Tryz.func3 Zui
  (of_decide_eq_true kr) (by unfold Func.isWrapper;first|(rw [if_pos (by decide +kernel)];kernel_rfl)|(rw [if_neg (by decide +kernel)];exact ⟨rfl,rfl⟩))
  (fun os started H enc _ F=>lifted os started H enc F)

theorem proved:Rows.HaltAllsUptoSaid:=
 W6
end
end Go.Proofs.YtkdffbdnjfgpeaaGreat.haltAlls
