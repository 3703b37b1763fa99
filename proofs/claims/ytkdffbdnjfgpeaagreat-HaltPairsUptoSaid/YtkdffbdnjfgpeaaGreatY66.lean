/- HaltPairs: for every two terms and number, of bulk at most 1048576, the statement's function returns true, and its arguments read as they did. -/
import Derived.Carry
import Derived.ChangeMaps5
import Derived.JoinedCond
import Derived.Test.YtkdffbdnjfgpeaaGreatY1
import Derived.Test.YtkdffbdnjfgpeaaGreatY65
set_option linter.all false
namespace Go.Proofs.YtkdffbdnjfgpeaaGreat.haltPairs
open Go Go.RowKit
section
open Go.ChangeShapes Go.WideShapes Go.ChangeAt Go.ChangeMaps Go.RowKit
open Go.Proofs.YtkdffbdnjfgpeaaGreat

theorem own:ownKnob Tryz.prog.godebug=none:=kr
theorem laidOut:laidOutB Tryz.prog=true:=kr

theorem wfB {n:Int} (h:(Lit.int .u8 n).wf=true):0≤n∧n≤255:=by
 have h1:(decide (0≤n)&&decide (n≤255))=true:=h
 simpa using h1
set_option maxRecDepth 100000
theorem contract (H:Type) (enc:TypeId×Value→H) (W:World) (base:Nat) (args:Array Value) (ds gs:List (DataW H)) (before:List MemPlace)
  (hval:∀(j:Nat) t v,Tryz.f6.params[j]? =some t→args[j]? =some v→Value.okWide Tryz.prog W .any base t v)
  (hW:DataW.Whole enc Tryz.prog Tryz.f6.params.toList Rows.haltPairsSpec.vars false W args.toList ds gs before) (hk:Rows.uptoSmall H (ds++gs)=true):
  Calls Tryz.prog 6 args W fun e W'=>∃v,e=.returned v∧Rows.haltPairsSpec.post enc Tryz.prog Tryz.f6 false true false false W args v W':=by
 have hW':=hW
 obtain ⟨p,q,hA0,hV,rfl,hfz,hnd⟩:=hW
 have hA:DataW.TrodAll enc Tryz.prog W 0 (fun _=>true) true Tryz.f6.params.toList args.toList ds p:=hA0
 rw [Tryz.params6] at hA hval
 obtain ⟨v0,vs0,d0,ds0,p0,q0,hargs,rfl,rfl,h0,r0⟩:=trodAll_cons hA
 obtain ⟨v1,vs1,d1,ds1,p1,q1,rfl,rfl,rfl,h1,r1⟩:=trodAll_cons r0
 obtain ⟨v2,vs2,d2,ds2,p2,q2,rfl,rfl,rfl,h2,r2⟩:=trodAll_cons r1
 obtain ⟨rfl,rfl,rfl⟩:=trodAll_nil r2
 obtain rfl:args= #[v0,v1,v2]:=by cases args;simp_all
 obtain ⟨rfl,rfl⟩:=trodVars_none hV
 clear hA0
 simp only [List.append_nil] at hW' hk
 have hbulk:Rows.uptoBulkAll [d0,d1,d2]≤1048576:=of_decide_eq_true hk
 have hlt:∀x∈p0++(p1++(p2)),x.block < W.heap.size:=fun x hx=>hW'.lt x (by simpa using hx)
 obtain ⟨n2,rfl,rfl,rfl,w2⟩:=open_int Tryz.underlying5 (hval 2 5 v2 rfl rfl) h2
 have hb:Rows.uptoBulk d0+Rows.uptoBulk d1+1≤1048576:=by
  simp [Rows.uptoBulkAll,Rows.uptoBulk] at hbulk
  omega
 obtain ⟨c0,rfl,_⟩:=okWide_struct Tryz.underlying31 (hval 0 31 v0 rfl rfl)
 have h0k:=h0
 obtain ⟨f0,hf0⟩:=h0
 obtain ⟨x0,m0,e0,a0,b0,z0⟩:=Zkr (B:=1048576) (Nat.le_refl _) _ _ _ hf0 (by show Rows.uptoBulk d0≤_;omega)
 have hc0:(Value.agg c0)=TV x0 m0:=by
  have:c0.toList=_:=e0
  congr 1
  exact Array.ext' this
 rw [hc0]
 have y0:Zb x0≤Rows.uptoBulk d0:=z0
 obtain ⟨c1,rfl,_⟩:=okWide_struct Tryz.underlying31 (hval 1 31 v1 rfl rfl)
 have h1k:=h1
 obtain ⟨f1,hf1⟩:=h1
 obtain ⟨x1,m1,e1,a1,b1,z1⟩:=Zkr (B:=1048576) (Nat.le_refl _) _ _ _ hf1 (by show Rows.uptoBulk d1≤_;omega)
 have hc1:(Value.agg c1)=TV x1 m1:=by
  have:c1.toList=_:=e1
  congr 1
  exact Array.ext' this
 rw [hc1]
 have y1:Zb x1≤Rows.uptoBulk d1:=z1
 refine (Zvd W x0 (fun _=>True) m0 b0 om a0 x1 (fun _=>True) m1 b1 om a1 n2 (wfB w2)).mono fun e W' ⟨he,hB⟩=>?_
 subst he
 have g0:=Below.trod laidOut kr (of_decide_eq_true kr) h0k hB (fun x hx=>hlt x (by simp [hx]))
 rw [hc0] at g0
 have g1:=Below.trod laidOut kr (of_decide_eq_true kr) h1k hB (fun x hx=>hlt x (by simp [hx]))
 rw [hc1] at g1
 rw [hc0,hc1] at hW'
 refine ⟨_,rfl,_,_,_,[],p0++(p1++([]++([]))),[],hW',?_,?_,?_,hB.frame _,fun h=>by cases h⟩
 ·exact trodAll_cons_mk (shut_bool Tryz.underlying4 _) trodAll_mk0
 ·exact trodAll_cons_mk g0 (trodAll_cons_mk g1 (trodAll_cons_mk (shut_int Tryz.underlying5 w2) trodAll_mk0))
 rfl

theorem lifted (os:Os) (started:os.Started) (H:Type) (enc:TypeId×Value→H) (F:Stop.Interp):
  ReturnsInHanded {} Tryz.checked os 6 .any ((Rows.OpenSpec.upto Rows.haltPairsSpec).pre6 enc Tryz.prog Tryz.f6 Rows.haltPairsUptoRow.domain false) (((Rows.OpenSpec.upto Rows.haltPairsSpec).at F).post enc Tryz.prog Tryz.f6 false true false false):=by
 refine returnsInHanded_of_cond (C:=Tryz.checked) (s:=Rows.OpenSpec.upto Rows.haltPairsSpec) (k:=Rows.uptoSmall) rfl own started kr Tryz.func6
  (OpenSpec.witness (enc:=enc) (C:=Tryz.checked) (s:=Rows.OpenSpec.upto Rows.haltPairsSpec) (k:=Rows.uptoSmall) rfl false ⟨#[], #[.agg #[.int .u8 0,.int .u8 0,.int .i64 0,.slice none 0 0,.slice none 0 0,.int .i64 0,.int .i64 0,.slice none 0 0,.int .u8 0,.int .u8 0,.int .i64 0,.slice none 0 0,.int .i64 0,.slice none 0 0,.slice none 0 0],.agg #[.int .u8 0,.int .u8 0,.int .i64 0,.slice none 0 0,.slice none 0 0,.int .i64 0,.int .i64 0,.slice none 0 0,.int .u8 0,.int .u8 0,.int .i64 0,.slice none 0 0,.int .i64 0,.slice none 0 0,.slice none 0 0],.int .u8 0],[]⟩ 12 kr kr kr
   (x:=([.agg [.lit (.int .u8 0),.agg [.lit (.int .u8 0),.lit (.int .i64 0),.nil],.nil,.lit (.int .i64 0),.lit (.int .i64 0),.nil,.agg [.lit (.int .u8 0),.agg [.lit (.int .u8 0),.lit (.int .i64 0),.nil],.lit (.int .i64 0),.nil],.nil],.agg [.lit (.int .u8 0),.agg [.lit (.int .u8 0),.lit (.int .i64 0),.nil],.nil,.lit (.int .i64 0),.lit (.int .i64 0),.nil,.agg [.lit (.int .u8 0),.agg [.lit (.int .u8 0),.lit (.int .i64 0),.nil],.lit (.int .i64 0),.nil],.nil],.lit (.int .u8 0)],[],[])) kr rfl kr) ?_
 intro W base args ds gs before hval hW _ hk _
 exact contract H enc W base args ds gs before hval hW hk

set_option maxRecDepth 512
theorem jf1:(Rows.haltPairsUptoRow.inPlace==Tryz.pinned.checked.prog.inPlace 6)=true:=kr
theorem jf2:(Rows.haltPairsUptoRow.unfollowed==Tryz.pinned.checked.prog.unfollowed 6)=true:=kr
theorem jf3:(Rows.haltPairsUptoRow.recurses==Tryz.pinned.checked.prog.recurses 6)=true:=kr
theorem jf4:(Rows.haltPairsUptoRow.named==Tryz.pinned.checked.prog.varsNamed 6)=true:=kr
theorem Zui:joinedFacts Tryz.pinned.checked.prog 6 Tryz.f6 (Rows.OpenSpec.upto Rows.haltPairsSpec).bare Rows.haltPairsUptoRow=true:=by
 unfold joinedFacts
 rw [jf1,jf2,jf3,jf4]
 kernel_rfl
theorem W6:Rows.haltPairsUptoRow.holds Tryz.pinned (Rows.OpenSpec.upto Rows.haltPairsSpec):=
 OpenClaim.holds_of_cond 6 Tryz.f6 rfl rfl rfl rfl rfl rfl rfl ⟨rfl,rfl,rfl,rfl,rfl⟩ rfl rfl rfl rfl rfl kr Tryz.func6 Zui
  (of_decide_eq_true kr) (by unfold Func.isWrapper;first|(rw [if_pos (by decide +kernel)];kernel_rfl)|(rw [if_neg (by decide +kernel)];exact ⟨rfl,rfl⟩))
  (fun os started H enc _ F=>lifted os started H enc F)

theorem proved:Rows.HaltPairsUptoSaid:=
 W6
end
end Go.Proofs.YtkdffbdnjfgpeaaGreat.haltPairs
