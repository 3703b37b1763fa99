/- CheckRuns: for every term, predicate, string and number of bulk at most 1048576 the function returns true and leaves its arguments as they were (cand.widths laid). -/
import Derived.Carry
import Derived.ChangeMaps5
import Derived.Deep.DeepHandedRow
import Derived.JoinedCond
import Derived.Test.YtclphfojkggcpaaGreatDoorCards
import Derived.Test.YtclphfojkggcpaaGreatDoorTie
import Derived.Test.YtclphfojkggcpaaGreatDoorX18
import Derived.Test.YtclphfojkggcpaaGreatDoorX68
set_option linter.all false
namespace Go.Proofs.YtclphfojkggcpaaGreatDoor.checkRuns
open Go Go.RowKit
section
open Go.ChangeShapes Go.WideShapes Go.ChangeAt Go.ChangeMaps Go.RowKit
open Go.Proofs.YtclphfojkggcpaaGreatDoor

theorem own:ownKnob Tryz.prog.godebug=none:=kr
theorem laidOut:laidOutB Tryz.prog=true:=kr

set_option maxRecDepth 100000
theorem contract (H:Type) (enc:TypeId×Value→H) (W:World) (base:Nat) (args:Array Value) (ds gs:List (DataW H)) (before:List MemPlace)
  (hval:∀(j:Nat) t v,Tryz.f4.params[j]? =some t→args[j]? =some v→Value.okWide Tryz.prog W .any base t v)
  (hW:DataW.Whole enc Tryz.prog Tryz.f4.params.toList Rows.checkRunsSpec.vars false W args.toList ds gs before) (hk:Rows.uptoSmall H (ds++gs)=true) (hL:laidMetH Tryz.prog Rows.checkRunsUptoRow.laid W):
  Calls Tryz.prog 4 args W fun e W'=>∃v,e=.returned v∧Rows.checkRunsSpec.post enc Tryz.prog Tryz.f4 false true false false W args v W':=by
 have hW':=hW
 obtain ⟨p,q,hA0,hV,rfl,hfz,hnd⟩:=hW
 have hA:DataW.TrodAll enc Tryz.prog W 0 (fun _=>true) true Tryz.f4.params.toList args.toList ds p:=hA0
 rw [Tryz.params4] at hA hval
 obtain ⟨v0,vs0,d0,ds0,p0,q0,hargs,rfl,rfl,h0,r0⟩:=trodAll_cons hA
 obtain ⟨v1,vs1,d1,ds1,p1,q1,rfl,rfl,rfl,h1,r1⟩:=trodAll_cons r0
 obtain ⟨v2,vs2,d2,ds2,p2,q2,rfl,rfl,rfl,h2,r2⟩:=trodAll_cons r1
 obtain ⟨v3,vs3,d3,ds3,p3,q3,rfl,rfl,rfl,h3,r3⟩:=trodAll_cons r2
 obtain ⟨rfl,rfl,rfl⟩:=trodAll_nil r3
 obtain rfl:args= #[v0,v1,v2,v3]:=by cases args;simp_all
 obtain ⟨rfl,rfl⟩:=trodVars_none hV
 clear hA0
 simp only [List.append_nil] at hW' hk
 have hbulk:Rows.uptoBulkAll [d0,d1,d2,d3]≤1048576:=of_decide_eq_true hk
 have hlt:∀x∈p0++(p1++(p2++(p3))),x.block < W.heap.size:=fun x hx=>hW'.lt x (by simpa using hx)
 obtain ⟨s2,rfl,rfl,rfl,w2⟩:=open_string Tryz.underlying9 (hval 2 9 v2 rfl rfl) h2
 obtain ⟨n3,rfl,rfl,rfl,w3⟩:=open_int Tryz.underlying3 (hval 3 3 v3 rfl rfl) h3
 have hb:Rows.uptoBulk d0+Rows.uptoBulk d1+(s2.data.toList.length+1)+1≤1048576:=by
  have l2:s2.data.toList.length=s2.size:=by rw [Array.length_toList];rfl
  simp [Rows.uptoBulkAll,Rows.uptoBulk] at hbulk
  omega
 obtain ⟨c0,rfl,_⟩:=okWide_struct Tryz.underlying31 (hval 0 31 v0 rfl rfl)
 have h0k:=h0
 obtain ⟨f0,hf0⟩:=h0
 obtain ⟨x0,m0,e0,a0,b0,z0⟩:=Zkr (B:=1048576) (Nat.le_refl _) _ _ _ hf0 (by show Rows.uptoBulk d0≤_;omega)
 have hc0:(Value.agg c0)=TV x0 m0:=by
  have:c0.toList=_:=e0
  congr 1
  exact Array.ext' this
 rw [hc0]
 have y0:Zb x0≤Rows.uptoBulk d0:=z0
 obtain ⟨c1,rfl,_⟩:=okWide_struct Tryz.underlying28 (hval 1 28 v1 rfl rfl)
 have h1k:=h1
 obtain ⟨f1,hf1⟩:=h1
 obtain ⟨x1,m1,e1,a1,b1,z1⟩:=Zir (B:=1048576) (Nat.le_refl _) _ _ _ hf1 (by show Rows.uptoBulk d1≤_;omega)
 have hc1:(Value.agg c1)=PV x1 m1:=by
  have:c1.toList=_:=e1
  congr 1
  exact Array.ext' this
 rw [hc1]
 have y1:Zm x1≤Rows.uptoBulk d1:=z1
 refine (Zm6 W x0 (fun _=>True) m0 b0 om a0 x1 (fun _=>True) m1 b1 om a1 s2 (by have h9:s2.size=s2.data.toList.length:=(by rw [Array.length_toList];rfl);omega) n3 (ZkF hL)).mono fun e W' ⟨he,hB⟩=>?_
 subst he
 have g0:=Below.trod laidOut kr (of_decide_eq_true kr) h0k hB (fun x hx=>hlt x (by simp [hx]))
 rw [hc0] at g0
 have g1:=Below.trod laidOut kr (of_decide_eq_true kr) h1k hB (fun x hx=>hlt x (by simp [hx]))
 rw [hc1] at g1
 rw [hc0,hc1] at hW'
 refine ⟨_,rfl,_,_,_,[],p0++(p1++([]++([]++([])))),[],hW',?_,?_,?_,hB.frame _,fun h=>by cases h⟩
 ·exact trodAll_cons_mk (shut_bool Tryz.underlying4 _) trodAll_mk0
 ·exact trodAll_cons_mk g0 (trodAll_cons_mk g1 (trodAll_cons_mk (shut_string Tryz.underlying9 w2) (trodAll_cons_mk (shut_int Tryz.underlying3 w3) trodAll_mk0)))
 rfl

set_option maxRecDepth 512
theorem reads (os:Os) {H:Type} (enc:TypeId×Value→H):∃places,DataW.whole enc Tryz.prog ((JS os).forCall (fun _ _=>0) ⟨#[], #[.agg #[.int .u8 0,.int .u8 0,.int .i64 0,.slice none 0 0,.slice none 0 0,.int .i64 0,.int .i64 0,.slice none 0 0,.int .u8 0,.int .u8 0,.int .i64 0,.slice none 0 0,.int .i64 0,.slice none 0 0,.slice none 0 0],.agg #[.int .u8 0,.int .u8 0,.int .i64 0,.slice none 0 0,.int .i64 0,.slice none 0 0],.string ⟨#[]⟩,.int .i64 0],[]⟩).memory Tryz.f4.params.toList Rows.checkRunsSpec.vars false (#[.agg #[.int .u8 0,.int .u8 0,.int .i64 0,.slice none 0 0,.slice none 0 0,.int .i64 0,.int .i64 0,.slice none 0 0,.int .u8 0,.int .u8 0,.int .i64 0,.slice none 0 0,.int .i64 0,.slice none 0 0,.slice none 0 0],.agg #[.int .u8 0,.int .u8 0,.int .i64 0,.slice none 0 0,.int .i64 0,.slice none 0 0],.string ⟨#[]⟩,.int .i64 0]:Array Value).toList 12=some ([.agg [.lit (.int .u8 0),.agg [.lit (.int .u8 0),.lit (.int .i64 0),.nil],.nil,.lit (.int .i64 0),.lit (.int .i64 0),.nil,.agg [.lit (.int .u8 0),.agg [.lit (.int .u8 0),.lit (.int .i64 0),.nil],.lit (.int .i64 0),.nil],.nil],.agg [.lit (.int .u8 0),.agg [.lit (.int .u8 0),.lit (.int .i64 0),.nil],.lit (.int .i64 0),.nil],.lit (.string []),.lit (.int .i64 0)],[],places):=
 ⟨[],kr⟩

set_option maxRecDepth 100000
theorem lifted (os:Os) (started:os.Started) (H:Type) (enc:TypeId×Value→H) (F:Stop.Interp):
  ReturnsInHanded {} Tryz.checked os 4 .any ((Rows.OpenSpec.upto Rows.checkRunsSpec).preRow enc Tryz.prog Tryz.f4 Rows.checkRunsUptoRow.domain false Rows.checkRunsUptoRow.laid) (((Rows.OpenSpec.upto Rows.checkRunsSpec).at F).post enc Tryz.prog Tryz.f4 false true false false):=by
 obtain ⟨places,hx⟩:=reads os enc
 refine returnsInHanded_of_row (C:=Tryz.checked) (s:=Rows.OpenSpec.upto Rows.checkRunsSpec) own started kr Tryz.func4
  (witness_row_at (enc:=enc) (C:=Tryz.checked) false (JS os) #[.agg #[.int .u8 0,.int .u8 0,.int .i64 0,.slice none 0 0,.slice none 0 0,.int .i64 0,.int .i64 0,.slice none 0 0,.int .u8 0,.int .u8 0,.int .i64 0,.slice none 0 0,.int .i64 0,.slice none 0 0,.slice none 0 0],.agg #[.int .u8 0,.int .u8 0,.int .i64 0,.slice none 0 0,.int .i64 0,.slice none 0 0],.string ⟨#[]⟩,.int .i64 0] rfl kr kr kr
   (OpenSpec.preRow_of_cond 12 hx kr (fun k hk=>by cases hk;kernel_rfl) kr (Zif os _))) ?_
 intro W base args ds gs before hval hW _ hcond _ hL _ _
 exact contract H enc W base args ds gs before hval hW (hcond _ rfl) hL

set_option maxRecDepth 512
theorem said:Rows.CheckRunsUptoSaid:=
 OpenClaim.holds_of_cond 4 Tryz.f4 rfl rfl rfl rfl rfl rfl rfl ⟨rfl,rfl,rfl,rfl,rfl⟩ rfl rfl rfl rfl rfl kr Tryz.func4 kr
  (of_decide_eq_true kr) (by unfold Func.isWrapper;first|(rw [if_pos (by decide +kernel)];kernel_rfl)|(rw [if_neg (by decide +kernel)];exact ⟨rfl,rfl⟩))
  (fun os started H enc _ F=>by rw [OpenClaim.pre_eq_preRow];exact lifted os started H enc F)

theorem plain (f:FuncId) (fn:Func) (hf:Tryz.pinned.checked.prog.funcNamed "tombola/tombolalaw31.CheckRuns" = some f) (hfn:Tryz.pinned.checked.prog.funcs[f]? =some fn):
  true=Tryz.pinned.checked.prog.looks []∧∀(j:Nat) t,fn.params[j]? =some t→Tryz.pinned.checked.prog.wantsStandIn t=false:=by
 obtain rfl:f=4:=Option.some.inj ((show Tryz.prog.funcNamed "tombola/tombolalaw31.CheckRuns" = some 4 by kernel_rfl).symm.trans hf) |>.symm
 obtain rfl:fn=Tryz.f4:=(Option.some.inj (Tryz.func4.symm.trans hfn)).symm
 refine ⟨kr,fun j t ht=>?_⟩
 rw [Tryz.params4] at ht
 have hm:t∈[31,28,9,3]:=by simpa using Array.mem_of_getElem? ht
 have hall:([31,28,9,3].all fun u=> !Tryz.prog.wantsStandIn u)=true:=kr
 exact (show Tryz.prog.wantsStandIn t=false by simpa using List.all_eq_true.1 hall t hm)

theorem proved:Rows.CheckRunsUptoCardSaid:=
 Claim7.holds_tied_plain_at .later [] _ _ _ _ said (fun _ h=>by cases h) kr (fun _ h=>by cases h) checkRunsUpto_row_tie rfl ⟨rfl,rfl⟩ kr rfl plain kr
end
end Go.Proofs.YtclphfojkggcpaaGreatDoor.checkRuns
