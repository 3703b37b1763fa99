/- Part 68. -/
import Derived.Test.YtkdffbdnjfgpeaaGreatY13
set_option linter.all false
namespace Go.Proofs.YtkdffbdnjfgpeaaGreat
open Go Go.RowKit
theorem ZeP {w:World} {b:Nat}:∀(l:List Value) (o:Nat),(∀j u,l[j]? =some u→w.cell? ⟨b,o+j,none⟩=some u)→At w b o l
 | [],o,_=>trivial
 | v::l,o,h=>⟨h 0 v rfl,ZeP l (o+1) fun j u hj=>by
   have:=h (j+1) u (by simpa using hj)
   rw [show o+1+j=o+(j+1) by omega];exact this⟩
theorem ZjY {W:World} {cs:Array Value} {T:TypeId} {b o:Nat} {l:List Value} (hb:b=W.heap.size) (hl:∀j u,l[j]? =some u→cs.toList[o+j]? =some u):At (W.alloc (.cells cs T)) b o l:=by
 subst hb
 refine ZeP l o fun j u hj=>?_
 have:=World.news_of_block (heap_alloc_new W (.cells cs T)) (o+j) u (hl j u hj)
 rwa [Addr.add_lit,Nat.zero_add] at this
theorem Zwv {W:World} {cs:Array Value} {T:TypeId} {b:Nat} {l r:List Value} (hc:cs.toList=l++r) (hb:b=W.heap.size):At (W.alloc (.cells cs T)) b 0 l:=
 ZjY hb fun j u hj=>by
  rw [hc,Nat.zero_add,List.getElem?_append_left (List.getElem?_eq_some_iff.1 hj).1];exact hj
theorem Zwz {W:World} {cs:Array Value} {T:TypeId} {b o:Nat} {l q:List Value} (hc:cs.toList=q++l) (ho:o=q.length) (hb:b=W.heap.size):At (W.alloc (.cells cs T)) b o l:=
 ZjY hb fun j u hj=>by
  rw [hc,ho,List.getElem?_append_right om,Nat.add_sub_cancel_left];exact hj
theorem Wm {W:World} {x:Obj} {b o:Nat} {l:List Value} (h:At W b o l) (_hb:b < W.heap.size):At (W.alloc x) b o l:=
 Zuf (A:=fun _=>True) (ZtY (Below.alloc (Below.refl _ _) (Nat.le_refl _) _)) trivial _ _ h
theorem KR {W:World} {b o:Nat} {l:List Value} (h:At W b o l):At W.drew b o l:=
 Zuf (A:=fun _=>True) (ZtY (Below.drew (Below.refl _ _))) trivial _ _ h
theorem Xa {W W':World} {b o:Nat} {l:List Value} (h:At W b o l) (hB:Below W.heap.size W W'):At W' b o l:=
 Zuf (A:=fun _=>True) (ZtY hB) trivial _ _ h
end Go.Proofs.YtkdffbdnjfgpeaaGreat
