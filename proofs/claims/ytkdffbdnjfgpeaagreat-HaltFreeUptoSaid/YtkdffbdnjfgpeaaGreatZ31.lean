/- Part 32. -/
import Derived.Test.YtkdffbdnjfgpeaaGreatZ22
import Derived.Test.YtkdffbdnjfgpeaaGreatZ25
import Derived.Test.YtkdffbdnjfgpeaaGreatZ26
import Derived.Test.YtkdffbdnjfgpeaaGreatZ30
set_option linter.all false
namespace Go.Proofs.YtkdffbdnjfgpeaaGreat
open Go Go.RowKit
theorem ZeA (c:Nat) (s:ByteArray) (S:Nat) (hS:S≤1099511627776) (hb:Zc s=true):∀f,Vn c s S f:=by
 intro f
 induction f with
 | zero=>
  intro t e i w m a hg ox hs he hi hwk
  obtain ⟨k,n,hw⟩:=hwk
  exact absurd rfl hw
 | succ f ih=>
  intro t e i w m a hg ox hs he hi hwk hc hr hv
  have hk:=(Y9 (Zk.1 hg).1).1
  rcases (by omega:t.k=1∨t.k=2∨t.k=3∨t.k=4∨t.k=5∨t.k=6∨t.k=7∨t.k=8∨t.k=9∨t.k=10∨t.k=11) with h|h|h|h|h|h|h|h|h|h|h
  ·exact Zk5 c s f t e i w m a hb hg ox h hc hr
  ·exact Zk6 c s f t e i w m a hb hg ox hi h hc hr
  ·exact Zk7 c s S f hS ih t e i w m a hb hg ox hs he hi hwk h hc hr hv
  ·exact Zk8 c s S f hS t e i w m a hb hg ox hi h hc hr
  ·exact Zk9 c s S f hS ih t e i w m a hb hg ox hs he hi hwk h hc hr hv
  ·exact Zla c s S f hS ih t e i w m a hb hg ox hs he hi (ZaX om hwk) h hc hr hv
  ·exact Zlb c s S f hS ih t e i w m a hb hg ox hs he hi hwk h hc hr hv
  ·exact Zlc c s S f hS ih t e i w m a hb hg ox hs he hi hwk h hc hr hv
  ·exact Zld c s S f hS ih t e i w m a hb hg ox hs he hi hwk h hc hr hv
  ·exact Zkx c s S f hS ih t e i w m a hb hg ox hs he hi hwk h hc hr hv
  exact Zky c s S f hS ih t e i w m a hg he hi hwk h hc hv
end Go.Proofs.YtkdffbdnjfgpeaaGreat
