/- What the proofs of the Trial statements need: part 42. -/
import Derived.Test.YtojjdneicmbfjaaGreatQ29
import Derived.Test.YtojjdneicmbfjaaGreatQ33
import Derived.Test.YtojjdneicmbfjaaGreatQ36
import Derived.Test.YtojjdneicmbfjaaGreatQ40
set_option linter.unusedVariables false
set_option linter.unusedSimpArgs false
namespace Go.Proofs.YtojjdneicmbfjaaGreat
open Go Go.RowKit
theorem sampler_any (c : Nat) (s : ByteArray) (S : Nat) (hS : S ≤ 1099511627776) (hb : isBits s = true) : ∀ f, SamIH c s S f := by
 intro f
 induction f with
 | zero =>
  intro t e i w m a hg ox hs he hi hwk
  obtain ⟨k, n, hw⟩ := hwk
  exact absurd rfl hw
 | succ f ih =>
  intro t e i w m a hg ox hs he hi hwk hc hr hv
  have hk := (node_ok (goodT_eq.1 hg).1).1
  rcases (by omega : t.k = 1 ∨ t.k = 2 ∨ t.k = 3 ∨ t.k = 4 ∨ t.k = 5 ∨ t.k = 6 ∨ t.k = 7 ∨ t.k = 8 ∨ t.k = 9 ∨ t.k = 10 ∨ t.k = 11) with h | h | h | h | h | h | h | h | h | h | h
  ·exact sam_1 c s f t e i w m a hb hg ox h hc hr
  ·exact sam_2 c s f t e i w m a hb hg ox hi h hc hr
  ·exact sam_3 c s S f hS ih t e i w m a hb hg ox hs he hi hwk h hc hr hv
  ·exact sam_4 c s S f hS t e i w m a hb hg ox hi h hc hr
  ·exact sam_5 c s S f hS ih t e i w m a hb hg ox hs he hi hwk h hc hr hv
  ·exact sam_6 c s S f hS ih t e i w m a hb hg ox hs he hi (wk_args (by omega) hwk) h hc hr hv
  ·exact sam_7 c s S f hS ih t e i w m a hb hg ox hs he hi hwk h hc hr hv
  ·exact sam_8 c s S f hS ih t e i w m a hb hg ox hs he hi hwk h hc hr hv
  ·exact sam_9 c s S f hS ih t e i w m a hb hg ox hs he hi hwk h hc hr hv
  ·exact sam_10 c s S f hS ih t e i w m a hb hg ox hs he hi hwk h hc hr hv
  ·exact sam_11 c s S f hS ih t e i w m a hg he hi hwk h hc hv
end Go.Proofs.YtojjdneicmbfjaaGreat
