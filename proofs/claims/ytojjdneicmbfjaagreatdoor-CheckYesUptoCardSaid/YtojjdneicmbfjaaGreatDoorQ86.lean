/- What the proofs of the Trial statements need: part 47. -/
import Derived.Test.YtojjdneicmbfjaaGreatDoorQ10
set_option linter.unusedVariables false
set_option linter.unusedSimpArgs false
namespace Go.Proofs.YtojjdneicmbfjaaGreatDoor
open Go Go.RowKit
mutual
theorem chkP_deep:∀(p:GP) (pl pl' d d':Int),d'≤d→(chkP pl d p).2=0→(chkP pl' d' p).2=0
 | ⟨k,v,n,l⟩,pl,pl',d,d',hd,h=>by
  simp only [chkP] at h ⊢
  split at h
  ·simp at h
  ·rename_i h1
   rw [if_neg (by omega)]
   split at h
   ·rename_i h2;exact absurd h h2
   ·rename_i h2
    rw [if_neg h2]
    exact chkPs_deep l (pl+1) (pl'+1) (d+1) (d'+1) (by omega) h
theorem chkPs_deep:∀(l:List GP) (pl pl' d d':Int),d'≤d→(chkPs pl d l).2=0→(chkPs pl' d' l).2=0
 | [],pl,pl',d,d',_,_=>rfl
 | x::l,pl,pl',d,d',hd,h=>by
  simp only [chkPs] at h ⊢
  split at h
  ·rename_i h1;exact absurd h h1
  ·rename_i h1
   have h2:=chkP_deep x pl pl' d d' hd (by simpa using h1)
   rw [if_neg (by rw [h2];simp)]
   exact chkPs_deep l _ _ d d' hd h
end
end Go.Proofs.YtojjdneicmbfjaaGreatDoor
