/- What the proofs of the Trial statements need: part 48. -/
import Derived.Test.YtojjdneicmbfjaaGreatDoorQ11
import Derived.Test.YtojjdneicmbfjaaGreatDoorQ86
set_option linter.unusedVariables false
set_option linter.unusedSimpArgs false
namespace Go.Proofs.YtojjdneicmbfjaaGreatDoor
open Go Go.RowKit
theorem chkPs_mem:∀(l:List GP) (pl d:Int),(chkPs pl d l).2=0→∀x∈l,∃pl',(chkP pl' d x).2=0
 | [],_,_,_,x,hx=>by cases hx
 | y::l,pl,d,h,x,hx=>by
  simp only [chkPs] at h
  split at h
  ·rename_i h1;exact absurd h h1
  ·rename_i h1
   rcases List.mem_cons.1 hx with rfl|hx
   ·exact ⟨pl,by simpa using h1⟩
   ·exact chkPs_mem l _ _ h x hx
theorem nodesPs_mem:∀(l:List GP) (x:GP),x∈l→nodesP x≤nodesPs l
 | [],_,hx=>by cases hx
 | y::l,x,hx=>by
  simp only [nodesPs]
  rcases List.mem_cons.1 hx with rfl|hx
  ·omega
  ·have:=nodesPs_mem l x hx;omega
theorem may_arg {k:Int} {l:List GP} {x:GP} (h:mayP ⟨k,⟨0,0,[]⟩,0,l⟩=true) (hx:x∈l):mayP x=true:=by
 unfold mayP checkPE at h ⊢
 have h:=eq_of_beq h
 split at h
 ·rename_i h1;exact absurd h h1
 ·rename_i h1
  split at h
  ·simp at h
  ·rename_i h2
   have h1:(chkP 0 1 ⟨k,⟨0,0,[]⟩,0,l⟩).2=0:=by simpa using h1
   rw [chkP_eq,if_neg (by omega)] at h1
   split at h1
   ·rename_i h3;exact absurd h1 h3
   ·obtain ⟨pl,h4⟩:=chkPs_mem _ _ _ h1 x hx
    have h5:=chkP_deep x pl 0 _ 1 (by omega) h4
    rw [nodesP_eq] at h2
    have h6:=nodesPs_mem l x hx
    dsimp only at h2
    rw [if_neg (by rw [h5];simp),if_neg (by omega)]
    rfl
abbrev yesG:GP:=⟨1,⟨0,0,[]⟩,0,[]⟩
abbrev noG:GP:=⟨2,⟨0,0,[]⟩,0,[]⟩
abbrev andG (p:GP):GP:=⟨6,⟨0,0,[]⟩,0,[p,yesG]⟩
abbrev orG (p:GP):GP:=⟨7,⟨0,0,[]⟩,0,[noG,p]⟩
theorem holds_and (p:GP) (v:GV):holdsP p v=holdsP (andG p) v:=by
 have h:holdsP (andG p) v=holdsQ false [p,yesG] v:=by simp [holdsP]
 rw [h]
 simp only [holdsQ]
 cases holdsP p v<;>simp [holdsP]
theorem holds_or (p:GP) (v:GV):holdsP p v=holdsP (orG p) v:=by
 have h:holdsP (orG p) v=holdsQ true [noG,p] v:=by simp [holdsP]
 rw [h]
 simp only [holdsQ]
 cases holdsP p v<;>simp [holdsP]
theorem cutE_may2 {t:GT} {p q:GP} {s:ByteArray} {n:Int} (hp:mayP p=true) (hq:mayP q=true):cutE t q s n=cutE t p s n:=by
 unfold cutE
 rw [may_iff.1 hp,may_iff.1 hq]
theorem okP_and {p:GP} (h:okP p):okPs [p,yesG]∧okP (andG p)∧okPs [noG,p]∧okP (orG p):=by
 have h1:okP yesG:=by simp [okP,okV,okVs,okPs,isU8,isI64]
 have h2:okP noG:=by simp [okP,okV,okVs,okPs,isU8,isI64]
 have h3:okPs [p,yesG]:=by simp only [okPs];exact ⟨h,h1,trivial⟩
 have h4:okPs [noG,p]:=by simp only [okPs];exact ⟨h2,h,trivial⟩
 exact ⟨h3,okP_iff.2 ⟨by simp [isU8],by simp [okV,okVs,isU8,isI64],by simp [isI64],by simp,h3⟩,h4,okP_iff.2 ⟨by simp [isU8],by simp [okV,okVs,isU8,isI64],by simp [isI64],by simp,h4⟩⟩
theorem sizeP_and (p:GP):sizeP (andG p)≤sizeP p+20∧sizeP (orG p)≤sizeP p+20:=by
 simp [sizeP_eq (andG p),sizeP_eq (orG p),sizePs,sizeP,sizeV,sizeVs]
 omega
end Go.Proofs.YtojjdneicmbfjaaGreatDoor
