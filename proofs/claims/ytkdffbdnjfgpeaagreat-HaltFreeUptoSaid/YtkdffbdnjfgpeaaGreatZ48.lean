/- Part 49. -/
import Derived.Test.YtkdffbdnjfgpeaaGreatZ39
import Derived.Test.YtkdffbdnjfgpeaaGreatZ47
set_option linter.all false
namespace Go.Proofs.YtkdffbdnjfgpeaaGreat
open Go Go.RowKit Go.Proofs.Tryz
section
open Go Go.RowKit Go.Sort
theorem ZqQ {w:World} {g n:Nat} {d':Array GHs} {os:Array Obj} {k:Nat} (hk:k≠g) (hw:k < w.heap.size):(sortWorldK Zqc 4 w g 0 n d' os).heap[k]? =w.heap[k]? :=by
 unfold sortWorldK
 rw [heap_grow_old _ _ (by simpa [putRowK,putRow,mapBlock,Sort.ahead] using hw)]
 simp only [putRowK,putRow,mapBlock,Sort.ahead,Array.getElem?_modify]
 rw [if_neg (fun e=>hk e.symm)]
theorem ZrD {w:World} {g n:Nat} {d':Array GHs} {os:Array Obj}:w.heap.size≤(sortWorldK Zqc 4 w g 0 n d' os).heap.size:=by
 simp [sortWorldK,grow,putRowK,putRow,mapBlock,Sort.ahead]
theorem Zrh {w:World} {g n B:Nat} {d':Array GHs} {os:Array Obj} (hB:B≤g) (hw:B≤w.heap.size):Below B w (sortWorldK Zqc 4 w g 0 n d' os):=
 ⟨rfl,rfl,rfl,ZrD,fun k hk=>ZqQ om om⟩
theorem ZqC {w:World} {g n:Nat} {d':Array GHs} {os:Array Obj}:Agree (fun b=>b≠g) w (sortWorldK Zqc 4 w g 0 n d' os):=fun p u hp hc=>by
 have hw:=World.block_lt_of_cell? _ _ hc
 have hh:=ZqQ (n:=n) (d':=d') (os:=os) hp hw
 exact ⟨(World.cell?_of_block (w:=w) hh).trans hc,World.frozen?_of_block (w:=w) hh⟩
def Zto (p:GH×VA):List Value:=[.string p.1.1,.int .u8 p.1.2.k,.int .i64 p.1.2.n,.slice p.2.a p.1.2.l.length p.2.c]
theorem Zri:∀(ps:List (GH×VA)) (i:Nat) (h:i < ps.length) (c:Nat),c < 4→(W0 ps)[i*4+c]? =some ((Zto ps[i])[c]!)
 | (x,m)::r,0,_,c,hc=>by
  simp only [W0,Nat.zero_mul,Nat.zero_add,List.getElem_cons_zero]
  rw [List.getElem?_append_left (by simpa using hc)]
  rcases (show c=0∨c=1∨c=2∨c=3 by omega) with rfl|rfl|rfl|rfl<;>rfl
 | (x,m)::r,i+1,h,c,hc=>by
  have ih:=Zri r i (by simpa using h) c hc
  simp only [W0,List.getElem_cons_succ]
  rw [List.getElem?_append_right (by simp;omega)]
  simp only [List.length_cons,List.length_nil]
  rw [show (i+1)*4+c - (0+1+1+1+1)=i*4+c by omega]
  exact ih
def Zrs (ps:List (GH×VA)) (h:∀p∈ps,p.1.1.size≤1024):Array GHs:=(ps.pmap (fun p hp=>(⟨p,hp⟩:GHs)) h).toArray
theorem Zr7 (ps:List (GH×VA)) (h:∀p∈ps,p.1.1.size≤1024):(Zrs ps h).size=ps.length:=by simp [Zrs]
theorem Zrt (ps:List (GH×VA)) (h:∀p∈ps,p.1.1.size≤1024):(Zrs ps h).toList.map Subtype.val=ps:=by
 unfold Zrs
 rw [List.map_pmap]
 exact List.pmap_eq_self.2 (fun a h=>rfl)
theorem Zq0 (d:Array GHs) (j:Nat) (h:j < d.size*4):(W0 (d.toList.map Subtype.val))[j]? =some (flatK Zqc 4 d)[j]! :=by
 have hi:j / 4 < d.size:=om
 have e:j=j / 4*4+j % 4:=om
 rw [get_flatK _ _ _ _ h]
 conv=>lhs;rw [e]
 rw [Zri _ _ (by simpa using hi) _ (Nat.mod_lt _ om)]
 rw [getElem!_pos d _ hi]
 simp [Zto,Zqc]
def Zs4 (ps:List (GH×VA)) (a:Option Addr) (w w':World):Prop:=
 ∃ps',ps'.Perm ps∧ps'.Pairwise (fun x y=>Ka x.1.1≤Ka y.1.1)∧(ps=[]∨∃g,a=some ⟨g,0,none⟩∧Agree (fun b=>b≠g) w w'∧∀j u,(W0 ps')[j]? =some u→w'.cell? ⟨g,j,none⟩=some u∧w'.frozen? ⟨g,j,none⟩=false)
theorem Zrv (ps:List (GH×VA)) (hsz:∀p∈ps,p.1.1.size≤1024) (hln:ps.length≤1048576) (w:World) (base c:Nat) (a:Option Addr) (hb:base≤w.heap.size) (hown:w.ownsRow base 71 4 (.slice a ps.length c) ps.length (W0 ps)):
  Calls prog 50 #[.slice a ps.length c,.func (.func 51) #[] #[]] w fun e w'=>e=.returned (.tuple #[])∧Below base w w'∧Agree (fun b=>(Value.slice a ps.length c).ownBlock≠some b) w w'∧Zs4 ps a w w':=by
 by_cases hz:ps=[]
 ·subst hz
  exact (AnyF.slices_SortFunc_none (P:=prog) (ρ:=Tryz.sortH_ren) { Tryz.sortH with } a c (.func (.func 51) #[] #[]) w).mono fun e w' ⟨he,hw⟩=>by
   subst hw
   exact ⟨he,Below.refl _ _,fun p u _ hc=>⟨hc,rfl⟩,[],List.Perm.refl _,List.Pairwise.nil,.inl rfl⟩
 have hp:=List.length_pos_iff.2 hz
 obtain ⟨g,cap,e2,hbg,hl⟩:=hown.form om
 obtain ⟨e3, -,e4⟩:=Value.slice.inj e2
 subst e3
 subst e4
 have hd:(Zrs ps hsz).size=ps.length:=Zr7 ps hsz
 have hH:HoldsK Zqc 4 w g 0 (Zrs ps hsz):=fun j hj=>by
  rw [size_flatK] at hj
  have h1:=Zq0 (Zrs ps hsz) j hj
  rw [Zrt] at h1
  have hl':=hown.1
  rw [Nat.zero_add]
  exact ⟨by rw [hown.cellAt j om];exact h1,hown.frozenAt j⟩
 have eg:∀args w,(callFunc 51 args).run prog w=.ok (.enter 51 args) w:=enters_of func51 kr rfl
 have hcon:=AnyQ.slices_SortFunc Tryz.sortH 4 Tryz.isAgg71 Tryz.sizeOf71 Zqc (fun _=>rfl) (fun x v hv=>by simp [Zqc] at hv;rcases hv with rfl|rfl|rfl|rfl<;>rfl) ZrW Zsh 51 #[] g 0 c (Zrs ps hsz) w eg (fun _ _ _ _ x y=>Zta x y _) hH hl om
 rw [hd] at hcon
 refine hcon.mono fun e w' ⟨he,d',n,os,hp',hs',hw'⟩=>?_
 subst hw'
 obtain ⟨hs1, -,hp1⟩:=hp'
 rw [Array.extract_eq_self_of_le om,Array.extract_eq_self_of_le om] at hp1
 refine ⟨he,Zrh hbg hb,fun p u hp hc=>ZqC p u (fun e=>hp (by rw [e];rfl)) hc,d'.toList.map Subtype.val,?_,?_,.inr ⟨g,rfl,ZqC,fun j u hj=>?_⟩⟩
 ·have:=hp1.map Subtype.val
  rwa [Zrt] at this
 ·rw [List.pairwise_map,List.pairwise_iff_getElem]
  intro i j hi hj hij
  have:=hs' i j (Nat.zero_le _) hij (by rw [←hd,←hs1];simpa using hj)
  rw [ZqK,getElem!_pos d' j (by simpa using hj),getElem!_pos d' i (by simpa using hi)] at this
  simpa using this
 have hj2:j < d'.size*4:=by
  have:=(List.getElem?_eq_some_iff.1 hj).1
  rw [Wr] at this
  simpa using this
 have h1:=Zq0 d' j hj2
 rw [h1] at hj
 cases hj
 have h2:=holdsK_grow Zqc 4 (putRowK Zqc 4 (Sort.ahead w n) g 0 d') os g 0 d' (by simpa [putRowK,putRow,mapBlock,Sort.ahead] using hl) (holdsK_putRowK Zqc 4 (Sort.ahead w n) g 0 _ d' (holdsK_ahead Zqc 4 w n g 0 _ hH) hs1)
 have h3:=h2 j (by rw [size_flatK];exact hj2)
 rw [Nat.zero_add] at h3
 exact h3
end
end Go.Proofs.YtkdffbdnjfgpeaaGreat
