/- Part 56. -/
import Derived.Test.YtkdffbdnjfgpeaaGreatZ23
import Derived.Test.YtkdffbdnjfgpeaaGreatZ33
import Derived.Test.YtkdffbdnjfgpeaaGreatZ34
import Derived.Test.YtkdffbdnjfgpeaaGreatZ54
set_option linter.all false
namespace Go.Proofs.YtkdffbdnjfgpeaaGreat
open Go.Lib (hid)
open Go Go.RowKit Go.Proofs.Tryz
theorem ZtU {P:Program} {t e:TypeId} (ht:P.underlying t=some (.slice e)) (hi:(P.info? e).map (fun i=>(i.zero,i.size,i.bytes))=some (some (.int .u8 0),1,1)) (n:Nat) (hn:n≤1048576) (w:World):
  (Instr.makeSlice t (.int .i64 (n:Int)) (.int .i64 (n:Int))).run P w=.ok (.slice (some ⟨w.heap.size,0,none⟩) n n) (w.alloc (.cells (List.replicate n (Value.int .u8 0)).toArray e)):=by
 obtain ⟨i,h1,h2,h3,h4⟩:=info_parts hi
 have h:=run_make (P:=P) w t e i _ ht h1 h2 .i64 .i64 n n om (Int.le_refl _) (by rw [h4];omega) om
 rw [h,h3,Nat.mul_one,Int.toNat_natCast]
 congr 3
 apply Array.ext'
 exact toList_madeCells_one _ _
theorem ZtT:(prog.info? 5).map (fun i=>(i.zero,i.size,i.bytes))=some (some (.int .u8 0),1,1):=kr
def ZtH (m:Nat):UInt8:=if m % 2=1 then 49 else 48
def ofL:Nat→Nat→List UInt8
 | 0,_=>[]
 | k+1,n=>ZtH (n / 2 ^ k)::ofL k n
theorem ZtG:∀(k n:Nat),(ofL k n).length=k
 | 0,_=>rfl
 | k+1,n=>by rw [ofL,List.length_cons,ZtG k]
theorem ZtS (m:Nat):ZtH m=48∨ZtH m=49:=by
 unfold ZtH;split<;>simp
theorem ZtO (m:Nat):((48+((m % 2:Nat):Int)) % 256)=((ZtH m).toNat:Int):=by
 unfold ZtH
 split
 ·rename_i h;rw [h];rfl
 rename_i h;rw [show m % 2=0 by omega];rfl
theorem ZtJ:∀(k n:Nat),∀b∈ofL k n,b=48∨b=49
 | 0,_,b,h=>by simp [ofL] at h
 | k+1,n,b,h=>by
  rw [ofL] at h
  rcases List.mem_cons.1 h with h|h
  ·rw [h];exact ZtS _
  exact ZtJ k n b h
def ofB (b n:Nat):ByteArray:=⟨(ofL b n).toArray⟩
abbrev byV (x:UInt8):Value:=.int .u8 (x.toNat:Int)
theorem ZtR (q:Nat) (h:q≤4096):bits .and .u64 (q:Int) 1=((q % 2:Nat):Int):=by
 have:=bits_and_u64_nat q 1 om om
 rw [Nat.and_one_is_mod] at this
 exact this
set_option maxRecDepth 100000
set_option maxHeartbeats 8000000
theorem ZtK (n b:Nat) (hb:0≤b∧b≤12) (hn:n < 2 ^ b) (w:World):
  Calls prog 38 #[.int .u64 n,.int .i64 b] w fun e w'=>e=.returned (.tuple #[.string (ofB b n),.int .i64 0])∧Below w.heap.size w w':=by
 have c1:decide ((b:Int) < 0)=false:=decide_eq_false om
 have c2:decide ((64:Int) < (b:Int))=false:=decide_eq_false om
 have c3:decide ((b:Int) < 64)=true:=decide_eq_true om
 have d2:decide (64 < b)=false:=decide_eq_false om
 have d3:decide (b < 64)=true:=decide_eq_true om
 have e1:(0:Int)≤(b:Int):=om
 have e2:(0:Int)≤(n:Int):=om
 have e3:(b:Int)≤12:=om
 have hn2:n≤4096:=by
  have:2 ^ b≤2 ^ 12:=Nat.pow_le_pow_right om hb.2
  omega
 have hlt:(n:Int) < 2 ^ b:=by exact_mod_cast hn
 have c4:((n:Int) / 2 ^ b != 0)=false:=by
  rw [Int.ediv_eq_zero_of_lt om hlt];rfl
 have hmk:=ZtU (P:=prog) (t:=114) (e:=5) underlying114 ZtT b om
 clear hlt hn
 go_enter func38,ntmps38
 go_wp2_with fail
 clear hmk
 go_loopg [0,7] b (fun gk v0 v7 wr=>∃(k q:Nat) (z:Int),gk+k=b∧v0=.int .u64 q∧v7=.int .i64 z∧z=(b:Int) - 1 - k∧q≤4096∧Hid (q=n / 2 ^ k)∧Below w.heap.size w wr∧w.heap.size < wr.heap.size∧Hid (wr.there w.heap.size 0 b)∧Hid (wr.rangeAt w.heap.size 0 (List.replicate (b - k) (.int .u8 0)++(ofL k n).map byV)))
 case atStart=>
  exact ⟨0,n,(b:Int) - 1,om,rfl,rfl,om,hn2,hid sm,ZtZ,sm,hid (Zf5 rfl sm),hid (by
   have h:=Xr (W:=w) (l:=List.replicate b (Value.int .u8 0)) (T:=5) rfl
   simpa [ofL] using (show (w.alloc (.cells (List.replicate b (Value.int .u8 0)).toArray 5)).rangeAt w.heap.size 0 _ from Xb h))⟩
 case round=>
  obtain ⟨k,q,z,hk,rfl,rfl,hz,hq,HQ,hb2,hs2,HT,HG⟩:=hrel
  by_cases hlt:k < b
  ·obtain ⟨i,rfl⟩:∃i:Nat,z=i:=⟨z.toNat,om⟩
   have hib:i < b:=om
   have hib2:(i:Int) < (b:Int):=om
   have hi0:(0:Int)≤(i:Int):=om
   have hi1:(i:Int)≤12:=om
   obtain ⟨h1,f0⟩:=HT.out i hib
   obtain ⟨u,c0⟩:=Option.isSome_iff_exists.1 h1
   rw [Nat.zero_add] at c0 f0
   have hq0:(0:Int)≤(q:Int):=om
   have hq1:(q:Int)≤4096:=om
   have HZ:=hid (show b - k=i+1 by omega)
   have HKK:=hid hk
   clear h1 hz hk
   go_wp2_with fail
   go_roundg (gk - 1)
   case measure=>have:=HKK.out;omega
   case rel=>
    have hw:((48+bits BinOp.and IntKind.u64 (q:Int) 1) % 256)=((ZtH q).toNat:Int):=by rw [ZtR q hq];exact ZtO q
    have hr:=JZ (o:=i) (vs:=[byV (ZtH q)]) HG.out (by simpa [ZtG,HZ.out,show i+1+k=b by have:=HZ.out;omega] using HT.out) (by simp [HZ.out])
    refine ⟨k+1,q / 2,(i:Int) - 1,by have:=HKK.out;omega,sm,rfl,by have:=HZ.out;omega,om,hid (by rw [HQ.out,Nat.pow_succ,Nat.div_div_eq_div_mul]),Below.setCell hb2 (Nat.le_refl _) _,by simpa using hs2,hid (World.there_setCells HT.out w.heap.size i [_]),hid ?_⟩
    rw [hw]
    have e:(List.replicate (b - k) (Value.int .u8 0)++(ofL k n).map byV).take i++([byV (ZtH q)]++(List.replicate (b - k) (Value.int .u8 0)++(ofL k n).map byV).drop (i+[byV (ZtH q)].length))=List.replicate (b - (k+1)) (Value.int .u8 0)++(ofL (k+1) n).map byV:=by
     rw [HZ.out,show b - (k+1)=i by have:=HZ.out;omega,List.take_append_of_le_length sm,List.take_replicate,Nat.min_eq_left om,ofL,←HQ.out,List.map_cons]
     congr 1
     rw [List.drop_append_of_le_length sm,List.drop_replicate]
     simp
    rw [e] at hr
    exact hr
  obtain rfl:k=b:=om
  obtain rfl:z= -1:=om
  have hcv:(convert 114 9 (.slice (some ⟨w.heap.size,0,none⟩) k k)).run prog wr=.ok (.string (ofB k n)) wr:=by
   have h:=run_convert_bytes_back (P:=prog) wr 114 9 5 ⟨w.heap.size,0,none⟩ k (ofL k n) underlying114 underlying5 underlying9 (fun j hj=>by
    rw [Addr.add_mid]
    refine HG.out j _ ?_
    rw [Nat.sub_self]
    simp [List.getElem?_eq_getElem hj])
   rw [ZtG] at h
   exact h
  clear hz
  go_wp2_with fail
  go_ret2
  exact ⟨rfl,hb2⟩
set_option maxRecDepth 512
theorem ZtN (b n:Nat) (hb:b≤12):Zc (ofB b n)=true∧(ofB b n).size=b:=by
 have hs:(ofB b n).size=b:=by
  rw [ZK]
  exact ZtG b n
 exact ⟨YL.2 ⟨om,fun x hx=>ZtJ b n x hx⟩,hs⟩
theorem ZtW (a b:ByteArray):(a.toList==b.toList)=decide (a=b):=by
 by_cases h:a=b
 ·subst h;simp
 have h2:¬a.toList=b.toList:=fun e=>h (by
  rw [ByteArray.toList_eq,ByteArray.toList_eq] at e
  exact ByteArray.ext (Array.ext' e))
 simp [h,h2]
set_option maxRecDepth 100000
theorem ZtF (a b:ByteArray) (w:World) (ha:a.size≤1024) (hb:b.size≤1024):
  Calls prog 37 #[.string a,.string b] w fun e w'=>e=.returned (.bool (Zqh a b))∧Below w.heap.size w w':=by
 by_cases h:a.size≤b.size
 ·have h1:decide (a.size≤b.size)=true:=by simpa using h
  have h2:(0:Int)≤(a.size:Int):=om
  have h3:(a.size:Int)≤(b.size:Int):=om
  have hF:Zqh a b=decide (Qv b a.size=a):=by unfold Zqh;rw [h1];rfl
  rw [hF]
  go_enter func37,ntmps37
  go_wp2_with fail
  go_ret
  exact ⟨XW (ZtW _ _),ZtZ⟩
 have h1:decide (a.size≤b.size)=false:=by simpa using h
 have hF:Zqh a b=false:=by unfold Zqh;rw [h1];rfl
 rw [hF]
 go_enter func37,ntmps37
 go_wp2_with fail
 go_ret
 exact ⟨rfl,ZtZ⟩
set_option maxRecDepth 512
theorem ZtI {W:World} {n:Nat} (v0 v1 v2 v3 v4:Value):Agree (fun b=>n+1≤b) W (((((W.setCell ⟨n,0,none⟩ v0).setCell ⟨n,1,none⟩ v1).setCell ⟨n,2,none⟩ v2).setCell ⟨n,3,none⟩ v3).setCell ⟨n,4,none⟩ v4):=
 (((((Zt4 (p:=⟨n,0,none⟩) (fun h=>absurd h (Nat.not_succ_le_self n))).trans (Zt4 (p:=⟨n,1,none⟩) (fun h=>absurd h (Nat.not_succ_le_self n)))).trans (Zt4 (p:=⟨n,2,none⟩) (fun h=>absurd h (Nat.not_succ_le_self n)))).trans (Zt4 (p:=⟨n,3,none⟩) (fun h=>absurd h (Nat.not_succ_le_self n)))).trans (Zt4 (p:=⟨n,4,none⟩) (fun h=>absurd h (Nat.not_succ_le_self n))))
end Go.Proofs.YtkdffbdnjfgpeaaGreat
