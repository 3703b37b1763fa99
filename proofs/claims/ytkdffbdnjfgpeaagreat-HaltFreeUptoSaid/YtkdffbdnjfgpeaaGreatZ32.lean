/- Part 33. -/
import Derived.Test.YtkdffbdnjfgpeaaGreatZ16
import Derived.Test.YtkdffbdnjfgpeaaGreatZ31
set_option linter.all false
namespace Go.Proofs.YtkdffbdnjfgpeaaGreat
open Go Go.RowKit Go.Proofs.Tryz
theorem ZdA (t:GT) (s:ByteArray) (w:World) (A:Nat→Prop) (m:TA) (ox:okT t) (hs:Zb t≤1099511627776) (hl:RT w A t m) (hss:s.size≤9223372036854775807):
  Calls prog 35 #[TV t m,.string s] w (RunR t s w):=
 Zkv t s w A m (fun hb c=>ZeA c s (Zb t) hs hb 4098) ox hs hl hss
theorem ZdB (t:GT) (s:ByteArray) (w:World) (A:Nat→Prop) (m:TA) (ox:okT t) (hs:Zb t≤1099511627776) (hl:RT w A t m) (hss:s.size≤9223372036854775807) (hE:ZP t s=0) (v:GV) (j:Nat) (hr:Vm s t=.ok v j):
  Calls prog 35 #[TV t m,.string s] w fun e w'=>Below w.heap.size w w'∧∃m:VA,e=.returned (.tuple #[.agg #[.int .u8 1,.int .u8 v.k,.int .i64 v.n,.slice m.a v.l.length m.c,.int .i64 j],.int .i64 0])∧RV w' (fun b=>w.heap.size≤b) v m.a:=
 (ZdA t s w A m ox hs hl hss).mono fun e w' h=>by
  obtain ⟨hb,h⟩:=h
  rw [hE,hr] at h
  unfold ZbZ at h
  rw [if_neg sm] at h
  exact ⟨hb,h⟩
theorem ZfX (t:GT) (s:ByteArray) (w:World) (A:Nat→Prop) (m:TA) (ox:okT t) (hs:Zb t≤1099511627776) (hl:RT w A t m) (hss:s.size≤9223372036854775807) (hE:ZP t s=0) (k:Nat) (hr:Vm s t=.no k):
  Calls prog 35 #[TV t m,.string s] w fun e w'=>Below w.heap.size w w'∧e=.returned (.tuple #[.agg #[.int .u8 k,.int .u8 0,.int .i64 0,.slice none 0 0,.int .i64 0],.int .i64 0]):=
 (ZdA t s w A m ox hs hl hss).mono fun e w' h=>by
  obtain ⟨hb,h⟩:=h
  rw [hE,hr] at h
  unfold ZbZ at h
  rw [if_neg sm] at h
  exact ⟨hb,h⟩
end Go.Proofs.YtkdffbdnjfgpeaaGreat
