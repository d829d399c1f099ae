/- The types of the program of law 10, and the contract of the library's sort. -/
import Derived.Test.YtkbeapecncddkaaEngLaw
import Derived.Test.YtkbeapecncddkaaEngSort
import Derived.Test.YtkbeapecncddkaaProg
import Derived.Shelf.Sort.Plain
import Derived.Shelf.Lay
set_option linter.unusedVariables false
namespace Go.Proofs
shelf_lay Lays.n190 Nm 190 at Try as Try.lays190
end Go.Proofs
namespace Go.Proofs.Try
open Go.Eng
structure Val where
  kind : Int
  num : Int
  text : List Int
structure Run where
  value : Int
  count : Int
def NN : Names where
  ρ := fun n => match n with | 0 => Val | _ => Run
  body := fun n => match n with | 0 => [.int .i64, .int .i64, .str] | _ => [.int .i64, .int .i64]
  un := fun n => match n with | 0 => fun v => (v.kind, v.num, v.text, ()) | _ + 1 => fun v => (v.value, v.count, ())
  re := fun n => match n with | 0 => fun x => ⟨x.1, x.2.1, x.2.2.1⟩ | _ + 1 => fun x => ⟨x.1, x.2.1⟩
  dv := fun n => match n with | 0 => ⟨0, 0, []⟩ | _ + 1 => ⟨0, 0⟩
  size := fun n => match n with | 0 => 3 | _ => 2
  un_re := fun n => match n with | 0 => fun _ => rfl | _ + 1 => fun _ => rfl
  size_eq := fun n => match n with | 0 => rfl | _ + 1 => rfl
def tys : List (TypeId × TI) := [(2, ⟨.int .i64, 0⟩), (3, ⟨.int .i64, 0⟩), (4, ⟨.bool, 0⟩), (5, ⟨.int .u8, 0⟩), (9, ⟨.str, 0⟩), (22, ⟨.sl .str, 9⟩), (25, ⟨.sl (.int .i64), 3⟩), (36, ⟨.nm 0, 0⟩), (37, ⟨.nm 0, 0⟩), (40, ⟨.sl (.int .u8), 5⟩), (43, ⟨.int .i64, 0⟩), (50, ⟨.opq, 900004⟩), (58, ⟨.int .u64, 0⟩), (59, ⟨.sl (.sl (.int .u8)), 40⟩), (61, ⟨.sl (.int .u64), 58⟩), (62, ⟨.sl (.int .i64), 2⟩), (66, ⟨.sl (.nm 1), 82⟩), (76, ⟨.int .u64, 0⟩), (81, ⟨.nm 1, 0⟩), (82, ⟨.nm 1, 0⟩), (101, ⟨.int .i64, 0⟩), (109, ⟨.int .u32, 0⟩), (114, ⟨.int .u64, 0⟩)]
theorem fits : Fits prog NN (Eng.look tys) := fits_of (fun n => match n with | 0 => rfl | _ + 1 => rfl) (by decide +kernel)
theorem mixed : prog.follows .mixedOrders = true := by kernel_rfl
open Go.Sort in
theorem sortCalls : ∀ (blk off cap : Nat) (ss : List (List UInt8)) (w : World), Holds encStr w blk off ss.toArray → blk < w.heap.size → ss.length < 4611686018427387904 →
      Calls prog 26 #[.slice (some ⟨blk, off, none⟩) ss.length cap] w fun e w' => e = .returned (.tuple #[]) ∧ ∃ n os, w' = grow (putRow encStr (Go.Sort.ahead w n) blk off (ss.mergeSort fun x y => decide (x ≤ y)).toArray) os :=
  fun blk off cap ss w h1 h2 h3 => Any.slices_Sort_string lays190 blk off cap ss w h1 h2 h3
end Go.Proofs.Try
