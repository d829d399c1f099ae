/- The types of the program of law 12. -/
import Derived.Test.YtpnabclcnplchaaGreatEngine5
import Derived.Shelf.Small.Strs
import Derived.Shelf.Sort.Plain
import Derived.Shelf.Lay
import Derived.Test.YtpnabclcnplchaaGreatProg
set_option linter.unusedVariables false
namespace Go.Proofs
shelf_lay Lays.n213 Nm 213 at Tryz as Tryz.lays213
shelf_lay Lays.n190 Nm 190 at Tryz as Tryz.lays190
end Go.Proofs
namespace Go.Proofs.Tryz
open Go.Eng
mutual
structure Vec where
 f_Type : Int
 ints : List (Int)
 texts : List (List Int)
 nulls : List (Bool)
structure Cost where
 encoding : Int
 bytes : Int
structure Val where
 kind : Int
 int : Int
 text : List Int
structure Pred where
 column : Int
 op : Int
 value : Val
structure Bits where
 n : Int
 words : List (Int)
structure Run where
 value : Int
 count : Int
structure Hdr where
 base : Int
 width : Int
 exceptions : Int
 f_end : Int
structure Patch where
 index : Int
 high : Int
end
@[reducible] def NN : Names where
 ρ := fun n => match n with | 0 => Vec | 1 => Cost | 2 => Val | 3 => Pred | 4 => Bits | 5 => Run | 6 => List (Int) | 7 => Hdr | _ + 8 => Patch
 body := fun n => match n with | 0 => [.int .i64, .sl (.int .i64), .sl (.str), .sl (.bool)] | 1 => [.int .i64, .int .i64] | 2 => [.int .i64, .int .i64, .str] | 3 => [.int .i64, .int .i64, .nm 2] | 4 => [.int .i64, .sl (.int .u64)] | 5 => [.int .i64, .int .i64] | 6 => List.replicate 65 (.int .i64) | 7 => [.int .i64, .int .i64, .int .i64, .int .i64] | _ + 8 => [.int .i64, .int .u64]
 un := fun n => match n with | 0 => fun v => (v.f_Type, v.ints, v.texts, v.nulls, ()) | 1 => fun v => (v.encoding, v.bytes, ()) | 2 => fun v => (v.kind, v.int, v.text, ()) | 3 => fun v => (v.column, v.op, v.value, ()) | 4 => fun v => (v.n, v.words, ()) | 5 => fun v => (v.value, v.count, ()) | 6 => fun v => unA _ (.int .i64) 65 fun i => v.getD i (0) | 7 => fun v => (v.base, v.width, v.exceptions, v.f_end, ()) | _ + 8 => fun v => (v.index, v.high, ())
 re := fun n => match n with | 0 => fun x => ⟨x.1, x.2.1, x.2.2.1, x.2.2.2.1⟩ | 1 => fun x => ⟨x.1, x.2.1⟩ | 2 => fun x => ⟨x.1, x.2.1, x.2.2.1⟩ | 3 => fun x => ⟨x.1, x.2.1, x.2.2.1⟩ | 4 => fun x => ⟨x.1, x.2.1⟩ | 5 => fun x => ⟨x.1, x.2.1⟩ | 6 => fun x => reA _ (.int .i64) 65 x | 7 => fun x => ⟨x.1, x.2.1, x.2.2.1, x.2.2.2.1⟩ | _ + 8 => fun x => ⟨x.1, x.2.1⟩
 dv := fun n => match n with | 0 => ⟨0, [], [], []⟩ | 1 => ⟨0, 0⟩ | 2 => ⟨0, 0, []⟩ | 3 => ⟨0, 0, ⟨0, 0, []⟩⟩ | 4 => ⟨0, []⟩ | 5 => ⟨0, 0⟩ | 6 => List.replicate 65 (0) | 7 => ⟨0, 0, 0, 0⟩ | _ + 8 => ⟨0, 0⟩
 size := fun n => match n with | 0 => 4 | 1 => 2 | 2 => 3 | 3 => 5 | 4 => 2 | 5 => 2 | 6 => 65 | 7 => 4 | _ + 8 => 2
 rowsAt := fun n => match n with | 4 => [none, some (83, .int .u64)] | _ => []
 oslD := fun d => [71].contains d
 elT := fun n => match n with | 6 => some (.int .i64) | _ => none
 un_re := fun n => match n with | 0 => fun _ => rfl | 1 => fun _ => rfl | 2 => fun _ => rfl | 3 => fun _ => rfl | 4 => fun _ => rfl | 5 => fun _ => rfl | 6 => fun x => unA_reA 65 x | 7 => fun _ => rfl | _ + 8 => fun _ => rfl
 lst := fun n => match n with | 6 => fun T x => lstA _ (.int .i64) 65 (0) T x | _ => fun _ _ => none
 lst_ok := fun n => match n with | 0 => fun _ _ _ h => nomatch h | 1 => fun _ _ _ h => nomatch h | 2 => fun _ _ _ h => nomatch h | 3 => fun _ _ _ h => nomatch h | 4 => fun _ _ _ h => nomatch h | 5 => fun _ _ _ h => nomatch h | 6 => fun _ _ _ h => lstA_ok h | 7 => fun _ _ _ h => nomatch h | _ + 8 => fun _ _ _ h => nomatch h
 ofL := fun n => match n with | 6 => fun T x => ofA _ (.int .i64) T x | _ => fun _ _ => none
 ofL_ok := fun n => match n with | 0 => fun _ _ _ _ h => nomatch h | 1 => fun _ _ _ _ h => nomatch h | 2 => fun _ _ _ _ h => nomatch h | 3 => fun _ _ _ _ h => nomatch h | 4 => fun _ _ _ _ h => nomatch h | 5 => fun _ _ _ _ h => nomatch h | 6 => fun _ _ _ hl h => ofA_ok hl h | 7 => fun _ _ _ _ h => nomatch h | _ + 8 => fun _ _ _ _ h => nomatch h
 size_eq := fun n => match n with | 0 => rfl | 1 => rfl | 2 => rfl | 3 => rfl | 4 => rfl | 5 => rfl | 6 => rfl | 7 => rfl | _ + 8 => rfl
def tys : List (TypeId × TI) := [(2, ⟨.int .i64, 0⟩), (3, ⟨.int .i64, 0⟩), (4, ⟨.bool, 0⟩), (5, ⟨.int .u8, 0⟩), (6, ⟨.int .u8, 0⟩), (9, ⟨.str, 0⟩), (10, ⟨.str, 0⟩), (11, ⟨.str, 0⟩), (12, ⟨.int .u64, 0⟩), (21, ⟨.int .i32, 0⟩), (22, ⟨.sl (.int .i64), 2⟩), (23, ⟨.sl (.str), 9⟩), (24, ⟨.sl (.bool), 4⟩), (25, ⟨.nm 0, 0⟩), (26, ⟨.nm 0, 0⟩), (29, ⟨.sl (.int .u8), 5⟩), (30, ⟨.int .i64, 0⟩), (35, ⟨.sl (.nm 1), 38⟩), (37, ⟨.nm 1, 0⟩), (38, ⟨.nm 1, 0⟩), (47, ⟨.nm 2, 0⟩), (48, ⟨.nm 2, 0⟩), (49, ⟨.nm 3, 0⟩), (50, ⟨.nm 3, 0⟩), (52, ⟨.sl (.int .u64), 83⟩), (53, ⟨.nm 4, 0⟩), (54, ⟨.nm 4, 0⟩), (70, ⟨.opq, 1⟩), (74, ⟨.opq, 1⟩), (80, ⟨.sl (.int .i64), 3⟩), (83, ⟨.int .u64, 0⟩), (84, ⟨.int .u64, 0⟩), (87, ⟨.sl (.nm 5), 110⟩), (109, ⟨.nm 5, 0⟩), (110, ⟨.nm 5, 0⟩), (115, ⟨.nm 6, 4⟩), (128, ⟨.sl (.sl (.int .u8)), 29⟩), (145, ⟨.nm 7, 0⟩), (146, ⟨.nm 7, 0⟩), (149, ⟨.sl (.nm 8), 151⟩), (150, ⟨.nm 8, 0⟩), (151, ⟨.nm 8, 0⟩), (188, ⟨.int .i64, 0⟩), (196, ⟨.int .u32, 0⟩), (197, ⟨.int .u64, 0⟩), (213, ⟨.int .u8, 0⟩), (214, ⟨.int .u8, 0⟩), (217, ⟨.int .i32, 0⟩), (218, ⟨.int .i32, 0⟩), (177, ⟨.opq, 900004⟩)]
theorem fits : Fits prog NN (Eng.look tys) := fits_of (fun n => match n with | 0 => rfl | 1 => rfl | 2 => rfl | 3 => rfl | 4 => rfl | 5 => rfl | 6 => rfl | 7 => rfl | _ + 8 => rfl) (by decide +kernel)
def zVec : Vec := { f_Type := (0 : Int), ints := [], texts := [], nulls := [] : Vec }
def zCost : Cost := { encoding := (0 : Int), bytes := (0 : Int) : Cost }
def zVal : Val := { kind := (0 : Int), int := (0 : Int), text := [] : Val }
def zPred : Pred := { column := (0 : Int), op := (0 : Int), value := { kind := (0 : Int), int := (0 : Int), text := [] : Val } : Pred }
def zBits : Bits := { n := (0 : Int), words := [] : Bits }
def zRun : Run := { value := (0 : Int), count := (0 : Int) : Run }
def zHdr : Hdr := { base := (0 : Int), width := (0 : Int), exceptions := (0 : Int), f_end := (0 : Int) : Hdr }
def zPatch : Patch := { index := (0 : Int), high := (0 : Int) : Patch }
theorem cmpCalls : ∀ (a b : ByteArray) (w : World), Calls prog 169 #[.string a, .string b] w fun e w' => e = .returned (.int .i64 (Lib.compareBytes a.data.toList b.data.toList)) ∧ w' = w :=
 fun a b w => Any.bytealg_CompareString lays213 a b w
theorem mixed : prog.follows .mixedOrders = true := by kernel_rfl
open Go.Sort in
theorem sortCalls : ∀ (blk off cap : Nat) (ss : List (List UInt8)) (w : World), Holds encStr w blk off ss.toArray → blk < w.heap.size → ss.length < 4611686018427387904 →
   Calls prog 152 #[.slice (some ⟨blk, off, none⟩) ss.length cap] w fun e w' => e = .returned (.tuple #[]) ∧ ∃ n os, w' = grow (putRow encStr (Go.Sort.ahead w n) blk off (ss.mergeSort fun x y => decide (x ≤ y)).toArray) os :=
 fun blk off cap ss w h1 h2 h3 => Any.slices_Sort_string lays190 blk off cap ss w h1 h2 h3
end Go.Proofs.Tryz
