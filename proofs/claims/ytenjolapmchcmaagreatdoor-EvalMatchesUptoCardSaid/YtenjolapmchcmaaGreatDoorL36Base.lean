/- The types of the program of law 36, and the library's functions that it calls. -/
import Derived.Test.YtenjolapmchcmaaGreatDoorEngine6
import Derived.Shelf.Small.Strs
import Derived.Shelf.Sort.Plain
import Derived.Shelf.Slices.CompactI
import Derived.Shelf.Spec.SlicesGrow
import Derived.Lib.SlicesCompact
import Derived.Shelf.Lay
import Derived.Test.YtenjolapmchcmaaGreatDoorProg
set_option linter.unusedVariables false
set_option linter.unusedSimpArgs false
namespace Go.Proofs
open Go.Shelf
shelf_lay Lays.n106 Nm 106 at Tryz as Tryz.lays106
shelf_lay Lays.n189 Nm 189 at Tryz as Tryz.lays189
shelf_lay Lays2.n20 Nm2 20 at Tryz as Tryz.lays20
shelf_lay_g Lays8.n4 Nm8 4 at Tryz 52 as Tryz.lays4
end Go.Proofs
namespace Go.Proofs.Tryz
open Go.Eng
mutual
structure Val where
 kind : Int
 int : Int
 text : List Int
structure Pred where
 column : Int
 op : Int
 value : Val
structure Ex where
 kind : Int
 op : Int
 value : Val
 table : List Int
 name : List Int
 distinct : Bool
 args : List (Ex)
 partitionBy : List (Ex)
 orderBy : List (Ord1)
 slot : Int
 f_Type : Int
structure Ord1 where
 expr : Ex
 desc : Bool
end
@[reducible] def NN : Names where
 ρ := fun n => match n with | 0 => Val | 1 => Pred | 2 => Ex | _ + 3 => Ord1
 body := fun n => match n with | 0 => [.int .i64, .int .i64, .str] | 1 => [.int .i64, .int .i64, .nm 0] | 2 => [.int .i64, .int .i64, .nm 0, .str, .str, .bool, .sl (.nm 2), .sl (.nm 2), .sl (.nm 3), .int .i64, .int .i64] | _ + 3 => [.nm 2, .bool]
 un := fun n => match n with | 0 => fun v => (v.kind, v.int, v.text, ()) | 1 => fun v => (v.column, v.op, v.value, ()) | 2 => fun v => (v.kind, v.op, v.value, v.table, v.name, v.distinct, v.args, v.partitionBy, v.orderBy, v.slot, v.f_Type, ()) | _ + 3 => fun v => (v.expr, v.desc, ())
 re := fun n => match n with | 0 => fun x => ⟨x.1, x.2.1, x.2.2.1⟩ | 1 => fun x => ⟨x.1, x.2.1, x.2.2.1⟩ | 2 => fun x => ⟨x.1, x.2.1, x.2.2.1, x.2.2.2.1, x.2.2.2.2.1, x.2.2.2.2.2.1, x.2.2.2.2.2.2.1, x.2.2.2.2.2.2.2.1, x.2.2.2.2.2.2.2.2.1, x.2.2.2.2.2.2.2.2.2.1, x.2.2.2.2.2.2.2.2.2.2.1⟩ | _ + 3 => fun x => ⟨x.1, x.2.1⟩
 dv := fun n => match n with | 0 => ⟨0, 0, []⟩ | 1 => ⟨0, 0, ⟨0, 0, []⟩⟩ | 2 => ⟨0, 0, ⟨0, 0, []⟩, [], [], false, [], [], [], 0, 0⟩ | _ + 3 => ⟨⟨0, 0, ⟨0, 0, []⟩, [], [], false, [], [], [], 0, 0⟩, false⟩
 size := fun n => match n with | 0 => 3 | 1 => 5 | 2 => 13 | _ + 3 => 14
 un_re := fun n => match n with | 0 => fun _ => rfl | 1 => fun _ => rfl | 2 => fun _ => rfl | _ + 3 => fun _ => rfl
 size_eq := fun n => match n with | 0 => rfl | 1 => rfl | 2 => rfl | _ + 3 => rfl
def tys : List (TypeId × TI) := [(2, ⟨.int .i64, 0⟩), (3, ⟨.int .i64, 0⟩), (4, ⟨.bool, 0⟩), (5, ⟨.int .u8, 0⟩), (6, ⟨.int .u8, 0⟩), (9, ⟨.str, 0⟩), (10, ⟨.str, 0⟩), (11, ⟨.str, 0⟩), (12, ⟨.int .u64, 0⟩), (21, ⟨.int .i32, 0⟩), (22, ⟨.nm 0, 0⟩), (23, ⟨.nm 0, 0⟩), (24, ⟨.nm 1, 0⟩), (25, ⟨.nm 1, 0⟩), (26, ⟨.sl (.nm 0), 23⟩), (27, ⟨.sl (.nm 0), 23⟩), (32, ⟨.sl (.nm 2), 35⟩), (33, ⟨.sl (.nm 3), 57⟩), (34, ⟨.nm 2, 0⟩), (35, ⟨.nm 2, 0⟩), (39, ⟨.sl (.int .i64), 3⟩), (56, ⟨.nm 3, 0⟩), (57, ⟨.nm 3, 0⟩), (60, ⟨.int .u64, 0⟩), (71, ⟨.sl (.sl (.nm 2)), 32⟩), (74, ⟨.int .i64, 0⟩), (82, ⟨.int .u32, 0⟩), (84, ⟨.int .u64, 0⟩), (94, ⟨.int .u64, 0⟩), (104, ⟨.sl (.int .u8), 5⟩), (134, ⟨.int .u8, 0⟩), (135, ⟨.int .u8, 0⟩), (138, ⟨.int .i32, 0⟩), (139, ⟨.int .i32, 0⟩)]
theorem fits : Fits prog NN (Eng.look tys) := fits_of (fun n => match n with | 0 => rfl | 1 => rfl | 2 => rfl | _ + 3 => rfl) (by decide +kernel)
def zVal : Val := { kind := (0 : Int), int := (0 : Int), text := [] : Val }
def zPred : Pred := { column := (0 : Int), op := (0 : Int), value := { kind := (0 : Int), int := (0 : Int), text := [] : Val } : Pred }
def zEx : Ex := { kind := (0 : Int), op := (0 : Int), value := { kind := (0 : Int), int := (0 : Int), text := [] : Val }, table := [], name := [], distinct := false, args := [], partitionBy := [], orderBy := [], slot := (0 : Int), f_Type := (0 : Int) : Ex }
def zOrd1 : Ord1 := { expr := { kind := (0 : Int), op := (0 : Int), value := { kind := (0 : Int), int := (0 : Int), text := [] : Val }, table := [], name := [], distinct := false, args := [], partitionBy := [], orderBy := [], slot := (0 : Int), f_Type := (0 : Int) : Ex }, desc := false : Ord1 }
theorem cmpCalls : ∀ (a b : ByteArray) (w : World), Calls prog 50 #[.string a, .string b] w fun e w' => e = .returned (.int .i64 (Lib.compareBytes a.data.toList b.data.toList)) ∧ w' = w :=
 fun a b w => Any.strings_Compare lays106 a b w
theorem mixed : prog.follows .mixedOrders = true := by kernel_rfl
open Go.Sort in
theorem sortCalls : ∀ (blk off cap : Nat) (zs : List Int) (w : World), Holds (Value.int .i64) w blk off zs.toArray → blk < w.heap.size → zs.length < 4611686018427387904 →
   Calls prog 21 #[.slice (some ⟨blk, off, none⟩) zs.length cap] w fun e w' => e = .returned (.tuple #[]) ∧ ∃ n os, w' = grow (putRow (Value.int .i64) (Go.Sort.ahead w n) blk off (zs.mergeSort fun x y => decide (x ≤ y)).toArray) os :=
 fun blk off cap zs w h1 h2 h3 => Any.slices_Sort_int lays189 blk off cap zs w h1 h2 h3
end Go.Proofs.Tryz
