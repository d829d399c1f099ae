/- The types of the program of law 40. -/
import Derived.Test.YtgfklnmckakclaaGreatDoorEngine4
import Derived.Shelf.Small.Strs
import Derived.Shelf.Lay
import Derived.Test.YtgfklnmckakclaaGreatDoorProg
set_option linter.unusedVariables false
namespace Go.Proofs
shelf_lay Lays.n106 Nm 106 at Tryz as Tryz.lays106
end Go.Proofs
namespace Go.Proofs.Tryz
open Go.Eng
mutual
structure Val where
  kind : Int
  int : Int
  text : List Int
structure Ex where
  kind : Int
  op : Int
  value : Val
  table : List Int
  name : List Int
  distinct : Bool
  args : List (Ex)
  partitionBy : List (Ex)
  orderBy : List (Ord1)
  slot : Int
  f_Type : Int
structure Pair where
  e0 : Int
  e1 : Int
structure Pred where
  column : Int
  op : Int
  value : Val
structure Ord1 where
  expr : Ex
  desc : Bool
structure Known where
  f_null : Bool
  notTrue : Bool
  notFalse : Bool
end
@[reducible] def NN : Names where
  ρ := fun n => match n with | 0 => Val | 1 => Ex | 2 => Pair | 3 => Pred | 4 => Ord1 | _ + 5 => Known
  body := fun n => match n with | 0 => [.int .i64, .int .i64, .str] | 1 => [.int .i64, .int .i64, .nm 0, .str, .str, .bool, .sl (.nm 1), .sl (.nm 1), .sl (.nm 4), .int .i64, .int .i64] | 2 => [.int .i64, .int .i64] | 3 => [.int .i64, .int .i64, .nm 0] | 4 => [.nm 1, .bool] | _ + 5 => [.bool, .bool, .bool]
  un := fun n => match n with | 0 => fun v => (v.kind, v.int, v.text, ()) | 1 => fun v => (v.kind, v.op, v.value, v.table, v.name, v.distinct, v.args, v.partitionBy, v.orderBy, v.slot, v.f_Type, ()) | 2 => fun v => (v.e0, v.e1, ()) | 3 => fun v => (v.column, v.op, v.value, ()) | 4 => fun v => (v.expr, v.desc, ()) | _ + 5 => fun v => (v.f_null, v.notTrue, v.notFalse, ())
  re := fun n => match n with | 0 => fun x => ⟨x.1, x.2.1, x.2.2.1⟩ | 1 => fun x => ⟨x.1, x.2.1, x.2.2.1, x.2.2.2.1, x.2.2.2.2.1, x.2.2.2.2.2.1, x.2.2.2.2.2.2.1, x.2.2.2.2.2.2.2.1, x.2.2.2.2.2.2.2.2.1, x.2.2.2.2.2.2.2.2.2.1, x.2.2.2.2.2.2.2.2.2.2.1⟩ | 2 => fun x => ⟨x.1, x.2.1⟩ | 3 => fun x => ⟨x.1, x.2.1, x.2.2.1⟩ | 4 => fun x => ⟨x.1, x.2.1⟩ | _ + 5 => fun x => ⟨x.1, x.2.1, x.2.2.1⟩
  dv := fun n => match n with | 0 => ⟨0, 0, []⟩ | 1 => ⟨0, 0, ⟨0, 0, []⟩, [], [], false, [], [], [], 0, 0⟩ | 2 => ⟨0, 0⟩ | 3 => ⟨0, 0, ⟨0, 0, []⟩⟩ | 4 => ⟨⟨0, 0, ⟨0, 0, []⟩, [], [], false, [], [], [], 0, 0⟩, false⟩ | _ + 5 => ⟨false, false, false⟩
  size := fun n => match n with | 0 => 3 | 1 => 13 | 2 => 2 | 3 => 5 | 4 => 14 | _ + 5 => 3
  un_re := fun n => match n with | 0 => fun _ => rfl | 1 => fun _ => rfl | 2 => fun _ => rfl | 3 => fun _ => rfl | 4 => fun _ => rfl | _ + 5 => fun _ => rfl
  size_eq := fun n => match n with | 0 => rfl | 1 => rfl | 2 => rfl | 3 => rfl | 4 => rfl | _ + 5 => rfl
def tys : List (TypeId × TI) := [(2, ⟨.int .i64, 0⟩), (3, ⟨.int .i64, 0⟩), (4, ⟨.bool, 0⟩), (5, ⟨.int .u8, 0⟩), (6, ⟨.int .u8, 0⟩), (9, ⟨.str, 0⟩), (10, ⟨.str, 0⟩), (11, ⟨.str, 0⟩), (12, ⟨.int .u64, 0⟩), (21, ⟨.int .i32, 0⟩), (22, ⟨.nm 0, 0⟩), (23, ⟨.nm 0, 0⟩), (24, ⟨.sl (.nm 1), 27⟩), (25, ⟨.sl (.nm 4), 67⟩), (26, ⟨.nm 1, 0⟩), (27, ⟨.nm 1, 0⟩), (31, ⟨.opq, 0⟩), (33, ⟨.sl (.nm 2), 37⟩), (37, ⟨.nm 2, 4⟩), (39, ⟨.sl (.int .i64), 3⟩), (41, ⟨.sl (.nm 0), 23⟩), (42, ⟨.sl (.nm 0), 23⟩), (49, ⟨.nm 3, 0⟩), (50, ⟨.nm 3, 0⟩), (53, ⟨.sl (.nm 3), 50⟩), (66, ⟨.nm 4, 0⟩), (67, ⟨.nm 4, 0⟩), (68, ⟨.nm 5, 0⟩), (69, ⟨.nm 5, 0⟩), (93, ⟨.sl (.nm 5), 69⟩), (114, ⟨.sl (.bool), 4⟩), (120, ⟨.sl (.int .u8), 5⟩), (133, ⟨.int .u64, 0⟩), (144, ⟨.int .u64, 0⟩), (163, ⟨.int .u32, 0⟩), (164, ⟨.int .u8, 0⟩), (165, ⟨.int .u8, 0⟩), (168, ⟨.int .i32, 0⟩), (169, ⟨.int .i32, 0⟩)]
theorem fits : Fits prog NN (Eng.look tys) := fits_of (fun n => match n with | 0 => rfl | 1 => rfl | 2 => rfl | 3 => rfl | 4 => rfl | _ + 5 => rfl) (by decide +kernel)
def zVal : Val := { kind := (0 : Int), int := (0 : Int), text := [] : Val }
def zEx : Ex := { kind := (0 : Int), op := (0 : Int), value := { kind := (0 : Int), int := (0 : Int), text := [] : Val }, table := [], name := [], distinct := false, args := [], partitionBy := [], orderBy := [], slot := (0 : Int), f_Type := (0 : Int) : Ex }
def zPair : Pair := { e0 := (0 : Int), e1 := (0 : Int) : Pair }
def zPred : Pred := { column := (0 : Int), op := (0 : Int), value := { kind := (0 : Int), int := (0 : Int), text := [] : Val } : Pred }
def zOrd1 : Ord1 := { expr := { kind := (0 : Int), op := (0 : Int), value := { kind := (0 : Int), int := (0 : Int), text := [] : Val }, table := [], name := [], distinct := false, args := [], partitionBy := [], orderBy := [], slot := (0 : Int), f_Type := (0 : Int) : Ex }, desc := false : Ord1 }
def zKnown : Known := { f_null := false, notTrue := false, notFalse := false : Known }
theorem cmpCalls : ∀ (a b : ByteArray) (w : World), Calls prog 152 #[.string a, .string b] w fun e w' => e = .returned (.int .i64 (Lib.compareBytes a.data.toList b.data.toList)) ∧ w' = w :=
  fun a b w => Any.strings_Compare lays106 a b w
theorem mixed : prog.follows .mixedOrders = true := by kernel_rfl
end Go.Proofs.Tryz
