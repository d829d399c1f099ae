/- The types of the program of law 42. -/
import Derived.Test.YtlkllggdiakpbaaGreatDoorEngine5
import Derived.Shelf.Small.Strs
import Derived.Shelf.Lay
import Derived.Test.YtlkllggdiakpbaaGreatDoorProg
set_option linter.unusedVariables false
namespace Go.Proofs
shelf_lay Lays.n213 Nm 213 at Tryz as Tryz.lays213
end Go.Proofs
namespace Go.Proofs.Tryz
open Go.Eng
mutual
structure Val where
 kind : Int
 int : Int
 text : List Int
structure Ex where
 kind : Int
 op : Int
 value : Val
 table : List Int
 name : List Int
 distinct : Bool
 args : List (Ex)
 partitionBy : List (Ex)
 orderBy : List (Ord1)
 slot : Int
 f_Type : Int
structure Batch where
 columns : List (Vec)
 len : Int
 all : Bool
 sel : List (Int)
structure Vec where
 f_Type : Int
 ints : List (Int)
 texts : List (List Int)
 nulls : List (Bool)
structure Scope where
 columns : List (Vec)
 sel : List (Int)
structure Ord1 where
 expr : Ex
 desc : Bool
structure A8 where
 e0 : Int
 e1 : Int
 e2 : Int
 e3 : Int
 e4 : Int
 e5 : Int
 e6 : Int
 e7 : Int
end
@[reducible] def NN : Names where
 ρ := fun n => match n with | 0 => Val | 1 => Ex | 2 => Batch | 3 => Vec | 4 => Scope | 5 => Ord1 | _ + 6 => A8
 body := fun n => match n with | 0 => [.int .i64, .int .i64, .str] | 1 => [.int .i64, .int .i64, .nm 0, .str, .str, .bool, .sl (.nm 1), .sl (.nm 1), .sl (.nm 5), .int .i64, .int .i64] | 2 => [.sl (.nm 3), .int .i64, .bool, .sl (.int .i64)] | 3 => [.int .i64, .sl (.int .i64), .sl (.str), .sl (.bool)] | 4 => [.sl (.nm 3), .sl (.int .i64)] | 5 => [.nm 1, .bool] | _ + 6 => [.int .u8, .int .u8, .int .u8, .int .u8, .int .u8, .int .u8, .int .u8, .int .u8]
 un := fun n => match n with | 0 => fun v => (v.kind, v.int, v.text, ()) | 1 => fun v => (v.kind, v.op, v.value, v.table, v.name, v.distinct, v.args, v.partitionBy, v.orderBy, v.slot, v.f_Type, ()) | 2 => fun v => (v.columns, v.len, v.all, v.sel, ()) | 3 => fun v => (v.f_Type, v.ints, v.texts, v.nulls, ()) | 4 => fun v => (v.columns, v.sel, ()) | 5 => fun v => (v.expr, v.desc, ()) | _ + 6 => fun v => (v.e0, v.e1, v.e2, v.e3, v.e4, v.e5, v.e6, v.e7, ())
 re := fun n => match n with | 0 => fun x => ⟨x.1, x.2.1, x.2.2.1⟩ | 1 => fun x => ⟨x.1, x.2.1, x.2.2.1, x.2.2.2.1, x.2.2.2.2.1, x.2.2.2.2.2.1, x.2.2.2.2.2.2.1, x.2.2.2.2.2.2.2.1, x.2.2.2.2.2.2.2.2.1, x.2.2.2.2.2.2.2.2.2.1, x.2.2.2.2.2.2.2.2.2.2.1⟩ | 2 => fun x => ⟨x.1, x.2.1, x.2.2.1, x.2.2.2.1⟩ | 3 => fun x => ⟨x.1, x.2.1, x.2.2.1, x.2.2.2.1⟩ | 4 => fun x => ⟨x.1, x.2.1⟩ | 5 => fun x => ⟨x.1, x.2.1⟩ | _ + 6 => fun x => ⟨x.1, x.2.1, x.2.2.1, x.2.2.2.1, x.2.2.2.2.1, x.2.2.2.2.2.1, x.2.2.2.2.2.2.1, x.2.2.2.2.2.2.2.1⟩
 dv := fun n => match n with | 0 => ⟨0, 0, []⟩ | 1 => ⟨0, 0, ⟨0, 0, []⟩, [], [], false, [], [], [], 0, 0⟩ | 2 => ⟨[], 0, false, []⟩ | 3 => ⟨0, [], [], []⟩ | 4 => ⟨[], []⟩ | 5 => ⟨⟨0, 0, ⟨0, 0, []⟩, [], [], false, [], [], [], 0, 0⟩, false⟩ | _ + 6 => ⟨0, 0, 0, 0, 0, 0, 0, 0⟩
 size := fun n => match n with | 0 => 3 | 1 => 13 | 2 => 4 | 3 => 4 | 4 => 2 | 5 => 14 | _ + 6 => 8
 rowsAt := fun n => match n with | 2 => [some (40, .nm 3), none, none, some (3, .int .i64)] | 3 => [none, some (2, .int .i64), some (9, .str), some (4, .bool)] | _ => []
 elT := fun n => match n with | 6 => some (.int .u8) | _ => none
 un_re := fun n => match n with | 0 => fun _ => rfl | 1 => fun _ => rfl | 2 => fun _ => rfl | 3 => fun _ => rfl | 4 => fun _ => rfl | 5 => fun _ => rfl | _ + 6 => fun _ => rfl
 size_eq := fun n => match n with | 0 => rfl | 1 => rfl | 2 => rfl | 3 => rfl | 4 => rfl | 5 => rfl | _ + 6 => rfl
def tys : List (TypeId × TI) := [(2, ⟨.int .i64, 0⟩), (3, ⟨.int .i64, 0⟩), (4, ⟨.bool, 0⟩), (5, ⟨.int .u8, 0⟩), (6, ⟨.int .u8, 0⟩), (9, ⟨.str, 0⟩), (10, ⟨.str, 0⟩), (11, ⟨.str, 0⟩), (12, ⟨.int .u64, 0⟩), (21, ⟨.int .i32, 0⟩), (22, ⟨.nm 0, 0⟩), (23, ⟨.nm 0, 0⟩), (24, ⟨.sl (.nm 1), 27⟩), (25, ⟨.sl (.nm 5), 82⟩), (26, ⟨.nm 1, 0⟩), (27, ⟨.nm 1, 0⟩), (28, ⟨.sl (.nm 3), 40⟩), (29, ⟨.sl (.int .i64), 3⟩), (30, ⟨.nm 2, 0⟩), (31, ⟨.nm 2, 0⟩), (36, ⟨.sl (.int .i64), 2⟩), (37, ⟨.sl (.str), 9⟩), (38, ⟨.sl (.bool), 4⟩), (39, ⟨.nm 3, 0⟩), (40, ⟨.nm 3, 0⟩), (46, ⟨.int .u64, 0⟩), (48, ⟨.sl (.int .u64), 46⟩), (59, ⟨.nm 4, 0⟩), (60, ⟨.nm 4, 0⟩), (62, ⟨.sl (.nm 0), 23⟩), (63, ⟨.sl (.sl (.nm 0)), 66⟩), (66, ⟨.sl (.nm 0), 23⟩), (81, ⟨.nm 5, 0⟩), (82, ⟨.nm 5, 0⟩), (89, ⟨.opq, 0⟩), (98, ⟨.opq, 0⟩), (104, ⟨.sl (.int .u8), 5⟩), (111, ⟨.int .i64, 0⟩), (119, ⟨.opq, 0⟩), (125, ⟨.int .u64, 0⟩), (126, ⟨.nm 6, 6⟩), (183, ⟨.int .u32, 0⟩), (184, ⟨.int .u8, 0⟩), (185, ⟨.int .u8, 0⟩), (188, ⟨.int .i32, 0⟩), (189, ⟨.int .i32, 0⟩)]
theorem fits : Fits prog NN (Eng.look tys) := fits_of (fun n => match n with | 0 => rfl | 1 => rfl | 2 => rfl | 3 => rfl | 4 => rfl | 5 => rfl | _ + 6 => rfl) (by decide +kernel)
def zVal : Val := { kind := (0 : Int), int := (0 : Int), text := [] : Val }
def zEx : Ex := { kind := (0 : Int), op := (0 : Int), value := { kind := (0 : Int), int := (0 : Int), text := [] : Val }, table := [], name := [], distinct := false, args := [], partitionBy := [], orderBy := [], slot := (0 : Int), f_Type := (0 : Int) : Ex }
def zBatch : Batch := { columns := [], len := (0 : Int), all := false, sel := [] : Batch }
def zVec : Vec := { f_Type := (0 : Int), ints := [], texts := [], nulls := [] : Vec }
def zScope : Scope := { columns := [], sel := [] : Scope }
def zOrd1 : Ord1 := { expr := { kind := (0 : Int), op := (0 : Int), value := { kind := (0 : Int), int := (0 : Int), text := [] : Val }, table := [], name := [], distinct := false, args := [], partitionBy := [], orderBy := [], slot := (0 : Int), f_Type := (0 : Int) : Ex }, desc := false : Ord1 }
def zA8 : A8 := { e0 := (0 : Int), e1 := (0 : Int), e2 := (0 : Int), e3 := (0 : Int), e4 := (0 : Int), e5 := (0 : Int), e6 := (0 : Int), e7 := (0 : Int) : A8 }
theorem cmpCalls : ∀ (a b : ByteArray) (w : World), Calls prog 142 #[.string a, .string b] w fun e w' => e = .returned (.int .i64 (Lib.compareBytes a.data.toList b.data.toList)) ∧ w' = w :=
 fun a b w => Any.bytealg_CompareString lays213 a b w
abbrev AGV : List CK := [CK.c (Ty.int .i64), CK.o 2 (Ty.int .i64), CK.o 9 Ty.str, CK.o 4 Ty.bool]
abbrev AGW : List CK := [CK.c (Ty.int .i64), CK.c (Ty.int .i64).sl, CK.c Ty.str.sl, CK.c Ty.bool.sl]
theorem mixed : prog.follows .mixedOrders = true := by kernel_rfl
end Go.Proofs.Tryz
