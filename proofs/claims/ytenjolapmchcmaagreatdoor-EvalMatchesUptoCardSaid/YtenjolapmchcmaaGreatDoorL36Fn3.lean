/- The functions of the program as the engine follows them (printed by a program of ours): their code, what is known of them, and the equations of their runs. -/
import Derived.Test.YtenjolapmchcmaaGreatDoorL36Awake
set_option linter.unusedVariables false
set_option maxRecDepth 20000
namespace Go.Proofs.Tryz
open Go.Eng
noncomputable def F3 : Eng.Fn NN := ⟨⟨(Eng.look tys), (lookS [(6, sp6), (9, (sp9 R13)), (8, sp8), (7, sp7), (5, sp5), (4, sp4)]), Eng.look [(3, [1, 2]), (8, [1, 2, 5]), (14, [1, 2, 5, 7])], Eng.pinIds 0 [.v (.nm 1), .v (.sl (.nm 0))], 0, noInl, noThr⟩, Eng.bodyOf Go.Proofs.Tryz.f3, [.tmp 4], 92⟩
noncomputable def sp3 : Eng.Spec NN := F3.spec [.v (.nm 1), .v (.sl (.nm 0))] [.v (.bool)] 4000000
theorem good3 : Eng.Good prog 3 sp3 := Eng.good_fn (fn := f3) fits (by kernel_rfl) mixed (by kernel_rfl) (.cons good6 (.cons good9 (.cons good8 (.cons good7 (.cons good5 (.cons good4 .nil)))))) (by kernel_rfl) (by kernel_rfl) (by kernel_rfl) (by kernel_rfl) (by kernel_rfl) (by kernel_rfl) (by kernel_rfl) (by kernel_rfl) (by kernel_rfl)
noncomputable def F3c3 (n : Nat) (x0 : List (Val)) (x1 : Pred) := F3.at [.v (.nm 1), .v (.sl (.nm 0))] [.v (.bool)] n 3 ⟨[U, .one (.data (.sl (.nm 0)) x0 []), .one (.bptr 0 0), U, U, U, U, U, U, U, U, U, U, U, U, U, U, U, U, U, U, U, U, U, U, U, U, U, U, U, U, U, U, U, U, U, U, U, U, U, U, U, U, U, U, U, U, U, U, U, U, U, U, U, U, U, U, U, U, U, U, U, U, U, U, U, U, U, U, U, U, U, U, U, U, U, U, U, U, U, U, U, U, U, U, U, U, U, U, U, U, U], [(0, .whole (.nm 1) x1 [])]⟩
noncomputable def F3c8 (n : Nat) (x0 : List (Val)) (x1 : Bool) (x2 : Pred) := F3.at [.v (.nm 1), .v (.sl (.nm 0))] [.v (.bool)] n 8 ⟨[U, .one (.data (.sl (.nm 0)) x0 []), .one (.bptr 0 0), U, U, .one (.bool x1), U, U, U, U, U, U, U, U, U, U, U, U, U, U, U, U, U, U, U, U, U, U, U, U, U, U, U, U, U, U, U, U, U, U, U, U, U, U, U, U, U, U, U, U, U, U, U, U, U, U, U, U, U, U, U, U, U, U, U, U, U, U, U, U, U, U, U, U, U, U, U, U, U, U, U, U, U, U, U, U, U, U, U, U, U, U], [(0, .whole (.nm 1) x2 [])]⟩
noncomputable def F3c14 (n : Nat) (x0 : List (Val)) (x1 : Bool) (x2 : Pred) (x3 : Ex) := F3.at [.v (.nm 1), .v (.sl (.nm 0))] [.v (.bool)] n 14 ⟨[U, .one (.data (.sl (.nm 0)) x0 []), .one (.bptr 0 0), U, U, .one (.bool x1), U, .one (.bptr 1 0), U, U, U, U, U, U, U, U, U, U, U, U, U, U, U, U, U, U, U, U, U, U, U, U, U, U, U, U, U, U, U, U, U, U, U, U, U, U, U, U, U, U, U, U, U, U, U, U, U, U, U, U, U, U, U, U, U, U, U, U, U, U, U, U, U, U, U, U, U, U, U, U, U, U, U, U, U, U, U, U, U, U, U, U], [(0, .whole (.nm 1) x2 []), (1, .whole (.nm 2) x3 [])]⟩
theorem F3_run (n : Nat) (a0 : Pred) (a1 : List (Val)) : F3.run [.v (.nm 1), .v (.sl (.nm 0))] [.v (.bool)] n (a0, a1, ()) =
 bif decide ((100 : Int) < (↑a1.length : Int)) then
  some ((true, ()), ())
 else
  (F4.run [PK.v (Ty.nm 0).sl] [RK.v Ty.bool] 4000000 (a1, ())).bind fun r0 =>
   bif !r0.fst.fst then
    some ((true, ()), ())
   else
    (F5.run [PK.v (Ty.nm 0)] [RK.v Ty.bool] 4000000 (a0.value, ())).bind fun r1 =>
     bif !r1.fst.fst then
      some ((true, ()), ())
     else
      F3c3 n (a1) (a0) := by kernel_rfl
theorem F3c3_eq (n x0 x1 : _) : F3c3 (n + 1) x0 x1 =
 (F7.run [PK.v (Ty.nm 1), PK.v (Ty.nm 0).sl] [RK.v Ty.bool] 4000000 (x1, x0, ())).bind fun r2 =>
  (F8.run [PK.v (Ty.nm 1), PK.v (Ty.nm 0).sl] [RK.v Ty.bool] 4000000 (x1, x0, ())).bind fun r3 =>
   bif !decide (r2.fst.fst = r3.fst.fst) then
    some ((false, ()), ())
   else
    bif decide (x1.column < (0 : Int)) then
     some ((true, ()), ())
    else
     bif decide ((200 : Int) ≤ x1.column) then
      some ((true, ()), ())
     else
      F3c8 n (x0) (r2.fst.fst) (x1) := by kernel_rfl
theorem F3c8_eq (n x0 x1 x2 : _) : F3c8 (n + 1) x0 x1 x2 =
 bif decide (x2.op = (20 : Int)) then
  F3c14 n (x0) (x1) (x2) ({ kind := (6 : Int), op := (0 : Int), value := zVal, table := [], name := [], distinct := false, args := [{ kind := (2 : Int), op := (0 : Int), value := zVal, table := [], name := [], distinct := false, args := [], partitionBy := [], orderBy := [], slot := x2.column, f_Type := (0 : Int) : Ex }], partitionBy := [], orderBy := [], slot := (0 : Int), f_Type := (1 : Int) : Ex })
 else
  bif decide (x2.op = (21 : Int)) then
   F3c14 n (x0) (x1) (x2) ({ kind := (6 : Int), op := (0 : Int), value := zVal, table := [], name := [], distinct := false, args := [{ kind := (2 : Int), op := (0 : Int), value := zVal, table := [], name := [], distinct := false, args := [], partitionBy := [], orderBy := [], slot := x2.column, f_Type := (0 : Int) : Ex }], partitionBy := [], orderBy := [], slot := (0 : Int), f_Type := (1 : Int) : Ex })
  else
   bif decide (x2.op < (1 : Int)) then
    bif !x1 then
     some ((true, ()), ())
    else
     some ((false, ()), ())
   else
    bif decide ((6 : Int) < x2.op) then
     bif !x1 then
      some ((true, ()), ())
     else
      some ((false, ()), ())
    else
     F3c14 n (x0) (x1) (x2) ({ kind := (5 : Int), op := x2.op, value := zVal, table := [], name := [], distinct := false, args := [{ kind := (2 : Int), op := (0 : Int), value := zVal, table := [], name := [], distinct := false, args := [], partitionBy := [], orderBy := [], slot := x2.column, f_Type := (0 : Int) : Ex }, { kind := (1 : Int), op := (0 : Int), value := x2.value, table := [], name := [], distinct := false, args := [], partitionBy := [], orderBy := [], slot := (0 : Int), f_Type := x2.value.kind : Ex }], partitionBy := [], orderBy := [], slot := (0 : Int), f_Type := (1 : Int) : Ex }) := by kernel_rfl
theorem F3c14_eq (n x0 x1 x2 x3 : _) : F3c14 (n + 1) x0 x1 x2 x3 =
 ((F9 R13).run [PK.v (Ty.nm 2), PK.v (Ty.nm 0).sl] [RK.v Ty.bool] 4000000 (x3, x0, ())).bind fun r4 =>
  bif decide (x1 = !decide (r4.fst.fst = decide (x2.op = (21 : Int)))) then
   some ((true, ()), ())
  else
   some ((false, ()), ()) := by kernel_rfl
end Go.Proofs.Tryz
