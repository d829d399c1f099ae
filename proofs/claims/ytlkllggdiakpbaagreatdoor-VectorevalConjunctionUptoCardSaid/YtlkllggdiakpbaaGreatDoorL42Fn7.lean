/- The functions of the program as the engine follows them (printed by a program of ours): their code, what is known of them, and the equations of their runs. -/
import Derived.Test.YtlkllggdiakpbaaGreatDoorL42Law
set_option linter.unusedVariables false
set_option maxRecDepth 20000
namespace Go.Proofs.Tryz
open Go.Eng
noncomputable def F7 : Eng.Fn NN := ⟨⟨(Eng.look tys), (lookS [(10, sp10), (14, sp14), (15, sp15), (9, sp9), (8, sp8)]), Eng.look [(3, [3, 4, 5])], Eng.pinIds 0 [.v (.nm 1), .v (.nm 1), .v (.nm 2)], 0⟩, Eng.bodyOf Go.Proofs.Tryz.f7, [.tmp 6], 70⟩
noncomputable def sp7 : Eng.Spec NN := F7.spec [.v (.nm 1), .v (.nm 1), .v (.nm 2)] [.v (.bool)] 4000000
theorem good7 : Eng.Good prog 7 sp7 := Eng.good_fn (fn := f7) fits (by kernel_rfl) mixed (by kernel_rfl) (.cons good10 (.cons good14 (.cons good15 (.cons good9 (.cons good8 .nil))))) (by kernel_rfl) (by kernel_rfl) (by kernel_rfl) (by kernel_rfl) (by kernel_rfl) (by kernel_rfl) (by kernel_rfl) (by kernel_rfl) (by kernel_rfl)
noncomputable def F7c3 (n : Nat) (x0 : Ex) (x1 : Ex) (x2 : Batch) := F7.at [.v (.nm 1), .v (.nm 1), .v (.nm 2)] [.v (.bool)] n 3 ⟨[U, U, U, .one (.bptr 0 0), .one (.bptr 1 0), .one (.bptr 2 0), U, U, U, U, U, U, U, U, U, U, U, U, U, U, U, U, U, U, U, U, U, U, U, U, U, U, U, U, U, U, U, U, U, U, U, U, U, U, U, U, U, U, U, U, U, U, U, U, U, U, U, U, U, U, U, U, U, U, U, U, U, U, U, U], [(0, .whole (.nm 1) x0 []), (1, .whole (.nm 1) x1 []), (2, .whole (.nm 2) x2 [])]⟩
theorem F7_run (n : Nat) (a0 : Ex) (a1 : Ex) (a2 : Batch) : F7.run [.v (.nm 1), .v (.nm 1), .v (.nm 2)] [.v (.bool)] n (a0, a1, a2, ()) =
 (F8.run [PK.v (Ty.nm 2)] [RK.v Ty.bool] 4000000 (a2, ())).bind fun r0 =>
  bif !r0.fst.fst then
   some ((true, ()), ())
  else
   (F9.run [PK.v (Ty.nm 1), PK.v (Ty.nm 2)] [RK.v Ty.bool] 4000000 (a0, a2, ())).bind fun r1 =>
    bif !r1.fst.fst then
     some ((true, ()), ())
    else
     (F9.run [PK.v (Ty.nm 1), PK.v (Ty.nm 2)] [RK.v Ty.bool] 4000000 (a1, a2, ())).bind fun r2 =>
      bif !r2.fst.fst then
       some ((true, ()), ())
      else
       bif !decide (a0.f_Type = (1 : Int)) then
        some ((true, ()), ())
       else
        bif !decide (a1.f_Type = (1 : Int)) then
         some ((true, ()), ())
        else
         F7c3 n (a0) (a1) (a2) := by kernel_rfl
theorem F7c3_eq (n x0 x1 x2 : _) : F7c3 (n + 1) x0 x1 x2 =
 (F9.run [PK.v (Ty.nm 1), PK.v (Ty.nm 2)] [RK.v Ty.bool] 4000000 ({ kind := (5 : Int), op := (7 : Int), value := zVal, table := [], name := [], distinct := false, args := [x0, x1], partitionBy := [], orderBy := [], slot := (0 : Int), f_Type := (1 : Int) : Ex }, x2, ())).bind fun r3 =>
  bif !r3.fst.fst then
   some ((true, ()), ())
  else
   (F15.run [PK.v (Ty.nm 1), PK.v (Ty.nm 2)] [RK.v (Ty.nm 2)] 4000000 (x0, x2, ())).bind fun r4 =>
    (F15.run [PK.v (Ty.nm 1), PK.v (Ty.nm 2)] [RK.v (Ty.nm 2)] 4000000 (x1, r4.fst.fst, ())).bind fun r5 =>
     (F15.run [PK.v (Ty.nm 1), PK.v (Ty.nm 2)] [RK.v (Ty.nm 2)] 4000000 (x1, x2, ())).bind fun r6 =>
      (F15.run [PK.v (Ty.nm 1), PK.v (Ty.nm 2)] [RK.v (Ty.nm 2)] 4000000 (x0, r6.fst.fst, ())).bind fun r7 =>
       (F15.run [PK.v (Ty.nm 1), PK.v (Ty.nm 2)] [RK.v (Ty.nm 2)] 4000000 ({ kind := (5 : Int), op := (7 : Int), value := zVal, table := [], name := [], distinct := false, args := [x0, x1], partitionBy := [], orderBy := [], slot := (0 : Int), f_Type := (1 : Int) : Ex }, x2, ())).bind fun r8 =>
        (F14.run [PK.v (Ty.nm 2), PK.v (Ty.nm 2)] [RK.v Ty.bool] 4000000 (Batch.mk r5.fst.fst.columns r5.fst.fst.len r5.fst.fst.all r5.fst.fst.sel, Batch.mk r8.fst.fst.columns r8.fst.fst.len r8.fst.fst.all r8.fst.fst.sel, ())).bind fun r9 =>
         bif r9.fst.fst then
          (F14.run [PK.v (Ty.nm 2), PK.v (Ty.nm 2)] [RK.v Ty.bool] 4000000 (Batch.mk r7.fst.fst.columns r7.fst.fst.len r7.fst.fst.all r7.fst.fst.sel, Batch.mk r8.fst.fst.columns r8.fst.fst.len r8.fst.fst.all r8.fst.fst.sel, ())).bind fun r10 =>
           bif r10.fst.fst then
            some ((true, ()), ())
           else
            some ((false, ()), ())
         else
          some ((false, ()), ()) := by kernel_rfl
end Go.Proofs.Tryz
