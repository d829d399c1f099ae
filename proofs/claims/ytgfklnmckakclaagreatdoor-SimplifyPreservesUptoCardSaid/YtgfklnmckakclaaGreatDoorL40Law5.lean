/- The functions of the program as the engine follows them (printed by a program of ours): their code, what is known of them, and the equations of their runs. -/
import Derived.Test.YtgfklnmckakclaaGreatDoorL40Awake
set_option linter.unusedVariables false
set_option maxRecDepth 20000
namespace Go.Proofs.Tryz
open Go.Eng
noncomputable def F5 : Eng.Fn NN := ⟨⟨(Eng.look tys), (lookS [(12, sp12), (21, sp21), (20, sp20), (11, sp11)]), Eng.look [(3, [1, 2])], Eng.pinIds 0 [.v (.nm 1), .v (.sl (.int .i64))]⟩, Eng.bodyOf Go.Proofs.Tryz.f5, [.tmp 4], 24⟩
noncomputable def sp5 : Eng.Spec NN := F5.spec [.v (.nm 1), .v (.sl (.int .i64))] [.v (.bool)] 4000000
theorem good5 : Eng.Good prog 5 sp5 := Eng.good_fn (fn := f5) fits (by kernel_rfl) mixed (by kernel_rfl) (.cons good12 (.cons good21 (.cons good20 (.cons good11 .nil)))) (by kernel_rfl) (by kernel_rfl) (by kernel_rfl) (by kernel_rfl) (by kernel_rfl) (by kernel_rfl) (by kernel_rfl) (by kernel_rfl) (by kernel_rfl)
noncomputable def F5c3 (n : Nat) (x0 : List (Int)) (x1 : Ex) := F5.at [.v (.nm 1), .v (.sl (.int .i64))] [.v (.bool)] n 3 ⟨[U, .one (.data (.sl (.int .i64)) x0 []), .one (.bptr 0 0), U, U, U, U, U, U, U, U, U, U, U, U, U, U, U, U, U, U, U, U, U], [(0, .whole (.nm 1) x1 [])]⟩
theorem F5_run (n : Nat) (a0 : Ex) (a1 : List (Int)) : F5.run [.v (.nm 1), .v (.sl (.int .i64))] [.v (.bool)] n (a0, a1, ()) =
  (F11.run [PK.v (Ty.nm (1 : Nat))] [RK.v Ty.bool] (4000000 : Nat) (a0, ())).bind fun r0 =>
    bif !r0.fst.fst then
      some ((true, ()), ())
    else
      bif decide ((20 : Int) < (↑a1.length : Int)) then
        some ((true, ()), ())
      else
        F5c3 n (a1) (a0) := by kernel_rfl
theorem F5c3_eq (n : Nat) (x0 : List (Int)) (x1 : Ex) : F5c3 (n + 1) x0 x1 =
  (F20.run [PK.v (Ty.nm (1 : Nat)), PK.v (Ty.int IntKind.i64).sl] [RK.v Ty.bool] (4000000 : Nat) (x1, x0, ())).bind fun r1 =>
    (F21.run [PK.v (Ty.nm (1 : Nat)), PK.v (Ty.int IntKind.i64).sl] [RK.v Ty.bool] (4000000 : Nat) (x1, x0, ())).bind fun r2 =>
      bif decide (r1.fst.fst = r2.fst.fst) then
        some ((true, ()), ())
      else
        some ((false, ()), ()) := by kernel_rfl
end Go.Proofs.Tryz
