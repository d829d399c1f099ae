/- The functions of the program as the engine follows them (printed by a program of ours): their code, what is known of them, and the equations of their runs. -/
import Derived.Test.YtlkllggdiakpbaaGreatDoorL42Law
set_option linter.unusedVariables false
set_option maxRecDepth 20000
namespace Go.Proofs.Tryz
open Go.Eng
noncomputable def F3 : Eng.Fn NN := ⟨⟨(Eng.look tys), (lookS [(10, sp10), (14, sp14), (16, sp16), (15, sp15), (11, sp11), (13, sp13), (12, sp12), (9, sp9), (8, sp8)]), Eng.look [(3, [2, 3])], Eng.pinIds 0 [.v (.nm 1), .v (.nm 2)], 0⟩, Eng.bodyOf Go.Proofs.Tryz.f3, [.tmp 4], 34⟩
noncomputable def sp3 : Eng.Spec NN := F3.spec [.v (.nm 1), .v (.nm 2)] [.v (.bool)] 4000000
theorem good3 : Eng.Good prog 3 sp3 := Eng.good_fn (fn := f3) fits (by kernel_rfl) mixed (by kernel_rfl) (.cons good10 (.cons good14 (.cons good16 (.cons good15 (.cons good11 (.cons good13 (.cons good12 (.cons good9 (.cons good8 .nil))))))))) (by kernel_rfl) (by kernel_rfl) (by kernel_rfl) (by kernel_rfl) (by kernel_rfl) (by kernel_rfl) (by kernel_rfl) (by kernel_rfl) (by kernel_rfl)
noncomputable def F3c3 (n : Nat) (x0 : Ex) (x1 : Batch) := F3.at [.v (.nm 1), .v (.nm 2)] [.v (.bool)] n 3 ⟨[U, U, .one (.bptr 0 0), .one (.bptr 1 0), U, U, U, U, U, U, U, U, U, U, U, U, U, U, U, U, U, U, U, U, U, U, U, U, U, U, U, U, U, U], [(0, .whole (.nm 1) x0 []), (1, .whole (.nm 2) x1 [])]⟩
theorem F3_run (n : Nat) (a0 : Ex) (a1 : Batch) : F3.run [.v (.nm 1), .v (.nm 2)] [.v (.bool)] n (a0, a1, ()) =
 (F8.run [PK.v (Ty.nm 2)] [RK.v Ty.bool] 4000000 (a1, ())).bind fun r0 =>
  bif !r0.fst.fst then
   some ((true, ()), ())
  else
   (F9.run [PK.v (Ty.nm 1), PK.v (Ty.nm 2)] [RK.v Ty.bool] 4000000 (a0, a1, ())).bind fun r1 =>
    bif !r1.fst.fst then
     some ((true, ()), ())
    else
     F3c3 n (a0) (a1) := by kernel_rfl
theorem F3c3_eq (n x0 x1 : _) : F3c3 (n + 1) x0 x1 =
 (F12.run [PK.v (Ty.nm 1), PK.v (Ty.nm 2)] [RK.v (Ty.nm 3)] 4000000 (x0, x1, ())).bind fun r2 =>
  (F13.run [PK.v (Ty.nm 1), PK.v (Ty.nm 2)] [RK.v (Ty.nm 3)] 4000000 (x0, x1, ())).bind fun r3 =>
   (F11.run [PK.v (Ty.nm 3), PK.v (Ty.nm 3)] [RK.v Ty.bool] 4000000 (r2.fst.fst, r3.fst.fst, ())).bind fun r4 =>
    bif r4.fst.fst then
     (F15.run [PK.v (Ty.nm 1), PK.v (Ty.nm 2)] [RK.v (Ty.nm 2)] 4000000 (x0, x1, ())).bind fun r5 =>
      (F16.run [PK.v (Ty.nm 1), PK.v (Ty.nm 2)] [RK.v (Ty.nm 2)] 4000000 (x0, x1, ())).bind fun r6 =>
       (F14.run [PK.v (Ty.nm 2), PK.v (Ty.nm 2)] [RK.v Ty.bool] 4000000 (r5.fst.fst, r6.fst.fst, ())).bind fun r7 =>
        bif r7.fst.fst then
         some ((true, ()), ())
        else
         some ((false, ()), ())
    else
     some ((false, ()), ()) := by kernel_rfl
end Go.Proofs.Tryz
