/- The functions of the program as the engine follows them (printed by a program of ours): their code, what is known of them, and the equations of their runs. -/
import Derived.Test.YtlkllggdiakpbaaGreatDoorL42Law
set_option linter.unusedVariables false
set_option maxRecDepth 20000
namespace Go.Proofs.Tryz
open Go.Eng
noncomputable def F4 : Eng.Fn NN := ⟨⟨(Eng.look tys), (lookS [(10, sp10), (14, sp14), (18, sp18), (17, sp17), (9, sp9), (8, sp8)]), Eng.look [(3, [0, 3]), (4, [0, 3, 5])], Eng.pinIds 0 [.v (.sl (.nm 1)), .v (.nm 2)], 0⟩, Eng.bodyOf Go.Proofs.Tryz.f4, [.tmp 4], 39⟩
noncomputable def sp4 : Eng.Spec NN := F4.spec [.v (.sl (.nm 1)), .v (.nm 2)] [.v (.bool)] 4000000
theorem good4 : Eng.Good prog 4 sp4 := Eng.good_fn (fn := f4) fits (by kernel_rfl) mixed (by kernel_rfl) (.cons good10 (.cons good14 (.cons good18 (.cons good17 (.cons good9 (.cons good8 .nil)))))) (by kernel_rfl) (by kernel_rfl) (by kernel_rfl) (by kernel_rfl) (by kernel_rfl) (by kernel_rfl) (by kernel_rfl) (by kernel_rfl) (by kernel_rfl)
noncomputable def F4c3 (n : Nat) (x0 : List (Ex)) (x1 : Batch) := F4.at [.v (.sl (.nm 1)), .v (.nm 2)] [.v (.bool)] n 3 ⟨[.one (.data (.sl (.nm 1)) x0 []), U, U, .one (.bptr 0 0), U, U, U, U, U, U, U, U, U, U, U, U, U, U, U, U, U, U, U, U, U, U, U, U, U, U, U, U, U, U, U, U, U, U, U], [(0, .whole (.nm 2) x1 [])]⟩
noncomputable def F4c4 (n : Nat) (x0 : List (Ex)) (x1 : Int) (x2 : Batch) := F4.at [.v (.sl (.nm 1)), .v (.nm 2)] [.v (.bool)] n 4 ⟨[.one (.data (.sl (.nm 1)) x0 []), U, U, .one (.bptr 0 0), U, .one (.int .i64 x1), U, U, U, U, U, U, U, U, U, U, U, U, U, U, U, U, U, U, U, U, U, U, U, U, U, U, U, U, U, U, U, U, U], [(0, .whole (.nm 2) x2 [])]⟩
theorem F4_run (n : Nat) (a0 : List (Ex)) (a1 : Batch) : F4.run [.v (.sl (.nm 1)), .v (.nm 2)] [.v (.bool)] n (a0, a1, ()) =
 (F8.run [PK.v (Ty.nm 2)] [RK.v Ty.bool] 4000000 (a1, ())).bind fun r0 =>
  bif !r0.fst.fst then
   some ((true, ()), ())
  else
   bif decide ((10 : Int) < (↑a0.length : Int)) then
    some ((true, ()), ())
   else
    F4c3 n (a0) (a1) := by kernel_rfl
theorem F4c3_eq (n x0 x1 : _) : F4c3 (n + 1) x0 x1 =
 F4c4 n (x0) ((0 : Int)) (x1) := by kernel_rfl
theorem F4c4_eq (n x0 x1 x2 : _) : F4c4 (n + 1) x0 x1 x2 =
 bif decide (x1 < (↑x0.length : Int)) then
  if (0 : Int) ≤ x1 then
   if x1 < (↑x0.length : Int) then
    (F9.run [PK.v (Ty.nm 1), PK.v (Ty.nm 2)] [RK.v Ty.bool] 4000000 (x0.getD x1.toNat zEx, x2, ())).bind fun r1 =>
     bif !r1.fst.fst then
      some ((true, ()), ())
     else
      F4c4 n (x0) (IntKind.i64.wrap (x1 + (1 : Int))) (x2)
   else
    none
  else
   none
 else
  (F17.run [PK.v (Ty.nm 1).sl, PK.v (Ty.nm 2)] [RK.v (Ty.nm 2)] 4000000 (x0, x2, ())).bind fun r2 =>
   (F18.run [PK.v (Ty.nm 1).sl, PK.v (Ty.nm 2)] [RK.v (Ty.nm 2)] 4000000 (x0, x2, ())).bind fun r3 =>
    (F14.run [PK.v (Ty.nm 2), PK.v (Ty.nm 2)] [RK.v Ty.bool] 4000000 (r2.fst.fst, r3.fst.fst, ())).bind fun r4 =>
     bif r4.fst.fst then
      some ((true, ()), ())
     else
      some ((false, ()), ()) := by kernel_rfl
end Go.Proofs.Tryz
