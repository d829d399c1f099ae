/- The functions of the program as the engine follows them (printed by a program of ours): their code, what is known of them, and the equations of their runs. -/
import Derived.Test.YtgfklnmckakclaaGreatDoorL40Awake
set_option linter.unusedVariables false
set_option maxRecDepth 20000
namespace Go.Proofs.Tryz
open Go.Eng
noncomputable def F6 : Eng.Fn NN := ⟨⟨(Eng.look tys), (lookS [(12, sp12), (23, sp23), (20, sp20), (22, sp22), (11, sp11)]), Eng.look [(3, [1, 2, 3]), (6, [1, 3, 7, 8]), (7, [1, 3, 7, 8])], Eng.pinIds 0 [.v (.nm 1), .v (.sl (.int .i64)), .v (.sl (.nm 0))]⟩, Eng.bodyOf Go.Proofs.Tryz.f6, [.tmp 6], 66⟩
noncomputable def sp6 : Eng.Spec NN := F6.spec [.v (.nm 1), .v (.sl (.int .i64)), .v (.sl (.nm 0))] [.v (.bool)] 4000000
theorem good6 : Eng.Good prog 6 sp6 := Eng.good_fn (fn := f6) fits (by kernel_rfl) mixed (by kernel_rfl) (.cons good12 (.cons good23 (.cons good20 (.cons good22 (.cons good11 .nil))))) (by kernel_rfl) (by kernel_rfl) (by kernel_rfl) (by kernel_rfl) (by kernel_rfl) (by kernel_rfl) (by kernel_rfl) (by kernel_rfl) (by kernel_rfl)
noncomputable def F6c3 (n : Nat) (x0 : List (Int)) (x1 : List (Val)) (x2 : Ex) := F6.at [.v (.nm 1), .v (.sl (.int .i64)), .v (.sl (.nm 0))] [.v (.bool)] n 3 ⟨[U, .one (.data (.sl (.int .i64)) x0 []), .one (.data (.sl (.nm 0)) x1 []), .one (.bptr 0 0), U, U, U, U, U, U, U, U, U, U, U, U, U, U, U, U, U, U, U, U, U, U, U, U, U, U, U, U, U, U, U, U, U, U, U, U, U, U, U, U, U, U, U, U, U, U, U, U, U, U, U, U, U, U, U, U, U, U, U, U, U, U], [(0, .whole (.nm 1) x2 [])]⟩
noncomputable def F6c6 (n : Nat) (x0 : List (Int)) (x1 : Int) (x2 : Ex) (x3 : List (Val)) := F6.at [.v (.nm 1), .v (.sl (.int .i64)), .v (.sl (.nm 0))] [.v (.bool)] n 6 ⟨[U, .one (.data (.sl (.int .i64)) x0 []), U, .one (.bptr 0 0), U, U, U, .one (.own 1), .one (.int .i64 x1), U, U, U, U, U, U, U, U, U, U, U, U, U, U, U, U, U, U, U, U, U, U, U, U, U, U, U, U, U, U, U, U, U, U, U, U, U, U, U, U, U, U, U, U, U, U, U, U, U, U, U, U, U, U, U, U, U], [(0, .whole (.nm 1) x2 []), (1, .row 23 (.nm 0) x3 [] false)]⟩
noncomputable def F6c7 (n : Nat) (x0 : List (Int)) (x1 : Int) (x2 : Ex) (x3 : List (Val)) := F6.at [.v (.nm 1), .v (.sl (.int .i64)), .v (.sl (.nm 0))] [.v (.bool)] n 7 ⟨[U, .one (.data (.sl (.int .i64)) x0 []), U, .one (.bptr 0 0), U, U, U, .one (.own 1), .one (.int .i64 x1), U, U, U, U, U, U, U, U, U, U, U, U, U, U, U, U, U, U, U, U, U, U, U, U, U, U, U, U, U, U, U, U, U, U, U, U, U, U, U, U, U, U, U, U, U, U, U, U, U, U, U, U, U, U, U, U, U], [(0, .whole (.nm 1) x2 []), (1, .row 23 (.nm 0) x3 [] false)]⟩
theorem F6_run (n : Nat) (a0 : Ex) (a1 : List (Int)) (a2 : List (Val)) : F6.run [.v (.nm 1), .v (.sl (.int .i64)), .v (.sl (.nm 0))] [.v (.bool)] n (a0, a1, a2, ()) =
  (F11.run [PK.v (Ty.nm (1 : Nat))] [RK.v Ty.bool] (4000000 : Nat) (a0, ())).bind fun r0 =>
    bif !r0.fst.fst then
      some ((true, ()), ())
    else
      (F22.run [PK.v (Ty.nm (0 : Nat)).sl] [RK.v Ty.bool] (4000000 : Nat) (a2, ())).bind fun r1 =>
        bif !r1.fst.fst then
          some ((true, ()), ())
        else
          bif decide ((20 : Int) < (↑a1.length : Int)) then
            some ((true, ()), ())
          else
            (F20.run [PK.v (Ty.nm (1 : Nat)), PK.v (Ty.int IntKind.i64).sl] [RK.v Ty.bool] (4000000 : Nat) (a0, a1, ())).bind fun r2 =>
              bif !r2.fst.fst then
                some ((true, ()), ())
              else
                F6c3 n (a1) (a2) (a0) := by kernel_rfl
theorem F6c3_eq (n : Nat) (x0 : List (Int)) (x1 : List (Val)) (x2 : Ex) : F6c3 (n + 1) x0 x1 x2 =
  if (0 : Nat) + x1.length ≤ lim then
    F6c6 n (x0) ((0 : Int)) (x2) ([] ++ x1)
  else
    none := by kernel_rfl
theorem F6c6_eq (n : Nat) (x0 : List (Int)) (x1 : Int) (x2 : Ex) (x3 : List (Val)) : F6c6 (n + 1) x0 x1 x2 x3 =
  bif decide (x1 < (↑x0.length : Int)) then
    if (0 : Int) ≤ x1 then
      if x1 < (↑x0.length : Int) then
        bif decide ((0 : Int) ≤ x0.getD x1.toNat (0 : Int)) then
          if (0 : Int) ≤ x1 then
            if x1 < (↑x0.length : Int) then
              bif decide (x0.getD x1.toNat (0 : Int) < (↑x3.length : Int)) then
                if (0 : Int) ≤ x1 then
                  if x1 < (↑x0.length : Int) then
                    if (0 : Int) ≤ x0.getD x1.toNat (0 : Int) then
                      if x0.getD x1.toNat (0 : Int) < (↑x3.length : Int) then
                        F6c7 n (x0) (x1) (x2) (x3.set (x0.getD x1.toNat (0 : Int)).toNat zVal)
                      else
                        none
                    else
                      none
                  else
                    none
                else
                  none
              else
                F6c7 n (x0) (x1) (x2) (x3)
            else
              none
          else
            none
        else
          F6c7 n (x0) (x1) (x2) (x3)
      else
        none
    else
      none
  else
    (F23.run [PK.v (Ty.nm (1 : Nat)), PK.v (Ty.nm (0 : Nat)).sl] [RK.v Ty.bool] (4000000 : Nat) (x2, x3, ())).bind fun r3 =>
      bif !r3.fst.fst then
        some ((true, ()), ())
      else
        some ((false, ()), ()) := by kernel_rfl
theorem F6c7_eq (n : Nat) (x0 : List (Int)) (x1 : Int) (x2 : Ex) (x3 : List (Val)) : F6c7 (n + 1) x0 x1 x2 x3 =
  F6c6 n (x0) (IntKind.i64.wrap (x1 + (1 : Int))) (x2) (x3) := by kernel_rfl
end Go.Proofs.Tryz
