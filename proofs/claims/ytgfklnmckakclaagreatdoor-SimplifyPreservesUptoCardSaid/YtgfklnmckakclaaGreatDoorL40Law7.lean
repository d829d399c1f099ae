/- The functions of the program as the engine follows them (printed by a program of ours): their code, what is known of them, and the equations of their runs. -/
import Derived.Test.YtgfklnmckakclaaGreatDoorL40Awake
set_option linter.unusedVariables false
set_option maxRecDepth 20000
namespace Go.Proofs.Tryz
open Go.Eng
noncomputable def F7 : Eng.Fn NN := ⟨⟨(Eng.look tys), (lookS [(12, sp12), (13, sp13), (27, sp27), (26, sp26), (19, sp19), (25, sp25), (24, sp24), (16, sp16), (11, sp11)]), Eng.look [(3, [1, 2]), (4, [1, 2, 5])], Eng.pinIds 0 [.v (.nm 1), .v (.sl (.nm 1))]⟩, Eng.bodyOf Go.Proofs.Tryz.f7, [.tmp 4], 51⟩
noncomputable def sp7 : Eng.Spec NN := F7.spec [.v (.nm 1), .v (.sl (.nm 1))] [.v (.bool)] 4000000
theorem good7 : Eng.Good prog 7 sp7 := Eng.good_fn (fn := f7) fits (by kernel_rfl) mixed (by kernel_rfl) (.cons good12 (.cons good13 (.cons good27 (.cons good26 (.cons good19 (.cons good25 (.cons good24 (.cons good16 (.cons good11 .nil))))))))) (by kernel_rfl) (by kernel_rfl) (by kernel_rfl) (by kernel_rfl) (by kernel_rfl) (by kernel_rfl) (by kernel_rfl) (by kernel_rfl) (by kernel_rfl)
noncomputable def F7c3 (n : Nat) (x0 : List (Ex)) (x1 : Ex) := F7.at [.v (.nm 1), .v (.sl (.nm 1))] [.v (.bool)] n 3 ⟨[U, .one (.data (.sl (.nm 1)) x0 []), .one (.bptr 0 0), U, U, U, U, U, U, U, U, U, U, U, U, U, U, U, U, U, U, U, U, U, U, U, U, U, U, U, U, U, U, U, U, U, U, U, U, U, U, U, U, U, U, U, U, U, U, U, U], [(0, .whole (.nm 1) x1 [])]⟩
noncomputable def F7c4 (n : Nat) (x0 : List (Ex)) (x1 : Int) (x2 : Ex) := F7.at [.v (.nm 1), .v (.sl (.nm 1))] [.v (.bool)] n 4 ⟨[U, .one (.data (.sl (.nm 1)) x0 []), .one (.bptr 0 0), U, U, .one (.int .i64 x1), U, U, U, U, U, U, U, U, U, U, U, U, U, U, U, U, U, U, U, U, U, U, U, U, U, U, U, U, U, U, U, U, U, U, U, U, U, U, U, U, U, U, U, U, U], [(0, .whole (.nm 1) x2 [])]⟩
theorem F7_run (n : Nat) (a0 : Ex) (a1 : List (Ex)) : F7.run [.v (.nm 1), .v (.sl (.nm 1))] [.v (.bool)] n (a0, a1, ()) =
  (F11.run [PK.v (Ty.nm (1 : Nat))] [RK.v Ty.bool] (4000000 : Nat) (a0, ())).bind fun r0 =>
    bif !r0.fst.fst then
      some ((true, ()), ())
    else
      (F16.run [PK.v (Ty.nm (1 : Nat)).sl] [RK.v Ty.bool] (4000000 : Nat) (a1, ())).bind fun r1 =>
        bif !r1.fst.fst then
          some ((true, ()), ())
        else
          F7c3 n (a1) (a0) := by kernel_rfl
theorem F7c3_eq (n : Nat) (x0 : List (Ex)) (x1 : Ex) : F7c3 (n + 1) x0 x1 =
  F7c4 n (x0) ((0 : Int)) (x1) := by kernel_rfl
theorem F7c4_eq (n : Nat) (x0 : List (Ex)) (x1 : Int) (x2 : Ex) : F7c4 (n + 1) x0 x1 x2 =
  bif decide (x1 < (↑x0.length : Int)) then
    if (0 : Int) ≤ x1 then
      if x1 < (↑x0.length : Int) then
        bif !decide ((x0.getD x1.toNat zEx).f_Type = (1 : Int)) then
          if (0 : Int) ≤ x1 then
            if x1 < (↑x0.length : Int) then
              bif !decide ((x0.getD x1.toNat zEx).f_Type = (0 : Int)) then
                some ((true, ()), ())
              else
                F7c4 n (x0) (IntKind.i64.wrap (x1 + (1 : Int))) (x2)
            else
              none
          else
            none
        else
          F7c4 n (x0) (IntKind.i64.wrap (x1 + (1 : Int))) (x2)
      else
        none
    else
      none
  else
    (R24 (x2, ())).bind fun r2 =>
      (R25 (x2, ())).bind fun r3 =>
        (F19.run [PK.v (Ty.nm (1 : Nat)).sl, PK.v (Ty.nm (1 : Nat)).sl] [RK.v Ty.bool] (4000000 : Nat) (r2.fst.fst, r3.fst.fst, ())).bind fun r4 =>
          bif r4.fst.fst then
            (F26.run [PK.v (Ty.nm (1 : Nat)).sl] [RK.v (Ty.nm (1 : Nat))] (4000000 : Nat) (x0, ())).bind fun r5 =>
              (F27.run [PK.v (Ty.nm (1 : Nat)).sl] [RK.v (Ty.nm (1 : Nat))] (4000000 : Nat) (x0, ())).bind fun r6 =>
                (R13 (r5.fst.fst, r6.fst.fst, ())).bind fun r7 =>
                  bif r7.fst.fst then
                    some ((true, ()), ())
                  else
                    some ((false, ()), ())
          else
            some ((false, ()), ()) := by kernel_rfl
end Go.Proofs.Tryz
