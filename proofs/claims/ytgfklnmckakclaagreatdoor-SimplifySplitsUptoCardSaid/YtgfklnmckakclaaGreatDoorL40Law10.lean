/- The functions of the program as the engine follows them (printed by a program of ours): their code, what is known of them, and the equations of their runs. -/
import Derived.Test.YtgfklnmckakclaaGreatDoorL40Awake
set_option linter.unusedVariables false
set_option maxRecDepth 20000
namespace Go.Proofs.Tryz
open Go.Eng
noncomputable def F10 : Eng.Fn NN := ⟨⟨(Eng.look tys), (lookS [(12, sp12), (23, sp23), (37, sp37), (30, sp30), (22, sp22), (16, sp16)]), Eng.look [(3, [0, 1]), (6, [0, 1, 5, 6, 7, 8, 9]), (10, [0, 1, 5, 6, 7, 8, 10]), (14, [0, 1, 5, 6, 7, 8, 11])], Eng.pinIds 0 [.v (.sl (.nm 1)), .v (.sl (.nm 0))]⟩, Eng.bodyOf Go.Proofs.Tryz.f10, [.tmp 4], 87⟩
noncomputable def sp10 : Eng.Spec NN := F10.spec [.v (.sl (.nm 1)), .v (.sl (.nm 0))] [.v (.bool)] 4000000
theorem good10 : Eng.Good prog 10 sp10 := Eng.good_fn (fn := f10) fits (by kernel_rfl) mixed (by kernel_rfl) (.cons good12 (.cons good23 (.cons good37 (.cons good30 (.cons good22 (.cons good16 .nil)))))) (by kernel_rfl) (by kernel_rfl) (by kernel_rfl) (by kernel_rfl) (by kernel_rfl) (by kernel_rfl) (by kernel_rfl) (by kernel_rfl) (by kernel_rfl)
noncomputable def F10c3 (n : Nat) (x0 : List (Ex)) (x1 : List (Val)) := F10.at [.v (.sl (.nm 1)), .v (.sl (.nm 0))] [.v (.bool)] n 3 ⟨[.one (.data (.sl (.nm 1)) x0 []), .one (.data (.sl (.nm 0)) x1 []), U, U, U, U, U, U, U, U, U, U, U, U, U, U, U, U, U, U, U, U, U, U, U, U, U, U, U, U, U, U, U, U, U, U, U, U, U, U, U, U, U, U, U, U, U, U, U, U, U, U, U, U, U, U, U, U, U, U, U, U, U, U, U, U, U, U, U, U, U, U, U, U, U, U, U, U, U, U, U, U, U, U, U, U, U], []⟩
noncomputable def F10c6 (n : Nat) (x0 : List (Ex)) (x1 : List (Val)) (x2 : Bool) (x3 : Bool) (x4 : Int) (x5 : List (Pred)) (x6 : List (Ex)) := F10.at [.v (.sl (.nm 1)), .v (.sl (.nm 0))] [.v (.bool)] n 6 ⟨[.one (.data (.sl (.nm 1)) x0 []), .one (.data (.sl (.nm 0)) x1 []), U, U, U, .one (.own 0), .one (.own 1), .one (.bool x2), .one (.bool x3), .one (.int .i64 x4), U, U, U, U, U, U, U, U, U, U, U, U, U, U, U, U, U, U, U, U, U, U, U, U, U, U, U, U, U, U, U, U, U, U, U, U, U, U, U, U, U, U, U, U, U, U, U, U, U, U, U, U, U, U, U, U, U, U, U, U, U, U, U, U, U, U, U, U, U, U, U, U, U, U, U, U, U], [(0, .row 50 (.nm 3) x5 [] false), (1, .row 27 (.nm 1) x6 [] false)]⟩
noncomputable def F10c10 (n : Nat) (x0 : List (Ex)) (x1 : List (Val)) (x2 : Bool) (x3 : Bool) (x4 : Int) (x5 : List (Pred)) (x6 : List (Ex)) := F10.at [.v (.sl (.nm 1)), .v (.sl (.nm 0))] [.v (.bool)] n 10 ⟨[.one (.data (.sl (.nm 1)) x0 []), .one (.data (.sl (.nm 0)) x1 []), U, U, U, .one (.own 0), .one (.own 1), .one (.bool x2), .one (.bool x3), U, .one (.int .i64 x4), U, U, U, U, U, U, U, U, U, U, U, U, U, U, U, U, U, U, U, U, U, U, U, U, U, U, U, U, U, U, U, U, U, U, U, U, U, U, U, U, U, U, U, U, U, U, U, U, U, U, U, U, U, U, U, U, U, U, U, U, U, U, U, U, U, U, U, U, U, U, U, U, U, U, U, U], [(0, .row 50 (.nm 3) x5 [] false), (1, .row 27 (.nm 1) x6 [] false)]⟩
noncomputable def F10c14 (n : Nat) (x0 : List (Ex)) (x1 : List (Val)) (x2 : Bool) (x3 : Bool) (x4 : Int) (x5 : List (Pred)) (x6 : List (Ex)) := F10.at [.v (.sl (.nm 1)), .v (.sl (.nm 0))] [.v (.bool)] n 14 ⟨[.one (.data (.sl (.nm 1)) x0 []), .one (.data (.sl (.nm 0)) x1 []), U, U, U, .one (.own 0), .one (.own 1), .one (.bool x2), .one (.bool x3), U, U, .one (.int .i64 x4), U, U, U, U, U, U, U, U, U, U, U, U, U, U, U, U, U, U, U, U, U, U, U, U, U, U, U, U, U, U, U, U, U, U, U, U, U, U, U, U, U, U, U, U, U, U, U, U, U, U, U, U, U, U, U, U, U, U, U, U, U, U, U, U, U, U, U, U, U, U, U, U, U, U, U], [(0, .row 50 (.nm 3) x5 [] false), (1, .row 27 (.nm 1) x6 [] false)]⟩
theorem F10_run (n : Nat) (a0 : List (Ex)) (a1 : List (Val)) : F10.run [.v (.sl (.nm 1)), .v (.sl (.nm 0))] [.v (.bool)] n (a0, a1, ()) =
  (F16.run [PK.v (Ty.nm (1 : Nat)).sl] [RK.v Ty.bool] (4000000 : Nat) (a0, ())).bind fun r0 =>
    bif !r0.fst.fst then
      some ((true, ()), ())
    else
      (F22.run [PK.v (Ty.nm (0 : Nat)).sl] [RK.v Ty.bool] (4000000 : Nat) (a1, ())).bind fun r1 =>
        bif !r1.fst.fst then
          some ((true, ()), ())
        else
          F10c3 n (a0) (a1) := by kernel_rfl
theorem F10c3_eq (n : Nat) (x0 : List (Ex)) (x1 : List (Val)) : F10c3 (n + 1) x0 x1 =
  (F30.run [PK.v (Ty.nm (1 : Nat)).sl] [RK.own (50 : TypeId) (Ty.nm (3 : Nat)), RK.own (27 : TypeId) (Ty.nm (1 : Nat))] (4000000 : Nat) (x0, ())).bind fun r2 =>
    F10c6 n (x0) (x1) (true) (true) ((0 : Int)) (r2.fst.fst) (r2.fst.snd.fst) := by kernel_rfl
theorem F10c6_eq (n : Nat) (x0 : List (Ex)) (x1 : List (Val)) (x2 : Bool) (x3 : Bool) (x4 : Int) (x5 : List (Pred)) (x6 : List (Ex)) : F10c6 (n + 1) x0 x1 x2 x3 x4 x5 x6 =
  bif decide (x4 < (↑x0.length : Int)) then
    bif x2 then
      if (0 : Int) ≤ x4 then
        if x4 < (↑x0.length : Int) then
          (F23.run [PK.v (Ty.nm (1 : Nat)), PK.v (Ty.nm (0 : Nat)).sl] [RK.v Ty.bool] (4000000 : Nat) (x0.getD x4.toNat zEx, x1, ())).bind fun r3 =>
            F10c6 n (x0) (x1) (r3.fst.fst) (x3) (IntKind.i64.wrap (x4 + (1 : Int))) (x5) (x6)
        else
          none
      else
        none
    else
      F10c6 n (x0) (x1) (false) (x3) (IntKind.i64.wrap (x4 + (1 : Int))) (x5) (x6)
  else
    F10c10 n (x0) (x1) (x2) (x3) ((0 : Int)) (x5) (x6) := by kernel_rfl
theorem F10c10_eq (n : Nat) (x0 : List (Ex)) (x1 : List (Val)) (x2 : Bool) (x3 : Bool) (x4 : Int) (x5 : List (Pred)) (x6 : List (Ex)) : F10c10 (n + 1) x0 x1 x2 x3 x4 x5 x6 =
  bif decide (x4 < (↑x5.length : Int)) then
    bif x3 then
      if (0 : Int) ≤ x4 then
        if x4 < (↑x5.length : Int) then
          (F37.run [PK.v (Ty.nm (3 : Nat)), PK.v (Ty.nm (0 : Nat)).sl] [RK.v Ty.bool] (4000000 : Nat) (x5.getD x4.toNat zPred, x1, ())).bind fun r4 =>
            F10c10 n (x0) (x1) (x2) (r4.fst.fst) (IntKind.i64.wrap (x4 + (1 : Int))) (x5) (x6)
        else
          none
      else
        none
    else
      F10c10 n (x0) (x1) (x2) (false) (IntKind.i64.wrap (x4 + (1 : Int))) (x5) (x6)
  else
    F10c14 n (x0) (x1) (x2) (x3) ((0 : Int)) (x5) (x6) := by kernel_rfl
theorem F10c14_eq (n : Nat) (x0 : List (Ex)) (x1 : List (Val)) (x2 : Bool) (x3 : Bool) (x4 : Int) (x5 : List (Pred)) (x6 : List (Ex)) : F10c14 (n + 1) x0 x1 x2 x3 x4 x5 x6 =
  bif decide (x4 < (↑x6.length : Int)) then
    bif x3 then
      if (0 : Int) ≤ x4 then
        if x4 < (↑x6.length : Int) then
          (F23.run [PK.v (Ty.nm (1 : Nat)), PK.v (Ty.nm (0 : Nat)).sl] [RK.v Ty.bool] (4000000 : Nat) (x6.getD x4.toNat zEx, x1, ())).bind fun r5 =>
            F10c14 n (x0) (x1) (x2) (r5.fst.fst) (IntKind.i64.wrap (x4 + (1 : Int))) (x5) (x6)
        else
          none
      else
        none
    else
      F10c14 n (x0) (x1) (x2) (false) (IntKind.i64.wrap (x4 + (1 : Int))) (x5) (x6)
  else
    bif decide (x2 = x3) then
      bif decide (IntKind.i64.wrap ((↑x5.length : Int) + (↑x6.length : Int)) = (↑x0.length : Int)) then
        some ((true, ()), ())
      else
        some ((false, ()), ())
    else
      some ((false, ()), ()) := by kernel_rfl
end Go.Proofs.Tryz
