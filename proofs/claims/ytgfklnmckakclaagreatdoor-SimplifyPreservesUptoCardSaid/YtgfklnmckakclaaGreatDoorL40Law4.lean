/- The functions of the program as the engine follows them (printed by a program of ours): their code, what is known of them, and the equations of their runs. -/
import Derived.Test.YtgfklnmckakclaaGreatDoorL40Awake
set_option linter.unusedVariables false
set_option maxRecDepth 20000
namespace Go.Proofs.Tryz
open Go.Eng
noncomputable def F4 : Eng.Fn NN := ⟨⟨(Eng.look tys), (lookS [(12, sp12), (19, sp19), (18, sp18), (17, sp17), (16, sp16)]), Eng.look [(7, [5, 7]), (8, [5, 7, 9])], Eng.pinIds 0 [.v (.sl (.nm 1)), .v (.int .i64)]⟩, Eng.bodyOf Go.Proofs.Tryz.f4, [.tmp 4], 53⟩
noncomputable def sp4 : Eng.Spec NN := F4.spec [.v (.sl (.nm 1)), .v (.int .i64)] [.v (.bool)] 4000000
theorem good4 : Eng.Good prog 4 sp4 := Eng.good_fn (fn := f4) fits (by kernel_rfl) mixed (by kernel_rfl) (.cons good12 (.cons good19 (.cons good18 (.cons good17 (.cons good16 .nil))))) (by kernel_rfl) (by kernel_rfl) (by kernel_rfl) (by kernel_rfl) (by kernel_rfl) (by kernel_rfl) (by kernel_rfl) (by kernel_rfl) (by kernel_rfl)
noncomputable def F4c7 (n : Nat) (x0 : List (Pair)) (x1 : List (Pair)) := F4.at [.v (.sl (.nm 1)), .v (.int .i64)] [.v (.bool)] n 7 ⟨[U, U, U, U, U, .one (.own 0), U, .one (.own 1), U, U, U, U, U, U, U, U, U, U, U, U, U, U, U, U, U, U, U, U, U, U, U, U, U, U, U, U, U, U, U, U, U, U, U, U, U, U, U, U, U, U, U, U, U], [(0, .row 37 (.nm 2) x0 [] false), (1, .row 37 (.nm 2) x1 [] false)]⟩
noncomputable def F4c8 (n : Nat) (x0 : Int) (x1 : List (Pair)) (x2 : List (Pair)) := F4.at [.v (.sl (.nm 1)), .v (.int .i64)] [.v (.bool)] n 8 ⟨[U, U, U, U, U, .one (.own 0), U, .one (.own 1), U, .one (.int .i64 x0), U, U, U, U, U, U, U, U, U, U, U, U, U, U, U, U, U, U, U, U, U, U, U, U, U, U, U, U, U, U, U, U, U, U, U, U, U, U, U, U, U, U, U], [(0, .row 37 (.nm 2) x1 [] false), (1, .row 37 (.nm 2) x2 [] false)]⟩
theorem F4_run (n : Nat) (a0 : List (Ex)) (a1 : Int) : F4.run [.v (.sl (.nm 1)), .v (.int .i64)] [.v (.bool)] n (a0, a1, ()) =
  (F16.run [PK.v (Ty.nm (1 : Nat)).sl] [RK.v Ty.bool] (4000000 : Nat) (a0, ())).bind fun r0 =>
    bif !r0.fst.fst then
      some ((true, ()), ())
    else
      (F17.run [PK.v (Ty.nm (1 : Nat)).sl, PK.v (Ty.int IntKind.i64)] [RK.own (37 : TypeId) (Ty.nm (2 : Nat)), RK.own (27 : TypeId) (Ty.nm (1 : Nat))] (4000000 : Nat) (a0, a1, ())).bind fun r1 =>
        (F18.run [PK.v (Ty.nm (1 : Nat)).sl, PK.v (Ty.int IntKind.i64)] [RK.own (37 : TypeId) (Ty.nm (2 : Nat)), RK.own (27 : TypeId) (Ty.nm (1 : Nat))] (4000000 : Nat) (a0, a1, ())).bind fun r2 =>
          bif !decide ((↑(List.length r1.fst.fst) : Int) = (↑(List.length r2.fst.fst) : Int)) then
            some ((false, ()), ())
          else
            (F19.run [PK.v (Ty.nm (1 : Nat)).sl, PK.v (Ty.nm (1 : Nat)).sl] [RK.v Ty.bool] (4000000 : Nat) (r1.fst.snd.fst, r2.fst.snd.fst, ())).bind fun r3 =>
              bif !r3.fst.fst then
                some ((false, ()), ())
              else
                F4c7 n (r1.fst.fst) (r2.fst.fst) := by kernel_rfl
theorem F4c7_eq (n : Nat) (x0 : List (Pair)) (x1 : List (Pair)) : F4c7 (n + 1) x0 x1 =
  F4c8 n ((0 : Int)) (x0) (x1) := by kernel_rfl
theorem F4c8_eq (n : Nat) (x0 : Int) (x1 : List (Pair)) (x2 : List (Pair)) : F4c8 (n + 1) x0 x1 x2 =
  bif decide (x0 < (↑x1.length : Int)) then
    if (0 : Int) ≤ x0 then
      if x0 < (↑x1.length : Int) then
        if (0 : Int) ≤ x0 then
          if x0 < (↑x2.length : Int) then
            bif !(decide ((x1.getD x0.toNat zPair).e0 = (x2.getD x0.toNat zPair).e0) && (decide ((x1.getD x0.toNat zPair).e1 = (x2.getD x0.toNat zPair).e1) && true)) then
              some ((false, ()), ())
            else
              F4c8 n (IntKind.i64.wrap (x0 + (1 : Int))) (x1) (x2)
          else
            none
        else
          none
      else
        none
    else
      none
  else
    some ((true, ()), ()) := by kernel_rfl
end Go.Proofs.Tryz
