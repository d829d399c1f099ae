/- The functions of the program as the engine follows them (printed by a program of ours): their code, what is known of them, and the equations of their runs. -/
import Derived.Test.YtgfklnmckakclaaGreatDoorL40Awake
set_option linter.unusedVariables false
set_option maxRecDepth 20000
namespace Go.Proofs.Tryz
open Go.Eng
noncomputable def F8 : Eng.Fn NN := ⟨⟨(Eng.look tys), (lookS [(12, sp12), (19, sp19), (31, sp31), (30, sp30), (29, sp29), (28, sp28), (16, sp16), (11, sp11)]), Eng.look [(3, [1, 2]), (9, [9, 11]), (10, [9, 11, 13])], Eng.pinIds 0 [.v (.nm 1), .v (.sl (.nm 1))]⟩, Eng.bodyOf Go.Proofs.Tryz.f8, [.tmp 4], 80⟩
noncomputable def sp8 : Eng.Spec NN := F8.spec [.v (.nm 1), .v (.sl (.nm 1))] [.v (.bool)] 4000000
theorem good8 : Eng.Good prog 8 sp8 := Eng.good_fn (fn := f8) fits (by kernel_rfl) mixed (by kernel_rfl) (.cons good12 (.cons good19 (.cons good31 (.cons good30 (.cons good29 (.cons good28 (.cons good16 (.cons good11 .nil)))))))) (by kernel_rfl) (by kernel_rfl) (by kernel_rfl) (by kernel_rfl) (by kernel_rfl) (by kernel_rfl) (by kernel_rfl) (by kernel_rfl) (by kernel_rfl)
noncomputable def F8c3 (n : Nat) (x0 : List (Ex)) (x1 : Ex) := F8.at [.v (.nm 1), .v (.sl (.nm 1))] [.v (.bool)] n 3 ⟨[U, .one (.data (.sl (.nm 1)) x0 []), .one (.bptr 0 0), U, U, U, U, U, U, U, U, U, U, U, U, U, U, U, U, U, U, U, U, U, U, U, U, U, U, U, U, U, U, U, U, U, U, U, U, U, U, U, U, U, U, U, U, U, U, U, U, U, U, U, U, U, U, U, U, U, U, U, U, U, U, U, U, U, U, U, U, U, U, U, U, U, U, U, U, U], [(0, .whole (.nm 1) x1 [])]⟩
noncomputable def F8c9 (n : Nat) (x0 : List (Pred)) (x1 : List (Pred)) := F8.at [.v (.nm 1), .v (.sl (.nm 1))] [.v (.bool)] n 9 ⟨[U, U, U, U, U, U, U, U, U, .one (.own 0), U, .one (.own 1), U, U, U, U, U, U, U, U, U, U, U, U, U, U, U, U, U, U, U, U, U, U, U, U, U, U, U, U, U, U, U, U, U, U, U, U, U, U, U, U, U, U, U, U, U, U, U, U, U, U, U, U, U, U, U, U, U, U, U, U, U, U, U, U, U, U, U, U], [(0, .row 50 (.nm 3) x0 [] false), (1, .row 50 (.nm 3) x1 [] false)]⟩
noncomputable def F8c10 (n : Nat) (x0 : Int) (x1 : List (Pred)) (x2 : List (Pred)) := F8.at [.v (.nm 1), .v (.sl (.nm 1))] [.v (.bool)] n 10 ⟨[U, U, U, U, U, U, U, U, U, .one (.own 0), U, .one (.own 1), U, .one (.int .i64 x0), U, U, U, U, U, U, U, U, U, U, U, U, U, U, U, U, U, U, U, U, U, U, U, U, U, U, U, U, U, U, U, U, U, U, U, U, U, U, U, U, U, U, U, U, U, U, U, U, U, U, U, U, U, U, U, U, U, U, U, U, U, U, U, U, U, U], [(0, .row 50 (.nm 3) x1 [] false), (1, .row 50 (.nm 3) x2 [] false)]⟩
theorem F8_run (n : Nat) (a0 : Ex) (a1 : List (Ex)) : F8.run [.v (.nm 1), .v (.sl (.nm 1))] [.v (.bool)] n (a0, a1, ()) =
  (F11.run [PK.v (Ty.nm (1 : Nat))] [RK.v Ty.bool] (4000000 : Nat) (a0, ())).bind fun r0 =>
    bif !r0.fst.fst then
      some ((true, ()), ())
    else
      (F16.run [PK.v (Ty.nm (1 : Nat)).sl] [RK.v Ty.bool] (4000000 : Nat) (a1, ())).bind fun r1 =>
        bif !r1.fst.fst then
          some ((true, ()), ())
        else
          F8c3 n (a1) (a0) := by kernel_rfl
theorem F8c3_eq (n : Nat) (x0 : List (Ex)) (x1 : Ex) : F8c3 (n + 1) x0 x1 =
  (R28 (x1, ())).bind fun r2 =>
    (F29.run [PK.v (Ty.nm (1 : Nat))] [RK.v (Ty.nm (3 : Nat)), RK.v Ty.bool] (4000000 : Nat) (x1, ())).bind fun r3 =>
      (F30.run [PK.v (Ty.nm (1 : Nat)).sl] [RK.own (50 : TypeId) (Ty.nm (3 : Nat)), RK.own (27 : TypeId) (Ty.nm (1 : Nat))] (4000000 : Nat) (x0, ())).bind fun r4 =>
        (F31.run [PK.v (Ty.nm (1 : Nat)).sl] [RK.own (50 : TypeId) (Ty.nm (3 : Nat)), RK.own (27 : TypeId) (Ty.nm (1 : Nat))] (4000000 : Nat) (x0, ())).bind fun r5 =>
          bif !(decide (r2.fst.fst.column = r3.fst.fst.column) && (decide (r2.fst.fst.op = r3.fst.fst.op) && (decide (r2.fst.fst.value.kind = r3.fst.fst.value.kind) && (decide (r2.fst.fst.value.int = r3.fst.fst.value.int) && (decide (r2.fst.fst.value.text = r3.fst.fst.value.text) && true)) && true))) then
            some ((false, ()), ())
          else
            bif !decide (r2.fst.snd.fst = r3.fst.snd.fst) then
              some ((false, ()), ())
            else
              bif !decide ((↑(List.length r4.fst.fst) : Int) = (↑(List.length r5.fst.fst) : Int)) then
                some ((false, ()), ())
              else
                (F19.run [PK.v (Ty.nm (1 : Nat)).sl, PK.v (Ty.nm (1 : Nat)).sl] [RK.v Ty.bool] (4000000 : Nat) (r4.fst.snd.fst, r5.fst.snd.fst, ())).bind fun r6 =>
                  bif !r6.fst.fst then
                    some ((false, ()), ())
                  else
                    F8c9 n (r4.fst.fst) (r5.fst.fst) := by kernel_rfl
theorem F8c9_eq (n : Nat) (x0 : List (Pred)) (x1 : List (Pred)) : F8c9 (n + 1) x0 x1 =
  F8c10 n ((0 : Int)) (x0) (x1) := by kernel_rfl
theorem F8c10_eq (n : Nat) (x0 : Int) (x1 : List (Pred)) (x2 : List (Pred)) : F8c10 (n + 1) x0 x1 x2 =
  bif decide (x0 < (↑x1.length : Int)) then
    if (0 : Int) ≤ x0 then
      if x0 < (↑x1.length : Int) then
        if (0 : Int) ≤ x0 then
          if x0 < (↑x2.length : Int) then
            bif !(decide ((x1.getD x0.toNat zPred).column = (x2.getD x0.toNat zPred).column) && (decide ((x1.getD x0.toNat zPred).op = (x2.getD x0.toNat zPred).op) && (decide ((x1.getD x0.toNat zPred).value.kind = (x2.getD x0.toNat zPred).value.kind) && (decide ((x1.getD x0.toNat zPred).value.int = (x2.getD x0.toNat zPred).value.int) && (decide ((x1.getD x0.toNat zPred).value.text = (x2.getD x0.toNat zPred).value.text) && true)) && true))) then
              some ((false, ()), ())
            else
              F8c10 n (IntKind.i64.wrap (x0 + (1 : Int))) (x1) (x2)
          else
            none
        else
          none
      else
        none
    else
      none
  else
    some ((true, ()), ()) := by kernel_rfl
end Go.Proofs.Tryz
