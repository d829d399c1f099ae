/- The functions of the program as the engine follows them (printed by a program of ours): their code, what is known of them, and the equations of their runs. -/
import Derived.Test.YtgfklnmckakclaaGreatDoorL40Fns
set_option linter.unusedVariables false
set_option maxRecDepth 20000
namespace Go.Proofs.Tryz
open Go.Eng
theorem F57_run (n : Nat) (a0 : Int) : F57.run [.v (.int .i64)] [.v (.int .i64)] n (a0, ()) =
  bif decide (a0 = (3 : Int)) then
    some (((5 : Int), ()), ())
  else
    bif decide (a0 = (5 : Int)) then
      some (((3 : Int), ()), ())
    else
      bif decide (a0 = (4 : Int)) then
        some (((6 : Int), ()), ())
      else
        bif decide (a0 = (6 : Int)) then
          some (((4 : Int), ()), ())
        else
          some ((a0, ()), ()) := by kernel_rfl
theorem F56_run (n : Nat) (a0 : Ex) : F56.run [.v (.nm 1)] [.v (.bool)] n (a0, ()) =
  some ((decide (a0.kind = (1 : Int)), ()), ()) := by kernel_rfl
theorem F55_run (n : Nat) (a0 : Int) : F55.run [.v (.int .i64)] [.v (.bool)] n (a0, ()) =
  bif decide ((1 : Int) ≤ a0) then
    some ((decide (a0 ≤ (6 : Int)), ()), ())
  else
    some ((false, ()), ()) := by kernel_rfl
noncomputable def F28c7 (g28 : G28) (n : Nat) (x0 : Pred) (x1 : Pred) := (F28 g28).at [.v (.nm 1)] [.v (.nm 3), .v (.bool)] n 7 ⟨[U, U, .one (.bptr 0 0), U, .one (.bptr 1 0), U, U, U, U, U, U, U, U, U, U, U, U, U, U, U, U, U, U, U, U, U, U, U, U, U, U, U, U, U, U, U, U, U, U, U, U, U, U, U, U, U, U, U, U, U, U, U, U, U, U, U, U, U, U, U, U, U, U, U, U, U, U, U, U, U, U, U, U, U, U, U, U, U, U, U, U, U, U, U, U, U, U, U, U, U, U, U, U, U, U, U, U, U, U], [(0, .whole (.nm 3) x0 []), (1, .whole (.nm 3) x1 [])]⟩
noncomputable def F28c11 (g28 : G28) (n : Nat) (x0 : Ex) (x1 : Pred) := (F28 g28).at [.v (.nm 1)] [.v (.nm 3), .v (.bool)] n 11 ⟨[U, .one (.bptr 0 0), .one (.bptr 1 0), U, U, U, U, U, U, U, U, U, U, U, U, U, U, U, U, U, U, U, U, U, U, U, U, U, U, U, U, U, U, U, U, U, U, U, U, U, U, U, U, U, U, U, U, U, U, U, U, U, U, U, U, U, U, U, U, U, U, U, U, U, U, U, U, U, U, U, U, U, U, U, U, U, U, U, U, U, U, U, U, U, U, U, U, U, U, U, U, U, U, U, U, U, U, U, U], [(0, .whole (.nm 1) x0 []), (1, .whole (.nm 3) x1 [])]⟩
noncomputable def F28c16 (g28 : G28) (n : Nat) (x0 : Pred) := (F28 g28).at [.v (.nm 1)] [.v (.nm 3), .v (.bool)] n 16 ⟨[U, U, .one (.bptr 0 0), U, U, U, U, U, U, U, U, U, U, U, U, U, U, U, U, U, U, U, U, U, U, U, U, U, U, U, U, U, U, U, U, U, U, U, U, U, U, U, U, U, U, U, U, U, U, U, U, U, U, U, U, U, U, U, U, U, U, U, U, U, U, U, U, U, U, U, U, U, U, U, U, U, U, U, U, U, U, U, U, U, U, U, U, U, U, U, U, U, U, U, U, U, U, U, U], [(0, .whole (.nm 3) x0 [])]⟩
theorem F28_run (g28 : G28) (n : Nat) (a0 : Ex) : (F28 g28).run [.v (.nm 1)] [.v (.nm 3), .v (.bool)] n (a0, ()) =
  bif decide (a0.kind = (6 : Int)) then
    if (0 : Int) < (↑a0.args.length : Int) then
      bif decide ((a0.args.getD (Int.toNat (0 : Int)) zEx).kind = (2 : Int)) then
        if (0 : Int) < (↑a0.args.length : Int) then
          some (({ column := (a0.args.getD (Int.toNat (0 : Int)) zEx).slot, op := (20 : Int), value := zVal : Pred }, (true, ())), ())
        else
          none
      else
        bif decide (a0.kind = (3 : Int)) then
          if (0 : Int) < (↑a0.args.length : Int) then
            (g28 (a0.args.getD (Int.toNat (0 : Int)) zEx, ())).bind fun r0 =>
              bif !r0.fst.snd.fst then
                some ((zPred, (false, ())), ())
              else
                bif !decide (r0.fst.fst.op = (20 : Int)) then
                  some ((zPred, (false, ())), ())
                else
                  F28c7 g28 n (zPred) (r0.fst.fst)
          else
            none
        else
          bif !decide (a0.kind = (5 : Int)) then
            some ((zPred, (false, ())), ())
          else
            (F55.run [PK.v (Ty.int IntKind.i64)] [RK.v Ty.bool] (4000000 : Nat) (a0.op, ())).bind fun r1 =>
              bif !r1.fst.fst then
                some ((zPred, (false, ())), ())
              else
                F28c11 g28 n (a0) (zPred)
    else
      none
  else
    bif decide (a0.kind = (3 : Int)) then
      if (0 : Int) < (↑a0.args.length : Int) then
        (g28 (a0.args.getD (Int.toNat (0 : Int)) zEx, ())).bind fun r2 =>
          bif !r2.fst.snd.fst then
            some ((zPred, (false, ())), ())
          else
            bif !decide (r2.fst.fst.op = (20 : Int)) then
              some ((zPred, (false, ())), ())
            else
              F28c7 g28 n (zPred) (r2.fst.fst)
      else
        none
    else
      bif !decide (a0.kind = (5 : Int)) then
        some ((zPred, (false, ())), ())
      else
        (F55.run [PK.v (Ty.int IntKind.i64)] [RK.v Ty.bool] (4000000 : Nat) (a0.op, ())).bind fun r3 =>
          bif !r3.fst.fst then
            some ((zPred, (false, ())), ())
          else
            F28c11 g28 n (a0) (zPred) := by kernel_rfl
theorem F28c7_eq (g28 : G28) (n : Nat) (x0 : Pred) (x1 : Pred) : F28c7 g28 (n + 1) x0 x1 =
  some (({ column := x1.column, op := (21 : Int), value := x1.value : Pred }, (true, ())), ()) := by kernel_rfl
theorem F28c11_eq (g28 : G28) (n : Nat) (x0 : Ex) (x1 : Pred) : F28c11 g28 (n + 1) x0 x1 =
  if (0 : Int) < (↑x0.args.length : Int) then
    if (1 : Int) < (↑x0.args.length : Int) then
      bif decide ((x0.args.getD (Int.toNat (0 : Int)) zEx).kind = (2 : Int)) then
        (F56.run [PK.v (Ty.nm (1 : Nat))] [RK.v Ty.bool] (4000000 : Nat) (x0.args.getD (Int.toNat (1 : Int)) zEx, ())).bind fun r4 =>
          bif r4.fst.fst then
            some (({ column := (x0.args.getD (Int.toNat (0 : Int)) zEx).slot, op := x0.op, value := (x0.args.getD (Int.toNat (1 : Int)) zEx).value : Pred }, (true, ())), ())
          else
            (F56.run [PK.v (Ty.nm (1 : Nat))] [RK.v Ty.bool] (4000000 : Nat) (x0.args.getD (Int.toNat (0 : Int)) zEx, ())).bind fun r5 =>
              bif r5.fst.fst then
                bif decide ((x0.args.getD (Int.toNat (1 : Int)) zEx).kind = (2 : Int)) then
                  (F57.run [PK.v (Ty.int IntKind.i64)] [RK.v (Ty.int IntKind.i64)] (4000000 : Nat) (x0.op, ())).bind fun r6 =>
                    some (({ column := (x0.args.getD (Int.toNat (1 : Int)) zEx).slot, op := r6.fst.fst, value := (x0.args.getD (Int.toNat (0 : Int)) zEx).value : Pred }, (true, ())), ())
                else
                  F28c16 g28 n (x1)
              else
                F28c16 g28 n (x1)
      else
        (F56.run [PK.v (Ty.nm (1 : Nat))] [RK.v Ty.bool] (4000000 : Nat) (x0.args.getD (Int.toNat (0 : Int)) zEx, ())).bind fun r7 =>
          bif r7.fst.fst then
            bif decide ((x0.args.getD (Int.toNat (1 : Int)) zEx).kind = (2 : Int)) then
              (F57.run [PK.v (Ty.int IntKind.i64)] [RK.v (Ty.int IntKind.i64)] (4000000 : Nat) (x0.op, ())).bind fun r8 =>
                some (({ column := (x0.args.getD (Int.toNat (1 : Int)) zEx).slot, op := r8.fst.fst, value := (x0.args.getD (Int.toNat (0 : Int)) zEx).value : Pred }, (true, ())), ())
            else
              F28c16 g28 n (x1)
          else
            F28c16 g28 n (x1)
    else
      none
  else
    none := by kernel_rfl
theorem F28c16_eq (g28 : G28) (n : Nat) (x0 : Pred) : F28c16 g28 (n + 1) x0 =
  some ((zPred, (false, ())), ()) := by kernel_rfl
theorem F59_run (n : Nat) (a0 : Int) : F59.run [.v (.int .i64)] [.v (.int .i64)] n (a0, ()) =
  bif decide (a0 = (3 : Int)) then
    some (((5 : Int), ()), ())
  else
    bif decide (a0 = (4 : Int)) then
      some (((6 : Int), ()), ())
    else
      bif decide (a0 = (5 : Int)) then
        some (((3 : Int), ()), ())
      else
        bif decide (a0 = (6 : Int)) then
          some (((4 : Int), ()), ())
        else
          some ((a0, ()), ()) := by kernel_rfl
theorem F58_run (n : Nat) (a0 : Ex) : F58.run [.v (.nm 1)] [.v (.int .i64), .v (.bool)] n (a0, ()) =
  bif decide (a0.kind = (6 : Int)) then
    if (0 : Int) < (↑a0.args.length : Int) then
      bif decide ((a0.args.getD (Int.toNat (0 : Int)) zEx).kind = (2 : Int)) then
        if (0 : Int) < (↑a0.args.length : Int) then
          some (((a0.args.getD (Int.toNat (0 : Int)) zEx).slot, (true, ())), ())
        else
          none
      else
        some (((0 : Int), (false, ())), ())
    else
      none
  else
    some (((0 : Int), (false, ())), ()) := by kernel_rfl
noncomputable def F29c8 (n : Nat) (x0 : Ex) (x1 : Pred) := F29.at [.v (.nm 1)] [.v (.nm 3), .v (.bool)] n 8 ⟨[U, .one (.bptr 0 0), .one (.bptr 1 0), U, U, U, U, U, U, U, U, U, U, U, U, U, U, U, U, U, U, U, U, U, U, U, U, U, U, U, U, U, U, U, U, U, U, U, U, U, U, U, U, U, U, U, U, U, U, U, U, U, U, U, U, U, U, U, U, U, U, U, U, U, U, U, U, U, U, U, U, U, U, U, U, U, U, U, U, U, U, U, U, U], [(0, .whole (.nm 1) x0 []), (1, .whole (.nm 3) x1 [])]⟩
noncomputable def F29c10 (n : Nat) (x0 : Ex) (x1 : Pred) := F29.at [.v (.nm 1)] [.v (.nm 3), .v (.bool)] n 10 ⟨[U, .one (.bptr 0 0), .one (.bptr 1 0), U, U, U, U, U, U, U, U, U, U, U, U, U, U, U, U, U, U, U, U, U, U, U, U, U, U, U, U, U, U, U, U, U, U, U, U, U, U, U, U, U, U, U, U, U, U, U, U, U, U, U, U, U, U, U, U, U, U, U, U, U, U, U, U, U, U, U, U, U, U, U, U, U, U, U, U, U, U, U, U, U], [(0, .whole (.nm 1) x0 []), (1, .whole (.nm 3) x1 [])]⟩
noncomputable def F29c13 (n : Nat) (x0 : Ex) (x1 : Pred) (x2 : Ex) (x3 : Ex) := F29.at [.v (.nm 1)] [.v (.nm 3), .v (.bool)] n 13 ⟨[U, .one (.bptr 0 0), .one (.bptr 1 0), U, U, U, .one (.bptr 2 0), .one (.bptr 3 0), U, U, U, U, U, U, U, U, U, U, U, U, U, U, U, U, U, U, U, U, U, U, U, U, U, U, U, U, U, U, U, U, U, U, U, U, U, U, U, U, U, U, U, U, U, U, U, U, U, U, U, U, U, U, U, U, U, U, U, U, U, U, U, U, U, U, U, U, U, U, U, U, U, U, U, U], [(0, .whole (.nm 1) x0 []), (1, .whole (.nm 3) x1 []), (2, .whole (.nm 1) x2 []), (3, .whole (.nm 1) x3 [])]⟩
theorem F29_run (n : Nat) (a0 : Ex) : F29.run [.v (.nm 1)] [.v (.nm 3), .v (.bool)] n (a0, ()) =
  (F58.run [PK.v (Ty.nm (1 : Nat))] [RK.v (Ty.int IntKind.i64), RK.v Ty.bool] (4000000 : Nat) (a0, ())).bind fun r0 =>
    bif r0.fst.snd.fst then
      some (({ column := r0.fst.fst, op := (20 : Int), value := zVal : Pred }, (true, ())), ())
    else
      bif decide (a0.kind = (3 : Int)) then
        if (0 : Int) < (↑a0.args.length : Int) then
          (F58.run [PK.v (Ty.nm (1 : Nat))] [RK.v (Ty.int IntKind.i64), RK.v Ty.bool] (4000000 : Nat) (a0.args.getD (Int.toNat (0 : Int)) zEx, ())).bind fun r1 =>
            bif r1.fst.snd.fst then
              some (({ column := r1.fst.fst, op := (21 : Int), value := zVal : Pred }, (true, ())), ())
            else
              F29c8 n (a0) (zPred)
        else
          none
      else
        F29c8 n (a0) (zPred) := by kernel_rfl
theorem F29c8_eq (n : Nat) (x0 : Ex) (x1 : Pred) : F29c8 (n + 1) x0 x1 =
  bif !decide (x0.kind = (5 : Int)) then
    some ((zPred, (false, ())), ())
  else
    bif decide (x0.op < (1 : Int)) then
      some ((zPred, (false, ())), ())
    else
      bif decide ((6 : Int) < x0.op) then
        some ((zPred, (false, ())), ())
      else
        F29c10 n (x0) (x1) := by kernel_rfl
theorem F29c10_eq (n : Nat) (x0 : Ex) (x1 : Pred) : F29c10 (n + 1) x0 x1 =
  if (0 : Int) < (↑x0.args.length : Int) then
    if (1 : Int) < (↑x0.args.length : Int) then
      bif decide ((x0.args.getD (Int.toNat (0 : Int)) zEx).kind = (2 : Int)) then
        bif decide ((x0.args.getD (Int.toNat (1 : Int)) zEx).kind = (1 : Int)) then
          some (({ column := (x0.args.getD (Int.toNat (0 : Int)) zEx).slot, op := x0.op, value := (x0.args.getD (Int.toNat (1 : Int)) zEx).value : Pred }, (true, ())), ())
        else
          F29c13 n (x0) (x1) (x0.args.getD (Int.toNat (0 : Int)) zEx) (x0.args.getD (Int.toNat (1 : Int)) zEx)
      else
        F29c13 n (x0) (x1) (x0.args.getD (Int.toNat (0 : Int)) zEx) (x0.args.getD (Int.toNat (1 : Int)) zEx)
    else
      none
  else
    none := by kernel_rfl
theorem F29c13_eq (n : Nat) (x0 : Ex) (x1 : Pred) (x2 : Ex) (x3 : Ex) : F29c13 (n + 1) x0 x1 x2 x3 =
  bif decide (x2.kind = (1 : Int)) then
    bif decide (x3.kind = (2 : Int)) then
      (F59.run [PK.v (Ty.int IntKind.i64)] [RK.v (Ty.int IntKind.i64)] (4000000 : Nat) (x0.op, ())).bind fun r2 =>
        some (({ column := x3.slot, op := r2.fst.fst, value := x2.value : Pred }, (true, ())), ())
    else
      some ((zPred, (false, ())), ())
  else
    some ((zPred, (false, ())), ()) := by kernel_rfl
noncomputable def F31c1 (n : Nat) (x0 : List (Ex)) := F31.at [.v (.sl (.nm 1))] [.own 50 (.nm 3), .own 27 (.nm 1)] n 1 ⟨[.one (.data (.sl (.nm 1)) x0 []), U, U, U, U, U, U, U, U, U, U, U, U, U, U, U, U, U, U, U, U, U, U, U, U, U, U, U, U, U, U, U, U, U, U, U, U], []⟩
noncomputable def F31c4 (n : Nat) (x0 : List (Ex)) (x1 : Int) (x2 : List (Pred)) (x3 : List (Ex)) := F31.at [.v (.sl (.nm 1))] [.own 50 (.nm 3), .own 27 (.nm 1)] n 4 ⟨[.one (.data (.sl (.nm 1)) x0 []), U, U, U, .one (.own 0), .one (.own 1), .one (.int .i64 x1), U, U, U, U, U, U, U, U, U, U, U, U, U, U, U, U, U, U, U, U, U, U, U, U, U, U, U, U, U, U], [(0, .row 50 (.nm 3) x2 [] false), (1, .row 27 (.nm 1) x3 [] false)]⟩
theorem F31_run (n : Nat) (a0 : List (Ex)) : F31.run [.v (.sl (.nm 1))] [.own 50 (.nm 3), .own 27 (.nm 1)] n (a0, ()) =
  F31c1 n (a0) := by kernel_rfl
theorem F31c1_eq (n : Nat) (x0 : List (Ex)) : F31c1 (n + 1) x0 =
  F31c4 n (x0) ((0 : Int)) ([]) ([]) := by kernel_rfl
theorem F31c4_eq (n : Nat) (x0 : List (Ex)) (x1 : Int) (x2 : List (Pred)) (x3 : List (Ex)) : F31c4 (n + 1) x0 x1 x2 x3 =
  bif decide (x1 < (↑x0.length : Int)) then
    if (0 : Int) ≤ x1 then
      if x1 < (↑x0.length : Int) then
        (F29.run [PK.v (Ty.nm (1 : Nat))] [RK.v (Ty.nm (3 : Nat)), RK.v Ty.bool] (4000000 : Nat) (x0.getD x1.toNat zEx, ())).bind fun r0 =>
          bif r0.fst.snd.fst then
            if x2.length + (1 : Nat) ≤ lim then
              F31c4 n (x0) (IntKind.i64.wrap (x1 + (1 : Int))) (x2 ++ ([r0.fst.fst] : List (Pred))) (x3)
            else
              none
          else
            if (0 : Int) ≤ x1 then
              if x1 < (↑x0.length : Int) then
                if x3.length + (1 : Nat) ≤ lim then
                  F31c4 n (x0) (IntKind.i64.wrap (x1 + (1 : Int))) (x2) (x3 ++ [x0.getD x1.toNat zEx])
                else
                  none
              else
                none
            else
              none
      else
        none
    else
      none
  else
    some ((x2, (x3, ())), ()) := by kernel_rfl
noncomputable def F30c1 (n : Nat) (x0 : List (Ex)) (x1 : List (Pred)) (x2 : List (Ex)) := F30.at [.v (.sl (.nm 1))] [.own 50 (.nm 3), .own 27 (.nm 1)] n 1 ⟨[.one (.data (.sl (.nm 1)) x0 []), U, .one (.own 0), .one (.own 1), U, U, U, U, U, U, U, U, U, U, U, U, U, U, U, U, U, U, U, U, U, U, U, U, U, U, U], [(0, .row 50 (.nm 3) x1 [] false), (1, .row 27 (.nm 1) x2 [] false)]⟩
noncomputable def F30c2 (n : Nat) (x0 : List (Ex)) (x1 : Int) (x2 : Int) (x3 : List (Pred)) (x4 : List (Ex)) := F30.at [.v (.sl (.nm 1))] [.own 50 (.nm 3), .own 27 (.nm 1)] n 2 ⟨[U, U, .one (.own 0), .one (.own 1), U, U, U, U, .one (.data (.sl (.nm 1)) x0 []), .one (.int .i64 x1), .one (.int .i64 x2), U, U, U, U, U, U, U, U, U, U, U, U, U, U, U, U, U, U, U, U], [(0, .row 50 (.nm 3) x3 [] false), (1, .row 27 (.nm 1) x4 [] false)]⟩
theorem F30_run (n : Nat) (a0 : List (Ex)) : F30.run [.v (.sl (.nm 1))] [.own 50 (.nm 3), .own 27 (.nm 1)] n (a0, ()) =
  F30c1 n (a0) ([]) ([]) := by kernel_rfl
theorem F30c1_eq (n : Nat) (x0 : List (Ex)) (x1 : List (Pred)) (x2 : List (Ex)) : F30c1 (n + 1) x0 x1 x2 =
  F30c2 n (x0) ((↑x0.length : Int)) ((0 : Int)) (x1) (x2) := by kernel_rfl
theorem F30c2_eq (n : Nat) (x0 : List (Ex)) (x1 : Int) (x2 : Int) (x3 : List (Pred)) (x4 : List (Ex)) : F30c2 (n + 1) x0 x1 x2 x3 x4 =
  bif decide (x2 < x1) then
    if (0 : Int) ≤ x2 then
      if x2 < (↑x0.length : Int) then
        (R28 (x0.getD x2.toNat zEx, ())).bind fun r0 =>
          bif r0.fst.snd.fst then
            if x3.length + (1 : Nat) ≤ lim then
              F30c2 n (x0) (x1) (IntKind.i64.wrap (x2 + (1 : Int))) (x3 ++ ([r0.fst.fst] : List (Pred))) (x4)
            else
              none
          else
            if x4.length + (1 : Nat) ≤ lim then
              F30c2 n (x0) (x1) (IntKind.i64.wrap (x2 + (1 : Int))) (x3) (x4 ++ [x0.getD x2.toNat zEx])
            else
              none
      else
        none
    else
      none
  else
    some ((x3, (x4, ())), ()) := by kernel_rfl
end Go.Proofs.Tryz
