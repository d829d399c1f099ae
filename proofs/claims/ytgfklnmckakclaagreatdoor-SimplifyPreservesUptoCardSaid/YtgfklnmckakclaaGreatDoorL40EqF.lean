/- The functions of the program as the engine follows them (printed by a program of ours): their code, what is known of them, and the equations of their runs. -/
import Derived.Test.YtgfklnmckakclaaGreatDoorL40Fns
set_option linter.unusedVariables false
set_option maxRecDepth 20000
namespace Go.Proofs.Tryz
open Go.Eng
noncomputable def F105c1 (n : Nat) (x0 : List (Ex)) := F105.at [.v (.sl (.nm 1))] [.own 27 (.nm 1)] n 1 ⟨[.one (.data (.sl (.nm 1)) x0 []), U, U, U, U, U, U, U], []⟩
theorem F105_run (n : Nat) (a0 : List (Ex)) : F105.run [.v (.sl (.nm 1))] [.own 27 (.nm 1)] n (a0, ()) =
  F105c1 n (a0) := by kernel_rfl
theorem F105c1_eq (n : Nat) (x0 : List (Ex)) : F105c1 (n + 1) x0 =
  if x0.length = (0 : Nat) then
    none
  else
    if (0 : Nat) + x0.length ≤ lim then
      some (([] ++ x0, ()), ())
    else
      none := by kernel_rfl
noncomputable def F74c4 (n : Nat) (x0 : Ex) (x1 : Ex) := F74.at [.v (.nm 1)] [.v (.nm 1)] n 4 ⟨[U, .one (.bptr 0 0), .one (.bptr 1 0), U, U, U, U, U, U, U, U, U, U, U, U, U, U, U, U, U, U, U, U, U, U, U, U, U, U, U, U, U, U, U, U, U, U, U, U, U, U, U, U, U, U, U, U, U, U, U, U, U, U, U, U, U, U, U, U, U, U, U, U, U, U, U, U, U, U, U, U, U, U, U, U, U], [(0, .whole (.nm 1) x0 []), (1, .whole (.nm 1) x1 [])]⟩
noncomputable def F74c12 (n : Nat) (x0 : List (Ex)) (x1 : List (Ex)) (x2 : Int) (x3 : Int) (x4 : Ex) (x5 : Ex) := F74.at [.v (.nm 1)] [.v (.nm 1)] n 12 ⟨[U, .one (.bptr 0 0), .one (.bptr 1 0), U, .one (.data (.sl (.nm 1)) x0 []), U, U, U, U, U, U, U, U, U, U, U, U, U, U, U, U, U, U, U, U, U, U, U, U, U, U, U, U, U, U, U, U, U, U, U, U, U, U, U, U, U, .one (.data (.sl (.nm 1)) x1 []), .one (.int .i64 x2), .one (.int .i64 x3), U, U, U, U, U, U, U, U, U, U, U, U, U, U, U, U, U, U, U, U, U, U, U, U, U, U, U], [(0, .whole (.nm 1) x4 []), (1, .whole (.nm 1) x5 [])]⟩
theorem F74_run (n : Nat) (a0 : Ex) : F74.run [.v (.nm 1)] [.v (.nm 1)] n (a0, ()) =
  bif decide ((↑a0.args.length : Int) < (2 : Int)) then
    some ((a0, ()), ())
  else
    if (0 : Int) < (↑a0.args.length : Int) then
      (F56.run [PK.v (Ty.nm (1 : Nat))] [RK.v Ty.bool] (4000000 : Nat) (a0.args.getD (Int.toNat (0 : Int)) zEx, ())).bind fun r0 =>
        bif !r0.fst.fst then
          some ((a0, ()), ())
        else
          F74c4 n (a0) (zEx)
    else
      none := by kernel_rfl
theorem F74c4_eq (n : Nat) (x0 : Ex) (x1 : Ex) : F74c4 (n + 1) x0 x1 =
  if (0 : Int) < (↑x0.args.length : Int) then
    (F50.run [PK.v (Ty.nm (1 : Nat)), PK.v Ty.bool] [RK.v Ty.bool] (4000000 : Nat) (x0.args.getD (Int.toNat (0 : Int)) zEx, true, ())).bind fun r1 =>
      bif r1.fst.fst then
        if (1 : Int) < (↑x0.args.length : Int) then
          bif decide ((x0.args.getD (Int.toNat (1 : Int)) zEx).f_Type = x0.f_Type) then
            if (1 : Int) < (↑x0.args.length : Int) then
              some ((x0.args.getD (Int.toNat (1 : Int)) zEx, ()), ())
            else
              none
          else
            some ((x0, ()), ())
        else
          none
      else
        if (2 : Int) ≤ (↑x0.args.length : Int) then
          if (↑x0.args.length : Int) ≤ (↑x0.args.length : Int) then
            bif decide ((↑(List.drop (Int.toNat (2 : Int)) (List.take (↑x0.args.length : Int).toNat x0.args)).length : Int) < (2 : Int)) then
              some ((x0, ()), ())
            else
              F74c12 n (List.drop (Int.toNat (2 : Int)) (List.take (↑x0.args.length : Int).toNat x0.args)) (List.drop (Int.toNat (2 : Int)) (List.take (↑x0.args.length : Int).toNat x0.args)) ((↑(List.drop (Int.toNat (2 : Int)) (List.take (↑x0.args.length : Int).toNat x0.args)).length : Int)) ((0 : Int)) (x0) (x1)
          else
            none
        else
          none
  else
    none := by kernel_rfl
theorem F74c12_eq (n : Nat) (x0 : List (Ex)) (x1 : List (Ex)) (x2 : Int) (x3 : Int) (x4 : Ex) (x5 : Ex) : F74c12 (n + 1) x0 x1 x2 x3 x4 x5 =
  bif decide (x3 < x2) then
    if (0 : Int) ≤ x3 then
      if x3 < (↑x1.length : Int) then
        bif decide (x3.tmod (2 : Int) = (1 : Int)) then
          bif decide ((x1.getD x3.toNat zEx).f_Type = x4.f_Type) then
            (F105.run [PK.v (Ty.nm (1 : Nat)).sl] [RK.own (27 : TypeId) (Ty.nm (1 : Nat))] (4000000 : Nat) (x0, ())).bind fun r2 =>
              some (({ kind := x4.kind, op := x4.op, value := Val.mk x4.value.kind x4.value.int x4.value.text, table := x4.table, name := x4.name, distinct := x4.distinct, args := r2.fst.fst, partitionBy := x4.partitionBy, orderBy := x4.orderBy, slot := x4.slot, f_Type := x4.f_Type : Ex }, ()), ())
          else
            F74c12 n (x0) (x1) (x2) (IntKind.i64.wrap (x3 + (1 : Int))) (x4) (x5)
        else
          bif decide (x3 = IntKind.i64.wrap ((↑x0.length : Int) - (1 : Int))) then
            bif decide ((x1.getD x3.toNat zEx).f_Type = x4.f_Type) then
              (F105.run [PK.v (Ty.nm (1 : Nat)).sl] [RK.own (27 : TypeId) (Ty.nm (1 : Nat))] (4000000 : Nat) (x0, ())).bind fun r3 =>
                some (({ kind := x4.kind, op := x4.op, value := Val.mk x4.value.kind x4.value.int x4.value.text, table := x4.table, name := x4.name, distinct := x4.distinct, args := r3.fst.fst, partitionBy := x4.partitionBy, orderBy := x4.orderBy, slot := x4.slot, f_Type := x4.f_Type : Ex }, ()), ())
            else
              F74c12 n (x0) (x1) (x2) (IntKind.i64.wrap (x3 + (1 : Int))) (x4) (x5)
          else
            F74c12 n (x0) (x1) (x2) (IntKind.i64.wrap (x3 + (1 : Int))) (x4) (x5)
      else
        none
    else
      none
  else
    some ((x4, ()), ()) := by kernel_rfl
noncomputable def F73c8 (n : Nat) (x0 : Ex) (x1 : Ex) := F73.at [.v (.nm 1), .v (.bool)] [.v (.nm 1)] n 8 ⟨[U, U, .one (.bptr 0 0), U, .one (.bptr 1 0), U, U, U, U, U, U, U, U, U, U, U, U, U, U, U, U, U, U, U, U, U, U, U, U, U, U, U, U, U, U, U, U, U, U, U, U, U, U, U, U, U, U, U, U], [(0, .whole (.nm 1) x0 []), (1, .whole (.nm 1) x1 [])]⟩
theorem F73_run (n : Nat) (a0 : Ex) (a1 : Bool) : F73.run [.v (.nm 1), .v (.bool)] [.v (.nm 1)] n (a0, a1, ()) =
  if (0 : Int) < (↑a0.args.length : Int) then
    if (1 : Int) < (↑a0.args.length : Int) then
      (F50.run [PK.v (Ty.nm (1 : Nat)), PK.v Ty.bool] [RK.v Ty.bool] (4000000 : Nat) (a0.args.getD (Int.toNat (0 : Int)) zEx, a1, ())).bind fun r0 =>
        bif r0.fst.fst then
          (F52.run [PK.v Ty.bool] [RK.v (Ty.nm (1 : Nat))] (4000000 : Nat) (a1, ())).bind fun r1 =>
            some ((r1.fst.fst, ()), ())
        else
          (F50.run [PK.v (Ty.nm (1 : Nat)), PK.v Ty.bool] [RK.v Ty.bool] (4000000 : Nat) (a0.args.getD (Int.toNat (1 : Int)) zEx, a1, ())).bind fun r2 =>
            bif r2.fst.fst then
              (F52.run [PK.v Ty.bool] [RK.v (Ty.nm (1 : Nat))] (4000000 : Nat) (a1, ())).bind fun r3 =>
                some ((r3.fst.fst, ()), ())
            else
              (F50.run [PK.v (Ty.nm (1 : Nat)), PK.v Ty.bool] [RK.v Ty.bool] (4000000 : Nat) (a0.args.getD (Int.toNat (0 : Int)) zEx, !a1, ())).bind fun r4 =>
                bif r4.fst.fst then
                  bif decide ((a0.args.getD (Int.toNat (1 : Int)) zEx).f_Type = (1 : Int)) then
                    some ((a0.args.getD (Int.toNat (1 : Int)) zEx, ()), ())
                  else
                    (F50.run [PK.v (Ty.nm (1 : Nat)), PK.v Ty.bool] [RK.v Ty.bool] (4000000 : Nat) (a0.args.getD (Int.toNat (1 : Int)) zEx, !a1, ())).bind fun r5 =>
                      bif r5.fst.fst then
                        bif decide ((a0.args.getD (Int.toNat (0 : Int)) zEx).f_Type = (1 : Int)) then
                          some ((a0.args.getD (Int.toNat (0 : Int)) zEx, ()), ())
                        else
                          F73c8 n (a0) (zEx)
                      else
                        F73c8 n (a0) (zEx)
                else
                  (F50.run [PK.v (Ty.nm (1 : Nat)), PK.v Ty.bool] [RK.v Ty.bool] (4000000 : Nat) (a0.args.getD (Int.toNat (1 : Int)) zEx, !a1, ())).bind fun r6 =>
                    bif r6.fst.fst then
                      bif decide ((a0.args.getD (Int.toNat (0 : Int)) zEx).f_Type = (1 : Int)) then
                        some ((a0.args.getD (Int.toNat (0 : Int)) zEx, ()), ())
                      else
                        F73c8 n (a0) (zEx)
                    else
                      F73c8 n (a0) (zEx)
    else
      none
  else
    none := by kernel_rfl
theorem F73c8_eq (n : Nat) (x0 : Ex) (x1 : Ex) : F73c8 (n + 1) x0 x1 =
  some ((x0, ()), ()) := by kernel_rfl
theorem F103_run (n : Nat) (a0 : Ex) : F103.run [.v (.nm 1)] [.v (.bool)] n (a0, ()) =
  (F56.run [PK.v (Ty.nm (1 : Nat))] [RK.v Ty.bool] (4000000 : Nat) (a0, ())).bind fun r0 =>
    some ((!r0.fst.fst, ()), ()) := by kernel_rfl
noncomputable def F113c2 (n : Nat) (x0 : List (Ex)) (x1 : Int) (x2 : Int) := F113.at [.v (.sl (.nm 1)), .fv 103] [.v (.int .i64)] n 2 ⟨[.one (.data (.sl (.nm 1)) x0 []), .one (.fn 103 []), U, U, U, U, U, .one (.int .i64 x1), .one (.int .i64 x2), U, U, U, U, U, U, U, U, U, U], []⟩
theorem F113_run (n : Nat) (a0 : List (Ex)) (a1 : Unit) : F113.run [.v (.sl (.nm 1)), .fv 103] [.v (.int .i64)] n (a0, a1, ()) =
  F113c2 n (a0) ((↑a0.length : Int)) ((0 : Int)) := by kernel_rfl
theorem F113c2_eq (n : Nat) (x0 : List (Ex)) (x1 : Int) (x2 : Int) : F113c2 (n + 1) x0 x1 x2 =
  bif decide (x2 < x1) then
    if (0 : Int) ≤ x2 then
      if x2 < (↑x0.length : Int) then
        (F103.run [PK.v (Ty.nm (1 : Nat))] [RK.v Ty.bool] (4000000 : Nat) (x0.getD x2.toNat zEx, ())).bind fun r0 =>
          bif r0.fst.fst then
            some ((x2, ()), ())
          else
            F113c2 n (x0) (x1) (IntKind.i64.wrap (x2 + (1 : Int)))
      else
        none
    else
      none
  else
    some (((-1 : Int), ()), ()) := by kernel_rfl
theorem F102_run (n : Nat) (a0 : List (Ex)) (a1 : Unit) : F102.run [.v (.sl (.nm 1)), .fv 103] [.v (.bool)] n (a0, a1, ()) =
  (F113.run [PK.v (Ty.nm (1 : Nat)).sl, PK.fv (103 : FuncId)] [RK.v (Ty.int IntKind.i64)] (4000000 : Nat) (a0, (), ())).bind fun r0 =>
    some ((decide ((0 : Int) ≤ r0.fst.fst), ()), ()) := by kernel_rfl
theorem F72_run (n : Nat) (a0 : Ex) : F72.run [.v (.nm 1)] [.v (.nm 1), .v (.bool)] n (a0, ()) =
  (F102.run [PK.v (Ty.nm (1 : Nat)).sl, PK.fv (103 : FuncId)] [RK.v Ty.bool] (4000000 : Nat) (a0.args, (), ())).bind fun r0 =>
    bif r0.fst.fst then
      some ((a0, (false, ())), ())
    else
      (R104 (a0, [], ())).bind fun r1 =>
        bif !decide (r1.fst.fst.kind = a0.f_Type) then
          some ((a0, (false, ())), ())
        else
          (F83.run [PK.v (Ty.nm (0 : Nat))] [RK.v (Ty.nm (1 : Nat))] (4000000 : Nat) (r1.fst.fst, ())).bind fun r2 =>
            some ((r2.fst.fst, (true, ())), ()) := by kernel_rfl
noncomputable def F44c12 (n : Nat) (x0 : Ex) (x1 : Ex) := F44.at [.v (.nm 1)] [.v (.nm 1)] n 12 ⟨[U, .one (.bptr 0 0), .one (.bptr 1 0), U, U, U, U, U, U, U, U, U, U, U, U, U, U, U, U, U, U, U, U, U, U, U, U, U, U, U, U, U, U, U, U, U, U, U, U, U, U, U, U, U, U, U, U, U, U, U, U, U, U, U, U, U, U, U, U, U, U, U, U, U, U, U, U, U, U, U, U], [(0, .whole (.nm 1) x0 []), (1, .whole (.nm 1) x1 [])]⟩
theorem F44_run (n : Nat) (a0 : Ex) : F44.run [.v (.nm 1)] [.v (.nm 1)] n (a0, ()) =
  (F72.run [PK.v (Ty.nm (1 : Nat))] [RK.v (Ty.nm (1 : Nat)), RK.v Ty.bool] (4000000 : Nat) (a0, ())).bind fun r0 =>
    bif r0.fst.snd.fst then
      some ((r0.fst.fst, ()), ())
    else
      bif decide (a0.kind = (5 : Int)) then
        bif decide (a0.op = (7 : Int)) then
          (F73.run [PK.v (Ty.nm (1 : Nat)), PK.v Ty.bool] [RK.v (Ty.nm (1 : Nat))] (4000000 : Nat) (a0, false, ())).bind fun r1 =>
            some ((r1.fst.fst, ()), ())
        else
          bif decide (a0.kind = (5 : Int)) then
            bif decide (a0.op = (8 : Int)) then
              (F73.run [PK.v (Ty.nm (1 : Nat)), PK.v Ty.bool] [RK.v (Ty.nm (1 : Nat))] (4000000 : Nat) (a0, true, ())).bind fun r2 =>
                some ((r2.fst.fst, ()), ())
            else
              bif decide (a0.kind = (3 : Int)) then
                if (0 : Int) < (↑a0.args.length : Int) then
                  bif decide ((a0.args.getD (Int.toNat (0 : Int)) zEx).kind = (3 : Int)) then
                    if (0 : Int) < (↑a0.args.length : Int) then
                      if (0 : Int) < (↑(a0.args.getD (Int.toNat (0 : Int)) zEx).args.length : Int) then
                        bif decide (((a0.args.getD (Int.toNat (0 : Int)) zEx).args.getD (Int.toNat (0 : Int)) zEx).f_Type = (1 : Int)) then
                          if (0 : Int) < (↑a0.args.length : Int) then
                            if (0 : Int) < (↑(a0.args.getD (Int.toNat (0 : Int)) zEx).args.length : Int) then
                              some (((a0.args.getD (Int.toNat (0 : Int)) zEx).args.getD (Int.toNat (0 : Int)) zEx, ()), ())
                            else
                              none
                          else
                            none
                        else
                          bif decide (a0.kind = (8 : Int)) then
                            (F74.run [PK.v (Ty.nm (1 : Nat))] [RK.v (Ty.nm (1 : Nat))] (4000000 : Nat) (a0, ())).bind fun r3 =>
                              some ((r3.fst.fst, ()), ())
                          else
                            F44c12 n (a0) (zEx)
                      else
                        none
                    else
                      none
                  else
                    bif decide (a0.kind = (8 : Int)) then
                      (F74.run [PK.v (Ty.nm (1 : Nat))] [RK.v (Ty.nm (1 : Nat))] (4000000 : Nat) (a0, ())).bind fun r4 =>
                        some ((r4.fst.fst, ()), ())
                    else
                      F44c12 n (a0) (zEx)
                else
                  none
              else
                bif decide (a0.kind = (8 : Int)) then
                  (F74.run [PK.v (Ty.nm (1 : Nat))] [RK.v (Ty.nm (1 : Nat))] (4000000 : Nat) (a0, ())).bind fun r5 =>
                    some ((r5.fst.fst, ()), ())
                else
                  F44c12 n (a0) (zEx)
          else
            bif decide (a0.kind = (3 : Int)) then
              if (0 : Int) < (↑a0.args.length : Int) then
                bif decide ((a0.args.getD (Int.toNat (0 : Int)) zEx).kind = (3 : Int)) then
                  if (0 : Int) < (↑a0.args.length : Int) then
                    if (0 : Int) < (↑(a0.args.getD (Int.toNat (0 : Int)) zEx).args.length : Int) then
                      bif decide (((a0.args.getD (Int.toNat (0 : Int)) zEx).args.getD (Int.toNat (0 : Int)) zEx).f_Type = (1 : Int)) then
                        if (0 : Int) < (↑a0.args.length : Int) then
                          if (0 : Int) < (↑(a0.args.getD (Int.toNat (0 : Int)) zEx).args.length : Int) then
                            some (((a0.args.getD (Int.toNat (0 : Int)) zEx).args.getD (Int.toNat (0 : Int)) zEx, ()), ())
                          else
                            none
                        else
                          none
                      else
                        bif decide (a0.kind = (8 : Int)) then
                          (F74.run [PK.v (Ty.nm (1 : Nat))] [RK.v (Ty.nm (1 : Nat))] (4000000 : Nat) (a0, ())).bind fun r6 =>
                            some ((r6.fst.fst, ()), ())
                        else
                          F44c12 n (a0) (zEx)
                    else
                      none
                  else
                    none
                else
                  bif decide (a0.kind = (8 : Int)) then
                    (F74.run [PK.v (Ty.nm (1 : Nat))] [RK.v (Ty.nm (1 : Nat))] (4000000 : Nat) (a0, ())).bind fun r7 =>
                      some ((r7.fst.fst, ()), ())
                  else
                    F44c12 n (a0) (zEx)
              else
                none
            else
              bif decide (a0.kind = (8 : Int)) then
                (F74.run [PK.v (Ty.nm (1 : Nat))] [RK.v (Ty.nm (1 : Nat))] (4000000 : Nat) (a0, ())).bind fun r8 =>
                  some ((r8.fst.fst, ()), ())
              else
                F44c12 n (a0) (zEx)
      else
        bif decide (a0.kind = (5 : Int)) then
          bif decide (a0.op = (8 : Int)) then
            (F73.run [PK.v (Ty.nm (1 : Nat)), PK.v Ty.bool] [RK.v (Ty.nm (1 : Nat))] (4000000 : Nat) (a0, true, ())).bind fun r9 =>
              some ((r9.fst.fst, ()), ())
          else
            bif decide (a0.kind = (3 : Int)) then
              if (0 : Int) < (↑a0.args.length : Int) then
                bif decide ((a0.args.getD (Int.toNat (0 : Int)) zEx).kind = (3 : Int)) then
                  if (0 : Int) < (↑a0.args.length : Int) then
                    if (0 : Int) < (↑(a0.args.getD (Int.toNat (0 : Int)) zEx).args.length : Int) then
                      bif decide (((a0.args.getD (Int.toNat (0 : Int)) zEx).args.getD (Int.toNat (0 : Int)) zEx).f_Type = (1 : Int)) then
                        if (0 : Int) < (↑a0.args.length : Int) then
                          if (0 : Int) < (↑(a0.args.getD (Int.toNat (0 : Int)) zEx).args.length : Int) then
                            some (((a0.args.getD (Int.toNat (0 : Int)) zEx).args.getD (Int.toNat (0 : Int)) zEx, ()), ())
                          else
                            none
                        else
                          none
                      else
                        bif decide (a0.kind = (8 : Int)) then
                          (F74.run [PK.v (Ty.nm (1 : Nat))] [RK.v (Ty.nm (1 : Nat))] (4000000 : Nat) (a0, ())).bind fun r10 =>
                            some ((r10.fst.fst, ()), ())
                        else
                          F44c12 n (a0) (zEx)
                    else
                      none
                  else
                    none
                else
                  bif decide (a0.kind = (8 : Int)) then
                    (F74.run [PK.v (Ty.nm (1 : Nat))] [RK.v (Ty.nm (1 : Nat))] (4000000 : Nat) (a0, ())).bind fun r11 =>
                      some ((r11.fst.fst, ()), ())
                  else
                    F44c12 n (a0) (zEx)
              else
                none
            else
              bif decide (a0.kind = (8 : Int)) then
                (F74.run [PK.v (Ty.nm (1 : Nat))] [RK.v (Ty.nm (1 : Nat))] (4000000 : Nat) (a0, ())).bind fun r12 =>
                  some ((r12.fst.fst, ()), ())
              else
                F44c12 n (a0) (zEx)
        else
          bif decide (a0.kind = (3 : Int)) then
            if (0 : Int) < (↑a0.args.length : Int) then
              bif decide ((a0.args.getD (Int.toNat (0 : Int)) zEx).kind = (3 : Int)) then
                if (0 : Int) < (↑a0.args.length : Int) then
                  if (0 : Int) < (↑(a0.args.getD (Int.toNat (0 : Int)) zEx).args.length : Int) then
                    bif decide (((a0.args.getD (Int.toNat (0 : Int)) zEx).args.getD (Int.toNat (0 : Int)) zEx).f_Type = (1 : Int)) then
                      if (0 : Int) < (↑a0.args.length : Int) then
                        if (0 : Int) < (↑(a0.args.getD (Int.toNat (0 : Int)) zEx).args.length : Int) then
                          some (((a0.args.getD (Int.toNat (0 : Int)) zEx).args.getD (Int.toNat (0 : Int)) zEx, ()), ())
                        else
                          none
                      else
                        none
                    else
                      bif decide (a0.kind = (8 : Int)) then
                        (F74.run [PK.v (Ty.nm (1 : Nat))] [RK.v (Ty.nm (1 : Nat))] (4000000 : Nat) (a0, ())).bind fun r13 =>
                          some ((r13.fst.fst, ()), ())
                      else
                        F44c12 n (a0) (zEx)
                  else
                    none
                else
                  none
              else
                bif decide (a0.kind = (8 : Int)) then
                  (F74.run [PK.v (Ty.nm (1 : Nat))] [RK.v (Ty.nm (1 : Nat))] (4000000 : Nat) (a0, ())).bind fun r14 =>
                    some ((r14.fst.fst, ()), ())
                else
                  F44c12 n (a0) (zEx)
            else
              none
          else
            bif decide (a0.kind = (8 : Int)) then
              (F74.run [PK.v (Ty.nm (1 : Nat))] [RK.v (Ty.nm (1 : Nat))] (4000000 : Nat) (a0, ())).bind fun r15 =>
                some ((r15.fst.fst, ()), ())
            else
              F44c12 n (a0) (zEx) := by kernel_rfl
theorem F44c12_eq (n : Nat) (x0 : Ex) (x1 : Ex) : F44c12 (n + 1) x0 x1 =
  some ((x0, ()), ()) := by kernel_rfl
noncomputable def F43c1 (g43 : G43) (n : Nat) (x0 : Ex) (x1 : Ex) := (F43 g43).at [.v (.nm 1), .fb 43] [.v (.nm 1)] n 1 ⟨[U, .one (.bptr 901000 0), .one (.bptr 1 0), .one (.bptr 2 0), U, U, U, U, U, U, U, U, U, U, U, U, U, U, U, U, U, U, U, U, U, U, U, U, U, U, U, U, U], [(1, .whole (.nm 1) x0 []), (2, .whole (.nm 1) x1 []), (901000, .cells [.fn 43 [901000]])]⟩
noncomputable def F43c7 (g43 : G43) (n : Nat) (x0 : Ex) (x1 : Ex) := (F43 g43).at [.v (.nm 1), .fb 43] [.v (.nm 1)] n 7 ⟨[U, .one (.bptr 901000 0), .one (.bptr 1 0), .one (.bptr 2 0), U, U, U, U, U, U, U, U, U, U, U, U, U, U, U, U, U, U, U, U, U, U, U, U, U, U, U, U, U], [(1, .whole (.nm 1) x0 []), (2, .whole (.nm 1) x1 []), (901000, .cells [.fn 43 [901000]])]⟩
noncomputable def F43c9 (g43 : G43) (n : Nat) (x0 : List (Ex)) (x1 : Int) (x2 : Int) (x3 : Ex) (x4 : Ex) (x5 : List (Ex)) := (F43 g43).at [.v (.nm 1), .fb 43] [.v (.nm 1)] n 9 ⟨[U, .one (.bptr 901000 0), .one (.bptr 1 0), .one (.bptr 2 0), .one (.own 3), U, U, U, U, U, U, U, U, U, U, U, .one (.data (.sl (.nm 1)) x0 []), .one (.int .i64 x1), .one (.int .i64 x2), U, U, U, U, U, U, U, U, U, U, U, U, U, U], [(1, .whole (.nm 1) x3 []), (2, .whole (.nm 1) x4 []), (3, .row 27 (.nm 1) x5 [] false), (901000, .cells [.fn 43 [901000]])]⟩
theorem F43_run (g43 : G43) (n : Nat) (a0 : Ex) (a1 : Unit) : (F43 g43).run [.v (.nm 1), .fb 43] [.v (.nm 1)] n (a0, a1, ()) =
  F43c1 g43 n (a0) (zEx) := by kernel_rfl
theorem F43c1_eq (g43 : G43) (n : Nat) (x0 : Ex) (x1 : Ex) : F43c1 g43 (n + 1) x0 x1 =
  bif decide (x0.kind = (1 : Int)) then
    bif decide (x0.kind = (1 : Int)) then
      some ((x0, ()), ((), ()))
    else
      F43c7 g43 n (x0) (x1)
  else
    bif decide (x0.kind = (2 : Int)) then
      bif decide (x0.kind = (2 : Int)) then
        some ((x0, ()), ((), ()))
      else
        F43c7 g43 n (x0) (x1)
    else
      bif decide (x0.kind = (10 : Int)) then
        bif decide (x0.kind = (10 : Int)) then
          some ((x0, ()), ((), ()))
        else
          F43c7 g43 n (x0) (x1)
      else
        bif decide (x0.kind = (11 : Int)) then
          some ((x0, ()), ((), ()))
        else
          F43c7 g43 n (x0) (x1) := by kernel_rfl
theorem F43c7_eq (g43 : G43) (n : Nat) (x0 : Ex) (x1 : Ex) : F43c7 g43 (n + 1) x0 x1 =
  F43c9 g43 n (x0.args) ((↑x0.args.length : Int)) ((0 : Int)) (x0) (x1) ([]) := by kernel_rfl
theorem F43c9_eq (g43 : G43) (n : Nat) (x0 : List (Ex)) (x1 : Int) (x2 : Int) (x3 : Ex) (x4 : Ex) (x5 : List (Ex)) : F43c9 g43 (n + 1) x0 x1 x2 x3 x4 x5 =
  bif decide (x2 < x1) then
    if (0 : Int) ≤ x2 then
      if x2 < (↑x0.length : Int) then
        (g43 (x0.getD x2.toNat zEx, (), ())).bind fun r0 =>
          if x5.length + (1 : Nat) ≤ lim then
            F43c9 g43 n (x0) (x1) (IntKind.i64.wrap (x2 + (1 : Int))) (x3) (x4) (x5 ++ ([r0.fst.fst] : List (Ex)))
          else
            none
      else
        none
    else
      none
  else
    (F44.run [PK.v (Ty.nm (1 : Nat))] [RK.v (Ty.nm (1 : Nat))] (4000000 : Nat) ({ kind := x3.kind, op := x3.op, value := Val.mk x3.value.kind x3.value.int x3.value.text, table := x3.table, name := x3.name, distinct := x3.distinct, args := x5, partitionBy := x3.partitionBy, orderBy := x3.orderBy, slot := x3.slot, f_Type := x3.f_Type : Ex }, ())).bind fun r1 =>
      some ((r1.fst.fst, ()), ((), ())) := by kernel_rfl
theorem F14_run (n : Nat) (a0 : Ex) : F14.run [.v (.nm 1)] [.v (.nm 1)] n (a0, ()) =
  (R43 (a0, (), ())).bind fun r0 =>
    some ((r0.fst.fst, ()), ()) := by kernel_rfl
noncomputable def F77c9 (n : Nat) (x0 : Bool) (x1 : Int) (x2 : Ex) (x3 : Ex) := F77.at [.v (.nm 1)] [.v (.nm 1)] n 9 ⟨[U, .one (.bptr 0 0), .one (.bptr 1 0), .one (.bool x0), .one (.int .i64 x1), U, U, U, U, U, U, U, U, U, U, U, U, U, U, U, U, U, U, U, U, U, U, U, U, U, U, U, U, U, U, U, U, U, U, U, U, U, U, U, U, U, U, U, U, U, U, U, U, U, U, U, U, U, U, U, U, U, U, U, U, U, U, U, U, U, U, U, U, U, U], [(0, .whole (.nm 1) x2 []), (1, .whole (.nm 1) x3 [])]⟩
noncomputable def F77c12 (n : Nat) (x0 : Bool) (x1 : Int) (x2 : Bool) (x3 : Ex) (x4 : Ex) := F77.at [.v (.nm 1)] [.v (.nm 1)] n 12 ⟨[U, .one (.bptr 0 0), .one (.bptr 1 0), .one (.bool x0), .one (.int .i64 x1), .one (.bool x2), U, U, U, U, U, U, U, U, U, U, U, U, U, U, U, U, U, U, U, U, U, U, U, U, U, U, U, U, U, U, U, U, U, U, U, U, U, U, U, U, U, U, U, U, U, U, U, U, U, U, U, U, U, U, U, U, U, U, U, U, U, U, U, U, U, U, U, U, U], [(0, .whole (.nm 1) x3 []), (1, .whole (.nm 1) x4 [])]⟩
noncomputable def F77c16 (n : Nat) (x0 : Ex) (x1 : Ex) := F77.at [.v (.nm 1)] [.v (.nm 1)] n 16 ⟨[U, .one (.bptr 0 0), .one (.bptr 1 0), U, U, U, U, U, U, U, U, U, U, U, U, U, U, U, U, U, U, U, U, U, U, U, U, U, U, U, U, U, U, U, U, U, U, U, U, U, U, U, U, U, U, U, U, U, U, U, U, U, U, U, U, U, U, U, U, U, U, U, U, U, U, U, U, U, U, U, U, U, U, U, U], [(0, .whole (.nm 1) x0 []), (1, .whole (.nm 1) x1 [])]⟩
noncomputable def F77c10 (n : Nat) (x0 : Bool) (x1 : Int) (x2 : Ex) (x3 : Ex) := F77.at [.v (.nm 1)] [.v (.nm 1)] n 10 ⟨[U, .one (.bptr 0 0), .one (.bptr 1 0), .one (.bool x0), .one (.int .i64 x1), U, U, U, U, U, U, U, U, U, U, U, U, U, U, U, U, U, U, U, U, U, U, U, U, U, U, U, U, U, U, U, U, U, U, U, U, U, U, U, U, U, U, U, U, U, U, U, U, U, U, U, U, U, U, U, U, U, U, U, U, U, U, U, U, U, U, U, U, U, U], [(0, .whole (.nm 1) x2 []), (1, .whole (.nm 1) x3 [])]⟩
theorem F77_run (n : Nat) (a0 : Ex) : F77.run [.v (.nm 1)] [.v (.nm 1)] n (a0, ()) =
  if (0 : Int) < (↑a0.args.length : Int) then
    bif !decide ((a0.args.getD (Int.toNat (0 : Int)) zEx).kind = (1 : Int)) then
      some ((a0, ()), ())
    else
      if (0 : Int) < (↑a0.args.length : Int) then
        (F51.run [PK.v (Ty.nm (1 : Nat))] [RK.v Ty.bool] (4000000 : Nat) (a0.args.getD (Int.toNat (0 : Int)) zEx, ())).bind fun r0 =>
          bif r0.fst.fst then
            if (1 : Int) < (↑a0.args.length : Int) then
              bif decide ((a0.args.getD (Int.toNat (1 : Int)) zEx).f_Type = a0.f_Type) then
                if (1 : Int) < (↑a0.args.length : Int) then
                  some ((a0.args.getD (Int.toNat (1 : Int)) zEx, ()), ())
                else
                  none
              else
                some ((a0, ()), ())
            else
              none
          else
            F77c9 n (false) ((2 : Int)) (a0) (zEx)
      else
        none
  else
    none := by kernel_rfl
theorem F77c9_eq (n : Nat) (x0 : Bool) (x1 : Int) (x2 : Ex) (x3 : Ex) : F77c9 (n + 1) x0 x1 x2 x3 =
  bif decide (x1 < (↑x2.args.length : Int)) then
    bif decide (x1.tmod (2 : Int) = (1 : Int)) then
      F77c12 n (x0) (x1) (true) (x2) (x3)
    else
      F77c12 n (x0) (x1) (decide (x1 = IntKind.i64.wrap ((↑x2.args.length : Int) - (1 : Int)))) (x2) (x3)
  else
    bif decide ((↑x2.args.length : Int) < (4 : Int)) then
      some ((x2, ()), ())
    else
      bif !x0 then
        some ((x2, ()), ())
      else
        F77c16 n (x2) (x3) := by kernel_rfl
theorem F77c12_eq (n : Nat) (x0 : Bool) (x1 : Int) (x2 : Bool) (x3 : Ex) (x4 : Ex) : F77c12 (n + 1) x0 x1 x2 x3 x4 =
  bif x2 then
    if (0 : Int) ≤ x1 then
      if x1 < (↑x3.args.length : Int) then
        bif decide ((x3.args.getD x1.toNat zEx).f_Type = x3.f_Type) then
          F77c10 n (true) (x1) (x3) (x4)
        else
          F77c10 n (x0) (x1) (x3) (x4)
      else
        none
    else
      none
  else
    F77c10 n (x0) (x1) (x3) (x4) := by kernel_rfl
theorem F77c16_eq (n : Nat) (x0 : Ex) (x1 : Ex) : F77c16 (n + 1) x0 x1 =
  if (2 : Int) ≤ (↑x0.args.length : Int) then
    if (↑x0.args.length : Int) ≤ (↑x0.args.length : Int) then
      some (({ kind := x0.kind, op := x0.op, value := x0.value, table := x0.table, name := x0.name, distinct := x0.distinct, args := List.drop (Int.toNat (2 : Int)) (List.take (↑x0.args.length : Int).toNat x0.args), partitionBy := x0.partitionBy, orderBy := x0.orderBy, slot := x0.slot, f_Type := x0.f_Type : Ex }, ()), ())
    else
      none
  else
    none := by kernel_rfl
theorem F77c10_eq (n : Nat) (x0 : Bool) (x1 : Int) (x2 : Ex) (x3 : Ex) : F77c10 (n + 1) x0 x1 x2 x3 =
  F77c9 n (x0) (IntKind.i64.wrap (x1 + (1 : Int))) (x2) (x3) := by kernel_rfl
noncomputable def F76c3 (n : Nat) (x0 : Bool) (x1 : Bool) (x2 : Ex) (x3 : Ex) (x4 : Ex) (x5 : Ex) := F76.at [.v (.nm 1), .v (.bool)] [.v (.nm 1), .v (.bool)] n 3 ⟨[U, .one (.bool x0), .one (.bptr 0 0), U, .one (.bptr 1 0), U, .one (.bptr 2 0), .one (.bptr 3 0), .one (.bool x1), U, U, U, U, U, U, U, U, U, U, U, U, U, U, U, U, U, U, U, U, U, U, U, U, U, U, U, U, U, U, U, U, U, U, U, U, U, U, U, U, U, U, U, U, U, U, U, U, U, U], [(0, .whole (.nm 1) x2 []), (1, .whole (.nm 1) x3 []), (2, .whole (.nm 1) x4 []), (3, .whole (.nm 1) x5 [])]⟩
noncomputable def F76c6 (n : Nat) (x0 : Bool) (x1 : Bool) (x2 : Ex) (x3 : Ex) (x4 : Ex) (x5 : Ex) := F76.at [.v (.nm 1), .v (.bool)] [.v (.nm 1), .v (.bool)] n 6 ⟨[U, .one (.bool x0), .one (.bptr 0 0), U, .one (.bptr 1 0), U, .one (.bptr 2 0), .one (.bptr 3 0), .one (.bool x1), U, U, U, U, U, U, U, U, U, U, U, U, U, U, U, U, U, U, U, U, U, U, U, U, U, U, U, U, U, U, U, U, U, U, U, U, U, U, U, U, U, U, U, U, U, U, U, U, U, U], [(0, .whole (.nm 1) x2 []), (1, .whole (.nm 1) x3 []), (2, .whole (.nm 1) x4 []), (3, .whole (.nm 1) x5 [])]⟩
noncomputable def F76c8 (n : Nat) (x0 : Bool) (x1 : Bool) (x2 : Bool) (x3 : Bool) (x4 : Ex) (x5 : Ex) (x6 : Ex) (x7 : Ex) := F76.at [.v (.nm 1), .v (.bool)] [.v (.nm 1), .v (.bool)] n 8 ⟨[U, .one (.bool x0), .one (.bptr 0 0), U, .one (.bptr 1 0), U, .one (.bptr 2 0), .one (.bptr 3 0), .one (.bool x1), .one (.bool x2), .one (.bool x3), U, U, U, U, U, U, U, U, U, U, U, U, U, U, U, U, U, U, U, U, U, U, U, U, U, U, U, U, U, U, U, U, U, U, U, U, U, U, U, U, U, U, U, U, U, U, U, U], [(0, .whole (.nm 1) x4 []), (1, .whole (.nm 1) x5 []), (2, .whole (.nm 1) x6 []), (3, .whole (.nm 1) x7 [])]⟩
noncomputable def F76c12 (n : Nat) (x0 : Bool) (x1 : Ex) (x2 : Ex) (x3 : Ex) := F76.at [.v (.nm 1), .v (.bool)] [.v (.nm 1), .v (.bool)] n 12 ⟨[U, U, .one (.bptr 0 0), U, .one (.bptr 1 0), U, .one (.bptr 2 0), U, U, U, .one (.bool x0), U, U, U, U, U, U, U, U, U, U, U, U, U, U, U, U, U, U, U, U, U, U, U, U, U, U, U, U, U, U, U, U, U, U, U, U, U, U, U, U, U, U, U, U, U, U, U, U], [(0, .whole (.nm 1) x1 []), (1, .whole (.nm 1) x2 []), (2, .whole (.nm 1) x3 [])]⟩
theorem F76_run (n : Nat) (a0 : Ex) (a1 : Bool) : F76.run [.v (.nm 1), .v (.bool)] [.v (.nm 1), .v (.bool)] n (a0, a1, ()) =
  if (0 : Int) < (↑a0.args.length : Int) then
    if (1 : Int) < (↑a0.args.length : Int) then
      (F81.run [PK.v (Ty.nm (1 : Nat))] [RK.v Ty.bool] (4000000 : Nat) (a0.args.getD (Int.toNat (0 : Int)) zEx, ())).bind fun r0 =>
        bif r0.fst.fst then
          F76c3 n (a1) (true) (a0) (zEx) (a0.args.getD (Int.toNat (0 : Int)) zEx) (a0.args.getD (Int.toNat (1 : Int)) zEx)
        else
          (F81.run [PK.v (Ty.nm (1 : Nat))] [RK.v Ty.bool] (4000000 : Nat) (a0.args.getD (Int.toNat (1 : Int)) zEx, ())).bind fun r1 =>
            F76c3 n (a1) (r1.fst.fst) (a0) (zEx) (a0.args.getD (Int.toNat (0 : Int)) zEx) (a0.args.getD (Int.toNat (1 : Int)) zEx)
    else
      none
  else
    none := by kernel_rfl
theorem F76c3_eq (n : Nat) (x0 : Bool) (x1 : Bool) (x2 : Ex) (x3 : Ex) (x4 : Ex) (x5 : Ex) : F76c3 (n + 1) x0 x1 x2 x3 x4 x5 =
  (F51.run [PK.v (Ty.nm (1 : Nat))] [RK.v Ty.bool] (4000000 : Nat) (x4, ())).bind fun r2 =>
    (F51.run [PK.v (Ty.nm (1 : Nat))] [RK.v Ty.bool] (4000000 : Nat) (x5, ())).bind fun r3 =>
      bif x0 then
        (F51.run [PK.v (Ty.nm (1 : Nat))] [RK.v Ty.bool] (4000000 : Nat) (x4, ())).bind fun r4 =>
          bif r4.fst.fst then
            F76c6 n (x0) (true) (x2) (x3) (x4) (x5)
          else
            (F51.run [PK.v (Ty.nm (1 : Nat))] [RK.v Ty.bool] (4000000 : Nat) (x5, ())).bind fun r5 =>
              F76c6 n (x0) (r5.fst.fst) (x2) (x3) (x4) (x5)
      else
        F76c8 n (x0) (x1) (r2.fst.fst) (r3.fst.fst) (x2) (x3) (x4) (x5) := by kernel_rfl
theorem F76c6_eq (n : Nat) (x0 : Bool) (x1 : Bool) (x2 : Ex) (x3 : Ex) (x4 : Ex) (x5 : Ex) : F76c6 (n + 1) x0 x1 x2 x3 x4 x5 =
  (F81.run [PK.v (Ty.nm (1 : Nat))] [RK.v Ty.bool] (4000000 : Nat) (x4, ())).bind fun r6 =>
    (F81.run [PK.v (Ty.nm (1 : Nat))] [RK.v Ty.bool] (4000000 : Nat) (x5, ())).bind fun r7 =>
      F76c8 n (x0) (x1) (r6.fst.fst) (r7.fst.fst) (x2) (x3) (x4) (x5) := by kernel_rfl
theorem F76c8_eq (n : Nat) (x0 : Bool) (x1 : Bool) (x2 : Bool) (x3 : Bool) (x4 : Ex) (x5 : Ex) (x6 : Ex) (x7 : Ex) : F76c8 (n + 1) x0 x1 x2 x3 x4 x5 x6 x7 =
  bif x1 then
    (F54.run [PK.v Ty.bool] [RK.v (Ty.nm (0 : Nat))] (4000000 : Nat) (x0, ())).bind fun r8 =>
      (F53.run [PK.v (Ty.nm (0 : Nat))] [RK.v (Ty.nm (1 : Nat))] (4000000 : Nat) (r8.fst.fst, ())).bind fun r9 =>
        some ((r9.fst.fst, (true, ())), ())
  else
    bif x2 then
      bif decide (x7.f_Type = (1 : Int)) then
        some ((x7, (true, ())), ())
      else
        F76c12 n (x3) (x4) (x5) (x6)
    else
      F76c12 n (x3) (x4) (x5) (x6) := by kernel_rfl
theorem F76c12_eq (n : Nat) (x0 : Bool) (x1 : Ex) (x2 : Ex) (x3 : Ex) : F76c12 (n + 1) x0 x1 x2 x3 =
  bif x0 then
    bif decide (x3.f_Type = (1 : Int)) then
      some ((x3, (true, ())), ())
    else
      some ((x1, (false, ())), ())
  else
    some ((x1, (false, ())), ()) := by kernel_rfl
noncomputable def F75c2 (n : Nat) (x0 : List (Ex)) (x1 : Int) := F75.at [.v (.sl (.nm 1))] [.v (.bool)] n 2 ⟨[.one (.data (.sl (.nm 1)) x0 []), U, U, .one (.int .i64 x1), U, U, U, U, U, U, U, U, U, U, U, U], []⟩
theorem F75_run (n : Nat) (a0 : List (Ex)) : F75.run [.v (.sl (.nm 1))] [.v (.bool)] n (a0, ()) =
  F75c2 n (a0) ((0 : Int)) := by kernel_rfl
theorem F75c2_eq (n : Nat) (x0 : List (Ex)) (x1 : Int) : F75c2 (n + 1) x0 x1 =
  bif decide (x1 < (↑x0.length : Int)) then
    if (0 : Int) ≤ x1 then
      if x1 < (↑x0.length : Int) then
        bif !decide ((x0.getD x1.toNat zEx).kind = (1 : Int)) then
          some ((false, ()), ())
        else
          F75c2 n (x0) (IntKind.i64.wrap (x1 + (1 : Int)))
      else
        none
    else
      none
  else
    some ((true, ()), ()) := by kernel_rfl
noncomputable def F45c5 (n : Nat) (x0 : Ex) (x1 : Ex) := F45.at [.v (.nm 1)] [.v (.nm 1)] n 5 ⟨[U, .one (.bptr 0 0), .one (.bptr 1 0), U, U, U, U, U, U, U, U, U, U, U, U, U, U, U, U, U, U, U, U, U, U, U, U, U, U, U, U, U, U, U, U, U, U, U, U, U, U, U, U, U, U, U, U, U, U, U, U, U, U, U, U, U, U, U, U, U, U, U, U, U, U, U, U, U, U, U, U, U, U, U, U], [(0, .whole (.nm 1) x0 []), (1, .whole (.nm 1) x1 [])]⟩
noncomputable def F45c8 (n : Nat) (x0 : Ex) (x1 : Ex) := F45.at [.v (.nm 1)] [.v (.nm 1)] n 8 ⟨[U, .one (.bptr 0 0), .one (.bptr 1 0), U, U, U, U, U, U, U, U, U, U, U, U, U, U, U, U, U, U, U, U, U, U, U, U, U, U, U, U, U, U, U, U, U, U, U, U, U, U, U, U, U, U, U, U, U, U, U, U, U, U, U, U, U, U, U, U, U, U, U, U, U, U, U, U, U, U, U, U, U, U, U, U], [(0, .whole (.nm 1) x0 []), (1, .whole (.nm 1) x1 [])]⟩
noncomputable def F45c10 (n : Nat) (x0 : Ex) (x1 : Ex) := F45.at [.v (.nm 1)] [.v (.nm 1)] n 10 ⟨[U, .one (.bptr 0 0), .one (.bptr 1 0), U, U, U, U, U, U, U, U, U, U, U, U, U, U, U, U, U, U, U, U, U, U, U, U, U, U, U, U, U, U, U, U, U, U, U, U, U, U, U, U, U, U, U, U, U, U, U, U, U, U, U, U, U, U, U, U, U, U, U, U, U, U, U, U, U, U, U, U, U, U, U, U], [(0, .whole (.nm 1) x0 []), (1, .whole (.nm 1) x1 [])]⟩
theorem F45_run (n : Nat) (a0 : Ex) : F45.run [.v (.nm 1)] [.v (.nm 1)] n (a0, ()) =
  (F75.run [PK.v (Ty.nm (1 : Nat)).sl] [RK.v Ty.bool] (4000000 : Nat) (a0.args, ())).bind fun r0 =>
    bif r0.fst.fst then
      (R33 (a0, [], ())).bind fun r1 =>
        bif decide (r1.fst.fst.kind = a0.f_Type) then
          (F53.run [PK.v (Ty.nm (0 : Nat))] [RK.v (Ty.nm (1 : Nat))] (4000000 : Nat) (r1.fst.fst, ())).bind fun r2 =>
            some ((r2.fst.fst, ()), ())
        else
          F45c5 n (a0) (zEx)
    else
      F45c5 n (a0) (zEx) := by kernel_rfl
theorem F45c5_eq (n : Nat) (x0 : Ex) (x1 : Ex) : F45c5 (n + 1) x0 x1 =
  bif decide (x0.kind = (5 : Int)) then
    bif decide (x0.op = (7 : Int)) then
      (F76.run [PK.v (Ty.nm (1 : Nat)), PK.v Ty.bool] [RK.v (Ty.nm (1 : Nat)), RK.v Ty.bool] (4000000 : Nat) (x0, decide (x0.op = (8 : Int)), ())).bind fun r3 =>
        some ((r3.fst.fst, ()), ())
    else
      bif decide (x0.op = (8 : Int)) then
        (F76.run [PK.v (Ty.nm (1 : Nat)), PK.v Ty.bool] [RK.v (Ty.nm (1 : Nat)), RK.v Ty.bool] (4000000 : Nat) (x0, decide (x0.op = (8 : Int)), ())).bind fun r4 =>
          some ((r4.fst.fst, ()), ())
      else
        F45c8 n (x0) (x1)
  else
    F45c8 n (x0) (x1) := by kernel_rfl
theorem F45c8_eq (n : Nat) (x0 : Ex) (x1 : Ex) : F45c8 (n + 1) x0 x1 =
  bif decide (x0.kind = (3 : Int)) then
    if (0 : Int) < (↑x0.args.length : Int) then
      bif decide ((x0.args.getD (Int.toNat (0 : Int)) zEx).kind = (3 : Int)) then
        if (0 : Int) < (↑x0.args.length : Int) then
          if (0 : Int) < (↑(x0.args.getD (Int.toNat (0 : Int)) zEx).args.length : Int) then
            bif decide (((x0.args.getD (Int.toNat (0 : Int)) zEx).args.getD (Int.toNat (0 : Int)) zEx).f_Type = (1 : Int)) then
              if (0 : Int) < (↑x0.args.length : Int) then
                if (0 : Int) < (↑(x0.args.getD (Int.toNat (0 : Int)) zEx).args.length : Int) then
                  some (((x0.args.getD (Int.toNat (0 : Int)) zEx).args.getD (Int.toNat (0 : Int)) zEx, ()), ())
                else
                  none
              else
                none
            else
              F45c10 n (x0) (x1)
          else
            none
        else
          none
      else
        F45c10 n (x0) (x1)
    else
      none
  else
    F45c10 n (x0) (x1) := by kernel_rfl
theorem F45c10_eq (n : Nat) (x0 : Ex) (x1 : Ex) : F45c10 (n + 1) x0 x1 =
  bif decide (x0.kind = (8 : Int)) then
    (F77.run [PK.v (Ty.nm (1 : Nat))] [RK.v (Ty.nm (1 : Nat))] (4000000 : Nat) (x0, ())).bind fun r5 =>
      some ((r5.fst.fst, ()), ())
  else
    some ((x0, ()), ()) := by kernel_rfl
noncomputable def F15c7 (g15 : G15) (n : Nat) (x0 : Ex) (x1 : Ex) := (F15 g15).at [.v (.nm 1)] [.v (.nm 1)] n 7 ⟨[U, .one (.bptr 0 0), .one (.bptr 1 0), U, U, U, U, U, U, U, U, U, U, U, U, U, U, U, U, U, U, U, U, U, U, U, U, U, U, U, U, U, U], [(0, .whole (.nm 1) x0 []), (1, .whole (.nm 1) x1 [])]⟩
noncomputable def F15c9 (g15 : G15) (n : Nat) (x0 : Int) (x1 : Ex) (x2 : Ex) (x3 : List (Ex)) := (F15 g15).at [.v (.nm 1)] [.v (.nm 1)] n 9 ⟨[U, .one (.bptr 0 0), .one (.bptr 1 0), .one (.own 2), .one (.int .i64 x0), U, U, U, U, U, U, U, U, U, U, U, U, U, U, U, U, U, U, U, U, U, U, U, U, U, U, U, U], [(0, .whole (.nm 1) x1 []), (1, .whole (.nm 1) x2 []), (2, .row 27 (.nm 1) x3 [] false)]⟩
theorem F15_run (g15 : G15) (n : Nat) (a0 : Ex) : (F15 g15).run [.v (.nm 1)] [.v (.nm 1)] n (a0, ()) =
  bif decide (a0.kind = (1 : Int)) then
    bif decide (a0.kind = (1 : Int)) then
      some ((a0, ()), ())
    else
      F15c7 g15 n (a0) (zEx)
  else
    bif decide (a0.kind = (2 : Int)) then
      bif decide (a0.kind = (2 : Int)) then
        some ((a0, ()), ())
      else
        F15c7 g15 n (a0) (zEx)
    else
      bif decide (a0.kind = (10 : Int)) then
        bif decide (a0.kind = (10 : Int)) then
          some ((a0, ()), ())
        else
          F15c7 g15 n (a0) (zEx)
      else
        bif decide (a0.kind = (11 : Int)) then
          some ((a0, ()), ())
        else
          F15c7 g15 n (a0) (zEx) := by kernel_rfl
theorem F15c7_eq (g15 : G15) (n : Nat) (x0 : Ex) (x1 : Ex) : F15c7 g15 (n + 1) x0 x1 =
  F15c9 g15 n ((0 : Int)) (x0) (x1) ([]) := by kernel_rfl
theorem F15c9_eq (g15 : G15) (n : Nat) (x0 : Int) (x1 : Ex) (x2 : Ex) (x3 : List (Ex)) : F15c9 g15 (n + 1) x0 x1 x2 x3 =
  bif decide (x0 < (↑x1.args.length : Int)) then
    if (0 : Int) ≤ x0 then
      if x0 < (↑x1.args.length : Int) then
        (g15 (x1.args.getD x0.toNat zEx, ())).bind fun r0 =>
          if x3.length + (1 : Nat) ≤ lim then
            F15c9 g15 n (IntKind.i64.wrap (x0 + (1 : Int))) (x1) (x2) (x3 ++ ([r0.fst.fst] : List (Ex)))
          else
            none
      else
        none
    else
      none
  else
    (F45.run [PK.v (Ty.nm (1 : Nat))] [RK.v (Ty.nm (1 : Nat))] (4000000 : Nat) ({ kind := x1.kind, op := x1.op, value := Val.mk x1.value.kind x1.value.int x1.value.text, table := x1.table, name := x1.name, distinct := x1.distinct, args := x3, partitionBy := x1.partitionBy, orderBy := x1.orderBy, slot := x1.slot, f_Type := x1.f_Type : Ex }, ())).bind fun r1 =>
      some ((r1.fst.fst, ()), ()) := by kernel_rfl
end Go.Proofs.Tryz
