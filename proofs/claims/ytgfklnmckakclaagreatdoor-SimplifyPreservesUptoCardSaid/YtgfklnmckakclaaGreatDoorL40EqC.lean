/- The functions of the program as the engine follows them (printed by a program of ours): their code, what is known of them, and the equations of their runs. -/
import Derived.Test.YtgfklnmckakclaaGreatDoorL40Fns
set_option linter.unusedVariables false
set_option maxRecDepth 20000
namespace Go.Proofs.Tryz
open Go.Eng
theorem F83_run (n : Nat) (a0 : Val) : F83.run [.v (.nm 0)] [.v (.nm 1)] n (a0, ()) =
  some (({ kind := (1 : Int), op := (0 : Int), value := a0, table := [], name := [], distinct := false, args := [], partitionBy := [], orderBy := [], slot := (0 : Int), f_Type := a0.kind : Ex }, ()), ()) := by kernel_rfl
theorem F52_run (n : Nat) (a0 : Bool) : F52.run [.v (.bool)] [.v (.nm 1)] n (a0, ()) =
  bif a0 then
    (F83.run [PK.v (Ty.nm (0 : Nat))] [RK.v (Ty.nm (1 : Nat))] (4000000 : Nat) ({ kind := (1 : Int), int := (1 : Int), text := [] : Val }, ())).bind fun r0 =>
      some ((r0.fst.fst, ()), ())
  else
    (F83.run [PK.v (Ty.nm (0 : Nat))] [RK.v (Ty.nm (1 : Nat))] (4000000 : Nat) ({ kind := (1 : Int), int := (0 : Int), text := [] : Val }, ())).bind fun r1 =>
      some ((r1.fst.fst, ()), ()) := by kernel_rfl
theorem F50_run (n : Nat) (a0 : Ex) (a1 : Bool) : F50.run [.v (.nm 1), .v (.bool)] [.v (.bool)] n (a0, a1, ()) =
  bif decide (a0.kind = (1 : Int)) then
    (F52.run [PK.v Ty.bool] [RK.v (Ty.nm (1 : Nat))] (4000000 : Nat) (a1, ())).bind fun r0 =>
      some ((decide (a0.value.kind = r0.fst.fst.value.kind) && (decide (a0.value.int = r0.fst.fst.value.int) && (decide (a0.value.text = r0.fst.fst.value.text) && true)), ()), ())
  else
    some ((false, ()), ()) := by kernel_rfl
noncomputable def F24c1 (g24 : G24) (n : Nat) (x0 : Ex) := (F24 g24).at [.v (.nm 1)] [.own 27 (.nm 1)] n 1 ⟨[U, .one (.bptr 0 0), U, U, U, U, U, U, U, U, U, U, U, U, U, U, U, U, U, U, U, U, U, U, U, U, U, U], [(0, .whole (.nm 1) x0 [])]⟩
theorem F24_run (g24 : G24) (n : Nat) (a0 : Ex) : (F24 g24).run [.v (.nm 1)] [.own 27 (.nm 1)] n (a0, ()) =
  F24c1 g24 n (a0) := by kernel_rfl
theorem F24c1_eq (g24 : G24) (n : Nat) (x0 : Ex) : F24c1 g24 (n + 1) x0 =
  (F50.run [PK.v (Ty.nm (1 : Nat)), PK.v Ty.bool] [RK.v Ty.bool] (4000000 : Nat) (x0, true, ())).bind fun r0 =>
    bif r0.fst.fst then
      some (([], ()), ())
    else
      bif decide (x0.kind = (5 : Int)) then
        bif decide (x0.op = (7 : Int)) then
          if (0 : Int) < (↑x0.args.length : Int) then
            (g24 (x0.args.getD (Int.toNat (0 : Int)) zEx, ())).bind fun r1 =>
              if (1 : Int) < (↑x0.args.length : Int) then
                (g24 (x0.args.getD (Int.toNat (1 : Int)) zEx, ())).bind fun r2 =>
                  if List.length r1.fst.fst + List.length r2.fst.fst ≤ lim then
                    some ((r1.fst.fst ++ r2.fst.fst, ()), ())
                  else
                    none
              else
                none
          else
            none
        else
          some (([x0], ()), ())
      else
        some (([x0], ()), ()) := by kernel_rfl
theorem F49_run (n : Nat) (a0 : Val) : F49.run [.v (.nm 0)] [.v (.bool)] n (a0, ()) =
  bif decide (a0.kind = (1 : Int)) then
    some ((decide (a0.int = (1 : Int)), ()), ())
  else
    some ((false, ()), ()) := by kernel_rfl
theorem F51_run (n : Nat) (a0 : Ex) : F51.run [.v (.nm 1)] [.v (.bool)] n (a0, ()) =
  bif decide (a0.kind = (1 : Int)) then
    (F49.run [PK.v (Ty.nm (0 : Nat))] [RK.v Ty.bool] (4000000 : Nat) (a0.value, ())).bind fun r0 =>
      some ((r0.fst.fst, ()), ())
  else
    some ((false, ()), ()) := by kernel_rfl
theorem F53_run (n : Nat) (a0 : Val) : F53.run [.v (.nm 0)] [.v (.nm 1)] n (a0, ()) =
  some (({ kind := (1 : Int), op := (0 : Int), value := a0, table := [], name := [], distinct := false, args := [], partitionBy := [], orderBy := [], slot := (0 : Int), f_Type := a0.kind : Ex }, ()), ()) := by kernel_rfl
theorem F54_run (n : Nat) (a0 : Bool) : F54.run [.v (.bool)] [.v (.nm 0)] n (a0, ()) =
  bif a0 then
    some (({ kind := (1 : Int), int := (1 : Int), text := [] : Val }, ()), ())
  else
    some (({ kind := (1 : Int), int := (0 : Int), text := [] : Val }, ()), ()) := by kernel_rfl
noncomputable def F27c5 (n : Nat) (x0 : List (Ex)) (x1 : Int) (x2 : Ex) (x3 : Ex) := F27.at [.v (.sl (.nm 1))] [.v (.nm 1)] n 5 ⟨[.one (.data (.sl (.nm 1)) x0 []), U, .one (.bptr 0 0), .one (.bptr 1 0), .one (.int .i64 x1), U, U, U, U, U, U, U, U, U, U, U, U, U, U, U, U, U, U, U, U, U, U], [(0, .whole (.nm 1) x2 []), (1, .whole (.nm 1) x3 [])]⟩
theorem F27_run (n : Nat) (a0 : List (Ex)) : F27.run [.v (.sl (.nm 1))] [.v (.nm 1)] n (a0, ()) =
  bif decide ((↑a0.length : Int) = (0 : Int)) then
    (F54.run [PK.v Ty.bool] [RK.v (Ty.nm (0 : Nat))] (4000000 : Nat) (true, ())).bind fun r0 =>
      (F53.run [PK.v (Ty.nm (0 : Nat))] [RK.v (Ty.nm (1 : Nat))] (4000000 : Nat) (r0.fst.fst, ())).bind fun r1 =>
        some ((r1.fst.fst, ()), ())
  else
    if (0 : Int) < (↑a0.length : Int) then
      F27c5 n (a0) ((1 : Int)) (zEx) (a0.getD (Int.toNat (0 : Int)) zEx)
    else
      none := by kernel_rfl
theorem F27c5_eq (n : Nat) (x0 : List (Ex)) (x1 : Int) (x2 : Ex) (x3 : Ex) : F27c5 (n + 1) x0 x1 x2 x3 =
  bif decide (x1 < (↑x0.length : Int)) then
    if (0 : Int) ≤ x1 then
      if x1 < (↑x0.length : Int) then
        F27c5 n (x0) (IntKind.i64.wrap (x1 + (1 : Int))) (x2) ({ kind := (5 : Int), op := (7 : Int), value := zVal, table := [], name := [], distinct := false, args := [x3, x0.getD x1.toNat zEx], partitionBy := [], orderBy := [], slot := (0 : Int), f_Type := (1 : Int) : Ex })
      else
        none
    else
      none
  else
    some ((x3, ()), ()) := by kernel_rfl
noncomputable def F26c5 (n : Nat) (x0 : List (Ex)) (x1 : Int) (x2 : Int) (x3 : Ex) (x4 : Ex) := F26.at [.v (.sl (.nm 1))] [.v (.nm 1)] n 5 ⟨[U, U, .one (.bptr 0 0), .one (.bptr 1 0), U, U, U, U, U, U, U, U, U, U, .one (.data (.sl (.nm 1)) x0 []), .one (.int .i64 x1), .one (.int .i64 x2), U, U, U, U, U, U, U, U, U], [(0, .whole (.nm 1) x3 []), (1, .whole (.nm 1) x4 [])]⟩
theorem F26_run (n : Nat) (a0 : List (Ex)) : F26.run [.v (.sl (.nm 1))] [.v (.nm 1)] n (a0, ()) =
  bif decide ((↑a0.length : Int) = (0 : Int)) then
    (F52.run [PK.v Ty.bool] [RK.v (Ty.nm (1 : Nat))] (4000000 : Nat) (true, ())).bind fun r0 =>
      some ((r0.fst.fst, ()), ())
  else
    if (0 : Int) < (↑a0.length : Int) then
      if (1 : Int) ≤ (↑a0.length : Int) then
        if (↑a0.length : Int) ≤ (↑a0.length : Int) then
          F26c5 n (List.drop (Int.toNat (1 : Int)) (List.take (↑a0.length : Int).toNat a0)) ((↑(List.drop (Int.toNat (1 : Int)) (List.take (↑a0.length : Int).toNat a0)).length : Int)) ((0 : Int)) (zEx) (a0.getD (Int.toNat (0 : Int)) zEx)
        else
          none
      else
        none
    else
      none := by kernel_rfl
theorem F26c5_eq (n : Nat) (x0 : List (Ex)) (x1 : Int) (x2 : Int) (x3 : Ex) (x4 : Ex) : F26c5 (n + 1) x0 x1 x2 x3 x4 =
  bif decide (x2 < x1) then
    if (0 : Int) ≤ x2 then
      if x2 < (↑x0.length : Int) then
        F26c5 n (x0) (x1) (IntKind.i64.wrap (x2 + (1 : Int))) (x3) ({ kind := (5 : Int), op := (7 : Int), value := zVal, table := [], name := [], distinct := false, args := [x4, x0.getD x2.toNat zEx], partitionBy := [], orderBy := [], slot := (0 : Int), f_Type := (1 : Int) : Ex })
      else
        none
    else
      none
  else
    some ((x4, ()), ()) := by kernel_rfl
noncomputable def F25c1 (g25 : G25) (n : Nat) (x0 : Ex) := (F25 g25).at [.v (.nm 1)] [.own 27 (.nm 1)] n 1 ⟨[U, .one (.bptr 0 0), U, U, U, U, U, U, U, U, U, U, U, U, U, U, U, U, U, U, U, U, U, U, U, U, U, U, U, U, U, U, U, U, U, U, U, U, U, U, U, U], [(0, .whole (.nm 1) x0 [])]⟩
noncomputable def F25c5 (g25 : G25) (n : Nat) (x0 : Ex) := (F25 g25).at [.v (.nm 1)] [.own 27 (.nm 1)] n 5 ⟨[U, .one (.bptr 0 0), U, U, U, U, U, U, U, U, U, U, U, U, U, U, U, U, U, U, U, U, U, U, U, U, U, U, U, U, U, U, U, U, U, U, U, U, U, U, U, U], [(0, .whole (.nm 1) x0 [])]⟩
noncomputable def F25c8 (g25 : G25) (n : Nat) (x0 : Int) (x1 : List (Ex)) (x2 : List (Ex)) := (F25 g25).at [.v (.nm 1)] [.own 27 (.nm 1)] n 8 ⟨[U, U, U, .one (.own 0), .one (.own 1), .one (.int .i64 x0), U, U, U, U, U, U, U, U, U, U, U, U, U, U, U, U, U, U, U, U, U, U, U, U, U, U, U, U, U, U, U, U, U, U, U, U], [(0, .row 27 (.nm 1) x1 [] false), (1, .row 27 (.nm 1) x2 [] false)]⟩
theorem F25_run (g25 : G25) (n : Nat) (a0 : Ex) : (F25 g25).run [.v (.nm 1)] [.own 27 (.nm 1)] n (a0, ()) =
  F25c1 g25 n (a0) := by kernel_rfl
theorem F25c1_eq (g25 : G25) (n : Nat) (x0 : Ex) : F25c1 g25 (n + 1) x0 =
  (F51.run [PK.v (Ty.nm (1 : Nat))] [RK.v Ty.bool] (4000000 : Nat) (x0, ())).bind fun r0 =>
    bif r0.fst.fst then
      some (([], ()), ())
    else
      bif !decide (x0.kind = (5 : Int)) then
        some (([x0], ()), ())
      else
        bif !decide (x0.op = (7 : Int)) then
          some (([x0], ()), ())
        else
          F25c5 g25 n (x0) := by kernel_rfl
theorem F25c5_eq (g25 : G25) (n : Nat) (x0 : Ex) : F25c5 g25 (n + 1) x0 =
  if (0 : Int) < (↑x0.args.length : Int) then
    (g25 (x0.args.getD (Int.toNat (0 : Int)) zEx, ())).bind fun r1 =>
      if (1 : Int) < (↑x0.args.length : Int) then
        (g25 (x0.args.getD (Int.toNat (1 : Int)) zEx, ())).bind fun r2 =>
          F25c8 g25 n ((0 : Int)) (r1.fst.fst) (r2.fst.fst)
      else
        none
  else
    none := by kernel_rfl
theorem F25c8_eq (g25 : G25) (n : Nat) (x0 : Int) (x1 : List (Ex)) (x2 : List (Ex)) : F25c8 g25 (n + 1) x0 x1 x2 =
  bif decide (x0 < (↑x2.length : Int)) then
    if (0 : Int) ≤ x0 then
      if x0 < (↑x2.length : Int) then
        if x1.length + (1 : Nat) ≤ lim then
          F25c8 g25 n (IntKind.i64.wrap (x0 + (1 : Int))) (x1 ++ [x2.getD x0.toNat zEx]) (x2)
        else
          none
      else
        none
    else
      none
  else
    some ((x1, ()), ()) := by kernel_rfl
end Go.Proofs.Tryz
