/- The functions of the program as the engine follows them (printed by a program of ours): their code, what is known of them, and the equations of their runs. -/
import Derived.Test.YtgfklnmckakclaaGreatDoorL40Fns
set_option linter.unusedVariables false
set_option maxRecDepth 20000
namespace Go.Proofs.Tryz
open Go.Eng
noncomputable def F42c4 (g13 : G13) (n : Nat) (x0 : List (Ex)) (x1 : List (Ex)) (x2 : Int) := (F42 g13).at [.v (.sl (.nm 1)), .v (.sl (.nm 1))] [.v (.bool)] n 4 ⟨[.one (.data (.sl (.nm 1)) x0 []), .one (.data (.sl (.nm 1)) x1 []), U, U, U, .one (.int .i64 x2), U, U, U, U, U, U, U, U, U, U, U, U, U, U, U, U, U, U, U, U, U, U, U, U, U, U, U], []⟩
noncomputable def F42c6 (g13 : G13) (n : Nat) (x0 : List (Ex)) (x1 : List (Ex)) (x2 : Int) := (F42 g13).at [.v (.sl (.nm 1)), .v (.sl (.nm 1))] [.v (.bool)] n 6 ⟨[.one (.data (.sl (.nm 1)) x0 []), .one (.data (.sl (.nm 1)) x1 []), U, U, U, .one (.int .i64 x2), U, U, U, U, U, U, U, U, U, U, U, U, U, U, U, U, U, U, U, U, U, U, U, U, U, U, U], []⟩
theorem F42_run (g13 : G13) (n : Nat) (a0 : List (Ex)) (a1 : List (Ex)) : (F42 g13).run [.v (.sl (.nm 1)), .v (.sl (.nm 1))] [.v (.bool)] n (a0, a1, ()) =
  bif !decide ((↑a0.length : Int) = (↑a1.length : Int)) then
    some ((false, ()), ())
  else
    F42c4 g13 n (a0) (a1) ((0 : Int)) := by kernel_rfl
theorem F42c4_eq (g13 : G13) (n : Nat) (x0 : List (Ex)) (x1 : List (Ex)) (x2 : Int) : F42c4 g13 (n + 1) x0 x1 x2 =
  bif decide (x2 < (↑x0.length : Int)) then
    bif decide (x2 < (↑x1.length : Int)) then
      F42c6 g13 n (x0) (x1) (x2)
    else
      some ((true, ()), ())
  else
    some ((true, ()), ()) := by kernel_rfl
theorem F42c6_eq (g13 : G13) (n : Nat) (x0 : List (Ex)) (x1 : List (Ex)) (x2 : Int) : F42c6 g13 (n + 1) x0 x1 x2 =
  if (0 : Int) ≤ x2 then
    if x2 < (↑x0.length : Int) then
      if (0 : Int) ≤ x2 then
        if x2 < (↑x1.length : Int) then
          (g13 (x0.getD x2.toNat zEx, x1.getD x2.toNat zEx, ())).bind fun r0 =>
            bif !r0.fst.fst then
              some ((false, ()), ())
            else
              F42c4 g13 n (x0) (x1) (IntKind.i64.wrap (x2 + (1 : Int)))
        else
          none
      else
        none
    else
      none
  else
    none := by kernel_rfl
noncomputable def F13c3 (g13 : G13) (n : Nat) (x0 : Ex) (x1 : Ex) := (F13 g13).at [.v (.nm 1), .v (.nm 1)] [.v (.bool)] n 3 ⟨[U, U, .one (.bptr 0 0), .one (.bptr 1 0), U, U, U, U, U, U, U, U, U, U, U, U, U, U, U, U, U, U, U, U, U, U, U, U, U, U, U, U, U, U, U, U, U, U, U, U, U, U, U, U, U, U, U, U, U, U, U, U, U, U, U, U, U, U, U, U, U, U, U, U, U, U, U, U, U, U, U, U, U, U, U, U, U, U, U, U, U, U, U, U, U, U, U, U, U, U, U, U, U, U, U, U, U, U, U, U, U, U, U, U, U, U, U, U, U, U, U, U, U, U, U, U, U, U, U, U, U, U, U, U], [(0, .whole (.nm 1) x0 []), (1, .whole (.nm 1) x1 [])]⟩
noncomputable def F13c4 (g13 : G13) (n : Nat) (x0 : Int) (x1 : Ex) (x2 : Ex) := (F13 g13).at [.v (.nm 1), .v (.nm 1)] [.v (.bool)] n 4 ⟨[U, U, .one (.bptr 0 0), .one (.bptr 1 0), U, .one (.int .i64 x0), U, U, U, U, U, U, U, U, U, U, U, U, U, U, U, U, U, U, U, U, U, U, U, U, U, U, U, U, U, U, U, U, U, U, U, U, U, U, U, U, U, U, U, U, U, U, U, U, U, U, U, U, U, U, U, U, U, U, U, U, U, U, U, U, U, U, U, U, U, U, U, U, U, U, U, U, U, U, U, U, U, U, U, U, U, U, U, U, U, U, U, U, U, U, U, U, U, U, U, U, U, U, U, U, U, U, U, U, U, U, U, U, U, U, U, U, U, U], [(0, .whole (.nm 1) x1 []), (1, .whole (.nm 1) x2 [])]⟩
noncomputable def F13c6 (g13 : G13) (n : Nat) (x0 : Int) (x1 : Ex) (x2 : Ex) := (F13 g13).at [.v (.nm 1), .v (.nm 1)] [.v (.bool)] n 6 ⟨[U, U, .one (.bptr 0 0), .one (.bptr 1 0), U, .one (.int .i64 x0), U, U, U, U, U, U, U, U, U, U, U, U, U, U, U, U, U, U, U, U, U, U, U, U, U, U, U, U, U, U, U, U, U, U, U, U, U, U, U, U, U, U, U, U, U, U, U, U, U, U, U, U, U, U, U, U, U, U, U, U, U, U, U, U, U, U, U, U, U, U, U, U, U, U, U, U, U, U, U, U, U, U, U, U, U, U, U, U, U, U, U, U, U, U, U, U, U, U, U, U, U, U, U, U, U, U, U, U, U, U, U, U, U, U, U, U, U, U], [(0, .whole (.nm 1) x1 []), (1, .whole (.nm 1) x2 [])]⟩
noncomputable def F13c8 (g13 : G13) (n : Nat) (x0 : Ex) (x1 : Ex) := (F13 g13).at [.v (.nm 1), .v (.nm 1)] [.v (.bool)] n 8 ⟨[U, U, .one (.bptr 0 0), .one (.bptr 1 0), U, U, U, U, U, U, U, U, U, U, U, U, U, U, U, U, U, U, U, U, U, U, U, U, U, U, U, U, U, U, U, U, U, U, U, U, U, U, U, U, U, U, U, U, U, U, U, U, U, U, U, U, U, U, U, U, U, U, U, U, U, U, U, U, U, U, U, U, U, U, U, U, U, U, U, U, U, U, U, U, U, U, U, U, U, U, U, U, U, U, U, U, U, U, U, U, U, U, U, U, U, U, U, U, U, U, U, U, U, U, U, U, U, U, U, U, U, U, U, U], [(0, .whole (.nm 1) x0 []), (1, .whole (.nm 1) x1 [])]⟩
theorem F13_run (g13 : G13) (n : Nat) (a0 : Ex) (a1 : Ex) : (F13 g13).run [.v (.nm 1), .v (.nm 1)] [.v (.bool)] n (a0, a1, ()) =
  bif !decide (a0.kind = a1.kind) then
    some ((false, ()), ())
  else
    bif !decide (a0.op = a1.op) then
      some ((false, ()), ())
    else
      bif !(decide (a0.value.kind = a1.value.kind) && (decide (a0.value.int = a1.value.int) && (decide (a0.value.text = a1.value.text) && true))) then
        some ((false, ()), ())
      else
        bif !decide (a0.table = a1.table) then
          some ((false, ()), ())
        else
          bif !decide (a0.name = a1.name) then
            some ((false, ()), ())
          else
            bif !decide (a0.distinct = a1.distinct) then
              some ((false, ()), ())
            else
              bif !decide (a0.slot = a1.slot) then
                some ((false, ()), ())
              else
                bif !decide (a0.f_Type = a1.f_Type) then
                  some ((false, ()), ())
                else
                  bif !decide ((↑a0.orderBy.length : Int) = (↑a1.orderBy.length : Int)) then
                    some ((false, ()), ())
                  else
                    F13c3 g13 n (a0) (a1) := by kernel_rfl
theorem F13c3_eq (g13 : G13) (n : Nat) (x0 : Ex) (x1 : Ex) : F13c3 g13 (n + 1) x0 x1 =
  F13c4 g13 n ((0 : Int)) (x0) (x1) := by kernel_rfl
theorem F13c4_eq (g13 : G13) (n : Nat) (x0 : Int) (x1 : Ex) (x2 : Ex) : F13c4 g13 (n + 1) x0 x1 x2 =
  bif decide (x0 < (↑x1.orderBy.length : Int)) then
    bif decide (x0 < (↑x2.orderBy.length : Int)) then
      F13c6 g13 n (x0) (x1) (x2)
    else
      F13c8 g13 n (x1) (x2)
  else
    F13c8 g13 n (x1) (x2) := by kernel_rfl
theorem F13c6_eq (g13 : G13) (n : Nat) (x0 : Int) (x1 : Ex) (x2 : Ex) : F13c6 g13 (n + 1) x0 x1 x2 =
  if (0 : Int) ≤ x0 then
    if x0 < (↑x1.orderBy.length : Int) then
      if (0 : Int) ≤ x0 then
        if x0 < (↑x2.orderBy.length : Int) then
          bif !decide ((x1.orderBy.getD x0.toNat zOrd1).desc = (x2.orderBy.getD x0.toNat zOrd1).desc) then
            some ((false, ()), ())
          else
            if (0 : Int) ≤ x0 then
              if x0 < (↑x1.orderBy.length : Int) then
                if (0 : Int) ≤ x0 then
                  if x0 < (↑x2.orderBy.length : Int) then
                    (g13 ((x1.orderBy.getD x0.toNat zOrd1).expr, (x2.orderBy.getD x0.toNat zOrd1).expr, ())).bind fun r0 =>
                      bif !r0.fst.fst then
                        some ((false, ()), ())
                      else
                        F13c4 g13 n (IntKind.i64.wrap (x0 + (1 : Int))) (x1) (x2)
                  else
                    none
                else
                  none
              else
                none
            else
              none
        else
          none
      else
        none
    else
      none
  else
    none := by kernel_rfl
theorem F13c8_eq (g13 : G13) (n : Nat) (x0 : Ex) (x1 : Ex) : F13c8 g13 (n + 1) x0 x1 =
  ((F42 g13).run [PK.v (Ty.nm (1 : Nat)).sl, PK.v (Ty.nm (1 : Nat)).sl] [RK.v Ty.bool] (4000000 : Nat) (x0.args, x1.args, ())).bind fun r1 =>
    bif r1.fst.fst then
      ((F42 g13).run [PK.v (Ty.nm (1 : Nat)).sl, PK.v (Ty.nm (1 : Nat)).sl] [RK.v Ty.bool] (4000000 : Nat) (x0.partitionBy, x1.partitionBy, ())).bind fun r2 =>
        some ((r2.fst.fst, ()), ())
    else
      some ((false, ()), ()) := by kernel_rfl
noncomputable def F93c1 (n : Nat) (x0 : List Int) := F93.at [.v (.str)] [.own 3 (.int .i64), .v (.int .i64), .v (.bool)] n 1 ⟨[.one (.str x0), U, U, U, U, U, U, U, U, U, U, U, U, U, U, U, U, U, U, U, U, U, U], []⟩
noncomputable def F93c14 (n : Nat)  := F93.at [.v (.str)] [.own 3 (.int .i64), .v (.int .i64), .v (.bool)] n 14 ⟨[U, U, U, U, U, U, U, U, U, U, U, U, U, U, U, U, U, U, U, U, U, U, U], []⟩
theorem F93_run (n : Nat) (a0 : List Int) : F93.run [.v (.str)] [.own 3 (.int .i64), .v (.int .i64), .v (.bool)] n (a0, ()) =
  F93c1 n (a0) := by kernel_rfl
theorem F93c1_eq (n : Nat) (x0 : List Int) : F93c1 (n + 1) x0 =
  bif decide (x0 = [(108 : Int), (101 : Int), (110 : Int), (103 : Int), (116 : Int), (104 : Int)]) then
    some (([(3 : Int)], ((2 : Int), (true, ()))), ())
  else
    bif decide (x0 = [(117 : Int), (112 : Int), (112 : Int), (101 : Int), (114 : Int)]) then
      bif decide (x0 = [(117 : Int), (112 : Int), (112 : Int), (101 : Int), (114 : Int)]) then
        some (([(3 : Int)], ((3 : Int), (true, ()))), ())
      else
        bif decide (x0 = [(115 : Int), (117 : Int), (98 : Int), (115 : Int), (116 : Int), (114 : Int)]) then
          some (([(3 : Int), (2 : Int), (2 : Int)], ((3 : Int), (true, ()))), ())
        else
          bif decide (x0 = [(97 : Int), (98 : Int), (115 : Int)]) then
            bif decide (x0 = [(97 : Int), (98 : Int), (115 : Int)]) then
              some (([(2 : Int)], ((2 : Int), (true, ()))), ())
            else
              bif decide (x0 = [(115 : Int), (116 : Int), (97 : Int), (114 : Int), (116 : Int), (115 : Int), (95 : Int), (119 : Int), (105 : Int), (116 : Int), (104 : Int)]) then
                some (([(3 : Int), (3 : Int)], ((1 : Int), (true, ()))), ())
              else
                F93c14 n 
          else
            bif decide (x0 = [(112 : Int), (97 : Int), (114 : Int), (105 : Int), (116 : Int), (121 : Int)]) then
              some (([(2 : Int)], ((2 : Int), (true, ()))), ())
            else
              bif decide (x0 = [(115 : Int), (116 : Int), (97 : Int), (114 : Int), (116 : Int), (115 : Int), (95 : Int), (119 : Int), (105 : Int), (116 : Int), (104 : Int)]) then
                some (([(3 : Int), (3 : Int)], ((1 : Int), (true, ()))), ())
              else
                F93c14 n 
    else
      bif decide (x0 = [(108 : Int), (111 : Int), (119 : Int), (101 : Int), (114 : Int)]) then
        some (([(3 : Int)], ((3 : Int), (true, ()))), ())
      else
        bif decide (x0 = [(115 : Int), (117 : Int), (98 : Int), (115 : Int), (116 : Int), (114 : Int)]) then
          some (([(3 : Int), (2 : Int), (2 : Int)], ((3 : Int), (true, ()))), ())
        else
          bif decide (x0 = [(97 : Int), (98 : Int), (115 : Int)]) then
            bif decide (x0 = [(97 : Int), (98 : Int), (115 : Int)]) then
              some (([(2 : Int)], ((2 : Int), (true, ()))), ())
            else
              bif decide (x0 = [(115 : Int), (116 : Int), (97 : Int), (114 : Int), (116 : Int), (115 : Int), (95 : Int), (119 : Int), (105 : Int), (116 : Int), (104 : Int)]) then
                some (([(3 : Int), (3 : Int)], ((1 : Int), (true, ()))), ())
              else
                F93c14 n 
          else
            bif decide (x0 = [(112 : Int), (97 : Int), (114 : Int), (105 : Int), (116 : Int), (121 : Int)]) then
              some (([(2 : Int)], ((2 : Int), (true, ()))), ())
            else
              bif decide (x0 = [(115 : Int), (116 : Int), (97 : Int), (114 : Int), (116 : Int), (115 : Int), (95 : Int), (119 : Int), (105 : Int), (116 : Int), (104 : Int)]) then
                some (([(3 : Int), (3 : Int)], ((1 : Int), (true, ()))), ())
              else
                F93c14 n  := by kernel_rfl
theorem F93c14_eq (n : Nat)  : F93c14 (n + 1)  =
  some (([], ((0 : Int), (false, ()))), ()) := by kernel_rfl
theorem F91_run (n : Nat) (a0 : List Int) (a1 : Int) : F91.run [.v (.str), .v (.int .i64)] [.v (.bool)] n (a0, a1, ()) =
  bif decide (a0 = [(110 : Int), (117 : Int), (108 : Int), (108 : Int), (105 : Int), (102 : Int)]) then
    bif decide (a1 = (2 : Int)) then
      some ((true, ()), ())
    else
      bif decide (a0 = [(99 : Int), (111 : Int), (97 : Int), (108 : Int), (101 : Int), (115 : Int), (99 : Int), (101 : Int)]) then
        some ((decide ((1 : Int) ≤ a1), ()), ())
      else
        bif decide (a0 = [(108 : Int), (101 : Int), (97 : Int), (115 : Int), (116 : Int)]) then
          some ((decide ((1 : Int) ≤ a1), ()), ())
        else
          bif decide (a0 = [(103 : Int), (114 : Int), (101 : Int), (97 : Int), (116 : Int), (101 : Int), (115 : Int), (116 : Int)]) then
            some ((decide ((1 : Int) ≤ a1), ()), ())
          else
            some ((false, ()), ())
  else
    bif decide (a0 = [(99 : Int), (111 : Int), (97 : Int), (108 : Int), (101 : Int), (115 : Int), (99 : Int), (101 : Int)]) then
      some ((decide ((1 : Int) ≤ a1), ()), ())
    else
      bif decide (a0 = [(108 : Int), (101 : Int), (97 : Int), (115 : Int), (116 : Int)]) then
        some ((decide ((1 : Int) ≤ a1), ()), ())
      else
        bif decide (a0 = [(103 : Int), (114 : Int), (101 : Int), (97 : Int), (116 : Int), (101 : Int), (115 : Int), (116 : Int)]) then
          some ((decide ((1 : Int) ≤ a1), ()), ())
        else
          some ((false, ()), ()) := by kernel_rfl
noncomputable def F112c3 (n : Nat) (x0 : List (Int)) (x1 : Int) (x2 : Int) := F112.at [.v (.sl (.int .i64))] [.v (.int .i64), .v (.bool)] n 3 ⟨[.one (.data (.sl (.int .i64)) x0 []), U, U, U, .one (.int .i64 x1), .one (.int .i64 x2), U, U, U, U, U, U, U, U, U, U, U, U, U, U, U, U, U, U, U, U, U, U, U, U, U, U, U, U, U, U, U, U, U], []⟩
noncomputable def F112c7 (n : Nat) (x0 : List (Int)) (x1 : Int) (x2 : Int) := F112.at [.v (.sl (.int .i64))] [.v (.int .i64), .v (.bool)] n 7 ⟨[.one (.data (.sl (.int .i64)) x0 []), U, U, U, .one (.int .i64 x1), .one (.int .i64 x2), U, U, U, U, U, U, U, U, U, U, U, U, U, U, U, U, U, U, U, U, U, U, U, U, U, U, U, U, U, U, U, U, U], []⟩
theorem F112_run (n : Nat) (a0 : List (Int)) : F112.run [.v (.sl (.int .i64))] [.v (.int .i64), .v (.bool)] n (a0, ()) =
  F112c3 n (a0) ((0 : Int)) ((0 : Int)) := by kernel_rfl
theorem F112c3_eq (n : Nat) (x0 : List (Int)) (x1 : Int) (x2 : Int) : F112c3 (n + 1) x0 x1 x2 =
  bif decide (x2 < (↑x0.length : Int)) then
    if (0 : Int) ≤ x2 then
      if x2 < (↑x0.length : Int) then
        bif !decide (x0.getD x2.toNat (0 : Int) = (0 : Int)) then
          bif !decide (x1 = (0 : Int)) then
            if (0 : Int) ≤ x2 then
              if x2 < (↑x0.length : Int) then
                bif !decide (x0.getD x2.toNat (0 : Int) = x1) then
                  some (((0 : Int), (false, ())), ())
                else
                  F112c7 n (x0) (x1) (x2)
              else
                none
            else
              none
          else
            F112c7 n (x0) (x1) (x2)
        else
          F112c7 n (x0) (x1) (x2)
      else
        none
    else
      none
  else
    some ((x1, (true, ())), ()) := by kernel_rfl
theorem F112c7_eq (n : Nat) (x0 : List (Int)) (x1 : Int) (x2 : Int) : F112c7 (n + 1) x0 x1 x2 =
  if (0 : Int) ≤ x2 then
    if x2 < (↑x0.length : Int) then
      bif !decide (x0.getD x2.toNat (0 : Int) = (0 : Int)) then
        if (0 : Int) ≤ x2 then
          if x2 < (↑x0.length : Int) then
            F112c3 n (x0) (x0.getD x2.toNat (0 : Int)) (IntKind.i64.wrap (x2 + (1 : Int)))
          else
            none
        else
          none
      else
        F112c3 n (x0) (x1) (IntKind.i64.wrap (x2 + (1 : Int)))
    else
      none
  else
    none := by kernel_rfl
noncomputable def F100c8 (n : Nat) (x0 : List (Int)) (x1 : Int) (x2 : List (Int)) := F100.at [.v (.str), .v (.sl (.int .i64))] [.v (.int .i64), .v (.bool)] n 8 ⟨[U, .one (.data (.sl (.int .i64)) x0 []), U, U, U, U, .one (.own 0), .one (.int .i64 x1), U, U, U, U, U, U, U, U, U, U, U, U, U, U, U, U, U, U, U, U, U, U, U, U, U, U, U, U, U, U, U, U, U, U, U, U, U, U, U, U, U, U, U, U, U, U, U, U, U, U, U], [(0, .row 3 (.int .i64) x2 [] false)]⟩
noncomputable def F100c9 (n : Nat) (x0 : List (Int)) (x1 : Int) (x2 : Int) (x3 : List (Int)) := F100.at [.v (.str), .v (.sl (.int .i64))] [.v (.int .i64), .v (.bool)] n 9 ⟨[U, .one (.data (.sl (.int .i64)) x0 []), U, U, U, U, .one (.own 0), .one (.int .i64 x1), U, .one (.int .i64 x2), U, U, U, U, U, U, U, U, U, U, U, U, U, U, U, U, U, U, U, U, U, U, U, U, U, U, U, U, U, U, U, U, U, U, U, U, U, U, U, U, U, U, U, U, U, U, U, U, U], [(0, .row 3 (.int .i64) x3 [] false)]⟩
theorem F100_run (n : Nat) (a0 : List Int) (a1 : List (Int)) : F100.run [.v (.str), .v (.sl (.int .i64))] [.v (.int .i64), .v (.bool)] n (a0, a1, ()) =
  bif decide ((256 : Int) < (↑a1.length : Int)) then
    some (((0 : Int), (false, ())), ())
  else
    (F91.run [PK.v Ty.str, PK.v (Ty.int IntKind.i64)] [RK.v Ty.bool] (4000000 : Nat) (a0, (↑a1.length : Int), ())).bind fun r0 =>
      bif r0.fst.fst then
        (F112.run [PK.v (Ty.int IntKind.i64).sl] [RK.v (Ty.int IntKind.i64), RK.v Ty.bool] (4000000 : Nat) (a1, ())).bind fun r1 =>
          some ((r1.fst.fst, (r1.fst.snd.fst, ())), ())
      else
        (F93.run [PK.v Ty.str] [RK.own (3 : TypeId) (Ty.int IntKind.i64), RK.v (Ty.int IntKind.i64), RK.v Ty.bool] (4000000 : Nat) (a0, ())).bind fun r2 =>
          bif !r2.fst.snd.snd.fst then
            some (((0 : Int), (false, ())), ())
          else
            bif !decide ((↑(List.length r2.fst.fst) : Int) = (↑a1.length : Int)) then
              some (((0 : Int), (false, ())), ())
            else
              F100c8 n (a1) (r2.fst.snd.fst) (r2.fst.fst) := by kernel_rfl
theorem F100c8_eq (n : Nat) (x0 : List (Int)) (x1 : Int) (x2 : List (Int)) : F100c8 (n + 1) x0 x1 x2 =
  F100c9 n (x0) (x1) ((0 : Int)) (x2) := by kernel_rfl
theorem F100c9_eq (n : Nat) (x0 : List (Int)) (x1 : Int) (x2 : Int) (x3 : List (Int)) : F100c9 (n + 1) x0 x1 x2 x3 =
  bif decide (x2 < (↑x3.length : Int)) then
    if (0 : Int) ≤ x2 then
      if x2 < (↑x0.length : Int) then
        if (0 : Int) ≤ x2 then
          if x2 < (↑x3.length : Int) then
            bif !decide (x0.getD x2.toNat (0 : Int) = x3.getD x2.toNat (0 : Int)) then
              if (0 : Int) ≤ x2 then
                if x2 < (↑x0.length : Int) then
                  bif !decide (x0.getD x2.toNat (0 : Int) = (0 : Int)) then
                    some (((0 : Int), (false, ())), ())
                  else
                    F100c9 n (x0) (x1) (IntKind.i64.wrap (x2 + (1 : Int))) (x3)
                else
                  none
              else
                none
            else
              F100c9 n (x0) (x1) (IntKind.i64.wrap (x2 + (1 : Int))) (x3)
          else
            none
        else
          none
      else
        none
    else
      none
  else
    some ((x1, (true, ())), ()) := by kernel_rfl
theorem F96_run (n : Nat) (a0 : Int) (a1 : Int) : F96.run [.v (.int .i64), .v (.int .i64)] [.v (.bool)] n (a0, a1, ()) =
  bif decide (a0 = (0 : Int)) then
    some ((true, ()), ())
  else
    some ((decide (a0 = a1), ()), ()) := by kernel_rfl
noncomputable def F98c3 (n : Nat) (x0 : List (Int)) (x1 : Int) (x2 : Int) := F98.at [.v (.sl (.int .i64))] [.v (.int .i64), .v (.bool)] n 3 ⟨[.one (.data (.sl (.int .i64)) x0 []), U, U, U, .one (.int .i64 x1), .one (.int .i64 x2), U, U, U, U, U, U, U, U, U, U, U, U, U, U, U, U, U, U, U, U], []⟩
noncomputable def F98c7 (n : Nat) (x0 : List (Int)) (x1 : Int) (x2 : Int) := F98.at [.v (.sl (.int .i64))] [.v (.int .i64), .v (.bool)] n 7 ⟨[.one (.data (.sl (.int .i64)) x0 []), U, U, U, .one (.int .i64 x1), .one (.int .i64 x2), U, U, U, U, U, U, U, U, U, U, U, U, U, U, U, U, U, U, U, U], []⟩
theorem F98_run (n : Nat) (a0 : List (Int)) : F98.run [.v (.sl (.int .i64))] [.v (.int .i64), .v (.bool)] n (a0, ()) =
  F98c3 n (a0) ((0 : Int)) ((0 : Int)) := by kernel_rfl
theorem F98c3_eq (n : Nat) (x0 : List (Int)) (x1 : Int) (x2 : Int) : F98c3 (n + 1) x0 x1 x2 =
  bif decide (x2 < (↑x0.length : Int)) then
    bif decide (x1 = (0 : Int)) then
      if (0 : Int) ≤ x2 then
        if x2 < (↑x0.length : Int) then
          F98c7 n (x0) (x0.getD x2.toNat (0 : Int)) (x2)
        else
          none
      else
        none
    else
      F98c7 n (x0) (x1) (x2)
  else
    some ((x1, (true, ())), ()) := by kernel_rfl
theorem F98c7_eq (n : Nat) (x0 : List (Int)) (x1 : Int) (x2 : Int) : F98c7 (n + 1) x0 x1 x2 =
  if (0 : Int) ≤ x2 then
    if x2 < (↑x0.length : Int) then
      (F96.run [PK.v (Ty.int IntKind.i64), PK.v (Ty.int IntKind.i64)] [RK.v Ty.bool] (4000000 : Nat) (x0.getD x2.toNat (0 : Int), x1, ())).bind fun r0 =>
        bif !r0.fst.fst then
          some (((0 : Int), (false, ())), ())
        else
          F98c3 n (x0) (x1) (IntKind.i64.wrap (x2 + (1 : Int)))
    else
      none
  else
    none := by kernel_rfl
noncomputable def F99c5 (n : Nat) (x0 : List (Int)) (x1 : Int) (x2 : List (Int)) := F99.at [.v (.sl (.int .i64))] [.v (.int .i64), .v (.bool)] n 5 ⟨[.one (.data (.sl (.int .i64)) x0 []), U, U, U, .one (.own 0), .one (.int .i64 x1), U, U, U, U, U, U, U, U, U, U, U, U, U, U, U, U, U, U, U, U, U, U, U, U, U, U, U, U, U, U, U, U, U, U, U, U], [(0, .row 3 (.int .i64) x2 [] false)]⟩
noncomputable def F99c10 (n : Nat) (x0 : List (Int)) (x1 : Int) (x2 : List (Int)) := F99.at [.v (.sl (.int .i64))] [.v (.int .i64), .v (.bool)] n 10 ⟨[.one (.data (.sl (.int .i64)) x0 []), U, U, U, .one (.own 0), .one (.int .i64 x1), U, U, U, U, U, U, U, U, U, U, U, U, U, U, U, U, U, U, U, U, U, U, U, U, U, U, U, U, U, U, U, U, U, U, U, U], [(0, .row 3 (.int .i64) x2 [] false)]⟩
theorem F99_run (n : Nat) (a0 : List (Int)) : F99.run [.v (.sl (.int .i64))] [.v (.int .i64), .v (.bool)] n (a0, ()) =
  bif decide ((↑a0.length : Int) < (2 : Int)) then
    some (((0 : Int), (false, ())), ())
  else
    F99c5 n (a0) ((0 : Int)) ([]) := by kernel_rfl
theorem F99c5_eq (n : Nat) (x0 : List (Int)) (x1 : Int) (x2 : List (Int)) : F99c5 (n + 1) x0 x1 x2 =
  bif decide (x1 < (↑x0.length : Int)) then
    bif decide (x1.tmod (2 : Int) = (0 : Int)) then
      bif decide (IntKind.i64.wrap (x1 + (1 : Int)) < (↑x0.length : Int)) then
        if (0 : Int) ≤ x1 then
          if x1 < (↑x0.length : Int) then
            (F96.run [PK.v (Ty.int IntKind.i64), PK.v (Ty.int IntKind.i64)] [RK.v Ty.bool] (4000000 : Nat) (x0.getD x1.toNat (0 : Int), (1 : Int), ())).bind fun r0 =>
              bif !r0.fst.fst then
                some (((0 : Int), (false, ())), ())
              else
                F99c5 n (x0) (IntKind.i64.wrap (x1 + (1 : Int))) (x2)
          else
            none
        else
          none
      else
        F99c10 n (x0) (x1) (x2)
    else
      F99c10 n (x0) (x1) (x2)
  else
    (F98.run [PK.v (Ty.int IntKind.i64).sl] [RK.v (Ty.int IntKind.i64), RK.v Ty.bool] (4000000 : Nat) (x2, ())).bind fun r1 =>
      some ((r1.fst.fst, (r1.fst.snd.fst, ())), ()) := by kernel_rfl
theorem F99c10_eq (n : Nat) (x0 : List (Int)) (x1 : Int) (x2 : List (Int)) : F99c10 (n + 1) x0 x1 x2 =
  if (0 : Int) ≤ x1 then
    if x1 < (↑x0.length : Int) then
      if x2.length + (1 : Nat) ≤ lim then
        F99c5 n (x0) (IntKind.i64.wrap (x1 + (1 : Int))) (x2 ++ [x0.getD x1.toNat (0 : Int)])
      else
        none
    else
      none
  else
    none := by kernel_rfl
noncomputable def F97c6 (n : Nat) (x0 : Int) (x1 : List (Int)) := F97.at [.v (.int .i64), .v (.sl (.int .i64))] [.v (.int .i64), .v (.bool)] n 6 ⟨[.one (.int .i64 x0), .one (.data (.sl (.int .i64)) x1 []), U, U, U, U, U, U, U, U, U, U, U, U, U, U, U, U, U, U, U, U, U, U, U, U, U, U, U, U, U, U, U, U, U, U, U, U, U, U, U, U, U, U, U, U, U, U, U, U, U, U, U, U, U, U, U, U], []⟩
noncomputable def F97c15 (n : Nat) (x0 : List (Int)) (x1 : Int) (x2 : Int) := F97.at [.v (.int .i64), .v (.sl (.int .i64))] [.v (.int .i64), .v (.bool)] n 15 ⟨[U, .one (.data (.sl (.int .i64)) x0 []), U, U, U, U, U, U, .one (.int .i64 x1), .one (.int .i64 x2), U, U, U, U, U, U, U, U, U, U, U, U, U, U, U, U, U, U, U, U, U, U, U, U, U, U, U, U, U, U, U, U, U, U, U, U, U, U, U, U, U, U, U, U, U, U, U, U], []⟩
theorem F97_run (n : Nat) (a0 : Int) (a1 : List (Int)) : F97.run [.v (.int .i64), .v (.sl (.int .i64))] [.v (.int .i64), .v (.bool)] n (a0, a1, ()) =
  bif !decide ((↑a1.length : Int) = (2 : Int)) then
    some (((0 : Int), (false, ())), ())
  else
    bif decide ((1 : Int) ≤ a0) then
      bif decide (a0 ≤ (6 : Int)) then
        (F98.run [PK.v (Ty.int IntKind.i64).sl] [RK.v (Ty.int IntKind.i64), RK.v Ty.bool] (4000000 : Nat) (a1, ())).bind fun r0 =>
          some (((1 : Int), (r0.fst.snd.fst, ())), ())
      else
        F97c6 n (a0) (a1)
    else
      F97c6 n (a0) (a1) := by kernel_rfl
theorem F97c6_eq (n : Nat) (x0 : Int) (x1 : List (Int)) : F97c6 (n + 1) x0 x1 =
  bif decide (x0 = (7 : Int)) then
    F97c15 n (x1) ((1 : Int)) ((1 : Int))
  else
    bif decide (x0 = (8 : Int)) then
      F97c15 n (x1) ((1 : Int)) ((1 : Int))
    else
      bif decide (x0 = (14 : Int)) then
        F97c15 n (x1) ((3 : Int)) ((3 : Int))
      else
        bif decide (x0 = (15 : Int)) then
          F97c15 n (x1) ((3 : Int)) ((1 : Int))
        else
          bif decide (x0 < (9 : Int)) then
            some (((0 : Int), (false, ())), ())
          else
            bif decide ((13 : Int) < x0) then
              some (((0 : Int), (false, ())), ())
            else
              F97c15 n (x1) ((2 : Int)) ((2 : Int)) := by kernel_rfl
theorem F97c15_eq (n : Nat) (x0 : List (Int)) (x1 : Int) (x2 : Int) : F97c15 (n + 1) x0 x1 x2 =
  if (0 : Int) < (↑x0.length : Int) then
    (F96.run [PK.v (Ty.int IntKind.i64), PK.v (Ty.int IntKind.i64)] [RK.v Ty.bool] (4000000 : Nat) (x0.getD (Int.toNat (0 : Int)) (0 : Int), x1, ())).bind fun r1 =>
      bif r1.fst.fst then
        if (1 : Int) < (↑x0.length : Int) then
          (F96.run [PK.v (Ty.int IntKind.i64), PK.v (Ty.int IntKind.i64)] [RK.v Ty.bool] (4000000 : Nat) (x0.getD (Int.toNat (1 : Int)) (0 : Int), x1, ())).bind fun r2 =>
            some ((x2, (r2.fst.fst, ())), ())
        else
          none
      else
        some ((x2, (false, ())), ())
  else
    none := by kernel_rfl
theorem F82_run (n : Nat) (a0 : Val) : F82.run [.v (.nm 0)] [.v (.bool)] n (a0, ()) =
  bif decide (a0.kind = (0 : Int)) then
    bif decide (a0.int = (0 : Int)) then
      some ((decide (a0.text = []), ()), ())
    else
      some ((false, ()), ())
  else
    bif decide (a0.kind = (1 : Int)) then
      bif decide (a0.int = (0 : Int)) then
        some ((decide (a0.text = []), ()), ())
      else
        bif decide (a0.int = (1 : Int)) then
          some ((decide (a0.text = []), ()), ())
        else
          some ((false, ()), ())
    else
      bif decide (a0.kind = (2 : Int)) then
        some ((decide (a0.text = []), ()), ())
      else
        bif decide (a0.kind = (3 : Int)) then
          bif decide (a0.int = (0 : Int)) then
            some ((decide ((↑a0.text.length : Int) ≤ (4096 : Int)), ()), ())
          else
            some ((false, ()), ())
        else
          some ((false, ()), ()) := by kernel_rfl
noncomputable def F95c3 (n : Nat) (x0 : Ex) := F95.at [.v (.nm 1)] [.v (.bool)] n 3 ⟨[U, .one (.bptr 0 0), U, U, U, U, U, U, U, U, U, U, U, U, U, U, U, U, U, U, U, U, U, U, U, U, U, U, U, U, U, U, U, U, U, U, U, U, U, U, U, U, U, U, U, U, U, U, U, U, U, U, U, U, U, U, U, U, U, U, U, U, U, U, U, U, U, U, U, U, U, U, U], [(0, .whole (.nm 1) x0 [])]⟩
theorem F95_run (n : Nat) (a0 : Ex) : F95.run [.v (.nm 1)] [.v (.bool)] n (a0, ()) =
  bif !decide (a0.kind = (1 : Int)) then
    bif !(decide (a0.value.kind = (0 : Int)) && (decide (a0.value.int = (0 : Int)) && (decide (a0.value.text = []) && true))) then
      some ((false, ()), ())
    else
      bif !decide (a0.kind = (2 : Int)) then
        bif !decide (a0.slot = (0 : Int)) then
          some ((false, ()), ())
        else
          bif !decide (a0.table = []) then
            some ((false, ()), ())
          else
            bif !decide (a0.kind = (5 : Int)) then
              bif !decide (a0.op = (0 : Int)) then
                some ((false, ()), ())
              else
                F95c3 n (a0)
            else
              F95c3 n (a0)
      else
        bif !decide (a0.kind = (5 : Int)) then
          bif !decide (a0.op = (0 : Int)) then
            some ((false, ()), ())
          else
            F95c3 n (a0)
        else
          F95c3 n (a0)
  else
    bif !decide (a0.kind = (2 : Int)) then
      bif !decide (a0.slot = (0 : Int)) then
        some ((false, ()), ())
      else
        bif !decide (a0.table = []) then
          some ((false, ()), ())
        else
          bif !decide (a0.kind = (5 : Int)) then
            bif !decide (a0.op = (0 : Int)) then
              some ((false, ()), ())
            else
              F95c3 n (a0)
          else
            F95c3 n (a0)
    else
      bif !decide (a0.kind = (5 : Int)) then
        bif !decide (a0.op = (0 : Int)) then
          some ((false, ()), ())
        else
          F95c3 n (a0)
      else
        F95c3 n (a0) := by kernel_rfl
theorem F95c3_eq (n : Nat) (x0 : Ex) : F95c3 (n + 1) x0 =
  bif decide (x0.name = []) then
    bif !x0.distinct then
      bif decide ((↑x0.partitionBy.length : Int) = (0 : Int)) then
        bif decide ((↑x0.orderBy.length : Int) = (0 : Int)) then
          some ((decide ((↑x0.args.length : Int) ≤ (256 : Int)), ()), ())
        else
          some ((false, ()), ())
      else
        some ((false, ()), ())
    else
      some ((false, ()), ())
  else
    bif decide (x0.kind = (2 : Int)) then
      bif !x0.distinct then
        bif decide ((↑x0.partitionBy.length : Int) = (0 : Int)) then
          bif decide ((↑x0.orderBy.length : Int) = (0 : Int)) then
            some ((decide ((↑x0.args.length : Int) ≤ (256 : Int)), ()), ())
          else
            some ((false, ()), ())
        else
          some ((false, ()), ())
      else
        some ((false, ()), ())
    else
      bif decide (x0.kind = (9 : Int)) then
        bif !x0.distinct then
          bif decide ((↑x0.partitionBy.length : Int) = (0 : Int)) then
            bif decide ((↑x0.orderBy.length : Int) = (0 : Int)) then
              some ((decide ((↑x0.args.length : Int) ≤ (256 : Int)), ()), ())
            else
              some ((false, ()), ())
          else
            some ((false, ()), ())
        else
          some ((false, ()), ())
      else
        some ((false, ()), ()) := by kernel_rfl
noncomputable def F70c5 (g70 : G70) (n : Nat) (x0 : List (Int)) (x1 : Int) (x2 : Ex) (x3 : List (Int)) := (F70 g70).at [.v (.nm 1), .v (.sl (.int .i64))] [.v (.int .i64), .v (.bool)] n 5 ⟨[U, .one (.data (.sl (.int .i64)) x0 []), .one (.bptr 0 0), U, U, U, .one (.own 1), .one (.int .i64 x1), U, U, U, U, U, U, U, U, U, U, U, U, U, U, U, U, U, U, U, U, U, U, U, U, U, U, U, U, U, U, U, U, U, U, U, U, U, U, U, U, U, U, U, U, U, U, U, U, U, U, U, U, U, U, U, U, U, U, U, U, U, U, U, U, U, U, U, U, U, U, U, U, U, U, U, U, U, U, U, U, U, U, U, U, U, U, U, U, U, U, U, U, U, U, U, U, U, U, U, U, U, U, U, U, U, U, U, U, U, U, U, U, U, U, U, U, U, U, U, U, U, U, U, U, U, U, U, U, U, U, U, U, U, U, U, U, U, U, U], [(0, .whole (.nm 1) x2 []), (1, .row 3 (.int .i64) x3 [] false)]⟩
noncomputable def F70c10 (g70 : G70) (n : Nat) (x0 : List (Int)) (x1 : Int) (x2 : Int) (x3 : Ex) (x4 : List (Int)) := (F70 g70).at [.v (.nm 1), .v (.sl (.int .i64))] [.v (.int .i64), .v (.bool)] n 10 ⟨[U, .one (.data (.sl (.int .i64)) x0 []), .one (.bptr 0 0), U, U, U, .one (.own 1), .one (.int .i64 x1), .one (.int .i64 x2), U, U, U, U, U, U, U, U, U, U, U, U, U, U, U, U, U, U, U, U, U, U, U, U, U, U, U, U, U, U, U, U, U, U, U, U, U, U, U, U, U, U, U, U, U, U, U, U, U, U, U, U, U, U, U, U, U, U, U, U, U, U, U, U, U, U, U, U, U, U, U, U, U, U, U, U, U, U, U, U, U, U, U, U, U, U, U, U, U, U, U, U, U, U, U, U, U, U, U, U, U, U, U, U, U, U, U, U, U, U, U, U, U, U, U, U, U, U, U, U, U, U, U, U, U, U, U, U, U, U, U, U, U, U, U, U, U, U], [(0, .whole (.nm 1) x3 []), (1, .row 3 (.int .i64) x4 [] false)]⟩
noncomputable def F70c17 (g70 : G70) (n : Nat) (x0 : List (Int)) (x1 : Ex) := (F70 g70).at [.v (.nm 1), .v (.sl (.int .i64))] [.v (.int .i64), .v (.bool)] n 17 ⟨[U, .one (.data (.sl (.int .i64)) x0 []), .one (.bptr 0 0), U, U, U, U, U, U, U, U, U, U, U, U, U, U, U, U, U, U, U, U, U, U, U, U, U, U, U, U, U, U, U, U, U, U, U, U, U, U, U, U, U, U, U, U, U, U, U, U, U, U, U, U, U, U, U, U, U, U, U, U, U, U, U, U, U, U, U, U, U, U, U, U, U, U, U, U, U, U, U, U, U, U, U, U, U, U, U, U, U, U, U, U, U, U, U, U, U, U, U, U, U, U, U, U, U, U, U, U, U, U, U, U, U, U, U, U, U, U, U, U, U, U, U, U, U, U, U, U, U, U, U, U, U, U, U, U, U, U, U, U, U, U, U, U], [(0, .whole (.nm 1) x1 [])]⟩
theorem F70_run (g70 : G70) (n : Nat) (a0 : Ex) (a1 : List (Int)) : (F70 g70).run [.v (.nm 1), .v (.sl (.int .i64))] [.v (.int .i64), .v (.bool)] n (a0, a1, ()) =
  (F95.run [PK.v (Ty.nm (1 : Nat))] [RK.v Ty.bool] (4000000 : Nat) (a0, ())).bind fun r0 =>
    bif !r0.fst.fst then
      some (((0 : Int), (false, ())), ())
    else
      F70c5 g70 n (a1) ((0 : Int)) (a0) ([]) := by kernel_rfl
theorem F70c5_eq (g70 : G70) (n : Nat) (x0 : List (Int)) (x1 : Int) (x2 : Ex) (x3 : List (Int)) : F70c5 g70 (n + 1) x0 x1 x2 x3 =
  bif decide (x1 < (↑x2.args.length : Int)) then
    if (0 : Int) ≤ x1 then
      if x1 < (↑x2.args.length : Int) then
        (g70 (x2.args.getD x1.toNat zEx, x0, ())).bind fun r1 =>
          bif !r1.fst.snd.fst then
            some (((0 : Int), (false, ())), ())
          else
            if (0 : Int) ≤ x1 then
              if x1 < (↑x2.args.length : Int) then
                bif !decide (r1.fst.fst = (x2.args.getD x1.toNat zEx).f_Type) then
                  some (((0 : Int), (false, ())), ())
                else
                  F70c10 g70 n (x0) (x1) (r1.fst.fst) (x2) (x3)
              else
                none
            else
              none
      else
        none
    else
      none
  else
    bif decide (x2.kind = (1 : Int)) then
      (F82.run [PK.v (Ty.nm (0 : Nat))] [RK.v Ty.bool] (4000000 : Nat) (x2.value, ())).bind fun r2 =>
        bif r2.fst.fst then
          some ((x2.value.kind, (decide ((↑x3.length : Int) = (0 : Int)), ())), ())
        else
          some ((x2.value.kind, (false, ())), ())
    else
      bif decide (x2.kind = (2 : Int)) then
        bif decide (x2.slot < (0 : Int)) then
          some (((0 : Int), (false, ())), ())
        else
          bif decide ((↑x0.length : Int) ≤ x2.slot) then
            some (((0 : Int), (false, ())), ())
          else
            bif decide ((0 : Int) < (↑x3.length : Int)) then
              some (((0 : Int), (false, ())), ())
            else
              F70c17 g70 n (x0) (x2)
      else
        bif decide (x2.kind = (3 : Int)) then
          bif decide ((↑x3.length : Int) = (1 : Int)) then
            if (0 : Int) < (↑x3.length : Int) then
              (F96.run [PK.v (Ty.int IntKind.i64), PK.v (Ty.int IntKind.i64)] [RK.v Ty.bool] (4000000 : Nat) (x3.getD (Int.toNat (0 : Int)) (0 : Int), (1 : Int), ())).bind fun r3 =>
                some (((1 : Int), (r3.fst.fst, ())), ())
            else
              none
          else
            some (((1 : Int), (false, ())), ())
        else
          bif decide (x2.kind = (4 : Int)) then
            bif decide ((↑x3.length : Int) = (1 : Int)) then
              if (0 : Int) < (↑x3.length : Int) then
                (F96.run [PK.v (Ty.int IntKind.i64), PK.v (Ty.int IntKind.i64)] [RK.v Ty.bool] (4000000 : Nat) (x3.getD (Int.toNat (0 : Int)) (0 : Int), (2 : Int), ())).bind fun r4 =>
                  some (((2 : Int), (r4.fst.fst, ())), ())
              else
                none
            else
              some (((2 : Int), (false, ())), ())
          else
            bif decide (x2.kind = (5 : Int)) then
              (F97.run [PK.v (Ty.int IntKind.i64), PK.v (Ty.int IntKind.i64).sl] [RK.v (Ty.int IntKind.i64), RK.v Ty.bool] (4000000 : Nat) (x2.op, x3, ())).bind fun r5 =>
                some ((r5.fst.fst, (r5.fst.snd.fst, ())), ())
            else
              bif decide (x2.kind = (6 : Int)) then
                some (((1 : Int), (decide ((↑x3.length : Int) = (1 : Int)), ())), ())
              else
                bif decide (x2.kind = (7 : Int)) then
                  (F98.run [PK.v (Ty.int IntKind.i64).sl] [RK.v (Ty.int IntKind.i64), RK.v Ty.bool] (4000000 : Nat) (x3, ())).bind fun r6 =>
                    bif r6.fst.snd.fst then
                      some (((1 : Int), (decide ((2 : Int) ≤ (↑x3.length : Int)), ())), ())
                    else
                      some (((1 : Int), (false, ())), ())
                else
                  bif decide (x2.kind = (8 : Int)) then
                    (F99.run [PK.v (Ty.int IntKind.i64).sl] [RK.v (Ty.int IntKind.i64), RK.v Ty.bool] (4000000 : Nat) (x3, ())).bind fun r7 =>
                      some ((r7.fst.fst, (r7.fst.snd.fst, ())), ())
                  else
                    bif decide (x2.kind = (9 : Int)) then
                      (F100.run [PK.v Ty.str, PK.v (Ty.int IntKind.i64).sl] [RK.v (Ty.int IntKind.i64), RK.v Ty.bool] (4000000 : Nat) (x2.name, x3, ())).bind fun r8 =>
                        some ((r8.fst.fst, (r8.fst.snd.fst, ())), ())
                    else
                      some (((0 : Int), (false, ())), ()) := by kernel_rfl
theorem F70c10_eq (g70 : G70) (n : Nat) (x0 : List (Int)) (x1 : Int) (x2 : Int) (x3 : Ex) (x4 : List (Int)) : F70c10 g70 (n + 1) x0 x1 x2 x3 x4 =
  if x4.length + (1 : Nat) ≤ lim then
    F70c5 g70 n (x0) (IntKind.i64.wrap (x1 + (1 : Int))) (x3) (x4 ++ [x2])
  else
    none := by kernel_rfl
theorem F70c17_eq (g70 : G70) (n : Nat) (x0 : List (Int)) (x1 : Ex) : F70c17 g70 (n + 1) x0 x1 =
  if (0 : Int) ≤ x1.slot then
    if x1.slot < (↑x0.length : Int) then
      some ((x0.getD x1.slot.toNat (0 : Int), (true, ())), ())
    else
      none
  else
    none := by kernel_rfl
noncomputable def F34c3 (g34 : G34) (n : Nat) (x0 : Int) (x1 : Int) (x2 : Ex) := (F34 g34).at [.v (.nm 1)] [.v (.int .i64)] n 3 ⟨[U, .one (.bptr 0 0), U, .one (.int .i64 x0), .one (.int .i64 x1), U, U, U, U, U, U, U, U, U, U, U, U, U, U, U, U, U, U, U, U, U, U, U, U, U, U, U, U, U, U, U, U, U, U, U, U, U, U, U, U, U, U, U, U, U, U, U, U, U, U], [(0, .whole (.nm 1) x2 [])]⟩
noncomputable def F34c7 (g34 : G34) (n : Nat) (x0 : Int) (x1 : Int) (x2 : Ex) := (F34 g34).at [.v (.nm 1)] [.v (.int .i64)] n 7 ⟨[U, .one (.bptr 0 0), U, .one (.int .i64 x0), U, .one (.int .i64 x1), U, U, U, U, U, U, U, U, U, U, U, U, U, U, U, U, U, U, U, U, U, U, U, U, U, U, U, U, U, U, U, U, U, U, U, U, U, U, U, U, U, U, U, U, U, U, U, U, U], [(0, .whole (.nm 1) x2 [])]⟩
noncomputable def F34c11 (g34 : G34) (n : Nat) (x0 : Int) (x1 : Int) (x2 : Ex) := (F34 g34).at [.v (.nm 1)] [.v (.int .i64)] n 11 ⟨[U, .one (.bptr 0 0), U, .one (.int .i64 x0), U, U, .one (.int .i64 x1), U, U, U, U, U, U, U, U, U, U, U, U, U, U, U, U, U, U, U, U, U, U, U, U, U, U, U, U, U, U, U, U, U, U, U, U, U, U, U, U, U, U, U, U, U, U, U, U], [(0, .whole (.nm 1) x2 [])]⟩
theorem F34_run (g34 : G34) (n : Nat) (a0 : Ex) : (F34 g34).run [.v (.nm 1)] [.v (.int .i64)] n (a0, ()) =
  F34c3 g34 n ((0 : Int)) ((0 : Int)) (a0) := by kernel_rfl
theorem F34c3_eq (g34 : G34) (n : Nat) (x0 : Int) (x1 : Int) (x2 : Ex) : F34c3 g34 (n + 1) x0 x1 x2 =
  bif decide (x1 < (↑x2.args.length : Int)) then
    if (0 : Int) ≤ x1 then
      if x1 < (↑x2.args.length : Int) then
        (g34 (x2.args.getD x1.toNat zEx, ())).bind fun r0 =>
          F34c3 g34 n (imax x0 r0.fst.fst) (IntKind.i64.wrap (x1 + (1 : Int))) (x2)
      else
        none
    else
      none
  else
    F34c7 g34 n (x0) ((0 : Int)) (x2) := by kernel_rfl
theorem F34c7_eq (g34 : G34) (n : Nat) (x0 : Int) (x1 : Int) (x2 : Ex) : F34c7 g34 (n + 1) x0 x1 x2 =
  bif decide (x1 < (↑x2.partitionBy.length : Int)) then
    if (0 : Int) ≤ x1 then
      if x1 < (↑x2.partitionBy.length : Int) then
        (g34 (x2.partitionBy.getD x1.toNat zEx, ())).bind fun r1 =>
          F34c7 g34 n (imax x0 r1.fst.fst) (IntKind.i64.wrap (x1 + (1 : Int))) (x2)
      else
        none
    else
      none
  else
    F34c11 g34 n (x0) ((0 : Int)) (x2) := by kernel_rfl
theorem F34c11_eq (g34 : G34) (n : Nat) (x0 : Int) (x1 : Int) (x2 : Ex) : F34c11 g34 (n + 1) x0 x1 x2 =
  bif decide (x1 < (↑x2.orderBy.length : Int)) then
    if (0 : Int) ≤ x1 then
      if x1 < (↑x2.orderBy.length : Int) then
        (g34 ((x2.orderBy.getD x1.toNat zOrd1).expr, ())).bind fun r2 =>
          F34c11 g34 n (imax x0 r2.fst.fst) (IntKind.i64.wrap (x1 + (1 : Int))) (x2)
      else
        none
    else
      none
  else
    some ((IntKind.i64.wrap (x0 + (1 : Int)), ()), ()) := by kernel_rfl
theorem F35_run (n : Nat) (a0 : Ex) (a1 : List (Int)) : F35.run [.v (.nm 1), .v (.sl (.int .i64))] [.v (.bool)] n (a0, a1, ()) =
  (R34 (a0, ())).bind fun r0 =>
    bif decide ((32 : Int) < r0.fst.fst) then
      some ((false, ()), ())
    else
      (R70 (a0, a1, ())).bind fun r1 =>
        bif r1.fst.snd.fst then
          some ((decide (r1.fst.fst = a0.f_Type), ()), ())
        else
          some ((false, ()), ()) := by kernel_rfl
noncomputable def F36c1 (n : Nat)  := F36.at [] [.own 3 (.int .i64)] n 1 ⟨[U, U], []⟩
theorem F36_run (n : Nat)  : F36.run [] [.own 3 (.int .i64)] n (()) =
  F36c1 n  := by kernel_rfl
theorem F36c1_eq (n : Nat)  : F36c1 (n + 1)  =
  some (([(2 : Int), (2 : Int), (3 : Int), (1 : Int), (2 : Int), (1 : Int), (3 : Int), (0 : Int)], ()), ()) := by kernel_rfl
noncomputable def F38c3 (g38 : G38) (n : Nat) (x0 : Int) (x1 : Int) (x2 : Ex) := (F38 g38).at [.v (.nm 1), .v (.int .i64)] [.v (.int .i64)] n 3 ⟨[U, .one (.int .i64 x0), .one (.bptr 0 0), U, U, .one (.int .i64 x1), U, U, U, U, U, U, U, U, U, U, U, U, U, U, U, U, U, U, U, U, U], [(0, .whole (.nm 1) x2 [])]⟩
noncomputable def F38c5 (g38 : G38) (n : Nat) (x0 : Int) (x1 : Int) (x2 : Ex) := (F38 g38).at [.v (.nm 1), .v (.int .i64)] [.v (.int .i64)] n 5 ⟨[U, .one (.int .i64 x0), .one (.bptr 0 0), U, U, .one (.int .i64 x1), U, U, U, U, U, U, U, U, U, U, U, U, U, U, U, U, U, U, U, U, U], [(0, .whole (.nm 1) x2 [])]⟩
theorem F38_run (g38 : G38) (n : Nat) (a0 : Ex) (a1 : Int) : (F38 g38).run [.v (.nm 1), .v (.int .i64)] [.v (.int .i64)] n (a0, a1, ()) =
  F38c3 g38 n (IntKind.i64.wrap (a1 + (1 : Int))) ((0 : Int)) (a0) := by kernel_rfl
theorem F38c3_eq (g38 : G38) (n : Nat) (x0 : Int) (x1 : Int) (x2 : Ex) : F38c3 g38 (n + 1) x0 x1 x2 =
  bif decide (x1 < (↑x2.args.length : Int)) then
    bif decide (x0 < (200 : Int)) then
      F38c5 g38 n (x0) (x1) (x2)
    else
      some ((x0, ()), ())
  else
    some ((x0, ()), ()) := by kernel_rfl
theorem F38c5_eq (g38 : G38) (n : Nat) (x0 : Int) (x1 : Int) (x2 : Ex) : F38c5 g38 (n + 1) x0 x1 x2 =
  if (0 : Int) ≤ x1 then
    if x1 < (↑x2.args.length : Int) then
      (g38 (x2.args.getD x1.toNat zEx, x0, ())).bind fun r0 =>
        F38c3 g38 n (r0.fst.fst) (IntKind.i64.wrap (x1 + (1 : Int))) (x2)
    else
      none
  else
    none := by kernel_rfl
theorem F11_run (n : Nat) (a0 : Ex) : F11.run [.v (.nm 1)] [.v (.bool)] n (a0, ()) =
  (R38 (a0, (0 : Int), ())).bind fun r0 =>
    bif decide (r0.fst.fst < (200 : Int)) then
      (F36.run [] [RK.own (3 : TypeId) (Ty.int IntKind.i64)] (4000000 : Nat) ()).bind fun r1 =>
        (F35.run [PK.v (Ty.nm (1 : Nat)), PK.v (Ty.int IntKind.i64).sl] [RK.v Ty.bool] (4000000 : Nat) (a0, r1.fst.fst, ())).bind fun r2 =>
          some ((r2.fst.fst, ()), ())
    else
      some ((false, ()), ()) := by kernel_rfl
noncomputable def F19c4 (n : Nat) (x0 : List (Ex)) (x1 : List (Ex)) (x2 : Int) := F19.at [.v (.sl (.nm 1)), .v (.sl (.nm 1))] [.v (.bool)] n 4 ⟨[.one (.data (.sl (.nm 1)) x0 []), .one (.data (.sl (.nm 1)) x1 []), U, U, U, .one (.int .i64 x2), U, U, U, U, U, U, U, U, U, U, U, U, U, U, U, U, U, U, U, U, U], []⟩
theorem F19_run (n : Nat) (a0 : List (Ex)) (a1 : List (Ex)) : F19.run [.v (.sl (.nm 1)), .v (.sl (.nm 1))] [.v (.bool)] n (a0, a1, ()) =
  bif !decide ((↑a0.length : Int) = (↑a1.length : Int)) then
    some ((false, ()), ())
  else
    F19c4 n (a0) (a1) ((0 : Int)) := by kernel_rfl
theorem F19c4_eq (n : Nat) (x0 : List (Ex)) (x1 : List (Ex)) (x2 : Int) : F19c4 (n + 1) x0 x1 x2 =
  bif decide (x2 < (↑x0.length : Int)) then
    if (0 : Int) ≤ x2 then
      if x2 < (↑x0.length : Int) then
        if (0 : Int) ≤ x2 then
          if x2 < (↑x1.length : Int) then
            (R13 (x0.getD x2.toNat zEx, x1.getD x2.toNat zEx, ())).bind fun r0 =>
              bif !r0.fst.fst then
                some ((false, ()), ())
              else
                F19c4 n (x0) (x1) (IntKind.i64.wrap (x2 + (1 : Int)))
          else
            none
        else
          none
      else
        none
    else
      none
  else
    some ((true, ()), ()) := by kernel_rfl
noncomputable def F16c2 (n : Nat) (x0 : List (Ex)) (x1 : Int) := F16.at [.v (.sl (.nm 1))] [.v (.bool)] n 2 ⟨[.one (.data (.sl (.nm 1)) x0 []), U, U, .one (.int .i64 x1), U, U, U, U, U, U, U, U, U, U, U, U, U, U, U, U, U, U, U], []⟩
noncomputable def F16c4 (n : Nat) (x0 : List (Ex)) (x1 : Int) := F16.at [.v (.sl (.nm 1))] [.v (.bool)] n 4 ⟨[.one (.data (.sl (.nm 1)) x0 []), U, U, .one (.int .i64 x1), U, U, U, U, U, U, U, U, U, U, U, U, U, U, U, U, U, U, U], []⟩
theorem F16_run (n : Nat) (a0 : List (Ex)) : F16.run [.v (.sl (.nm 1))] [.v (.bool)] n (a0, ()) =
  F16c2 n (a0) ((0 : Int)) := by kernel_rfl
theorem F16c2_eq (n : Nat) (x0 : List (Ex)) (x1 : Int) : F16c2 (n + 1) x0 x1 =
  bif decide (x1 < (↑x0.length : Int)) then
    bif decide (x1 < (20 : Int)) then
      F16c4 n (x0) (x1)
    else
      some ((decide ((↑x0.length : Int) ≤ (20 : Int)), ()), ())
  else
    some ((decide ((↑x0.length : Int) ≤ (20 : Int)), ()), ()) := by kernel_rfl
theorem F16c4_eq (n : Nat) (x0 : List (Ex)) (x1 : Int) : F16c4 (n + 1) x0 x1 =
  if (0 : Int) ≤ x1 then
    if x1 < (↑x0.length : Int) then
      (F11.run [PK.v (Ty.nm (1 : Nat))] [RK.v Ty.bool] (4000000 : Nat) (x0.getD x1.toNat zEx, ())).bind fun r0 =>
        bif !r0.fst.fst then
          some ((false, ()), ())
        else
          F16c2 n (x0) (IntKind.i64.wrap (x1 + (1 : Int)))
    else
      none
  else
    none := by kernel_rfl
end Go.Proofs.Tryz
