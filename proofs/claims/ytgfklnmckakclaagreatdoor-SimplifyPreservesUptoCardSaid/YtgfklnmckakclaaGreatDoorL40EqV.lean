/- The functions of the program as the engine follows them (printed by a program of ours): their code, what is known of them, and the equations of their runs. -/
import Derived.Test.YtgfklnmckakclaaGreatDoorL40Fns
set_option linter.unusedVariables false
set_option maxRecDepth 20000
namespace Go.Proofs.Tryz
open Go.Eng
noncomputable def F111c3 (n : Nat) (x0 : List Int) (x1 : Int) (x2 : Int) (x3 : List Int) (x4 : Int) := F111.at [.v (.str), .v (.int .i64), .v (.int .i64)] [.v (.str)] n 3 ⟨[.one (.str x0), .one (.int .i64 x1), .one (.int .i64 x2), U, U, U, U, .one (.str x3), .one (.int .i64 x4), U, U, U, U, U, U, U, U, U, U, U, U, U, U, U, U, U, U, U, U, U, U, U, U, U, U, U, U, U, U, U, U, U, U, U, U, U, U, U, U, U, U, U, U, U, U, U, U, U, U, U, U, U, U, U, U], []⟩
noncomputable def F111c4 (n : Nat) (x0 : List Int) (x1 : Int) (x2 : Int) (x3 : List Int) (x4 : Int) := F111.at [.v (.str), .v (.int .i64), .v (.int .i64)] [.v (.str)] n 4 ⟨[.one (.str x0), .one (.int .i64 x1), .one (.int .i64 x2), U, U, U, U, .one (.str x3), .one (.int .i64 x4), U, U, U, U, U, U, U, U, U, U, U, U, U, U, U, U, U, U, U, U, U, U, U, U, U, U, U, U, U, U, U, U, U, U, U, U, U, U, U, U, U, U, U, U, U, U, U, U, U, U, U, U, U, U, U, U], []⟩
theorem F111_run (n : Nat) (a0 : List Int) (a1 : Int) (a2 : Int) : F111.run [.v (.str), .v (.int .i64), .v (.int .i64)] [.v (.str)] n (a0, a1, a2, ()) =
  F111c3 n (a0) (a1) (a2) ([]) ((0 : Int)) := by kernel_rfl
theorem F111c3_eq (n : Nat) (x0 : List Int) (x1 : Int) (x2 : Int) (x3 : List Int) (x4 : Int) : F111c3 (n + 1) x0 x1 x2 x3 x4 =
  bif decide (x4 < (↑x0.length : Int)) then
    bif decide (x1 ≤ IntKind.i64.wrap (x4 + (1 : Int))) then
      bif decide ((1 : Int) ≤ x2) then
        bif decide ((0 : Int) < x1) then
          bif decide (IntKind.i64.wrap (IntKind.i64.wrap (x4 + (1 : Int)) - x1) < x2) then
            if (0 : Int) ≤ x4 then
              if x4 ≤ IntKind.i64.wrap (x4 + (1 : Int)) then
                if IntKind.i64.wrap (x4 + (1 : Int)) ≤ (↑x0.length : Int) then
                  if x3.length + (List.drop x4.toNat (List.take (IntKind.i64.wrap (x4 + (1 : Int))).toNat x0)).length ≤ lim then
                    F111c4 n (x0) (x1) (x2) (x3 ++ List.drop x4.toNat (List.take (IntKind.i64.wrap (x4 + (1 : Int))).toNat x0)) (x4)
                  else
                    none
                else
                  none
              else
                none
            else
              none
          else
            bif decide (x1 ≤ (0 : Int)) then
              bif decide ((-9223372036854775808 : Int) < x1) then
                bif decide (IntKind.i64.wrap (x4 + (1 : Int)) < x2) then
                  bif decide (IntKind.i64.wrap ((0 : Int) - x1) < IntKind.i64.wrap (x2 - IntKind.i64.wrap (x4 + (1 : Int)))) then
                    if (0 : Int) ≤ x4 then
                      if x4 ≤ IntKind.i64.wrap (x4 + (1 : Int)) then
                        if IntKind.i64.wrap (x4 + (1 : Int)) ≤ (↑x0.length : Int) then
                          if x3.length + (List.drop x4.toNat (List.take (IntKind.i64.wrap (x4 + (1 : Int))).toNat x0)).length ≤ lim then
                            F111c4 n (x0) (x1) (x2) (x3 ++ List.drop x4.toNat (List.take (IntKind.i64.wrap (x4 + (1 : Int))).toNat x0)) (x4)
                          else
                            none
                        else
                          none
                      else
                        none
                    else
                      none
                  else
                    F111c4 n (x0) (x1) (x2) (x3) (x4)
                else
                  F111c4 n (x0) (x1) (x2) (x3) (x4)
              else
                F111c4 n (x0) (x1) (x2) (x3) (x4)
            else
              F111c4 n (x0) (x1) (x2) (x3) (x4)
        else
          bif decide (x1 ≤ (0 : Int)) then
            bif decide ((-9223372036854775808 : Int) < x1) then
              bif decide (IntKind.i64.wrap (x4 + (1 : Int)) < x2) then
                bif decide (IntKind.i64.wrap ((0 : Int) - x1) < IntKind.i64.wrap (x2 - IntKind.i64.wrap (x4 + (1 : Int)))) then
                  if (0 : Int) ≤ x4 then
                    if x4 ≤ IntKind.i64.wrap (x4 + (1 : Int)) then
                      if IntKind.i64.wrap (x4 + (1 : Int)) ≤ (↑x0.length : Int) then
                        if x3.length + (List.drop x4.toNat (List.take (IntKind.i64.wrap (x4 + (1 : Int))).toNat x0)).length ≤ lim then
                          F111c4 n (x0) (x1) (x2) (x3 ++ List.drop x4.toNat (List.take (IntKind.i64.wrap (x4 + (1 : Int))).toNat x0)) (x4)
                        else
                          none
                      else
                        none
                    else
                      none
                  else
                    none
                else
                  F111c4 n (x0) (x1) (x2) (x3) (x4)
              else
                F111c4 n (x0) (x1) (x2) (x3) (x4)
            else
              F111c4 n (x0) (x1) (x2) (x3) (x4)
          else
            F111c4 n (x0) (x1) (x2) (x3) (x4)
      else
        F111c4 n (x0) (x1) (x2) (x3) (x4)
    else
      F111c4 n (x0) (x1) (x2) (x3) (x4)
  else
    some ((x3, ()), ()) := by kernel_rfl
theorem F111c4_eq (n : Nat) (x0 : List Int) (x1 : Int) (x2 : Int) (x3 : List Int) (x4 : Int) : F111c4 (n + 1) x0 x1 x2 x3 x4 =
  F111c3 n (x0) (x1) (x2) (x3) (IntKind.i64.wrap (x4 + (1 : Int))) := by kernel_rfl
noncomputable def F110c3 (n : Nat) (x0 : Int) (x1 : Int) (x2 : Int) (x3 : List (Int)) := F110.at [.v (.str), .v (.int .u8), .v (.int .i64)] [.v (.str)] n 3 ⟨[U, .one (.int .u8 x0), .one (.int .i64 x1), U, U, U, U, .one (.own 0), .one (.int .i64 x2), U, U, U, U, U, U, U, U, U, U, U, U, U, U, U, U, U, U, U, U, U, U, U, U, U, U, U, U, U, U, U, U, U, U, U, U], [(0, .row 1000005 (.int .u8) x3 [] false)]⟩
noncomputable def F110c4 (n : Nat) (x0 : Int) (x1 : Int) (x2 : Int) (x3 : List (Int)) := F110.at [.v (.str), .v (.int .u8), .v (.int .i64)] [.v (.str)] n 4 ⟨[U, .one (.int .u8 x0), .one (.int .i64 x1), U, U, U, U, .one (.own 0), .one (.int .i64 x2), U, U, U, U, U, U, U, U, U, U, U, U, U, U, U, U, U, U, U, U, U, U, U, U, U, U, U, U, U, U, U, U, U, U, U, U], [(0, .row 1000005 (.int .u8) x3 [] false)]⟩
theorem F110_run (n : Nat) (a0 : List Int) (a1 : Int) (a2 : Int) : F110.run [.v (.str), .v (.int .u8), .v (.int .i64)] [.v (.str)] n (a0, a1, a2, ()) =
  if a0.length ≤ lim then
    F110c3 n (a1) (a2) ((0 : Int)) (a0)
  else
    none := by kernel_rfl
theorem F110c3_eq (n : Nat) (x0 : Int) (x1 : Int) (x2 : Int) (x3 : List (Int)) : F110c3 (n + 1) x0 x1 x2 x3 =
  bif decide (x2 < (↑x3.length : Int)) then
    if (0 : Int) ≤ x2 then
      if x2 < (↑x3.length : Int) then
        bif decide (x0 ≤ x3.getD x2.toNat (0 : Int)) then
          if (0 : Int) ≤ x2 then
            if x2 < (↑x3.length : Int) then
              bif decide (x3.getD x2.toNat (0 : Int) < IntKind.u8.wrap (x0 + (26 : Int))) then
                if (0 : Int) ≤ x2 then
                  if x2 < (↑x3.length : Int) then
                    if (0 : Int) ≤ x2 then
                      if x2 < (↑x3.length : Int) then
                        F110c4 n (x0) (x1) (x2) (x3.set x2.toNat (IntKind.u8.wrap (IntKind.i64.wrap (IntKind.i64.wrap (x3.getD x2.toNat (0 : Int)) + x1))))
                      else
                        none
                    else
                      none
                  else
                    none
                else
                  none
              else
                F110c4 n (x0) (x1) (x2) (x3)
            else
              none
          else
            none
        else
          F110c4 n (x0) (x1) (x2) (x3)
      else
        none
    else
      none
  else
    some ((List.map Eng.byteOf x3, ()), ()) := by kernel_rfl
theorem F110c4_eq (n : Nat) (x0 : Int) (x1 : Int) (x2 : Int) (x3 : List (Int)) : F110c4 (n + 1) x0 x1 x2 x3 =
  F110c3 n (x0) (x1) (IntKind.i64.wrap (x2 + (1 : Int))) (x3) := by kernel_rfl
noncomputable def F94c20 (n : Nat) (x0 : Int) (x1 : Val) := F94.at [.v (.str), .v (.sl (.nm 0))] [.v (.nm 0)] n 20 ⟨[U, U, U, U, .one (.bptr 0 0), U, U, .one (.int .i64 x0), U, U, U, U, U, U, U, U, U, U, U, U, U, U, U, U, U, U, U, U, U, U, U, U, U, U, U, U, U, U, U, U, U, U, U, U, U, U, U, U, U, U, U, U, U, U, U, U, U, U, U, U, U, U, U, U, U, U, U, U, U, U, U, U, U, U, U, U, U, U, U, U, U, U, U, U, U, U, U, U, U, U, U, U, U, U, U, U, U, U, U], [(0, .whole (.nm 0) x1 [])]⟩
theorem F94_run (n : Nat) (a0 : List Int) (a1 : List (Val)) : F94.run [.v (.str), .v (.sl (.nm 0))] [.v (.nm 0)] n (a0, a1, ()) =
  bif decide (a0 = [(108 : Int), (101 : Int), (110 : Int), (103 : Int), (116 : Int), (104 : Int)]) then
    if (0 : Int) < (↑a1.length : Int) then
      some (({ kind := (2 : Int), int := (↑(a1.getD (Int.toNat (0 : Int)) zVal).text.length : Int), text := [] : Val }, ()), ())
    else
      none
  else
    bif decide (a0 = [(117 : Int), (112 : Int), (112 : Int), (101 : Int), (114 : Int)]) then
      if (0 : Int) < (↑a1.length : Int) then
        (F110.run [PK.v Ty.str, PK.v (Ty.int IntKind.u8), PK.v (Ty.int IntKind.i64)] [RK.v Ty.str] (4000000 : Nat) ((a1.getD (Int.toNat (0 : Int)) zVal).text, (97 : Int), (-32 : Int), ())).bind fun r0 =>
          some (({ kind := (3 : Int), int := (0 : Int), text := r0.fst.fst : Val }, ()), ())
      else
        none
    else
      bif decide (a0 = [(108 : Int), (111 : Int), (119 : Int), (101 : Int), (114 : Int)]) then
        if (0 : Int) < (↑a1.length : Int) then
          (F110.run [PK.v Ty.str, PK.v (Ty.int IntKind.u8), PK.v (Ty.int IntKind.i64)] [RK.v Ty.str] (4000000 : Nat) ((a1.getD (Int.toNat (0 : Int)) zVal).text, (65 : Int), (32 : Int), ())).bind fun r1 =>
            some (({ kind := (3 : Int), int := (0 : Int), text := r1.fst.fst : Val }, ()), ())
        else
          none
      else
        bif decide (a0 = [(115 : Int), (117 : Int), (98 : Int), (115 : Int), (116 : Int), (114 : Int)]) then
          if (0 : Int) < (↑a1.length : Int) then
            if (1 : Int) < (↑a1.length : Int) then
              if (2 : Int) < (↑a1.length : Int) then
                (F111.run [PK.v Ty.str, PK.v (Ty.int IntKind.i64), PK.v (Ty.int IntKind.i64)] [RK.v Ty.str] (4000000 : Nat) ((a1.getD (Int.toNat (0 : Int)) zVal).text, (a1.getD (Int.toNat (1 : Int)) zVal).int, (a1.getD (Int.toNat (2 : Int)) zVal).int, ())).bind fun r2 =>
                  some (({ kind := (3 : Int), int := (0 : Int), text := r2.fst.fst : Val }, ()), ())
              else
                none
            else
              none
          else
            none
        else
          bif decide (a0 = [(97 : Int), (98 : Int), (115 : Int)]) then
            if (0 : Int) < (↑a1.length : Int) then
              bif decide ((a1.getD (Int.toNat (0 : Int)) zVal).int = (-9223372036854775808 : Int)) then
                some ((zVal, ()), ())
              else
                if (0 : Int) < (↑a1.length : Int) then
                  if (0 : Int) < (↑a1.length : Int) then
                    some (({ kind := (2 : Int), int := imax (a1.getD (Int.toNat (0 : Int)) zVal).int (IntKind.i64.wrap ((0 : Int) - (a1.getD (Int.toNat (0 : Int)) zVal).int)), text := [] : Val }, ()), ())
                  else
                    none
                else
                  none
            else
              none
          else
            bif decide (a0 = [(112 : Int), (97 : Int), (114 : Int), (105 : Int), (116 : Int), (121 : Int)]) then
              if (0 : Int) < (↑a1.length : Int) then
                some (({ kind := (2 : Int), int := bits BinOp.and IntKind.i64 (a1.getD (Int.toNat (0 : Int)) zVal).int (1 : Int), text := [] : Val }, ()), ())
              else
                none
            else
              if (0 : Int) < (↑a1.length : Int) then
                if (1 : Int) < (↑a1.length : Int) then
                  bif decide ((↑(a1.getD (Int.toNat (1 : Int)) zVal).text.length : Int) ≤ (↑(a1.getD (Int.toNat (0 : Int)) zVal).text.length : Int)) then
                    if (↑(a1.getD (Int.toNat (1 : Int)) zVal).text.length : Int) ≤ (↑(a1.getD (Int.toNat (0 : Int)) zVal).text.length : Int) then
                      bif decide (List.drop (Int.toNat (0 : Int)) (List.take (↑(a1.getD (Int.toNat (1 : Int)) zVal).text.length : Int).toNat (a1.getD (Int.toNat (0 : Int)) zVal).text) = (a1.getD (Int.toNat (1 : Int)) zVal).text) then
                        F94c20 n ((1 : Int)) (zVal)
                      else
                        F94c20 n ((0 : Int)) (zVal)
                    else
                      none
                  else
                    F94c20 n ((0 : Int)) (zVal)
                else
                  none
              else
                none := by kernel_rfl
theorem F94c20_eq (n : Nat) (x0 : Int) (x1 : Val) : F94c20 (n + 1) x0 x1 =
  some (({ kind := (1 : Int), int := x0, text := [] : Val }, ()), ()) := by kernel_rfl
theorem F84_run (n : Nat) (a0 : Bool) (a1 : Bool) : F84.run [.v (.bool), .v (.bool)] [.v (.int .i64)] n (a0, a1, ()) =
  bif a0 then
    some (((-1 : Int), ()), ())
  else
    bif a1 then
      some (((1 : Int), ()), ())
    else
      some (((0 : Int), ()), ()) := by kernel_rfl
theorem F60_run (n : Nat) (a0 : Val) (a1 : Val) : F60.run [.v (.nm 0), .v (.nm 0)] [.v (.int .i64)] n (a0, a1, ()) =
  bif !decide (a0.kind = a1.kind) then
    (F84.run [PK.v Ty.bool, PK.v Ty.bool] [RK.v (Ty.int IntKind.i64)] (4000000 : Nat) (decide (a0.kind < a1.kind), true, ())).bind fun r0 =>
      some ((r0.fst.fst, ()), ())
  else
    bif decide (a0.kind = (3 : Int)) then
      (F84.run [PK.v Ty.bool, PK.v Ty.bool] [RK.v (Ty.int IntKind.i64)] (4000000 : Nat) (Eng.strLt a0.text a1.text, Eng.strLt a1.text a0.text, ())).bind fun r1 =>
        some ((r1.fst.fst, ()), ())
    else
      (F84.run [PK.v Ty.bool, PK.v Ty.bool] [RK.v (Ty.int IntKind.i64)] (4000000 : Nat) (decide (a0.int < a1.int), decide (a1.int < a0.int), ())).bind fun r2 =>
        some ((r2.fst.fst, ()), ()) := by kernel_rfl
noncomputable def F92c3 (n : Nat) (x0 : List (Val)) (x1 : Bool) (x2 : Int) (x3 : Val) (x4 : Val) := F92.at [.v (.sl (.nm 0)), .v (.bool)] [.v (.nm 0)] n 3 ⟨[.one (.data (.sl (.nm 0)) x0 []), .one (.bool x1), U, U, .one (.bptr 0 0), .one (.bptr 1 0), .one (.int .i64 x2), U, U, U, U, U, U, U, U, U, U, U, U, U, U, U, U, U, U, U, U, U, U, U, U, U, U, U, U, U, U, U, U, U, U, U, U, U, U, U, U, U, U, U, U, U], [(0, .whole (.nm 0) x3 []), (1, .whole (.nm 0) x4 [])]⟩
noncomputable def F92c4 (n : Nat) (x0 : List (Val)) (x1 : Bool) (x2 : Int) (x3 : Val) (x4 : Val) := F92.at [.v (.sl (.nm 0)), .v (.bool)] [.v (.nm 0)] n 4 ⟨[.one (.data (.sl (.nm 0)) x0 []), .one (.bool x1), U, U, .one (.bptr 0 0), .one (.bptr 1 0), .one (.int .i64 x2), U, U, U, U, U, U, U, U, U, U, U, U, U, U, U, U, U, U, U, U, U, U, U, U, U, U, U, U, U, U, U, U, U, U, U, U, U, U, U, U, U, U, U, U, U], [(0, .whole (.nm 0) x3 []), (1, .whole (.nm 0) x4 [])]⟩
theorem F92_run (n : Nat) (a0 : List (Val)) (a1 : Bool) : F92.run [.v (.sl (.nm 0)), .v (.bool)] [.v (.nm 0)] n (a0, a1, ()) =
  F92c3 n (a0) (a1) ((0 : Int)) (zVal) (zVal) := by kernel_rfl
theorem F92c3_eq (n : Nat) (x0 : List (Val)) (x1 : Bool) (x2 : Int) (x3 : Val) (x4 : Val) : F92c3 (n + 1) x0 x1 x2 x3 x4 =
  bif decide (x2 < (↑x0.length : Int)) then
    if (0 : Int) ≤ x2 then
      if x2 < (↑x0.length : Int) then
        (F60.run [PK.v (Ty.nm (0 : Nat)), PK.v (Ty.nm (0 : Nat))] [RK.v (Ty.int IntKind.i64)] (4000000 : Nat) (x0.getD x2.toNat zVal, x4, ())).bind fun r0 =>
          if (0 : Int) ≤ x2 then
            if x2 < (↑x0.length : Int) then
              bif !decide ((x0.getD x2.toNat zVal).kind = (0 : Int)) then
                bif decide (x4.kind = (0 : Int)) then
                  if (0 : Int) ≤ x2 then
                    if x2 < (↑x0.length : Int) then
                      F92c4 n (x0) (x1) (x2) (x3) (x0.getD x2.toNat zVal)
                    else
                      none
                  else
                    none
                else
                  bif x1 then
                    bif decide ((0 : Int) < r0.fst.fst) then
                      if (0 : Int) ≤ x2 then
                        if x2 < (↑x0.length : Int) then
                          F92c4 n (x0) (x1) (x2) (x3) (x0.getD x2.toNat zVal)
                        else
                          none
                      else
                        none
                    else
                      bif !x1 then
                        bif decide (r0.fst.fst < (0 : Int)) then
                          if (0 : Int) ≤ x2 then
                            if x2 < (↑x0.length : Int) then
                              F92c4 n (x0) (x1) (x2) (x3) (x0.getD x2.toNat zVal)
                            else
                              none
                          else
                            none
                        else
                          F92c4 n (x0) (x1) (x2) (x3) (x4)
                      else
                        F92c4 n (x0) (x1) (x2) (x3) (x4)
                  else
                    bif !x1 then
                      bif decide (r0.fst.fst < (0 : Int)) then
                        if (0 : Int) ≤ x2 then
                          if x2 < (↑x0.length : Int) then
                            F92c4 n (x0) (x1) (x2) (x3) (x0.getD x2.toNat zVal)
                          else
                            none
                        else
                          none
                      else
                        F92c4 n (x0) (x1) (x2) (x3) (x4)
                    else
                      F92c4 n (x0) (x1) (x2) (x3) (x4)
              else
                F92c4 n (x0) (x1) (x2) (x3) (x4)
            else
              none
          else
            none
      else
        none
    else
      none
  else
    some ((x4, ()), ()) := by kernel_rfl
theorem F92c4_eq (n : Nat) (x0 : List (Val)) (x1 : Bool) (x2 : Int) (x3 : Val) (x4 : Val) : F92c4 (n + 1) x0 x1 x2 x3 x4 =
  F92c3 n (x0) (x1) (IntKind.i64.wrap (x2 + (1 : Int))) (x3) (x4) := by kernel_rfl
theorem F101_run (n : Nat) (a0 : Int) (a1 : Int) : F101.run [.v (.int .i64), .v (.int .i64)] [.v (.bool)] n (a0, a1, ()) =
  bif decide (a0 = (1 : Int)) then
    some ((decide (a1 = (0 : Int)), ()), ())
  else
    bif decide (a0 = (2 : Int)) then
      some ((!decide (a1 = (0 : Int)), ()), ())
    else
      bif decide (a0 = (3 : Int)) then
        some ((decide (a1 < (0 : Int)), ()), ())
      else
        bif decide (a0 = (4 : Int)) then
          some ((decide (a1 ≤ (0 : Int)), ()), ())
        else
          bif decide (a0 = (5 : Int)) then
            some ((decide ((0 : Int) < a1), ()), ())
          else
            bif decide (a0 = (6 : Int)) then
              some ((decide ((0 : Int) ≤ a1), ()), ())
            else
              some ((false, ()), ()) := by kernel_rfl
noncomputable def F71c3 (n : Nat) (x0 : Int) (x1 : Val) (x2 : Val) (x3 : Val) := F71.at [.v (.int .i64), .v (.nm 0), .v (.nm 0)] [.v (.nm 0)] n 3 ⟨[.one (.int .i64 x0), U, U, U, .one (.bptr 0 0), .one (.bptr 1 0), .one (.bptr 2 0), U, U, U, U, U, U, U, U, U, U, U, U, U, U, U, U, U, U, U, U, U, U, U, U, U], [(0, .whole (.nm 0) x1 []), (1, .whole (.nm 0) x2 []), (2, .whole (.nm 0) x3 [])]⟩
theorem F71_run (n : Nat) (a0 : Int) (a1 : Val) (a2 : Val) : F71.run [.v (.int .i64), .v (.nm 0), .v (.nm 0)] [.v (.nm 0)] n (a0, a1, a2, ()) =
  bif decide (a1.kind = (0 : Int)) then
    some ((zVal, ()), ())
  else
    bif !decide (a1.kind = a2.kind) then
      some ((zVal, ()), ())
    else
      bif decide (a0 < (1 : Int)) then
        some ((zVal, ()), ())
      else
        bif decide ((6 : Int) < a0) then
          some ((zVal, ()), ())
        else
          F71c3 n (a0) (a1) (a2) (zVal) := by kernel_rfl
theorem F71c3_eq (n : Nat) (x0 : Int) (x1 : Val) (x2 : Val) (x3 : Val) : F71c3 (n + 1) x0 x1 x2 x3 =
  (F60.run [PK.v (Ty.nm (0 : Nat)), PK.v (Ty.nm (0 : Nat))] [RK.v (Ty.int IntKind.i64)] (4000000 : Nat) (x1, x2, ())).bind fun r0 =>
    (F101.run [PK.v (Ty.int IntKind.i64), PK.v (Ty.int IntKind.i64)] [RK.v Ty.bool] (4000000 : Nat) (x0, r0.fst.fst, ())).bind fun r1 =>
      (F54.run [PK.v Ty.bool] [RK.v (Ty.nm (0 : Nat))] (4000000 : Nat) (r1.fst.fst, ())).bind fun r2 =>
        some ((r2.fst.fst, ()), ()) := by kernel_rfl
noncomputable def F69c12 (n : Nat) (x0 : List (Val)) (x1 : Int) (x2 : Val) := F69.at [.v (.str), .v (.sl (.nm 0))] [.v (.nm 0)] n 12 ⟨[U, .one (.data (.sl (.nm 0)) x0 []), U, U, .one (.bptr 0 0), .one (.int .i64 x1), U, U, U, U, U, U, U, U, U, U, U, U, U, U, U, U, U, U, U, U, U, U, U, U, U, U, U, U, U, U, U, U, U, U, U, U, U, U, U, U, U, U, U, U, U, U, U, U, U, U, U, U, U, U, U, U, U, U, U, U, U, U, U, U, U, U, U, U, U, U, U, U, U, U, U, U, U, U, U, U, U, U, U, U, U], [(0, .whole (.nm 0) x2 [])]⟩
noncomputable def F69c20 (n : Nat) (x0 : List Int) (x1 : List (Val)) (x2 : Val) (x3 : List (Int)) := F69.at [.v (.str), .v (.sl (.nm 0))] [.v (.nm 0)] n 20 ⟨[.one (.str x0), .one (.data (.sl (.nm 0)) x1 []), U, U, .one (.bptr 0 0), U, .one (.own 1), U, U, U, U, U, U, U, U, U, U, U, U, U, U, U, U, U, U, U, U, U, U, U, U, U, U, U, U, U, U, U, U, U, U, U, U, U, U, U, U, U, U, U, U, U, U, U, U, U, U, U, U, U, U, U, U, U, U, U, U, U, U, U, U, U, U, U, U, U, U, U, U, U, U, U, U, U, U, U, U, U, U, U, U], [(0, .whole (.nm 0) x2 []), (1, .row 3 (.int .i64) x3 [] false)]⟩
noncomputable def F69c21 (n : Nat) (x0 : List Int) (x1 : List (Val)) (x2 : Int) (x3 : Val) (x4 : List (Int)) := F69.at [.v (.str), .v (.sl (.nm 0))] [.v (.nm 0)] n 21 ⟨[.one (.str x0), .one (.data (.sl (.nm 0)) x1 []), U, U, .one (.bptr 0 0), U, .one (.own 1), U, U, .one (.int .i64 x2), U, U, U, U, U, U, U, U, U, U, U, U, U, U, U, U, U, U, U, U, U, U, U, U, U, U, U, U, U, U, U, U, U, U, U, U, U, U, U, U, U, U, U, U, U, U, U, U, U, U, U, U, U, U, U, U, U, U, U, U, U, U, U, U, U, U, U, U, U, U, U, U, U, U, U, U, U, U, U, U, U], [(0, .whole (.nm 0) x3 []), (1, .row 3 (.int .i64) x4 [] false)]⟩
theorem F69_run (n : Nat) (a0 : List Int) (a1 : List (Val)) : F69.run [.v (.str), .v (.sl (.nm 0))] [.v (.nm 0)] n (a0, a1, ()) =
  (F91.run [PK.v Ty.str, PK.v (Ty.int IntKind.i64)] [RK.v Ty.bool] (4000000 : Nat) (a0, (↑a1.length : Int), ())).bind fun r0 =>
    bif r0.fst.fst then
      bif decide (a0 = [(110 : Int), (117 : Int), (108 : Int), (108 : Int), (105 : Int), (102 : Int)]) then
        if (0 : Int) < (↑a1.length : Int) then
          if (1 : Int) < (↑a1.length : Int) then
            (F71.run [PK.v (Ty.int IntKind.i64), PK.v (Ty.nm (0 : Nat)), PK.v (Ty.nm (0 : Nat))] [RK.v (Ty.nm (0 : Nat))] (4000000 : Nat) ((1 : Int), a1.getD (Int.toNat (0 : Int)) zVal, a1.getD (Int.toNat (1 : Int)) zVal, ())).bind fun r1 =>
              bif decide (r1.fst.fst.kind = (1 : Int)) && (decide (r1.fst.fst.int = (1 : Int)) && (decide (r1.fst.fst.text = []) && true)) then
                some ((zVal, ()), ())
              else
                if (0 : Int) < (↑a1.length : Int) then
                  some ((a1.getD (Int.toNat (0 : Int)) zVal, ()), ())
                else
                  none
          else
            none
        else
          none
      else
        bif decide (a0 = [(108 : Int), (101 : Int), (97 : Int), (115 : Int), (116 : Int)]) then
          (F92.run [PK.v (Ty.nm (0 : Nat)).sl, PK.v Ty.bool] [RK.v (Ty.nm (0 : Nat))] (4000000 : Nat) (a1, false, ())).bind fun r2 =>
            some ((r2.fst.fst, ()), ())
        else
          bif decide (a0 = [(103 : Int), (114 : Int), (101 : Int), (97 : Int), (116 : Int), (101 : Int), (115 : Int), (116 : Int)]) then
            (F92.run [PK.v (Ty.nm (0 : Nat)).sl, PK.v Ty.bool] [RK.v (Ty.nm (0 : Nat))] (4000000 : Nat) (a1, true, ())).bind fun r3 =>
              some ((r3.fst.fst, ()), ())
          else
            F69c12 n (a1) ((0 : Int)) (zVal)
    else
      (F93.run [PK.v Ty.str] [RK.own (3 : TypeId) (Ty.int IntKind.i64), RK.v (Ty.int IntKind.i64), RK.v Ty.bool] (4000000 : Nat) (a0, ())).bind fun r4 =>
        bif !r4.fst.snd.snd.fst then
          some ((zVal, ()), ())
        else
          bif !decide ((↑(List.length r4.fst.fst) : Int) = (↑a1.length : Int)) then
            some ((zVal, ()), ())
          else
            F69c20 n (a0) (a1) (zVal) (r4.fst.fst) := by kernel_rfl
theorem F69c12_eq (n : Nat) (x0 : List (Val)) (x1 : Int) (x2 : Val) : F69c12 (n + 1) x0 x1 x2 =
  bif decide (x1 < (↑x0.length : Int)) then
    if (0 : Int) ≤ x1 then
      if x1 < (↑x0.length : Int) then
        bif !decide ((x0.getD x1.toNat zVal).kind = (0 : Int)) then
          if (0 : Int) ≤ x1 then
            if x1 < (↑x0.length : Int) then
              some ((x0.getD x1.toNat zVal, ()), ())
            else
              none
          else
            none
        else
          F69c12 n (x0) (IntKind.i64.wrap (x1 + (1 : Int))) (x2)
      else
        none
    else
      none
  else
    some ((zVal, ()), ()) := by kernel_rfl
theorem F69c20_eq (n : Nat) (x0 : List Int) (x1 : List (Val)) (x2 : Val) (x3 : List (Int)) : F69c20 (n + 1) x0 x1 x2 x3 =
  F69c21 n (x0) (x1) ((0 : Int)) (x2) (x3) := by kernel_rfl
theorem F69c21_eq (n : Nat) (x0 : List Int) (x1 : List (Val)) (x2 : Int) (x3 : Val) (x4 : List (Int)) : F69c21 (n + 1) x0 x1 x2 x3 x4 =
  bif decide (x2 < (↑x4.length : Int)) then
    if (0 : Int) ≤ x2 then
      if x2 < (↑x1.length : Int) then
        if (0 : Int) ≤ x2 then
          if x2 < (↑x4.length : Int) then
            bif !decide ((x1.getD x2.toNat zVal).kind = x4.getD x2.toNat (0 : Int)) then
              some ((zVal, ()), ())
            else
              F69c21 n (x0) (x1) (IntKind.i64.wrap (x2 + (1 : Int))) (x3) (x4)
          else
            none
        else
          none
      else
        none
    else
      none
  else
    (F94.run [PK.v Ty.str, PK.v (Ty.nm (0 : Nat)).sl] [RK.v (Ty.nm (0 : Nat))] (4000000 : Nat) (x0, x1, ())).bind fun r5 =>
      some ((r5.fst.fst, ()), ()) := by kernel_rfl
noncomputable def F68c2 (n : Nat) (x0 : List (Val)) (x1 : Int) (x2 : Val) := F68.at [.v (.sl (.nm 0))] [.v (.nm 0)] n 2 ⟨[.one (.data (.sl (.nm 0)) x0 []), U, .one (.bptr 0 0), .one (.int .i64 x1), U, U, U, U, U, U, U, U, U, U, U, U, U, U, U, U, U, U, U, U, U, U, U, U, U, U, U, U], [(0, .whole (.nm 0) x2 [])]⟩
theorem F68_run (n : Nat) (a0 : List (Val)) : F68.run [.v (.sl (.nm 0))] [.v (.nm 0)] n (a0, ()) =
  F68c2 n (a0) ((0 : Int)) (zVal) := by kernel_rfl
theorem F68c2_eq (n : Nat) (x0 : List (Val)) (x1 : Int) (x2 : Val) : F68c2 (n + 1) x0 x1 x2 =
  bif decide (IntKind.i64.wrap (x1 + (1 : Int)) < (↑x0.length : Int)) then
    if (0 : Int) ≤ x1 then
      if x1 < (↑x0.length : Int) then
        (F49.run [PK.v (Ty.nm (0 : Nat))] [RK.v Ty.bool] (4000000 : Nat) (x0.getD x1.toNat zVal, ())).bind fun r0 =>
          bif r0.fst.fst then
            if (0 : Int) ≤ IntKind.i64.wrap (x1 + (1 : Int)) then
              if IntKind.i64.wrap (x1 + (1 : Int)) < (↑x0.length : Int) then
                some ((x0.getD (IntKind.i64.wrap (x1 + (1 : Int))).toNat zVal, ()), ())
              else
                none
            else
              none
          else
            F68c2 n (x0) (IntKind.i64.wrap (x1 + (2 : Int))) (x2)
      else
        none
    else
      none
  else
    bif decide ((↑x0.length : Int).tmod (2 : Int) = (1 : Int)) then
      if (0 : Int) ≤ IntKind.i64.wrap ((↑x0.length : Int) - (1 : Int)) then
        if IntKind.i64.wrap ((↑x0.length : Int) - (1 : Int)) < (↑x0.length : Int) then
          some ((x0.getD (IntKind.i64.wrap ((↑x0.length : Int) - (1 : Int))).toNat zVal, ()), ())
        else
          none
      else
        none
    else
      some ((zVal, ()), ()) := by kernel_rfl
noncomputable def F87c3 (n : Nat) (x0 : List (Val)) (x1 : Bool) (x2 : Int) (x3 : Val) := F87.at [.v (.sl (.nm 0))] [.v (.nm 0)] n 3 ⟨[.one (.data (.sl (.nm 0)) x0 []), U, .one (.bptr 0 0), .one (.bool x1), .one (.int .i64 x2), U, U, U, U, U, U, U, U, U, U, U, U, U, U, U, U, U, U, U, U, U], [(0, .whole (.nm 0) x3 [])]⟩
theorem F87_run (n : Nat) (a0 : List (Val)) : F87.run [.v (.sl (.nm 0))] [.v (.nm 0)] n (a0, ()) =
  F87c3 n (a0) (false) ((0 : Int)) (zVal) := by kernel_rfl
theorem F87c3_eq (n : Nat) (x0 : List (Val)) (x1 : Bool) (x2 : Int) (x3 : Val) : F87c3 (n + 1) x0 x1 x2 x3 =
  bif decide (x2 < (↑x0.length : Int)) then
    if (0 : Int) ≤ x2 then
      if x2 < (↑x0.length : Int) then
        (F49.run [PK.v (Ty.nm (0 : Nat))] [RK.v Ty.bool] (4000000 : Nat) (x0.getD x2.toNat zVal, ())).bind fun r0 =>
          bif r0.fst.fst then
            (F54.run [PK.v Ty.bool] [RK.v (Ty.nm (0 : Nat))] (4000000 : Nat) (true, ())).bind fun r1 =>
              some ((r1.fst.fst, ()), ())
          else
            if (0 : Int) ≤ x2 then
              if x2 < (↑x0.length : Int) then
                (F108.run [PK.v (Ty.nm (0 : Nat))] [RK.v Ty.bool] (4000000 : Nat) (x0.getD x2.toNat zVal, ())).bind fun r2 =>
                  bif !r2.fst.fst then
                    F87c3 n (x0) (true) (IntKind.i64.wrap (x2 + (1 : Int))) (x3)
                  else
                    F87c3 n (x0) (x1) (IntKind.i64.wrap (x2 + (1 : Int))) (x3)
              else
                none
            else
              none
      else
        none
    else
      none
  else
    bif x1 then
      some ((zVal, ()), ())
    else
      (F54.run [PK.v Ty.bool] [RK.v (Ty.nm (0 : Nat))] (4000000 : Nat) (false, ())).bind fun r3 =>
        some ((r3.fst.fst, ()), ()) := by kernel_rfl
noncomputable def F67c3 (n : Nat) (x0 : List (Val)) (x1 : Int) (x2 : Val) (x3 : List (Val)) := F67.at [.v (.sl (.nm 0))] [.v (.nm 0)] n 3 ⟨[.one (.data (.sl (.nm 0)) x0 []), U, .one (.bptr 0 0), .one (.own 1), .one (.int .i64 x1), U, U, U, U, U, U, U, U, U, U, U, U, U, U, U, U, U, U, U], [(0, .whole (.nm 0) x2 []), (1, .row 23 (.nm 0) x3 [] false)]⟩
theorem F67_run (n : Nat) (a0 : List (Val)) : F67.run [.v (.sl (.nm 0))] [.v (.nm 0)] n (a0, ()) =
  F67c3 n (a0) ((1 : Int)) (zVal) ([]) := by kernel_rfl
theorem F67c3_eq (n : Nat) (x0 : List (Val)) (x1 : Int) (x2 : Val) (x3 : List (Val)) : F67c3 (n + 1) x0 x1 x2 x3 =
  bif decide (x1 < (↑x0.length : Int)) then
    if (0 : Int) < (↑x0.length : Int) then
      if (0 : Int) ≤ x1 then
        if x1 < (↑x0.length : Int) then
          (F71.run [PK.v (Ty.int IntKind.i64), PK.v (Ty.nm (0 : Nat)), PK.v (Ty.nm (0 : Nat))] [RK.v (Ty.nm (0 : Nat))] (4000000 : Nat) ((1 : Int), x0.getD (Int.toNat (0 : Int)) zVal, x0.getD x1.toNat zVal, ())).bind fun r0 =>
            if x3.length + (1 : Nat) ≤ lim then
              F67c3 n (x0) (IntKind.i64.wrap (x1 + (1 : Int))) (x2) (x3 ++ ([r0.fst.fst] : List (Val)))
            else
              none
        else
          none
      else
        none
    else
      none
  else
    (F87.run [PK.v (Ty.nm (0 : Nat)).sl] [RK.v (Ty.nm (0 : Nat))] (4000000 : Nat) (x3, ())).bind fun r1 =>
      some ((r1.fst.fst, ()), ()) := by kernel_rfl
theorem F66_run (n : Nat) (a0 : Bool) : F66.run [.v (.bool)] [.v (.nm 0)] n (a0, ()) =
  bif a0 then
    some (({ kind := (1 : Int), int := (1 : Int), text := [] : Val }, ()), ())
  else
    some (({ kind := (1 : Int), int := (0 : Int), text := [] : Val }, ()), ()) := by kernel_rfl
noncomputable def F90c4 (n : Nat) (x0 : List Int) (x1 : List Int) (x2 : Int) (x3 : List (Bool)) := F90.at [.v (.str), .v (.str)] [.v (.bool)] n 4 ⟨[.one (.str x0), .one (.str x1), U, U, U, .one (.own 0), .one (.int .i64 x2), U, U, U, U, U, U, U, U, U, U, U, U, U, U, U, U, U, U, U, U, U, U, U, U, U, U, U, U, U, U, U, U, U, U, U, U, U, U, U, U, U, U, U, U, U, U, U, U, U, U, U, U, U, U, U, U, U, U, U, U, U, U, U, U, U, U, U], [(0, .row 4 .bool x3 [] false)]⟩
noncomputable def F90c9 (n : Nat) (x0 : List Int) (x1 : List Int) (x2 : Int) (x3 : Int) (x4 : List (Bool)) := F90.at [.v (.str), .v (.str)] [.v (.bool)] n 9 ⟨[.one (.str x0), .one (.str x1), U, U, U, .one (.own 0), .one (.int .i64 x2), U, .one (.int .i64 x3), U, U, U, U, U, U, U, U, U, U, U, U, U, U, U, U, U, U, U, U, U, U, U, U, U, U, U, U, U, U, U, U, U, U, U, U, U, U, U, U, U, U, U, U, U, U, U, U, U, U, U, U, U, U, U, U, U, U, U, U, U, U, U, U, U], [(0, .row 4 .bool x4 [] false)]⟩
noncomputable def F90c14 (n : Nat) (x0 : List Int) (x1 : List Int) (x2 : Int) (x3 : Int) (x4 : Int) (x5 : List (Bool)) := F90.at [.v (.str), .v (.str)] [.v (.bool)] n 14 ⟨[.one (.str x0), .one (.str x1), U, U, U, .one (.own 0), .one (.int .i64 x2), .one (.int .u8 x3), U, .one (.int .i64 x4), U, U, U, U, U, U, U, U, U, U, U, U, U, U, U, U, U, U, U, U, U, U, U, U, U, U, U, U, U, U, U, U, U, U, U, U, U, U, U, U, U, U, U, U, U, U, U, U, U, U, U, U, U, U, U, U, U, U, U, U, U, U, U, U], [(0, .row 4 .bool x5 [] false)]⟩
theorem F90_run (n : Nat) (a0 : List Int) (a1 : List Int) : F90.run [.v (.str), .v (.str)] [.v (.bool)] n (a0, a1, ()) =
  if (0 : Int) ≤ IntKind.i64.wrap ((↑a1.length : Int) + (1 : Int)) then
    if IntKind.i64.wrap ((↑a1.length : Int) + (1 : Int)) ≤ (↑lim : Int) then
      if (0 : Int) < (↑(List.replicate (IntKind.i64.wrap ((↑a1.length : Int) + (1 : Int))).toNat false).length : Int) then
        F90c4 n (a0) (a1) ((0 : Int)) ((List.replicate (IntKind.i64.wrap ((↑a1.length : Int) + (1 : Int))).toNat false).set (Int.toNat (0 : Int)) true)
      else
        none
    else
      none
  else
    none := by kernel_rfl
theorem F90c4_eq (n : Nat) (x0 : List Int) (x1 : List Int) (x2 : Int) (x3 : List (Bool)) : F90c4 (n + 1) x0 x1 x2 x3 =
  bif decide (x2 < (↑x0.length : Int)) then
    if (0 : Int) ≤ x2 then
      if x2 < (↑x0.length : Int) then
        bif decide (x0.getD x2.toNat (0 : Int) = (37 : Int)) then
          F90c9 n (x0) (x1) (x2) ((1 : Int)) (x3)
        else
          F90c14 n (x0) (x1) (x2) (x0.getD x2.toNat (0 : Int)) ((↑x1.length : Int)) (x3)
      else
        none
    else
      none
  else
    if (↑x1.length : Int) < (↑x3.length : Int) then
      some ((x3.getD (↑x1.length : Int).toNat false, ()), ())
    else
      none := by kernel_rfl
theorem F90c9_eq (n : Nat) (x0 : List Int) (x1 : List Int) (x2 : Int) (x3 : Int) (x4 : List (Bool)) : F90c9 (n + 1) x0 x1 x2 x3 x4 =
  bif decide (x3 ≤ (↑x1.length : Int)) then
    if (0 : Int) ≤ IntKind.i64.wrap (x3 - (1 : Int)) then
      if IntKind.i64.wrap (x3 - (1 : Int)) < (↑x4.length : Int) then
        bif x4.getD (IntKind.i64.wrap (x3 - (1 : Int))).toNat false then
          if (0 : Int) ≤ x3 then
            if x3 < (↑x4.length : Int) then
              F90c9 n (x0) (x1) (x2) (IntKind.i64.wrap (x3 + (1 : Int))) (x4.set x3.toNat true)
            else
              none
          else
            none
        else
          F90c9 n (x0) (x1) (x2) (IntKind.i64.wrap (x3 + (1 : Int))) (x4)
      else
        none
    else
      none
  else
    F90c4 n (x0) (x1) (IntKind.i64.wrap (x2 + (1 : Int))) (x4) := by kernel_rfl
theorem F90c14_eq (n : Nat) (x0 : List Int) (x1 : List Int) (x2 : Int) (x3 : Int) (x4 : Int) (x5 : List (Bool)) : F90c14 (n + 1) x0 x1 x2 x3 x4 x5 =
  bif decide ((0 : Int) < x4) then
    if (0 : Int) ≤ IntKind.i64.wrap (x4 - (1 : Int)) then
      if IntKind.i64.wrap (x4 - (1 : Int)) < (↑x5.length : Int) then
        bif x5.getD (IntKind.i64.wrap (x4 - (1 : Int))).toNat false then
          bif decide (x3 = (95 : Int)) then
            if (0 : Int) ≤ x4 then
              if x4 < (↑x5.length : Int) then
                F90c14 n (x0) (x1) (x2) (x3) (IntKind.i64.wrap (x4 - (1 : Int))) (x5.set x4.toNat true)
              else
                none
            else
              none
          else
            if (0 : Int) ≤ IntKind.i64.wrap (x4 - (1 : Int)) then
              if IntKind.i64.wrap (x4 - (1 : Int)) < (↑x1.length : Int) then
                if (0 : Int) ≤ x4 then
                  if x4 < (↑x5.length : Int) then
                    F90c14 n (x0) (x1) (x2) (x3) (IntKind.i64.wrap (x4 - (1 : Int))) (x5.set x4.toNat (decide (x3 = x1.getD (IntKind.i64.wrap (x4 - (1 : Int))).toNat (0 : Int))))
                  else
                    none
                else
                  none
              else
                none
            else
              none
        else
          if (0 : Int) ≤ x4 then
            if x4 < (↑x5.length : Int) then
              F90c14 n (x0) (x1) (x2) (x3) (IntKind.i64.wrap (x4 - (1 : Int))) (x5.set x4.toNat false)
            else
              none
          else
            none
      else
        none
    else
      none
  else
    if (0 : Int) < (↑x5.length : Int) then
      F90c4 n (x0) (x1) (IntKind.i64.wrap (x2 + (1 : Int))) (x5.set (Int.toNat (0 : Int)) false)
    else
      none := by kernel_rfl
noncomputable def F89c3 (n : Nat) (x0 : Val) (x1 : Val) (x2 : Val) := F89.at [.v (.nm 0), .v (.nm 0)] [.v (.nm 0)] n 3 ⟨[U, U, .one (.bptr 0 0), .one (.bptr 1 0), .one (.bptr 2 0), U, U, U, U, U, U, U, U, U, U, U, U, U, U, U, U, U, U, U, U, U, U, U, U, U], [(0, .whole (.nm 0) x0 []), (1, .whole (.nm 0) x1 []), (2, .whole (.nm 0) x2 [])]⟩
theorem F89_run (n : Nat) (a0 : Val) (a1 : Val) : F89.run [.v (.nm 0), .v (.nm 0)] [.v (.nm 0)] n (a0, a1, ()) =
  bif !decide (a0.kind = (3 : Int)) then
    some ((zVal, ()), ())
  else
    bif !decide (a1.kind = (3 : Int)) then
      some ((zVal, ()), ())
    else
      bif decide ((4096 : Int) < IntKind.i64.wrap ((↑a0.text.length : Int) + (↑a1.text.length : Int))) then
        some ((zVal, ()), ())
      else
        F89c3 n (a0) (a1) (zVal) := by kernel_rfl
theorem F89c3_eq (n : Nat) (x0 : Val) (x1 : Val) (x2 : Val) : F89c3 (n + 1) x0 x1 x2 =
  if x0.text.length + x1.text.length ≤ lim then
    some (({ kind := (3 : Int), int := (0 : Int), text := x0.text ++ x1.text : Val }, ()), ())
  else
    none := by kernel_rfl
theorem F85_run (n : Nat) (a0 : Int) : F85.run [.v (.int .i64)] [.v (.nm 0)] n (a0, ()) =
  some (({ kind := (2 : Int), int := a0, text := [] : Val }, ()), ()) := by kernel_rfl
noncomputable def F123c3 (n : Nat) (x0 : Int) (x1 : Int) := F123.at [.v (.int .i64), .v (.int .i64)] [.v (.int .i64), .v (.bool)] n 3 ⟨[.one (.int .i64 x0), .one (.int .i64 x1), U, U, U, U, U, U, U, U, U, U, U, U, U, U, U, U, U, U, U, U, U, U, U, U, U, U, U, U, U, U, U, U], []⟩
theorem F123_run (n : Nat) (a0 : Int) (a1 : Int) : F123.run [.v (.int .i64), .v (.int .i64)] [.v (.int .i64), .v (.bool)] n (a0, a1, ()) =
  bif decide (a0 = (0 : Int)) then
    some (((0 : Int), (true, ())), ())
  else
    bif decide (a1 = (0 : Int)) then
      some (((0 : Int), (true, ())), ())
    else
      F123c3 n (a0) (a1) := by kernel_rfl
theorem F123c3_eq (n : Nat) (x0 : Int) (x1 : Int) : F123c3 (n + 1) x0 x1 =
  bif decide (x0 = (-1 : Int)) then
    some ((IntKind.i64.wrap ((0 : Int) - x1), (!decide (x1 = (-9223372036854775808 : Int)), ())), ())
  else
    bif decide (x1 = (-1 : Int)) then
      some ((IntKind.i64.wrap ((0 : Int) - x0), (!decide (x0 = (-9223372036854775808 : Int)), ())), ())
    else
      if x1 = (0 : Int) then
        none
      else
        some ((IntKind.i64.wrap (x0 * x1), (decide (IntKind.i64.wrap ((IntKind.i64.wrap (x0 * x1)).tdiv x1) = x0), ())), ()) := by kernel_rfl
noncomputable def F109c11 (n : Nat) (x0 : Int) (x1 : Int) := F109.at [.v (.int .i64), .v (.int .i64), .v (.int .i64)] [.v (.int .i64), .v (.bool)] n 11 ⟨[U, .one (.int .i64 x0), .one (.int .i64 x1), U, U, U, U, U, U, U, U, U, U, U, U, U, U, U, U, U, U, U, U, U, U, U, U, U, U, U, U, U, U, U, U, U, U, U, U, U, U, U, U, U, U, U, U, U, U, U, U, U, U, U, U, U, U, U, U, U, U, U, U, U, U, U, U, U, U, U, U, U, U, U, U, U, U, U, U, U, U, U, U, U, U, U, U, U], []⟩
theorem F109_run (n : Nat) (a0 : Int) (a1 : Int) (a2 : Int) : F109.run [.v (.int .i64), .v (.int .i64), .v (.int .i64)] [.v (.int .i64), .v (.bool)] n (a0, a1, a2, ()) =
  bif decide (a0 = (9 : Int)) then
    bif decide ((0 : Int) < a2) then
      bif decide (IntKind.i64.wrap ((9223372036854775807 : Int) - a2) < a1) then
        some ((IntKind.i64.wrap (a1 + a2), (!true, ())), ())
      else
        bif decide (a2 < (0 : Int)) then
          some ((IntKind.i64.wrap (a1 + a2), (!decide (a1 < IntKind.i64.wrap ((-9223372036854775808 : Int) - a2)), ())), ())
        else
          some ((IntKind.i64.wrap (a1 + a2), (!false, ())), ())
    else
      bif decide (a2 < (0 : Int)) then
        some ((IntKind.i64.wrap (a1 + a2), (!decide (a1 < IntKind.i64.wrap ((-9223372036854775808 : Int) - a2)), ())), ())
      else
        some ((IntKind.i64.wrap (a1 + a2), (!false, ())), ())
  else
    bif decide (a0 = (10 : Int)) then
      bif decide (a2 < (0 : Int)) then
        bif decide (IntKind.i64.wrap ((9223372036854775807 : Int) + a2) < a1) then
          some ((IntKind.i64.wrap (a1 - a2), (!true, ())), ())
        else
          bif decide ((0 : Int) < a2) then
            some ((IntKind.i64.wrap (a1 - a2), (!decide (a1 < IntKind.i64.wrap ((-9223372036854775808 : Int) + a2)), ())), ())
          else
            some ((IntKind.i64.wrap (a1 - a2), (!false, ())), ())
      else
        bif decide ((0 : Int) < a2) then
          some ((IntKind.i64.wrap (a1 - a2), (!decide (a1 < IntKind.i64.wrap ((-9223372036854775808 : Int) + a2)), ())), ())
        else
          some ((IntKind.i64.wrap (a1 - a2), (!false, ())), ())
    else
      bif decide (a0 = (11 : Int)) then
        (F123.run [PK.v (Ty.int IntKind.i64), PK.v (Ty.int IntKind.i64)] [RK.v (Ty.int IntKind.i64), RK.v Ty.bool] (4000000 : Nat) (a1, a2, ())).bind fun r0 =>
          some ((r0.fst.fst, (r0.fst.snd.fst, ())), ())
      else
        bif decide (a0 = (12 : Int)) then
          bif decide (a2 = (0 : Int)) then
            some (((0 : Int), (false, ())), ())
          else
            bif decide (a1 = (-9223372036854775808 : Int)) then
              bif decide (a2 = (-1 : Int)) then
                some (((0 : Int), (false, ())), ())
              else
                F109c11 n (a1) (a2)
            else
              F109c11 n (a1) (a2)
        else
          bif decide (a0 = (13 : Int)) then
            bif decide (a2 = (0 : Int)) then
              some (((0 : Int), (false, ())), ())
            else
              bif decide (a2 = (-1 : Int)) then
                some (((0 : Int), (true, ())), ())
              else
                if a2 = (0 : Int) then
                  none
                else
                  some ((a1.tmod a2, (true, ())), ())
          else
            some (((0 : Int), (false, ())), ()) := by kernel_rfl
theorem F109c11_eq (n : Nat) (x0 : Int) (x1 : Int) : F109c11 (n + 1) x0 x1 =
  if x1 = (0 : Int) then
    none
  else
    some ((IntKind.i64.wrap (x0.tdiv x1), (true, ())), ()) := by kernel_rfl
noncomputable def F88c3 (n : Nat) (x0 : Int) (x1 : Val) (x2 : Val) (x3 : Val) := F88.at [.v (.int .i64), .v (.nm 0), .v (.nm 0)] [.v (.nm 0)] n 3 ⟨[.one (.int .i64 x0), U, U, U, .one (.bptr 0 0), .one (.bptr 1 0), .one (.bptr 2 0), U, U, U, U, U, U, U, U, U, U, U, U, U, U, U, U, U, U, U, U, U, U, U, U, U], [(0, .whole (.nm 0) x1 []), (1, .whole (.nm 0) x2 []), (2, .whole (.nm 0) x3 [])]⟩
theorem F88_run (n : Nat) (a0 : Int) (a1 : Val) (a2 : Val) : F88.run [.v (.int .i64), .v (.nm 0), .v (.nm 0)] [.v (.nm 0)] n (a0, a1, a2, ()) =
  bif !decide (a1.kind = (2 : Int)) then
    some ((zVal, ()), ())
  else
    bif !decide (a2.kind = (2 : Int)) then
      some ((zVal, ()), ())
    else
      F88c3 n (a0) (a1) (a2) (zVal) := by kernel_rfl
theorem F88c3_eq (n : Nat) (x0 : Int) (x1 : Val) (x2 : Val) (x3 : Val) : F88c3 (n + 1) x0 x1 x2 x3 =
  (F109.run [PK.v (Ty.int IntKind.i64), PK.v (Ty.int IntKind.i64), PK.v (Ty.int IntKind.i64)] [RK.v (Ty.int IntKind.i64), RK.v Ty.bool] (4000000 : Nat) (x0, x1.int, x2.int, ())).bind fun r0 =>
    bif !r0.fst.snd.fst then
      some ((zVal, ()), ())
    else
      (F85.run [PK.v (Ty.int IntKind.i64)] [RK.v (Ty.nm (0 : Nat))] (4000000 : Nat) (r0.fst.fst, ())).bind fun r1 =>
        some ((r1.fst.fst, ()), ()) := by kernel_rfl
noncomputable def F86c3 (n : Nat) (x0 : List (Val)) (x1 : Bool) (x2 : Int) (x3 : Val) := F86.at [.v (.sl (.nm 0))] [.v (.nm 0)] n 3 ⟨[.one (.data (.sl (.nm 0)) x0 []), U, .one (.bptr 0 0), .one (.bool x1), .one (.int .i64 x2), U, U, U, U, U, U, U, U, U, U, U, U, U, U, U, U, U, U, U, U, U], [(0, .whole (.nm 0) x3 [])]⟩
theorem F86_run (n : Nat) (a0 : List (Val)) : F86.run [.v (.sl (.nm 0))] [.v (.nm 0)] n (a0, ()) =
  F86c3 n (a0) (false) ((0 : Int)) (zVal) := by kernel_rfl
theorem F86c3_eq (n : Nat) (x0 : List (Val)) (x1 : Bool) (x2 : Int) (x3 : Val) : F86c3 (n + 1) x0 x1 x2 x3 =
  bif decide (x2 < (↑x0.length : Int)) then
    if (0 : Int) ≤ x2 then
      if x2 < (↑x0.length : Int) then
        (F108.run [PK.v (Ty.nm (0 : Nat))] [RK.v Ty.bool] (4000000 : Nat) (x0.getD x2.toNat zVal, ())).bind fun r0 =>
          bif r0.fst.fst then
            (F54.run [PK.v Ty.bool] [RK.v (Ty.nm (0 : Nat))] (4000000 : Nat) (false, ())).bind fun r1 =>
              some ((r1.fst.fst, ()), ())
          else
            if (0 : Int) ≤ x2 then
              if x2 < (↑x0.length : Int) then
                (F49.run [PK.v (Ty.nm (0 : Nat))] [RK.v Ty.bool] (4000000 : Nat) (x0.getD x2.toNat zVal, ())).bind fun r2 =>
                  bif !r2.fst.fst then
                    F86c3 n (x0) (true) (IntKind.i64.wrap (x2 + (1 : Int))) (x3)
                  else
                    F86c3 n (x0) (x1) (IntKind.i64.wrap (x2 + (1 : Int))) (x3)
              else
                none
            else
              none
      else
        none
    else
      none
  else
    bif x1 then
      some ((zVal, ()), ())
    else
      (F54.run [PK.v Ty.bool] [RK.v (Ty.nm (0 : Nat))] (4000000 : Nat) (true, ())).bind fun r3 =>
        some ((r3.fst.fst, ()), ()) := by kernel_rfl
noncomputable def F65c17 (n : Nat) (x0 : Val) (x1 : Val) (x2 : Val) := F65.at [.v (.int .i64), .v (.nm 0), .v (.nm 0)] [.v (.nm 0)] n 17 ⟨[U, U, U, U, .one (.bptr 0 0), .one (.bptr 1 0), .one (.bptr 2 0), U, U, U, U, U, U, U, U, U, U, U, U, U, U, U, U, U, U, U, U, U, U, U, U, U, U, U, U, U, U, U, U, U, U, U, U, U, U, U, U, U, U, U, U, U, U, U, U, U], [(0, .whole (.nm 0) x0 []), (1, .whole (.nm 0) x1 []), (2, .whole (.nm 0) x2 [])]⟩
noncomputable def F65c18 (n : Nat) (x0 : Int) (x1 : Val) (x2 : Val) (x3 : Val) := F65.at [.v (.int .i64), .v (.nm 0), .v (.nm 0)] [.v (.nm 0)] n 18 ⟨[.one (.int .i64 x0), U, U, U, .one (.bptr 0 0), .one (.bptr 1 0), .one (.bptr 2 0), U, U, U, U, U, U, U, U, U, U, U, U, U, U, U, U, U, U, U, U, U, U, U, U, U, U, U, U, U, U, U, U, U, U, U, U, U, U, U, U, U, U, U, U, U, U, U, U, U], [(0, .whole (.nm 0) x1 []), (1, .whole (.nm 0) x2 []), (2, .whole (.nm 0) x3 [])]⟩
theorem F65_run (n : Nat) (a0 : Int) (a1 : Val) (a2 : Val) : F65.run [.v (.int .i64), .v (.nm 0), .v (.nm 0)] [.v (.nm 0)] n (a0, a1, a2, ()) =
  bif decide (a0 = (7 : Int)) then
    (F86.run [PK.v (Ty.nm (0 : Nat)).sl] [RK.v (Ty.nm (0 : Nat))] (4000000 : Nat) ([a1, a2], ())).bind fun r0 =>
      some ((r0.fst.fst, ()), ())
  else
    bif decide (a0 = (8 : Int)) then
      (F87.run [PK.v (Ty.nm (0 : Nat)).sl] [RK.v (Ty.nm (0 : Nat))] (4000000 : Nat) ([a1, a2], ())).bind fun r1 =>
        some ((r1.fst.fst, ()), ())
    else
      bif decide (a0 = (9 : Int)) then
        bif decide (a0 = (9 : Int)) then
          (F88.run [PK.v (Ty.int IntKind.i64), PK.v (Ty.nm (0 : Nat)), PK.v (Ty.nm (0 : Nat))] [RK.v (Ty.nm (0 : Nat))] (4000000 : Nat) (a0, a1, a2, ())).bind fun r2 =>
            some ((r2.fst.fst, ()), ())
        else
          bif decide (a0 = (14 : Int)) then
            (F89.run [PK.v (Ty.nm (0 : Nat)), PK.v (Ty.nm (0 : Nat))] [RK.v (Ty.nm (0 : Nat))] (4000000 : Nat) (a1, a2, ())).bind fun r3 =>
              some ((r3.fst.fst, ()), ())
          else
            bif decide (a0 = (15 : Int)) then
              bif !decide (a1.kind = (3 : Int)) then
                some ((zVal, ()), ())
              else
                bif !decide (a2.kind = (3 : Int)) then
                  some ((zVal, ()), ())
                else
                  F65c17 n (a1) (a2) (zVal)
            else
              F65c18 n (a0) (a1) (a2) (zVal)
      else
        bif decide (a0 = (10 : Int)) then
          bif decide (a0 = (10 : Int)) then
            (F88.run [PK.v (Ty.int IntKind.i64), PK.v (Ty.nm (0 : Nat)), PK.v (Ty.nm (0 : Nat))] [RK.v (Ty.nm (0 : Nat))] (4000000 : Nat) (a0, a1, a2, ())).bind fun r4 =>
              some ((r4.fst.fst, ()), ())
          else
            bif decide (a0 = (14 : Int)) then
              (F89.run [PK.v (Ty.nm (0 : Nat)), PK.v (Ty.nm (0 : Nat))] [RK.v (Ty.nm (0 : Nat))] (4000000 : Nat) (a1, a2, ())).bind fun r5 =>
                some ((r5.fst.fst, ()), ())
            else
              bif decide (a0 = (15 : Int)) then
                bif !decide (a1.kind = (3 : Int)) then
                  some ((zVal, ()), ())
                else
                  bif !decide (a2.kind = (3 : Int)) then
                    some ((zVal, ()), ())
                  else
                    F65c17 n (a1) (a2) (zVal)
              else
                F65c18 n (a0) (a1) (a2) (zVal)
        else
          bif decide (a0 = (11 : Int)) then
            bif decide (a0 = (11 : Int)) then
              (F88.run [PK.v (Ty.int IntKind.i64), PK.v (Ty.nm (0 : Nat)), PK.v (Ty.nm (0 : Nat))] [RK.v (Ty.nm (0 : Nat))] (4000000 : Nat) (a0, a1, a2, ())).bind fun r6 =>
                some ((r6.fst.fst, ()), ())
            else
              bif decide (a0 = (14 : Int)) then
                (F89.run [PK.v (Ty.nm (0 : Nat)), PK.v (Ty.nm (0 : Nat))] [RK.v (Ty.nm (0 : Nat))] (4000000 : Nat) (a1, a2, ())).bind fun r7 =>
                  some ((r7.fst.fst, ()), ())
              else
                bif decide (a0 = (15 : Int)) then
                  bif !decide (a1.kind = (3 : Int)) then
                    some ((zVal, ()), ())
                  else
                    bif !decide (a2.kind = (3 : Int)) then
                      some ((zVal, ()), ())
                    else
                      F65c17 n (a1) (a2) (zVal)
                else
                  F65c18 n (a0) (a1) (a2) (zVal)
          else
            bif decide (a0 = (12 : Int)) then
              bif decide (a0 = (12 : Int)) then
                (F88.run [PK.v (Ty.int IntKind.i64), PK.v (Ty.nm (0 : Nat)), PK.v (Ty.nm (0 : Nat))] [RK.v (Ty.nm (0 : Nat))] (4000000 : Nat) (a0, a1, a2, ())).bind fun r8 =>
                  some ((r8.fst.fst, ()), ())
              else
                bif decide (a0 = (14 : Int)) then
                  (F89.run [PK.v (Ty.nm (0 : Nat)), PK.v (Ty.nm (0 : Nat))] [RK.v (Ty.nm (0 : Nat))] (4000000 : Nat) (a1, a2, ())).bind fun r9 =>
                    some ((r9.fst.fst, ()), ())
                else
                  bif decide (a0 = (15 : Int)) then
                    bif !decide (a1.kind = (3 : Int)) then
                      some ((zVal, ()), ())
                    else
                      bif !decide (a2.kind = (3 : Int)) then
                        some ((zVal, ()), ())
                      else
                        F65c17 n (a1) (a2) (zVal)
                  else
                    F65c18 n (a0) (a1) (a2) (zVal)
            else
              bif decide (a0 = (13 : Int)) then
                (F88.run [PK.v (Ty.int IntKind.i64), PK.v (Ty.nm (0 : Nat)), PK.v (Ty.nm (0 : Nat))] [RK.v (Ty.nm (0 : Nat))] (4000000 : Nat) (a0, a1, a2, ())).bind fun r10 =>
                  some ((r10.fst.fst, ()), ())
              else
                bif decide (a0 = (14 : Int)) then
                  (F89.run [PK.v (Ty.nm (0 : Nat)), PK.v (Ty.nm (0 : Nat))] [RK.v (Ty.nm (0 : Nat))] (4000000 : Nat) (a1, a2, ())).bind fun r11 =>
                    some ((r11.fst.fst, ()), ())
                else
                  bif decide (a0 = (15 : Int)) then
                    bif !decide (a1.kind = (3 : Int)) then
                      some ((zVal, ()), ())
                    else
                      bif !decide (a2.kind = (3 : Int)) then
                        some ((zVal, ()), ())
                      else
                        F65c17 n (a1) (a2) (zVal)
                  else
                    F65c18 n (a0) (a1) (a2) (zVal) := by kernel_rfl
theorem F65c17_eq (n : Nat) (x0 : Val) (x1 : Val) (x2 : Val) : F65c17 (n + 1) x0 x1 x2 =
  (F90.run [PK.v Ty.str, PK.v Ty.str] [RK.v Ty.bool] (40000000 : Nat) (x1.text, x0.text, ())).bind fun r12 =>
    (F66.run [PK.v Ty.bool] [RK.v (Ty.nm (0 : Nat))] (4000000 : Nat) (r12.fst.fst, ())).bind fun r13 =>
      some ((r13.fst.fst, ()), ()) := by kernel_rfl
theorem F65c18_eq (n : Nat) (x0 : Int) (x1 : Val) (x2 : Val) (x3 : Val) : F65c18 (n + 1) x0 x1 x2 x3 =
  (F71.run [PK.v (Ty.int IntKind.i64), PK.v (Ty.nm (0 : Nat)), PK.v (Ty.nm (0 : Nat))] [RK.v (Ty.nm (0 : Nat))] (4000000 : Nat) (x0, x1, x2, ())).bind fun r14 =>
    some ((r14.fst.fst, ()), ()) := by kernel_rfl
theorem F64_run (n : Nat) (a0 : Val) : F64.run [.v (.nm 0)] [.v (.nm 0)] n (a0, ()) =
  bif !decide (a0.kind = (2 : Int)) then
    some ((zVal, ()), ())
  else
    bif decide (a0.int = (-9223372036854775808 : Int)) then
      some ((zVal, ()), ())
    else
      (F85.run [PK.v (Ty.int IntKind.i64)] [RK.v (Ty.nm (0 : Nat))] (4000000 : Nat) (IntKind.i64.wrap ((0 : Int) - a0.int), ())).bind fun r0 =>
        some ((r0.fst.fst, ()), ()) := by kernel_rfl
theorem F63_run (n : Nat) (a0 : Val) : F63.run [.v (.nm 0)] [.v (.nm 0)] n (a0, ()) =
  bif !decide (a0.kind = (1 : Int)) then
    some ((zVal, ()), ())
  else
    (F54.run [PK.v Ty.bool] [RK.v (Ty.nm (0 : Nat))] (4000000 : Nat) (decide (a0.int = (0 : Int)), ())).bind fun r0 =>
      some ((r0.fst.fst, ()), ()) := by kernel_rfl
theorem F61_run (n : Nat) (a0 : List (Val)) (a1 : Int) : F61.run [.v (.sl (.nm 0)), .v (.int .i64)] [.v (.nm 0)] n (a0, a1, ()) =
  bif decide (a1 < (0 : Int)) then
    some ((zVal, ()), ())
  else
    bif decide ((↑a0.length : Int) ≤ a1) then
      some ((zVal, ()), ())
    else
      if (0 : Int) ≤ a1 then
        if a1 < (↑a0.length : Int) then
          some ((a0.getD a1.toNat zVal, ()), ())
        else
          none
      else
        none := by kernel_rfl
noncomputable def F62c1 (g33 : G33) (n : Nat) (x0 : List (Ex)) (x1 : List (Val)) := (F62 g33).at [.v (.sl (.nm 1)), .v (.sl (.nm 0))] [.own 23 (.nm 0)] n 1 ⟨[.one (.data (.sl (.nm 1)) x0 []), .one (.data (.sl (.nm 0)) x1 []), U, U, U, U, U, U, U, U, U, U, U, U, U, U, U, U, U, U, U, U, U], []⟩
noncomputable def F62c3 (g33 : G33) (n : Nat) (x0 : List (Ex)) (x1 : List (Val)) (x2 : Int) (x3 : List (Val)) := (F62 g33).at [.v (.sl (.nm 1)), .v (.sl (.nm 0))] [.own 23 (.nm 0)] n 3 ⟨[.one (.data (.sl (.nm 1)) x0 []), .one (.data (.sl (.nm 0)) x1 []), U, U, U, .one (.own 0), .one (.int .i64 x2), U, U, U, U, U, U, U, U, U, U, U, U, U, U, U, U], [(0, .row 23 (.nm 0) x3 [] false)]⟩
theorem F62_run (g33 : G33) (n : Nat) (a0 : List (Ex)) (a1 : List (Val)) : (F62 g33).run [.v (.sl (.nm 1)), .v (.sl (.nm 0))] [.own 23 (.nm 0)] n (a0, a1, ()) =
  F62c1 g33 n (a0) (a1) := by kernel_rfl
theorem F62c1_eq (g33 : G33) (n : Nat) (x0 : List (Ex)) (x1 : List (Val)) : F62c1 g33 (n + 1) x0 x1 =
  F62c3 g33 n (x0) (x1) ((0 : Int)) ([]) := by kernel_rfl
theorem F62c3_eq (g33 : G33) (n : Nat) (x0 : List (Ex)) (x1 : List (Val)) (x2 : Int) (x3 : List (Val)) : F62c3 g33 (n + 1) x0 x1 x2 x3 =
  bif decide (x2 < (↑x0.length : Int)) then
    if (0 : Int) ≤ x2 then
      if x2 < (↑x0.length : Int) then
        (g33 (x0.getD x2.toNat zEx, x1, ())).bind fun r0 =>
          if x3.length + (1 : Nat) ≤ lim then
            F62c3 g33 n (x0) (x1) (IntKind.i64.wrap (x2 + (1 : Int))) (x3 ++ ([r0.fst.fst] : List (Val)))
          else
            none
      else
        none
    else
      none
  else
    some ((x3, ()), ()) := by kernel_rfl
noncomputable def F33c9 (g33 : G33) (n : Nat) (x0 : List (Val)) (x1 : Ex) (x2 : Val) := (F33 g33).at [.v (.nm 1), .v (.sl (.nm 0))] [.v (.nm 0)] n 9 ⟨[U, .one (.data (.sl (.nm 0)) x0 []), .one (.bptr 0 0), U, .one (.bptr 1 0), U, U, U, U, U, U, U, U, U, U, U, U, U, U, U, U, U, U, U, U, U, U, U, U, U, U, U, U, U, U, U, U, U, U, U, U, U, U, U, U, U, U, U, U, U, U, U, U, U, U, U, U, U, U, U, U, U, U, U, U, U, U, U, U, U, U, U, U, U], [(0, .whole (.nm 1) x1 []), (1, .whole (.nm 0) x2 [])]⟩
theorem F33_run (g33 : G33) (n : Nat) (a0 : Ex) (a1 : List (Val)) : (F33 g33).run [.v (.nm 1), .v (.sl (.nm 0))] [.v (.nm 0)] n (a0, a1, ()) =
  bif decide (a0.kind = (1 : Int)) then
    some ((a0.value, ()), ())
  else
    bif decide (a0.kind = (2 : Int)) then
      (F61.run [PK.v (Ty.nm (0 : Nat)).sl, PK.v (Ty.int IntKind.i64)] [RK.v (Ty.nm (0 : Nat))] (4000000 : Nat) (a1, a0.slot, ())).bind fun r0 =>
        some ((r0.fst.fst, ()), ())
    else
      bif decide (a0.kind = (10 : Int)) then
        bif decide (a0.kind = (10 : Int)) then
          some ((zVal, ()), ())
        else
          F33c9 g33 n (a1) (a0) (zVal)
      else
        bif decide (a0.kind = (11 : Int)) then
          some ((zVal, ()), ())
        else
          F33c9 g33 n (a1) (a0) (zVal) := by kernel_rfl
theorem F33c9_eq (g33 : G33) (n : Nat) (x0 : List (Val)) (x1 : Ex) (x2 : Val) : F33c9 g33 (n + 1) x0 x1 x2 =
  ((F62 g33).run [PK.v (Ty.nm (1 : Nat)).sl, PK.v (Ty.nm (0 : Nat)).sl] [RK.own (23 : TypeId) (Ty.nm (0 : Nat))] (4000000 : Nat) (x1.args, x0, ())).bind fun r1 =>
    bif decide (x1.kind = (3 : Int)) then
      if (0 : Int) < (↑(List.length r1.fst.fst) : Int) then
        (F63.run [PK.v (Ty.nm (0 : Nat))] [RK.v (Ty.nm (0 : Nat))] (4000000 : Nat) (List.getD r1.fst.fst (Int.toNat (0 : Int)) zVal, ())).bind fun r2 =>
          some ((r2.fst.fst, ()), ())
      else
        none
    else
      bif decide (x1.kind = (4 : Int)) then
        if (0 : Int) < (↑(List.length r1.fst.fst) : Int) then
          (F64.run [PK.v (Ty.nm (0 : Nat))] [RK.v (Ty.nm (0 : Nat))] (4000000 : Nat) (List.getD r1.fst.fst (Int.toNat (0 : Int)) zVal, ())).bind fun r3 =>
            some ((r3.fst.fst, ()), ())
        else
          none
      else
        bif decide (x1.kind = (5 : Int)) then
          if (0 : Int) < (↑(List.length r1.fst.fst) : Int) then
            if (1 : Int) < (↑(List.length r1.fst.fst) : Int) then
              (F65.run [PK.v (Ty.int IntKind.i64), PK.v (Ty.nm (0 : Nat)), PK.v (Ty.nm (0 : Nat))] [RK.v (Ty.nm (0 : Nat))] (4000000 : Nat) (x1.op, List.getD r1.fst.fst (Int.toNat (0 : Int)) zVal, List.getD r1.fst.fst (Int.toNat (1 : Int)) zVal, ())).bind fun r4 =>
                some ((r4.fst.fst, ()), ())
            else
              none
          else
            none
        else
          bif decide (x1.kind = (6 : Int)) then
            if (0 : Int) < (↑(List.length r1.fst.fst) : Int) then
              (F66.run [PK.v Ty.bool] [RK.v (Ty.nm (0 : Nat))] (4000000 : Nat) (decide ((List.getD r1.fst.fst (Int.toNat (0 : Int)) zVal).kind = (0 : Int)), ())).bind fun r5 =>
                some ((r5.fst.fst, ()), ())
            else
              none
          else
            bif decide (x1.kind = (7 : Int)) then
              (F67.run [PK.v (Ty.nm (0 : Nat)).sl] [RK.v (Ty.nm (0 : Nat))] (4000000 : Nat) (r1.fst.fst, ())).bind fun r6 =>
                some ((r6.fst.fst, ()), ())
            else
              bif decide (x1.kind = (8 : Int)) then
                (F68.run [PK.v (Ty.nm (0 : Nat)).sl] [RK.v (Ty.nm (0 : Nat))] (4000000 : Nat) (r1.fst.fst, ())).bind fun r7 =>
                  some ((r7.fst.fst, ()), ())
              else
                bif decide (x1.kind = (9 : Int)) then
                  (F69.run [PK.v Ty.str, PK.v (Ty.nm (0 : Nat)).sl] [RK.v (Ty.nm (0 : Nat))] (4000000 : Nat) (x1.name, r1.fst.fst, ())).bind fun r8 =>
                    some ((r8.fst.fst, ()), ())
                else
                  some ((zVal, ()), ()) := by kernel_rfl
theorem F23_run (n : Nat) (a0 : Ex) (a1 : List (Val)) : F23.run [.v (.nm 1), .v (.sl (.nm 0))] [.v (.bool)] n (a0, a1, ()) =
  (R33 (a0, a1, ())).bind fun r0 =>
    (F49.run [PK.v (Ty.nm (0 : Nat))] [RK.v Ty.bool] (4000000 : Nat) (r0.fst.fst, ())).bind fun r1 =>
      some ((r1.fst.fst, ()), ()) := by kernel_rfl
noncomputable def F48c2 (n : Nat) (x0 : List (Val)) (x1 : Int) := F48.at [.v (.sl (.nm 0))] [.v (.bool)] n 2 ⟨[.one (.data (.sl (.nm 0)) x0 []), U, U, .one (.int .i64 x1), U, U, U, U, U, U, U, U, U, U, U, U], []⟩
theorem F48_run (n : Nat) (a0 : List (Val)) : F48.run [.v (.sl (.nm 0))] [.v (.bool)] n (a0, ()) =
  F48c2 n (a0) ((0 : Int)) := by kernel_rfl
theorem F48c2_eq (n : Nat) (x0 : List (Val)) (x1 : Int) : F48c2 (n + 1) x0 x1 =
  bif decide (x1 < (↑x0.length : Int)) then
    if (0 : Int) ≤ x1 then
      if x1 < (↑x0.length : Int) then
        (F82.run [PK.v (Ty.nm (0 : Nat))] [RK.v Ty.bool] (4000000 : Nat) (x0.getD x1.toNat zVal, ())).bind fun r0 =>
          bif !r0.fst.fst then
            some ((false, ()), ())
          else
            F48c2 n (x0) (IntKind.i64.wrap (x1 + (1 : Int)))
      else
        none
    else
      none
  else
    some ((true, ()), ()) := by kernel_rfl
noncomputable def F22c3 (n : Nat) (x0 : List (Val)) := F22.at [.v (.sl (.nm 0))] [.v (.bool)] n 3 ⟨[.one (.data (.sl (.nm 0)) x0 []), U, U, U, U, U, U, U, U, U, U, U, U, U, U, U, U, U, U, U, U, U, U, U, U, U, U, U, U, U, U, U, U, U, U, U, U, U], []⟩
noncomputable def F22c4 (n : Nat) (x0 : List (Val)) (x1 : Int) := F22.at [.v (.sl (.nm 0))] [.v (.bool)] n 4 ⟨[.one (.data (.sl (.nm 0)) x0 []), U, U, .one (.int .i64 x1), U, U, U, U, U, U, U, U, U, U, U, U, U, U, U, U, U, U, U, U, U, U, U, U, U, U, U, U, U, U, U, U, U, U], []⟩
theorem F22_run (n : Nat) (a0 : List (Val)) : F22.run [.v (.sl (.nm 0))] [.v (.bool)] n (a0, ()) =
  (F36.run [] [RK.own (3 : TypeId) (Ty.int IntKind.i64)] (4000000 : Nat) ()).bind fun r0 =>
    bif !decide ((↑a0.length : Int) = (↑(List.length r0.fst.fst) : Int)) then
      some ((false, ()), ())
    else
      (F48.run [PK.v (Ty.nm (0 : Nat)).sl] [RK.v Ty.bool] (4000000 : Nat) (a0, ())).bind fun r1 =>
        bif !r1.fst.fst then
          some ((false, ()), ())
        else
          F22c3 n (a0) := by kernel_rfl
theorem F22c3_eq (n : Nat) (x0 : List (Val)) : F22c3 (n + 1) x0 =
  F22c4 n (x0) ((0 : Int)) := by kernel_rfl
theorem F22c4_eq (n : Nat) (x0 : List (Val)) (x1 : Int) : F22c4 (n + 1) x0 x1 =
  bif decide (x1 < (↑x0.length : Int)) then
    if (0 : Int) ≤ x1 then
      if x1 < (↑x0.length : Int) then
        bif !decide ((x0.getD x1.toNat zVal).kind = (0 : Int)) then
          if (0 : Int) ≤ x1 then
            if x1 < (↑x0.length : Int) then
              (F36.run [] [RK.own (3 : TypeId) (Ty.int IntKind.i64)] (4000000 : Nat) ()).bind fun r2 =>
                if (0 : Int) ≤ x1 then
                  if x1 < (↑(List.length r2.fst.fst) : Int) then
                    bif !decide ((x0.getD x1.toNat zVal).kind = List.getD r2.fst.fst x1.toNat (0 : Int)) then
                      some ((false, ()), ())
                    else
                      F22c4 n (x0) (IntKind.i64.wrap (x1 + (1 : Int)))
                  else
                    none
                else
                  none
            else
              none
          else
            none
        else
          F22c4 n (x0) (IntKind.i64.wrap (x1 + (1 : Int)))
      else
        none
    else
      none
  else
    some ((true, ()), ()) := by kernel_rfl
theorem F32_run (n : Nat) (a0 : Val) (a1 : Val) : F32.run [.v (.nm 0), .v (.nm 0)] [.v (.bool)] n (a0, a1, ()) =
  (F60.run [PK.v (Ty.nm (0 : Nat)), PK.v (Ty.nm (0 : Nat))] [RK.v (Ty.int IntKind.i64)] (4000000 : Nat) (a0, a1, ())).bind fun r0 =>
    some ((decide (r0.fst.fst = (0 : Int)), ()), ()) := by kernel_rfl
theorem F37_run (n : Nat) (a0 : Pred) (a1 : List (Val)) : F37.run [.v (.nm 3), .v (.sl (.nm 0))] [.v (.bool)] n (a0, a1, ()) =
  (F61.run [PK.v (Ty.nm (0 : Nat)).sl, PK.v (Ty.int IntKind.i64)] [RK.v (Ty.nm (0 : Nat))] (4000000 : Nat) (a1, a0.column, ())).bind fun r0 =>
    bif decide (a0.op = (20 : Int)) then
      some ((decide (r0.fst.fst.kind = (0 : Int)), ()), ())
    else
      bif decide (a0.op = (21 : Int)) then
        some ((!decide (r0.fst.fst.kind = (0 : Int)), ()), ())
      else
        (F71.run [PK.v (Ty.int IntKind.i64), PK.v (Ty.nm (0 : Nat)), PK.v (Ty.nm (0 : Nat))] [RK.v (Ty.nm (0 : Nat))] (4000000 : Nat) (a0.op, r0.fst.fst, a0.value, ())).bind fun r1 =>
          (F49.run [PK.v (Ty.nm (0 : Nat))] [RK.v Ty.bool] (4000000 : Nat) (r1.fst.fst, ())).bind fun r2 =>
            some ((r2.fst.fst, ()), ()) := by kernel_rfl
end Go.Proofs.Tryz
