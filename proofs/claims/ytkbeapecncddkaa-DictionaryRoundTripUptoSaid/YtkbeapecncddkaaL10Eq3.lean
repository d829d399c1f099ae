/- The functions of the program as the engine follows them (printed by a program of ours): their code, what is known of them, and the equations of their runs. -/
import Derived.Test.YtkbeapecncddkaaL10Fns
set_option linter.unusedVariables false
set_option maxRecDepth 20000
namespace Go.Proofs.Try
open Go.Eng

noncomputable def F86c3 (n : Nat) (x0 : List (Run)) (x1 : Int) (x2 : Int) := F86.at [.v (.sl (.nm 1))] [.v .bool] n 3 ⟨[.one (.data (.sl (.nm 1)) x0 []), U, U, .one (.int .i64 x1), .one (.int .i64 x2), U, U, U, U, U, U, U, U, U, U, U, U, U, U, U, U, U, U, U, U, U, U, U, U, U, U, U, U, U, U, U, U, U, U, U, U, U, U, U, U, U, U, U, U, U, U], []⟩
noncomputable def F86c7 (n : Nat) (x0 : List (Run)) (x1 : Int) (x2 : Int) := F86.at [.v (.sl (.nm 1))] [.v .bool] n 7 ⟨[.one (.data (.sl (.nm 1)) x0 []), U, U, .one (.int .i64 x1), .one (.int .i64 x2), U, U, U, U, U, U, U, U, U, U, U, U, U, U, U, U, U, U, U, U, U, U, U, U, U, U, U, U, U, U, U, U, U, U, U, U, U, U, U, U, U, U, U, U, U, U], []⟩
theorem F86_run (n : Nat) (a0 : List (Run)) : F86.run [.v (.sl (.nm 1))] [.v .bool] n (a0, ()) =
  F86c3 n (a0) ((65536 : Int)) ((0 : Int)) := by kernel_rfl
theorem F86c3_eq (n : Nat) (x0 : List (Run)) (x1 : Int) (x2 : Int) : F86c3 (n + 1) x0 x1 x2 =
  bif decide (x2 < (↑x0.length : Int)) then
    if (0 : Int) ≤ x2 then
      if x2 < (↑x0.length : Int) then
        bif decide ((x0.getD x2.toNat { value := (0 : Int), count := (0 : Int) : Run }).count < (1 : Int)) then
          some ((false, ()), ())
        else
          if (0 : Int) ≤ x2 then
            if x2 < (↑x0.length : Int) then
              bif decide (x1 < (x0.getD x2.toNat { value := (0 : Int), count := (0 : Int) : Run }).count) then
                some ((false, ()), ())
              else
                bif decide ((0 : Int) < x2) then
                  if (0 : Int) ≤ x2 then
                    if x2 < (↑x0.length : Int) then
                      if (0 : Int) ≤ IntKind.i64.wrap (x2 - (1 : Int)) then
                        if IntKind.i64.wrap (x2 - (1 : Int)) < (↑x0.length : Int) then
                          bif decide ((x0.getD x2.toNat { value := (0 : Int), count := (0 : Int) : Run }).value = (x0.getD (IntKind.i64.wrap (x2 - (1 : Int))).toNat { value := (0 : Int), count := (0 : Int) : Run }).value) then
                            some ((false, ()), ())
                          else
                            F86c7 n (x0) (x1) (x2)
                        else
                          none
                      else
                        none
                    else
                      none
                  else
                    none
                else
                  F86c7 n (x0) (x1) (x2)
            else
              none
          else
            none
      else
        none
    else
      none
  else
    some ((true, ()), ()) := by kernel_rfl
theorem F86c7_eq (n : Nat) (x0 : List (Run)) (x1 : Int) (x2 : Int) : F86c7 (n + 1) x0 x1 x2 =
  if (0 : Int) ≤ x2 then
    if x2 < (↑x0.length : Int) then
      F86c3 n (x0) (IntKind.i64.wrap (x1 - (x0.getD x2.toNat { value := (0 : Int), count := (0 : Int) : Run }).count)) (IntKind.i64.wrap (x2 + (1 : Int)))
    else
      none
  else
    none := by kernel_rfl
noncomputable def F68c1 (n : Nat) (x0 : List (Run)) := F68.at [.v (.sl (.nm 1))] [.own 2 (.int .i64), .v (.int .i64)] n 1 ⟨[.one (.data (.sl (.nm 1)) x0 []), U, U, U, U, U, U, U, U, U, U, U, U, U, U, U, U, U, U, U, U, U, U, U, U, U, U, U, U, U, U, U, U, U], []⟩
noncomputable def F68c5 (n : Nat) (x0 : List (Run)) (x1 : Int) (x2 : List (Int)) := F68.at [.v (.sl (.nm 1))] [.own 2 (.int .i64), .v (.int .i64)] n 5 ⟨[.one (.data (.sl (.nm 1)) x0 []), U, U, U, .one (.own 0), .one (.int .i64 x1), U, U, U, U, U, U, U, U, U, U, U, U, U, U, U, U, U, U, U, U, U, U, U, U, U, U, U, U], [(0, .row 2 (.int .i64) x2 [] false)]⟩
noncomputable def F68c8 (n : Nat) (x0 : List (Run)) (x1 : Int) (x2 : Int) (x3 : List (Int)) := F68.at [.v (.sl (.nm 1))] [.own 2 (.int .i64), .v (.int .i64)] n 8 ⟨[.one (.data (.sl (.nm 1)) x0 []), U, U, U, .one (.own 0), .one (.int .i64 x1), .one (.int .i64 x2), U, U, U, U, U, U, U, U, U, U, U, U, U, U, U, U, U, U, U, U, U, U, U, U, U, U, U], [(0, .row 2 (.int .i64) x3 [] false)]⟩
theorem F68_run (n : Nat) (a0 : List (Run)) : F68.run [.v (.sl (.nm 1))] [.own 2 (.int .i64), .v (.int .i64)] n (a0, ()) =
  F68c1 n (a0) := by kernel_rfl
theorem F68c1_eq (n : Nat) (x0 : List (Run)) : F68c1 (n + 1) x0 =
  (F86.run [PK.v (Ty.nm (1 : Nat)).sl] [RK.v Ty.bool] (4000000 : Nat) (x0, ())).bind fun r0 =>
    bif !r0.fst.fst then
      some (([], ((4 : Int), ())), ())
    else
      F68c5 n (x0) ((0 : Int)) ([]) := by kernel_rfl
theorem F68c5_eq (n : Nat) (x0 : List (Run)) (x1 : Int) (x2 : List (Int)) : F68c5 (n + 1) x0 x1 x2 =
  bif decide (x1 < (↑x0.length : Int)) then
    F68c8 n (x0) (x1) ((0 : Int)) (x2)
  else
    some ((x2, ((0 : Int), ())), ()) := by kernel_rfl
theorem F68c8_eq (n : Nat) (x0 : List (Run)) (x1 : Int) (x2 : Int) (x3 : List (Int)) : F68c8 (n + 1) x0 x1 x2 x3 =
  if (0 : Int) ≤ x1 then
    if x1 < (↑x0.length : Int) then
      bif decide (x2 < (x0.getD x1.toNat { value := (0 : Int), count := (0 : Int) : Run }).count) then
        if (0 : Int) ≤ x1 then
          if x1 < (↑x0.length : Int) then
            if x3.length + (1 : Nat) ≤ lim then
              F68c8 n (x0) (x1) (IntKind.i64.wrap (x2 + (1 : Int))) (x3 ++ [(x0.getD x1.toNat { value := (0 : Int), count := (0 : Int) : Run }).value])
            else
              none
          else
            none
        else
          none
      else
        F68c5 n (x0) (IntKind.i64.wrap (x1 + (1 : Int))) (x3)
    else
      none
  else
    none := by kernel_rfl
theorem F85_run (n : Nat) (a0 : Int) : F85.run [.v (.int .u64)] [.v (.int .i64)] n (a0, ()) =
  bif decide (a0.tmod (2 : Int) = (0 : Int)) then
    some ((IntKind.i64.wrap (IntKind.u64.wrap (a0.tdiv (2 : Int))), ()), ())
  else
    some ((IntKind.i64.wrap (IntKind.i64.wrap ((0 : Int) - IntKind.i64.wrap (IntKind.u64.wrap (a0.tdiv (2 : Int)))) - (1 : Int)), ()), ()) := by kernel_rfl
noncomputable def F65c3 (n : Nat) (x0 : List (Int)) (x1 : Int) := F65.at [.v (.sl (.int .u8)), .v (.int .i64)] [.v (.int .u64), .v (.int .i64), .v (.int .i64)] n 3 ⟨[.one (.data (.sl (.int .u8)) x0 []), .one (.int .i64 x1), U, U, U, U, U, U, U, U, U, U, U, U, U, U, U, U, U, U, U, U, U, U, U, U, U, U, U, U, U, U, U, U, U, U, U, U, U, U, U, U, U, U, U, U, U, U, U, U, U, U, U, U, U, U, U, U, U, U, U, U, U], []⟩
noncomputable def F65c6 (n : Nat) (x0 : List (Int)) (x1 : Int) (x2 : Int) (x3 : Int) (x4 : Int) := F65.at [.v (.sl (.int .u8)), .v (.int .i64)] [.v (.int .u64), .v (.int .i64), .v (.int .i64)] n 6 ⟨[.one (.data (.sl (.int .u8)) x0 []), .one (.int .i64 x1), U, U, U, U, U, .one (.int .u64 x2), .one (.int .u64 x3), .one (.int .i64 x4), U, U, U, U, U, U, U, U, U, U, U, U, U, U, U, U, U, U, U, U, U, U, U, U, U, U, U, U, U, U, U, U, U, U, U, U, U, U, U, U, U, U, U, U, U, U, U, U, U, U, U, U, U], []⟩
noncomputable def F65c11 (n : Nat) (x0 : List (Int)) (x1 : Int) (x2 : Int) (x3 : Int) (x4 : Int) (x5 : Int) := F65.at [.v (.sl (.int .u8)), .v (.int .i64)] [.v (.int .u64), .v (.int .i64), .v (.int .i64)] n 11 ⟨[.one (.data (.sl (.int .u8)) x0 []), .one (.int .i64 x1), U, U, U, U, U, .one (.int .u64 x2), .one (.int .u64 x3), .one (.int .i64 x4), .one (.int .u8 x5), U, U, U, U, U, U, U, U, U, U, U, U, U, U, U, U, U, U, U, U, U, U, U, U, U, U, U, U, U, U, U, U, U, U, U, U, U, U, U, U, U, U, U, U, U, U, U, U, U, U, U, U], []⟩
theorem F65_run (n : Nat) (a0 : List (Int)) (a1 : Int) : F65.run [.v (.sl (.int .u8)), .v (.int .i64)] [.v (.int .u64), .v (.int .i64), .v (.int .i64)] n (a0, a1, ()) =
  bif decide (a1 < (0 : Int)) then
    some (((0 : Int), ((0 : Int), ((1 : Int), ()))), ())
  else
    bif decide ((↑a0.length : Int) < a1) then
      some (((0 : Int), ((0 : Int), ((1 : Int), ()))), ())
    else
      F65c3 n (a0) (a1) := by kernel_rfl
theorem F65c3_eq (n : Nat) (x0 : List (Int)) (x1 : Int) : F65c3 (n + 1) x0 x1 =
  F65c6 n (x0) (x1) ((0 : Int)) ((1 : Int)) ((0 : Int)) := by kernel_rfl
theorem F65c6_eq (n : Nat) (x0 : List (Int)) (x1 : Int) (x2 : Int) (x3 : Int) (x4 : Int) : F65c6 (n + 1) x0 x1 x2 x3 x4 =
  bif decide ((↑x0.length : Int) ≤ IntKind.i64.wrap (x1 + x4)) then
    some (((0 : Int), ((0 : Int), ((2 : Int), ()))), ())
  else
    if (0 : Int) ≤ IntKind.i64.wrap (x1 + x4) then
      if IntKind.i64.wrap (x1 + x4) < (↑x0.length : Int) then
        bif decide (x4 = (9 : Int)) then
          bif decide ((1 : Int) < x0.getD (IntKind.i64.wrap (x1 + x4)).toNat (0 : Int)) then
            some (((0 : Int), ((0 : Int), ((4 : Int), ()))), ())
          else
            bif decide ((0 : Int) < x4) then
              bif decide (x0.getD (IntKind.i64.wrap (x1 + x4)).toNat (0 : Int) = (0 : Int)) then
                some (((0 : Int), ((0 : Int), ((4 : Int), ()))), ())
              else
                F65c11 n (x0) (x1) (x2) (x3) (x4) (x0.getD (IntKind.i64.wrap (x1 + x4)).toNat (0 : Int))
            else
              F65c11 n (x0) (x1) (x2) (x3) (x4) (x0.getD (IntKind.i64.wrap (x1 + x4)).toNat (0 : Int))
        else
          bif decide ((0 : Int) < x4) then
            bif decide (x0.getD (IntKind.i64.wrap (x1 + x4)).toNat (0 : Int) = (0 : Int)) then
              some (((0 : Int), ((0 : Int), ((4 : Int), ()))), ())
            else
              F65c11 n (x0) (x1) (x2) (x3) (x4) (x0.getD (IntKind.i64.wrap (x1 + x4)).toNat (0 : Int))
          else
            F65c11 n (x0) (x1) (x2) (x3) (x4) (x0.getD (IntKind.i64.wrap (x1 + x4)).toNat (0 : Int))
      else
        none
    else
      none := by kernel_rfl
theorem F65c11_eq (n : Nat) (x0 : List (Int)) (x1 : Int) (x2 : Int) (x3 : Int) (x4 : Int) (x5 : Int) : F65c11 (n + 1) x0 x1 x2 x3 x4 x5 =
  bif decide (x5 < (128 : Int)) then
    some ((IntKind.u64.wrap (x2 + IntKind.u64.wrap (IntKind.u64.wrap (x5.tmod (128 : Int)) * x3)), (IntKind.i64.wrap (IntKind.i64.wrap (x1 + x4) + (1 : Int)), ((0 : Int), ()))), ())
  else
    F65c6 n (x0) (x1) (IntKind.u64.wrap (x2 + IntKind.u64.wrap (IntKind.u64.wrap (x5.tmod (128 : Int)) * x3))) (IntKind.u64.wrap (x3 * (128 : Int))) (IntKind.i64.wrap (x4 + (1 : Int))) := by kernel_rfl
noncomputable def F67c1 (n : Nat) (x0 : List (Int)) (x1 : Int) := F67.at [.v (.sl (.int .u8)), .v (.int .i64)] [.own 82 (.nm 1), .v (.int .i64), .v (.int .i64)] n 1 ⟨[.one (.data (.sl (.int .u8)) x0 []), .one (.int .i64 x1), U, U, U, U, U, U, U, U, U, U, U, U, U, U, U, U, U, U, U, U, U, U, U, U, U, U, U, U, U, U, U, U, U, U, U, U, U, U, U, U, U, U, U, U, U, U, U, U, U, U, U, U, U, U, U, U, U, U, U, U, U, U, U, U, U, U, U, U, U, U, U, U, U, U, U, U, U, U, U, U, U, U, U, U, U, U], []⟩
noncomputable def F67c10 (n : Nat) (x0 : List (Int)) (x1 : Int) (x2 : Int) (x3 : Int) (x4 : Int) (x5 : Int) (x6 : List (Run)) := F67.at [.v (.sl (.int .u8)), .v (.int .i64)] [.own 82 (.nm 1), .v (.int .i64), .v (.int .i64)] n 10 ⟨[.one (.data (.sl (.int .u8)) x0 []), U, U, U, U, U, U, .one (.int .u64 x1), .one (.int .i64 x2), U, .one (.own 0), .one (.int .i64 x3), .one (.int .u64 x4), .one (.int .i64 x5), U, U, U, U, U, U, U, U, U, U, U, U, U, U, U, U, U, U, U, U, U, U, U, U, U, U, U, U, U, U, U, U, U, U, U, U, U, U, U, U, U, U, U, U, U, U, U, U, U, U, U, U, U, U, U, U, U, U, U, U, U, U, U, U, U, U, U, U, U, U, U, U, U, U], [(0, .row 82 (.nm 1) x6 [] false)]⟩
noncomputable def F67c17 (n : Nat) (x0 : List (Int)) (x1 : Int) (x2 : Int) (x3 : Int) (x4 : Int) (x5 : Int) (x6 : Int) (x7 : List (Run)) := F67.at [.v (.sl (.int .u8)), .v (.int .i64)] [.own 82 (.nm 1), .v (.int .i64), .v (.int .i64)] n 17 ⟨[.one (.data (.sl (.int .u8)) x0 []), U, U, U, U, U, U, .one (.int .u64 x1), U, U, .one (.own 0), .one (.int .i64 x2), .one (.int .u64 x3), .one (.int .i64 x4), .one (.int .u64 x5), .one (.int .i64 x6), U, U, U, U, U, U, U, U, U, U, U, U, U, U, U, U, U, U, U, U, U, U, U, U, U, U, U, U, U, U, U, U, U, U, U, U, U, U, U, U, U, U, U, U, U, U, U, U, U, U, U, U, U, U, U, U, U, U, U, U, U, U, U, U, U, U, U, U, U, U, U, U], [(0, .row 82 (.nm 1) x7 [] false)]⟩
noncomputable def F67c22 (n : Nat) (x0 : List (Int)) (x1 : Int) (x2 : Int) (x3 : Int) (x4 : Int) (x5 : Int) (x6 : Int) (x7 : Int) (x8 : List (Run)) := F67.at [.v (.sl (.int .u8)), .v (.int .i64)] [.own 82 (.nm 1), .v (.int .i64), .v (.int .i64)] n 22 ⟨[.one (.data (.sl (.int .u8)) x0 []), U, U, U, U, U, U, .one (.int .u64 x1), U, U, .one (.own 0), .one (.int .i64 x2), .one (.int .u64 x3), .one (.int .i64 x4), .one (.int .u64 x5), U, U, .one (.int .u64 x6), .one (.int .i64 x7), U, U, U, U, U, U, U, U, U, U, U, U, U, U, U, U, U, U, U, U, U, U, U, U, U, U, U, U, U, U, U, U, U, U, U, U, U, U, U, U, U, U, U, U, U, U, U, U, U, U, U, U, U, U, U, U, U, U, U, U, U, U, U, U, U, U, U, U, U], [(0, .row 82 (.nm 1) x8 [] false)]⟩
theorem F67_run (n : Nat) (a0 : List (Int)) (a1 : Int) : F67.run [.v (.sl (.int .u8)), .v (.int .i64)] [.own 82 (.nm 1), .v (.int .i64), .v (.int .i64)] n (a0, a1, ()) =
  F67c1 n (a0) (a1) := by kernel_rfl
theorem F67c1_eq (n : Nat) (x0 : List (Int)) (x1 : Int) : F67c1 (n + 1) x0 x1 =
  (F65.run [PK.v (Ty.int IntKind.u8).sl, PK.v (Ty.int IntKind.i64)] [RK.v (Ty.int IntKind.u64), RK.v (Ty.int IntKind.i64), RK.v (Ty.int IntKind.i64)] (4000000 : Nat) (x0, x1, ())).bind fun r0 =>
    bif !decide (r0.fst.snd.snd.fst = (0 : Int)) then
      some (([], ((0 : Int), (r0.fst.snd.snd.fst, ()))), ())
    else
      bif decide ((65536 : Int) < r0.fst.fst) then
        some (([], ((0 : Int), ((6 : Int), ()))), ())
      else
        F67c10 n (x0) (r0.fst.fst) (r0.fst.snd.fst) ((0 : Int)) ((65536 : Int)) ((0 : Int)) ([]) := by kernel_rfl
theorem F67c10_eq (n : Nat) (x0 : List (Int)) (x1 : Int) (x2 : Int) (x3 : Int) (x4 : Int) (x5 : Int) (x6 : List (Run)) : F67c10 (n + 1) x0 x1 x2 x3 x4 x5 x6 =
  bif decide (x5 < IntKind.i64.wrap x1) then
    (F65.run [PK.v (Ty.int IntKind.u8).sl, PK.v (Ty.int IntKind.i64)] [RK.v (Ty.int IntKind.u64), RK.v (Ty.int IntKind.i64), RK.v (Ty.int IntKind.i64)] (4000000 : Nat) (x0, x2, ())).bind fun r1 =>
      bif !decide (r1.fst.snd.snd.fst = (0 : Int)) then
        some (([], ((0 : Int), (r1.fst.snd.snd.fst, ()))), ())
      else
        bif decide (r1.fst.fst = (0 : Int)) then
          bif decide ((0 : Int) < x5) then
            some (([], ((0 : Int), ((4 : Int), ()))), ())
          else
            F67c17 n (x0) (x1) (x3) (x4) (x5) (r1.fst.fst) (r1.fst.snd.fst) (x6)
        else
          F67c17 n (x0) (x1) (x3) (x4) (x5) (r1.fst.fst) (r1.fst.snd.fst) (x6)
  else
    some ((x6, (x2, ((0 : Int), ()))), ()) := by kernel_rfl
theorem F67c17_eq (n : Nat) (x0 : List (Int)) (x1 : Int) (x2 : Int) (x3 : Int) (x4 : Int) (x5 : Int) (x6 : Int) (x7 : List (Run)) : F67c17 (n + 1) x0 x1 x2 x3 x4 x5 x6 x7 =
  (F65.run [PK.v (Ty.int IntKind.u8).sl, PK.v (Ty.int IntKind.i64)] [RK.v (Ty.int IntKind.u64), RK.v (Ty.int IntKind.i64), RK.v (Ty.int IntKind.i64)] (4000000 : Nat) (x0, x6, ())).bind fun r2 =>
    bif !decide (r2.fst.snd.snd.fst = (0 : Int)) then
      some (([], ((0 : Int), (r2.fst.snd.snd.fst, ()))), ())
    else
      bif decide (r2.fst.fst = (0 : Int)) then
        some (([], ((0 : Int), ((6 : Int), ()))), ())
      else
        bif decide (x3 < r2.fst.fst) then
          some (([], ((0 : Int), ((6 : Int), ()))), ())
        else
          F67c22 n (x0) (x1) (x2) (x3) (x4) (x5) (r2.fst.fst) (r2.fst.snd.fst) (x7) := by kernel_rfl
theorem F67c22_eq (n : Nat) (x0 : List (Int)) (x1 : Int) (x2 : Int) (x3 : Int) (x4 : Int) (x5 : Int) (x6 : Int) (x7 : Int) (x8 : List (Run)) : F67c22 (n + 1) x0 x1 x2 x3 x4 x5 x6 x7 x8 =
  (F85.run [PK.v (Ty.int IntKind.u64)] [RK.v (Ty.int IntKind.i64)] (4000000 : Nat) (x5, ())).bind fun r3 =>
    if x8.length + (1 : Nat) ≤ lim then
      F67c10 n (x0) (x1) (x7) (IntKind.i64.wrap (x2 + r3.fst.fst)) (IntKind.u64.wrap (x3 - x6)) (IntKind.i64.wrap (x4 + (1 : Int))) (x8 ++ [{ value := IntKind.i64.wrap (x2 + r3.fst.fst), count := IntKind.i64.wrap x6 : Run }])
    else
      none := by kernel_rfl
theorem F83_run (n : Nat) (a0 : List (Int)) (a1 : Int) : F83.run [.v (.sl (.int .u8)), .v (.int .i64)] [.v (.int .u64)] n (a0, a1, ()) =
  if (0 : Int) ≤ IntKind.i64.wrap (a1.tdiv (8 : Int)) then
    if IntKind.i64.wrap (a1.tdiv (8 : Int)) < (↑a0.length : Int) then
      if (0 : Int) ≤ IntKind.u64.wrap (a1.tmod (8 : Int)) then
        some ((bits BinOp.and IntKind.u64 (IntKind.u64.wrap (a0.getD (IntKind.i64.wrap (a1.tdiv (8 : Int))).toNat (0 : Int) / (2 : Int) ^ min (IntKind.u64.wrap (a1.tmod (8 : Int))).toNat IntKind.u8.bits)) (1 : Int), ()), ())
      else
        none
    else
      none
  else
    none := by kernel_rfl
noncomputable def F84c3 (n : Nat) (x0 : List (Int)) (x1 : Int) (x2 : Int) (x3 : Int) (x4 : Int) := F84.at [.v (.sl (.int .u8)), .v (.int .i64), .v (.int .i64)] [.v (.int .u64)] n 3 ⟨[.one (.data (.sl (.int .u8)) x0 []), .one (.int .i64 x1), .one (.int .i64 x2), U, U, U, U, .one (.int .u64 x3), .one (.int .i64 x4), U, U, U, U, U, U, U, U, U, U, U, U, U, U, U, U, U, U], []⟩
theorem F84_run (n : Nat) (a0 : List (Int)) (a1 : Int) (a2 : Int) : F84.run [.v (.sl (.int .u8)), .v (.int .i64), .v (.int .i64)] [.v (.int .u64)] n (a0, a1, a2, ()) =
  F84c3 n (a0) (a1) (a2) ((0 : Int)) ((0 : Int)) := by kernel_rfl
theorem F84c3_eq (n : Nat) (x0 : List (Int)) (x1 : Int) (x2 : Int) (x3 : Int) (x4 : Int) : F84c3 (n + 1) x0 x1 x2 x3 x4 =
  bif decide (x4 < x2) then
    (F83.run [PK.v (Ty.int IntKind.u8).sl, PK.v (Ty.int IntKind.i64)] [RK.v (Ty.int IntKind.u64)] (4000000 : Nat) (x0, IntKind.i64.wrap (IntKind.i64.wrap (x1 * x2) + x4), ())).bind fun r0 =>
      if (0 : Int) ≤ IntKind.u64.wrap x4 then
        F84c3 n (x0) (x1) (x2) (bits BinOp.or IntKind.u64 x3 (IntKind.u64.wrap (r0.fst.fst * (2 : Int) ^ min (IntKind.u64.wrap x4).toNat IntKind.u64.bits))) (IntKind.i64.wrap (x4 + (1 : Int)))
      else
        none
  else
    some ((x3, ()), ()) := by kernel_rfl
noncomputable def F66c1 (n : Nat) (x0 : List (Int)) (x1 : Int) (x2 : Int) := F66.at [.v (.sl (.int .u8)), .v (.int .i64), .v (.int .i64)] [.own 58 (.int .u64), .v (.int .i64)] n 1 ⟨[.one (.data (.sl (.int .u8)) x0 []), .one (.int .i64 x1), .one (.int .i64 x2), U, U, U, U, U, U, U, U, U, U, U, U, U, U, U, U, U, U, U, U, U, U, U, U, U, U, U, U, U, U, U, U, U, U, U, U, U, U, U, U, U, U, U, U, U, U, U, U, U, U, U], []⟩
noncomputable def F66c8 (n : Nat) (x0 : List (Int)) (x1 : Int) (x2 : Int) (x3 : Int) := F66.at [.v (.sl (.int .u8)), .v (.int .i64), .v (.int .i64)] [.own 58 (.int .u64), .v (.int .i64)] n 8 ⟨[.one (.data (.sl (.int .u8)) x0 []), .one (.int .i64 x1), .one (.int .i64 x2), U, U, U, U, U, .one (.int .i64 x3), U, U, U, U, U, U, U, U, U, U, U, U, U, U, U, U, U, U, U, U, U, U, U, U, U, U, U, U, U, U, U, U, U, U, U, U, U, U, U, U, U, U, U, U, U], []⟩
noncomputable def F66c14 (n : Nat) (x0 : List (Int)) (x1 : Int) (x2 : Int) (x3 : Int) (x4 : List (Int)) := F66.at [.v (.sl (.int .u8)), .v (.int .i64), .v (.int .i64)] [.own 58 (.int .u64), .v (.int .i64)] n 14 ⟨[.one (.data (.sl (.int .u8)) x0 []), .one (.int .i64 x1), .one (.int .i64 x2), U, U, U, U, U, U, .one (.own 0), .one (.int .i64 x3), U, U, U, U, U, U, U, U, U, U, U, U, U, U, U, U, U, U, U, U, U, U, U, U, U, U, U, U, U, U, U, U, U, U, U, U, U, U, U, U, U, U, U], [(0, .row 58 (.int .u64) x4 [] false)]⟩
theorem F66_run (n : Nat) (a0 : List (Int)) (a1 : Int) (a2 : Int) : F66.run [.v (.sl (.int .u8)), .v (.int .i64), .v (.int .i64)] [.own 58 (.int .u64), .v (.int .i64)] n (a0, a1, a2, ()) =
  F66c1 n (a0) (a1) (a2) := by kernel_rfl
theorem F66c1_eq (n : Nat) (x0 : List (Int)) (x1 : Int) (x2 : Int) : F66c1 (n + 1) x0 x1 x2 =
  (F52.run [PK.v (Ty.int IntKind.i64), PK.v (Ty.int IntKind.i64)] [RK.v Ty.bool] (4000000 : Nat) (x1, x2, ())).bind fun r0 =>
    bif !r0.fst.fst then
      some (([], ((1 : Int), ())), ())
    else
      (F53.run [PK.v (Ty.int IntKind.i64), PK.v (Ty.int IntKind.i64)] [RK.v (Ty.int IntKind.i64)] (4000000 : Nat) (x1, x2, ())).bind fun r1 =>
        bif decide ((↑x0.length : Int) < r1.fst.fst) then
          some (([], ((2 : Int), ())), ())
        else
          (F53.run [PK.v (Ty.int IntKind.i64), PK.v (Ty.int IntKind.i64)] [RK.v (Ty.int IntKind.i64)] (4000000 : Nat) (x1, x2, ())).bind fun r2 =>
            bif decide (r2.fst.fst < (↑x0.length : Int)) then
              some (([], ((3 : Int), ())), ())
            else
              F66c8 n (x0) (x1) (x2) (IntKind.i64.wrap (x1 * x2)) := by kernel_rfl
theorem F66c8_eq (n : Nat) (x0 : List (Int)) (x1 : Int) (x2 : Int) (x3 : Int) : F66c8 (n + 1) x0 x1 x2 x3 =
  bif decide (x3 < IntKind.i64.wrap ((8 : Int) * (↑x0.length : Int))) then
    (F83.run [PK.v (Ty.int IntKind.u8).sl, PK.v (Ty.int IntKind.i64)] [RK.v (Ty.int IntKind.u64)] (4000000 : Nat) (x0, x3, ())).bind fun r3 =>
      bif decide (r3.fst.fst = (1 : Int)) then
        some (([], ((4 : Int), ())), ())
      else
        F66c8 n (x0) (x1) (x2) (IntKind.i64.wrap (x3 + (1 : Int)))
  else
    F66c14 n (x0) (x1) (x2) ((0 : Int)) ([]) := by kernel_rfl
theorem F66c14_eq (n : Nat) (x0 : List (Int)) (x1 : Int) (x2 : Int) (x3 : Int) (x4 : List (Int)) : F66c14 (n + 1) x0 x1 x2 x3 x4 =
  bif decide (x3 < x1) then
    (F84.run [PK.v (Ty.int IntKind.u8).sl, PK.v (Ty.int IntKind.i64), PK.v (Ty.int IntKind.i64)] [RK.v (Ty.int IntKind.u64)] (4000000 : Nat) (x0, x3, x2, ())).bind fun r4 =>
      if x4.length + (1 : Nat) ≤ lim then
        F66c14 n (x0) (x1) (x2) (IntKind.i64.wrap (x3 + (1 : Int))) (x4 ++ [r4.fst.fst])
      else
        none
  else
    some ((x4, ((0 : Int), ())), ()) := by kernel_rfl
noncomputable def F48c1 (n : Nat) (x0 : List (Int)) (x1 : Int) (x2 : Int) (x3 : Int) := F48.at [.v (.sl (.int .u8)), .v (.int .i64), .v (.int .i64), .v (.int .i64)] [.own 58 (.int .u64), .v (.int .i64), .v (.int .i64)] n 1 ⟨[.one (.data (.sl (.int .u8)) x0 []), .one (.int .i64 x1), .one (.int .i64 x2), .one (.int .i64 x3), U, U, U, U, U, U, U, U, U, U, U, U, U, U, U, U, U, U, U, U, U, U, U, U, U, U, U, U, U, U, U, U, U, U, U, U, U, U, U, U, U, U, U, U, U, U, U, U, U, U, U, U, U, U, U, U, U, U, U, U, U, U, U, U, U, U, U, U, U, U, U, U, U, U, U, U, U, U, U, U, U, U, U, U, U, U, U, U, U, U, U, U, U, U, U, U, U, U, U], []⟩
noncomputable def F48c19 (n : Nat) (x0 : Int) (x1 : Int) (x2 : List (Int)) (x3 : List (Int)) := F48.at [.v (.sl (.int .u8)), .v (.int .i64), .v (.int .i64), .v (.int .i64)] [.own 58 (.int .u64), .v (.int .i64), .v (.int .i64)] n 19 ⟨[U, U, U, U, U, U, U, U, U, U, U, U, U, U, U, .one (.int .i64 x0), U, .one (.own 0), U, .one (.own 1), .one (.int .i64 x1), U, U, U, U, U, U, U, U, U, U, U, U, U, U, U, U, U, U, U, U, U, U, U, U, U, U, U, U, U, U, U, U, U, U, U, U, U, U, U, U, U, U, U, U, U, U, U, U, U, U, U, U, U, U, U, U, U, U, U, U, U, U, U, U, U, U, U, U, U, U, U, U, U, U, U, U, U, U, U, U, U, U], [(0, .row 2 (.int .i64) x2 [] false), (1, .row 58 (.int .u64) x3 [] false)]⟩
theorem F48_run (n : Nat) (a0 : List (Int)) (a1 : Int) (a2 : Int) (a3 : Int) : F48.run [.v (.sl (.int .u8)), .v (.int .i64), .v (.int .i64), .v (.int .i64)] [.own 58 (.int .u64), .v (.int .i64), .v (.int .i64)] n (a0, a1, a2, a3, ()) =
  F48c1 n (a0) (a1) (a2) (a3) := by kernel_rfl
theorem F48c1_eq (n : Nat) (x0 : List (Int)) (x1 : Int) (x2 : Int) (x3 : Int) : F48c1 (n + 1) x0 x1 x2 x3 =
  bif decide (x1 = (↑x0.length : Int)) then
    some (([], ((0 : Int), ((2 : Int), ()))), ())
  else
    if (0 : Int) ≤ x1 then
      if x1 < (↑x0.length : Int) then
        bif decide ((1 : Int) < x0.getD x1.toNat (0 : Int)) then
          some (([], ((0 : Int), ((4 : Int), ()))), ())
        else
          if (0 : Int) ≤ x1 then
            if x1 < (↑x0.length : Int) then
              bif decide (x0.getD x1.toNat (0 : Int) = (0 : Int)) then
                (F35.run [PK.v (Ty.int IntKind.i64)] [RK.v (Ty.int IntKind.i64)] (4000000 : Nat) (x3, ())).bind fun r0 =>
                  (F53.run [PK.v (Ty.int IntKind.i64), PK.v (Ty.int IntKind.i64)] [RK.v (Ty.int IntKind.i64)] (4000000 : Nat) (x2, r0.fst.fst, ())).bind fun r1 =>
                    bif decide (IntKind.i64.wrap (IntKind.i64.wrap ((↑x0.length : Int) - x1) - (1 : Int)) < r1.fst.fst) then
                      some (([], ((0 : Int), ((2 : Int), ()))), ())
                    else
                      if (0 : Int) ≤ IntKind.i64.wrap (x1 + (1 : Int)) then
                        if IntKind.i64.wrap (x1 + (1 : Int)) ≤ IntKind.i64.wrap (IntKind.i64.wrap (x1 + (1 : Int)) + r1.fst.fst) then
                          if IntKind.i64.wrap (IntKind.i64.wrap (x1 + (1 : Int)) + r1.fst.fst) ≤ (↑x0.length : Int) then
                            (F35.run [PK.v (Ty.int IntKind.i64)] [RK.v (Ty.int IntKind.i64)] (4000000 : Nat) (x3, ())).bind fun r2 =>
                              (F66.run [PK.v (Ty.int IntKind.u8).sl, PK.v (Ty.int IntKind.i64), PK.v (Ty.int IntKind.i64)] [RK.own (58 : TypeId) (Ty.int IntKind.u64), RK.v (Ty.int IntKind.i64)] (4000000 : Nat) (List.drop (IntKind.i64.wrap (x1 + (1 : Int))).toNat (List.take (IntKind.i64.wrap (IntKind.i64.wrap (x1 + (1 : Int)) + r1.fst.fst)).toNat x0), x2, r2.fst.fst, ())).bind fun r3 =>
                                some ((r3.fst.fst, (IntKind.i64.wrap (IntKind.i64.wrap (x1 + (1 : Int)) + r1.fst.fst), (r3.fst.snd.fst, ()))), ())
                          else
                            none
                        else
                          none
                      else
                        none
              else
                (F67.run [PK.v (Ty.int IntKind.u8).sl, PK.v (Ty.int IntKind.i64)] [RK.own (82 : TypeId) (Ty.nm (1 : Nat)), RK.v (Ty.int IntKind.i64), RK.v (Ty.int IntKind.i64)] (4000000 : Nat) (x0, IntKind.i64.wrap (x1 + (1 : Int)), ())).bind fun r4 =>
                  bif !decide (r4.fst.snd.snd.fst = (0 : Int)) then
                    some (([], ((0 : Int), (r4.fst.snd.snd.fst, ()))), ())
                  else
                    (F68.run [PK.v (Ty.nm (1 : Nat)).sl] [RK.own (2 : TypeId) (Ty.int IntKind.i64), RK.v (Ty.int IntKind.i64)] (4000000 : Nat) (r4.fst.fst, ())).bind fun r5 =>
                      bif !decide ((↑(List.length r5.fst.fst) : Int) = x2) then
                        some (([], ((0 : Int), ((18 : Int), ()))), ())
                      else
                        F48c19 n (r4.fst.snd.fst) ((0 : Int)) (r5.fst.fst) ([])
            else
              none
          else
            none
      else
        none
    else
      none := by kernel_rfl
theorem F48c19_eq (n : Nat) (x0 : Int) (x1 : Int) (x2 : List (Int)) (x3 : List (Int)) : F48c19 (n + 1) x0 x1 x2 x3 =
  bif decide (x1 < (↑x2.length : Int)) then
    if (0 : Int) ≤ x1 then
      if x1 < (↑x2.length : Int) then
        if x3.length + (1 : Nat) ≤ lim then
          F48c19 n (x0) (IntKind.i64.wrap (x1 + (1 : Int))) (x2) (x3 ++ [IntKind.u64.wrap (x2.getD x1.toNat (0 : Int))])
        else
          none
      else
        none
    else
      none
  else
    some ((x3, (x0, ((0 : Int), ()))), ()) := by kernel_rfl
noncomputable def F47c1 (n : Nat) (x0 : List (Int)) (x1 : Int) (x2 : Int) := F47.at [.v (.sl (.int .u8)), .v (.int .i64), .v (.int .i64)] [.own 9 .str, .v (.int .i64), .v (.int .i64)] n 1 ⟨[.one (.data (.sl (.int .u8)) x0 []), .one (.int .i64 x1), .one (.int .i64 x2), U, U, U, U, U, U, U, U, U, U, U, U, U, U, U, U, U, U, U, U, U, U, U, U, U, U, U, U, U, U, U, U, U, U, U, U, U, U, U, U, U, U, U, U, U, U, U, U, U, U, U, U, U, U, U, U, U, U, U, U, U, U, U, U, U, U, U, U, U, U, U, U, U, U, U, U, U, U, U, U, U, U, U], []⟩
noncomputable def F47c8 (n : Nat) (x0 : List (Int)) (x1 : Int) (x2 : Int) (x3 : Int) (x4 : List (List Int)) := F47.at [.v (.sl (.int .u8)), .v (.int .i64), .v (.int .i64)] [.own 9 .str, .v (.int .i64), .v (.int .i64)] n 8 ⟨[.one (.data (.sl (.int .u8)) x0 []), U, U, U, U, U, U, U, U, .one (.int .u64 x1), .one (.int .i64 x2), U, .one (.own 0), .one (.int .i64 x3), U, U, U, U, U, U, U, U, U, U, U, U, U, U, U, U, U, U, U, U, U, U, U, U, U, U, U, U, U, U, U, U, U, U, U, U, U, U, U, U, U, U, U, U, U, U, U, U, U, U, U, U, U, U, U, U, U, U, U, U, U, U, U, U, U, U, U, U, U, U, U, U], [(0, .row 9 .str x4 [] false)]⟩
noncomputable def F47c20 (n : Nat) (x0 : List (Int)) (x1 : Int) (x2 : Int) (x3 : Int) (x4 : Int) (x5 : List Int) (x6 : List (List Int)) := F47.at [.v (.sl (.int .u8)), .v (.int .i64), .v (.int .i64)] [.own 9 .str, .v (.int .i64), .v (.int .i64)] n 20 ⟨[.one (.data (.sl (.int .u8)) x0 []), U, U, U, U, U, U, U, U, .one (.int .u64 x1), U, U, .one (.own 0), .one (.int .i64 x2), .one (.int .u64 x3), .one (.int .i64 x4), U, .one (.str x5), U, U, U, U, U, U, U, U, U, U, U, U, U, U, U, U, U, U, U, U, U, U, U, U, U, U, U, U, U, U, U, U, U, U, U, U, U, U, U, U, U, U, U, U, U, U, U, U, U, U, U, U, U, U, U, U, U, U, U, U, U, U, U, U, U, U, U, U], [(0, .row 9 .str x6 [] false)]⟩
theorem F47_run (n : Nat) (a0 : List (Int)) (a1 : Int) (a2 : Int) : F47.run [.v (.sl (.int .u8)), .v (.int .i64), .v (.int .i64)] [.own 9 .str, .v (.int .i64), .v (.int .i64)] n (a0, a1, a2, ()) =
  F47c1 n (a0) (a1) (a2) := by kernel_rfl
theorem F47c1_eq (n : Nat) (x0 : List (Int)) (x1 : Int) (x2 : Int) : F47c1 (n + 1) x0 x1 x2 =
  (F65.run [PK.v (Ty.int IntKind.u8).sl, PK.v (Ty.int IntKind.i64)] [RK.v (Ty.int IntKind.u64), RK.v (Ty.int IntKind.i64), RK.v (Ty.int IntKind.i64)] (4000000 : Nat) (x0, x1, ())).bind fun r0 =>
    bif !decide (r0.fst.snd.snd.fst = (0 : Int)) then
      some (([], ((0 : Int), (r0.fst.snd.snd.fst, ()))), ())
    else
      bif decide (IntKind.u64.wrap x2 < r0.fst.fst) then
        some (([], ((0 : Int), ((6 : Int), ()))), ())
      else
        F47c8 n (x0) (r0.fst.fst) (r0.fst.snd.fst) ((0 : Int)) ([]) := by kernel_rfl
theorem F47c8_eq (n : Nat) (x0 : List (Int)) (x1 : Int) (x2 : Int) (x3 : Int) (x4 : List (List Int)) : F47c8 (n + 1) x0 x1 x2 x3 x4 =
  bif decide (x3 < IntKind.i64.wrap x1) then
    (F65.run [PK.v (Ty.int IntKind.u8).sl, PK.v (Ty.int IntKind.i64)] [RK.v (Ty.int IntKind.u64), RK.v (Ty.int IntKind.i64), RK.v (Ty.int IntKind.i64)] (4000000 : Nat) (x0, x2, ())).bind fun r1 =>
      bif !decide (r1.fst.snd.snd.fst = (0 : Int)) then
        some (([], ((0 : Int), (r1.fst.snd.snd.fst, ()))), ())
      else
        bif decide ((4096 : Int) < r1.fst.fst) then
          some (([], ((0 : Int), ((3 : Int), ()))), ())
        else
          bif decide (IntKind.i64.wrap ((↑x0.length : Int) - r1.fst.snd.fst) < IntKind.i64.wrap r1.fst.fst) then
            some (([], ((0 : Int), ((2 : Int), ()))), ())
          else
            if (0 : Int) ≤ r1.fst.snd.fst then
              if r1.fst.snd.fst ≤ IntKind.i64.wrap (r1.fst.snd.fst + IntKind.i64.wrap r1.fst.fst) then
                if IntKind.i64.wrap (r1.fst.snd.fst + IntKind.i64.wrap r1.fst.fst) ≤ (↑x0.length : Int) then
                  bif decide ((0 : Int) < x3) then
                    if (0 : Int) ≤ IntKind.i64.wrap (x3 - (1 : Int)) then
                      if IntKind.i64.wrap (x3 - (1 : Int)) < (↑x4.length : Int) then
                        bif !Eng.strLt (x4.getD (IntKind.i64.wrap (x3 - (1 : Int))).toNat []) (List.map Eng.byteOf (List.drop (Int.toNat r1.fst.snd.fst) (List.take (IntKind.i64.wrap (r1.fst.snd.fst + IntKind.i64.wrap r1.fst.fst)).toNat x0))) then
                          some (([], ((0 : Int), ((4 : Int), ()))), ())
                        else
                          F47c20 n (x0) (x1) (x3) (r1.fst.fst) (r1.fst.snd.fst) (List.map Eng.byteOf (List.drop (Int.toNat r1.fst.snd.fst) (List.take (IntKind.i64.wrap (r1.fst.snd.fst + IntKind.i64.wrap r1.fst.fst)).toNat x0))) (x4)
                      else
                        none
                    else
                      none
                  else
                    F47c20 n (x0) (x1) (x3) (r1.fst.fst) (r1.fst.snd.fst) (List.map Eng.byteOf (List.drop (Int.toNat r1.fst.snd.fst) (List.take (IntKind.i64.wrap (r1.fst.snd.fst + IntKind.i64.wrap r1.fst.fst)).toNat x0))) (x4)
                else
                  none
              else
                none
            else
              none
  else
    some ((x4, (x2, ((0 : Int), ()))), ()) := by kernel_rfl
theorem F47c20_eq (n : Nat) (x0 : List (Int)) (x1 : Int) (x2 : Int) (x3 : Int) (x4 : Int) (x5 : List Int) (x6 : List (List Int)) : F47c20 (n + 1) x0 x1 x2 x3 x4 x5 x6 =
  if x6.length + (1 : Nat) ≤ lim then
    F47c8 n (x0) (x1) (IntKind.i64.wrap (x4 + IntKind.i64.wrap x3)) (IntKind.i64.wrap (x2 + (1 : Int))) (x6 ++ [x5])
  else
    none := by kernel_rfl
noncomputable def F25c1 (n : Nat) (x0 : List (Int)) (x1 : Int) (x2 : Int) := F25.at [.v (.sl (.int .u8)), .v (.int .i64), .v (.int .i64)] [.own 9 .str, .v (.int .i64), .v (.int .i64)] n 1 ⟨[.one (.data (.sl (.int .u8)) x0 []), .one (.int .i64 x1), .one (.int .i64 x2), U, U, U, U, U, U, U, U, U, U, U, U, U, U, U, U, U, U, U, U, U, U, U, U, U, U, U, U, U, U, U, U, U, U, U, U, U, U, U, U, U, U, U, U, U, U, U, U, U, U, U, U, U, U, U, U, U, U, U, U, U, U, U, U, U, U, U, U, U, U, U, U, U, U, U, U, U, U, U, U, U, U, U, U, U, U, U, U, U], []⟩
noncomputable def F25c3 (n : Nat) (x0 : List (Int)) (x1 : Int) (x2 : Int) := F25.at [.v (.sl (.int .u8)), .v (.int .i64), .v (.int .i64)] [.own 9 .str, .v (.int .i64), .v (.int .i64)] n 3 ⟨[.one (.data (.sl (.int .u8)) x0 []), .one (.int .i64 x1), .one (.int .i64 x2), U, U, U, U, U, U, U, U, U, U, U, U, U, U, U, U, U, U, U, U, U, U, U, U, U, U, U, U, U, U, U, U, U, U, U, U, U, U, U, U, U, U, U, U, U, U, U, U, U, U, U, U, U, U, U, U, U, U, U, U, U, U, U, U, U, U, U, U, U, U, U, U, U, U, U, U, U, U, U, U, U, U, U, U, U, U, U, U, U], []⟩
noncomputable def F25c11 (n : Nat) (x0 : List (Int)) (x1 : Int) (x2 : Int) (x3 : Int) (x4 : List (List Int)) (x5 : List (Int)) (x6 : List (List Int)) := F25.at [.v (.sl (.int .u8)), .v (.int .i64), .v (.int .i64)] [.own 9 .str, .v (.int .i64), .v (.int .i64)] n 11 ⟨[.one (.data (.sl (.int .u8)) x0 []), .one (.int .i64 x1), U, U, U, U, U, U, U, .one (.own 0), U, U, .one (.own 1), .one (.int .i64 x2), U, .one (.own 2), .one (.int .i64 x3), U, U, U, U, U, U, U, U, U, U, U, U, U, U, U, U, U, U, U, U, U, U, U, U, U, U, U, U, U, U, U, U, U, U, U, U, U, U, U, U, U, U, U, U, U, U, U, U, U, U, U, U, U, U, U, U, U, U, U, U, U, U, U, U, U, U, U, U, U, U, U, U, U, U, U], [(0, .row 9 .str x4 [] false), (1, .row 58 (.int .u64) x5 [] false), (2, .row 9 .str x6 [] false)]⟩
theorem F25_run (n : Nat) (a0 : List (Int)) (a1 : Int) (a2 : Int) : F25.run [.v (.sl (.int .u8)), .v (.int .i64), .v (.int .i64)] [.own 9 .str, .v (.int .i64), .v (.int .i64)] n (a0, a1, a2, ()) =
  F25c1 n (a0) (a1) (a2) := by kernel_rfl
theorem F25c1_eq (n : Nat) (x0 : List (Int)) (x1 : Int) (x2 : Int) : F25c1 (n + 1) x0 x1 x2 =
  bif decide (x1 < (0 : Int)) then
    some (([], ((0 : Int), ((1 : Int), ()))), ())
  else
    bif decide ((↑x0.length : Int) < x1) then
      some (([], ((0 : Int), ((1 : Int), ()))), ())
    else
      bif decide (x2 < (0 : Int)) then
        some (([], ((0 : Int), ((1 : Int), ()))), ())
      else
        bif decide ((65536 : Int) < x2) then
          some (([], ((0 : Int), ((1 : Int), ()))), ())
        else
          F25c3 n (x0) (x1) (x2) := by kernel_rfl
theorem F25c3_eq (n : Nat) (x0 : List (Int)) (x1 : Int) (x2 : Int) : F25c3 (n + 1) x0 x1 x2 =
  (F47.run [PK.v (Ty.int IntKind.u8).sl, PK.v (Ty.int IntKind.i64), PK.v (Ty.int IntKind.i64)] [RK.own (9 : TypeId) Ty.str, RK.v (Ty.int IntKind.i64), RK.v (Ty.int IntKind.i64)] (4000000 : Nat) (x0, x1, x2, ())).bind fun r0 =>
    bif !decide (r0.fst.snd.snd.fst = (0 : Int)) then
      some (([], ((0 : Int), (r0.fst.snd.snd.fst, ()))), ())
    else
      (F48.run [PK.v (Ty.int IntKind.u8).sl, PK.v (Ty.int IntKind.i64), PK.v (Ty.int IntKind.i64), PK.v (Ty.int IntKind.i64)] [RK.own (58 : TypeId) (Ty.int IntKind.u64), RK.v (Ty.int IntKind.i64), RK.v (Ty.int IntKind.i64)] (4000000 : Nat) (x0, r0.fst.snd.fst, x2, (↑(List.length r0.fst.fst) : Int), ())).bind fun r1 =>
        bif !decide (r1.fst.snd.snd.fst = (0 : Int)) then
          some (([], ((0 : Int), (r1.fst.snd.snd.fst, ()))), ())
        else
          F25c11 n (x0) (x1) (r1.fst.snd.fst) ((0 : Int)) (r0.fst.fst) (r1.fst.fst) ([]) := by kernel_rfl
theorem F25c11_eq (n : Nat) (x0 : List (Int)) (x1 : Int) (x2 : Int) (x3 : Int) (x4 : List (List Int)) (x5 : List (Int)) (x6 : List (List Int)) : F25c11 (n + 1) x0 x1 x2 x3 x4 x5 x6 =
  bif decide (x3 < (↑x5.length : Int)) then
    if (0 : Int) ≤ x3 then
      if x3 < (↑x5.length : Int) then
        bif decide (IntKind.u64.wrap (↑x4.length : Int) ≤ x5.getD x3.toNat (0 : Int)) then
          some (([], ((0 : Int), ((6 : Int), ()))), ())
        else
          if (0 : Int) ≤ x3 then
            if x3 < (↑x5.length : Int) then
              if (0 : Int) ≤ x5.getD x3.toNat (0 : Int) then
                if x5.getD x3.toNat (0 : Int) < (↑x4.length : Int) then
                  if x6.length + (1 : Nat) ≤ lim then
                    F25c11 n (x0) (x1) (x2) (IntKind.i64.wrap (x3 + (1 : Int))) (x4) (x5) (x6 ++ [x4.getD (x5.getD x3.toNat (0 : Int)).toNat []])
                  else
                    none
                else
                  none
              else
                none
            else
              none
          else
            none
      else
        none
    else
      none
  else
    (F21.run [PK.v Ty.str.sl] [RK.own (5 : TypeId) (Ty.int IntKind.u8)] (4000000 : Nat) (x6, ())).bind fun r2 =>
      if (0 : Int) ≤ x1 then
        if x1 ≤ x2 then
          if x2 ≤ (↑x0.length : Int) then
            bif !decide (List.map Eng.byteOf r2.fst.fst = List.map Eng.byteOf (List.drop x1.toNat (List.take x2.toNat x0))) then
              some (([], ((0 : Int), ((4 : Int), ()))), ())
            else
              some ((x6, (x2, ((0 : Int), ()))), ())
          else
            none
        else
          none
      else
        none := by kernel_rfl
noncomputable def F82c3 (n : Nat) (x0 : List (Run)) (x1 : Int) (x2 : List (Run)) (x3 : Int) (x4 : Int) := F82.at [.v (.sl (.nm 1))] [.v .bool] n 3 ⟨[.one (.data (.sl (.nm 1)) x0 []), U, U, .one (.int .i64 x1), U, U, .one (.data (.sl (.nm 1)) x2 []), .one (.int .i64 x3), .one (.int .i64 x4), U, U, U, U, U, U, U, U, U, U, U, U, U, U, U, U, U, U, U, U, U, U, U, U, U, U, U, U, U, U, U, U, U, U], []⟩
noncomputable def F82c7 (n : Nat) (x0 : List (Run)) (x1 : Int) (x2 : List (Run)) (x3 : Int) (x4 : Int) (x5 : Run) := F82.at [.v (.sl (.nm 1))] [.v .bool] n 7 ⟨[.one (.data (.sl (.nm 1)) x0 []), U, U, .one (.int .i64 x1), U, .one (.bptr 0 0), .one (.data (.sl (.nm 1)) x2 []), .one (.int .i64 x3), .one (.int .i64 x4), U, U, U, U, U, U, U, U, U, U, U, U, U, U, U, U, U, U, U, U, U, U, U, U, U, U, U, U, U, U, U, U, U, U], [(0, .whole (.nm 1) x5 [])]⟩
theorem F82_run (n : Nat) (a0 : List (Run)) : F82.run [.v (.sl (.nm 1))] [.v .bool] n (a0, ()) =
  F82c3 n (a0) ((0 : Int)) (a0) ((↑a0.length : Int)) ((0 : Int)) := by kernel_rfl
theorem F82c3_eq (n : Nat) (x0 : List (Run)) (x1 : Int) (x2 : List (Run)) (x3 : Int) (x4 : Int) : F82c3 (n + 1) x0 x1 x2 x3 x4 =
  bif decide (x4 < x3) then
    if (0 : Int) ≤ x4 then
      if x4 < (↑x2.length : Int) then
        bif decide ((x2.getD x4.toNat { value := (0 : Int), count := (0 : Int) : Run }).count < (1 : Int)) then
          some ((false, ()), ())
        else
          bif decide (IntKind.i64.wrap ((65536 : Int) - x1) < (x2.getD x4.toNat { value := (0 : Int), count := (0 : Int) : Run }).count) then
            some ((false, ()), ())
          else
            bif decide ((0 : Int) < x4) then
              if (0 : Int) ≤ IntKind.i64.wrap (x4 - (1 : Int)) then
                if IntKind.i64.wrap (x4 - (1 : Int)) < (↑x0.length : Int) then
                  bif decide ((x2.getD x4.toNat { value := (0 : Int), count := (0 : Int) : Run }).value = (x0.getD (IntKind.i64.wrap (x4 - (1 : Int))).toNat { value := (0 : Int), count := (0 : Int) : Run }).value) then
                    some ((false, ()), ())
                  else
                    F82c7 n (x0) (x1) (x2) (x3) (x4) (x2.getD x4.toNat { value := (0 : Int), count := (0 : Int) : Run })
                else
                  none
              else
                none
            else
              F82c7 n (x0) (x1) (x2) (x3) (x4) (x2.getD x4.toNat { value := (0 : Int), count := (0 : Int) : Run })
      else
        none
    else
      none
  else
    some ((true, ()), ()) := by kernel_rfl
theorem F82c7_eq (n : Nat) (x0 : List (Run)) (x1 : Int) (x2 : List (Run)) (x3 : Int) (x4 : Int) (x5 : Run) : F82c7 (n + 1) x0 x1 x2 x3 x4 x5 =
  F82c3 n (x0) (IntKind.i64.wrap (x1 + x5.count)) (x2) (x3) (IntKind.i64.wrap (x4 + (1 : Int))) := by kernel_rfl
noncomputable def F64c1 (n : Nat) (x0 : List (Run)) := F64.at [.v (.sl (.nm 1))] [.own 2 (.int .i64), .v (.int .i64)] n 1 ⟨[.one (.data (.sl (.nm 1)) x0 []), U, U, U, U, U, U, U, U, U, U, U, U, U, U, U, U, U, U, U, U, U, U, U, U, U, U, U], []⟩
noncomputable def F64c5 (n : Nat) (x0 : List (Run)) (x1 : Int) (x2 : Int) (x3 : List (Int)) := F64.at [.v (.sl (.nm 1))] [.own 2 (.int .i64), .v (.int .i64)] n 5 ⟨[U, U, U, U, .one (.own 0), U, U, U, U, U, .one (.data (.sl (.nm 1)) x0 []), .one (.int .i64 x1), .one (.int .i64 x2), U, U, U, U, U, U, U, U, U, U, U, U, U, U, U], [(0, .row 2 (.int .i64) x3 [] false)]⟩
noncomputable def F64c8 (n : Nat) (x0 : List (Run)) (x1 : Int) (x2 : Int) (x3 : Int) (x4 : Int) (x5 : List (Int)) (x6 : Run) := F64.at [.v (.sl (.nm 1))] [.own 2 (.int .i64), .v (.int .i64)] n 8 ⟨[U, U, U, U, .one (.own 0), U, .one (.bptr 1 0), U, U, U, .one (.data (.sl (.nm 1)) x0 []), .one (.int .i64 x1), .one (.int .i64 x2), U, U, U, U, .one (.int .i64 x3), .one (.int .i64 x4), U, U, U, U, U, U, U, U, U], [(0, .row 2 (.int .i64) x5 [] false), (1, .whole (.nm 1) x6 [])]⟩
theorem F64_run (n : Nat) (a0 : List (Run)) : F64.run [.v (.sl (.nm 1))] [.own 2 (.int .i64), .v (.int .i64)] n (a0, ()) =
  F64c1 n (a0) := by kernel_rfl
theorem F64c1_eq (n : Nat) (x0 : List (Run)) : F64c1 (n + 1) x0 =
  (F82.run [PK.v (Ty.nm (1 : Nat)).sl] [RK.v Ty.bool] (4000000 : Nat) (x0, ())).bind fun r0 =>
    bif !r0.fst.fst then
      some (([], ((4 : Int), ())), ())
    else
      F64c5 n (x0) ((↑x0.length : Int)) ((0 : Int)) ([]) := by kernel_rfl
theorem F64c5_eq (n : Nat) (x0 : List (Run)) (x1 : Int) (x2 : Int) (x3 : List (Int)) : F64c5 (n + 1) x0 x1 x2 x3 =
  bif decide (x2 < x1) then
    if (0 : Int) ≤ x2 then
      if x2 < (↑x0.length : Int) then
        F64c8 n (x0) (x1) (x2) ((x0.getD x2.toNat { value := (0 : Int), count := (0 : Int) : Run }).count) ((0 : Int)) (x3) (x0.getD x2.toNat { value := (0 : Int), count := (0 : Int) : Run })
      else
        none
    else
      none
  else
    some ((x3, ((0 : Int), ())), ()) := by kernel_rfl
theorem F64c8_eq (n : Nat) (x0 : List (Run)) (x1 : Int) (x2 : Int) (x3 : Int) (x4 : Int) (x5 : List (Int)) (x6 : Run) : F64c8 (n + 1) x0 x1 x2 x3 x4 x5 x6 =
  bif decide (x4 < x3) then
    if x5.length + (1 : Nat) ≤ lim then
      F64c8 n (x0) (x1) (x2) (x3) (IntKind.i64.wrap (x4 + (1 : Int))) (x5 ++ [x6.value]) (x6)
    else
      none
  else
    F64c5 n (x0) (x1) (IntKind.i64.wrap (x2 + (1 : Int))) (x5) := by kernel_rfl
theorem F81_run (n : Nat) (a0 : Int) : F81.run [.v (.int .u64)] [.v (.int .i64)] n (a0, ()) =
  some ((bits BinOp.xor IntKind.i64 (IntKind.i64.wrap (a0 / (2 : Int) ^ min (Int.toNat (1 : Int)) IntKind.u64.bits)) (IntKind.i64.wrap ((0 : Int) - IntKind.i64.wrap (bits BinOp.and IntKind.u64 a0 (1 : Int)))), ()), ()) := by kernel_rfl
noncomputable def F61c3 (n : Nat) (x0 : List (Int)) (x1 : Int) := F61.at [.v (.sl (.int .u8)), .v (.int .i64)] [.v (.int .u64), .v (.int .i64), .v (.int .i64)] n 3 ⟨[.one (.data (.sl (.int .u8)) x0 []), .one (.int .i64 x1), U, U, U, U, U, U, U, U, U, U, U, U, U, U, U, U, U, U, U, U, U, U, U, U, U, U, U, U, U, U, U, U, U, U, U, U, U, U, U, U, U, U, U, U, U, U, U, U, U, U, U, U, U, U, U, U, U, U, U], []⟩
noncomputable def F61c5 (n : Nat) (x0 : List (Int)) (x1 : Int) (x2 : Int) (x3 : Int) := F61.at [.v (.sl (.int .u8)), .v (.int .i64)] [.v (.int .u64), .v (.int .i64), .v (.int .i64)] n 5 ⟨[.one (.data (.sl (.int .u8)) x0 []), .one (.int .i64 x1), U, U, U, U, U, .one (.int .u64 x2), U, U, U, U, U, U, U, U, U, U, .one (.int .i64 x3), U, U, U, U, U, U, U, U, U, U, U, U, U, U, U, U, U, U, U, U, U, U, U, U, U, U, U, U, U, U, U, U, U, U, U, U, U, U, U, U, U, U], []⟩
noncomputable def F61c12 (n : Nat) (x0 : List (Int)) (x1 : Int) (x2 : Int) (x3 : Int) (x4 : Int) (x5 : Int) := F61.at [.v (.sl (.int .u8)), .v (.int .i64)] [.v (.int .u64), .v (.int .i64), .v (.int .i64)] n 12 ⟨[.one (.data (.sl (.int .u8)) x0 []), .one (.int .i64 x1), U, U, U, U, U, .one (.int .u64 x2), .one (.int .i64 x3), .one (.int .u8 x4), U, U, U, U, U, U, U, U, .one (.int .i64 x5), U, U, U, U, U, U, U, U, U, U, U, U, U, U, U, U, U, U, U, U, U, U, U, U, U, U, U, U, U, U, U, U, U, U, U, U, U, U, U, U, U, U], []⟩
noncomputable def F61c16 (n : Nat) (x0 : Int) (x1 : Int) (x2 : Int) := F61.at [.v (.sl (.int .u8)), .v (.int .i64)] [.v (.int .u64), .v (.int .i64), .v (.int .i64)] n 16 ⟨[U, .one (.int .i64 x0), U, U, U, U, U, .one (.int .u64 x1), .one (.int .i64 x2), U, U, U, U, U, U, U, U, U, U, U, U, U, U, U, U, U, U, U, U, U, U, U, U, U, U, U, U, U, U, U, U, U, U, U, U, U, U, U, U, U, U, U, U, U, U, U, U, U, U, U, U], []⟩
theorem F61_run (n : Nat) (a0 : List (Int)) (a1 : Int) : F61.run [.v (.sl (.int .u8)), .v (.int .i64)] [.v (.int .u64), .v (.int .i64), .v (.int .i64)] n (a0, a1, ()) =
  bif decide (a1 < (0 : Int)) then
    some (((0 : Int), ((0 : Int), ((1 : Int), ()))), ())
  else
    bif decide ((↑a0.length : Int) < a1) then
      some (((0 : Int), ((0 : Int), ((1 : Int), ()))), ())
    else
      F61c3 n (a0) (a1) := by kernel_rfl
theorem F61c3_eq (n : Nat) (x0 : List (Int)) (x1 : Int) : F61c3 (n + 1) x0 x1 =
  F61c5 n (x0) (x1) ((0 : Int)) ((0 : Int)) := by kernel_rfl
theorem F61c5_eq (n : Nat) (x0 : List (Int)) (x1 : Int) (x2 : Int) (x3 : Int) : F61c5 (n + 1) x0 x1 x2 x3 =
  bif decide (x3 < (10 : Int)) then
    bif decide ((↑x0.length : Int) ≤ IntKind.i64.wrap (x1 + x3)) then
      some (((0 : Int), ((0 : Int), ((2 : Int), ()))), ())
    else
      if (0 : Int) ≤ IntKind.i64.wrap (x1 + x3) then
        if IntKind.i64.wrap (x1 + x3) < (↑x0.length : Int) then
          bif decide (x3 = (9 : Int)) then
            bif decide ((1 : Int) < x0.getD (IntKind.i64.wrap (x1 + x3)).toNat (0 : Int)) then
              some (((0 : Int), ((0 : Int), ((4 : Int), ()))), ())
            else
              F61c12 n (x0) (x1) (x2) (x3) (x0.getD (IntKind.i64.wrap (x1 + x3)).toNat (0 : Int)) (x3)
          else
            F61c12 n (x0) (x1) (x2) (x3) (x0.getD (IntKind.i64.wrap (x1 + x3)).toNat (0 : Int)) (x3)
        else
          none
      else
        none
  else
    some (((0 : Int), ((0 : Int), ((4 : Int), ()))), ()) := by kernel_rfl
theorem F61c12_eq (n : Nat) (x0 : List (Int)) (x1 : Int) (x2 : Int) (x3 : Int) (x4 : Int) (x5 : Int) : F61c12 (n + 1) x0 x1 x2 x3 x4 x5 =
  if (0 : Int) ≤ IntKind.i64.wrap ((7 : Int) * x3) then
    bif decide ((128 : Int) ≤ x4) then
      F61c5 n (x0) (x1) (bits BinOp.or IntKind.u64 x2 (IntKind.u64.wrap (IntKind.u64.wrap (bits BinOp.and IntKind.u8 x4 (127 : Int)) * (2 : Int) ^ min (IntKind.i64.wrap ((7 : Int) * x3)).toNat IntKind.u64.bits))) (IntKind.i64.wrap (x5 + (1 : Int)))
    else
      bif decide (x4 = (0 : Int)) then
        bif decide ((0 : Int) < x3) then
          some (((0 : Int), ((0 : Int), ((4 : Int), ()))), ())
        else
          F61c16 n (x1) (bits BinOp.or IntKind.u64 x2 (IntKind.u64.wrap (IntKind.u64.wrap (bits BinOp.and IntKind.u8 x4 (127 : Int)) * (2 : Int) ^ min (IntKind.i64.wrap ((7 : Int) * x3)).toNat IntKind.u64.bits))) (x3)
      else
        F61c16 n (x1) (bits BinOp.or IntKind.u64 x2 (IntKind.u64.wrap (IntKind.u64.wrap (bits BinOp.and IntKind.u8 x4 (127 : Int)) * (2 : Int) ^ min (IntKind.i64.wrap ((7 : Int) * x3)).toNat IntKind.u64.bits))) (x3)
  else
    none := by kernel_rfl
theorem F61c16_eq (n : Nat) (x0 : Int) (x1 : Int) (x2 : Int) : F61c16 (n + 1) x0 x1 x2 =
  some ((x1, (IntKind.i64.wrap (IntKind.i64.wrap (x0 + x2) + (1 : Int)), ((0 : Int), ()))), ()) := by kernel_rfl
noncomputable def F63c1 (n : Nat) (x0 : List (Int)) (x1 : Int) := F63.at [.v (.sl (.int .u8)), .v (.int .i64)] [.own 82 (.nm 1), .v (.int .i64), .v (.int .i64)] n 1 ⟨[.one (.data (.sl (.int .u8)) x0 []), .one (.int .i64 x1), U, U, U, U, U, U, U, U, U, U, U, U, U, U, U, U, U, U, U, U, U, U, U, U, U, U, U, U, U, U, U, U, U, U, U, U, U, U, U, U, U, U, U, U, U, U, U, U, U, U, U, U, U, U, U, U, U, U, U, U, U, U, U, U, U, U, U, U, U, U, U, U, U, U, U, U, U, U, U, U, U, U, U], []⟩
noncomputable def F63c9 (n : Nat) (x0 : List (Int)) (x1 : Int) (x2 : Int) (x3 : Int) (x4 : Int) (x5 : Int) (x6 : Int) (x7 : List (Run)) := F63.at [.v (.sl (.int .u8)), .v (.int .i64)] [.own 82 (.nm 1), .v (.int .i64), .v (.int .i64)] n 9 ⟨[.one (.data (.sl (.int .u8)) x0 []), U, U, U, U, U, U, U, .one (.int .i64 x1), .one (.int .i64 x2), .one (.own 0), .one (.int .i64 x3), .one (.int .u64 x4), U, U, U, U, U, U, U, U, U, U, U, U, U, U, U, U, .one (.int .i64 x5), .one (.int .i64 x6), U, U, U, U, U, U, U, U, U, U, U, U, U, U, U, U, U, U, U, U, U, U, U, U, U, U, U, U, U, U, U, U, U, U, U, U, U, U, U, U, U, U, U, U, U, U, U, U, U, U, U, U, U, U], [(0, .row 82 (.nm 1) x7 [] false)]⟩
noncomputable def F63c24 (n : Nat) (x0 : Int) (x1 : Int) (x2 : List (Run)) := F63.at [.v (.sl (.int .u8)), .v (.int .i64)] [.own 82 (.nm 1), .v (.int .i64), .v (.int .i64)] n 24 ⟨[U, U, U, U, U, U, U, U, .one (.int .i64 x0), .one (.int .i64 x1), .one (.own 0), U, U, U, U, U, U, U, U, U, U, U, U, U, U, U, U, U, U, U, U, U, U, U, U, U, U, U, U, U, U, U, U, U, U, U, U, U, U, U, U, U, U, U, U, U, U, U, U, U, U, U, U, U, U, U, U, U, U, U, U, U, U, U, U, U, U, U, U, U, U, U, U, U, U], [(0, .row 82 (.nm 1) x2 [] false)]⟩
noncomputable def F63c16 (n : Nat) (x0 : List (Int)) (x1 : Int) (x2 : Int) (x3 : Int) (x4 : Int) (x5 : Int) (x6 : Int) (x7 : List (Run)) := F63.at [.v (.sl (.int .u8)), .v (.int .i64)] [.own 82 (.nm 1), .v (.int .i64), .v (.int .i64)] n 16 ⟨[.one (.data (.sl (.int .u8)) x0 []), U, U, U, U, U, U, U, .one (.int .i64 x1), U, .one (.own 0), .one (.int .i64 x2), .one (.int .u64 x3), U, .one (.int .u64 x4), U, U, U, U, U, U, U, U, U, U, U, U, U, U, .one (.int .i64 x5), .one (.int .i64 x6), U, U, U, U, U, U, U, U, U, U, U, U, U, U, U, U, U, U, U, U, U, U, U, U, U, U, U, U, U, U, U, U, U, U, U, U, U, U, U, U, U, U, U, U, U, U, U, U, U, U, U, U, U, U], [(0, .row 82 (.nm 1) x7 [] false)]⟩
noncomputable def F63c20 (n : Nat) (x0 : List (Int)) (x1 : Int) (x2 : Int) (x3 : Int) (x4 : Int) (x5 : Int) (x6 : Int) (x7 : Int) (x8 : Int) (x9 : List (Run)) := F63.at [.v (.sl (.int .u8)), .v (.int .i64)] [.own 82 (.nm 1), .v (.int .i64), .v (.int .i64)] n 20 ⟨[.one (.data (.sl (.int .u8)) x0 []), U, U, U, U, U, U, U, .one (.int .i64 x1), .one (.int .i64 x2), .one (.own 0), .one (.int .i64 x3), .one (.int .u64 x4), U, .one (.int .u64 x5), .one (.int .u64 x6), U, U, U, U, U, U, U, U, U, U, U, U, U, .one (.int .i64 x7), .one (.int .i64 x8), U, U, U, U, U, U, U, U, U, U, U, U, U, U, U, U, U, U, U, U, U, U, U, U, U, U, U, U, U, U, U, U, U, U, U, U, U, U, U, U, U, U, U, U, U, U, U, U, U, U, U, U, U, U], [(0, .row 82 (.nm 1) x9 [] false)]⟩
theorem F63_run (n : Nat) (a0 : List (Int)) (a1 : Int) : F63.run [.v (.sl (.int .u8)), .v (.int .i64)] [.own 82 (.nm 1), .v (.int .i64), .v (.int .i64)] n (a0, a1, ()) =
  F63c1 n (a0) (a1) := by kernel_rfl
theorem F63c1_eq (n : Nat) (x0 : List (Int)) (x1 : Int) : F63c1 (n + 1) x0 x1 =
  (F61.run [PK.v (Ty.int IntKind.u8).sl, PK.v (Ty.int IntKind.i64)] [RK.v (Ty.int IntKind.u64), RK.v (Ty.int IntKind.i64), RK.v (Ty.int IntKind.i64)] (4000000 : Nat) (x0, x1, ())).bind fun r0 =>
    bif !decide (r0.fst.snd.snd.fst = (0 : Int)) then
      some (([], ((0 : Int), (r0.fst.snd.snd.fst, ()))), ())
    else
      bif decide ((65536 : Int) < r0.fst.fst) then
        some (([], ((0 : Int), ((6 : Int), ()))), ())
      else
        F63c9 n (x0) (r0.fst.snd.fst) (r0.fst.snd.snd.fst) ((0 : Int)) ((0 : Int)) (IntKind.i64.wrap r0.fst.fst) ((0 : Int)) ([]) := by kernel_rfl
theorem F63c9_eq (n : Nat) (x0 : List (Int)) (x1 : Int) (x2 : Int) (x3 : Int) (x4 : Int) (x5 : Int) (x6 : Int) (x7 : List (Run)) : F63c9 (n + 1) x0 x1 x2 x3 x4 x5 x6 x7 =
  bif decide (x6 < x5) then
    (F61.run [PK.v (Ty.int IntKind.u8).sl, PK.v (Ty.int IntKind.i64)] [RK.v (Ty.int IntKind.u64), RK.v (Ty.int IntKind.i64), RK.v (Ty.int IntKind.i64)] (4000000 : Nat) (x0, x1, ())).bind fun r1 =>
      bif !decide (r1.fst.snd.snd.fst = (0 : Int)) then
        F63c24 n (r1.fst.snd.fst) (r1.fst.snd.snd.fst) (x7)
      else
        bif decide (r1.fst.fst = (0 : Int)) then
          bif decide ((0 : Int) < x6) then
            F63c24 n (r1.fst.snd.fst) ((4 : Int)) (x7)
          else
            F63c16 n (x0) (r1.fst.snd.fst) (x3) (x4) (r1.fst.fst) (x5) (x6) (x7)
        else
          F63c16 n (x0) (r1.fst.snd.fst) (x3) (x4) (r1.fst.fst) (x5) (x6) (x7)
  else
    F63c24 n (x1) (x2) (x7) := by kernel_rfl
theorem F63c24_eq (n : Nat) (x0 : Int) (x1 : Int) (x2 : List (Run)) : F63c24 (n + 1) x0 x1 x2 =
  bif !decide (x1 = (0 : Int)) then
    some (([], ((0 : Int), (x1, ()))), ())
  else
    some ((x2, (x0, ((0 : Int), ()))), ()) := by kernel_rfl
theorem F63c16_eq (n : Nat) (x0 : List (Int)) (x1 : Int) (x2 : Int) (x3 : Int) (x4 : Int) (x5 : Int) (x6 : Int) (x7 : List (Run)) : F63c16 (n + 1) x0 x1 x2 x3 x4 x5 x6 x7 =
  (F61.run [PK.v (Ty.int IntKind.u8).sl, PK.v (Ty.int IntKind.i64)] [RK.v (Ty.int IntKind.u64), RK.v (Ty.int IntKind.i64), RK.v (Ty.int IntKind.i64)] (4000000 : Nat) (x0, x1, ())).bind fun r2 =>
    bif !decide (r2.fst.snd.snd.fst = (0 : Int)) then
      F63c24 n (r2.fst.snd.fst) (r2.fst.snd.snd.fst) (x7)
    else
      bif decide (r2.fst.fst < (1 : Int)) then
        F63c24 n (r2.fst.snd.fst) ((6 : Int)) (x7)
      else
        bif decide (IntKind.u64.wrap ((65536 : Int) - x3) < r2.fst.fst) then
          F63c24 n (r2.fst.snd.fst) ((6 : Int)) (x7)
        else
          F63c20 n (x0) (r2.fst.snd.fst) (r2.fst.snd.snd.fst) (x2) (x3) (x4) (r2.fst.fst) (x5) (x6) (x7) := by kernel_rfl
theorem F63c20_eq (n : Nat) (x0 : List (Int)) (x1 : Int) (x2 : Int) (x3 : Int) (x4 : Int) (x5 : Int) (x6 : Int) (x7 : Int) (x8 : Int) (x9 : List (Run)) : F63c20 (n + 1) x0 x1 x2 x3 x4 x5 x6 x7 x8 x9 =
  (F81.run [PK.v (Ty.int IntKind.u64)] [RK.v (Ty.int IntKind.i64)] (4000000 : Nat) (x5, ())).bind fun r3 =>
    if x9.length + (1 : Nat) ≤ lim then
      F63c9 n (x0) (x1) (x2) (IntKind.i64.wrap (x3 + r3.fst.fst)) (IntKind.u64.wrap (x4 + x6)) (x7) (IntKind.i64.wrap (x8 + (1 : Int))) (x9 ++ [{ value := IntKind.i64.wrap (x3 + r3.fst.fst), count := IntKind.i64.wrap x6 : Run }])
    else
      none := by kernel_rfl
noncomputable def F46c1 (n : Nat) (x0 : List (Int)) (x1 : Int) (x2 : Int) := F46.at [.v (.sl (.int .u8)), .v (.int .i64), .v (.int .i64)] [.own 58 (.int .u64), .v (.int .i64), .v (.int .i64)] n 1 ⟨[.one (.data (.sl (.int .u8)) x0 []), .one (.int .i64 x1), .one (.int .i64 x2), U, U, U, U, U, U, U, U, U, U, U, U, U, U, U, U, U, U, U, U, U, U, U, U, U, U, U, U, U, U, U, U, U, U, U, U, U, U, U, U, U, U, U, U, U, U, U, U, U], []⟩
noncomputable def F46c11 (n : Nat) (x0 : Int) (x1 : Int) (x2 : Int) (x3 : List (Int)) (x4 : List (Int)) := F46.at [.v (.sl (.int .u8)), .v (.int .i64), .v (.int .i64)] [.own 58 (.int .u64), .v (.int .i64), .v (.int .i64)] n 11 ⟨[U, U, U, U, U, U, U, U, U, U, .one (.int .i64 x0), U, U, .one (.own 0), U, U, U, U, U, U, U, U, U, U, U, U, U, U, U, U, U, U, U, U, U, U, U, U, .one (.own 1), .one (.int .i64 x1), .one (.int .i64 x2), U, U, U, U, U, U, U, U, U, U, U], [(0, .row 58 (.int .u64) x3 [] false), (1, .row 2 (.int .i64) x4 [] false)]⟩
theorem F46_run (n : Nat) (a0 : List (Int)) (a1 : Int) (a2 : Int) : F46.run [.v (.sl (.int .u8)), .v (.int .i64), .v (.int .i64)] [.own 58 (.int .u64), .v (.int .i64), .v (.int .i64)] n (a0, a1, a2, ()) =
  F46c1 n (a0) (a1) (a2) := by kernel_rfl
theorem F46c1_eq (n : Nat) (x0 : List (Int)) (x1 : Int) (x2 : Int) : F46c1 (n + 1) x0 x1 x2 =
  (F63.run [PK.v (Ty.int IntKind.u8).sl, PK.v (Ty.int IntKind.i64)] [RK.own (82 : TypeId) (Ty.nm (1 : Nat)), RK.v (Ty.int IntKind.i64), RK.v (Ty.int IntKind.i64)] (4000000 : Nat) (x0, x1, ())).bind fun r0 =>
    bif !decide (r0.fst.snd.snd.fst = (0 : Int)) then
      some (([], ((0 : Int), (r0.fst.snd.snd.fst, ()))), ())
    else
      (F64.run [PK.v (Ty.nm (1 : Nat)).sl] [RK.own (2 : TypeId) (Ty.int IntKind.i64), RK.v (Ty.int IntKind.i64)] (4000000 : Nat) (r0.fst.fst, ())).bind fun r1 =>
        bif !decide (r1.fst.snd.fst = (0 : Int)) then
          some (([], ((0 : Int), (r1.fst.snd.fst, ()))), ())
        else
          bif !decide ((↑(List.length r1.fst.fst) : Int) = x2) then
            some (([], ((0 : Int), ((18 : Int), ()))), ())
          else
            F46c11 n (r0.fst.snd.fst) ((↑(List.length r1.fst.fst) : Int)) ((0 : Int)) ([]) (r1.fst.fst) := by kernel_rfl
theorem F46c11_eq (n : Nat) (x0 : Int) (x1 : Int) (x2 : Int) (x3 : List (Int)) (x4 : List (Int)) : F46c11 (n + 1) x0 x1 x2 x3 x4 =
  bif decide (x2 < x1) then
    if (0 : Int) ≤ x2 then
      if x2 < (↑x4.length : Int) then
        if x3.length + (1 : Nat) ≤ lim then
          F46c11 n (x0) (x1) (IntKind.i64.wrap (x2 + (1 : Int))) (x3 ++ [IntKind.u64.wrap (x4.getD x2.toNat (0 : Int))]) (x4)
        else
          none
      else
        none
    else
      none
  else
    some ((x3, (x0, ((0 : Int), ()))), ()) := by kernel_rfl
noncomputable def F80c3 (n : Nat) (x0 : List (Int)) (x1 : Int) (x2 : Int) (x3 : Int) (x4 : Int) := F80.at [.v (.sl (.int .u8)), .v (.int .i64), .v (.int .i64)] [.v (.int .u64)] n 3 ⟨[.one (.data (.sl (.int .u8)) x0 []), .one (.int .i64 x1), .one (.int .i64 x2), U, U, U, U, .one (.int .u64 x3), .one (.int .i64 x4), U, U, U, U, U, U, U, U, U, U, U, U, U, U, U, U, U, U, U, U, U, U, U, U, U, U, U, U, U, U, U, U, U, U, U], []⟩
theorem F80_run (n : Nat) (a0 : List (Int)) (a1 : Int) (a2 : Int) : F80.run [.v (.sl (.int .u8)), .v (.int .i64), .v (.int .i64)] [.v (.int .u64)] n (a0, a1, a2, ()) =
  F80c3 n (a0) (a1) (a2) ((0 : Int)) ((0 : Int)) := by kernel_rfl
theorem F80c3_eq (n : Nat) (x0 : List (Int)) (x1 : Int) (x2 : Int) (x3 : Int) (x4 : Int) : F80c3 (n + 1) x0 x1 x2 x3 x4 =
  bif decide (x4 < x2) then
    if (0 : Int) ≤ IntKind.i64.wrap (x1.tdiv (8 : Int)) then
      if IntKind.i64.wrap (x1.tdiv (8 : Int)) < (↑x0.length : Int) then
        if (0 : Int) ≤ x1.tmod (8 : Int) then
          if (0 : Int) ≤ imin (IntKind.i64.wrap ((8 : Int) - x1.tmod (8 : Int))) (IntKind.i64.wrap (x2 - x4)) then
            if (0 : Int) ≤ x4 then
              F80c3 n (x0) (IntKind.i64.wrap (x1 + imin (IntKind.i64.wrap ((8 : Int) - x1.tmod (8 : Int))) (IntKind.i64.wrap (x2 - x4)))) (x2) (bits BinOp.or IntKind.u64 x3 (IntKind.u64.wrap (IntKind.u64.wrap (bits BinOp.and IntKind.u8 (x0.getD (IntKind.i64.wrap (x1.tdiv (8 : Int))).toNat (0 : Int) / (2 : Int) ^ min (x1.tmod (8 : Int)).toNat IntKind.u8.bits) (IntKind.u8.wrap (IntKind.u8.wrap ((1 : Int) * (2 : Int) ^ min (imin (IntKind.i64.wrap ((8 : Int) - x1.tmod (8 : Int))) (IntKind.i64.wrap (x2 - x4))).toNat IntKind.u8.bits) - (1 : Int)))) * (2 : Int) ^ min x4.toNat IntKind.u64.bits))) (IntKind.i64.wrap (x4 + imin (IntKind.i64.wrap ((8 : Int) - x1.tmod (8 : Int))) (IntKind.i64.wrap (x2 - x4))))
            else
              none
          else
            none
        else
          none
      else
        none
    else
      none
  else
    some ((x3, ()), ()) := by kernel_rfl
noncomputable def F62c1 (n : Nat) (x0 : List (Int)) (x1 : Int) (x2 : Int) := F62.at [.v (.sl (.int .u8)), .v (.int .i64), .v (.int .i64)] [.own 58 (.int .u64), .v (.int .i64)] n 1 ⟨[.one (.data (.sl (.int .u8)) x0 []), .one (.int .i64 x1), .one (.int .i64 x2), U, U, U, U, U, U, U, U, U, U, U, U, U, U, U, U, U, U, U, U, U, U, U, U, U, U, U, U, U, U, U, U, U, U, U, U, U, U, U, U, U, U, U, U, U, U, U, U, U, U, U, U, U, U, U, U, U, U, U, U], []⟩
noncomputable def F62c11 (n : Nat) (x0 : List (Int)) (x1 : Int) (x2 : Int) := F62.at [.v (.sl (.int .u8)), .v (.int .i64), .v (.int .i64)] [.own 58 (.int .u64), .v (.int .i64)] n 11 ⟨[.one (.data (.sl (.int .u8)) x0 []), .one (.int .i64 x1), .one (.int .i64 x2), U, U, U, U, U, U, U, U, U, U, U, U, U, U, U, U, U, U, U, U, U, U, U, U, U, U, U, U, U, U, U, U, U, U, U, U, U, U, U, U, U, U, U, U, U, U, U, U, U, U, U, U, U, U, U, U, U, U, U, U], []⟩
noncomputable def F62c13 (n : Nat) (x0 : List (Int)) (x1 : Int) (x2 : Int) (x3 : Int) (x4 : List (Int)) := F62.at [.v (.sl (.int .u8)), .v (.int .i64), .v (.int .i64)] [.own 58 (.int .u64), .v (.int .i64)] n 13 ⟨[.one (.data (.sl (.int .u8)) x0 []), U, .one (.int .i64 x1), U, U, U, U, U, U, U, .one (.own 0), U, U, U, U, U, U, U, U, U, U, U, U, U, U, U, U, U, U, U, U, U, U, U, U, U, U, U, U, U, U, U, U, U, U, U, U, U, .one (.int .i64 x2), .one (.int .i64 x3), U, U, U, U, U, U, U, U, U, U, U, U, U], [(0, .row 58 (.int .u64) x4 [] false)]⟩
theorem F62_run (n : Nat) (a0 : List (Int)) (a1 : Int) (a2 : Int) : F62.run [.v (.sl (.int .u8)), .v (.int .i64), .v (.int .i64)] [.own 58 (.int .u64), .v (.int .i64)] n (a0, a1, a2, ()) =
  F62c1 n (a0) (a1) (a2) := by kernel_rfl
theorem F62c1_eq (n : Nat) (x0 : List (Int)) (x1 : Int) (x2 : Int) : F62c1 (n + 1) x0 x1 x2 =
  (F57.run [PK.v (Ty.int IntKind.i64), PK.v (Ty.int IntKind.i64)] [RK.v (Ty.int IntKind.i64)] (4000000 : Nat) (x1, x2, ())).bind fun r0 =>
    (F56.run [PK.v (Ty.int IntKind.i64), PK.v (Ty.int IntKind.i64)] [RK.v Ty.bool] (4000000 : Nat) (x1, x2, ())).bind fun r1 =>
      bif !r1.fst.fst then
        some (([], ((1 : Int), ())), ())
      else
        bif decide ((↑x0.length : Int) < r0.fst.fst) then
          some (([], ((2 : Int), ())), ())
        else
          bif decide (r0.fst.fst < (↑x0.length : Int)) then
            some (([], ((3 : Int), ())), ())
          else
            bif !decide ((IntKind.i64.wrap (x1 * x2)).tmod (8 : Int) = (0 : Int)) then
              if (0 : Int) ≤ IntKind.i64.wrap (r0.fst.fst - (1 : Int)) then
                if IntKind.i64.wrap (r0.fst.fst - (1 : Int)) < (↑x0.length : Int) then
                  if (0 : Int) ≤ (IntKind.i64.wrap (x1 * x2)).tmod (8 : Int) then
                    bif !decide (x0.getD (IntKind.i64.wrap (r0.fst.fst - (1 : Int))).toNat (0 : Int) / (2 : Int) ^ min ((IntKind.i64.wrap (x1 * x2)).tmod (8 : Int)).toNat IntKind.u8.bits = (0 : Int)) then
                      some (([], ((4 : Int), ())), ())
                    else
                      F62c11 n (x0) (x1) (x2)
                  else
                    none
                else
                  none
              else
                none
            else
              F62c11 n (x0) (x1) (x2) := by kernel_rfl
theorem F62c11_eq (n : Nat) (x0 : List (Int)) (x1 : Int) (x2 : Int) : F62c11 (n + 1) x0 x1 x2 =
  if (0 : Int) ≤ x1 then
    if x1 ≤ (↑lim : Int) then
      F62c13 n (x0) (x2) (x1) ((0 : Int)) (List.replicate x1.toNat (0 : Int))
    else
      none
  else
    none := by kernel_rfl
theorem F62c13_eq (n : Nat) (x0 : List (Int)) (x1 : Int) (x2 : Int) (x3 : Int) (x4 : List (Int)) : F62c13 (n + 1) x0 x1 x2 x3 x4 =
  bif decide (x3 < x2) then
    (F80.run [PK.v (Ty.int IntKind.u8).sl, PK.v (Ty.int IntKind.i64), PK.v (Ty.int IntKind.i64)] [RK.v (Ty.int IntKind.u64)] (4000000 : Nat) (x0, IntKind.i64.wrap (x3 * x1), x1, ())).bind fun r2 =>
      if (0 : Int) ≤ x3 then
        if x3 < (↑x4.length : Int) then
          F62c13 n (x0) (x1) (x2) (IntKind.i64.wrap (x3 + (1 : Int))) (x4.set x3.toNat r2.fst.fst)
        else
          none
      else
        none
  else
    some ((x4, ((0 : Int), ())), ()) := by kernel_rfl
noncomputable def F45c1 (n : Nat) (x0 : List (Int)) (x1 : Int) (x2 : Int) (x3 : Int) := F45.at [.v (.sl (.int .u8)), .v (.int .i64), .v (.int .i64), .v (.int .i64)] [.own 58 (.int .u64), .v (.int .i64), .v (.int .i64)] n 1 ⟨[.one (.data (.sl (.int .u8)) x0 []), .one (.int .i64 x1), .one (.int .i64 x2), .one (.int .i64 x3), U, U, U, U, U, U, U, U, U, U, U, U, U, U, U, U, U, U, U, U, U, U, U, U, U, U, U, U, U, U, U, U, U, U, U, U, U, U], []⟩
theorem F45_run (n : Nat) (a0 : List (Int)) (a1 : Int) (a2 : Int) (a3 : Int) : F45.run [.v (.sl (.int .u8)), .v (.int .i64), .v (.int .i64), .v (.int .i64)] [.own 58 (.int .u64), .v (.int .i64), .v (.int .i64)] n (a0, a1, a2, a3, ()) =
  F45c1 n (a0) (a1) (a2) (a3) := by kernel_rfl
theorem F45c1_eq (n : Nat) (x0 : List (Int)) (x1 : Int) (x2 : Int) (x3 : Int) : F45c1 (n + 1) x0 x1 x2 x3 =
  (F41.run [PK.v (Ty.int IntKind.i64)] [RK.v (Ty.int IntKind.i64)] (4000000 : Nat) (x3, ())).bind fun r0 =>
    (F57.run [PK.v (Ty.int IntKind.i64), PK.v (Ty.int IntKind.i64)] [RK.v (Ty.int IntKind.i64)] (4000000 : Nat) (x2, r0.fst.fst, ())).bind fun r1 =>
      bif decide (IntKind.i64.wrap ((↑x0.length : Int) - x1) < r1.fst.fst) then
        some (([], ((0 : Int), ((2 : Int), ()))), ())
      else
        if (0 : Int) ≤ x1 then
          if x1 ≤ IntKind.i64.wrap (x1 + r1.fst.fst) then
            if IntKind.i64.wrap (x1 + r1.fst.fst) ≤ (↑x0.length : Int) then
              (F41.run [PK.v (Ty.int IntKind.i64)] [RK.v (Ty.int IntKind.i64)] (4000000 : Nat) (x3, ())).bind fun r2 =>
                (F62.run [PK.v (Ty.int IntKind.u8).sl, PK.v (Ty.int IntKind.i64), PK.v (Ty.int IntKind.i64)] [RK.own (58 : TypeId) (Ty.int IntKind.u64), RK.v (Ty.int IntKind.i64)] (4000000 : Nat) (List.drop x1.toNat (List.take (IntKind.i64.wrap (x1 + r1.fst.fst)).toNat x0), x2, r2.fst.fst, ())).bind fun r3 =>
                  some ((r3.fst.fst, (IntKind.i64.wrap (x1 + r1.fst.fst), (r3.fst.snd.fst, ()))), ())
            else
              none
          else
            none
        else
          none := by kernel_rfl
noncomputable def F44c1 (n : Nat) (x0 : List (Int)) (x1 : Int) (x2 : Int) := F44.at [.v (.sl (.int .u8)), .v (.int .i64), .v (.int .i64)] [.own 9 .str, .v (.int .i64), .v (.int .i64)] n 1 ⟨[.one (.data (.sl (.int .u8)) x0 []), .one (.int .i64 x1), .one (.int .i64 x2), U, U, U, U, U, U, U, U, U, U, U, U, U, U, U, U, U, U, U, U, U, U, U, U, U, U, U, U, U, U, U, U, U, U, U, U, U, U, U, U, U, U, U, U, U, U, U, U, U, U, U, U, U, U, U, U, U, U, U, U, U, U, U, U, U, U, U, U, U, U, U, U, U, U, U, U, U, U, U, U, U, U], []⟩
noncomputable def F44c8 (n : Nat) (x0 : List (Int)) (x1 : Int) (x2 : Int) (x3 : Int) (x4 : List (List Int)) := F44.at [.v (.sl (.int .u8)), .v (.int .i64), .v (.int .i64)] [.own 9 .str, .v (.int .i64), .v (.int .i64)] n 8 ⟨[.one (.data (.sl (.int .u8)) x0 []), .one (.int .i64 x1), U, U, U, U, U, U, U, U, U, .one (.own 0), U, U, U, U, U, U, U, U, U, U, U, U, U, U, U, U, U, U, U, U, .one (.int .i64 x2), .one (.int .i64 x3), U, U, U, U, U, U, U, U, U, U, U, U, U, U, U, U, U, U, U, U, U, U, U, U, U, U, U, U, U, U, U, U, U, U, U, U, U, U, U, U, U, U, U, U, U, U, U, U, U, U, U], [(0, .row 9 .str x4 [] false)]⟩
noncomputable def F44c21 (n : Nat) (x0 : List (Int)) (x1 : Int) (x2 : List Int) (x3 : Int) (x4 : Int) (x5 : List (List Int)) := F44.at [.v (.sl (.int .u8)), .v (.int .i64), .v (.int .i64)] [.own 9 .str, .v (.int .i64), .v (.int .i64)] n 21 ⟨[.one (.data (.sl (.int .u8)) x0 []), .one (.int .i64 x1), U, U, U, U, U, U, U, U, U, .one (.own 0), U, U, U, U, .one (.str x2), U, U, U, U, U, U, U, U, U, U, U, U, U, U, U, .one (.int .i64 x3), .one (.int .i64 x4), U, U, U, U, U, U, U, U, U, U, U, U, U, U, U, U, U, U, U, U, U, U, U, U, U, U, U, U, U, U, U, U, U, U, U, U, U, U, U, U, U, U, U, U, U, U, U, U, U, U, U], [(0, .row 9 .str x5 [] false)]⟩
theorem F44_run (n : Nat) (a0 : List (Int)) (a1 : Int) (a2 : Int) : F44.run [.v (.sl (.int .u8)), .v (.int .i64), .v (.int .i64)] [.own 9 .str, .v (.int .i64), .v (.int .i64)] n (a0, a1, a2, ()) =
  F44c1 n (a0) (a1) (a2) := by kernel_rfl
theorem F44c1_eq (n : Nat) (x0 : List (Int)) (x1 : Int) (x2 : Int) : F44c1 (n + 1) x0 x1 x2 =
  (F61.run [PK.v (Ty.int IntKind.u8).sl, PK.v (Ty.int IntKind.i64)] [RK.v (Ty.int IntKind.u64), RK.v (Ty.int IntKind.i64), RK.v (Ty.int IntKind.i64)] (4000000 : Nat) (x0, x1, ())).bind fun r0 =>
    bif !decide (r0.fst.snd.snd.fst = (0 : Int)) then
      some (([], ((0 : Int), (r0.fst.snd.snd.fst, ()))), ())
    else
      bif decide (IntKind.u64.wrap x2 < r0.fst.fst) then
        some (([], ((0 : Int), ((6 : Int), ()))), ())
      else
        F44c8 n (x0) (r0.fst.snd.fst) (IntKind.i64.wrap r0.fst.fst) ((0 : Int)) ([]) := by kernel_rfl
theorem F44c8_eq (n : Nat) (x0 : List (Int)) (x1 : Int) (x2 : Int) (x3 : Int) (x4 : List (List Int)) : F44c8 (n + 1) x0 x1 x2 x3 x4 =
  bif decide (x3 < x2) then
    (F61.run [PK.v (Ty.int IntKind.u8).sl, PK.v (Ty.int IntKind.i64)] [RK.v (Ty.int IntKind.u64), RK.v (Ty.int IntKind.i64), RK.v (Ty.int IntKind.i64)] (4000000 : Nat) (x0, x1, ())).bind fun r1 =>
      bif !decide (r1.fst.snd.snd.fst = (0 : Int)) then
        some (([], ((0 : Int), (r1.fst.snd.snd.fst, ()))), ())
      else
        bif decide ((4096 : Int) < r1.fst.fst) then
          some (([], ((0 : Int), ((3 : Int), ()))), ())
        else
          bif decide (IntKind.i64.wrap ((↑x0.length : Int) - r1.fst.snd.fst) < IntKind.i64.wrap r1.fst.fst) then
            some (([], ((0 : Int), ((2 : Int), ()))), ())
          else
            if (0 : Int) ≤ r1.fst.snd.fst then
              if r1.fst.snd.fst ≤ IntKind.i64.wrap (r1.fst.snd.fst + IntKind.i64.wrap r1.fst.fst) then
                if IntKind.i64.wrap (r1.fst.snd.fst + IntKind.i64.wrap r1.fst.fst) ≤ (↑x0.length : Int) then
                  bif decide ((0 : Int) < x3) then
                    if (0 : Int) ≤ IntKind.i64.wrap (x3 - (1 : Int)) then
                      if IntKind.i64.wrap (x3 - (1 : Int)) < (↑x4.length : Int) then
                        bif !Eng.strLt (x4.getD (IntKind.i64.wrap (x3 - (1 : Int))).toNat []) (List.map Eng.byteOf (List.drop (Int.toNat r1.fst.snd.fst) (List.take (IntKind.i64.wrap (r1.fst.snd.fst + IntKind.i64.wrap r1.fst.fst)).toNat x0))) then
                          some (([], ((0 : Int), ((4 : Int), ()))), ())
                        else
                          F44c21 n (x0) (IntKind.i64.wrap (r1.fst.snd.fst + IntKind.i64.wrap r1.fst.fst)) (List.map Eng.byteOf (List.drop (Int.toNat r1.fst.snd.fst) (List.take (IntKind.i64.wrap (r1.fst.snd.fst + IntKind.i64.wrap r1.fst.fst)).toNat x0))) (x2) (x3) (x4)
                      else
                        none
                    else
                      none
                  else
                    F44c21 n (x0) (IntKind.i64.wrap (r1.fst.snd.fst + IntKind.i64.wrap r1.fst.fst)) (List.map Eng.byteOf (List.drop (Int.toNat r1.fst.snd.fst) (List.take (IntKind.i64.wrap (r1.fst.snd.fst + IntKind.i64.wrap r1.fst.fst)).toNat x0))) (x2) (x3) (x4)
                else
                  none
              else
                none
            else
              none
  else
    some ((x4, (x1, ((0 : Int), ()))), ()) := by kernel_rfl
theorem F44c21_eq (n : Nat) (x0 : List (Int)) (x1 : Int) (x2 : List Int) (x3 : Int) (x4 : Int) (x5 : List (List Int)) : F44c21 (n + 1) x0 x1 x2 x3 x4 x5 =
  if x5.length + (1 : Nat) ≤ lim then
    F44c8 n (x0) (x1) (x3) (IntKind.i64.wrap (x4 + (1 : Int))) (x5 ++ [x2])
  else
    none := by kernel_rfl
noncomputable def F24c1 (n : Nat) (x0 : List (Int)) (x1 : Int) (x2 : Int) := F24.at [.v (.sl (.int .u8)), .v (.int .i64), .v (.int .i64)] [.own 9 .str, .v (.int .i64), .v (.int .i64)] n 1 ⟨[.one (.data (.sl (.int .u8)) x0 []), .one (.int .i64 x1), .one (.int .i64 x2), U, U, U, U, U, U, U, U, U, U, U, U, U, U, U, U, U, U, U, U, U, U, U, U, U, U, U, U, U, U, U, U, U, U, U, U, U, U, U, U, U, U, U, U, U, U, U, U, U, U, U, U, U, U, U, U, U, U, U, U, U, U, U, U, U, U, U, U, U, U, U, U, U, U, U, U, U, U, U, U, U, U, U, U, U, U, U, U, U, U, U, U, U, U, U, U, U, U, U, U, U, U, U, U, U], []⟩
noncomputable def F24c3 (n : Nat) (x0 : List (Int)) (x1 : Int) (x2 : Int) := F24.at [.v (.sl (.int .u8)), .v (.int .i64), .v (.int .i64)] [.own 9 .str, .v (.int .i64), .v (.int .i64)] n 3 ⟨[.one (.data (.sl (.int .u8)) x0 []), .one (.int .i64 x1), .one (.int .i64 x2), U, U, U, U, U, U, U, U, U, U, U, U, U, U, U, U, U, U, U, U, U, U, U, U, U, U, U, U, U, U, U, U, U, U, U, U, U, U, U, U, U, U, U, U, U, U, U, U, U, U, U, U, U, U, U, U, U, U, U, U, U, U, U, U, U, U, U, U, U, U, U, U, U, U, U, U, U, U, U, U, U, U, U, U, U, U, U, U, U, U, U, U, U, U, U, U, U, U, U, U, U, U, U, U, U], []⟩
noncomputable def F24c15 (n : Nat) (x0 : List (Int)) (x1 : Int) (x2 : Int) (x3 : Int) (x4 : List (List Int)) (x5 : List (Int)) := F24.at [.v (.sl (.int .u8)), .v (.int .i64), .v (.int .i64)] [.own 9 .str, .v (.int .i64), .v (.int .i64)] n 15 ⟨[.one (.data (.sl (.int .u8)) x0 []), .one (.int .i64 x1), U, U, U, U, U, U, U, .one (.own 0), .one (.int .i64 x2), .one (.int .i64 x3), .one (.own 1), U, U, U, U, U, U, U, U, U, U, U, U, U, U, U, U, U, U, U, U, U, U, U, U, U, U, U, U, U, U, U, U, U, U, U, U, U, U, U, U, U, U, U, U, U, U, U, U, U, U, U, U, U, U, U, U, U, U, U, U, U, U, U, U, U, U, U, U, U, U, U, U, U, U, U, U, U, U, U, U, U, U, U, U, U, U, U, U, U, U, U, U, U, U, U], [(0, .row 9 .str x4 [] false), (1, .row 58 (.int .u64) x5 [] false)]⟩
noncomputable def F24c19 (n : Nat) (x0 : List (Int)) (x1 : Int) (x2 : Int) (x3 : Int) (x4 : Int) (x5 : List (List Int)) (x6 : List (List Int)) (x7 : List (Int)) := F24.at [.v (.sl (.int .u8)), .v (.int .i64), .v (.int .i64)] [.own 9 .str, .v (.int .i64), .v (.int .i64)] n 19 ⟨[.one (.data (.sl (.int .u8)) x0 []), .one (.int .i64 x1), U, U, U, U, U, U, U, .one (.own 0), .one (.int .i64 x2), U, U, .one (.own 1), U, U, U, U, U, U, U, U, U, U, U, U, U, U, U, U, U, U, U, U, U, U, U, U, U, U, U, U, U, U, U, U, U, U, U, U, U, U, U, U, U, U, U, U, U, U, U, U, U, U, U, U, U, U, U, U, U, U, U, U, U, U, U, U, .one (.own 2), .one (.int .i64 x3), .one (.int .i64 x4), U, U, U, U, U, U, U, U, U, U, U, U, U, U, U, U, U, U, U, U, U, U, U, U, U, U, U], [(0, .row 9 .str x5 [] false), (1, .row 9 .str x6 [] false), (2, .row 58 (.int .u64) x7 [] false)]⟩
theorem F24_run (n : Nat) (a0 : List (Int)) (a1 : Int) (a2 : Int) : F24.run [.v (.sl (.int .u8)), .v (.int .i64), .v (.int .i64)] [.own 9 .str, .v (.int .i64), .v (.int .i64)] n (a0, a1, a2, ()) =
  F24c1 n (a0) (a1) (a2) := by kernel_rfl
theorem F24c1_eq (n : Nat) (x0 : List (Int)) (x1 : Int) (x2 : Int) : F24c1 (n + 1) x0 x1 x2 =
  bif decide (x1 < (0 : Int)) then
    some (([], ((0 : Int), ((1 : Int), ()))), ())
  else
    bif decide ((↑x0.length : Int) < x1) then
      some (([], ((0 : Int), ((1 : Int), ()))), ())
    else
      bif decide (x2 < (0 : Int)) then
        some (([], ((0 : Int), ((1 : Int), ()))), ())
      else
        bif decide ((65536 : Int) < x2) then
          some (([], ((0 : Int), ((1 : Int), ()))), ())
        else
          F24c3 n (x0) (x1) (x2) := by kernel_rfl
theorem F24c3_eq (n : Nat) (x0 : List (Int)) (x1 : Int) (x2 : Int) : F24c3 (n + 1) x0 x1 x2 =
  (F44.run [PK.v (Ty.int IntKind.u8).sl, PK.v (Ty.int IntKind.i64), PK.v (Ty.int IntKind.i64)] [RK.own (9 : TypeId) Ty.str, RK.v (Ty.int IntKind.i64), RK.v (Ty.int IntKind.i64)] (4000000 : Nat) (x0, x1, x2, ())).bind fun r0 =>
    bif !decide (r0.fst.snd.snd.fst = (0 : Int)) then
      some (([], ((0 : Int), (r0.fst.snd.snd.fst, ()))), ())
    else
      bif decide (r0.fst.snd.fst = (↑x0.length : Int)) then
        some (([], ((0 : Int), ((2 : Int), ()))), ())
      else
        if (0 : Int) ≤ r0.fst.snd.fst then
          if r0.fst.snd.fst < (↑x0.length : Int) then
            bif decide (x0.getD (Int.toNat r0.fst.snd.fst) (0 : Int) = (0 : Int)) then
              (F45.run [PK.v (Ty.int IntKind.u8).sl, PK.v (Ty.int IntKind.i64), PK.v (Ty.int IntKind.i64), PK.v (Ty.int IntKind.i64)] [RK.own (58 : TypeId) (Ty.int IntKind.u64), RK.v (Ty.int IntKind.i64), RK.v (Ty.int IntKind.i64)] (4000000 : Nat) (x0, IntKind.i64.wrap (r0.fst.snd.fst + (1 : Int)), x2, (↑(List.length r0.fst.fst) : Int), ())).bind fun r1 =>
                F24c15 n (x0) (x1) (r1.fst.snd.fst) (r1.fst.snd.snd.fst) (r0.fst.fst) (r1.fst.fst)
            else
              bif decide (x0.getD (Int.toNat r0.fst.snd.fst) (0 : Int) = (1 : Int)) then
                (F46.run [PK.v (Ty.int IntKind.u8).sl, PK.v (Ty.int IntKind.i64), PK.v (Ty.int IntKind.i64)] [RK.own (58 : TypeId) (Ty.int IntKind.u64), RK.v (Ty.int IntKind.i64), RK.v (Ty.int IntKind.i64)] (4000000 : Nat) (x0, IntKind.i64.wrap (r0.fst.snd.fst + (1 : Int)), x2, ())).bind fun r2 =>
                  F24c15 n (x0) (x1) (r2.fst.snd.fst) (r2.fst.snd.snd.fst) (r0.fst.fst) (r2.fst.fst)
              else
                F24c15 n (x0) (x1) (r0.fst.snd.fst) ((4 : Int)) (r0.fst.fst) ([])
          else
            none
        else
          none := by kernel_rfl
theorem F24c15_eq (n : Nat) (x0 : List (Int)) (x1 : Int) (x2 : Int) (x3 : Int) (x4 : List (List Int)) (x5 : List (Int)) : F24c15 (n + 1) x0 x1 x2 x3 x4 x5 =
  bif !decide (x3 = (0 : Int)) then
    some (([], ((0 : Int), (x3, ()))), ())
  else
    F24c19 n (x0) (x1) (x2) ((↑x5.length : Int)) ((0 : Int)) (x4) ([]) (x5) := by kernel_rfl
theorem F24c19_eq (n : Nat) (x0 : List (Int)) (x1 : Int) (x2 : Int) (x3 : Int) (x4 : Int) (x5 : List (List Int)) (x6 : List (List Int)) (x7 : List (Int)) : F24c19 (n + 1) x0 x1 x2 x3 x4 x5 x6 x7 =
  bif decide (x4 < x3) then
    if (0 : Int) ≤ x4 then
      if x4 < (↑x7.length : Int) then
        bif decide (IntKind.u64.wrap (↑x5.length : Int) ≤ x7.getD x4.toNat (0 : Int)) then
          some (([], ((0 : Int), ((6 : Int), ()))), ())
        else
          if (0 : Int) ≤ x7.getD x4.toNat (0 : Int) then
            if x7.getD x4.toNat (0 : Int) < (↑x5.length : Int) then
              if x6.length + (1 : Nat) ≤ lim then
                F24c19 n (x0) (x1) (x2) (x3) (IntKind.i64.wrap (x4 + (1 : Int))) (x5) (x6 ++ [x5.getD (x7.getD x4.toNat (0 : Int)).toNat []]) (x7)
              else
                none
            else
              none
          else
            none
      else
        none
    else
      none
  else
    (F22.run [PK.v Ty.str.sl] [RK.own (5 : TypeId) (Ty.int IntKind.u8)] (4000000 : Nat) (x6, ())).bind fun r3 =>
      if (0 : Int) ≤ x1 then
        if x1 ≤ x2 then
          if x2 ≤ (↑x0.length : Int) then
            bif !decide (List.map Eng.byteOf r3.fst.fst = List.map Eng.byteOf (List.drop x1.toNat (List.take x2.toNat x0))) then
              some (([], ((0 : Int), ((4 : Int), ()))), ())
            else
              some ((x6, (x2, ((0 : Int), ()))), ())
          else
            none
        else
          none
      else
        none := by kernel_rfl
noncomputable def F6c3 (n : Nat) (x0 : List (Int)) (x1 : Int) (x2 : Int) := F6.at [.v (.sl (.int .u8)), .v (.int .i64), .v (.int .i64)] [.v .bool] n 3 ⟨[.one (.data (.sl (.int .u8)) x0 []), .one (.int .i64 x1), .one (.int .i64 x2), U, U, U, U, U, U, U, U, U, U, U, U, U, U, U, U, U, U, U, U, U, U, U, U, U, U, U, U, U, U, U, U, U, U, U, U, U, U, U, U, U, U, U, U, U, U, U, U, U, U, U, U, U, U], []⟩
theorem F6_run (n : Nat) (a0 : List (Int)) (a1 : Int) (a2 : Int) : F6.run [.v (.sl (.int .u8)), .v (.int .i64), .v (.int .i64)] [.v .bool] n (a0, a1, a2, ()) =
  bif decide ((300 : Int) < a2) then
    bif decide (a2 ≤ (65536 : Int)) then
      (F9.run [] [RK.v Ty.bool] (4000000 : Nat) ()).bind fun r0 =>
        some ((r0.fst.fst, ()), ())
    else
      bif decide ((4000 : Int) < (↑a0.length : Int)) then
        (F9.run [] [RK.v Ty.bool] (4000000 : Nat) ()).bind fun r1 =>
          some ((r1.fst.fst, ()), ())
      else
        F6c3 n (a0) (a1) (a2)
  else
    bif decide ((4000 : Int) < (↑a0.length : Int)) then
      (F9.run [] [RK.v Ty.bool] (4000000 : Nat) ()).bind fun r2 =>
        some ((r2.fst.fst, ()), ())
    else
      F6c3 n (a0) (a1) (a2) := by kernel_rfl
theorem F6c3_eq (n : Nat) (x0 : List (Int)) (x1 : Int) (x2 : Int) : F6c3 (n + 1) x0 x1 x2 =
  (F24.run [PK.v (Ty.int IntKind.u8).sl, PK.v (Ty.int IntKind.i64), PK.v (Ty.int IntKind.i64)] [RK.own (9 : TypeId) Ty.str, RK.v (Ty.int IntKind.i64), RK.v (Ty.int IntKind.i64)] (4000000 : Nat) (x0, x1, x2, ())).bind fun r3 =>
    (F25.run [PK.v (Ty.int IntKind.u8).sl, PK.v (Ty.int IntKind.i64), PK.v (Ty.int IntKind.i64)] [RK.own (9 : TypeId) Ty.str, RK.v (Ty.int IntKind.i64), RK.v (Ty.int IntKind.i64)] (4000000 : Nat) (x0, x1, x2, ())).bind fun r4 =>
      bif decide (r3.fst.snd.snd.fst = r4.fst.snd.snd.fst) then
        bif decide (r3.fst.snd.fst = r4.fst.snd.fst) then
          (F12.run [PK.v Ty.str.sl, PK.v Ty.str.sl] [RK.v Ty.bool] (4000000 : Nat) (r3.fst.fst, r4.fst.fst, ())).bind fun r5 =>
            bif r5.fst.fst then
              (F9.run [] [RK.v Ty.bool] (4000000 : Nat) ()).bind fun r6 =>
                some ((r6.fst.fst, ()), ())
            else
              some ((false, ()), ())
        else
          some ((false, ()), ())
      else
        some ((false, ()), ()) := by kernel_rfl
noncomputable def F7c11 (n : Nat) (x0 : List (List Int)) := F7.at [.v (.sl .str), .v (.sl (.int .u8)), .v (.sl (.int .u8))] [.v .bool] n 11 ⟨[.one (.data (.sl .str) x0 []), U, U, U, U, U, U, U, U, U, U, U, U, U, U, U, U, U, U, U, U, U, U, U, U, U, U, U, U, U, U, U, U, U, U, U, U, U, U, U, U, U, U, U, U, U, U, U, U, U, U, U, U, U, U, U, U, U, U, U, U, U, U, U, U, U, U, U, U, U, U, U, U, U, U, U, U, U, U, U, U, U, U, U, U, U, U, U, U, U, U, U, U, U, U, U, U, U, U, U, U, U, U, U, U, U, U, U, U, U, U, U, U, U, U, U, U, U, U, U, U, U, U, U, U, U, U, U], []⟩
noncomputable def F7c14 (n : Nat) (x0 : List (List Int)) (x1 : List (List Int)) (x2 : List (Int)) := F7.at [.v (.sl .str), .v (.sl (.int .u8)), .v (.sl (.int .u8))] [.v .bool] n 14 ⟨[.one (.data (.sl .str) x0 []), U, U, U, U, U, U, U, U, U, U, U, .one (.own 0), .one (.own 1), U, U, U, U, U, U, U, U, U, U, U, U, U, U, U, U, U, U, U, U, U, U, U, U, U, U, U, U, U, U, U, U, U, U, U, U, U, U, U, U, U, U, U, U, U, U, U, U, U, U, U, U, U, U, U, U, U, U, U, U, U, U, U, U, U, U, U, U, U, U, U, U, U, U, U, U, U, U, U, U, U, U, U, U, U, U, U, U, U, U, U, U, U, U, U, U, U, U, U, U, U, U, U, U, U, U, U, U, U, U, U, U, U, U], [(0, .row 9 .str x1 [] false), (1, .row 3 (.int .i64) x2 [] false)]⟩
noncomputable def F7c15 (n : Nat) (x0 : List (List Int)) (x1 : Int) (x2 : List (List Int)) (x3 : List (Int)) := F7.at [.v (.sl .str), .v (.sl (.int .u8)), .v (.sl (.int .u8))] [.v .bool] n 15 ⟨[.one (.data (.sl .str) x0 []), U, U, U, U, U, U, U, U, U, U, U, .one (.own 0), .one (.own 1), .one (.int .i64 x1), U, U, U, U, U, U, U, U, U, U, U, U, U, U, U, U, U, U, U, U, U, U, U, U, U, U, U, U, U, U, U, U, U, U, U, U, U, U, U, U, U, U, U, U, U, U, U, U, U, U, U, U, U, U, U, U, U, U, U, U, U, U, U, U, U, U, U, U, U, U, U, U, U, U, U, U, U, U, U, U, U, U, U, U, U, U, U, U, U, U, U, U, U, U, U, U, U, U, U, U, U, U, U, U, U, U, U, U, U, U, U, U, U], [(0, .row 9 .str x2 [] false), (1, .row 3 (.int .i64) x3 [] false)]⟩
noncomputable def F7c19 (n : Nat) (x0 : List (List Int)) (x1 : Int) (x2 : List (List Int)) (x3 : List (Int)) := F7.at [.v (.sl .str), .v (.sl (.int .u8)), .v (.sl (.int .u8))] [.v .bool] n 19 ⟨[.one (.data (.sl .str) x0 []), U, U, U, U, U, U, U, U, U, U, U, .one (.own 0), .one (.own 1), .one (.int .i64 x1), U, U, U, U, U, U, U, U, U, U, U, U, U, U, U, U, U, U, U, U, U, U, U, U, U, U, U, U, U, U, U, U, U, U, U, U, U, U, U, U, U, U, U, U, U, U, U, U, U, U, U, U, U, U, U, U, U, U, U, U, U, U, U, U, U, U, U, U, U, U, U, U, U, U, U, U, U, U, U, U, U, U, U, U, U, U, U, U, U, U, U, U, U, U, U, U, U, U, U, U, U, U, U, U, U, U, U, U, U, U, U, U, U], [(0, .row 9 .str x2 [] false), (1, .row 3 (.int .i64) x3 [] false)]⟩
theorem F7_run (n : Nat) (a0 : List (List Int)) (a1 : List (Int)) (a2 : List (Int)) : F7.run [.v (.sl .str), .v (.sl (.int .u8)), .v (.sl (.int .u8))] [.v .bool] n (a0, a1, a2, ()) =
  (F8.run [PK.v Ty.str.sl] [RK.v Ty.bool] (4000000 : Nat) (a0, ())).bind fun r0 =>
    bif !r0.fst.fst then
      (F9.run [] [RK.v Ty.bool] (4000000 : Nat) ()).bind fun r1 =>
        some ((r1.fst.fst, ()), ())
    else
      (F22.run [PK.v Ty.str.sl] [RK.own (5 : TypeId) (Ty.int IntKind.u8)] (4000000 : Nat) (a0, ())).bind fun r2 =>
        if (0 : Nat) + a1.length ≤ lim then
          if ([] ++ a1).length + List.length r2.fst.fst ≤ lim then
            if ([] ++ a1 ++ r2.fst.fst).length + a2.length ≤ lim then
              (F24.run [PK.v (Ty.int IntKind.u8).sl, PK.v (Ty.int IntKind.i64), PK.v (Ty.int IntKind.i64)] [RK.own (9 : TypeId) Ty.str, RK.v (Ty.int IntKind.i64), RK.v (Ty.int IntKind.i64)] (4000000 : Nat) ([] ++ a1 ++ r2.fst.fst ++ a2, (↑a1.length : Int), (↑a0.length : Int), ())).bind fun r3 =>
                bif !decide (r3.fst.snd.snd.fst = (0 : Int)) then
                  some ((false, ()), ())
                else
                  bif !decide (r3.fst.snd.fst = IntKind.i64.wrap ((↑a1.length : Int) + (↑(List.length r2.fst.fst) : Int))) then
                    some ((false, ()), ())
                  else
                    (F12.run [PK.v Ty.str.sl, PK.v Ty.str.sl] [RK.v Ty.bool] (4000000 : Nat) (r3.fst.fst, a0, ())).bind fun r4 =>
                      bif !r4.fst.fst then
                        some ((false, ()), ())
                      else
                        F7c11 n (a0)
            else
              none
          else
            none
        else
          none := by kernel_rfl
theorem F7c11_eq (n : Nat) (x0 : List (List Int)) : F7c11 (n + 1) x0 =
  (F10.run [PK.v Ty.str.sl] [RK.own (9 : TypeId) Ty.str, RK.own (3 : TypeId) (Ty.int IntKind.i64)] (4000000 : Nat) (x0, ())).bind fun r5 =>
    (F16.run [PK.v Ty.str.sl] [RK.v Ty.bool] (4000000 : Nat) (r5.fst.fst, ())).bind fun r6 =>
      bif !r6.fst.fst then
        some ((false, ()), ())
      else
        bif !decide ((↑(List.length r5.fst.snd.fst) : Int) = (↑x0.length : Int)) then
          some ((false, ()), ())
        else
          F7c14 n (x0) (r5.fst.fst) (r5.fst.snd.fst) := by kernel_rfl
theorem F7c14_eq (n : Nat) (x0 : List (List Int)) (x1 : List (List Int)) (x2 : List (Int)) : F7c14 (n + 1) x0 x1 x2 =
  F7c15 n (x0) ((0 : Int)) (x1) (x2) := by kernel_rfl
theorem F7c15_eq (n : Nat) (x0 : List (List Int)) (x1 : Int) (x2 : List (List Int)) (x3 : List (Int)) : F7c15 (n + 1) x0 x1 x2 x3 =
  bif decide (x1 < (↑x0.length : Int)) then
    if (0 : Int) ≤ x1 then
      if x1 < (↑x3.length : Int) then
        bif decide (x3.getD x1.toNat (0 : Int) < (0 : Int)) then
          some ((false, ()), ())
        else
          if (0 : Int) ≤ x1 then
            if x1 < (↑x3.length : Int) then
              bif decide ((↑x2.length : Int) ≤ x3.getD x1.toNat (0 : Int)) then
                some ((false, ()), ())
              else
                if (0 : Int) ≤ x1 then
                  if x1 < (↑x3.length : Int) then
                    if (0 : Int) ≤ x3.getD x1.toNat (0 : Int) then
                      if x3.getD x1.toNat (0 : Int) < (↑x2.length : Int) then
                        if (0 : Int) ≤ x1 then
                          if x1 < (↑x0.length : Int) then
                            bif !decide (x2.getD (x3.getD x1.toNat (0 : Int)).toNat [] = x0.getD x1.toNat []) then
                              some ((false, ()), ())
                            else
                              F7c19 n (x0) (x1) (x2) (x3)
                          else
                            none
                        else
                          none
                      else
                        none
                    else
                      none
                  else
                    none
                else
                  none
            else
              none
          else
            none
      else
        none
    else
      none
  else
    (F9.run [] [RK.v Ty.bool] (4000000 : Nat) ()).bind fun r7 =>
      some ((r7.fst.fst, ()), ()) := by kernel_rfl
theorem F7c19_eq (n : Nat) (x0 : List (List Int)) (x1 : Int) (x2 : List (List Int)) (x3 : List (Int)) : F7c19 (n + 1) x0 x1 x2 x3 =
  if (0 : Int) ≤ x1 then
    if x1 < (↑x0.length : Int) then
      (F14.run [PK.v Ty.str.sl, PK.v Ty.str] [RK.v (Ty.int IntKind.i64), RK.v Ty.bool] (4000000 : Nat) (x2, x0.getD x1.toNat [], ())).bind fun r8 =>
        bif !r8.fst.snd.fst then
          some ((false, ()), ())
        else
          if (0 : Int) ≤ x1 then
            if x1 < (↑x3.length : Int) then
              bif !decide (r8.fst.fst = x3.getD x1.toNat (0 : Int)) then
                some ((false, ()), ())
              else
                F7c15 n (x0) (IntKind.i64.wrap (x1 + (1 : Int))) (x2) (x3)
            else
              none
          else
            none
    else
      none
  else
    none := by kernel_rfl
end Go.Proofs.Try
