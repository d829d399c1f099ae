/- The functions of the program as the engine follows them (printed by a program of ours): their code, what is known of them, and the equations of their runs. -/
import Derived.Test.YtkbeapecncddkaaL10Fns
set_option linter.unusedVariables false
set_option maxRecDepth 20000
namespace Go.Proofs.Try
open Go.Eng

noncomputable def F28c2 (n : Nat) (x0 : List (List Int)) (x1 : List Int) (x2 : Bool) (x3 : Int) (x4 : Int) := F28.at [.v (.sl .str), .v .str, .v .bool] [.v (.int .i64)] n 2 ⟨[.one (.data (.sl .str) x0 []), .one (.str x1), .one (.bool x2), U, U, U, U, .one (.int .i64 x3), .one (.int .i64 x4), U, U, U, U, U, U, U, U, U, U, U, U, U, U, U, U, U, U, U, U, U, U, U, U, U, U, U, U, U, U, U], []⟩
theorem F28_run (n : Nat) (a0 : List (List Int)) (a1 : List Int) (a2 : Bool) : F28.run [.v (.sl .str), .v .str, .v .bool] [.v (.int .i64)] n (a0, a1, a2, ()) =
  F28c2 n (a0) (a1) (a2) ((0 : Int)) ((↑a0.length : Int)) := by kernel_rfl
theorem F28c2_eq (n : Nat) (x0 : List (List Int)) (x1 : List Int) (x2 : Bool) (x3 : Int) (x4 : Int) : F28c2 (n + 1) x0 x1 x2 x3 x4 =
  bif decide (x3 < x4) then
    if (0 : Int) ≤ IntKind.i64.wrap ((IntKind.i64.wrap (x3 + x4)).tdiv (2 : Int)) then
      if IntKind.i64.wrap ((IntKind.i64.wrap (x3 + x4)).tdiv (2 : Int)) < (↑x0.length : Int) then
        bif Eng.strLt (x0.getD (IntKind.i64.wrap ((IntKind.i64.wrap (x3 + x4)).tdiv (2 : Int))).toNat []) x1 then
          F28c2 n (x0) (x1) (x2) (IntKind.i64.wrap (IntKind.i64.wrap ((IntKind.i64.wrap (x3 + x4)).tdiv (2 : Int)) + (1 : Int))) (x4)
        else
          bif x2 then
            if (0 : Int) ≤ IntKind.i64.wrap ((IntKind.i64.wrap (x3 + x4)).tdiv (2 : Int)) then
              if IntKind.i64.wrap ((IntKind.i64.wrap (x3 + x4)).tdiv (2 : Int)) < (↑x0.length : Int) then
                bif decide (x0.getD (IntKind.i64.wrap ((IntKind.i64.wrap (x3 + x4)).tdiv (2 : Int))).toNat [] = x1) then
                  F28c2 n (x0) (x1) (x2) (IntKind.i64.wrap (IntKind.i64.wrap ((IntKind.i64.wrap (x3 + x4)).tdiv (2 : Int)) + (1 : Int))) (x4)
                else
                  F28c2 n (x0) (x1) (x2) (x3) (IntKind.i64.wrap ((IntKind.i64.wrap (x3 + x4)).tdiv (2 : Int)))
              else
                none
            else
              none
          else
            F28c2 n (x0) (x1) (x2) (x3) (IntKind.i64.wrap ((IntKind.i64.wrap (x3 + x4)).tdiv (2 : Int)))
      else
        none
    else
      none
  else
    some ((x3, ()), ()) := by kernel_rfl
theorem F14_run (n : Nat) (a0 : List (List Int)) (a1 : List Int) : F14.run [.v (.sl .str), .v .str] [.v (.int .i64), .v .bool] n (a0, a1, ()) =
  (F28.run [PK.v Ty.str.sl, PK.v Ty.str, PK.v Ty.bool] [RK.v (Ty.int IntKind.i64)] (4000000 : Nat) (a0, a1, false, ())).bind fun r0 =>
    bif decide (r0.fst.fst = (↑a0.length : Int)) then
      some (((0 : Int), (false, ())), ())
    else
      if (0 : Int) ≤ r0.fst.fst then
        if r0.fst.fst < (↑a0.length : Int) then
          bif !decide (a0.getD (Int.toNat r0.fst.fst) [] = a1) then
            some (((0 : Int), (false, ())), ())
          else
            some ((r0.fst.fst, (true, ())), ())
        else
          none
      else
        none := by kernel_rfl
theorem F27_run (n : Nat) (a0 : List Int) (a1 : List (List Int) × Unit) : F27.run [.v .str, .bc [.o 9 .str]] [.v (.int .i64)] n (a0, a1, ()) =
  (F14.run [PK.v Ty.str.sl, PK.v Ty.str] [RK.v (Ty.int IntKind.i64), RK.v Ty.bool] (4000000 : Nat) (a1.fst, a0, ())).bind fun r0 =>
    some ((r0.fst.fst, ()), ((a1.fst, ()), ())) := by kernel_rfl
noncomputable def F10c3 (n : Nat) (x0 : List (List Int)) (x1 : List (List Int)) (x2 : Int) (x3 : Int) (x4 : List (Int)) (x5 : List ((List Int) × (Bool))) (x6 : List (List Int)) := F10.at [.v (.sl .str)] [.own 9 .str, .own 3 (.int .i64)] n 3 ⟨[.one (.data (.sl .str) x0 []), U, .one (.bptr 0 0), .one (.own 1), .one (.mp 2), U, U, U, U, U, U, .one (.data (.sl .str) x1 []), .one (.int .i64 x2), .one (.int .i64 x3), U, U, U, U, U, U, U, U, U, U, U, U, U, U, U, U, U, U, U, U, U, U, U, U, U, U, U, U, U, U, U, U], [(0, .cells [.own 3]), (1, .row 3 (.int .i64) x4 [] false), (2, .mapB .str .bool x5), (3, .row 9 .str x6 [] false)]⟩
noncomputable def F10c12 (n : Nat) (x0 : List (List Int)) (x1 : Int) (x2 : Int) (x3 : List (Int)) (x4 : List (List Int)) := F10.at [.v (.sl .str)] [.own 9 .str, .own 3 (.int .i64)] n 12 ⟨[U, U, .one (.bptr 0 0), .one (.own 1), U, U, U, .one (.fn 27 [0]), U, U, U, U, U, U, U, U, U, U, U, U, U, U, U, U, U, U, U, U, U, U, U, .one (.data (.sl .str) x0 []), .one (.int .i64 x1), .one (.int .i64 x2), U, U, U, U, U, U, U, U, U, U, U, U], [(0, .cells [.own 2]), (1, .row 3 (.int .i64) x3 [] false), (2, .row 9 .str x4 [] false)]⟩
theorem F10_run (n : Nat) (a0 : List (List Int)) : F10.run [.v (.sl .str)] [.own 9 .str, .own 3 (.int .i64)] n (a0, ()) =
  F10c3 n (a0) (a0) ((↑a0.length : Int)) ((0 : Int)) ([]) ([]) ([]) := by kernel_rfl
theorem F10c3_eq (n : Nat) (x0 : List (List Int)) (x1 : List (List Int)) (x2 : Int) (x3 : Int) (x4 : List (Int)) (x5 : List ((List Int) × (Bool))) (x6 : List (List Int)) : F10c3 (n + 1) x0 x1 x2 x3 x4 x5 x6 =
  bif decide (x3 < x2) then
    if (0 : Int) ≤ x3 then
      if x3 < (↑x1.length : Int) then
        bif !orZ (mfind (fun a a_1 => decide (a = a_1)) x5 (x1.getD x3.toNat [])) false then
          if x6.length + (1 : Nat) ≤ lim then
            F10c3 n (x0) (x1) (x2) (IntKind.i64.wrap (x3 + (1 : Int))) (x4) (mset (fun a a_1 => decide (a = a_1)) x5 (x1.getD x3.toNat []) true) (x6 ++ [x1.getD x3.toNat []])
          else
            none
        else
          F10c3 n (x0) (x1) (x2) (IntKind.i64.wrap (x3 + (1 : Int))) (x4) (x5) (x6)
      else
        none
    else
      none
  else
    (match x6.length.blt (4611686018427387904 : Nat) with
| true => some (isort x6)
| false => none).bind fun r0 =>
      F10c12 n (x0) ((↑x0.length : Int)) ((0 : Int)) (x4) (r0) := by kernel_rfl
theorem F10c12_eq (n : Nat) (x0 : List (List Int)) (x1 : Int) (x2 : Int) (x3 : List (Int)) (x4 : List (List Int)) : F10c12 (n + 1) x0 x1 x2 x3 x4 =
  bif decide (x2 < x1) then
    if (0 : Int) ≤ x2 then
      if x2 < (↑x0.length : Int) then
        (F27.run [PK.v Ty.str, PK.bc [CK.o (9 : TypeId) Ty.str]] [RK.v (Ty.int IntKind.i64)] (4000000 : Nat) (x0.getD x2.toNat [], (x4, ()), ())).bind fun r1 =>
          if x3.length + (1 : Nat) ≤ lim then
            F10c12 n (x0) (x1) (IntKind.i64.wrap (x2 + (1 : Int))) (x3 ++ [r1.fst.fst]) (r1.snd.fst.fst)
          else
            none
      else
        none
    else
      none
  else
    some ((x4, (x3, ())), ()) := by kernel_rfl
theorem F17_run (n : Nat) (a0 : List (List Int)) (a1 : Int) (a2 : List Int) : F17.run [.v (.sl .str), .v (.int .i64), .v .str] [.v (.int .i64), .v (.int .i64)] n (a0, a1, a2, ()) =
  (F28.run [PK.v Ty.str.sl, PK.v Ty.str, PK.v Ty.bool] [RK.v (Ty.int IntKind.i64)] (4000000 : Nat) (a0, a2, false, ())).bind fun r0 =>
    (F28.run [PK.v Ty.str.sl, PK.v Ty.str, PK.v Ty.bool] [RK.v (Ty.int IntKind.i64)] (4000000 : Nat) (a0, a2, true, ())).bind fun r1 =>
      bif decide (a1 = (1 : Int)) then
        some ((r0.fst.fst, (r1.fst.fst, ())), ())
      else
        bif decide (a1 = (3 : Int)) then
          some (((0 : Int), (r0.fst.fst, ())), ())
        else
          bif decide (a1 = (4 : Int)) then
            some (((0 : Int), (r1.fst.fst, ())), ())
          else
            bif decide (a1 = (5 : Int)) then
              some ((r1.fst.fst, ((↑a0.length : Int), ())), ())
            else
              bif decide (a1 = (6 : Int)) then
                some ((r0.fst.fst, ((↑a0.length : Int), ())), ())
              else
                some (((0 : Int), ((0 : Int), ())), ()) := by kernel_rfl
noncomputable def F15c2 (n : Nat) (x0 : List (List Int)) (x1 : List Int) (x2 : Int) := F15.at [.v (.sl .str), .v .str] [.v (.int .i64), .v .bool] n 2 ⟨[.one (.data (.sl .str) x0 []), .one (.str x1), U, U, U, U, .one (.int .i64 x2), U, U, U, U, U, U, U, U, U, U, U, U, U], []⟩
theorem F15_run (n : Nat) (a0 : List (List Int)) (a1 : List Int) : F15.run [.v (.sl .str), .v .str] [.v (.int .i64), .v .bool] n (a0, a1, ()) =
  F15c2 n (a0) (a1) ((0 : Int)) := by kernel_rfl
theorem F15c2_eq (n : Nat) (x0 : List (List Int)) (x1 : List Int) (x2 : Int) : F15c2 (n + 1) x0 x1 x2 =
  bif decide (x2 < (↑x0.length : Int)) then
    if (0 : Int) ≤ x2 then
      if x2 < (↑x0.length : Int) then
        bif decide (x0.getD x2.toNat [] = x1) then
          some ((x2, (true, ())), ())
        else
          F15c2 n (x0) (x1) (IntKind.i64.wrap (x2 + (1 : Int)))
      else
        none
    else
      none
  else
    some (((0 : Int), (false, ())), ()) := by kernel_rfl
noncomputable def F13c4 (n : Nat) (x0 : List (Int)) (x1 : List (Int)) (x2 : Int) := F13.at [.v (.sl (.int .i64)), .v (.sl (.int .i64))] [.v .bool] n 4 ⟨[.one (.data (.sl (.int .i64)) x0 []), .one (.data (.sl (.int .i64)) x1 []), U, U, U, .one (.int .i64 x2), U, U, U, U, U, U, U, U, U, U, U, U, U, U, U, U, U, U, U, U], []⟩
theorem F13_run (n : Nat) (a0 : List (Int)) (a1 : List (Int)) : F13.run [.v (.sl (.int .i64)), .v (.sl (.int .i64))] [.v .bool] n (a0, a1, ()) =
  bif !decide ((↑a0.length : Int) = (↑a1.length : Int)) then
    some ((false, ()), ())
  else
    F13c4 n (a0) (a1) ((0 : Int)) := by kernel_rfl
theorem F13c4_eq (n : Nat) (x0 : List (Int)) (x1 : List (Int)) (x2 : Int) : F13c4 (n + 1) x0 x1 x2 =
  bif decide (x2 < (↑x0.length : Int)) then
    if (0 : Int) ≤ x2 then
      if x2 < (↑x0.length : Int) then
        if (0 : Int) ≤ x2 then
          if x2 < (↑x1.length : Int) then
            bif !decide (x0.getD x2.toNat (0 : Int) = x1.getD x2.toNat (0 : Int)) then
              some ((false, ()), ())
            else
              F13c4 n (x0) (x1) (IntKind.i64.wrap (x2 + (1 : Int)))
          else
            none
        else
          none
      else
        none
    else
      none
  else
    some ((true, ()), ()) := by kernel_rfl
noncomputable def F12c4 (n : Nat) (x0 : List (List Int)) (x1 : List (List Int)) (x2 : Int) := F12.at [.v (.sl .str), .v (.sl .str)] [.v .bool] n 4 ⟨[.one (.data (.sl .str) x0 []), .one (.data (.sl .str) x1 []), U, U, U, .one (.int .i64 x2), U, U, U, U, U, U, U, U, U, U, U, U, U, U, U, U, U, U, U, U], []⟩
theorem F12_run (n : Nat) (a0 : List (List Int)) (a1 : List (List Int)) : F12.run [.v (.sl .str), .v (.sl .str)] [.v .bool] n (a0, a1, ()) =
  bif !decide ((↑a0.length : Int) = (↑a1.length : Int)) then
    some ((false, ()), ())
  else
    F12c4 n (a0) (a1) ((0 : Int)) := by kernel_rfl
theorem F12c4_eq (n : Nat) (x0 : List (List Int)) (x1 : List (List Int)) (x2 : Int) : F12c4 (n + 1) x0 x1 x2 =
  bif decide (x2 < (↑x0.length : Int)) then
    if (0 : Int) ≤ x2 then
      if x2 < (↑x0.length : Int) then
        if (0 : Int) ≤ x2 then
          if x2 < (↑x1.length : Int) then
            bif !decide (x0.getD x2.toNat [] = x1.getD x2.toNat []) then
              some ((false, ()), ())
            else
              F12c4 n (x0) (x1) (IntKind.i64.wrap (x2 + (1 : Int)))
          else
            none
        else
          none
      else
        none
    else
      none
  else
    some ((true, ()), ()) := by kernel_rfl
noncomputable def F11c3 (n : Nat) (x0 : List (List Int)) (x1 : Int) (x2 : List (List Int)) := F11.at [.v (.sl .str)] [.own 9 .str, .own 3 (.int .i64)] n 3 ⟨[.one (.data (.sl .str) x0 []), U, U, U, .one (.own 0), .one (.int .i64 x1), U, U, U, U, U, U, U, U, U, U, U, U, U, U, U, U, U, U, U, U, U, U, U, U, U, U, U, U, U, U, U, U, U, U, U, U, U, U, U, U, U, U, U, U, U, U, U, U, U, U, U, U, U, U, U, U, U, U, U, U, U, U, U, U, U, U, U, U, U, U, U, U, U, U, U, U, U, U, U, U, U, U, U, U, U, U, U, U, U, U, U], [(0, .row 9 .str x2 [] false)]⟩
noncomputable def F11c6 (n : Nat) (x0 : List (List Int)) (x1 : Int) (x2 : Int) (x3 : List (List Int)) := F11.at [.v (.sl .str)] [.own 9 .str, .own 3 (.int .i64)] n 6 ⟨[.one (.data (.sl .str) x0 []), U, U, U, .one (.own 0), .one (.int .i64 x1), .one (.int .i64 x2), U, U, U, U, U, U, U, U, U, U, U, U, U, U, U, U, U, U, U, U, U, U, U, U, U, U, U, U, U, U, U, U, U, U, U, U, U, U, U, U, U, U, U, U, U, U, U, U, U, U, U, U, U, U, U, U, U, U, U, U, U, U, U, U, U, U, U, U, U, U, U, U, U, U, U, U, U, U, U, U, U, U, U, U, U, U, U, U, U, U], [(0, .row 9 .str x3 [] false)]⟩
noncomputable def F11c17 (n : Nat) (x0 : List (List Int)) (x1 : Int) (x2 : List (List Int)) (x3 : List (Int)) := F11.at [.v (.sl .str)] [.own 9 .str, .own 3 (.int .i64)] n 17 ⟨[.one (.data (.sl .str) x0 []), U, U, U, .one (.own 0), U, U, U, .one (.own 1), .one (.int .i64 x1), U, U, U, U, U, U, U, U, U, U, U, U, U, U, U, U, U, U, U, U, U, U, U, U, U, U, U, U, U, U, U, U, U, U, U, U, U, U, U, U, U, U, U, U, U, U, U, U, U, U, U, U, U, U, U, U, U, U, U, U, U, U, U, U, U, U, U, U, U, U, U, U, U, U, U, U, U, U, U, U, U, U, U, U, U, U, U], [(0, .row 9 .str x2 [] false), (1, .row 3 (.int .i64) x3 [] false)]⟩
noncomputable def F11c8 (n : Nat) (x0 : List (List Int)) (x1 : Int) (x2 : Int) (x3 : List (List Int)) := F11.at [.v (.sl .str)] [.own 9 .str, .own 3 (.int .i64)] n 8 ⟨[.one (.data (.sl .str) x0 []), U, U, U, .one (.own 0), .one (.int .i64 x1), .one (.int .i64 x2), U, U, U, U, U, U, U, U, U, U, U, U, U, U, U, U, U, U, U, U, U, U, U, U, U, U, U, U, U, U, U, U, U, U, U, U, U, U, U, U, U, U, U, U, U, U, U, U, U, U, U, U, U, U, U, U, U, U, U, U, U, U, U, U, U, U, U, U, U, U, U, U, U, U, U, U, U, U, U, U, U, U, U, U, U, U, U, U, U, U], [(0, .row 9 .str x3 [] false)]⟩
noncomputable def F11c9 (n : Nat) (x0 : List (List Int)) (x1 : Int) (x2 : Int) (x3 : List (List Int)) := F11.at [.v (.sl .str)] [.own 9 .str, .own 3 (.int .i64)] n 9 ⟨[.one (.data (.sl .str) x0 []), U, U, U, .one (.own 0), .one (.int .i64 x1), .one (.int .i64 x2), U, U, U, U, U, U, U, U, U, U, U, U, U, U, U, U, U, U, U, U, U, U, U, U, U, U, U, U, U, U, U, U, U, U, U, U, U, U, U, U, U, U, U, U, U, U, U, U, U, U, U, U, U, U, U, U, U, U, U, U, U, U, U, U, U, U, U, U, U, U, U, U, U, U, U, U, U, U, U, U, U, U, U, U, U, U, U, U, U, U], [(0, .row 9 .str x3 [] false)]⟩
noncomputable def F11c11 (n : Nat) (x0 : List (List Int)) (x1 : Int) (x2 : Int) (x3 : Int) (x4 : List (List Int)) := F11.at [.v (.sl .str)] [.own 9 .str, .own 3 (.int .i64)] n 11 ⟨[.one (.data (.sl .str) x0 []), U, U, U, .one (.own 0), .one (.int .i64 x1), .one (.int .i64 x2), .one (.int .i64 x3), U, U, U, U, U, U, U, U, U, U, U, U, U, U, U, U, U, U, U, U, U, U, U, U, U, U, U, U, U, U, U, U, U, U, U, U, U, U, U, U, U, U, U, U, U, U, U, U, U, U, U, U, U, U, U, U, U, U, U, U, U, U, U, U, U, U, U, U, U, U, U, U, U, U, U, U, U, U, U, U, U, U, U, U, U, U, U, U, U], [(0, .row 9 .str x4 [] false)]⟩
theorem F11_run (n : Nat) (a0 : List (List Int)) : F11.run [.v (.sl .str)] [.own 9 .str, .own 3 (.int .i64)] n (a0, ()) =
  F11c3 n (a0) ((0 : Int)) ([]) := by kernel_rfl
theorem F11c3_eq (n : Nat) (x0 : List (List Int)) (x1 : Int) (x2 : List (List Int)) : F11c3 (n + 1) x0 x1 x2 =
  bif decide (x1 < (↑x0.length : Int)) then
    F11c6 n (x0) (x1) ((↑x2.length : Int)) (x2)
  else
    F11c17 n (x0) ((0 : Int)) (x2) ([]) := by kernel_rfl
theorem F11c6_eq (n : Nat) (x0 : List (List Int)) (x1 : Int) (x2 : Int) (x3 : List (List Int)) : F11c6 (n + 1) x0 x1 x2 x3 =
  bif decide ((0 : Int) < x2) then
    if (0 : Int) ≤ IntKind.i64.wrap (x2 - (1 : Int)) then
      if IntKind.i64.wrap (x2 - (1 : Int)) < (↑x3.length : Int) then
        if (0 : Int) ≤ x1 then
          if x1 < (↑x0.length : Int) then
            bif Eng.strLt (x0.getD x1.toNat []) (x3.getD (IntKind.i64.wrap (x2 - (1 : Int))).toNat []) then
              F11c6 n (x0) (x1) (IntKind.i64.wrap (x2 - (1 : Int))) (x3)
            else
              F11c8 n (x0) (x1) (x2) (x3)
          else
            none
        else
          none
      else
        none
    else
      none
  else
    F11c8 n (x0) (x1) (x2) (x3) := by kernel_rfl
theorem F11c17_eq (n : Nat) (x0 : List (List Int)) (x1 : Int) (x2 : List (List Int)) (x3 : List (Int)) : F11c17 (n + 1) x0 x1 x2 x3 =
  bif decide (x1 < (↑x0.length : Int)) then
    if (0 : Int) ≤ x1 then
      if x1 < (↑x0.length : Int) then
        (F15.run [PK.v Ty.str.sl, PK.v Ty.str] [RK.v (Ty.int IntKind.i64), RK.v Ty.bool] (4000000 : Nat) (x2, x0.getD x1.toNat [], ())).bind fun r0 =>
          if x3.length + (1 : Nat) ≤ lim then
            F11c17 n (x0) (IntKind.i64.wrap (x1 + (1 : Int))) (x2) (x3 ++ [r0.fst.fst])
          else
            none
      else
        none
    else
      none
  else
    some ((x2, (x3, ())), ()) := by kernel_rfl
theorem F11c8_eq (n : Nat) (x0 : List (List Int)) (x1 : Int) (x2 : Int) (x3 : List (List Int)) : F11c8 (n + 1) x0 x1 x2 x3 =
  bif decide ((0 : Int) < x2) then
    if (0 : Int) ≤ IntKind.i64.wrap (x2 - (1 : Int)) then
      if IntKind.i64.wrap (x2 - (1 : Int)) < (↑x3.length : Int) then
        if (0 : Int) ≤ x1 then
          if x1 < (↑x0.length : Int) then
            bif decide (x3.getD (IntKind.i64.wrap (x2 - (1 : Int))).toNat [] = x0.getD x1.toNat []) then
              F11c3 n (x0) (IntKind.i64.wrap (x1 + (1 : Int))) (x3)
            else
              F11c9 n (x0) (x1) (x2) (x3)
          else
            none
        else
          none
      else
        none
    else
      none
  else
    F11c9 n (x0) (x1) (x2) (x3) := by kernel_rfl
theorem F11c9_eq (n : Nat) (x0 : List (List Int)) (x1 : Int) (x2 : Int) (x3 : List (List Int)) : F11c9 (n + 1) x0 x1 x2 x3 =
  if x3.length + (1 : Nat) ≤ lim then
    F11c11 n (x0) (x1) (x2) (IntKind.i64.wrap ((↑(x3 ++ [[]]).length : Int) - (1 : Int))) (x3 ++ [[]])
  else
    none := by kernel_rfl
theorem F11c11_eq (n : Nat) (x0 : List (List Int)) (x1 : Int) (x2 : Int) (x3 : Int) (x4 : List (List Int)) : F11c11 (n + 1) x0 x1 x2 x3 x4 =
  bif decide (x2 < x3) then
    if (0 : Int) ≤ IntKind.i64.wrap (x3 - (1 : Int)) then
      if IntKind.i64.wrap (x3 - (1 : Int)) < (↑x4.length : Int) then
        if (0 : Int) ≤ x3 then
          if x3 < (↑x4.length : Int) then
            F11c11 n (x0) (x1) (x2) (IntKind.i64.wrap (x3 - (1 : Int))) (x4.set x3.toNat (x4.getD (IntKind.i64.wrap (x3 - (1 : Int))).toNat []))
          else
            none
        else
          none
      else
        none
    else
      none
  else
    if (0 : Int) ≤ x1 then
      if x1 < (↑x0.length : Int) then
        if (0 : Int) ≤ x2 then
          if x2 < (↑x4.length : Int) then
            F11c3 n (x0) (IntKind.i64.wrap (x1 + (1 : Int))) (x4.set x2.toNat (x0.getD x1.toNat []))
          else
            none
        else
          none
      else
        none
    else
      none := by kernel_rfl
noncomputable def F8c2 (n : Nat) (x0 : List (List Int)) (x1 : Int) := F8.at [.v (.sl .str)] [.v .bool] n 2 ⟨[.one (.data (.sl .str) x0 []), U, U, .one (.int .i64 x1), U, U, U, U, U, U, U, U, U, U, U, U, U, U, U], []⟩
theorem F8_run (n : Nat) (a0 : List (List Int)) : F8.run [.v (.sl .str)] [.v .bool] n (a0, ()) =
  F8c2 n (a0) ((0 : Int)) := by kernel_rfl
theorem F8c2_eq (n : Nat) (x0 : List (List Int)) (x1 : Int) : F8c2 (n + 1) x0 x1 =
  bif decide (x1 < (↑x0.length : Int)) then
    if (0 : Int) ≤ x1 then
      if x1 < (↑x0.length : Int) then
        bif decide ((4096 : Int) < (↑(x0.getD x1.toNat []).length : Int)) then
          some ((false, ()), ())
        else
          F8c2 n (x0) (IntKind.i64.wrap (x1 + (1 : Int)))
      else
        none
    else
      none
  else
    some ((decide ((↑x0.length : Int) ≤ (300 : Int)), ()), ()) := by kernel_rfl
noncomputable def F3c3 (n : Nat) (x0 : List (List Int)) (x1 : List Int) := F3.at [.v (.sl .str), .v .str] [.v .bool] n 3 ⟨[.one (.data (.sl .str) x0 []), .one (.str x1), U, U, U, U, U, U, U, U, U, U, U, U, U, U, U, U, U, U, U, U, U, U, U, U, U, U, U, U, U, U, U, U, U, U, U, U, U, U, U, U, U, U, U, U, U, U, U, U, U, U, U, U, U, U, U, U, U, U, U, U, U, U, U], []⟩
noncomputable def F3c7 (n : Nat) (x0 : List Int) (x1 : List (List Int)) := F3.at [.v (.sl .str), .v .str] [.v .bool] n 7 ⟨[U, .one (.str x0), U, U, U, U, U, .one (.own 0), U, U, U, U, U, U, U, U, U, U, U, U, U, U, U, U, U, U, U, U, U, U, U, U, U, U, U, U, U, U, U, U, U, U, U, U, U, U, U, U, U, U, U, U, U, U, U, U, U, U, U, U, U, U, U, U, U], [(0, .row 9 .str x1 [] false)]⟩
theorem F3_run (n : Nat) (a0 : List (List Int)) (a1 : List Int) : F3.run [.v (.sl .str), .v .str] [.v .bool] n (a0, a1, ()) =
  (F8.run [PK.v Ty.str.sl] [RK.v Ty.bool] (4000000 : Nat) (a0, ())).bind fun r0 =>
    bif !r0.fst.fst then
      (F9.run [] [RK.v Ty.bool] (4000000 : Nat) ()).bind fun r1 =>
        some ((r1.fst.fst, ()), ())
    else
      bif decide ((4096 : Int) < (↑a1.length : Int)) then
        (F9.run [] [RK.v Ty.bool] (4000000 : Nat) ()).bind fun r2 =>
          some ((r2.fst.fst, ()), ())
      else
        F3c3 n (a0) (a1) := by kernel_rfl
theorem F3c3_eq (n : Nat) (x0 : List (List Int)) (x1 : List Int) : F3c3 (n + 1) x0 x1 =
  (F10.run [PK.v Ty.str.sl] [RK.own (9 : TypeId) Ty.str, RK.own (3 : TypeId) (Ty.int IntKind.i64)] (4000000 : Nat) (x0, ())).bind fun r3 =>
    (F11.run [PK.v Ty.str.sl] [RK.own (9 : TypeId) Ty.str, RK.own (3 : TypeId) (Ty.int IntKind.i64)] (4000000 : Nat) (x0, ())).bind fun r4 =>
      (F12.run [PK.v Ty.str.sl, PK.v Ty.str.sl] [RK.v Ty.bool] (4000000 : Nat) (r3.fst.fst, r4.fst.fst, ())).bind fun r5 =>
        bif !r5.fst.fst then
          some ((false, ()), ())
        else
          (F13.run [PK.v (Ty.int IntKind.i64).sl, PK.v (Ty.int IntKind.i64).sl] [RK.v Ty.bool] (4000000 : Nat) (r3.fst.snd.fst, r4.fst.snd.fst, ())).bind fun r6 =>
            bif !r6.fst.fst then
              some ((false, ()), ())
            else
              F3c7 n (x1) (r4.fst.fst) := by kernel_rfl
theorem F3c7_eq (n : Nat) (x0 : List Int) (x1 : List (List Int)) : F3c7 (n + 1) x0 x1 =
  (F14.run [PK.v Ty.str.sl, PK.v Ty.str] [RK.v (Ty.int IntKind.i64), RK.v Ty.bool] (4000000 : Nat) (x1, x0, ())).bind fun r7 =>
    (F15.run [PK.v Ty.str.sl, PK.v Ty.str] [RK.v (Ty.int IntKind.i64), RK.v Ty.bool] (4000000 : Nat) (x1, x0, ())).bind fun r8 =>
      bif decide (r7.fst.fst = r8.fst.fst) then
        bif decide (r7.fst.snd.fst = r8.fst.snd.fst) then
          (F9.run [] [RK.v Ty.bool] (4000000 : Nat) ()).bind fun r9 =>
            some ((r9.fst.fst, ()), ())
        else
          some ((false, ()), ())
      else
        some ((false, ()), ()) := by kernel_rfl
theorem F19_run (n : Nat) (a0 : Val) : F19.run [.v (.nm 0)] [.v .bool] n (a0, ()) =
  bif decide (a0.kind = (1 : Int)) then
    some ((decide (a0.num = (1 : Int)), ()), ())
  else
    some ((false, ()), ()) := by kernel_rfl
theorem F29_run (n : Nat) (a0 : Bool) : F29.run [.v .bool] [.v (.nm 0)] n (a0, ()) =
  bif a0 then
    some (({ kind := (1 : Int), num := (1 : Int), text := [] : Val }, ()), ())
  else
    some (({ kind := (1 : Int), num := (0 : Int), text := [] : Val }, ()), ()) := by kernel_rfl
theorem F30_run (n : Nat) (a0 : Int) (a1 : Int) : F30.run [.v (.int .i64), .v (.int .i64)] [.v .bool] n (a0, a1, ()) =
  bif decide (a0 = (1 : Int)) then
    some ((decide (a1 = (0 : Int)), ()), ())
  else
    bif decide (a0 = (2 : Int)) then
      some ((!decide (a1 = (0 : Int)), ()), ())
    else
      bif decide (a0 = (3 : Int)) then
        some ((decide (a1 < (0 : Int)), ()), ())
      else
        bif decide (a0 = (4 : Int)) then
          some ((decide (a1 ≤ (0 : Int)), ()), ())
        else
          bif decide (a0 = (5 : Int)) then
            some ((decide ((0 : Int) < a1), ()), ())
          else
            bif decide (a0 = (6 : Int)) then
              some ((decide ((0 : Int) ≤ a1), ()), ())
            else
              some ((false, ()), ()) := by kernel_rfl
theorem F51_run (n : Nat) (a0 : Bool) (a1 : Bool) : F51.run [.v .bool, .v .bool] [.v (.int .i64)] n (a0, a1, ()) =
  bif a0 then
    some (((-1 : Int), ()), ())
  else
    bif a1 then
      some (((1 : Int), ()), ())
    else
      some (((0 : Int), ()), ()) := by kernel_rfl
theorem F31_run (n : Nat) (a0 : Val) (a1 : Val) : F31.run [.v (.nm 0), .v (.nm 0)] [.v (.int .i64)] n (a0, a1, ()) =
  bif !decide (a0.kind = a1.kind) then
    (F51.run [PK.v Ty.bool, PK.v Ty.bool] [RK.v (Ty.int IntKind.i64)] (4000000 : Nat) (decide (a0.kind < a1.kind), true, ())).bind fun r0 =>
      some ((r0.fst.fst, ()), ())
  else
    bif decide (a0.kind = (3 : Int)) then
      (F51.run [PK.v Ty.bool, PK.v Ty.bool] [RK.v (Ty.int IntKind.i64)] (4000000 : Nat) (Eng.strLt a0.text a1.text, Eng.strLt a1.text a0.text, ())).bind fun r1 =>
        some ((r1.fst.fst, ()), ())
    else
      (F51.run [PK.v Ty.bool, PK.v Ty.bool] [RK.v (Ty.int IntKind.i64)] (4000000 : Nat) (decide (a0.num < a1.num), decide (a1.num < a0.num), ())).bind fun r2 =>
        some ((r2.fst.fst, ()), ()) := by kernel_rfl
noncomputable def F20c3 (n : Nat) (x0 : Int) (x1 : Val) (x2 : Val) (x3 : Val) := F20.at [.v (.int .i64), .v (.nm 0), .v (.nm 0)] [.v (.nm 0)] n 3 ⟨[.one (.int .i64 x0), U, U, U, .one (.bptr 0 0), .one (.bptr 1 0), .one (.bptr 2 0), U, U, U, U, U, U, U, U, U, U, U, U, U, U, U, U, U, U, U, U, U, U, U, U, U], [(0, .whole (.nm 0) x1 []), (1, .whole (.nm 0) x2 []), (2, .whole (.nm 0) x3 [])]⟩
theorem F20_run (n : Nat) (a0 : Int) (a1 : Val) (a2 : Val) : F20.run [.v (.int .i64), .v (.nm 0), .v (.nm 0)] [.v (.nm 0)] n (a0, a1, a2, ()) =
  bif decide (a1.kind = (0 : Int)) then
    some (({ kind := (0 : Int), num := (0 : Int), text := [] : Val }, ()), ())
  else
    bif !decide (a1.kind = a2.kind) then
      some (({ kind := (0 : Int), num := (0 : Int), text := [] : Val }, ()), ())
    else
      bif decide (a0 < (1 : Int)) then
        some (({ kind := (0 : Int), num := (0 : Int), text := [] : Val }, ()), ())
      else
        bif decide ((6 : Int) < a0) then
          some (({ kind := (0 : Int), num := (0 : Int), text := [] : Val }, ()), ())
        else
          F20c3 n (a0) (a1) (a2) ({ kind := (0 : Int), num := (0 : Int), text := [] : Val }) := by kernel_rfl
theorem F20c3_eq (n : Nat) (x0 : Int) (x1 : Val) (x2 : Val) (x3 : Val) : F20c3 (n + 1) x0 x1 x2 x3 =
  (F31.run [PK.v (Ty.nm (0 : Nat)), PK.v (Ty.nm (0 : Nat))] [RK.v (Ty.int IntKind.i64)] (4000000 : Nat) (x1, x2, ())).bind fun r0 =>
    (F30.run [PK.v (Ty.int IntKind.i64), PK.v (Ty.int IntKind.i64)] [RK.v Ty.bool] (4000000 : Nat) (x0, r0.fst.fst, ())).bind fun r1 =>
      (F29.run [PK.v Ty.bool] [RK.v (Ty.nm (0 : Nat))] (4000000 : Nat) (r1.fst.fst, ())).bind fun r2 =>
        some ((r2.fst.fst, ()), ()) := by kernel_rfl
noncomputable def F18c3 (n : Nat) (x0 : List (List Int)) (x1 : Int) (x2 : List Int) (x3 : Int) (x4 : Int) (x5 : Int) := F18.at [.v (.sl .str), .v (.int .i64), .v .str] [.v (.int .i64), .v (.int .i64)] n 3 ⟨[.one (.data (.sl .str) x0 []), .one (.int .i64 x1), .one (.str x2), U, U, U, U, U, .one (.int .i64 x3), .one (.int .i64 x4), .one (.int .i64 x5), U, U, U, U, U, U, U, U, U, U, U, U, U, U, U, U, U, U, U, U, U, U, U, U, U, U, U, U, U, U, U, U, U, U, U, U, U, U, U, U, U, U, U], []⟩
noncomputable def F18c7 (n : Nat) (x0 : List (List Int)) (x1 : Int) (x2 : List Int) (x3 : Int) (x4 : Int) (x5 : Int) := F18.at [.v (.sl .str), .v (.int .i64), .v .str] [.v (.int .i64), .v (.int .i64)] n 7 ⟨[.one (.data (.sl .str) x0 []), .one (.int .i64 x1), .one (.str x2), U, U, U, U, U, .one (.int .i64 x3), .one (.int .i64 x4), .one (.int .i64 x5), U, U, U, U, U, U, U, U, U, U, U, U, U, U, U, U, U, U, U, U, U, U, U, U, U, U, U, U, U, U, U, U, U, U, U, U, U, U, U, U, U, U, U], []⟩
theorem F18_run (n : Nat) (a0 : List (List Int)) (a1 : Int) (a2 : List Int) : F18.run [.v (.sl .str), .v (.int .i64), .v .str] [.v (.int .i64), .v (.int .i64)] n (a0, a1, a2, ()) =
  F18c3 n (a0) (a1) (a2) ((0 : Int)) ((0 : Int)) ((0 : Int)) := by kernel_rfl
theorem F18c3_eq (n : Nat) (x0 : List (List Int)) (x1 : Int) (x2 : List Int) (x3 : Int) (x4 : Int) (x5 : Int) : F18c3 (n + 1) x0 x1 x2 x3 x4 x5 =
  bif decide (x5 < (↑x0.length : Int)) then
    if (0 : Int) ≤ x5 then
      if x5 < (↑x0.length : Int) then
        bif Eng.strLt (x0.getD x5.toNat []) x2 then
          F18c7 n (x0) (x1) (x2) (IntKind.i64.wrap (x3 + (1 : Int))) (x4) (x5)
        else
          F18c7 n (x0) (x1) (x2) (x3) (x4) (x5)
      else
        none
    else
      none
  else
    bif decide (x1 = (1 : Int)) then
      some ((x3, (x4, ())), ())
    else
      bif decide (x1 = (3 : Int)) then
        some (((0 : Int), (x3, ())), ())
      else
        bif decide (x1 = (4 : Int)) then
          some (((0 : Int), (x4, ())), ())
        else
          bif decide (x1 = (5 : Int)) then
            some ((x4, ((↑x0.length : Int), ())), ())
          else
            bif decide (x1 = (6 : Int)) then
              some ((x3, ((↑x0.length : Int), ())), ())
            else
              some (((0 : Int), ((0 : Int), ())), ()) := by kernel_rfl
theorem F18c7_eq (n : Nat) (x0 : List (List Int)) (x1 : Int) (x2 : List Int) (x3 : Int) (x4 : Int) (x5 : Int) : F18c7 (n + 1) x0 x1 x2 x3 x4 x5 =
  if (0 : Int) ≤ x5 then
    if x5 < (↑x0.length : Int) then
      bif !Eng.strLt x2 (x0.getD x5.toNat []) then
        F18c3 n (x0) (x1) (x2) (x3) (IntKind.i64.wrap (x4 + (1 : Int))) (IntKind.i64.wrap (x5 + (1 : Int)))
      else
        F18c3 n (x0) (x1) (x2) (x3) (x4) (IntKind.i64.wrap (x5 + (1 : Int)))
    else
      none
  else
    none := by kernel_rfl
noncomputable def F16c2 (n : Nat) (x0 : List (List Int)) (x1 : Int) := F16.at [.v (.sl .str)] [.v .bool] n 2 ⟨[.one (.data (.sl .str) x0 []), U, U, .one (.int .i64 x1), U, U, U, U, U, U, U, U, U, U, U, U, U, U, U, U], []⟩
theorem F16_run (n : Nat) (a0 : List (List Int)) : F16.run [.v (.sl .str)] [.v .bool] n (a0, ()) =
  F16c2 n (a0) ((1 : Int)) := by kernel_rfl
theorem F16c2_eq (n : Nat) (x0 : List (List Int)) (x1 : Int) : F16c2 (n + 1) x0 x1 =
  bif decide (x1 < (↑x0.length : Int)) then
    if (0 : Int) ≤ x1 then
      if x1 < (↑x0.length : Int) then
        if (0 : Int) ≤ IntKind.i64.wrap (x1 - (1 : Int)) then
          if IntKind.i64.wrap (x1 - (1 : Int)) < (↑x0.length : Int) then
            bif !Eng.strLt (x0.getD (IntKind.i64.wrap (x1 - (1 : Int))).toNat []) (x0.getD x1.toNat []) then
              some ((false, ()), ())
            else
              F16c2 n (x0) (IntKind.i64.wrap (x1 + (1 : Int)))
          else
            none
        else
          none
      else
        none
    else
      none
  else
    some ((true, ()), ()) := by kernel_rfl
noncomputable def F4c3 (n : Nat) (x0 : List (List Int)) (x1 : Int) (x2 : List Int) := F4.at [.v (.sl .str), .v (.int .i64), .v .str] [.v .bool] n 3 ⟨[.one (.data (.sl .str) x0 []), .one (.int .i64 x1), .one (.str x2), U, U, U, U, U, U, U, U, U, U, U, U, U, U, U, U, U, U, U, U, U, U, U, U, U, U, U, U, U, U, U, U, U, U, U, U, U, U, U, U, U, U, U, U, U, U, U, U, U, U, U, U, U, U, U, U, U, U, U, U, U, U, U, U, U, U, U, U, U, U, U, U, U, U, U, U, U, U, U, U, U, U, U, U, U], []⟩
noncomputable def F4c7 (n : Nat) (x0 : List (List Int)) (x1 : Int) (x2 : List Int) (x3 : Int) (x4 : Int) := F4.at [.v (.sl .str), .v (.int .i64), .v .str] [.v .bool] n 7 ⟨[.one (.data (.sl .str) x0 []), .one (.int .i64 x1), .one (.str x2), U, U, U, U, .one (.int .i64 x3), .one (.int .i64 x4), U, U, U, U, U, U, U, U, U, U, U, U, U, U, U, U, U, U, U, U, U, U, U, U, U, U, U, U, U, U, U, U, U, U, U, U, U, U, U, U, U, U, U, U, U, U, U, U, U, U, U, U, U, U, U, U, U, U, U, U, U, U, U, U, U, U, U, U, U, U, U, U, U, U, U, U, U, U, U], []⟩
noncomputable def F4c8 (n : Nat) (x0 : List (List Int)) (x1 : Int) (x2 : List Int) (x3 : Int) (x4 : Int) (x5 : Int) := F4.at [.v (.sl .str), .v (.int .i64), .v .str] [.v .bool] n 8 ⟨[.one (.data (.sl .str) x0 []), .one (.int .i64 x1), .one (.str x2), U, U, U, U, .one (.int .i64 x3), .one (.int .i64 x4), U, U, .one (.int .i64 x5), U, U, U, U, U, U, U, U, U, U, U, U, U, U, U, U, U, U, U, U, U, U, U, U, U, U, U, U, U, U, U, U, U, U, U, U, U, U, U, U, U, U, U, U, U, U, U, U, U, U, U, U, U, U, U, U, U, U, U, U, U, U, U, U, U, U, U, U, U, U, U, U, U, U, U, U], []⟩
noncomputable def F4c10 (n : Nat) (x0 : List (List Int)) (x1 : Int) (x2 : List Int) (x3 : Int) (x4 : Int) (x5 : Int) := F4.at [.v (.sl .str), .v (.int .i64), .v .str] [.v .bool] n 10 ⟨[.one (.data (.sl .str) x0 []), .one (.int .i64 x1), .one (.str x2), U, U, U, U, .one (.int .i64 x3), .one (.int .i64 x4), U, U, .one (.int .i64 x5), U, U, U, U, U, U, U, U, U, U, U, U, U, U, U, U, U, U, U, U, U, U, U, U, U, U, U, U, U, U, U, U, U, U, U, U, U, U, U, U, U, U, U, U, U, U, U, U, U, U, U, U, U, U, U, U, U, U, U, U, U, U, U, U, U, U, U, U, U, U, U, U, U, U, U, U], []⟩
noncomputable def F4c13 (n : Nat)  := F4.at [.v (.sl .str), .v (.int .i64), .v .str] [.v .bool] n 13 ⟨[U, U, U, U, U, U, U, U, U, U, U, U, U, U, U, U, U, U, U, U, U, U, U, U, U, U, U, U, U, U, U, U, U, U, U, U, U, U, U, U, U, U, U, U, U, U, U, U, U, U, U, U, U, U, U, U, U, U, U, U, U, U, U, U, U, U, U, U, U, U, U, U, U, U, U, U, U, U, U, U, U, U, U, U, U, U, U, U], []⟩
theorem F4_run (n : Nat) (a0 : List (List Int)) (a1 : Int) (a2 : List Int) : F4.run [.v (.sl .str), .v (.int .i64), .v .str] [.v .bool] n (a0, a1, a2, ()) =
  (F8.run [PK.v Ty.str.sl] [RK.v Ty.bool] (4000000 : Nat) (a0, ())).bind fun r0 =>
    bif !r0.fst.fst then
      (F9.run [] [RK.v Ty.bool] (4000000 : Nat) ()).bind fun r1 =>
        some ((r1.fst.fst, ()), ())
    else
      (F16.run [PK.v Ty.str.sl] [RK.v Ty.bool] (4000000 : Nat) (a0, ())).bind fun r2 =>
        bif !r2.fst.fst then
          (F9.run [] [RK.v Ty.bool] (4000000 : Nat) ()).bind fun r3 =>
            some ((r3.fst.fst, ()), ())
        else
          bif decide ((4096 : Int) < (↑a2.length : Int)) then
            (F9.run [] [RK.v Ty.bool] (4000000 : Nat) ()).bind fun r4 =>
              some ((r4.fst.fst, ()), ())
          else
            F4c3 n (a0) (a1) (a2) := by kernel_rfl
theorem F4c3_eq (n : Nat) (x0 : List (List Int)) (x1 : Int) (x2 : List Int) : F4c3 (n + 1) x0 x1 x2 =
  (F17.run [PK.v Ty.str.sl, PK.v (Ty.int IntKind.i64), PK.v Ty.str] [RK.v (Ty.int IntKind.i64), RK.v (Ty.int IntKind.i64)] (4000000 : Nat) (x0, x1, x2, ())).bind fun r5 =>
    (F18.run [PK.v Ty.str.sl, PK.v (Ty.int IntKind.i64), PK.v Ty.str] [RK.v (Ty.int IntKind.i64), RK.v (Ty.int IntKind.i64)] (4000000 : Nat) (x0, x1, x2, ())).bind fun r6 =>
      bif !decide (r5.fst.fst = r6.fst.fst) then
        some ((false, ()), ())
      else
        bif !decide (r5.fst.snd.fst = r6.fst.snd.fst) then
          some ((false, ()), ())
        else
          F4c7 n (x0) (x1) (x2) (r5.fst.fst) (r5.fst.snd.fst) := by kernel_rfl
theorem F4c7_eq (n : Nat) (x0 : List (List Int)) (x1 : Int) (x2 : List Int) (x3 : Int) (x4 : Int) : F4c7 (n + 1) x0 x1 x2 x3 x4 =
  F4c8 n (x0) (x1) (x2) (x3) (x4) ((0 : Int)) := by kernel_rfl
theorem F4c8_eq (n : Nat) (x0 : List (List Int)) (x1 : Int) (x2 : List Int) (x3 : Int) (x4 : Int) (x5 : Int) : F4c8 (n + 1) x0 x1 x2 x3 x4 x5 =
  bif decide (x5 < (↑x0.length : Int)) then
    bif decide ((1 : Int) ≤ x1) then
      bif decide (x1 ≤ (6 : Int)) then
        bif !decide (x1 = (2 : Int)) then
          F4c10 n (x0) (x1) (x2) (x3) (x4) (x5)
        else
          F4c13 n 
      else
        F4c13 n 
    else
      F4c13 n 
  else
    F4c13 n  := by kernel_rfl
theorem F4c10_eq (n : Nat) (x0 : List (List Int)) (x1 : Int) (x2 : List Int) (x3 : Int) (x4 : Int) (x5 : Int) : F4c10 (n + 1) x0 x1 x2 x3 x4 x5 =
  if (0 : Int) ≤ x5 then
    if x5 < (↑x0.length : Int) then
      (F20.run [PK.v (Ty.int IntKind.i64), PK.v (Ty.nm (0 : Nat)), PK.v (Ty.nm (0 : Nat))] [RK.v (Ty.nm (0 : Nat))] (4000000 : Nat) (x1, { kind := (3 : Int), num := (0 : Int), text := x0.getD x5.toNat [] : Val }, { kind := (3 : Int), num := (0 : Int), text := x2 : Val }, ())).bind fun r7 =>
        (F19.run [PK.v (Ty.nm (0 : Nat))] [RK.v Ty.bool] (4000000 : Nat) (r7.fst.fst, ())).bind fun r8 =>
          bif decide (x3 ≤ x5) then
            bif !decide (r8.fst.fst = decide (x5 < x4)) then
              some ((false, ()), ())
            else
              F4c8 n (x0) (x1) (x2) (x3) (x4) (IntKind.i64.wrap (x5 + (1 : Int)))
          else
            bif !decide (r8.fst.fst = false) then
              some ((false, ()), ())
            else
              F4c8 n (x0) (x1) (x2) (x3) (x4) (IntKind.i64.wrap (x5 + (1 : Int)))
    else
      none
  else
    none := by kernel_rfl
theorem F4c13_eq (n : Nat)  : F4c13 (n + 1)  =
  (F9.run [] [RK.v Ty.bool] (4000000 : Nat) ()).bind fun r9 =>
    some ((r9.fst.fst, ()), ()) := by kernel_rfl
end Go.Proofs.Try
