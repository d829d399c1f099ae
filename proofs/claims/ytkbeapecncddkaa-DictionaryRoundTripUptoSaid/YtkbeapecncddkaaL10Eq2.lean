/- The functions of the program as the engine follows them (printed by a program of ours): their code, what is known of them, and the equations of their runs. -/
import Derived.Test.YtkbeapecncddkaaL10Fns
set_option linter.unusedVariables false
set_option maxRecDepth 20000
namespace Go.Proofs.Try
open Go.Eng

noncomputable def F39c2 (n : Nat) (x0 : Int) (x1 : List (Int)) := F39.at [.v (.int .u64)] [.own 5 (.int .u8)] n 2 ⟨[.one (.int .u64 x0), U, U, .one (.own 0), U, U, U, U, U, U, U, U, U, U, U, U, U, U, U], [(0, .row 5 (.int .u8) x1 [] false)]⟩
theorem F39_run (n : Nat) (a0 : Int) : F39.run [.v (.int .u64)] [.own 5 (.int .u8)] n (a0, ()) =
  F39c2 n (a0) ([]) := by kernel_rfl
theorem F39c2_eq (n : Nat) (x0 : Int) (x1 : List (Int)) : F39c2 (n + 1) x0 x1 =
  bif decide ((128 : Int) ≤ x0) then
    if x1.length + (1 : Nat) ≤ lim then
      F39c2 n (x0 / (2 : Int) ^ min (Int.toNat (7 : Int)) IntKind.u64.bits) (x1 ++ [bits BinOp.or IntKind.u8 (IntKind.u8.wrap x0) (128 : Int)])
    else
      none
  else
    if x1.length + (1 : Nat) ≤ lim then
      some ((x1 ++ [IntKind.u8.wrap x0], ()), ())
    else
      none := by kernel_rfl
theorem F60_run (n : Nat) (a0 : Int) : F60.run [.v (.int .i64)] [.v (.int .u64)] n (a0, ()) =
  some ((bits BinOp.xor IntKind.u64 (IntKind.u64.wrap (IntKind.u64.wrap a0 * (2 : Int) ^ min (Int.toNat (1 : Int)) IntKind.u64.bits)) (IntKind.u64.wrap (a0 / (2 : Int) ^ min (Int.toNat (63 : Int)) IntKind.i64.bits)), ()), ()) := by kernel_rfl
noncomputable def F42c4 (n : Nat) (x0 : Int) (x1 : List (Run)) (x2 : Int) (x3 : Int) (x4 : List (Int)) := F42.at [.v (.sl (.nm 1))] [.own 5 (.int .u8)] n 4 ⟨[U, U, U, .one (.own 0), .one (.int .i64 x0), U, U, U, U, U, U, .one (.data (.sl (.nm 1)) x1 []), .one (.int .i64 x2), .one (.int .i64 x3), U, U, U, U, U, U, U, U, U, U, U, U, U, U, U, U, U, U, U, U, U], [(0, .row 5 (.int .u8) x4 [] false)]⟩
theorem F42_run (n : Nat) (a0 : List (Run)) : F42.run [.v (.sl (.nm 1))] [.own 5 (.int .u8)] n (a0, ()) =
  (F39.run [PK.v (Ty.int IntKind.u64)] [RK.own (5 : TypeId) (Ty.int IntKind.u8)] (4000000 : Nat) (IntKind.u64.wrap (↑a0.length : Int), ())).bind fun r0 =>
    F42c4 n ((0 : Int)) (a0) ((↑a0.length : Int)) ((0 : Int)) (r0.fst.fst) := by kernel_rfl
theorem F42c4_eq (n : Nat) (x0 : Int) (x1 : List (Run)) (x2 : Int) (x3 : Int) (x4 : List (Int)) : F42c4 (n + 1) x0 x1 x2 x3 x4 =
  bif decide (x3 < x2) then
    if (0 : Int) ≤ x3 then
      if x3 < (↑x1.length : Int) then
        (F60.run [PK.v (Ty.int IntKind.i64)] [RK.v (Ty.int IntKind.u64)] (4000000 : Nat) (IntKind.i64.wrap ((x1.getD x3.toNat { value := (0 : Int), count := (0 : Int) : Run }).value - x0), ())).bind fun r1 =>
          (F39.run [PK.v (Ty.int IntKind.u64)] [RK.own (5 : TypeId) (Ty.int IntKind.u8)] (4000000 : Nat) (r1.fst.fst, ())).bind fun r2 =>
            if x4.length + List.length r2.fst.fst ≤ lim then
              (F39.run [PK.v (Ty.int IntKind.u64)] [RK.own (5 : TypeId) (Ty.int IntKind.u8)] (4000000 : Nat) (IntKind.u64.wrap (x1.getD x3.toNat { value := (0 : Int), count := (0 : Int) : Run }).count, ())).bind fun r3 =>
                if (x4 ++ r2.fst.fst).length + List.length r3.fst.fst ≤ lim then
                  F42c4 n ((x1.getD x3.toNat { value := (0 : Int), count := (0 : Int) : Run }).value) (x1) (x2) (IntKind.i64.wrap (x3 + (1 : Int))) (x4 ++ r2.fst.fst ++ r3.fst.fst)
                else
                  none
            else
              none
      else
        none
    else
      none
  else
    some ((x4, ()), ()) := by kernel_rfl
noncomputable def F43c3 (n : Nat) (x0 : List (Int)) (x1 : List (Int)) (x2 : Int) (x3 : Int) (x4 : List (Run)) := F43.at [.v (.sl (.int .i64))] [.own 82 (.nm 1)] n 3 ⟨[.one (.data (.sl (.int .i64)) x0 []), U, U, .one (.own 0), U, U, .one (.data (.sl (.int .i64)) x1 []), .one (.int .i64 x2), .one (.int .i64 x3), U, U, U, U, U, U, U, U, U, U, U, U, U, U, U, U, U, U, U, U, U, U, U, U, U, U, U, U, U, U, U, U], [(0, .row 82 (.nm 1) x4 [] false)]⟩
noncomputable def F43c7 (n : Nat) (x0 : List (Int)) (x1 : Int) (x2 : List (Int)) (x3 : Int) (x4 : Int) (x5 : List (Run)) := F43.at [.v (.sl (.int .i64))] [.own 82 (.nm 1)] n 7 ⟨[.one (.data (.sl (.int .i64)) x0 []), U, U, .one (.own 0), U, .one (.int .i64 x1), .one (.data (.sl (.int .i64)) x2 []), .one (.int .i64 x3), .one (.int .i64 x4), U, U, U, U, U, U, U, U, U, U, U, U, U, U, U, U, U, U, U, U, U, U, U, U, U, U, U, U, U, U, U, U], [(0, .row 82 (.nm 1) x5 [] false)]⟩
theorem F43_run (n : Nat) (a0 : List (Int)) : F43.run [.v (.sl (.int .i64))] [.own 82 (.nm 1)] n (a0, ()) =
  F43c3 n (a0) (a0) ((↑a0.length : Int)) ((0 : Int)) ([]) := by kernel_rfl
theorem F43c3_eq (n : Nat) (x0 : List (Int)) (x1 : List (Int)) (x2 : Int) (x3 : Int) (x4 : List (Run)) : F43c3 (n + 1) x0 x1 x2 x3 x4 =
  bif decide (x3 < x2) then
    if (0 : Int) ≤ x3 then
      if x3 < (↑x1.length : Int) then
        bif decide ((0 : Int) < x3) then
          if (0 : Int) ≤ IntKind.i64.wrap (x3 - (1 : Int)) then
            if IntKind.i64.wrap (x3 - (1 : Int)) < (↑x0.length : Int) then
              bif decide (x1.getD x3.toNat (0 : Int) = x0.getD (IntKind.i64.wrap (x3 - (1 : Int))).toNat (0 : Int)) then
                if (0 : Int) ≤ IntKind.i64.wrap ((↑x4.length : Int) - (1 : Int)) then
                  if IntKind.i64.wrap ((↑x4.length : Int) - (1 : Int)) < (↑x4.length : Int) then
                    if (0 : Int) ≤ IntKind.i64.wrap ((↑x4.length : Int) - (1 : Int)) then
                      if IntKind.i64.wrap ((↑x4.length : Int) - (1 : Int)) < (↑x4.length : Int) then
                        F43c3 n (x0) (x1) (x2) (IntKind.i64.wrap (x3 + (1 : Int))) (x4.set (IntKind.i64.wrap ((↑x4.length : Int) - (1 : Int))).toNat { value := (x4.getD (IntKind.i64.wrap ((↑x4.length : Int) - (1 : Int))).toNat { value := (0 : Int), count := (0 : Int) : Run }).value, count := IntKind.i64.wrap ((x4.getD (IntKind.i64.wrap ((↑x4.length : Int) - (1 : Int))).toNat { value := (0 : Int), count := (0 : Int) : Run }).count + (1 : Int)) : Run })
                      else
                        none
                    else
                      none
                  else
                    none
                else
                  none
              else
                F43c7 n (x0) (x1.getD x3.toNat (0 : Int)) (x1) (x2) (x3) (x4)
            else
              none
          else
            none
        else
          F43c7 n (x0) (x1.getD x3.toNat (0 : Int)) (x1) (x2) (x3) (x4)
      else
        none
    else
      none
  else
    some ((x4, ()), ()) := by kernel_rfl
theorem F43c7_eq (n : Nat) (x0 : List (Int)) (x1 : Int) (x2 : List (Int)) (x3 : Int) (x4 : Int) (x5 : List (Run)) : F43c7 (n + 1) x0 x1 x2 x3 x4 x5 =
  if x5.length + (1 : Nat) ≤ lim then
    F43c3 n (x0) (x2) (x3) (IntKind.i64.wrap (x4 + (1 : Int))) (x5 ++ [{ value := x1, count := (1 : Int) : Run }])
  else
    none := by kernel_rfl
noncomputable def F58c1 (n : Nat) (x0 : Int) (x1 : Int) (x2 : List (Int)) (x3 : Int) (x4 : Int) := F58.at [.v (.int .u64), .bw (.int .i64), .bw (.int .i64), .bc [.o 5 (.int .u8)]] [] n 1 ⟨[.one (.int .u64 x0), U, .one (.bptr 902000 0), .one (.bptr 903000 0), U, .one (.int .i64 x1), U, U, U, U, U, U, U, U, U, U, U, U, U, U, U, U, U, U, U, U, U, U, U, U, U, U, U, U, U, U, U, U, U, U], [(2, .row 5 (.int .u8) x2 [] false), (901000, .whole (.int .i64) x3 []), (902000, .whole (.int .i64) x4 []), (903000, .cells [.own 2])]⟩
theorem F58_run (n : Nat) (a0 : Int) (a1 : Int) (a2 : Int) (a3 : List (Int) × Unit) : F58.run [.v (.int .u64), .bw (.int .i64), .bw (.int .i64), .bc [.o 5 (.int .u8)]] [] n (a0, a1, a2, a3, ()) =
  F58c1 n (a0) (a1) (a3.fst) (a1) (a2) := by kernel_rfl
theorem F58c1_eq (n : Nat) (x0 : Int) (x1 : Int) (x2 : List (Int)) (x3 : Int) (x4 : Int) : F58c1 (n + 1) x0 x1 x2 x3 x4 =
  bif decide ((0 : Int) < x1) then
    if (0 : Int) ≤ IntKind.i64.wrap (x4.tdiv (8 : Int)) then
      if IntKind.i64.wrap (x4.tdiv (8 : Int)) < (↑x2.length : Int) then
        if (0 : Int) ≤ imin (IntKind.i64.wrap ((8 : Int) - x4.tmod (8 : Int))) x1 then
          if (0 : Int) ≤ x4.tmod (8 : Int) then
            if (0 : Int) ≤ IntKind.i64.wrap (x4.tdiv (8 : Int)) then
              if IntKind.i64.wrap (x4.tdiv (8 : Int)) < (↑x2.length : Int) then
                if (0 : Int) ≤ imin (IntKind.i64.wrap ((8 : Int) - x4.tmod (8 : Int))) x1 then
                  F58c1 n (x0 / (2 : Int) ^ min (imin (IntKind.i64.wrap ((8 : Int) - x4.tmod (8 : Int))) x1).toNat IntKind.u64.bits) (IntKind.i64.wrap (x1 - imin (IntKind.i64.wrap ((8 : Int) - x4.tmod (8 : Int))) x1)) (x2.set (IntKind.i64.wrap (x4.tdiv (8 : Int))).toNat (bits BinOp.or IntKind.u8 (x2.getD (IntKind.i64.wrap (x4.tdiv (8 : Int))).toNat (0 : Int)) (IntKind.u8.wrap (IntKind.u8.wrap (bits BinOp.and IntKind.u64 x0 (IntKind.u64.wrap (IntKind.u64.wrap ((1 : Int) * (2 : Int) ^ min (imin (IntKind.i64.wrap ((8 : Int) - x4.tmod (8 : Int))) x1).toNat IntKind.u64.bits) - (1 : Int)))) * (2 : Int) ^ min (x4.tmod (8 : Int)).toNat IntKind.u8.bits)))) (x3) (IntKind.i64.wrap (x4 + imin (IntKind.i64.wrap ((8 : Int) - x4.tmod (8 : Int))) x1))
                else
                  none
              else
                none
            else
              none
          else
            none
        else
          none
      else
        none
    else
      none
  else
    some ((), (x3, (x4, ((x2, ()), ())))) := by kernel_rfl
theorem F56_run (n : Nat) (a0 : Int) (a1 : Int) : F56.run [.v (.int .i64), .v (.int .i64)] [.v .bool] n (a0, a1, ()) =
  bif decide ((0 : Int) ≤ a0) then
    bif decide (a0 ≤ (1048576 : Int)) then
      bif decide ((0 : Int) ≤ a1) then
        some ((decide (a1 ≤ (64 : Int)), ()), ())
      else
        some ((false, ()), ())
    else
      some ((false, ()), ())
  else
    some ((false, ()), ()) := by kernel_rfl
theorem F57_run (n : Nat) (a0 : Int) (a1 : Int) : F57.run [.v (.int .i64), .v (.int .i64)] [.v (.int .i64)] n (a0, a1, ()) =
  (F56.run [PK.v (Ty.int IntKind.i64), PK.v (Ty.int IntKind.i64)] [RK.v Ty.bool] (4000000 : Nat) (a0, a1, ())).bind fun r0 =>
    bif !r0.fst.fst then
      some (((0 : Int), ()), ())
    else
      some ((IntKind.i64.wrap ((IntKind.i64.wrap (IntKind.i64.wrap (a0 * a1) + (7 : Int))).tdiv (8 : Int)), ()), ()) := by kernel_rfl
noncomputable def F40c7 (n : Nat) (x0 : List (Int)) (x1 : Int) (x2 : Int) (x3 : Int) (x4 : Int) (x5 : List (Int)) := F40.at [.v (.sl (.int .u64)), .v (.int .i64)] [.own 5 (.int .u8)] n 7 ⟨[.one (.data (.sl (.int .u64)) x0 []), U, U, U, U, .one (.bptr 0 0), U, .one (.fn 58 [1, 2, 0]), U, U, U, U, U, U, U, U, U, U, U, U, U, .one (.int .i64 x1), .one (.int .i64 x2), U, U, U, U, U, U, U, U, U, U], [(0, .cells [.own 3]), (1, .whole (.int .i64) x3 []), (2, .whole (.int .i64) x4 []), (3, .row 5 (.int .u8) x5 [] false)]⟩
theorem F40_run (n : Nat) (a0 : List (Int)) (a1 : Int) : F40.run [.v (.sl (.int .u64)), .v (.int .i64)] [.own 5 (.int .u8)] n (a0, a1, ()) =
  (F56.run [PK.v (Ty.int IntKind.i64), PK.v (Ty.int IntKind.i64)] [RK.v Ty.bool] (4000000 : Nat) ((↑a0.length : Int), a1, ())).bind fun r0 =>
    bif !r0.fst.fst then
      none
    else
      (F57.run [PK.v (Ty.int IntKind.i64), PK.v (Ty.int IntKind.i64)] [RK.v (Ty.int IntKind.i64)] (4000000 : Nat) ((↑a0.length : Int), a1, ())).bind fun r1 =>
        if (0 : Int) ≤ r1.fst.fst then
          if r1.fst.fst ≤ (↑lim : Int) then
            F40c7 n (a0) ((↑a0.length : Int)) ((0 : Int)) (a1) ((0 : Int)) (List.replicate (Int.toNat r1.fst.fst) (0 : Int))
          else
            none
        else
          none := by kernel_rfl
theorem F40c7_eq (n : Nat) (x0 : List (Int)) (x1 : Int) (x2 : Int) (x3 : Int) (x4 : Int) (x5 : List (Int)) : F40c7 (n + 1) x0 x1 x2 x3 x4 x5 =
  bif decide (x2 < x1) then
    if (0 : Int) ≤ x2 then
      if x2 < (↑x0.length : Int) then
        (F58.run [PK.v (Ty.int IntKind.u64), PK.bw (Ty.int IntKind.i64), PK.bw (Ty.int IntKind.i64), PK.bc [CK.o (5 : TypeId) (Ty.int IntKind.u8)]] [] (4000000 : Nat) (x0.getD x2.toNat (0 : Int), x3, x4, (x5, ()), ())).bind fun r2 =>
          F40c7 n (x0) (x1) (IntKind.i64.wrap (x2 + (1 : Int))) (r2.snd.fst) (r2.snd.snd.fst) (r2.snd.snd.snd.fst.fst)
      else
        none
    else
      none
  else
    some ((x5, ()), ()) := by kernel_rfl
noncomputable def F79c4 (n : Nat) (x0 : Int) (x1 : Int) := F79.at [.v (.int .u64)] [.v (.int .i64)] n 4 ⟨[.one (.int .u64 x0), U, .one (.int .i64 x1), U, U, U, U, U, U, U, U, U, U, U, U, U, U, U, U, U, U, U, U, U, U], []⟩
noncomputable def F79c7 (n : Nat) (x0 : Int) (x1 : Int) := F79.at [.v (.int .u64)] [.v (.int .i64)] n 7 ⟨[.one (.int .u64 x0), U, .one (.int .i64 x1), U, U, U, U, U, U, U, U, U, U, U, U, U, U, U, U, U, U, U, U, U, U], []⟩
noncomputable def F79c10 (n : Nat) (x0 : Int) (x1 : Int) := F79.at [.v (.int .u64)] [.v (.int .i64)] n 10 ⟨[.one (.int .u64 x0), U, .one (.int .i64 x1), U, U, U, U, U, U, U, U, U, U, U, U, U, U, U, U, U, U, U, U, U, U], []⟩
theorem F79_run (n : Nat) (a0 : Int) : F79.run [.v (.int .u64)] [.v (.int .i64)] n (a0, ()) =
  bif decide ((4294967296 : Int) ≤ a0) then
    F79c4 n (a0 / (2 : Int) ^ min (Int.toNat (32 : Int)) IntKind.u64.bits) ((32 : Int))
  else
    F79c4 n (a0) ((0 : Int)) := by kernel_rfl
theorem F79c4_eq (n : Nat) (x0 : Int) (x1 : Int) : F79c4 (n + 1) x0 x1 =
  bif decide ((65536 : Int) ≤ x0) then
    F79c7 n (x0 / (2 : Int) ^ min (Int.toNat (16 : Int)) IntKind.u64.bits) (IntKind.i64.wrap (x1 + (16 : Int)))
  else
    F79c7 n (x0) (x1) := by kernel_rfl
theorem F79c7_eq (n : Nat) (x0 : Int) (x1 : Int) : F79c7 (n + 1) x0 x1 =
  bif decide ((256 : Int) ≤ x0) then
    F79c10 n (x0 / (2 : Int) ^ min (Int.toNat (8 : Int)) IntKind.u64.bits) (IntKind.i64.wrap (x1 + (8 : Int)))
  else
    F79c10 n (x0) (x1) := by kernel_rfl
theorem F79c10_eq (n : Nat) (x0 : Int) (x1 : Int) : F79c10 (n + 1) x0 x1 =
  if (0 : Int) ≤ IntKind.u8.wrap x0 then
    if IntKind.u8.wrap x0 < (↑(256 : Nat) : Int) then
      some ((IntKind.i64.wrap (x1 + IntKind.i64.wrap ([(0 : Int), (1 : Int), (2 : Int), (2 : Int), (3 : Int), (3 : Int), (3 : Int), (3 : Int), (4 : Int), (4 : Int), (4 : Int), (4 : Int), (4 : Int), (4 : Int), (4 : Int), (4 : Int), (5 : Int), (5 : Int), (5 : Int), (5 : Int), (5 : Int), (5 : Int), (5 : Int), (5 : Int), (5 : Int), (5 : Int), (5 : Int), (5 : Int), (5 : Int), (5 : Int), (5 : Int), (5 : Int), (6 : Int), (6 : Int), (6 : Int), (6 : Int), (6 : Int), (6 : Int), (6 : Int), (6 : Int), (6 : Int), (6 : Int), (6 : Int), (6 : Int), (6 : Int), (6 : Int), (6 : Int), (6 : Int), (6 : Int), (6 : Int), (6 : Int), (6 : Int), (6 : Int), (6 : Int), (6 : Int), (6 : Int), (6 : Int), (6 : Int), (6 : Int), (6 : Int), (6 : Int), (6 : Int), (6 : Int), (6 : Int), (7 : Int), (7 : Int), (7 : Int), (7 : Int), (7 : Int), (7 : Int), (7 : Int), (7 : Int), (7 : Int), (7 : Int), (7 : Int), (7 : Int), (7 : Int), (7 : Int), (7 : Int), (7 : Int), (7 : Int), (7 : Int), (7 : Int), (7 : Int), (7 : Int), (7 : Int), (7 : Int), (7 : Int), (7 : Int), (7 : Int), (7 : Int), (7 : Int), (7 : Int), (7 : Int), (7 : Int), (7 : Int), (7 : Int), (7 : Int), (7 : Int), (7 : Int), (7 : Int), (7 : Int), (7 : Int), (7 : Int), (7 : Int), (7 : Int), (7 : Int), (7 : Int), (7 : Int), (7 : Int), (7 : Int), (7 : Int), (7 : Int), (7 : Int), (7 : Int), (7 : Int), (7 : Int), (7 : Int), (7 : Int), (7 : Int), (7 : Int), (7 : Int), (7 : Int), (7 : Int), (7 : Int), (7 : Int), (7 : Int), (7 : Int), (8 : Int), (8 : Int), (8 : Int), (8 : Int), (8 : Int), (8 : Int), (8 : Int), (8 : Int), (8 : Int), (8 : Int), (8 : Int), (8 : Int), (8 : Int), (8 : Int), (8 : Int), (8 : Int), (8 : Int), (8 : Int), (8 : Int), (8 : Int), (8 : Int), (8 : Int), (8 : Int), (8 : Int), (8 : Int), (8 : Int), (8 : Int), (8 : Int), (8 : Int), (8 : Int), (8 : Int), (8 : Int), (8 : Int), (8 : Int), (8 : Int), (8 : Int), (8 : Int), (8 : Int), (8 : Int), (8 : Int), (8 : Int), (8 : Int), (8 : Int), (8 : Int), (8 : Int), (8 : Int), (8 : Int), (8 : Int), (8 : Int), (8 : Int), (8 : Int), (8 : Int), (8 : Int), (8 : Int), (8 : Int), (8 : Int), (8 : Int), (8 : Int), (8 : Int), (8 : Int), (8 : Int), (8 : Int), (8 : Int), (8 : Int), (8 : Int), (8 : Int), (8 : Int), (8 : Int), (8 : Int), (8 : Int), (8 : Int), (8 : Int), (8 : Int), (8 : Int), (8 : Int), (8 : Int), (8 : Int), (8 : Int), (8 : Int), (8 : Int), (8 : Int), (8 : Int), (8 : Int), (8 : Int), (8 : Int), (8 : Int), (8 : Int), (8 : Int), (8 : Int), (8 : Int), (8 : Int), (8 : Int), (8 : Int), (8 : Int), (8 : Int), (8 : Int), (8 : Int), (8 : Int), (8 : Int), (8 : Int), (8 : Int), (8 : Int), (8 : Int), (8 : Int), (8 : Int), (8 : Int), (8 : Int), (8 : Int), (8 : Int), (8 : Int), (8 : Int), (8 : Int), (8 : Int), (8 : Int), (8 : Int), (8 : Int), (8 : Int), (8 : Int), (8 : Int), (8 : Int), (8 : Int), (8 : Int), (8 : Int), (8 : Int), (8 : Int), (8 : Int), (8 : Int), (8 : Int)].getD (IntKind.u8.wrap x0).toNat (0 : Int))), ()), ())
    else
      none
  else
    none := by kernel_rfl
theorem F59_run (n : Nat) (a0 : Int) : F59.run [.v (.int .u64)] [.v (.int .i64)] n (a0, ()) =
  (F79.run [PK.v (Ty.int IntKind.u64)] [RK.v (Ty.int IntKind.i64)] (4000000 : Nat) (a0, ())).bind fun r0 =>
    some ((r0.fst.fst, ()), ()) := by kernel_rfl
theorem F41_run (n : Nat) (a0 : Int) : F41.run [.v (.int .i64)] [.v (.int .i64)] n (a0, ()) =
  bif decide (a0 = (0 : Int)) then
    some (((0 : Int), ()), ())
  else
    (F59.run [PK.v (Ty.int IntKind.u64)] [RK.v (Ty.int IntKind.i64)] (4000000 : Nat) (IntKind.u64.wrap (IntKind.i64.wrap (a0 - (1 : Int))), ())).bind fun r0 =>
      some ((r0.fst.fst, ()), ()) := by kernel_rfl
noncomputable def F22c4 (n : Nat) (x0 : Int) (x1 : Int) (x2 : List (List Int)) (x3 : List (Int)) (x4 : List (Int)) := F22.at [.v (.sl .str)] [.own 5 (.int .u8)] n 4 ⟨[U, U, U, .one (.own 0), .one (.own 1), .one (.own 2), U, U, U, U, U, U, U, U, U, U, U, U, U, U, U, U, U, .one (.own 0), .one (.int .i64 x0), .one (.int .i64 x1), U, U, U, U, U, U, U, U, U, U, U, U, U, U, U, U, U, U, U, U, U, U, U, U, U, U, U, U, U, U, U, U, U, U, U, U, U, U, U, U, U, U, U, U, U, U, U, U, U, U, U, U], [(0, .row 9 .str x2 [] false), (1, .row 3 (.int .i64) x3 [] false), (2, .row 5 (.int .u8) x4 [] false)]⟩
noncomputable def F22c12 (n : Nat) (x0 : Int) (x1 : Int) (x2 : List (List Int)) (x3 : List (Int)) (x4 : List (Int)) (x5 : List (Int)) (x6 : List (Int)) := F22.at [.v (.sl .str)] [.own 5 (.int .u8)] n 12 ⟨[U, U, U, .one (.own 0), U, .one (.own 1), U, U, .one (.own 2), .one (.own 3), U, U, U, U, U, U, U, U, U, U, U, U, U, U, U, U, U, U, U, U, U, U, U, U, U, U, U, U, U, .one (.own 4), .one (.int .i64 x0), .one (.int .i64 x1), U, U, U, U, U, U, U, U, U, U, U, U, U, U, U, U, U, U, U, U, U, U, U, U, U, U, U, U, U, U, U, U, U, U, U, U], [(0, .row 9 .str x2 [] false), (1, .row 5 (.int .u8) x3 [] false), (2, .row 58 (.int .u64) x4 [] false), (3, .row 2 (.int .i64) x5 [] false), (4, .row 3 (.int .i64) x6 [] false)]⟩
theorem F22_run (n : Nat) (a0 : List (List Int)) : F22.run [.v (.sl .str)] [.own 5 (.int .u8)] n (a0, ()) =
  (F10.run [PK.v Ty.str.sl] [RK.own (9 : TypeId) Ty.str, RK.own (3 : TypeId) (Ty.int IntKind.i64)] (4000000 : Nat) (a0, ())).bind fun r0 =>
    (F39.run [PK.v (Ty.int IntKind.u64)] [RK.own (5 : TypeId) (Ty.int IntKind.u8)] (4000000 : Nat) (IntKind.u64.wrap (↑(List.length r0.fst.fst) : Int), ())).bind fun r1 =>
      F22c4 n ((↑(List.length r0.fst.fst) : Int)) ((0 : Int)) (r0.fst.fst) (r0.fst.snd.fst) (r1.fst.fst) := by kernel_rfl
theorem F22c4_eq (n : Nat) (x0 : Int) (x1 : Int) (x2 : List (List Int)) (x3 : List (Int)) (x4 : List (Int)) : F22c4 (n + 1) x0 x1 x2 x3 x4 =
  bif decide (x1 < x0) then
    if (0 : Int) ≤ x1 then
      if x1 < (↑x2.length : Int) then
        (F39.run [PK.v (Ty.int IntKind.u64)] [RK.own (5 : TypeId) (Ty.int IntKind.u8)] (4000000 : Nat) (IntKind.u64.wrap (↑(x2.getD x1.toNat []).length : Int), ())).bind fun r2 =>
          if x4.length + List.length r2.fst.fst ≤ lim then
            if (x4 ++ r2.fst.fst).length + (x2.getD x1.toNat []).length ≤ lim then
              F22c4 n (x0) (IntKind.i64.wrap (x1 + (1 : Int))) (x2) (x3) (x4 ++ r2.fst.fst ++ x2.getD x1.toNat [])
            else
              none
          else
            none
      else
        none
    else
      none
  else
    F22c12 n ((↑x3.length : Int)) ((0 : Int)) (x2) (x4) ([]) ([]) (x3) := by kernel_rfl
theorem F22c12_eq (n : Nat) (x0 : Int) (x1 : Int) (x2 : List (List Int)) (x3 : List (Int)) (x4 : List (Int)) (x5 : List (Int)) (x6 : List (Int)) : F22c12 (n + 1) x0 x1 x2 x3 x4 x5 x6 =
  bif decide (x1 < x0) then
    if (0 : Int) ≤ x1 then
      if x1 < (↑x6.length : Int) then
        if x4.length + (1 : Nat) ≤ lim then
          if x5.length + (1 : Nat) ≤ lim then
            F22c12 n (x0) (IntKind.i64.wrap (x1 + (1 : Int))) (x2) (x3) (x4 ++ [IntKind.u64.wrap (x6.getD x1.toNat (0 : Int))]) (x5 ++ [x6.getD x1.toNat (0 : Int)]) (x6)
          else
            none
        else
          none
      else
        none
    else
      none
  else
    (F41.run [PK.v (Ty.int IntKind.i64)] [RK.v (Ty.int IntKind.i64)] (4000000 : Nat) ((↑x2.length : Int), ())).bind fun r3 =>
      (F40.run [PK.v (Ty.int IntKind.u64).sl, PK.v (Ty.int IntKind.i64)] [RK.own (5 : TypeId) (Ty.int IntKind.u8)] (4000000 : Nat) (x4, r3.fst.fst, ())).bind fun r4 =>
        (F43.run [PK.v (Ty.int IntKind.i64).sl] [RK.own (82 : TypeId) (Ty.nm (1 : Nat))] (4000000 : Nat) (x5, ())).bind fun r5 =>
          (F42.run [PK.v (Ty.nm (1 : Nat)).sl] [RK.own (5 : TypeId) (Ty.int IntKind.u8)] (4000000 : Nat) (r5.fst.fst, ())).bind fun r6 =>
            bif decide ((↑(List.length r6.fst.fst) : Int) < (↑(List.length r4.fst.fst) : Int)) then
              if x3.length + (1 : Nat) ≤ lim then
                if (x3 ++ [(1 : Int)]).length + List.length r6.fst.fst ≤ lim then
                  some ((x3 ++ [(1 : Int)] ++ r6.fst.fst, ()), ())
                else
                  none
              else
                none
            else
              if x3.length + (1 : Nat) ≤ lim then
                if (x3 ++ [(0 : Int)]).length + List.length r4.fst.fst ≤ lim then
                  some ((x3 ++ [(0 : Int)] ++ r4.fst.fst, ()), ())
                else
                  none
              else
                none := by kernel_rfl
theorem F23_run (n : Nat) (a0 : List (List Int)) : F23.run [.v (.sl .str)] [.v (.int .i64)] n (a0, ()) =
  (F22.run [PK.v Ty.str.sl] [RK.own (5 : TypeId) (Ty.int IntKind.u8)] (4000000 : Nat) (a0, ())).bind fun r0 =>
    some (((↑(List.length r0.fst.fst) : Int), ()), ()) := by kernel_rfl
noncomputable def F38c3 (n : Nat) (x0 : List (List (Int))) (x1 : Int) (x2 : List (Int)) := F38.at [.v (.sl (.sl (.int .u8)))] [.own 5 (.int .u8)] n 3 ⟨[.one (.data (.sl (.sl (.int .u8))) x0 []), U, U, .one (.own 0), .one (.int .i64 x1), U, U, U, U, U, U, U, U, U, U, U, U, U, U, U, U, U, U, U, U, U, U, U, U, U, U, U], [(0, .row 5 (.int .u8) x2 [] false)]⟩
noncomputable def F38c6 (n : Nat) (x0 : List (List (Int))) (x1 : Int) (x2 : Int) (x3 : List (Int)) := F38.at [.v (.sl (.sl (.int .u8)))] [.own 5 (.int .u8)] n 6 ⟨[.one (.data (.sl (.sl (.int .u8))) x0 []), U, U, .one (.own 0), .one (.int .i64 x1), .one (.int .i64 x2), U, U, U, U, U, U, U, U, U, U, U, U, U, U, U, U, U, U, U, U, U, U, U, U, U, U], [(0, .row 5 (.int .u8) x3 [] false)]⟩
theorem F38_run (n : Nat) (a0 : List (List (Int))) : F38.run [.v (.sl (.sl (.int .u8)))] [.own 5 (.int .u8)] n (a0, ()) =
  F38c3 n (a0) ((0 : Int)) ([]) := by kernel_rfl
theorem F38c3_eq (n : Nat) (x0 : List (List (Int))) (x1 : Int) (x2 : List (Int)) : F38c3 (n + 1) x0 x1 x2 =
  bif decide (x1 < (↑x0.length : Int)) then
    F38c6 n (x0) (x1) ((0 : Int)) (x2)
  else
    some ((x2, ()), ()) := by kernel_rfl
theorem F38c6_eq (n : Nat) (x0 : List (List (Int))) (x1 : Int) (x2 : Int) (x3 : List (Int)) : F38c6 (n + 1) x0 x1 x2 x3 =
  if (0 : Int) ≤ x1 then
    if x1 < (↑x0.length : Int) then
      bif decide (x2 < (↑(x0.getD x1.toNat []).length : Int)) then
        if (0 : Int) ≤ x1 then
          if x1 < (↑x0.length : Int) then
            if (0 : Int) ≤ x2 then
              if x2 < (↑(x0.getD x1.toNat []).length : Int) then
                if x3.length + [(x0.getD x1.toNat []).getD x2.toNat (0 : Int)].length ≤ lim then
                  F38c6 n (x0) (x1) (IntKind.i64.wrap (x2 + (1 : Int))) (x3 ++ [(x0.getD x1.toNat []).getD x2.toNat (0 : Int)])
                else
                  none
              else
                none
            else
              none
          else
            none
        else
          none
      else
        F38c3 n (x0) (IntKind.i64.wrap (x1 + (1 : Int))) (x3)
    else
      none
  else
    none := by kernel_rfl
noncomputable def F32c2 (n : Nat) (x0 : Int) (x1 : List (Int)) := F32.at [.v (.int .u64)] [.own 5 (.int .u8)] n 2 ⟨[.one (.int .u64 x0), U, U, .one (.own 0), U, U, U, U, U, U, U, U, U, U, U, U, U, U, U, U], [(0, .row 5 (.int .u8) x1 [] false)]⟩
theorem F32_run (n : Nat) (a0 : Int) : F32.run [.v (.int .u64)] [.own 5 (.int .u8)] n (a0, ()) =
  F32c2 n (a0) ([]) := by kernel_rfl
theorem F32c2_eq (n : Nat) (x0 : Int) (x1 : List (Int)) : F32c2 (n + 1) x0 x1 =
  bif decide ((127 : Int) < x0) then
    if x1.length + (1 : Nat) ≤ lim then
      F32c2 n (IntKind.u64.wrap (x0.tdiv (128 : Int))) (x1 ++ [IntKind.u8.wrap (IntKind.u64.wrap ((128 : Int) + x0.tmod (128 : Int)))])
    else
      none
  else
    if x1.length + (1 : Nat) ≤ lim then
      some ((x1 ++ [IntKind.u8.wrap x0], ()), ())
    else
      none := by kernel_rfl
theorem F55_run (n : Nat) (a0 : Int) : F55.run [.v (.int .i64)] [.v (.int .u64)] n (a0, ()) =
  bif decide ((0 : Int) ≤ a0) then
    some ((IntKind.u64.wrap ((2 : Int) * IntKind.u64.wrap a0), ()), ())
  else
    some ((IntKind.u64.wrap (IntKind.u64.wrap ((2 : Int) * IntKind.u64.wrap (IntKind.i64.wrap ((0 : Int) - IntKind.i64.wrap (a0 + (1 : Int))))) + (1 : Int)), ()), ()) := by kernel_rfl
noncomputable def F36c4 (n : Nat) (x0 : List (Run)) (x1 : Int) (x2 : Int) (x3 : List (List (Int))) := F36.at [.v (.sl (.nm 1))] [.own 5 (.int .u8)] n 4 ⟨[.one (.data (.sl (.nm 1)) x0 []), U, U, .one (.own 0), .one (.int .i64 x1), .one (.int .i64 x2), U, U, U, U, U, U, U, U, U, U, U, U, U, U, U, U, U, U, U, U, U, U, U, U, U, U, U, U, U, U, U, U, U, U, U, U, U, U, U, U], [(0, .row 40 (.sl (.int .u8)) x3 [] false)]⟩
theorem F36_run (n : Nat) (a0 : List (Run)) : F36.run [.v (.sl (.nm 1))] [.own 5 (.int .u8)] n (a0, ()) =
  (F32.run [PK.v (Ty.int IntKind.u64)] [RK.own (5 : TypeId) (Ty.int IntKind.u8)] (4000000 : Nat) (IntKind.u64.wrap (↑a0.length : Int), ())).bind fun r0 =>
    F36c4 n (a0) ((0 : Int)) ((0 : Int)) ([r0.fst.fst]) := by kernel_rfl
theorem F36c4_eq (n : Nat) (x0 : List (Run)) (x1 : Int) (x2 : Int) (x3 : List (List (Int))) : F36c4 (n + 1) x0 x1 x2 x3 =
  bif decide (x2 < (↑x0.length : Int)) then
    if (0 : Int) ≤ x2 then
      if x2 < (↑x0.length : Int) then
        (F55.run [PK.v (Ty.int IntKind.i64)] [RK.v (Ty.int IntKind.u64)] (4000000 : Nat) (IntKind.i64.wrap ((x0.getD x2.toNat { value := (0 : Int), count := (0 : Int) : Run }).value - x1), ())).bind fun r1 =>
          (F32.run [PK.v (Ty.int IntKind.u64)] [RK.own (5 : TypeId) (Ty.int IntKind.u8)] (4000000 : Nat) (r1.fst.fst, ())).bind fun r2 =>
            if x3.length + (1 : Nat) ≤ lim then
              if (0 : Int) ≤ x2 then
                if x2 < (↑x0.length : Int) then
                  (F32.run [PK.v (Ty.int IntKind.u64)] [RK.own (5 : TypeId) (Ty.int IntKind.u8)] (4000000 : Nat) (IntKind.u64.wrap (x0.getD x2.toNat { value := (0 : Int), count := (0 : Int) : Run }).count, ())).bind fun r3 =>
                    if (x3 ++ [r2.fst.fst]).length + (1 : Nat) ≤ lim then
                      if (0 : Int) ≤ x2 then
                        if x2 < (↑x0.length : Int) then
                          F36c4 n (x0) ((x0.getD x2.toNat { value := (0 : Int), count := (0 : Int) : Run }).value) (IntKind.i64.wrap (x2 + (1 : Int))) (x3 ++ [r2.fst.fst] ++ [r3.fst.fst])
                        else
                          none
                      else
                        none
                    else
                      none
                else
                  none
              else
                none
            else
              none
      else
        none
    else
      none
  else
    (F38.run [PK.v (Ty.int IntKind.u8).sl.sl] [RK.own (5 : TypeId) (Ty.int IntKind.u8)] (4000000 : Nat) (x3, ())).bind fun r4 =>
      some ((r4.fst.fst, ()), ()) := by kernel_rfl
noncomputable def F37c3 (n : Nat) (x0 : List (Int)) (x1 : Int) (x2 : List (Run)) := F37.at [.v (.sl (.int .i64))] [.own 82 (.nm 1)] n 3 ⟨[.one (.data (.sl (.int .i64)) x0 []), U, U, .one (.own 0), .one (.int .i64 x1), U, U, U, U, U, U, U, U, U, U, U, U, U, U, U, U, U, U, U, U, U, U, U, U, U, U, U, U, U, U, U, U, U, U, U, U, U, U, U, U, U, U], [(0, .row 82 (.nm 1) x2 [] false)]⟩
noncomputable def F37c4 (n : Nat) (x0 : List (Int)) (x1 : Int) (x2 : List (Run)) := F37.at [.v (.sl (.int .i64))] [.own 82 (.nm 1)] n 4 ⟨[.one (.data (.sl (.int .i64)) x0 []), U, U, .one (.own 0), .one (.int .i64 x1), U, U, U, U, U, U, U, U, U, U, U, U, U, U, U, U, U, U, U, U, U, U, U, U, U, U, U, U, U, U, U, U, U, U, U, U, U, U, U, U, U, U], [(0, .row 82 (.nm 1) x2 [] false)]⟩
theorem F37_run (n : Nat) (a0 : List (Int)) : F37.run [.v (.sl (.int .i64))] [.own 82 (.nm 1)] n (a0, ()) =
  F37c3 n (a0) ((0 : Int)) ([]) := by kernel_rfl
theorem F37c3_eq (n : Nat) (x0 : List (Int)) (x1 : Int) (x2 : List (Run)) : F37c3 (n + 1) x0 x1 x2 =
  bif decide (x1 < (↑x0.length : Int)) then
    bif decide ((0 : Int) < (↑x2.length : Int)) then
      if (0 : Int) ≤ IntKind.i64.wrap ((↑x2.length : Int) - (1 : Int)) then
        if IntKind.i64.wrap ((↑x2.length : Int) - (1 : Int)) < (↑x2.length : Int) then
          if (0 : Int) ≤ x1 then
            if x1 < (↑x0.length : Int) then
              bif decide ((x2.getD (IntKind.i64.wrap ((↑x2.length : Int) - (1 : Int))).toNat { value := (0 : Int), count := (0 : Int) : Run }).value = x0.getD x1.toNat (0 : Int)) then
                if (0 : Int) ≤ IntKind.i64.wrap ((↑x2.length : Int) - (1 : Int)) then
                  if IntKind.i64.wrap ((↑x2.length : Int) - (1 : Int)) < (↑x2.length : Int) then
                    if (0 : Int) ≤ IntKind.i64.wrap ((↑x2.length : Int) - (1 : Int)) then
                      if IntKind.i64.wrap ((↑x2.length : Int) - (1 : Int)) < (↑x2.length : Int) then
                        F37c4 n (x0) (x1) (x2.set (IntKind.i64.wrap ((↑x2.length : Int) - (1 : Int))).toNat { value := (x2.getD (IntKind.i64.wrap ((↑x2.length : Int) - (1 : Int))).toNat { value := (0 : Int), count := (0 : Int) : Run }).value, count := IntKind.i64.wrap ((x2.getD (IntKind.i64.wrap ((↑x2.length : Int) - (1 : Int))).toNat { value := (0 : Int), count := (0 : Int) : Run }).count + (1 : Int)) : Run })
                      else
                        none
                    else
                      none
                  else
                    none
                else
                  none
              else
                if (0 : Int) ≤ x1 then
                  if x1 < (↑x0.length : Int) then
                    if x2.length + (1 : Nat) ≤ lim then
                      F37c4 n (x0) (x1) (x2 ++ [{ value := x0.getD x1.toNat (0 : Int), count := (1 : Int) : Run }])
                    else
                      none
                  else
                    none
                else
                  none
            else
              none
          else
            none
        else
          none
      else
        none
    else
      if (0 : Int) ≤ x1 then
        if x1 < (↑x0.length : Int) then
          if x2.length + (1 : Nat) ≤ lim then
            F37c4 n (x0) (x1) (x2 ++ [{ value := x0.getD x1.toNat (0 : Int), count := (1 : Int) : Run }])
          else
            none
        else
          none
      else
        none
  else
    some ((x2, ()), ()) := by kernel_rfl
theorem F37c4_eq (n : Nat) (x0 : List (Int)) (x1 : Int) (x2 : List (Run)) : F37c4 (n + 1) x0 x1 x2 =
  F37c3 n (x0) (IntKind.i64.wrap (x1 + (1 : Int))) (x2) := by kernel_rfl
theorem F52_run (n : Nat) (a0 : Int) (a1 : Int) : F52.run [.v (.int .i64), .v (.int .i64)] [.v .bool] n (a0, a1, ()) =
  bif decide ((0 : Int) ≤ a0) then
    bif decide (a0 ≤ (1048576 : Int)) then
      bif decide ((0 : Int) ≤ a1) then
        some ((decide (a1 ≤ (64 : Int)), ()), ())
      else
        some ((false, ()), ())
    else
      some ((false, ()), ())
  else
    some ((false, ()), ()) := by kernel_rfl
theorem F53_run (n : Nat) (a0 : Int) (a1 : Int) : F53.run [.v (.int .i64), .v (.int .i64)] [.v (.int .i64)] n (a0, a1, ()) =
  (F52.run [PK.v (Ty.int IntKind.i64), PK.v (Ty.int IntKind.i64)] [RK.v Ty.bool] (4000000 : Nat) (a0, a1, ())).bind fun r0 =>
    bif !r0.fst.fst then
      some (((0 : Int), ()), ())
    else
      some ((IntKind.i64.wrap ((IntKind.i64.wrap (IntKind.i64.wrap (a0 * a1) + (7 : Int))).tdiv (8 : Int)), ()), ()) := by kernel_rfl
noncomputable def F34c5 (n : Nat) (x0 : List (Int)) (x1 : Int) (x2 : Int) (x3 : List (Int)) := F34.at [.v (.sl (.int .u64)), .v (.int .i64)] [.own 5 (.int .u8)] n 5 ⟨[.one (.data (.sl (.int .u64)) x0 []), .one (.int .i64 x1), U, U, U, .one (.own 0), .one (.int .i64 x2), U, U, U, U, U, U, U, U, U, U, U, U, U, U, U, U, U, U, U, U, U, U, U, U, U, U, U, U, U, U, U, U, U, U, U, U, U, U, U, U, U, U, U, U, U, U, U, U, U, U, U], [(0, .row 5 (.int .u8) x3 [] false)]⟩
noncomputable def F34c8 (n : Nat) (x0 : List (Int)) (x1 : Int) (x2 : Int) (x3 : Int) (x4 : List (Int)) := F34.at [.v (.sl (.int .u64)), .v (.int .i64)] [.own 5 (.int .u8)] n 8 ⟨[.one (.data (.sl (.int .u64)) x0 []), .one (.int .i64 x1), U, U, U, .one (.own 0), .one (.int .i64 x2), .one (.int .i64 x3), U, U, U, U, U, U, U, U, U, U, U, U, U, U, U, U, U, U, U, U, U, U, U, U, U, U, U, U, U, U, U, U, U, U, U, U, U, U, U, U, U, U, U, U, U, U, U, U, U, U], [(0, .row 5 (.int .u8) x4 [] false)]⟩
theorem F34_run (n : Nat) (a0 : List (Int)) (a1 : Int) : F34.run [.v (.sl (.int .u64)), .v (.int .i64)] [.own 5 (.int .u8)] n (a0, a1, ()) =
  (F52.run [PK.v (Ty.int IntKind.i64), PK.v (Ty.int IntKind.i64)] [RK.v Ty.bool] (4000000 : Nat) ((↑a0.length : Int), a1, ())).bind fun r0 =>
    bif !r0.fst.fst then
      none
    else
      (F53.run [PK.v (Ty.int IntKind.i64), PK.v (Ty.int IntKind.i64)] [RK.v (Ty.int IntKind.i64)] (4000000 : Nat) ((↑a0.length : Int), a1, ())).bind fun r1 =>
        if (0 : Int) ≤ r1.fst.fst then
          if r1.fst.fst ≤ (↑lim : Int) then
            F34c5 n (a0) (a1) ((0 : Int)) (List.replicate (Int.toNat r1.fst.fst) (0 : Int))
          else
            none
        else
          none := by kernel_rfl
theorem F34c5_eq (n : Nat) (x0 : List (Int)) (x1 : Int) (x2 : Int) (x3 : List (Int)) : F34c5 (n + 1) x0 x1 x2 x3 =
  bif decide (x2 < (↑x0.length : Int)) then
    F34c8 n (x0) (x1) (x2) ((0 : Int)) (x3)
  else
    some ((x3, ()), ()) := by kernel_rfl
theorem F34c8_eq (n : Nat) (x0 : List (Int)) (x1 : Int) (x2 : Int) (x3 : Int) (x4 : List (Int)) : F34c8 (n + 1) x0 x1 x2 x3 x4 =
  bif decide (x3 < x1) then
    if (0 : Int) ≤ IntKind.i64.wrap ((IntKind.i64.wrap (IntKind.i64.wrap (x2 * x1) + x3)).tdiv (8 : Int)) then
      if IntKind.i64.wrap ((IntKind.i64.wrap (IntKind.i64.wrap (x2 * x1) + x3)).tdiv (8 : Int)) < (↑x4.length : Int) then
        if (0 : Int) ≤ x2 then
          if x2 < (↑x0.length : Int) then
            if (0 : Int) ≤ IntKind.u64.wrap x3 then
              if (0 : Int) ≤ IntKind.u64.wrap ((IntKind.i64.wrap (IntKind.i64.wrap (x2 * x1) + x3)).tmod (8 : Int)) then
                if (0 : Int) ≤ IntKind.i64.wrap ((IntKind.i64.wrap (IntKind.i64.wrap (x2 * x1) + x3)).tdiv (8 : Int)) then
                  if IntKind.i64.wrap ((IntKind.i64.wrap (IntKind.i64.wrap (x2 * x1) + x3)).tdiv (8 : Int)) < (↑x4.length : Int) then
                    F34c8 n (x0) (x1) (x2) (IntKind.i64.wrap (x3 + (1 : Int))) (x4.set (IntKind.i64.wrap ((IntKind.i64.wrap (IntKind.i64.wrap (x2 * x1) + x3)).tdiv (8 : Int))).toNat (bits BinOp.or IntKind.u8 (x4.getD (IntKind.i64.wrap ((IntKind.i64.wrap (IntKind.i64.wrap (x2 * x1) + x3)).tdiv (8 : Int))).toNat (0 : Int)) (IntKind.u8.wrap (IntKind.u8.wrap (bits BinOp.and IntKind.u64 (x0.getD x2.toNat (0 : Int) / (2 : Int) ^ min (IntKind.u64.wrap x3).toNat IntKind.u64.bits) (1 : Int)) * (2 : Int) ^ min (IntKind.u64.wrap ((IntKind.i64.wrap (IntKind.i64.wrap (x2 * x1) + x3)).tmod (8 : Int))).toNat IntKind.u8.bits))))
                  else
                    none
                else
                  none
              else
                none
            else
              none
          else
            none
        else
          none
      else
        none
    else
      none
  else
    F34c5 n (x0) (x1) (IntKind.i64.wrap (x2 + (1 : Int))) (x4) := by kernel_rfl
noncomputable def F54c2 (n : Nat) (x0 : Int) (x1 : Int) := F54.at [.v (.int .u64)] [.v (.int .i64)] n 2 ⟨[.one (.int .u64 x0), U, U, .one (.int .i64 x1), U, U, U, U, U, U, U], []⟩
theorem F54_run (n : Nat) (a0 : Int) : F54.run [.v (.int .u64)] [.v (.int .i64)] n (a0, ()) =
  F54c2 n (a0) ((0 : Int)) := by kernel_rfl
theorem F54c2_eq (n : Nat) (x0 : Int) (x1 : Int) : F54c2 (n + 1) x0 x1 =
  bif decide ((0 : Int) < x0) then
    F54c2 n (IntKind.u64.wrap (x0.tdiv (2 : Int))) (IntKind.i64.wrap (x1 + (1 : Int)))
  else
    some ((x1, ()), ()) := by kernel_rfl
theorem F35_run (n : Nat) (a0 : Int) : F35.run [.v (.int .i64)] [.v (.int .i64)] n (a0, ()) =
  bif decide (a0 = (0 : Int)) then
    some (((0 : Int), ()), ())
  else
    (F54.run [PK.v (Ty.int IntKind.u64)] [RK.v (Ty.int IntKind.i64)] (4000000 : Nat) (IntKind.u64.wrap (IntKind.i64.wrap (a0 - (1 : Int))), ())).bind fun r0 =>
      some ((r0.fst.fst, ()), ()) := by kernel_rfl
theorem F33_run (n : Nat) (a0 : List Int) : F33.run [.v .str] [.own 5 (.int .u8)] n (a0, ()) =
  (F32.run [PK.v (Ty.int IntKind.u64)] [RK.own (5 : TypeId) (Ty.int IntKind.u8)] (4000000 : Nat) (IntKind.u64.wrap (↑a0.length : Int), ())).bind fun r0 =>
    (F38.run [PK.v (Ty.int IntKind.u8).sl.sl] [RK.own (5 : TypeId) (Ty.int IntKind.u8)] (4000000 : Nat) ([r0.fst.fst, a0], ())).bind fun r1 =>
      some ((r1.fst.fst, ()), ()) := by kernel_rfl
noncomputable def F21c4 (n : Nat) (x0 : Int) (x1 : List (List Int)) (x2 : List (Int)) (x3 : List (List (Int))) := F21.at [.v (.sl .str)] [.own 5 (.int .u8)] n 4 ⟨[U, U, U, .one (.own 0), .one (.own 1), .one (.own 2), .one (.int .i64 x0), U, U, U, U, U, U, U, U, U, U, U, U, U, U, U, U, U, U, U, U, U, U, U, U, U, U, U, U, U, U, U, U, U, U, U, U, U, U, U, U, U, U, U, U, U, U, U, U, U, U, U, U, U, U, U, U, U, U, U, U, U, U, U, U, U, U, U, U, U, U, U, U, U, U, U, U, U, U, U, U, U], [(0, .row 9 .str x1 [] false), (1, .row 3 (.int .i64) x2 [] false), (2, .row 40 (.sl (.int .u8)) x3 [] false)]⟩
noncomputable def F21c10 (n : Nat) (x0 : Int) (x1 : List (List Int)) (x2 : List (Int)) (x3 : List (List (Int))) (x4 : List (Int)) (x5 : List (Int)) := F21.at [.v (.sl .str)] [.own 5 (.int .u8)] n 10 ⟨[U, U, U, .one (.own 0), .one (.own 1), .one (.own 2), U, .one (.own 3), .one (.own 4), .one (.int .i64 x0), U, U, U, U, U, U, U, U, U, U, U, U, U, U, U, U, U, U, U, U, U, U, U, U, U, U, U, U, U, U, U, U, U, U, U, U, U, U, U, U, U, U, U, U, U, U, U, U, U, U, U, U, U, U, U, U, U, U, U, U, U, U, U, U, U, U, U, U, U, U, U, U, U, U, U, U, U, U], [(0, .row 9 .str x1 [] false), (1, .row 3 (.int .i64) x2 [] false), (2, .row 40 (.sl (.int .u8)) x3 [] false), (3, .row 58 (.int .u64) x4 [] false), (4, .row 2 (.int .i64) x5 [] false)]⟩
theorem F21_run (n : Nat) (a0 : List (List Int)) : F21.run [.v (.sl .str)] [.own 5 (.int .u8)] n (a0, ()) =
  (F11.run [PK.v Ty.str.sl] [RK.own (9 : TypeId) Ty.str, RK.own (3 : TypeId) (Ty.int IntKind.i64)] (4000000 : Nat) (a0, ())).bind fun r0 =>
    (F32.run [PK.v (Ty.int IntKind.u64)] [RK.own (5 : TypeId) (Ty.int IntKind.u8)] (4000000 : Nat) (IntKind.u64.wrap (↑(List.length r0.fst.fst) : Int), ())).bind fun r1 =>
      F21c4 n ((0 : Int)) (r0.fst.fst) (r0.fst.snd.fst) ([r1.fst.fst]) := by kernel_rfl
theorem F21c4_eq (n : Nat) (x0 : Int) (x1 : List (List Int)) (x2 : List (Int)) (x3 : List (List (Int))) : F21c4 (n + 1) x0 x1 x2 x3 =
  bif decide (x0 < (↑x1.length : Int)) then
    if (0 : Int) ≤ x0 then
      if x0 < (↑x1.length : Int) then
        (F33.run [PK.v Ty.str] [RK.own (5 : TypeId) (Ty.int IntKind.u8)] (4000000 : Nat) (x1.getD x0.toNat [], ())).bind fun r2 =>
          if x3.length + (1 : Nat) ≤ lim then
            F21c4 n (IntKind.i64.wrap (x0 + (1 : Int))) (x1) (x2) (x3 ++ [r2.fst.fst])
          else
            none
      else
        none
    else
      none
  else
    F21c10 n ((0 : Int)) (x1) (x2) (x3) ([]) ([]) := by kernel_rfl
theorem F21c10_eq (n : Nat) (x0 : Int) (x1 : List (List Int)) (x2 : List (Int)) (x3 : List (List (Int))) (x4 : List (Int)) (x5 : List (Int)) : F21c10 (n + 1) x0 x1 x2 x3 x4 x5 =
  bif decide (x0 < (↑x2.length : Int)) then
    if (0 : Int) ≤ x0 then
      if x0 < (↑x2.length : Int) then
        if x4.length + (1 : Nat) ≤ lim then
          if (0 : Int) ≤ x0 then
            if x0 < (↑x2.length : Int) then
              if x5.length + (1 : Nat) ≤ lim then
                F21c10 n (IntKind.i64.wrap (x0 + (1 : Int))) (x1) (x2) (x3) (x4 ++ [IntKind.u64.wrap (x2.getD x0.toNat (0 : Int))]) (x5 ++ [x2.getD x0.toNat (0 : Int)])
              else
                none
            else
              none
          else
            none
        else
          none
      else
        none
    else
      none
  else
    (F35.run [PK.v (Ty.int IntKind.i64)] [RK.v (Ty.int IntKind.i64)] (4000000 : Nat) ((↑x1.length : Int), ())).bind fun r3 =>
      (F34.run [PK.v (Ty.int IntKind.u64).sl, PK.v (Ty.int IntKind.i64)] [RK.own (5 : TypeId) (Ty.int IntKind.u8)] (4000000 : Nat) (x4, r3.fst.fst, ())).bind fun r4 =>
        (F37.run [PK.v (Ty.int IntKind.i64).sl] [RK.own (82 : TypeId) (Ty.nm (1 : Nat))] (4000000 : Nat) (x5, ())).bind fun r5 =>
          (F36.run [PK.v (Ty.nm (1 : Nat)).sl] [RK.own (5 : TypeId) (Ty.int IntKind.u8)] (4000000 : Nat) (r5.fst.fst, ())).bind fun r6 =>
            bif decide ((↑(List.length r6.fst.fst) : Int) < (↑(List.length r4.fst.fst) : Int)) then
              if x3.length + (1 : Nat) ≤ lim then
                if (x3 ++ [[(1 : Int)]]).length + (1 : Nat) ≤ lim then
                  (F38.run [PK.v (Ty.int IntKind.u8).sl.sl] [RK.own (5 : TypeId) (Ty.int IntKind.u8)] (4000000 : Nat) (x3 ++ [[(1 : Int)]] ++ [r6.fst.fst], ())).bind fun r7 =>
                    some ((r7.fst.fst, ()), ())
                else
                  none
              else
                none
            else
              if x3.length + (1 : Nat) ≤ lim then
                if (x3 ++ [[(0 : Int)]]).length + (1 : Nat) ≤ lim then
                  (F38.run [PK.v (Ty.int IntKind.u8).sl.sl] [RK.own (5 : TypeId) (Ty.int IntKind.u8)] (4000000 : Nat) (x3 ++ [[(0 : Int)]] ++ [r4.fst.fst], ())).bind fun r8 =>
                    some ((r8.fst.fst, ()), ())
                else
                  none
              else
                none := by kernel_rfl
theorem F5_run (n : Nat) (a0 : List (List Int)) : F5.run [.v (.sl .str)] [.v .bool] n (a0, ()) =
  (F8.run [PK.v Ty.str.sl] [RK.v Ty.bool] (4000000 : Nat) (a0, ())).bind fun r0 =>
    bif !r0.fst.fst then
      (F9.run [] [RK.v Ty.bool] (4000000 : Nat) ()).bind fun r1 =>
        some ((r1.fst.fst, ()), ())
    else
      (F21.run [PK.v Ty.str.sl] [RK.own (5 : TypeId) (Ty.int IntKind.u8)] (4000000 : Nat) (a0, ())).bind fun r2 =>
        (F22.run [PK.v Ty.str.sl] [RK.own (5 : TypeId) (Ty.int IntKind.u8)] (4000000 : Nat) (a0, ())).bind fun r3 =>
          bif decide (List.map Eng.byteOf r3.fst.fst = List.map Eng.byteOf r2.fst.fst) then
            (F23.run [PK.v Ty.str.sl] [RK.v (Ty.int IntKind.i64)] (4000000 : Nat) (a0, ())).bind fun r4 =>
              bif decide (r4.fst.fst = (↑(List.length r2.fst.fst) : Int)) then
                (F9.run [] [RK.v Ty.bool] (4000000 : Nat) ()).bind fun r5 =>
                  some ((r5.fst.fst, ()), ())
              else
                some ((false, ()), ())
          else
            some ((false, ()), ()) := by kernel_rfl
end Go.Proofs.Try
