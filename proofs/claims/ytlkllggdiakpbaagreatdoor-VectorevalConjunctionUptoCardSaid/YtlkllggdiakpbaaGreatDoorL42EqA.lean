/- The functions of the program as the engine follows them (printed by a program of ours): their code, what is known of them, and the equations of their runs. -/
import Derived.Test.YtlkllggdiakpbaaGreatDoorL42Fns
set_option linter.unusedVariables false
set_option maxRecDepth 20000
namespace Go.Proofs.Tryz
open Go.Eng
theorem F117_run (n : Nat) (a0 : Bool) (a1 : Bool) : F117.run [.v (.bool), .v (.bool)] [.v (.int .i64)] n (a0, a1, ()) =
 bif a0 then
  some (((-1 : Int), ()), ())
 else
  bif a1 then
   some (((1 : Int), ()), ())
  else
   some (((0 : Int), ()), ()) := by kernel_rfl
noncomputable def F81c8 (n : Nat) (x0 : Val) (x1 : Val) := F81.at [.v (.nm 0), .v (.nm 0)] [.v (.int .i64)] n 8 ⟨[U, U, .one (.bptr 0 0), .one (.bptr 1 0), U, U, U, U, U, U, U, U, U, U, U, U, U, U, U, U, U, U, U, U, U, U, U, U, U, U, U, U, U, U, U, U, U, U, U, U], [(0, .whole (.nm 0) x0 []), (1, .whole (.nm 0) x1 [])]⟩
theorem F81_run (n : Nat) (a0 : Val) (a1 : Val) : F81.run [.v (.nm 0), .v (.nm 0)] [.v (.int .i64)] n (a0, a1, ()) =
 bif !decide (a0.kind = a1.kind) then
  (F117.run [PK.v Ty.bool, PK.v Ty.bool] [RK.v (Ty.int .i64)] 4000000 (decide (a0.kind < a1.kind), true, ())).bind fun r0 =>
   some ((r0.fst.fst, ()), ())
 else
  bif decide (a0.kind = (3 : Int)) then
   (F118.run [PK.v Ty.str, PK.v Ty.str] [RK.v (Ty.int .i64)] 4000000 (a0.text, a1.text, ())).bind fun r1 =>
    some ((r1.fst.fst, ()), ())
  else
   bif decide (a0.kind = (1 : Int)) then
    F81c8 n (a0) (a1)
   else
    bif decide (a0.kind = (2 : Int)) then
     F81c8 n (a0) (a1)
    else
     some (((0 : Int), ()), ()) := by kernel_rfl
theorem F81c8_eq (n x0 x1 : _) : F81c8 (n + 1) x0 x1 =
 (F117.run [PK.v Ty.bool, PK.v Ty.bool] [RK.v (Ty.int .i64)] 4000000 (decide (x0.int < x1.int), decide (x1.int < x0.int), ())).bind fun r2 =>
  some ((r2.fst.fst, ()), ()) := by kernel_rfl
noncomputable def F40c3 (n : Nat) (x0 : Int) (x1 : Vec) (x2 : Val) := F40.at [.v (.nm 3), .v (.int .i64)] [.v (.nm 0)] n 3 ⟨[U, .one (.int .i64 x0), .one (.bptr 0 0), U, .one (.bptr 1 0), U, U, U, U, U, U, U, U, U, U, U, U, U, U, U, U, U, U, U, U, U, U, U, U, U, U, U, U, U, U, U, U, U, U], [(0, .whole (.nm 3) x1 []), (1, .whole (.nm 0) x2 [])]⟩
theorem F40_run (n : Nat) (a0 : Vec) (a1 : Int) : F40.run [.v (.nm 3), .v (.int .i64)] [.v (.nm 0)] n (a0, a1, ()) =
 bif decide (a1 < (0 : Int)) then
  some ((zVal, ()), ())
 else
  bif decide ((↑a0.nulls.length : Int) ≤ a1) then
   some ((zVal, ()), ())
  else
   if (0 : Int) ≤ a1 then
    if a1 < (↑a0.nulls.length : Int) then
     bif a0.nulls.getD a1.toNat false then
      some ((zVal, ()), ())
     else
      F40c3 n (a1) (a0) (zVal)
    else
     none
   else
    none := by kernel_rfl
theorem F40c3_eq (n x0 x1 x2 : _) : F40c3 (n + 1) x0 x1 x2 =
 bif decide (x1.f_Type = (3 : Int)) then
  if (0 : Int) ≤ x0 then
   if x0 < (↑x1.texts.length : Int) then
    some (({ kind := (3 : Int), int := (0 : Int), text := x1.texts.getD x0.toNat [] : Val }, ()), ())
   else
    none
  else
   none
 else
  if (0 : Int) ≤ x0 then
   if x0 < (↑x1.ints.length : Int) then
    some (({ kind := x1.f_Type, int := x1.ints.getD x0.toNat (0 : Int), text := [] : Val }, ()), ())
   else
    none
  else
   none := by kernel_rfl
noncomputable def F87c1 (n : Nat) (x0 : Int) (x1 : Val) (x2 : Int) (x3 : List (Int)) (x4 : List (List Int)) (x5 : List (Bool)) (x6 : List (Int)) (x7 : List (List Int)) (x8 : List (Bool)) := F87.at [.ag 3 AGV, .v (.nm 0)] [.ag 3 AGV] n 1 ⟨[U, U, .one (.bptr 0 0), .one (.bptr 1 0), .one (.bptr 2 0), U, U, U, U, U, U, U, U, U, U, U, U, U, U, U, U, U, U, U, U, U, U, U, U, U, U, U, U, U, U], [(0, .cells [.int .i64 x0, .own 3, .own 4, .own 5]), (1, .whole (.nm 0) x1 []), (2, .cells [.int .i64 x2, .own 6, .own 7, .own 8]), (3, .row 2 (.int .i64) x3 [] false), (4, .row 9 .str x4 [] false), (5, .row 4 .bool x5 [] false), (6, .row 2 (.int .i64) x6 [] false), (7, .row 9 .str x7 [] false), (8, .row 4 .bool x8 [] false)]⟩
noncomputable def F87c8 (n : Nat) (x0 : Int) (x1 : Int) (x2 : List (Int)) (x3 : List (List Int)) (x4 : List (Bool)) (x5 : List (Int)) (x6 : List (List Int)) (x7 : List (Bool)) := F87.at [.ag 3 AGV, .v (.nm 0)] [.ag 3 AGV] n 8 ⟨[U, U, .one (.bptr 0 0), U, .one (.bptr 1 0), U, U, U, U, U, U, U, U, U, U, U, U, U, U, U, U, U, U, U, U, U, U, U, U, U, U, U, U, U, U], [(0, .cells [.int .i64 x0, .own 2, .own 3, .own 4]), (1, .cells [.int .i64 x1, .own 5, .own 6, .own 7]), (2, .row 2 (.int .i64) x2 [] false), (3, .row 9 .str x3 [] false), (4, .row 4 .bool x4 [] false), (5, .row 2 (.int .i64) x5 [] false), (6, .row 9 .str x6 [] false), (7, .row 4 .bool x7 [] false)]⟩
theorem F87_run (n : Nat) (a0 : Int × List (Int) × List (List Int) × List (Bool) × Unit) (a1 : Val) : F87.run [.ag 3 AGV, .v (.nm 0)] [.ag 3 AGV] n (a0, a1, ()) =
 F87c1 n (a0.fst) (a1) ((0 : Int)) (a0.snd.fst) (a0.snd.snd.fst) (a0.snd.snd.snd.fst) ([]) ([]) ([]) := by kernel_rfl
theorem F87c1_eq (n x0 x1 x2 x3 x4 x5 x6 x7 x8 : _) : F87c1 (n + 1) x0 x1 x2 x3 x4 x5 x6 x7 x8 =
 if x5.length + (1 : Nat) ≤ lim then
  bif decide (x0 = (1 : Int)) then
   bif decide (x0 = (1 : Int)) then
    if x3.length + (1 : Nat) ≤ lim then
     F87c8 n (x0) (x2) (x3 ++ [x1.int]) (x4) (x5 ++ [decide (x1.kind = (0 : Int))]) (x6) (x7) (x8)
    else
     none
   else
    bif decide (x0 = (3 : Int)) then
     if x4.length + (1 : Nat) ≤ lim then
      F87c8 n (x0) (x2) (x3) (x4 ++ [x1.text]) (x5 ++ [decide (x1.kind = (0 : Int))]) (x6) (x7) (x8)
     else
      none
    else
     F87c8 n (x0) (x2) (x3) (x4) (x5 ++ [decide (x1.kind = (0 : Int))]) (x6) (x7) (x8)
  else
   bif decide (x0 = (2 : Int)) then
    if x3.length + (1 : Nat) ≤ lim then
     F87c8 n (x0) (x2) (x3 ++ [x1.int]) (x4) (x5 ++ [decide (x1.kind = (0 : Int))]) (x6) (x7) (x8)
    else
     none
   else
    bif decide (x0 = (3 : Int)) then
     if x4.length + (1 : Nat) ≤ lim then
      F87c8 n (x0) (x2) (x3) (x4 ++ [x1.text]) (x5 ++ [decide (x1.kind = (0 : Int))]) (x6) (x7) (x8)
     else
      none
    else
     F87c8 n (x0) (x2) (x3) (x4) (x5 ++ [decide (x1.kind = (0 : Int))]) (x6) (x7) (x8)
 else
  none := by kernel_rfl
theorem F87c8_eq (n x0 x1 x2 x3 x4 x5 x6 x7 : _) : F87c8 (n + 1) x0 x1 x2 x3 x4 x5 x6 x7 =
 some (((x0, (x2, (x3, (x4, ())))), ()), ()) := by kernel_rfl
theorem F86_run (n : Nat) (a0 : Val) (a1 : Int) : F86.run [.v (.nm 0), .v (.int .i64)] [.v (.bool)] n (a0, a1, ()) =
 bif decide (a0.kind = (0 : Int)) then
  some ((true, ()), ())
 else
  some ((decide (a0.kind = a1), ()), ()) := by kernel_rfl
theorem F85_run (n : Nat) (a0 : Int) : F85.run [.v (.int .i64)] [.v (.bool)] n (a0, ()) =
 bif decide ((0 : Int) ≤ a0) then
  some ((decide (a0 ≤ (3 : Int)), ()), ())
 else
  some ((false, ()), ()) := by kernel_rfl
noncomputable def F51c1 (n : Nat) (x0 : Int) (x1 : Int) (x2 : Val) (x3 : Int) (x4 : List (Int)) (x5 : List (List Int)) (x6 : List (Bool)) := F51.at [.v (.int .i64), .v (.nm 0), .v (.int .i64)] [.ag 3 AGV] n 1 ⟨[.one (.int .i64 x0), U, .one (.int .i64 x1), U, .one (.bptr 0 0), U, .one (.bptr 1 0), U, U, U, U, U, U, U, U, U, U, U, U, U, U, U, U, U, U, U, U], [(0, .whole (.nm 0) x2 []), (1, .cells [.int .i64 x3, .own 2, .own 3, .own 4]), (2, .row 2 (.int .i64) x4 [] false), (3, .row 9 .str x5 [] false), (4, .row 4 .bool x6 [] false)]⟩
noncomputable def F51c3 (n : Nat) (x0 : Int) (x1 : Int) (x2 : Val) (x3 : Int) (x4 : List (Int)) (x5 : List (List Int)) (x6 : List (Bool)) := F51.at [.v (.int .i64), .v (.nm 0), .v (.int .i64)] [.ag 3 AGV] n 3 ⟨[.one (.int .i64 x0), U, .one (.int .i64 x1), U, .one (.bptr 0 0), U, .one (.bptr 1 0), U, U, U, U, U, U, U, U, U, U, U, U, U, U, U, U, U, U, U, U], [(0, .whole (.nm 0) x2 []), (1, .cells [.int .i64 x3, .own 2, .own 3, .own 4]), (2, .row 2 (.int .i64) x4 [] false), (3, .row 9 .str x5 [] false), (4, .row 4 .bool x6 [] false)]⟩
noncomputable def F51c5 (n : Nat) (x0 : Int) (x1 : Int) (x2 : Val) (x3 : Int) (x4 : List (Int)) (x5 : List (List Int)) (x6 : List (Bool)) := F51.at [.v (.int .i64), .v (.nm 0), .v (.int .i64)] [.ag 3 AGV] n 5 ⟨[.one (.int .i64 x0), U, .one (.int .i64 x1), U, .one (.bptr 0 0), U, .one (.bptr 1 0), U, U, U, U, U, U, U, U, U, U, U, U, U, U, U, U, U, U, U, U], [(0, .whole (.nm 0) x2 []), (1, .cells [.int .i64 x3, .own 2, .own 3, .own 4]), (2, .row 2 (.int .i64) x4 [] false), (3, .row 9 .str x5 [] false), (4, .row 4 .bool x6 [] false)]⟩
noncomputable def F51c7 (n : Nat) (x0 : Int) (x1 : Int) (x2 : Val) (x3 : Int) (x4 : Int) (x5 : List (Int)) (x6 : List (List Int)) (x7 : List (Bool)) (x8 : List (Int)) (x9 : List (List Int)) (x10 : List (Bool)) := F51.at [.v (.int .i64), .v (.nm 0), .v (.int .i64)] [.ag 3 AGV] n 7 ⟨[U, U, U, U, .one (.bptr 0 0), U, .one (.bptr 1 0), .one (.bptr 2 0), U, U, U, U, U, U, U, U, U, U, U, .one (.int .i64 x0), .one (.int .i64 x1), U, U, U, U, U, U], [(0, .whole (.nm 0) x2 []), (1, .cells [.int .i64 x3, .own 3, .own 4, .own 5]), (2, .cells [.int .i64 x4, .own 6, .own 7, .own 8]), (3, .row 2 (.int .i64) x5 [] false), (4, .row 9 .str x6 [] false), (5, .row 4 .bool x7 [] false), (6, .row 2 (.int .i64) x8 [] false), (7, .row 9 .str x9 [] false), (8, .row 4 .bool x10 [] false)]⟩
theorem F51_run (n : Nat) (a0 : Int) (a1 : Val) (a2 : Int) : F51.run [.v (.int .i64), .v (.nm 0), .v (.int .i64)] [.ag 3 AGV] n (a0, a1, a2, ()) =
 F51c1 n (a0) (a2) (a1) ((0 : Int)) ([]) ([]) ([]) := by kernel_rfl
theorem F51c1_eq (n x0 x1 x2 x3 x4 x5 x6 : _) : F51c1 (n + 1) x0 x1 x2 x3 x4 x5 x6 =
 (F85.run [PK.v (Ty.int .i64)] [RK.v Ty.bool] 4000000 (x0, ())).bind fun r0 =>
  bif !r0.fst.fst then
   F51c3 n ((0 : Int)) (x1) (x2) (x3) (x4) (x5) (x6)
  else
   F51c3 n (x0) (x1) (x2) (x3) (x4) (x5) (x6) := by kernel_rfl
theorem F51c3_eq (n x0 x1 x2 x3 x4 x5 x6 : _) : F51c3 (n + 1) x0 x1 x2 x3 x4 x5 x6 =
 (F86.run [PK.v (Ty.nm 0), PK.v (Ty.int .i64)] [RK.v Ty.bool] 4000000 (x2, x0, ())).bind fun r1 =>
  bif !r1.fst.fst then
   F51c5 n (x0) (x1) (zVal) (x3) (x4) (x5) (x6)
  else
   F51c5 n (x0) (x1) (x2) (x3) (x4) (x5) (x6) := by kernel_rfl
theorem F51c5_eq (n x0 x1 x2 x3 x4 x5 x6 : _) : F51c5 (n + 1) x0 x1 x2 x3 x4 x5 x6 =
 F51c7 n (imax (0 : Int) x1) ((0 : Int)) (x2) (x3) (x0) (x4) (x5) (x6) ([]) ([]) ([]) := by kernel_rfl
theorem F51c7_eq (n x0 x1 x2 x3 x4 x5 x6 x7 x8 x9 x10 : _) : F51c7 (n + 1) x0 x1 x2 x3 x4 x5 x6 x7 x8 x9 x10 =
 bif decide (x1 < x0) then
  (F87.run [PK.ag 3 AGV, PK.v (Ty.nm 0)] [RK.ag 3 AGV] 4000000 ((x4, x8, x9, x10, ()), x2, ())).bind fun r2 =>
   F51c7 n (x0) (IntKind.i64.wrap (x1 + (1 : Int))) (x2) (x3) (r2.fst.fst.fst) (x5) (x6) (x7) (r2.fst.fst.snd.fst) (r2.fst.fst.snd.snd.fst) (r2.fst.fst.snd.snd.snd.fst)
 else
  some (((x4, (x8, (x9, (x10, ())))), ()), ()) := by kernel_rfl
noncomputable def F62c1 (n : Nat) (x0 : Int) (x1 : Int) (x2 : Int) (x3 : List (Int)) (x4 : List (List Int)) (x5 : List (Bool)) := F62.at [.v (.int .i64), .v (.int .i64)] [.ag 3 AGV] n 1 ⟨[.one (.int .i64 x0), .one (.int .i64 x1), U, U, .one (.bptr 0 0), U, U, U, U], [(0, .cells [.int .i64 x2, .own 1, .own 2, .own 3]), (1, .row 2 (.int .i64) x3 [] false), (2, .row 9 .str x4 [] false), (3, .row 4 .bool x5 [] false)]⟩
theorem F62_run (n : Nat) (a0 : Int) (a1 : Int) : F62.run [.v (.int .i64), .v (.int .i64)] [.ag 3 AGV] n (a0, a1, ()) =
 F62c1 n (a0) (a1) ((0 : Int)) ([]) ([]) ([]) := by kernel_rfl
theorem F62c1_eq (n x0 x1 x2 x3 x4 x5 : _) : F62c1 (n + 1) x0 x1 x2 x3 x4 x5 =
 (F51.run [PK.v (Ty.int .i64), PK.v (Ty.nm 0), PK.v (Ty.int .i64)] [RK.ag 3 AGV] 4000000 (x0, zVal, x1, ())).bind fun r0 =>
  some (((r0.fst.fst.fst, (r0.fst.fst.snd.fst, (r0.fst.fst.snd.snd.fst, (r0.fst.fst.snd.snd.snd.fst, ())))), ()), ()) := by kernel_rfl
noncomputable def F90c1 (n : Nat) (x0 : Int) (x1 : List (Val)) (x2 : Int) (x3 : List (Int)) (x4 : List (List Int)) (x5 : List (Bool)) := F90.at [.v (.int .i64), .v (.sl (.nm 0))] [.ag 3 AGV, .v (.int .i64)] n 1 ⟨[.one (.int .i64 x0), .one (.data (.sl (.nm 0)) x1 []), U, U, .one (.bptr 0 0), U, U, U, U, U, U, U, U, U, U, U, U, U, U, U, U, U, U, U, U, U, U, U, U, U, U], [(0, .cells [.int .i64 x2, .own 1, .own 2, .own 3]), (1, .row 2 (.int .i64) x3 [] false), (2, .row 9 .str x4 [] false), (3, .row 4 .bool x5 [] false)]⟩
noncomputable def F90c5 (n : Nat) (x0 : Int) (x1 : List (Val)) (x2 : Int) (x3 : Int) (x4 : Int) (x5 : Int) (x6 : List (Int)) (x7 : List (List Int)) (x8 : List (Bool)) (x9 : List (Int)) (x10 : List (List Int)) (x11 : List (Bool)) := F90.at [.v (.int .i64), .v (.sl (.nm 0))] [.ag 3 AGV, .v (.int .i64)] n 5 ⟨[.one (.int .i64 x0), U, U, U, .one (.bptr 0 0), U, .one (.bptr 1 0), U, U, U, U, U, U, U, U, .one (.data (.sl (.nm 0)) x1 []), .one (.int .i64 x2), .one (.int .i64 x3), U, U, U, U, U, U, U, U, U, U, U, U, U], [(0, .cells [.int .i64 x4, .own 2, .own 3, .own 4]), (1, .cells [.int .i64 x5, .own 5, .own 6, .own 7]), (2, .row 2 (.int .i64) x6 [] false), (3, .row 9 .str x7 [] false), (4, .row 4 .bool x8 [] false), (5, .row 2 (.int .i64) x9 [] false), (6, .row 9 .str x10 [] false), (7, .row 4 .bool x11 [] false)]⟩
theorem F90_run (n : Nat) (a0 : Int) (a1 : List (Val)) : F90.run [.v (.int .i64), .v (.sl (.nm 0))] [.ag 3 AGV, .v (.int .i64)] n (a0, a1, ()) =
 F90c1 n (a0) (a1) ((0 : Int)) ([]) ([]) ([]) := by kernel_rfl
theorem F90c1_eq (n x0 x1 x2 x3 x4 x5 : _) : F90c1 (n + 1) x0 x1 x2 x3 x4 x5 =
 (F85.run [PK.v (Ty.int .i64)] [RK.v Ty.bool] 4000000 (x0, ())).bind fun r0 =>
  bif !r0.fst.fst then
   some ((((0 : Int), ([], ([], ([], ())))), ((1 : Int), ())), ())
  else
   F90c5 n (x0) (x1) ((↑x1.length : Int)) ((0 : Int)) (x2) (x0) (x3) (x4) (x5) ([]) ([]) ([]) := by kernel_rfl
theorem F90c5_eq (n x0 x1 x2 x3 x4 x5 x6 x7 x8 x9 x10 x11 : _) : F90c5 (n + 1) x0 x1 x2 x3 x4 x5 x6 x7 x8 x9 x10 x11 =
 bif decide (x3 < x2) then
  if (0 : Int) ≤ x3 then
   if x3 < (↑x1.length : Int) then
    (F86.run [PK.v (Ty.nm 0), PK.v (Ty.int .i64)] [RK.v Ty.bool] 4000000 (x1.getD x3.toNat zVal, x0, ())).bind fun r1 =>
     bif !r1.fst.fst then
      some ((((0 : Int), ([], ([], ([], ())))), ((7 : Int), ())), ())
     else
      (F87.run [PK.ag 3 AGV, PK.v (Ty.nm 0)] [RK.ag 3 AGV] 4000000 ((x5, x9, x10, x11, ()), x1.getD x3.toNat zVal, ())).bind fun r2 =>
       F90c5 n (x0) (x1) (x2) (IntKind.i64.wrap (x3 + (1 : Int))) (x4) (r2.fst.fst.fst) (x6) (x7) (x8) (r2.fst.fst.snd.fst) (r2.fst.fst.snd.snd.fst) (r2.fst.fst.snd.snd.snd.fst)
   else
    none
  else
   none
 else
  some (((x5, (x9, (x10, (x11, ())))), ((0 : Int), ())), ()) := by kernel_rfl
theorem F172_run (n : Nat) (a0 : List Int) (a1 : List Int) : F172.run [.v (.str), .v (.str)] [.v (.bool)] n (a0, a1, ()) =
 bif decide ((↑a1.length : Int) ≤ (↑a0.length : Int)) then
  if (↑a1.length : Int) ≤ (↑a0.length : Int) then
   some ((decide (List.drop (Int.toNat (0 : Int)) (List.take (↑a1.length : Int).toNat a0) = a1), ()), ())
  else
   none
 else
  some ((false, ()), ()) := by kernel_rfl
theorem F162_run (n : Nat) (a0 : List Int) (a1 : List Int) : F162.run [.v (.str), .v (.str)] [.v (.bool)] n (a0, a1, ()) =
 (F172.run [PK.v Ty.str, PK.v Ty.str] [RK.v Ty.bool] 4000000 (a0, a1, ())).bind fun r0 =>
  some ((r0.fst.fst, ()), ()) := by kernel_rfl
theorem F158_run (n : Nat) (a0 : Int) : F158.run [.v (.int .i64)] [.v (.nm 0)] n (a0, ()) =
 some (({ kind := (2 : Int), int := a0, text := [] : Val }, ()), ()) := by kernel_rfl
theorem F159_run (n : Nat) (a0 : List Int) : F159.run [.v (.str)] [.v (.nm 0)] n (a0, ()) =
 some (({ kind := (3 : Int), int := (0 : Int), text := a0 : Val }, ()), ()) := by kernel_rfl
noncomputable def F161c6 (n : Nat) (x0 : List Int) (x1 : Int) (x2 : Int) := F161.at [.v (.str), .v (.int .i64), .v (.int .i64)] [.v (.str)] n 6 ⟨[.one (.str x0), .one (.int .i64 x1), U, U, U, U, U, .one (.int .i64 x2), U, U, U, U, U, U, U, U, U, U, U, U, U, U, U, U, U, U, U, U, U, U, U, U, U], []⟩
theorem F161_run (n : Nat) (a0 : List Int) (a1 : Int) (a2 : Int) : F161.run [.v (.str), .v (.int .i64), .v (.int .i64)] [.v (.str)] n (a0, a1, a2, ()) =
 bif decide (a2 < (1 : Int)) then
  some (([], ()), ())
 else
  bif decide (a1 ≤ IntKind.i64.wrap ((9223372036854775807 : Int) - a2)) then
   F161c6 n (a0) (a1) (IntKind.i64.wrap (a1 + a2))
  else
   F161c6 n (a0) (a1) ((9223372036854775807 : Int)) := by kernel_rfl
theorem F161c6_eq (n x0 x1 x2 : _) : F161c6 (n + 1) x0 x1 x2 =
 bif decide (imin x2 (IntKind.i64.wrap ((↑x0.length : Int) + (1 : Int))) ≤ imax x1 (1 : Int)) then
  some (([], ()), ())
 else
  if (0 : Int) ≤ IntKind.i64.wrap (imax x1 (1 : Int) - (1 : Int)) then
   if IntKind.i64.wrap (imax x1 (1 : Int) - (1 : Int)) ≤ IntKind.i64.wrap (imin x2 (IntKind.i64.wrap ((↑x0.length : Int) + (1 : Int))) - (1 : Int)) then
    if IntKind.i64.wrap (imin x2 (IntKind.i64.wrap ((↑x0.length : Int) + (1 : Int))) - (1 : Int)) ≤ (↑x0.length : Int) then
     some ((List.drop (IntKind.i64.wrap (imax x1 (1 : Int) - (1 : Int))).toNat (List.take (IntKind.i64.wrap (imin x2 (IntKind.i64.wrap ((↑x0.length : Int) + (1 : Int))) - (1 : Int))).toNat x0), ()), ())
    else
     none
   else
    none
  else
   none := by kernel_rfl
noncomputable def F160c3 (n : Nat) (x0 : Int) (x1 : Int) (x2 : Int) (x3 : Int) (x4 : Int) (x5 : List (Int)) := F160.at [.v (.str), .v (.int .u8), .v (.int .u8), .v (.int .i64)] [.v (.str)] n 3 ⟨[U, .one (.int .u8 x0), .one (.int .u8 x1), .one (.int .i64 x2), U, U, U, U, U, .one (.own 0), U, U, U, U, .one (.own 0), .one (.int .i64 x3), .one (.int .i64 x4), U, U, U, U, U, U, U, U, U, U, U, U, U, U, U, U, U, U, U, U, U, U, U], [(0, .row 1000005 (.int .u8) x5 [] false)]⟩
noncomputable def F160c7 (n : Nat) (x0 : Int) (x1 : Int) (x2 : Int) (x3 : Int) (x4 : Int) (x5 : List (Int)) := F160.at [.v (.str), .v (.int .u8), .v (.int .u8), .v (.int .i64)] [.v (.str)] n 7 ⟨[U, .one (.int .u8 x0), .one (.int .u8 x1), .one (.int .i64 x2), U, U, U, U, U, .one (.own 0), U, U, U, U, .one (.own 0), .one (.int .i64 x3), .one (.int .i64 x4), U, U, U, U, U, U, U, U, U, U, U, U, U, U, U, U, U, U, U, U, U, U, U], [(0, .row 1000005 (.int .u8) x5 [] false)]⟩
theorem F160_run (n : Nat) (a0 : List Int) (a1 : Int) (a2 : Int) (a3 : Int) : F160.run [.v (.str), .v (.int .u8), .v (.int .u8), .v (.int .i64)] [.v (.str)] n (a0, a1, a2, a3, ()) =
 if a0.length ≤ lim then
  F160c3 n (a1) (a2) (a3) ((↑a0.length : Int)) ((0 : Int)) (a0)
 else
  none := by kernel_rfl
theorem F160c3_eq (n x0 x1 x2 x3 x4 x5 : _) : F160c3 (n + 1) x0 x1 x2 x3 x4 x5 =
 bif decide (x4 < x3) then
  if (0 : Int) ≤ x4 then
   if x4 < (↑x5.length : Int) then
    bif decide (x0 ≤ x5.getD x4.toNat (0 : Int)) then
     bif decide (x5.getD x4.toNat (0 : Int) ≤ x1) then
      if (0 : Int) ≤ x4 then
       if x4 < (↑x5.length : Int) then
        F160c7 n (x0) (x1) (x2) (x3) (x4) (x5.set x4.toNat (IntKind.u8.wrap (IntKind.i64.wrap (IntKind.i64.wrap (x5.getD x4.toNat (0 : Int)) + x2))))
       else
        none
      else
       none
     else
      F160c7 n (x0) (x1) (x2) (x3) (x4) (x5)
    else
     F160c7 n (x0) (x1) (x2) (x3) (x4) (x5)
   else
    none
  else
   none
 else
  some ((List.map Eng.byteOf x5, ()), ()) := by kernel_rfl
theorem F160c7_eq (n x0 x1 x2 x3 x4 x5 : _) : F160c7 (n + 1) x0 x1 x2 x3 x4 x5 =
 F160c3 n (x0) (x1) (x2) (x3) (IntKind.i64.wrap (x4 + (1 : Int))) (x5) := by kernel_rfl
theorem F157_run (n : Nat) (a0 : Int) (a1 : List (Val)) : F157.run [.v (.int .i64), .bw (.sl (.nm 0))] [.v (.int .i64)] n (a0, a1, ()) =
 if (0 : Int) ≤ a0 then
  if a0 < (↑a1.length : Int) then
   some (((a1.getD a0.toNat zVal).int, ()), (a1, ()))
  else
   none
 else
  none := by kernel_rfl
theorem F156_run (n : Nat) (a0 : Int) (a1 : List (Val)) : F156.run [.v (.int .i64), .bw (.sl (.nm 0))] [.v (.str)] n (a0, a1, ()) =
 if (0 : Int) ≤ a0 then
  if a0 < (↑a1.length : Int) then
   some (((a1.getD a0.toNat zVal).text, ()), (a1, ()))
  else
   none
 else
  none := by kernel_rfl
theorem F135_run (n : Nat) (a0 : List Int) (a1 : List (Val)) : F135.run [.v (.str), .v (.sl (.nm 0))] [.v (.nm 0)] n (a0, a1, ()) =
 bif decide (a0 = [(108 : Int), (101 : Int), (110 : Int), (103 : Int), (116 : Int), (104 : Int)]) then
  (F156.run [PK.v (Ty.int .i64), PK.bw (Ty.nm 0).sl] [RK.v Ty.str] 4000000 ((0 : Int), a1, ())).bind fun r0 =>
   (F158.run [PK.v (Ty.int .i64)] [RK.v (Ty.nm 0)] 4000000 ((↑(List.length r0.fst.fst) : Int), ())).bind fun r1 =>
    some ((r1.fst.fst, ()), ())
 else
  bif decide (a0 = [(117 : Int), (112 : Int), (112 : Int), (101 : Int), (114 : Int)]) then
   (F156.run [PK.v (Ty.int .i64), PK.bw (Ty.nm 0).sl] [RK.v Ty.str] 4000000 ((0 : Int), a1, ())).bind fun r2 =>
    (F160.run [PK.v Ty.str, PK.v (Ty.int IntKind.u8), PK.v (Ty.int IntKind.u8), PK.v (Ty.int .i64)] [RK.v Ty.str] 4000000 (r2.fst.fst, (97 : Int), (122 : Int), (-32 : Int), ())).bind fun r3 =>
     (F159.run [PK.v Ty.str] [RK.v (Ty.nm 0)] 4000000 (r3.fst.fst, ())).bind fun r4 =>
      some ((r4.fst.fst, ()), ())
  else
   bif decide (a0 = [(108 : Int), (111 : Int), (119 : Int), (101 : Int), (114 : Int)]) then
    (F156.run [PK.v (Ty.int .i64), PK.bw (Ty.nm 0).sl] [RK.v Ty.str] 4000000 ((0 : Int), a1, ())).bind fun r5 =>
     (F160.run [PK.v Ty.str, PK.v (Ty.int IntKind.u8), PK.v (Ty.int IntKind.u8), PK.v (Ty.int .i64)] [RK.v Ty.str] 4000000 (r5.fst.fst, (65 : Int), (90 : Int), (32 : Int), ())).bind fun r6 =>
      (F159.run [PK.v Ty.str] [RK.v (Ty.nm 0)] 4000000 (r6.fst.fst, ())).bind fun r7 =>
       some ((r7.fst.fst, ()), ())
   else
    bif decide (a0 = [(115 : Int), (117 : Int), (98 : Int), (115 : Int), (116 : Int), (114 : Int)]) then
     (F156.run [PK.v (Ty.int .i64), PK.bw (Ty.nm 0).sl] [RK.v Ty.str] 4000000 ((0 : Int), a1, ())).bind fun r8 =>
      (F157.run [PK.v (Ty.int .i64), PK.bw (Ty.nm 0).sl] [RK.v (Ty.int .i64)] 4000000 ((1 : Int), r8.snd.fst, ())).bind fun r9 =>
       (F157.run [PK.v (Ty.int .i64), PK.bw (Ty.nm 0).sl] [RK.v (Ty.int .i64)] 4000000 ((2 : Int), r9.snd.fst, ())).bind fun r10 =>
        (F161.run [PK.v Ty.str, PK.v (Ty.int .i64), PK.v (Ty.int .i64)] [RK.v Ty.str] 4000000 (r8.fst.fst, r9.fst.fst, r10.fst.fst, ())).bind fun r11 =>
         (F159.run [PK.v Ty.str] [RK.v (Ty.nm 0)] 4000000 (r11.fst.fst, ())).bind fun r12 =>
          some ((r12.fst.fst, ()), ())
    else
     bif decide (a0 = [(97 : Int), (98 : Int), (115 : Int)]) then
      (F157.run [PK.v (Ty.int .i64), PK.bw (Ty.nm 0).sl] [RK.v (Ty.int .i64)] 4000000 ((0 : Int), a1, ())).bind fun r13 =>
       bif decide (r13.fst.fst = (-9223372036854775808 : Int)) then
        some ((zVal, ()), ())
       else
        (F157.run [PK.v (Ty.int .i64), PK.bw (Ty.nm 0).sl] [RK.v (Ty.int .i64)] 4000000 ((0 : Int), r13.snd.fst, ())).bind fun r14 =>
         (F157.run [PK.v (Ty.int .i64), PK.bw (Ty.nm 0).sl] [RK.v (Ty.int .i64)] 4000000 ((0 : Int), r14.snd.fst, ())).bind fun r15 =>
          (F158.run [PK.v (Ty.int .i64)] [RK.v (Ty.nm 0)] 4000000 (imax r14.fst.fst (IntKind.i64.wrap ((0 : Int) - r15.fst.fst)), ())).bind fun r16 =>
           some ((r16.fst.fst, ()), ())
     else
      bif decide (a0 = [(112 : Int), (97 : Int), (114 : Int), (105 : Int), (116 : Int), (121 : Int)]) then
       (F157.run [PK.v (Ty.int .i64), PK.bw (Ty.nm 0).sl] [RK.v (Ty.int .i64)] 4000000 ((0 : Int), a1, ())).bind fun r17 =>
        (F158.run [PK.v (Ty.int .i64)] [RK.v (Ty.nm 0)] 4000000 (bits BinOp.and IntKind.i64 r17.fst.fst (1 : Int), ())).bind fun r18 =>
         some ((r18.fst.fst, ()), ())
      else
       (F156.run [PK.v (Ty.int .i64), PK.bw (Ty.nm 0).sl] [RK.v Ty.str] 4000000 ((0 : Int), a1, ())).bind fun r19 =>
        (F156.run [PK.v (Ty.int .i64), PK.bw (Ty.nm 0).sl] [RK.v Ty.str] 4000000 ((1 : Int), r19.snd.fst, ())).bind fun r20 =>
         (F162.run [PK.v Ty.str, PK.v Ty.str] [RK.v Ty.bool] 4000000 (r19.fst.fst, r20.fst.fst, ())).bind fun r21 =>
          bif r21.fst.fst then
           some (({ kind := (1 : Int), int := (1 : Int), text := [] : Val }, ()), ())
          else
           some (({ kind := (1 : Int), int := (0 : Int), text := [] : Val }, ()), ()) := by kernel_rfl
end Go.Proofs.Tryz
