/- The functions of the program as the engine follows them (printed by a program of ours): their code, what is known of them, and the equations of their runs. -/
import Derived.Test.YtlkllggdiakpbaaGreatDoorL42Fns
set_option linter.unusedVariables false
set_option maxRecDepth 20000
namespace Go.Proofs.Tryz
open Go.Eng
noncomputable def F84c5 (g84 : G84) (n : Nat) (x0 : List (Int)) (x1 : Int) (x2 : Ex) (x3 : List (Int)) := (F84 g84).at [.v (.nm 1), .v (.sl (.int .i64))] [.v (.int .i64), .v (.bool)] n 5 ⟨[U, .one (.data (.sl (.int .i64)) x0 []), .one (.bptr 0 0), U, U, U, .one (.own 1), .one (.int .i64 x1), U, U, U, U, U, U, U, U, U, U, U, U, U, U, U, U, U, U, U, U, U, U, U, U, U, U, U, U, U, U, U, U, U, U, U, U, U, U, U, U, U, U, U, U, U, U, U, U, U, U, U, U, U, U, U, U, U, U, U, U, U, U, U, U, U, U, U, U, U, U, U, U, U, U, U, U, U, U, U, U, U, U, U, U, U, U, U, U, U, U, U, U, U, U, U, U, U, U, U, U, U, U, U, U, U, U, U, U, U, U, U, U, U, U, U, U, U, U, U, U, U, U, U, U, U, U, U, U, U, U, U, U, U, U, U, U, U, U, U], [(0, .whole (.nm 1) x2 []), (1, .row 3 (.int .i64) x3 [] false)]⟩
noncomputable def F84c10 (g84 : G84) (n : Nat) (x0 : List (Int)) (x1 : Int) (x2 : Int) (x3 : Ex) (x4 : List (Int)) := (F84 g84).at [.v (.nm 1), .v (.sl (.int .i64))] [.v (.int .i64), .v (.bool)] n 10 ⟨[U, .one (.data (.sl (.int .i64)) x0 []), .one (.bptr 0 0), U, U, U, .one (.own 1), .one (.int .i64 x1), .one (.int .i64 x2), U, U, U, U, U, U, U, U, U, U, U, U, U, U, U, U, U, U, U, U, U, U, U, U, U, U, U, U, U, U, U, U, U, U, U, U, U, U, U, U, U, U, U, U, U, U, U, U, U, U, U, U, U, U, U, U, U, U, U, U, U, U, U, U, U, U, U, U, U, U, U, U, U, U, U, U, U, U, U, U, U, U, U, U, U, U, U, U, U, U, U, U, U, U, U, U, U, U, U, U, U, U, U, U, U, U, U, U, U, U, U, U, U, U, U, U, U, U, U, U, U, U, U, U, U, U, U, U, U, U, U, U, U, U, U, U, U, U], [(0, .whole (.nm 1) x3 []), (1, .row 3 (.int .i64) x4 [] false)]⟩
noncomputable def F84c17 (g84 : G84) (n : Nat) (x0 : List (Int)) (x1 : Ex) := (F84 g84).at [.v (.nm 1), .v (.sl (.int .i64))] [.v (.int .i64), .v (.bool)] n 17 ⟨[U, .one (.data (.sl (.int .i64)) x0 []), .one (.bptr 0 0), U, U, U, U, U, U, U, U, U, U, U, U, U, U, U, U, U, U, U, U, U, U, U, U, U, U, U, U, U, U, U, U, U, U, U, U, U, U, U, U, U, U, U, U, U, U, U, U, U, U, U, U, U, U, U, U, U, U, U, U, U, U, U, U, U, U, U, U, U, U, U, U, U, U, U, U, U, U, U, U, U, U, U, U, U, U, U, U, U, U, U, U, U, U, U, U, U, U, U, U, U, U, U, U, U, U, U, U, U, U, U, U, U, U, U, U, U, U, U, U, U, U, U, U, U, U, U, U, U, U, U, U, U, U, U, U, U, U, U, U, U, U, U, U], [(0, .whole (.nm 1) x1 [])]⟩
theorem F84_run (g84 : G84) (n : Nat) (a0 : Ex) (a1 : List (Int)) : (F84 g84).run [.v (.nm 1), .v (.sl (.int .i64))] [.v (.int .i64), .v (.bool)] n (a0, a1, ()) =
 (F119.run [PK.v (Ty.nm 1)] [RK.v Ty.bool] 4000000 (a0, ())).bind fun r0 =>
  bif !r0.fst.fst then
   some (((0 : Int), (false, ())), ())
  else
   F84c5 g84 n (a1) ((0 : Int)) (a0) ([]) := by kernel_rfl
theorem F84c5_eq (g84 : G84) (n x0 x1 x2 x3 : _) : F84c5 g84 (n + 1) x0 x1 x2 x3 =
 bif decide (x1 < (↑x2.args.length : Int)) then
  if (0 : Int) ≤ x1 then
   if x1 < (↑x2.args.length : Int) then
    (g84 (x2.args.getD x1.toNat zEx, x0, ())).bind fun r1 =>
     bif !r1.fst.snd.fst then
      some (((0 : Int), (false, ())), ())
     else
      if (0 : Int) ≤ x1 then
       if x1 < (↑x2.args.length : Int) then
        bif !decide (r1.fst.fst = (x2.args.getD x1.toNat zEx).f_Type) then
         some (((0 : Int), (false, ())), ())
        else
         F84c10 g84 n (x0) (x1) (r1.fst.fst) (x2) (x3)
       else
        none
      else
       none
   else
    none
  else
   none
 else
  bif decide (x2.kind = (1 : Int)) then
   (F120.run [PK.v (Ty.nm 0)] [RK.v Ty.bool] 4000000 (x2.value, ())).bind fun r2 =>
    bif r2.fst.fst then
     some ((x2.value.kind, (decide ((↑x3.length : Int) = (0 : Int)), ())), ())
    else
     some ((x2.value.kind, (false, ())), ())
  else
   bif decide (x2.kind = (2 : Int)) then
    bif decide (x2.slot < (0 : Int)) then
     some (((0 : Int), (false, ())), ())
    else
     bif decide ((↑x0.length : Int) ≤ x2.slot) then
      some (((0 : Int), (false, ())), ())
     else
      bif decide ((0 : Int) < (↑x3.length : Int)) then
       some (((0 : Int), (false, ())), ())
      else
       F84c17 g84 n (x0) (x2)
   else
    bif decide (x2.kind = (3 : Int)) then
     bif decide ((↑x3.length : Int) = (1 : Int)) then
      if (0 : Int) < (↑x3.length : Int) then
       (F121.run [PK.v (Ty.int .i64), PK.v (Ty.int .i64)] [RK.v Ty.bool] 4000000 (x3.getD (Int.toNat (0 : Int)) (0 : Int), (1 : Int), ())).bind fun r3 =>
        some (((1 : Int), (r3.fst.fst, ())), ())
      else
       none
     else
      some (((1 : Int), (false, ())), ())
    else
     bif decide (x2.kind = (4 : Int)) then
      bif decide ((↑x3.length : Int) = (1 : Int)) then
       if (0 : Int) < (↑x3.length : Int) then
        (F121.run [PK.v (Ty.int .i64), PK.v (Ty.int .i64)] [RK.v Ty.bool] 4000000 (x3.getD (Int.toNat (0 : Int)) (0 : Int), (2 : Int), ())).bind fun r4 =>
         some (((2 : Int), (r4.fst.fst, ())), ())
       else
        none
      else
       some (((2 : Int), (false, ())), ())
     else
      bif decide (x2.kind = (5 : Int)) then
       (F122.run [PK.v (Ty.int .i64), PK.v (Ty.int .i64).sl] [RK.v (Ty.int .i64), RK.v Ty.bool] 4000000 (x2.op, x3, ())).bind fun r5 =>
        some ((r5.fst.fst, (r5.fst.snd.fst, ())), ())
      else
       bif decide (x2.kind = (6 : Int)) then
        some (((1 : Int), (decide ((↑x3.length : Int) = (1 : Int)), ())), ())
       else
        bif decide (x2.kind = (7 : Int)) then
         (F123.run [PK.v (Ty.int .i64).sl] [RK.v (Ty.int .i64), RK.v Ty.bool] 4000000 (x3, ())).bind fun r6 =>
          bif r6.fst.snd.fst then
           some (((1 : Int), (decide ((2 : Int) ≤ (↑x3.length : Int)), ())), ())
          else
           some (((1 : Int), (false, ())), ())
        else
         bif decide (x2.kind = (8 : Int)) then
          (F124.run [PK.v (Ty.int .i64).sl] [RK.v (Ty.int .i64), RK.v Ty.bool] 4000000 (x3, ())).bind fun r7 =>
           some ((r7.fst.fst, (r7.fst.snd.fst, ())), ())
         else
          bif decide (x2.kind = (9 : Int)) then
           (F125.run [PK.v Ty.str, PK.v (Ty.int .i64).sl] [RK.v (Ty.int .i64), RK.v Ty.bool] 4000000 (x2.name, x3, ())).bind fun r8 =>
            some ((r8.fst.fst, (r8.fst.snd.fst, ())), ())
          else
           some (((0 : Int), (false, ())), ()) := by kernel_rfl
theorem F84c10_eq (g84 : G84) (n x0 x1 x2 x3 x4 : _) : F84c10 g84 (n + 1) x0 x1 x2 x3 x4 =
 if x4.length + (1 : Nat) ≤ lim then
  F84c5 g84 n (x0) (IntKind.i64.wrap (x1 + (1 : Int))) (x3) (x4 ++ [x2])
 else
  none := by kernel_rfl
theorem F84c17_eq (g84 : G84) (n x0 x1 : _) : F84c17 g84 (n + 1) x0 x1 =
 if (0 : Int) ≤ x1.slot then
  if x1.slot < (↑x0.length : Int) then
   some ((x0.getD x1.slot.toNat (0 : Int), (true, ())), ())
  else
   none
 else
  none := by kernel_rfl
noncomputable def F83c3 (g83 : G83) (n : Nat) (x0 : Int) (x1 : Int) (x2 : Ex) := (F83 g83).at [.v (.nm 1)] [.v (.int .i64)] n 3 ⟨[U, .one (.bptr 0 0), U, .one (.int .i64 x0), .one (.int .i64 x1), U, U, U, U, U, U, U, U, U, U, U, U, U, U, U, U, U, U, U, U, U, U, U, U, U, U, U, U, U, U, U, U, U, U, U, U, U, U, U, U, U, U, U, U, U, U, U, U, U, U], [(0, .whole (.nm 1) x2 [])]⟩
noncomputable def F83c7 (g83 : G83) (n : Nat) (x0 : Int) (x1 : Int) (x2 : Ex) := (F83 g83).at [.v (.nm 1)] [.v (.int .i64)] n 7 ⟨[U, .one (.bptr 0 0), U, .one (.int .i64 x0), U, .one (.int .i64 x1), U, U, U, U, U, U, U, U, U, U, U, U, U, U, U, U, U, U, U, U, U, U, U, U, U, U, U, U, U, U, U, U, U, U, U, U, U, U, U, U, U, U, U, U, U, U, U, U, U], [(0, .whole (.nm 1) x2 [])]⟩
noncomputable def F83c11 (g83 : G83) (n : Nat) (x0 : Int) (x1 : Int) (x2 : Ex) := (F83 g83).at [.v (.nm 1)] [.v (.int .i64)] n 11 ⟨[U, .one (.bptr 0 0), U, .one (.int .i64 x0), U, U, .one (.int .i64 x1), U, U, U, U, U, U, U, U, U, U, U, U, U, U, U, U, U, U, U, U, U, U, U, U, U, U, U, U, U, U, U, U, U, U, U, U, U, U, U, U, U, U, U, U, U, U, U, U], [(0, .whole (.nm 1) x2 [])]⟩
theorem F83_run (g83 : G83) (n : Nat) (a0 : Ex) : (F83 g83).run [.v (.nm 1)] [.v (.int .i64)] n (a0, ()) =
 F83c3 g83 n ((0 : Int)) ((0 : Int)) (a0) := by kernel_rfl
theorem F83c3_eq (g83 : G83) (n x0 x1 x2 : _) : F83c3 g83 (n + 1) x0 x1 x2 =
 bif decide (x1 < (↑x2.args.length : Int)) then
  if (0 : Int) ≤ x1 then
   if x1 < (↑x2.args.length : Int) then
    (g83 (x2.args.getD x1.toNat zEx, ())).bind fun r0 =>
     F83c3 g83 n (imax x0 r0.fst.fst) (IntKind.i64.wrap (x1 + (1 : Int))) (x2)
   else
    none
  else
   none
 else
  F83c7 g83 n (x0) ((0 : Int)) (x2) := by kernel_rfl
theorem F83c7_eq (g83 : G83) (n x0 x1 x2 : _) : F83c7 g83 (n + 1) x0 x1 x2 =
 bif decide (x1 < (↑x2.partitionBy.length : Int)) then
  if (0 : Int) ≤ x1 then
   if x1 < (↑x2.partitionBy.length : Int) then
    (g83 (x2.partitionBy.getD x1.toNat zEx, ())).bind fun r1 =>
     F83c7 g83 n (imax x0 r1.fst.fst) (IntKind.i64.wrap (x1 + (1 : Int))) (x2)
   else
    none
  else
   none
 else
  F83c11 g83 n (x0) ((0 : Int)) (x2) := by kernel_rfl
theorem F83c11_eq (g83 : G83) (n x0 x1 x2 : _) : F83c11 g83 (n + 1) x0 x1 x2 =
 bif decide (x1 < (↑x2.orderBy.length : Int)) then
  if (0 : Int) ≤ x1 then
   if x1 < (↑x2.orderBy.length : Int) then
    (g83 ((x2.orderBy.getD x1.toNat zOrd1).expr, ())).bind fun r2 =>
     F83c11 g83 n (imax x0 r2.fst.fst) (IntKind.i64.wrap (x1 + (1 : Int))) (x2)
   else
    none
  else
   none
 else
  some ((IntKind.i64.wrap (x0 + (1 : Int)), ()), ()) := by kernel_rfl
theorem F49_run (n : Nat) (a0 : Ex) (a1 : List (Int)) : F49.run [.v (.nm 1), .v (.sl (.int .i64))] [.v (.bool)] n (a0, a1, ()) =
 (R83 (a0, ())).bind fun r0 =>
  bif decide ((32 : Int) < r0.fst.fst) then
   some ((false, ()), ())
  else
   (R84 (a0, a1, ())).bind fun r1 =>
    bif r1.fst.snd.fst then
     some ((decide (r1.fst.fst = a0.f_Type), ()), ())
    else
     some ((false, ()), ()) := by kernel_rfl
theorem F27_run (n : Nat) (a0 : Ex) (a1 : List (Int)) : F27.run [.v (.nm 1), .v (.sl (.int .i64))] [.v (.bool)] n (a0, a1, ()) =
 (F49.run [PK.v (Ty.nm 1), PK.v (Ty.int .i64).sl] [RK.v Ty.bool] 4000000 (a0, a1, ())).bind fun r0 =>
  some ((r0.fst.fst, ()), ()) := by kernel_rfl
noncomputable def F28c1 (n : Nat) (x0 : Batch) := F28.at [.v (.nm 2)] [.own 3 (.int .i64)] n 1 ⟨[U, .one (.bptr 0 0), U, U, U, U, U, U, U, U, U, U, U, U, U, U, U, U, U, U, U, U], [(0, .whole (.nm 2) x0 [])]⟩
noncomputable def F28c3 (n : Nat) (x0 : Int) (x1 : Batch) (x2 : List (Int)) := F28.at [.v (.nm 2)] [.own 3 (.int .i64)] n 3 ⟨[U, .one (.bptr 0 0), U, .one (.own 1), .one (.int .i64 x0), U, U, U, U, U, U, U, U, U, U, U, U, U, U, U, U, U], [(0, .whole (.nm 2) x1 []), (1, .row 3 (.int .i64) x2 [] false)]⟩
theorem F28_run (n : Nat) (a0 : Batch) : F28.run [.v (.nm 2)] [.own 3 (.int .i64)] n (a0, ()) =
 F28c1 n (a0) := by kernel_rfl
theorem F28c1_eq (n x0 : _) : F28c1 (n + 1) x0 =
 F28c3 n ((0 : Int)) (x0) ([]) := by kernel_rfl
theorem F28c3_eq (n x0 x1 x2 : _) : F28c3 (n + 1) x0 x1 x2 =
 bif decide (x0 < (↑x1.columns.length : Int)) then
  if (0 : Int) ≤ x0 then
   if x0 < (↑x1.columns.length : Int) then
    if x2.length + (1 : Nat) ≤ lim then
     F28c3 n (IntKind.i64.wrap (x0 + (1 : Int))) (x1) (x2 ++ [(x1.columns.getD x0.toNat zVec).f_Type])
    else
     none
   else
    none
  else
   none
 else
  some ((x2, ()), ()) := by kernel_rfl
noncomputable def F26c3 (g26 : G26) (n : Nat) (x0 : Int) (x1 : Int) (x2 : Ex) := (F26 g26).at [.v (.nm 1)] [.v (.int .i64)] n 3 ⟨[U, .one (.bptr 0 0), U, .one (.int .i64 x0), .one (.int .i64 x1), U, U, U, U, U, U, U, U, U, U, U, U, U, U, U, U, U, U, U, U, U, U, U, U, U, U, U, U, U, U, U, U, U, U, U, U, U, U, U, U, U, U, U, U, U, U, U, U, U], [(0, .whole (.nm 1) x2 [])]⟩
noncomputable def F26c7 (g26 : G26) (n : Nat) (x0 : Int) (x1 : Int) (x2 : Ex) := (F26 g26).at [.v (.nm 1)] [.v (.int .i64)] n 7 ⟨[U, .one (.bptr 0 0), U, .one (.int .i64 x0), U, .one (.int .i64 x1), U, U, U, U, U, U, U, U, U, U, U, U, U, U, U, U, U, U, U, U, U, U, U, U, U, U, U, U, U, U, U, U, U, U, U, U, U, U, U, U, U, U, U, U, U, U, U, U], [(0, .whole (.nm 1) x2 [])]⟩
noncomputable def F26c11 (g26 : G26) (n : Nat) (x0 : Int) (x1 : Int) (x2 : Ex) := (F26 g26).at [.v (.nm 1)] [.v (.int .i64)] n 11 ⟨[U, .one (.bptr 0 0), U, .one (.int .i64 x0), U, U, .one (.int .i64 x1), U, U, U, U, U, U, U, U, U, U, U, U, U, U, U, U, U, U, U, U, U, U, U, U, U, U, U, U, U, U, U, U, U, U, U, U, U, U, U, U, U, U, U, U, U, U, U], [(0, .whole (.nm 1) x2 [])]⟩
theorem F26_run (g26 : G26) (n : Nat) (a0 : Ex) : (F26 g26).run [.v (.nm 1)] [.v (.int .i64)] n (a0, ()) =
 F26c3 g26 n ((1 : Int)) ((0 : Int)) (a0) := by kernel_rfl
theorem F26c3_eq (g26 : G26) (n x0 x1 x2 : _) : F26c3 g26 (n + 1) x0 x1 x2 =
 bif decide (x1 < (↑x2.args.length : Int)) then
  if (0 : Int) ≤ x1 then
   if x1 < (↑x2.args.length : Int) then
    (g26 (x2.args.getD x1.toNat zEx, ())).bind fun r0 =>
     F26c3 g26 n (IntKind.i64.wrap (x0 + r0.fst.fst)) (IntKind.i64.wrap (x1 + (1 : Int))) (x2)
   else
    none
  else
   none
 else
  F26c7 g26 n (x0) ((0 : Int)) (x2) := by kernel_rfl
theorem F26c7_eq (g26 : G26) (n x0 x1 x2 : _) : F26c7 g26 (n + 1) x0 x1 x2 =
 bif decide (x1 < (↑x2.partitionBy.length : Int)) then
  if (0 : Int) ≤ x1 then
   if x1 < (↑x2.partitionBy.length : Int) then
    (g26 (x2.partitionBy.getD x1.toNat zEx, ())).bind fun r1 =>
     F26c7 g26 n (IntKind.i64.wrap (x0 + r1.fst.fst)) (IntKind.i64.wrap (x1 + (1 : Int))) (x2)
   else
    none
  else
   none
 else
  F26c11 g26 n (x0) ((0 : Int)) (x2) := by kernel_rfl
theorem F26c11_eq (g26 : G26) (n x0 x1 x2 : _) : F26c11 g26 (n + 1) x0 x1 x2 =
 bif decide (x1 < (↑x2.orderBy.length : Int)) then
  if (0 : Int) ≤ x1 then
   if x1 < (↑x2.orderBy.length : Int) then
    (g26 ((x2.orderBy.getD x1.toNat zOrd1).expr, ())).bind fun r2 =>
     F26c11 g26 n (IntKind.i64.wrap (x0 + r2.fst.fst)) (IntKind.i64.wrap (x1 + (1 : Int))) (x2)
   else
    none
  else
   none
 else
  some ((x0, ()), ()) := by kernel_rfl
theorem F9_run (n : Nat) (a0 : Ex) (a1 : Batch) : F9.run [.v (.nm 1), .v (.nm 2)] [.v (.bool)] n (a0, a1, ()) =
 (R26 (a0, ())).bind fun r0 =>
  bif decide (r0.fst.fst ≤ (200 : Int)) then
   (F28.run [PK.v (Ty.nm 2)] [RK.own 3 (Ty.int .i64)] 4000000 (a1, ())).bind fun r1 =>
    (F27.run [PK.v (Ty.nm 1), PK.v (Ty.int .i64).sl] [RK.v Ty.bool] 4000000 (a0, r1.fst.fst, ())).bind fun r2 =>
     some ((r2.fst.fst, ()), ())
  else
   some ((false, ()), ()) := by kernel_rfl
theorem F82_run (n : Nat) (a0 : Vec) (a1 : Int) : F82.run [.v (.nm 3), .v (.int .i64)] [.v (.bool)] n (a0, a1, ()) =
 bif decide (a0.f_Type = (0 : Int)) then
  if (0 : Int) ≤ a1 then
   if a1 < (↑a0.nulls.length : Int) then
    some ((a0.nulls.getD a1.toNat false, ()), ())
   else
    none
  else
   none
 else
  bif decide (a0.f_Type = (3 : Int)) then
   if (0 : Int) ≤ a1 then
    if a1 < (↑a0.texts.length : Int) then
     bif decide ((↑(a0.texts.getD a1.toNat []).length : Int) ≤ (4096 : Int)) then
      if (0 : Int) ≤ a1 then
       if a1 < (↑a0.nulls.length : Int) then
        bif !a0.nulls.getD a1.toNat false then
         some ((true, ()), ())
        else
         if (0 : Int) ≤ a1 then
          if a1 < (↑a0.texts.length : Int) then
           some ((decide (a0.texts.getD a1.toNat [] = []), ()), ())
          else
           none
         else
          none
       else
        none
      else
       none
     else
      some ((false, ()), ())
    else
     none
   else
    none
  else
   bif decide (a0.f_Type = (1 : Int)) then
    if (0 : Int) ≤ a1 then
     if a1 < (↑a0.ints.length : Int) then
      bif decide (a0.ints.getD a1.toNat (0 : Int) = (0 : Int)) then
       some ((true, ()), ())
      else
       if (0 : Int) ≤ a1 then
        if a1 < (↑a0.ints.length : Int) then
         bif decide (a0.ints.getD a1.toNat (0 : Int) = (1 : Int)) then
          if (0 : Int) ≤ a1 then
           if a1 < (↑a0.nulls.length : Int) then
            some ((!a0.nulls.getD a1.toNat false, ()), ())
           else
            none
          else
           none
         else
          some ((false, ()), ())
        else
         none
       else
        none
     else
      none
    else
     none
   else
    if (0 : Int) ≤ a1 then
     if a1 < (↑a0.ints.length : Int) then
      bif decide (a0.ints.getD a1.toNat (0 : Int) = (0 : Int)) then
       some ((true, ()), ())
      else
       if (0 : Int) ≤ a1 then
        if a1 < (↑a0.nulls.length : Int) then
         some ((!a0.nulls.getD a1.toNat false, ()), ())
        else
         none
       else
        none
     else
      none
    else
     none := by kernel_rfl
noncomputable def F48c6 (n : Nat) (x0 : Int) (x1 : Int) (x2 : Vec) := F48.at [.v (.nm 3)] [.v (.bool)] n 6 ⟨[U, .one (.bptr 0 0), U, .one (.int .i64 x0), .one (.int .i64 x1), U, U, U, U, U, U, U, U, U, U, U, U, U, U, U, U, U, U, U, U, U, U, U, U, U, U, U, U, U, U, U, U, U, U, U, U, U, U, U, U, U, U, U, U, U], [(0, .whole (.nm 3) x2 [])]⟩
noncomputable def F48c8 (n : Nat) (x0 : Int) (x1 : Int) (x2 : Vec) := F48.at [.v (.nm 3)] [.v (.bool)] n 8 ⟨[U, .one (.bptr 0 0), U, .one (.int .i64 x0), .one (.int .i64 x1), U, U, U, U, U, U, U, U, U, U, U, U, U, U, U, U, U, U, U, U, U, U, U, U, U, U, U, U, U, U, U, U, U, U, U, U, U, U, U, U, U, U, U, U, U], [(0, .whole (.nm 3) x2 [])]⟩
noncomputable def F48c10 (n : Nat) (x0 : Vec) := F48.at [.v (.nm 3)] [.v (.bool)] n 10 ⟨[U, .one (.bptr 0 0), U, U, U, U, U, U, U, U, U, U, U, U, U, U, U, U, U, U, U, U, U, U, U, U, U, U, U, U, U, U, U, U, U, U, U, U, U, U, U, U, U, U, U, U, U, U, U, U], [(0, .whole (.nm 3) x0 [])]⟩
noncomputable def F48c11 (n : Nat) (x0 : Int) (x1 : Vec) := F48.at [.v (.nm 3)] [.v (.bool)] n 11 ⟨[U, .one (.bptr 0 0), U, U, U, .one (.int .i64 x0), U, U, U, U, U, U, U, U, U, U, U, U, U, U, U, U, U, U, U, U, U, U, U, U, U, U, U, U, U, U, U, U, U, U, U, U, U, U, U, U, U, U, U, U], [(0, .whole (.nm 3) x1 [])]⟩
theorem F48_run (n : Nat) (a0 : Vec) : F48.run [.v (.nm 3)] [.v (.bool)] n (a0, ()) =
 (F73.run [PK.v (Ty.int .i64)] [RK.v Ty.bool] 4000000 (a0.f_Type, ())).bind fun r0 =>
  bif !r0.fst.fst then
   some ((false, ()), ())
  else
   bif decide (a0.f_Type = (1 : Int)) then
    F48c6 n ((↑a0.nulls.length : Int)) ((0 : Int)) (a0)
   else
    bif decide (a0.f_Type = (2 : Int)) then
     F48c6 n ((↑a0.nulls.length : Int)) ((0 : Int)) (a0)
    else
     F48c6 n ((0 : Int)) ((0 : Int)) (a0) := by kernel_rfl
theorem F48c6_eq (n x0 x1 x2 : _) : F48c6 (n + 1) x0 x1 x2 =
 bif decide (x2.f_Type = (3 : Int)) then
  F48c8 n (x0) ((↑x2.nulls.length : Int)) (x2)
 else
  F48c8 n (x0) (x1) (x2) := by kernel_rfl
theorem F48c8_eq (n x0 x1 x2 : _) : F48c8 (n + 1) x0 x1 x2 =
 bif !decide ((↑x2.ints.length : Int) = x0) then
  some ((false, ()), ())
 else
  bif !decide ((↑x2.texts.length : Int) = x1) then
   some ((false, ()), ())
  else
   F48c10 n (x2) := by kernel_rfl
theorem F48c10_eq (n x0 : _) : F48c10 (n + 1) x0 =
 F48c11 n ((0 : Int)) (x0) := by kernel_rfl
theorem F48c11_eq (n x0 x1 : _) : F48c11 (n + 1) x0 x1 =
 bif decide (x0 < (↑x1.nulls.length : Int)) then
  (F82.run [PK.v (Ty.nm 3), PK.v (Ty.int .i64)] [RK.v Ty.bool] 4000000 (x1, x0, ())).bind fun r1 =>
   bif !r1.fst.fst then
    some ((false, ()), ())
   else
    F48c11 n (IntKind.i64.wrap (x0 + (1 : Int))) (x1)
 else
  some ((true, ()), ()) := by kernel_rfl
noncomputable def F25c3 (n : Nat) (x0 : Batch) := F25.at [.v (.nm 2)] [.v (.bool)] n 3 ⟨[U, .one (.bptr 0 0), U, U, U, U, U, U, U, U, U, U, U, U, U, U, U, U, U, U, U, U, U, U, U, U, U, U, U, U, U, U, U, U, U, U, U, U, U, U, U, U, U, U, U, U, U, U, U, U, U, U, U, U, U, U, U, U, U, U, U, U, U, U, U, U, U, U, U, U, U, U, U, U, U, U, U, U, U, U, U, U, U, U, U], [(0, .whole (.nm 2) x0 [])]⟩
noncomputable def F25c4 (n : Nat) (x0 : Int) (x1 : Batch) := F25.at [.v (.nm 2)] [.v (.bool)] n 4 ⟨[U, .one (.bptr 0 0), U, .one (.int .i64 x0), U, U, U, U, U, U, U, U, U, U, U, U, U, U, U, U, U, U, U, U, U, U, U, U, U, U, U, U, U, U, U, U, U, U, U, U, U, U, U, U, U, U, U, U, U, U, U, U, U, U, U, U, U, U, U, U, U, U, U, U, U, U, U, U, U, U, U, U, U, U, U, U, U, U, U, U, U, U, U, U, U], [(0, .whole (.nm 2) x1 [])]⟩
noncomputable def F25c9 (n : Nat) (x0 : Int) (x1 : Batch) := F25.at [.v (.nm 2)] [.v (.bool)] n 9 ⟨[U, .one (.bptr 0 0), U, U, .one (.int .i64 x0), U, U, U, U, U, U, U, U, U, U, U, U, U, U, U, U, U, U, U, U, U, U, U, U, U, U, U, U, U, U, U, U, U, U, U, U, U, U, U, U, U, U, U, U, U, U, U, U, U, U, U, U, U, U, U, U, U, U, U, U, U, U, U, U, U, U, U, U, U, U, U, U, U, U, U, U, U, U, U, U], [(0, .whole (.nm 2) x1 [])]⟩
noncomputable def F25c10 (n : Nat) (x0 : Int) (x1 : Batch) := F25.at [.v (.nm 2)] [.v (.bool)] n 10 ⟨[U, .one (.bptr 0 0), U, U, .one (.int .i64 x0), U, U, U, U, U, U, U, U, U, U, U, U, U, U, U, U, U, U, U, U, U, U, U, U, U, U, U, U, U, U, U, U, U, U, U, U, U, U, U, U, U, U, U, U, U, U, U, U, U, U, U, U, U, U, U, U, U, U, U, U, U, U, U, U, U, U, U, U, U, U, U, U, U, U, U, U, U, U, U, U], [(0, .whole (.nm 2) x1 [])]⟩
theorem F25_run (n : Nat) (a0 : Batch) : F25.run [.v (.nm 2)] [.v (.bool)] n (a0, ()) =
 bif decide (a0.len < (0 : Int)) then
  some ((false, ()), ())
 else
  bif a0.all then
   bif decide ((0 : Int) < (↑a0.sel.length : Int)) then
    some ((false, ()), ())
   else
    F25c3 n (a0)
  else
   F25c3 n (a0) := by kernel_rfl
theorem F25c3_eq (n x0 : _) : F25c3 (n + 1) x0 =
 F25c4 n ((0 : Int)) (x0) := by kernel_rfl
theorem F25c4_eq (n x0 x1 : _) : F25c4 (n + 1) x0 x1 =
 bif decide (x0 < (↑x1.columns.length : Int)) then
  if (0 : Int) ≤ x0 then
   if x0 < (↑x1.columns.length : Int) then
    (F48.run [PK.v (Ty.nm 3)] [RK.v Ty.bool] 4000000 (x1.columns.getD x0.toNat zVec, ())).bind fun r0 =>
     bif !r0.fst.fst then
      some ((false, ()), ())
     else
      if (0 : Int) ≤ x0 then
       if x0 < (↑x1.columns.length : Int) then
        bif !decide ((↑(x1.columns.getD x0.toNat zVec).nulls.length : Int) = x1.len) then
         some ((false, ()), ())
        else
         F25c4 n (IntKind.i64.wrap (x0 + (1 : Int))) (x1)
       else
        none
      else
       none
   else
    none
  else
   none
 else
  F25c9 n ((0 : Int)) (x1) := by kernel_rfl
theorem F25c9_eq (n x0 x1 : _) : F25c9 (n + 1) x0 x1 =
 bif decide (x0 < (↑x1.sel.length : Int)) then
  if (0 : Int) ≤ x0 then
   if x0 < (↑x1.sel.length : Int) then
    bif decide (x1.sel.getD x0.toNat (0 : Int) < (0 : Int)) then
     some ((false, ()), ())
    else
     if (0 : Int) ≤ x0 then
      if x0 < (↑x1.sel.length : Int) then
       bif decide (x1.len ≤ x1.sel.getD x0.toNat (0 : Int)) then
        some ((false, ()), ())
       else
        bif decide ((0 : Int) < x0) then
         if (0 : Int) ≤ x0 then
          if x0 < (↑x1.sel.length : Int) then
           if (0 : Int) ≤ IntKind.i64.wrap (x0 - (1 : Int)) then
            if IntKind.i64.wrap (x0 - (1 : Int)) < (↑x1.sel.length : Int) then
             bif decide (x1.sel.getD x0.toNat (0 : Int) ≤ x1.sel.getD (IntKind.i64.wrap (x0 - (1 : Int))).toNat (0 : Int)) then
              some ((false, ()), ())
             else
              F25c10 n (x0) (x1)
            else
             none
           else
            none
          else
           none
         else
          none
        else
         F25c10 n (x0) (x1)
      else
       none
     else
      none
   else
    none
  else
   none
 else
  some ((true, ()), ()) := by kernel_rfl
theorem F25c10_eq (n x0 x1 : _) : F25c10 (n + 1) x0 x1 =
 F25c9 n (IntKind.i64.wrap (x0 + (1 : Int))) (x1) := by kernel_rfl
theorem F8_run (n : Nat) (a0 : Batch) : F8.run [.v (.nm 2)] [.v (.bool)] n (a0, ()) =
 bif decide (a0.len ≤ (100 : Int)) then
  bif decide ((↑a0.columns.length : Int) ≤ (8 : Int)) then
   (F25.run [PK.v (Ty.nm 2)] [RK.v Ty.bool] 4000000 (a0, ())).bind fun r0 =>
    some ((r0.fst.fst, ()), ())
  else
   some ((false, ()), ())
 else
  some ((false, ()), ()) := by kernel_rfl
end Go.Proofs.Tryz
