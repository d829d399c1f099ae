/- The functions of the program as the engine follows them (printed by a program of ours): their code, what is known of them, and the equations of their runs. -/
import Derived.Test.YtlkllggdiakpbaaGreatDoorL42Fns
set_option linter.unusedVariables false
set_option maxRecDepth 20000
namespace Go.Proofs.Tryz
open Go.Eng
theorem F73_run (n : Nat) (a0 : Int) : F73.run [.v (.int .i64)] [.v (.bool)] n (a0, ()) =
 bif decide ((0 : Int) ≤ a0) then
  some ((decide (a0 ≤ (3 : Int)), ()), ())
 else
  some ((false, ()), ()) := by kernel_rfl
noncomputable def F143c3 (n : Nat) (x0 : List (Int)) (x1 : Int) (x2 : Int) := F143.at [.v (.sl (.int .i64))] [.v (.int .i64), .v (.bool)] n 3 ⟨[.one (.data (.sl (.int .i64)) x0 []), U, U, U, .one (.int .i64 x1), .one (.int .i64 x2), U, U, U, U, U, U, U, U, U, U, U, U, U, U, U, U, U, U, U, U, U, U, U, U, U, U, U, U, U, U, U, U, U], []⟩
noncomputable def F143c7 (n : Nat) (x0 : List (Int)) (x1 : Int) (x2 : Int) := F143.at [.v (.sl (.int .i64))] [.v (.int .i64), .v (.bool)] n 7 ⟨[.one (.data (.sl (.int .i64)) x0 []), U, U, U, .one (.int .i64 x1), .one (.int .i64 x2), U, U, U, U, U, U, U, U, U, U, U, U, U, U, U, U, U, U, U, U, U, U, U, U, U, U, U, U, U, U, U, U, U], []⟩
theorem F143_run (n : Nat) (a0 : List (Int)) : F143.run [.v (.sl (.int .i64))] [.v (.int .i64), .v (.bool)] n (a0, ()) =
 F143c3 n (a0) ((0 : Int)) ((0 : Int)) := by kernel_rfl
theorem F143c3_eq (n x0 x1 x2 : _) : F143c3 (n + 1) x0 x1 x2 =
 bif decide (x2 < (↑x0.length : Int)) then
  if (0 : Int) ≤ x2 then
   if x2 < (↑x0.length : Int) then
    bif !decide (x0.getD x2.toNat (0 : Int) = (0 : Int)) then
     bif !decide (x1 = (0 : Int)) then
      if (0 : Int) ≤ x2 then
       if x2 < (↑x0.length : Int) then
        bif !decide (x0.getD x2.toNat (0 : Int) = x1) then
         some (((0 : Int), (false, ())), ())
        else
         F143c7 n (x0) (x1) (x2)
       else
        none
      else
       none
     else
      F143c7 n (x0) (x1) (x2)
    else
     F143c7 n (x0) (x1) (x2)
   else
    none
  else
   none
 else
  some ((x1, (true, ())), ()) := by kernel_rfl
theorem F143c7_eq (n x0 x1 x2 : _) : F143c7 (n + 1) x0 x1 x2 =
 if (0 : Int) ≤ x2 then
  if x2 < (↑x0.length : Int) then
   bif !decide (x0.getD x2.toNat (0 : Int) = (0 : Int)) then
    if (0 : Int) ≤ x2 then
     if x2 < (↑x0.length : Int) then
      F143c3 n (x0) (x0.getD x2.toNat (0 : Int)) (IntKind.i64.wrap (x2 + (1 : Int)))
     else
      none
    else
     none
   else
    F143c3 n (x0) (x1) (IntKind.i64.wrap (x2 + (1 : Int)))
  else
   none
 else
  none := by kernel_rfl
noncomputable def F125c8 (n : Nat) (x0 : List (Int)) (x1 : Int) (x2 : List (Int)) := F125.at [.v (.str), .v (.sl (.int .i64))] [.v (.int .i64), .v (.bool)] n 8 ⟨[U, .one (.data (.sl (.int .i64)) x0 []), U, U, U, U, .one (.own 0), .one (.int .i64 x1), U, U, U, U, U, U, U, U, U, U, U, U, U, U, U, U, U, U, U, U, U, U, U, U, U, U, U, U, U, U, U, U, U, U, U, U, U, U, U, U, U, U, U, U, U, U, U, U, U, U, U], [(0, .row 3 (.int .i64) x2 [] false)]⟩
noncomputable def F125c9 (n : Nat) (x0 : List (Int)) (x1 : Int) (x2 : Int) (x3 : List (Int)) := F125.at [.v (.str), .v (.sl (.int .i64))] [.v (.int .i64), .v (.bool)] n 9 ⟨[U, .one (.data (.sl (.int .i64)) x0 []), U, U, U, U, .one (.own 0), .one (.int .i64 x1), U, .one (.int .i64 x2), U, U, U, U, U, U, U, U, U, U, U, U, U, U, U, U, U, U, U, U, U, U, U, U, U, U, U, U, U, U, U, U, U, U, U, U, U, U, U, U, U, U, U, U, U, U, U, U, U], [(0, .row 3 (.int .i64) x3 [] false)]⟩
theorem F125_run (n : Nat) (a0 : List Int) (a1 : List (Int)) : F125.run [.v (.str), .v (.sl (.int .i64))] [.v (.int .i64), .v (.bool)] n (a0, a1, ()) =
 bif decide ((256 : Int) < (↑a1.length : Int)) then
  some (((0 : Int), (false, ())), ())
 else
  (F112.run [PK.v Ty.str, PK.v (Ty.int .i64)] [RK.v Ty.bool] 4000000 (a0, (↑a1.length : Int), ())).bind fun r0 =>
   bif r0.fst.fst then
    (F143.run [PK.v (Ty.int .i64).sl] [RK.v (Ty.int .i64), RK.v Ty.bool] 4000000 (a1, ())).bind fun r1 =>
     some ((r1.fst.fst, (r1.fst.snd.fst, ())), ())
   else
    (F114.run [PK.v Ty.str] [RK.own 3 (Ty.int .i64), RK.v (Ty.int .i64), RK.v Ty.bool] 4000000 (a0, ())).bind fun r2 =>
     bif !r2.fst.snd.snd.fst then
      some (((0 : Int), (false, ())), ())
     else
      bif !decide ((↑(List.length r2.fst.fst) : Int) = (↑a1.length : Int)) then
       some (((0 : Int), (false, ())), ())
      else
       F125c8 n (a1) (r2.fst.snd.fst) (r2.fst.fst) := by kernel_rfl
theorem F125c8_eq (n x0 x1 x2 : _) : F125c8 (n + 1) x0 x1 x2 =
 F125c9 n (x0) (x1) ((0 : Int)) (x2) := by kernel_rfl
theorem F125c9_eq (n x0 x1 x2 x3 : _) : F125c9 (n + 1) x0 x1 x2 x3 =
 bif decide (x2 < (↑x3.length : Int)) then
  if (0 : Int) ≤ x2 then
   if x2 < (↑x0.length : Int) then
    if (0 : Int) ≤ x2 then
     if x2 < (↑x3.length : Int) then
      bif !decide (x0.getD x2.toNat (0 : Int) = x3.getD x2.toNat (0 : Int)) then
       if (0 : Int) ≤ x2 then
        if x2 < (↑x0.length : Int) then
         bif !decide (x0.getD x2.toNat (0 : Int) = (0 : Int)) then
          some (((0 : Int), (false, ())), ())
         else
          F125c9 n (x0) (x1) (IntKind.i64.wrap (x2 + (1 : Int))) (x3)
        else
         none
       else
        none
      else
       F125c9 n (x0) (x1) (IntKind.i64.wrap (x2 + (1 : Int))) (x3)
     else
      none
    else
     none
   else
    none
  else
   none
 else
  some ((x1, (true, ())), ()) := by kernel_rfl
theorem F121_run (n : Nat) (a0 : Int) (a1 : Int) : F121.run [.v (.int .i64), .v (.int .i64)] [.v (.bool)] n (a0, a1, ()) =
 bif decide (a0 = (0 : Int)) then
  some ((true, ()), ())
 else
  some ((decide (a0 = a1), ()), ()) := by kernel_rfl
noncomputable def F123c3 (n : Nat) (x0 : List (Int)) (x1 : Int) (x2 : Int) := F123.at [.v (.sl (.int .i64))] [.v (.int .i64), .v (.bool)] n 3 ⟨[.one (.data (.sl (.int .i64)) x0 []), U, U, U, .one (.int .i64 x1), .one (.int .i64 x2), U, U, U, U, U, U, U, U, U, U, U, U, U, U, U, U, U, U, U, U], []⟩
noncomputable def F123c7 (n : Nat) (x0 : List (Int)) (x1 : Int) (x2 : Int) := F123.at [.v (.sl (.int .i64))] [.v (.int .i64), .v (.bool)] n 7 ⟨[.one (.data (.sl (.int .i64)) x0 []), U, U, U, .one (.int .i64 x1), .one (.int .i64 x2), U, U, U, U, U, U, U, U, U, U, U, U, U, U, U, U, U, U, U, U], []⟩
theorem F123_run (n : Nat) (a0 : List (Int)) : F123.run [.v (.sl (.int .i64))] [.v (.int .i64), .v (.bool)] n (a0, ()) =
 F123c3 n (a0) ((0 : Int)) ((0 : Int)) := by kernel_rfl
theorem F123c3_eq (n x0 x1 x2 : _) : F123c3 (n + 1) x0 x1 x2 =
 bif decide (x2 < (↑x0.length : Int)) then
  bif decide (x1 = (0 : Int)) then
   if (0 : Int) ≤ x2 then
    if x2 < (↑x0.length : Int) then
     F123c7 n (x0) (x0.getD x2.toNat (0 : Int)) (x2)
    else
     none
   else
    none
  else
   F123c7 n (x0) (x1) (x2)
 else
  some ((x1, (true, ())), ()) := by kernel_rfl
theorem F123c7_eq (n x0 x1 x2 : _) : F123c7 (n + 1) x0 x1 x2 =
 if (0 : Int) ≤ x2 then
  if x2 < (↑x0.length : Int) then
   (F121.run [PK.v (Ty.int .i64), PK.v (Ty.int .i64)] [RK.v Ty.bool] 4000000 (x0.getD x2.toNat (0 : Int), x1, ())).bind fun r0 =>
    bif !r0.fst.fst then
     some (((0 : Int), (false, ())), ())
    else
     F123c3 n (x0) (x1) (IntKind.i64.wrap (x2 + (1 : Int)))
  else
   none
 else
  none := by kernel_rfl
noncomputable def F124c5 (n : Nat) (x0 : List (Int)) (x1 : Int) (x2 : List (Int)) := F124.at [.v (.sl (.int .i64))] [.v (.int .i64), .v (.bool)] n 5 ⟨[.one (.data (.sl (.int .i64)) x0 []), U, U, U, .one (.own 0), .one (.int .i64 x1), U, U, U, U, U, U, U, U, U, U, U, U, U, U, U, U, U, U, U, U, U, U, U, U, U, U, U, U, U, U, U, U, U, U, U, U], [(0, .row 3 (.int .i64) x2 [] false)]⟩
noncomputable def F124c10 (n : Nat) (x0 : List (Int)) (x1 : Int) (x2 : List (Int)) := F124.at [.v (.sl (.int .i64))] [.v (.int .i64), .v (.bool)] n 10 ⟨[.one (.data (.sl (.int .i64)) x0 []), U, U, U, .one (.own 0), .one (.int .i64 x1), U, U, U, U, U, U, U, U, U, U, U, U, U, U, U, U, U, U, U, U, U, U, U, U, U, U, U, U, U, U, U, U, U, U, U, U], [(0, .row 3 (.int .i64) x2 [] false)]⟩
theorem F124_run (n : Nat) (a0 : List (Int)) : F124.run [.v (.sl (.int .i64))] [.v (.int .i64), .v (.bool)] n (a0, ()) =
 bif decide ((↑a0.length : Int) < (2 : Int)) then
  some (((0 : Int), (false, ())), ())
 else
  F124c5 n (a0) ((0 : Int)) ([]) := by kernel_rfl
theorem F124c5_eq (n x0 x1 x2 : _) : F124c5 (n + 1) x0 x1 x2 =
 bif decide (x1 < (↑x0.length : Int)) then
  bif decide (x1.tmod (2 : Int) = (0 : Int)) then
   bif decide (IntKind.i64.wrap (x1 + (1 : Int)) < (↑x0.length : Int)) then
    if (0 : Int) ≤ x1 then
     if x1 < (↑x0.length : Int) then
      (F121.run [PK.v (Ty.int .i64), PK.v (Ty.int .i64)] [RK.v Ty.bool] 4000000 (x0.getD x1.toNat (0 : Int), (1 : Int), ())).bind fun r0 =>
       bif !r0.fst.fst then
        some (((0 : Int), (false, ())), ())
       else
        F124c5 n (x0) (IntKind.i64.wrap (x1 + (1 : Int))) (x2)
     else
      none
    else
     none
   else
    F124c10 n (x0) (x1) (x2)
  else
   F124c10 n (x0) (x1) (x2)
 else
  (F123.run [PK.v (Ty.int .i64).sl] [RK.v (Ty.int .i64), RK.v Ty.bool] 4000000 (x2, ())).bind fun r1 =>
   some ((r1.fst.fst, (r1.fst.snd.fst, ())), ()) := by kernel_rfl
theorem F124c10_eq (n x0 x1 x2 : _) : F124c10 (n + 1) x0 x1 x2 =
 if (0 : Int) ≤ x1 then
  if x1 < (↑x0.length : Int) then
   if x2.length + (1 : Nat) ≤ lim then
    F124c5 n (x0) (IntKind.i64.wrap (x1 + (1 : Int))) (x2 ++ [x0.getD x1.toNat (0 : Int)])
   else
    none
  else
   none
 else
  none := by kernel_rfl
noncomputable def F122c6 (n : Nat) (x0 : Int) (x1 : List (Int)) := F122.at [.v (.int .i64), .v (.sl (.int .i64))] [.v (.int .i64), .v (.bool)] n 6 ⟨[.one (.int .i64 x0), .one (.data (.sl (.int .i64)) x1 []), U, U, U, U, U, U, U, U, U, U, U, U, U, U, U, U, U, U, U, U, U, U, U, U, U, U, U, U, U, U, U, U, U, U, U, U, U, U, U, U, U, U, U, U, U, U, U, U, U, U, U, U, U, U, U, U], []⟩
noncomputable def F122c15 (n : Nat) (x0 : List (Int)) (x1 : Int) (x2 : Int) := F122.at [.v (.int .i64), .v (.sl (.int .i64))] [.v (.int .i64), .v (.bool)] n 15 ⟨[U, .one (.data (.sl (.int .i64)) x0 []), U, U, U, U, U, U, .one (.int .i64 x1), .one (.int .i64 x2), U, U, U, U, U, U, U, U, U, U, U, U, U, U, U, U, U, U, U, U, U, U, U, U, U, U, U, U, U, U, U, U, U, U, U, U, U, U, U, U, U, U, U, U, U, U, U, U], []⟩
theorem F122_run (n : Nat) (a0 : Int) (a1 : List (Int)) : F122.run [.v (.int .i64), .v (.sl (.int .i64))] [.v (.int .i64), .v (.bool)] n (a0, a1, ()) =
 bif !decide ((↑a1.length : Int) = (2 : Int)) then
  some (((0 : Int), (false, ())), ())
 else
  bif decide ((1 : Int) ≤ a0) then
   bif decide (a0 ≤ (6 : Int)) then
    (F123.run [PK.v (Ty.int .i64).sl] [RK.v (Ty.int .i64), RK.v Ty.bool] 4000000 (a1, ())).bind fun r0 =>
     some (((1 : Int), (r0.fst.snd.fst, ())), ())
   else
    F122c6 n (a0) (a1)
  else
   F122c6 n (a0) (a1) := by kernel_rfl
theorem F122c6_eq (n x0 x1 : _) : F122c6 (n + 1) x0 x1 =
 bif decide (x0 = (7 : Int)) then
  F122c15 n (x1) ((1 : Int)) ((1 : Int))
 else
  bif decide (x0 = (8 : Int)) then
   F122c15 n (x1) ((1 : Int)) ((1 : Int))
  else
   bif decide (x0 = (14 : Int)) then
    F122c15 n (x1) ((3 : Int)) ((3 : Int))
   else
    bif decide (x0 = (15 : Int)) then
     F122c15 n (x1) ((3 : Int)) ((1 : Int))
    else
     bif decide (x0 < (9 : Int)) then
      some (((0 : Int), (false, ())), ())
     else
      bif decide ((13 : Int) < x0) then
       some (((0 : Int), (false, ())), ())
      else
       F122c15 n (x1) ((2 : Int)) ((2 : Int)) := by kernel_rfl
theorem F122c15_eq (n x0 x1 x2 : _) : F122c15 (n + 1) x0 x1 x2 =
 if (0 : Int) < (↑x0.length : Int) then
  (F121.run [PK.v (Ty.int .i64), PK.v (Ty.int .i64)] [RK.v Ty.bool] 4000000 (x0.getD (Int.toNat (0 : Int)) (0 : Int), x1, ())).bind fun r1 =>
   bif r1.fst.fst then
    if (1 : Int) < (↑x0.length : Int) then
     (F121.run [PK.v (Ty.int .i64), PK.v (Ty.int .i64)] [RK.v Ty.bool] 4000000 (x0.getD (Int.toNat (1 : Int)) (0 : Int), x1, ())).bind fun r2 =>
      some ((x2, (r2.fst.fst, ())), ())
    else
     none
   else
    some ((x2, (false, ())), ())
 else
  none := by kernel_rfl
theorem F120_run (n : Nat) (a0 : Val) : F120.run [.v (.nm 0)] [.v (.bool)] n (a0, ()) =
 bif decide (a0.kind = (0 : Int)) then
  bif decide (a0.int = (0 : Int)) then
   some ((decide (a0.text = []), ()), ())
  else
   some ((false, ()), ())
 else
  bif decide (a0.kind = (1 : Int)) then
   bif decide (a0.int = (0 : Int)) then
    some ((decide (a0.text = []), ()), ())
   else
    bif decide (a0.int = (1 : Int)) then
     some ((decide (a0.text = []), ()), ())
    else
     some ((false, ()), ())
  else
   bif decide (a0.kind = (2 : Int)) then
    some ((decide (a0.text = []), ()), ())
   else
    bif decide (a0.kind = (3 : Int)) then
     bif decide (a0.int = (0 : Int)) then
      some ((decide ((↑a0.text.length : Int) ≤ (4096 : Int)), ()), ())
     else
      some ((false, ()), ())
    else
     some ((false, ()), ()) := by kernel_rfl
noncomputable def F119c3 (n : Nat) (x0 : Ex) := F119.at [.v (.nm 1)] [.v (.bool)] n 3 ⟨[U, .one (.bptr 0 0), U, U, U, U, U, U, U, U, U, U, U, U, U, U, U, U, U, U, U, U, U, U, U, U, U, U, U, U, U, U, U, U, U, U, U, U, U, U, U, U, U, U, U, U, U, U, U, U, U, U, U, U, U, U, U, U, U, U, U, U, U, U, U, U, U, U, U, U, U, U, U], [(0, .whole (.nm 1) x0 [])]⟩
theorem F119_run (n : Nat) (a0 : Ex) : F119.run [.v (.nm 1)] [.v (.bool)] n (a0, ()) =
 bif !decide (a0.kind = (1 : Int)) then
  bif !(decide (a0.value.kind = (0 : Int)) && (decide (a0.value.int = (0 : Int)) && (decide (a0.value.text = []) && true))) then
   some ((false, ()), ())
  else
   bif !decide (a0.kind = (2 : Int)) then
    bif !decide (a0.slot = (0 : Int)) then
     some ((false, ()), ())
    else
     bif !decide (a0.table = []) then
      some ((false, ()), ())
     else
      bif !decide (a0.kind = (5 : Int)) then
       bif !decide (a0.op = (0 : Int)) then
        some ((false, ()), ())
       else
        F119c3 n (a0)
      else
       F119c3 n (a0)
   else
    bif !decide (a0.kind = (5 : Int)) then
     bif !decide (a0.op = (0 : Int)) then
      some ((false, ()), ())
     else
      F119c3 n (a0)
    else
     F119c3 n (a0)
 else
  bif !decide (a0.kind = (2 : Int)) then
   bif !decide (a0.slot = (0 : Int)) then
    some ((false, ()), ())
   else
    bif !decide (a0.table = []) then
     some ((false, ()), ())
    else
     bif !decide (a0.kind = (5 : Int)) then
      bif !decide (a0.op = (0 : Int)) then
       some ((false, ()), ())
      else
       F119c3 n (a0)
     else
      F119c3 n (a0)
  else
   bif !decide (a0.kind = (5 : Int)) then
    bif !decide (a0.op = (0 : Int)) then
     some ((false, ()), ())
    else
     F119c3 n (a0)
   else
    F119c3 n (a0) := by kernel_rfl
theorem F119c3_eq (n x0 : _) : F119c3 (n + 1) x0 =
 bif decide (x0.name = []) then
  bif !x0.distinct then
   bif decide ((↑x0.partitionBy.length : Int) = (0 : Int)) then
    bif decide ((↑x0.orderBy.length : Int) = (0 : Int)) then
     some ((decide ((↑x0.args.length : Int) ≤ (256 : Int)), ()), ())
    else
     some ((false, ()), ())
   else
    some ((false, ()), ())
  else
   some ((false, ()), ())
 else
  bif decide (x0.kind = (2 : Int)) then
   bif !x0.distinct then
    bif decide ((↑x0.partitionBy.length : Int) = (0 : Int)) then
     bif decide ((↑x0.orderBy.length : Int) = (0 : Int)) then
      some ((decide ((↑x0.args.length : Int) ≤ (256 : Int)), ()), ())
     else
      some ((false, ()), ())
    else
     some ((false, ()), ())
   else
    some ((false, ()), ())
  else
   bif decide (x0.kind = (9 : Int)) then
    bif !x0.distinct then
     bif decide ((↑x0.partitionBy.length : Int) = (0 : Int)) then
      bif decide ((↑x0.orderBy.length : Int) = (0 : Int)) then
       some ((decide ((↑x0.args.length : Int) ≤ (256 : Int)), ()), ())
      else
       some ((false, ()), ())
     else
      some ((false, ()), ())
    else
     some ((false, ()), ())
   else
    some ((false, ()), ()) := by kernel_rfl
end Go.Proofs.Tryz
