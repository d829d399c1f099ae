/- The functions of the program as the engine follows them (printed by a program of ours): their code, what is known of them, and the equations of their runs. -/
import Derived.Test.YtlkllggdiakpbaaGreatDoorL42Lives
import Derived.Test.YtlkllggdiakpbaaGreatDoorL42HFns
set_option linter.unusedVariables false
set_option maxRecDepth 20000
namespace Go.Proofs.Tryz
open Go.Eng
noncomputable def F5 : Eng.Fn NN := ⟨⟨(Eng.look tys), (lookS [(10, sp10), (20, sp20), (23, sp23), (22, sp22), (21, sp21), (19, sp19), (8, sp8)]), Eng.look [(3, [0, 3, 4, 6, 7]), (8, [0, 3, 4, 6, 7, 12, 13, 14]), (10, [0, 3, 4, 6, 7, 12, 13, 14]), (12, [0, 3, 4, 6, 7]), (17, [0, 3, 4, 6, 7])], Eng.pinIds 0 [.v (.int .u64), .v (.nm 2), .v (.nm 2), .v (.int .i64), .v (.int .i64)], 0⟩, Eng.bodyOf Go.Proofs.Tryz.f5, [.tmp 10], 122⟩
noncomputable def sp5 : Eng.Spec NN := F5.spec [.v (.int .u64), .v (.nm 2), .v (.nm 2), .v (.int .i64), .v (.int .i64)] [.v (.bool)] 4000000
theorem good5 : Eng.Good prog 5 sp5 := Eng.good_fn (fn := f5) fits (by kernel_rfl) mixed (by kernel_rfl) (.cons good10 (.cons good20 (.cons good23 (.cons good22 (.cons good21 (.cons good19 (.cons good8 .nil))))))) (by kernel_rfl) (by kernel_rfl) (by kernel_rfl) (by kernel_rfl) (by kernel_rfl) (by kernel_rfl) (by kernel_rfl) (by kernel_rfl) (by kernel_rfl)
noncomputable def F5c3 (n : Nat) (x0 : Int) (x1 : Int) (x2 : Int) (x3 : Batch) (x4 : Batch) := F5.at [.v (.int .u64), .v (.nm 2), .v (.nm 2), .v (.int .i64), .v (.int .i64)] [.v (.bool)] n 3 ⟨[.one (.int .u64 x0), U, U, .one (.int .i64 x1), .one (.int .i64 x2), U, .one (.bptr 0 0), .one (.bptr 1 0), U, U, U, U, U, U, U, U, U, U, U, U, U, U, U, U, U, U, U, U, U, U, U, U, U, U, U, U, U, U, U, U, U, U, U, U, U, U, U, U, U, U, U, U, U, U, U, U, U, U, U, U, U, U, U, U, U, U, U, U, U, U, U, U, U, U, U, U, U, U, U, U, U, U, U, U, U, U, U, U, U, U, U, U, U, U, U, U, U, U, U, U, U, U, U, U, U, U, U, U, U, U, U, U, U, U, U, U, U, U, U, U, U, U], [(0, .whole (.nm 2) x3 []), (1, .whole (.nm 2) x4 [])]⟩
noncomputable def F5c8 (n : Nat) (x0 : Int) (x1 : Int) (x2 : Int) (x3 : Int) (x4 : Batch) (x5 : Batch) (x6 : List (Int)) (x7 : List (Int)) := F5.at [.v (.int .u64), .v (.nm 2), .v (.nm 2), .v (.int .i64), .v (.int .i64)] [.v (.bool)] n 8 ⟨[.one (.int .u64 x0), U, U, .one (.int .i64 x1), .one (.int .i64 x2), U, .one (.bptr 0 0), .one (.bptr 1 0), U, U, U, U, .one (.own 2), .one (.own 3), .one (.int .i64 x3), U, U, U, U, U, U, U, U, U, U, U, U, U, U, U, U, U, U, U, U, U, U, U, U, U, U, U, U, U, U, U, U, U, U, U, U, U, U, U, U, U, U, U, U, U, U, U, U, U, U, U, U, U, U, U, U, U, U, U, U, U, U, U, U, U, U, U, U, U, U, U, U, U, U, U, U, U, U, U, U, U, U, U, U, U, U, U, U, U, U, U, U, U, U, U, U, U, U, U, U, U, U, U, U, U, U, U], [(0, .whole (.nm 2) x4 []), (1, .whole (.nm 2) x5 []), (2, .row 46 (.int .u64) x6 [] false), (3, .row 46 (.int .u64) x7 [] false)]⟩
noncomputable def F5c10 (n : Nat) (x0 : Int) (x1 : Int) (x2 : Int) (x3 : Int) (x4 : Batch) (x5 : Batch) (x6 : List (Int)) (x7 : List (Int)) := F5.at [.v (.int .u64), .v (.nm 2), .v (.nm 2), .v (.int .i64), .v (.int .i64)] [.v (.bool)] n 10 ⟨[.one (.int .u64 x0), U, U, .one (.int .i64 x1), .one (.int .i64 x2), U, .one (.bptr 0 0), .one (.bptr 1 0), U, U, U, U, .one (.own 2), .one (.own 3), .one (.int .i64 x3), U, U, U, U, U, U, U, U, U, U, U, U, U, U, U, U, U, U, U, U, U, U, U, U, U, U, U, U, U, U, U, U, U, U, U, U, U, U, U, U, U, U, U, U, U, U, U, U, U, U, U, U, U, U, U, U, U, U, U, U, U, U, U, U, U, U, U, U, U, U, U, U, U, U, U, U, U, U, U, U, U, U, U, U, U, U, U, U, U, U, U, U, U, U, U, U, U, U, U, U, U, U, U, U, U, U, U], [(0, .whole (.nm 2) x4 []), (1, .whole (.nm 2) x5 []), (2, .row 46 (.int .u64) x6 [] false), (3, .row 46 (.int .u64) x7 [] false)]⟩
noncomputable def F5c12 (n : Nat) (x0 : Int) (x1 : Int) (x2 : Int) (x3 : Batch) (x4 : Batch) := F5.at [.v (.int .u64), .v (.nm 2), .v (.nm 2), .v (.int .i64), .v (.int .i64)] [.v (.bool)] n 12 ⟨[.one (.int .u64 x0), U, U, .one (.int .i64 x1), .one (.int .i64 x2), U, .one (.bptr 0 0), .one (.bptr 1 0), U, U, U, U, U, U, U, U, U, U, U, U, U, U, U, U, U, U, U, U, U, U, U, U, U, U, U, U, U, U, U, U, U, U, U, U, U, U, U, U, U, U, U, U, U, U, U, U, U, U, U, U, U, U, U, U, U, U, U, U, U, U, U, U, U, U, U, U, U, U, U, U, U, U, U, U, U, U, U, U, U, U, U, U, U, U, U, U, U, U, U, U, U, U, U, U, U, U, U, U, U, U, U, U, U, U, U, U, U, U, U, U, U, U], [(0, .whole (.nm 2) x3 []), (1, .whole (.nm 2) x4 [])]⟩
noncomputable def F5c17 (n : Nat) (x0 : Int) (x1 : Int) (x2 : Int) (x3 : Batch) (x4 : Batch) := F5.at [.v (.int .u64), .v (.nm 2), .v (.nm 2), .v (.int .i64), .v (.int .i64)] [.v (.bool)] n 17 ⟨[.one (.int .u64 x0), U, U, .one (.int .i64 x1), .one (.int .i64 x2), U, .one (.bptr 0 0), .one (.bptr 1 0), U, U, U, U, U, U, U, U, U, U, U, U, U, U, U, U, U, U, U, U, U, U, U, U, U, U, U, U, U, U, U, U, U, U, U, U, U, U, U, U, U, U, U, U, U, U, U, U, U, U, U, U, U, U, U, U, U, U, U, U, U, U, U, U, U, U, U, U, U, U, U, U, U, U, U, U, U, U, U, U, U, U, U, U, U, U, U, U, U, U, U, U, U, U, U, U, U, U, U, U, U, U, U, U, U, U, U, U, U, U, U, U, U, U], [(0, .whole (.nm 2) x3 []), (1, .whole (.nm 2) x4 [])]⟩
theorem F5_run (n : Nat) (a0 : Int) (a1 : Batch) (a2 : Batch) (a3 : Int) (a4 : Int) : F5.run [.v (.int .u64), .v (.nm 2), .v (.nm 2), .v (.int .i64), .v (.int .i64)] [.v (.bool)] n (a0, a1, a2, a3, a4, ()) =
 (F8.run [PK.v (Ty.nm 2)] [RK.v Ty.bool] 4000000 (a1, ())).bind fun r0 =>
  bif !r0.fst.fst then
   some ((true, ()), ())
  else
   (F8.run [PK.v (Ty.nm 2)] [RK.v Ty.bool] 4000000 (a2, ())).bind fun r1 =>
    bif !r1.fst.fst then
     some ((true, ()), ())
    else
     F5c3 n (a0) (a3) (a4) (a1) (a2) := by kernel_rfl
theorem F5c3_eq (n x0 x1 x2 x3 x4 : _) : F5c3 (n + 1) x0 x1 x2 x3 x4 =
 (F19.run [PK.v (Ty.nm 2)] [RK.v (Ty.int .i64).sl] 4000000 (x3, ())).bind fun r2 =>
  (F20.run [PK.v (Ty.int IntKind.u64), PK.v (Ty.nm 3).sl, PK.v (Ty.int .i64).sl] [RK.own 46 (Ty.int IntKind.u64)] 4000000 (x0, x3.columns, r2.fst.fst, ())).bind fun r3 =>
   (F21.run [PK.v (Ty.int IntKind.u64), PK.v (Ty.nm 3).sl, PK.v (Ty.int .i64).sl] [RK.own 46 (Ty.int IntKind.u64)] 4000000 (x0, x3.columns, r2.fst.fst, ())).bind fun r4 =>
    bif !decide ((↑(List.length r3.fst.fst) : Int) = (↑(List.length r4.fst.fst) : Int)) then
     some ((false, ()), ())
    else
     F5c8 n (x0) (x1) (x2) ((0 : Int)) (x3) (x4) (r3.fst.fst) (r4.fst.fst) := by kernel_rfl
theorem F5c8_eq (n x0 x1 x2 x3 x4 x5 x6 x7 : _) : F5c8 (n + 1) x0 x1 x2 x3 x4 x5 x6 x7 =
 bif decide (x3 < (↑x6.length : Int)) then
  bif decide (x3 < (↑x7.length : Int)) then
   F5c10 n (x0) (x1) (x2) (x3) (x4) (x5) (x6) (x7)
  else
   F5c12 n (x0) (x1) (x2) (x4) (x5)
 else
  F5c12 n (x0) (x1) (x2) (x4) (x5) := by kernel_rfl
theorem F5c10_eq (n x0 x1 x2 x3 x4 x5 x6 x7 : _) : F5c10 (n + 1) x0 x1 x2 x3 x4 x5 x6 x7 =
 if (0 : Int) ≤ x3 then
  if x3 < (↑x6.length : Int) then
   if (0 : Int) ≤ x3 then
    if x3 < (↑x7.length : Int) then
     bif !decide (x6.getD x3.toNat (0 : Int) = x7.getD x3.toNat (0 : Int)) then
      some ((false, ()), ())
     else
      F5c8 n (x0) (x1) (x2) (IntKind.i64.wrap (x3 + (1 : Int))) (x4) (x5) (x6) (x7)
    else
     none
   else
    none
  else
   none
 else
  none := by kernel_rfl
theorem F5c12_eq (n x0 x1 x2 x3 x4 : _) : F5c12 (n + 1) x0 x1 x2 x3 x4 =
 (F22.run [PK.v (Ty.nm 3).sl, PK.v (Ty.int .i64), PK.v (Ty.nm 3).sl, PK.v (Ty.int .i64)] [RK.v Ty.bool] 4000000 (x3.columns, x1, x4.columns, x2, ())).bind fun r5 =>
  (F23.run [PK.v (Ty.nm 3).sl, PK.v (Ty.int .i64), PK.v (Ty.nm 3).sl, PK.v (Ty.int .i64)] [RK.v Ty.bool] 4000000 (x3.columns, x1, x4.columns, x2, ())).bind fun r6 =>
   bif !decide (r5.fst.fst = r6.fst.fst) then
    some ((false, ()), ())
   else
    bif !r5.fst.fst then
     some ((true, ()), ())
    else
     bif decide ((↑x3.columns.length : Int) = (0 : Int)) then
      some ((true, ()), ())
     else
      F5c17 n (x0) (x1) (x2) (x3) (x4) := by kernel_rfl
theorem F5c17_eq (n x0 x1 x2 x3 x4 : _) : F5c17 (n + 1) x0 x1 x2 x3 x4 =
 (F20.run [PK.v (Ty.int IntKind.u64), PK.v (Ty.nm 3).sl, PK.v (Ty.int .i64).sl] [RK.own 46 (Ty.int IntKind.u64)] 4000000 (x0, x3.columns, [x1], ())).bind fun r7 =>
  (F20.run [PK.v (Ty.int IntKind.u64), PK.v (Ty.nm 3).sl, PK.v (Ty.int .i64).sl] [RK.own 46 (Ty.int IntKind.u64)] 4000000 (x0, x4.columns, [x2], ())).bind fun r8 =>
   bif decide ((↑(List.length r7.fst.fst) : Int) = (1 : Int)) then
    bif decide ((↑(List.length r8.fst.fst) : Int) = (1 : Int)) then
     if (0 : Int) < (↑(List.length r7.fst.fst) : Int) then
      if (0 : Int) < (↑(List.length r8.fst.fst) : Int) then
       bif decide (List.getD r7.fst.fst (Int.toNat (0 : Int)) (0 : Int) = List.getD r8.fst.fst (Int.toNat (0 : Int)) (0 : Int)) then
        some ((true, ()), ())
       else
        some ((false, ()), ())
      else
       none
     else
      none
    else
     some ((false, ()), ())
   else
    some ((false, ()), ()) := by kernel_rfl
end Go.Proofs.Tryz
