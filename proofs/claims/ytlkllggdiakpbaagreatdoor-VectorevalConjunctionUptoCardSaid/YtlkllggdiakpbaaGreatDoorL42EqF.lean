/- The functions of the program as the engine follows them (printed by a program of ours): their code, what is known of them, and the equations of their runs. -/
import Derived.Test.YtlkllggdiakpbaaGreatDoorL42Fns
set_option linter.unusedVariables false
set_option maxRecDepth 20000
namespace Go.Proofs.Tryz
open Go.Eng
theorem F112_run (n : Nat) (a0 : List Int) (a1 : Int) : F112.run [.v (.str), .v (.int .i64)] [.v (.bool)] n (a0, a1, ()) =
 bif decide (a0 = [(110 : Int), (117 : Int), (108 : Int), (108 : Int), (105 : Int), (102 : Int)]) then
  bif decide (a1 = (2 : Int)) then
   some ((true, ()), ())
  else
   bif decide (a0 = [(99 : Int), (111 : Int), (97 : Int), (108 : Int), (101 : Int), (115 : Int), (99 : Int), (101 : Int)]) then
    some ((decide ((1 : Int) ≤ a1), ()), ())
   else
    bif decide (a0 = [(108 : Int), (101 : Int), (97 : Int), (115 : Int), (116 : Int)]) then
     some ((decide ((1 : Int) ≤ a1), ()), ())
    else
     bif decide (a0 = [(103 : Int), (114 : Int), (101 : Int), (97 : Int), (116 : Int), (101 : Int), (115 : Int), (116 : Int)]) then
      some ((decide ((1 : Int) ≤ a1), ()), ())
     else
      some ((false, ()), ())
 else
  bif decide (a0 = [(99 : Int), (111 : Int), (97 : Int), (108 : Int), (101 : Int), (115 : Int), (99 : Int), (101 : Int)]) then
   some ((decide ((1 : Int) ≤ a1), ()), ())
  else
   bif decide (a0 = [(108 : Int), (101 : Int), (97 : Int), (115 : Int), (116 : Int)]) then
    some ((decide ((1 : Int) ≤ a1), ()), ())
   else
    bif decide (a0 = [(103 : Int), (114 : Int), (101 : Int), (97 : Int), (116 : Int), (101 : Int), (115 : Int), (116 : Int)]) then
     some ((decide ((1 : Int) ≤ a1), ()), ())
    else
     some ((false, ()), ()) := by kernel_rfl
noncomputable def F110c4 (n : Nat) (x0 : List Int) (x1 : List Int) (x2 : Int) (x3 : List (Bool)) := F110.at [.v (.str), .v (.str)] [.v (.bool)] n 4 ⟨[.one (.str x0), .one (.str x1), U, U, U, .one (.own 0), .one (.int .i64 x2), U, U, U, U, U, U, U, U, U, U, U, U, U, U, U, U, U, U, U, U, U, U, U, U, U, U, U, U, U, U, U, U, U, U, U, U, U, U, U, U, U, U, U, U, U, U, U, U, U, U, U, U, U, U, U, U, U, U, U, U, U, U, U, U, U, U, U], [(0, .row 4 .bool x3 [] false)]⟩
noncomputable def F110c9 (n : Nat) (x0 : List Int) (x1 : List Int) (x2 : Int) (x3 : Int) (x4 : List (Bool)) := F110.at [.v (.str), .v (.str)] [.v (.bool)] n 9 ⟨[.one (.str x0), .one (.str x1), U, U, U, .one (.own 0), .one (.int .i64 x2), U, .one (.int .i64 x3), U, U, U, U, U, U, U, U, U, U, U, U, U, U, U, U, U, U, U, U, U, U, U, U, U, U, U, U, U, U, U, U, U, U, U, U, U, U, U, U, U, U, U, U, U, U, U, U, U, U, U, U, U, U, U, U, U, U, U, U, U, U, U, U, U], [(0, .row 4 .bool x4 [] false)]⟩
noncomputable def F110c14 (n : Nat) (x0 : List Int) (x1 : List Int) (x2 : Int) (x3 : Int) (x4 : Int) (x5 : List (Bool)) := F110.at [.v (.str), .v (.str)] [.v (.bool)] n 14 ⟨[.one (.str x0), .one (.str x1), U, U, U, .one (.own 0), .one (.int .i64 x2), .one (.int .u8 x3), U, .one (.int .i64 x4), U, U, U, U, U, U, U, U, U, U, U, U, U, U, U, U, U, U, U, U, U, U, U, U, U, U, U, U, U, U, U, U, U, U, U, U, U, U, U, U, U, U, U, U, U, U, U, U, U, U, U, U, U, U, U, U, U, U, U, U, U, U, U, U], [(0, .row 4 .bool x5 [] false)]⟩
theorem F110_run (n : Nat) (a0 : List Int) (a1 : List Int) : F110.run [.v (.str), .v (.str)] [.v (.bool)] n (a0, a1, ()) =
 if (0 : Int) ≤ IntKind.i64.wrap ((↑a1.length : Int) + (1 : Int)) then
  if IntKind.i64.wrap ((↑a1.length : Int) + (1 : Int)) ≤ (↑lim : Int) then
   if (0 : Int) < (↑(List.replicate (IntKind.i64.wrap ((↑a1.length : Int) + (1 : Int))).toNat false).length : Int) then
    F110c4 n (a0) (a1) ((0 : Int)) ((List.replicate (IntKind.i64.wrap ((↑a1.length : Int) + (1 : Int))).toNat false).set (Int.toNat (0 : Int)) true)
   else
    none
  else
   none
 else
  none := by kernel_rfl
theorem F110c4_eq (n x0 x1 x2 x3 : _) : F110c4 (n + 1) x0 x1 x2 x3 =
 bif decide (x2 < (↑x0.length : Int)) then
  if (0 : Int) ≤ x2 then
   if x2 < (↑x0.length : Int) then
    bif decide (x0.getD x2.toNat (0 : Int) = (37 : Int)) then
     F110c9 n (x0) (x1) (x2) ((1 : Int)) (x3)
    else
     F110c14 n (x0) (x1) (x2) (x0.getD x2.toNat (0 : Int)) ((↑x1.length : Int)) (x3)
   else
    none
  else
   none
 else
  if (↑x1.length : Int) < (↑x3.length : Int) then
   some ((x3.getD (↑x1.length : Int).toNat false, ()), ())
  else
   none := by kernel_rfl
theorem F110c9_eq (n x0 x1 x2 x3 x4 : _) : F110c9 (n + 1) x0 x1 x2 x3 x4 =
 bif decide (x3 ≤ (↑x1.length : Int)) then
  if (0 : Int) ≤ IntKind.i64.wrap (x3 - (1 : Int)) then
   if IntKind.i64.wrap (x3 - (1 : Int)) < (↑x4.length : Int) then
    bif x4.getD (IntKind.i64.wrap (x3 - (1 : Int))).toNat false then
     if (0 : Int) ≤ x3 then
      if x3 < (↑x4.length : Int) then
       F110c9 n (x0) (x1) (x2) (IntKind.i64.wrap (x3 + (1 : Int))) (x4.set x3.toNat true)
      else
       none
     else
      none
    else
     F110c9 n (x0) (x1) (x2) (IntKind.i64.wrap (x3 + (1 : Int))) (x4)
   else
    none
  else
   none
 else
  F110c4 n (x0) (x1) (IntKind.i64.wrap (x2 + (1 : Int))) (x4) := by kernel_rfl
theorem F110c14_eq (n x0 x1 x2 x3 x4 x5 : _) : F110c14 (n + 1) x0 x1 x2 x3 x4 x5 =
 bif decide ((0 : Int) < x4) then
  if (0 : Int) ≤ IntKind.i64.wrap (x4 - (1 : Int)) then
   if IntKind.i64.wrap (x4 - (1 : Int)) < (↑x5.length : Int) then
    bif x5.getD (IntKind.i64.wrap (x4 - (1 : Int))).toNat false then
     bif decide (x3 = (95 : Int)) then
      if (0 : Int) ≤ x4 then
       if x4 < (↑x5.length : Int) then
        F110c14 n (x0) (x1) (x2) (x3) (IntKind.i64.wrap (x4 - (1 : Int))) (x5.set x4.toNat true)
       else
        none
      else
       none
     else
      if (0 : Int) ≤ IntKind.i64.wrap (x4 - (1 : Int)) then
       if IntKind.i64.wrap (x4 - (1 : Int)) < (↑x1.length : Int) then
        if (0 : Int) ≤ x4 then
         if x4 < (↑x5.length : Int) then
          F110c14 n (x0) (x1) (x2) (x3) (IntKind.i64.wrap (x4 - (1 : Int))) (x5.set x4.toNat (decide (x3 = x1.getD (IntKind.i64.wrap (x4 - (1 : Int))).toNat (0 : Int))))
         else
          none
        else
         none
       else
        none
      else
       none
    else
     if (0 : Int) ≤ x4 then
      if x4 < (↑x5.length : Int) then
       F110c14 n (x0) (x1) (x2) (x3) (IntKind.i64.wrap (x4 - (1 : Int))) (x5.set x4.toNat false)
      else
       none
     else
      none
   else
    none
  else
   none
 else
  if (0 : Int) < (↑x5.length : Int) then
   F110c4 n (x0) (x1) (IntKind.i64.wrap (x2 + (1 : Int))) (x5.set (Int.toNat (0 : Int)) false)
  else
   none := by kernel_rfl
end Go.Proofs.Tryz
