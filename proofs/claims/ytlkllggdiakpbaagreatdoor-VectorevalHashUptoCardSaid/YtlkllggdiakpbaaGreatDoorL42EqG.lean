/- The functions of the program as the engine follows them (printed by a program of ours): their code, what is known of them, and the equations of their runs. -/
import Derived.Test.YtlkllggdiakpbaaGreatDoorL42Fns
set_option linter.unusedVariables false
set_option maxRecDepth 20000
namespace Go.Proofs.Tryz
open Go.Eng
noncomputable def F46c3 (n : Nat) (x0 : Int) (x1 : Vec) (x2 : Val) := F46.at [.v (.nm 3), .v (.int .i64)] [.v (.nm 0)] n 3 ⟨[U, .one (.int .i64 x0), .one (.bptr 0 0), U, .one (.bptr 1 0), U, U, U, U, U, U, U, U, U, U, U, U, U, U, U, U, U, U, U, U, U, U, U, U, U, U, U, U, U, U, U, U, U, U], [(0, .whole (.nm 3) x1 []), (1, .whole (.nm 0) x2 [])]⟩
theorem F46_run (n : Nat) (a0 : Vec) (a1 : Int) : F46.run [.v (.nm 3), .v (.int .i64)] [.v (.nm 0)] n (a0, a1, ()) =
 bif decide (a1 < (0 : Int)) then
  some ((zVal, ()), ())
 else
  bif decide ((↑a0.nulls.length : Int) ≤ a1) then
   some ((zVal, ()), ())
  else
   if (0 : Int) ≤ a1 then
    if a1 < (↑a0.nulls.length : Int) then
     bif a0.nulls.getD a1.toNat false then
      some ((zVal, ()), ())
     else
      F46c3 n (a1) (a0) (zVal)
    else
     none
   else
    none := by kernel_rfl
theorem F46c3_eq (n x0 x1 x2 : _) : F46c3 (n + 1) x0 x1 x2 =
 bif decide (x1.f_Type = (3 : Int)) then
  if (0 : Int) ≤ x0 then
   if x0 < (↑x1.texts.length : Int) then
    some (({ kind := (3 : Int), int := (0 : Int), text := x1.texts.getD x0.toNat [] : Val }, ()), ())
   else
    none
  else
   none
 else
  if (0 : Int) ≤ x0 then
   if x0 < (↑x1.ints.length : Int) then
    some (({ kind := x1.f_Type, int := x1.ints.getD x0.toNat (0 : Int), text := [] : Val }, ()), ())
   else
    none
  else
   none := by kernel_rfl
noncomputable def F19c5 (n : Nat) (x0 : Int) (x1 : Batch) (x2 : List (Int)) := F19.at [.v (.nm 2)] [.v (.sl (.int .i64))] n 5 ⟨[U, .one (.bptr 0 0), U, .one (.own 1), .one (.int .i64 x0), U, U, U, U, U, U, U, U, U, U, U, U, U, U, U, U], [(0, .whole (.nm 2) x1 []), (1, .row 3 (.int .i64) x2 [] false)]⟩
theorem F19_run (n : Nat) (a0 : Batch) : F19.run [.v (.nm 2)] [.v (.sl (.int .i64))] n (a0, ()) =
 bif !a0.all then
  some ((a0.sel, ()), ())
 else
  F19c5 n ((0 : Int)) (a0) ([]) := by kernel_rfl
theorem F19c5_eq (n x0 x1 x2 : _) : F19c5 (n + 1) x0 x1 x2 =
 bif decide (x0 < x1.len) then
  if x2.length + (1 : Nat) ≤ lim then
   F19c5 n (IntKind.i64.wrap (x0 + (1 : Int))) (x1) (x2 ++ [x0])
  else
   none
 else
  some ((x2, ()), ()) := by kernel_rfl
theorem F73_run (n : Nat) (a0 : Int) : F73.run [.v (.int .i64)] [.v (.bool)] n (a0, ()) =
 bif decide ((0 : Int) ≤ a0) then
  some ((decide (a0 ≤ (3 : Int)), ()), ())
 else
  some ((false, ()), ()) := by kernel_rfl
end Go.Proofs.Tryz
