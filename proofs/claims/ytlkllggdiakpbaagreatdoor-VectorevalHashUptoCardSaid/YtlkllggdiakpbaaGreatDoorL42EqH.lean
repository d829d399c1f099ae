/- The functions of the program as the engine follows them (printed by a program of ours): their code, what is known of them, and the equations of their runs. -/
import Derived.Test.YtlkllggdiakpbaaGreatDoorL42Fns
set_option linter.unusedVariables false
set_option maxRecDepth 20000
namespace Go.Proofs.Tryz
open Go.Eng
theorem F82_run (n : Nat) (a0 : Vec) (a1 : Int) : F82.run [.v (.nm 3), .v (.int .i64)] [.v (.bool)] n (a0, a1, ()) =
 bif decide (a0.f_Type = (0 : Int)) then
  if (0 : Int) ≤ a1 then
   if a1 < (↑a0.nulls.length : Int) then
    some ((a0.nulls.getD a1.toNat false, ()), ())
   else
    none
  else
   none
 else
  bif decide (a0.f_Type = (3 : Int)) then
   if (0 : Int) ≤ a1 then
    if a1 < (↑a0.texts.length : Int) then
     bif decide ((↑(a0.texts.getD a1.toNat []).length : Int) ≤ (4096 : Int)) then
      if (0 : Int) ≤ a1 then
       if a1 < (↑a0.nulls.length : Int) then
        bif !a0.nulls.getD a1.toNat false then
         some ((true, ()), ())
        else
         if (0 : Int) ≤ a1 then
          if a1 < (↑a0.texts.length : Int) then
           some ((decide (a0.texts.getD a1.toNat [] = []), ()), ())
          else
           none
         else
          none
       else
        none
      else
       none
     else
      some ((false, ()), ())
    else
     none
   else
    none
  else
   bif decide (a0.f_Type = (1 : Int)) then
    if (0 : Int) ≤ a1 then
     if a1 < (↑a0.ints.length : Int) then
      bif decide (a0.ints.getD a1.toNat (0 : Int) = (0 : Int)) then
       some ((true, ()), ())
      else
       if (0 : Int) ≤ a1 then
        if a1 < (↑a0.ints.length : Int) then
         bif decide (a0.ints.getD a1.toNat (0 : Int) = (1 : Int)) then
          if (0 : Int) ≤ a1 then
           if a1 < (↑a0.nulls.length : Int) then
            some ((!a0.nulls.getD a1.toNat false, ()), ())
           else
            none
          else
           none
         else
          some ((false, ()), ())
        else
         none
       else
        none
     else
      none
    else
     none
   else
    if (0 : Int) ≤ a1 then
     if a1 < (↑a0.ints.length : Int) then
      bif decide (a0.ints.getD a1.toNat (0 : Int) = (0 : Int)) then
       some ((true, ()), ())
      else
       if (0 : Int) ≤ a1 then
        if a1 < (↑a0.nulls.length : Int) then
         some ((!a0.nulls.getD a1.toNat false, ()), ())
        else
         none
       else
        none
     else
      none
    else
     none := by kernel_rfl
noncomputable def F48c6 (n : Nat) (x0 : Int) (x1 : Int) (x2 : Vec) := F48.at [.v (.nm 3)] [.v (.bool)] n 6 ⟨[U, .one (.bptr 0 0), U, .one (.int .i64 x0), .one (.int .i64 x1), U, U, U, U, U, U, U, U, U, U, U, U, U, U, U, U, U, U, U, U, U, U, U, U, U, U, U, U, U, U, U, U, U, U, U, U, U, U, U, U, U, U, U, U, U], [(0, .whole (.nm 3) x2 [])]⟩
noncomputable def F48c8 (n : Nat) (x0 : Int) (x1 : Int) (x2 : Vec) := F48.at [.v (.nm 3)] [.v (.bool)] n 8 ⟨[U, .one (.bptr 0 0), U, .one (.int .i64 x0), .one (.int .i64 x1), U, U, U, U, U, U, U, U, U, U, U, U, U, U, U, U, U, U, U, U, U, U, U, U, U, U, U, U, U, U, U, U, U, U, U, U, U, U, U, U, U, U, U, U, U], [(0, .whole (.nm 3) x2 [])]⟩
noncomputable def F48c10 (n : Nat) (x0 : Vec) := F48.at [.v (.nm 3)] [.v (.bool)] n 10 ⟨[U, .one (.bptr 0 0), U, U, U, U, U, U, U, U, U, U, U, U, U, U, U, U, U, U, U, U, U, U, U, U, U, U, U, U, U, U, U, U, U, U, U, U, U, U, U, U, U, U, U, U, U, U, U, U], [(0, .whole (.nm 3) x0 [])]⟩
noncomputable def F48c11 (n : Nat) (x0 : Int) (x1 : Vec) := F48.at [.v (.nm 3)] [.v (.bool)] n 11 ⟨[U, .one (.bptr 0 0), U, U, U, .one (.int .i64 x0), U, U, U, U, U, U, U, U, U, U, U, U, U, U, U, U, U, U, U, U, U, U, U, U, U, U, U, U, U, U, U, U, U, U, U, U, U, U, U, U, U, U, U, U], [(0, .whole (.nm 3) x1 [])]⟩
theorem F48_run (n : Nat) (a0 : Vec) : F48.run [.v (.nm 3)] [.v (.bool)] n (a0, ()) =
 (F73.run [PK.v (Ty.int .i64)] [RK.v Ty.bool] 4000000 (a0.f_Type, ())).bind fun r0 =>
  bif !r0.fst.fst then
   some ((false, ()), ())
  else
   bif decide (a0.f_Type = (1 : Int)) then
    F48c6 n ((↑a0.nulls.length : Int)) ((0 : Int)) (a0)
   else
    bif decide (a0.f_Type = (2 : Int)) then
     F48c6 n ((↑a0.nulls.length : Int)) ((0 : Int)) (a0)
    else
     F48c6 n ((0 : Int)) ((0 : Int)) (a0) := by kernel_rfl
theorem F48c6_eq (n x0 x1 x2 : _) : F48c6 (n + 1) x0 x1 x2 =
 bif decide (x2.f_Type = (3 : Int)) then
  F48c8 n (x0) ((↑x2.nulls.length : Int)) (x2)
 else
  F48c8 n (x0) (x1) (x2) := by kernel_rfl
theorem F48c8_eq (n x0 x1 x2 : _) : F48c8 (n + 1) x0 x1 x2 =
 bif !decide ((↑x2.ints.length : Int) = x0) then
  some ((false, ()), ())
 else
  bif !decide ((↑x2.texts.length : Int) = x1) then
   some ((false, ()), ())
  else
   F48c10 n (x2) := by kernel_rfl
theorem F48c10_eq (n x0 : _) : F48c10 (n + 1) x0 =
 F48c11 n ((0 : Int)) (x0) := by kernel_rfl
theorem F48c11_eq (n x0 x1 : _) : F48c11 (n + 1) x0 x1 =
 bif decide (x0 < (↑x1.nulls.length : Int)) then
  (F82.run [PK.v (Ty.nm 3), PK.v (Ty.int .i64)] [RK.v Ty.bool] 4000000 (x1, x0, ())).bind fun r1 =>
   bif !r1.fst.fst then
    some ((false, ()), ())
   else
    F48c11 n (IntKind.i64.wrap (x0 + (1 : Int))) (x1)
 else
  some ((true, ()), ()) := by kernel_rfl
noncomputable def F25c3 (n : Nat) (x0 : Batch) := F25.at [.v (.nm 2)] [.v (.bool)] n 3 ⟨[U, .one (.bptr 0 0), U, U, U, U, U, U, U, U, U, U, U, U, U, U, U, U, U, U, U, U, U, U, U, U, U, U, U, U, U, U, U, U, U, U, U, U, U, U, U, U, U, U, U, U, U, U, U, U, U, U, U, U, U, U, U, U, U, U, U, U, U, U, U, U, U, U, U, U, U, U, U, U, U, U, U, U, U, U, U, U, U, U, U], [(0, .whole (.nm 2) x0 [])]⟩
noncomputable def F25c4 (n : Nat) (x0 : Int) (x1 : Batch) := F25.at [.v (.nm 2)] [.v (.bool)] n 4 ⟨[U, .one (.bptr 0 0), U, .one (.int .i64 x0), U, U, U, U, U, U, U, U, U, U, U, U, U, U, U, U, U, U, U, U, U, U, U, U, U, U, U, U, U, U, U, U, U, U, U, U, U, U, U, U, U, U, U, U, U, U, U, U, U, U, U, U, U, U, U, U, U, U, U, U, U, U, U, U, U, U, U, U, U, U, U, U, U, U, U, U, U, U, U, U, U], [(0, .whole (.nm 2) x1 [])]⟩
noncomputable def F25c9 (n : Nat) (x0 : Int) (x1 : Batch) := F25.at [.v (.nm 2)] [.v (.bool)] n 9 ⟨[U, .one (.bptr 0 0), U, U, .one (.int .i64 x0), U, U, U, U, U, U, U, U, U, U, U, U, U, U, U, U, U, U, U, U, U, U, U, U, U, U, U, U, U, U, U, U, U, U, U, U, U, U, U, U, U, U, U, U, U, U, U, U, U, U, U, U, U, U, U, U, U, U, U, U, U, U, U, U, U, U, U, U, U, U, U, U, U, U, U, U, U, U, U, U], [(0, .whole (.nm 2) x1 [])]⟩
noncomputable def F25c10 (n : Nat) (x0 : Int) (x1 : Batch) := F25.at [.v (.nm 2)] [.v (.bool)] n 10 ⟨[U, .one (.bptr 0 0), U, U, .one (.int .i64 x0), U, U, U, U, U, U, U, U, U, U, U, U, U, U, U, U, U, U, U, U, U, U, U, U, U, U, U, U, U, U, U, U, U, U, U, U, U, U, U, U, U, U, U, U, U, U, U, U, U, U, U, U, U, U, U, U, U, U, U, U, U, U, U, U, U, U, U, U, U, U, U, U, U, U, U, U, U, U, U, U], [(0, .whole (.nm 2) x1 [])]⟩
theorem F25_run (n : Nat) (a0 : Batch) : F25.run [.v (.nm 2)] [.v (.bool)] n (a0, ()) =
 bif decide (a0.len < (0 : Int)) then
  some ((false, ()), ())
 else
  bif a0.all then
   bif decide ((0 : Int) < (↑a0.sel.length : Int)) then
    some ((false, ()), ())
   else
    F25c3 n (a0)
  else
   F25c3 n (a0) := by kernel_rfl
theorem F25c3_eq (n x0 : _) : F25c3 (n + 1) x0 =
 F25c4 n ((0 : Int)) (x0) := by kernel_rfl
theorem F25c4_eq (n x0 x1 : _) : F25c4 (n + 1) x0 x1 =
 bif decide (x0 < (↑x1.columns.length : Int)) then
  if (0 : Int) ≤ x0 then
   if x0 < (↑x1.columns.length : Int) then
    (F48.run [PK.v (Ty.nm 3)] [RK.v Ty.bool] 4000000 (x1.columns.getD x0.toNat zVec, ())).bind fun r0 =>
     bif !r0.fst.fst then
      some ((false, ()), ())
     else
      if (0 : Int) ≤ x0 then
       if x0 < (↑x1.columns.length : Int) then
        bif !decide ((↑(x1.columns.getD x0.toNat zVec).nulls.length : Int) = x1.len) then
         some ((false, ()), ())
        else
         F25c4 n (IntKind.i64.wrap (x0 + (1 : Int))) (x1)
       else
        none
      else
       none
   else
    none
  else
   none
 else
  F25c9 n ((0 : Int)) (x1) := by kernel_rfl
theorem F25c9_eq (n x0 x1 : _) : F25c9 (n + 1) x0 x1 =
 bif decide (x0 < (↑x1.sel.length : Int)) then
  if (0 : Int) ≤ x0 then
   if x0 < (↑x1.sel.length : Int) then
    bif decide (x1.sel.getD x0.toNat (0 : Int) < (0 : Int)) then
     some ((false, ()), ())
    else
     if (0 : Int) ≤ x0 then
      if x0 < (↑x1.sel.length : Int) then
       bif decide (x1.len ≤ x1.sel.getD x0.toNat (0 : Int)) then
        some ((false, ()), ())
       else
        bif decide ((0 : Int) < x0) then
         if (0 : Int) ≤ x0 then
          if x0 < (↑x1.sel.length : Int) then
           if (0 : Int) ≤ IntKind.i64.wrap (x0 - (1 : Int)) then
            if IntKind.i64.wrap (x0 - (1 : Int)) < (↑x1.sel.length : Int) then
             bif decide (x1.sel.getD x0.toNat (0 : Int) ≤ x1.sel.getD (IntKind.i64.wrap (x0 - (1 : Int))).toNat (0 : Int)) then
              some ((false, ()), ())
             else
              F25c10 n (x0) (x1)
            else
             none
           else
            none
          else
           none
         else
          none
        else
         F25c10 n (x0) (x1)
      else
       none
     else
      none
   else
    none
  else
   none
 else
  some ((true, ()), ()) := by kernel_rfl
theorem F25c10_eq (n x0 x1 : _) : F25c10 (n + 1) x0 x1 =
 F25c9 n (IntKind.i64.wrap (x0 + (1 : Int))) (x1) := by kernel_rfl
theorem F8_run (n : Nat) (a0 : Batch) : F8.run [.v (.nm 2)] [.v (.bool)] n (a0, ()) =
 bif decide (a0.len ≤ (100 : Int)) then
  bif decide ((↑a0.columns.length : Int) ≤ (8 : Int)) then
   (F25.run [PK.v (Ty.nm 2)] [RK.v Ty.bool] 4000000 (a0, ())).bind fun r0 =>
    some ((r0.fst.fst, ()), ())
  else
   some ((false, ()), ())
 else
  some ((false, ()), ()) := by kernel_rfl
end Go.Proofs.Tryz
