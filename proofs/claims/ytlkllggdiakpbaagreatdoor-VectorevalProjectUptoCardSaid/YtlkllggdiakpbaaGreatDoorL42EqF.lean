/- The functions of the program as the engine follows them (printed by a program of ours): their code, what is known of them, and the equations of their runs. -/
import Derived.Test.YtlkllggdiakpbaaGreatDoorL42Fns
set_option linter.unusedVariables false
set_option maxRecDepth 20000
namespace Go.Proofs.Tryz
open Go.Eng
theorem F104_run (n : Nat) (a0 : Bool) : F104.run [.v (.bool)] [.v (.nm 0)] n (a0, ()) =
 bif a0 then
  some (({ kind := (1 : Int), int := (1 : Int), text := [] : Val }, ()), ())
 else
  some (({ kind := (1 : Int), int := (0 : Int), text := [] : Val }, ()), ()) := by kernel_rfl
theorem F138_run (n : Nat) (a0 : Int) (a1 : Int) : F138.run [.v (.int .i64), .v (.int .i64)] [.v (.bool)] n (a0, a1, ()) =
 bif decide (a0 = (1 : Int)) then
  some ((decide (a1 = (0 : Int)), ()), ())
 else
  bif decide (a0 = (2 : Int)) then
   some ((!decide (a1 = (0 : Int)), ()), ())
  else
   bif decide (a0 = (3 : Int)) then
    some ((decide (a1 < (0 : Int)), ()), ())
   else
    bif decide (a0 = (4 : Int)) then
     some ((decide (a1 ≤ (0 : Int)), ()), ())
    else
     bif decide (a0 = (5 : Int)) then
      some ((decide ((0 : Int) < a1), ()), ())
     else
      bif decide (a0 = (6 : Int)) then
       some ((decide ((0 : Int) ≤ a1), ()), ())
      else
       some ((false, ()), ()) := by kernel_rfl
noncomputable def F111c3 (n : Nat) (x0 : Int) (x1 : Val) (x2 : Val) (x3 : Val) := F111.at [.v (.int .i64), .v (.nm 0), .v (.nm 0)] [.v (.nm 0)] n 3 ⟨[.one (.int .i64 x0), U, U, U, .one (.bptr 0 0), .one (.bptr 1 0), .one (.bptr 2 0), U, U, U, U, U, U, U, U, U, U, U, U, U, U, U, U, U, U, U, U, U, U, U, U, U], [(0, .whole (.nm 0) x1 []), (1, .whole (.nm 0) x2 []), (2, .whole (.nm 0) x3 [])]⟩
theorem F111_run (n : Nat) (a0 : Int) (a1 : Val) (a2 : Val) : F111.run [.v (.int .i64), .v (.nm 0), .v (.nm 0)] [.v (.nm 0)] n (a0, a1, a2, ()) =
 bif decide (a1.kind = (0 : Int)) then
  some ((zVal, ()), ())
 else
  bif !decide (a1.kind = a2.kind) then
   some ((zVal, ()), ())
  else
   bif decide (a0 < (1 : Int)) then
    some ((zVal, ()), ())
   else
    bif decide ((6 : Int) < a0) then
     some ((zVal, ()), ())
    else
     F111c3 n (a0) (a1) (a2) (zVal) := by kernel_rfl
theorem F111c3_eq (n x0 x1 x2 x3 : _) : F111c3 (n + 1) x0 x1 x2 x3 =
 (F139.run [PK.v (Ty.nm 0), PK.v (Ty.nm 0)] [RK.v (Ty.int .i64)] 4000000 (x1, x2, ())).bind fun r0 =>
  (F138.run [PK.v (Ty.int .i64), PK.v (Ty.int .i64)] [RK.v Ty.bool] 4000000 (x0, r0.fst.fst, ())).bind fun r1 =>
   (F104.run [PK.v Ty.bool] [RK.v (Ty.nm 0)] 4000000 (r1.fst.fst, ())).bind fun r2 =>
    some ((r2.fst.fst, ()), ()) := by kernel_rfl
theorem F112_run (n : Nat) (a0 : List Int) (a1 : Int) : F112.run [.v (.str), .v (.int .i64)] [.v (.bool)] n (a0, a1, ()) =
 bif decide (a0 = [(110 : Int), (117 : Int), (108 : Int), (108 : Int), (105 : Int), (102 : Int)]) then
  bif decide (a1 = (2 : Int)) then
   some ((true, ()), ())
  else
   bif decide (a0 = [(99 : Int), (111 : Int), (97 : Int), (108 : Int), (101 : Int), (115 : Int), (99 : Int), (101 : Int)]) then
    some ((decide ((1 : Int) ≤ a1), ()), ())
   else
    bif decide (a0 = [(108 : Int), (101 : Int), (97 : Int), (115 : Int), (116 : Int)]) then
     some ((decide ((1 : Int) ≤ a1), ()), ())
    else
     bif decide (a0 = [(103 : Int), (114 : Int), (101 : Int), (97 : Int), (116 : Int), (101 : Int), (115 : Int), (116 : Int)]) then
      some ((decide ((1 : Int) ≤ a1), ()), ())
     else
      some ((false, ()), ())
 else
  bif decide (a0 = [(99 : Int), (111 : Int), (97 : Int), (108 : Int), (101 : Int), (115 : Int), (99 : Int), (101 : Int)]) then
   some ((decide ((1 : Int) ≤ a1), ()), ())
  else
   bif decide (a0 = [(108 : Int), (101 : Int), (97 : Int), (115 : Int), (116 : Int)]) then
    some ((decide ((1 : Int) ≤ a1), ()), ())
   else
    bif decide (a0 = [(103 : Int), (114 : Int), (101 : Int), (97 : Int), (116 : Int), (101 : Int), (115 : Int), (116 : Int)]) then
     some ((decide ((1 : Int) ≤ a1), ()), ())
    else
     some ((false, ()), ()) := by kernel_rfl
noncomputable def F72c12 (n : Nat) (x0 : List (Val)) (x1 : Int) (x2 : Val) := F72.at [.v (.str), .v (.sl (.nm 0))] [.v (.nm 0)] n 12 ⟨[U, .one (.data (.sl (.nm 0)) x0 []), U, U, .one (.bptr 0 0), .one (.int .i64 x1), U, U, U, U, U, U, U, U, U, U, U, U, U, U, U, U, U, U, U, U, U, U, U, U, U, U, U, U, U, U, U, U, U, U, U, U, U, U, U, U, U, U, U, U, U, U, U, U, U, U, U, U, U, U, U, U, U, U, U, U, U, U, U, U, U, U, U, U, U, U, U, U, U, U, U, U, U, U, U, U, U, U, U, U, U], [(0, .whole (.nm 0) x2 [])]⟩
noncomputable def F72c20 (n : Nat) (x0 : List Int) (x1 : List (Val)) (x2 : Val) (x3 : List (Int)) := F72.at [.v (.str), .v (.sl (.nm 0))] [.v (.nm 0)] n 20 ⟨[.one (.str x0), .one (.data (.sl (.nm 0)) x1 []), U, U, .one (.bptr 0 0), U, .one (.own 1), U, U, U, U, U, U, U, U, U, U, U, U, U, U, U, U, U, U, U, U, U, U, U, U, U, U, U, U, U, U, U, U, U, U, U, U, U, U, U, U, U, U, U, U, U, U, U, U, U, U, U, U, U, U, U, U, U, U, U, U, U, U, U, U, U, U, U, U, U, U, U, U, U, U, U, U, U, U, U, U, U, U, U, U], [(0, .whole (.nm 0) x2 []), (1, .row 3 (.int .i64) x3 [] false)]⟩
noncomputable def F72c21 (n : Nat) (x0 : List Int) (x1 : List (Val)) (x2 : Int) (x3 : Val) (x4 : List (Int)) := F72.at [.v (.str), .v (.sl (.nm 0))] [.v (.nm 0)] n 21 ⟨[.one (.str x0), .one (.data (.sl (.nm 0)) x1 []), U, U, .one (.bptr 0 0), U, .one (.own 1), U, U, .one (.int .i64 x2), U, U, U, U, U, U, U, U, U, U, U, U, U, U, U, U, U, U, U, U, U, U, U, U, U, U, U, U, U, U, U, U, U, U, U, U, U, U, U, U, U, U, U, U, U, U, U, U, U, U, U, U, U, U, U, U, U, U, U, U, U, U, U, U, U, U, U, U, U, U, U, U, U, U, U, U, U, U, U, U, U], [(0, .whole (.nm 0) x3 []), (1, .row 3 (.int .i64) x4 [] false)]⟩
theorem F72_run (n : Nat) (a0 : List Int) (a1 : List (Val)) : F72.run [.v (.str), .v (.sl (.nm 0))] [.v (.nm 0)] n (a0, a1, ()) =
 (F112.run [PK.v Ty.str, PK.v (Ty.int .i64)] [RK.v Ty.bool] 4000000 (a0, (↑a1.length : Int), ())).bind fun r0 =>
  bif r0.fst.fst then
   bif decide (a0 = [(110 : Int), (117 : Int), (108 : Int), (108 : Int), (105 : Int), (102 : Int)]) then
    if (0 : Int) < (↑a1.length : Int) then
     if (1 : Int) < (↑a1.length : Int) then
      (F111.run [PK.v (Ty.int .i64), PK.v (Ty.nm 0), PK.v (Ty.nm 0)] [RK.v (Ty.nm 0)] 4000000 ((1 : Int), a1.getD (Int.toNat (0 : Int)) zVal, a1.getD (Int.toNat (1 : Int)) zVal, ())).bind fun r1 =>
       bif decide (r1.fst.fst.kind = (1 : Int)) && (decide (r1.fst.fst.int = (1 : Int)) && (decide (r1.fst.fst.text = []) && true)) then
        some ((zVal, ()), ())
       else
        if (0 : Int) < (↑a1.length : Int) then
         some ((a1.getD (Int.toNat (0 : Int)) zVal, ()), ())
        else
         none
     else
      none
    else
     none
   else
    bif decide (a0 = [(108 : Int), (101 : Int), (97 : Int), (115 : Int), (116 : Int)]) then
     (F113.run [PK.v (Ty.nm 0).sl, PK.v Ty.bool] [RK.v (Ty.nm 0)] 4000000 (a1, false, ())).bind fun r2 =>
      some ((r2.fst.fst, ()), ())
    else
     bif decide (a0 = [(103 : Int), (114 : Int), (101 : Int), (97 : Int), (116 : Int), (101 : Int), (115 : Int), (116 : Int)]) then
      (F113.run [PK.v (Ty.nm 0).sl, PK.v Ty.bool] [RK.v (Ty.nm 0)] 4000000 (a1, true, ())).bind fun r3 =>
       some ((r3.fst.fst, ()), ())
     else
      F72c12 n (a1) ((0 : Int)) (zVal)
  else
   (F114.run [PK.v Ty.str] [RK.own 3 (Ty.int .i64), RK.v (Ty.int .i64), RK.v Ty.bool] 4000000 (a0, ())).bind fun r4 =>
    bif !r4.fst.snd.snd.fst then
     some ((zVal, ()), ())
    else
     bif !decide ((↑(List.length r4.fst.fst) : Int) = (↑a1.length : Int)) then
      some ((zVal, ()), ())
     else
      F72c20 n (a0) (a1) (zVal) (r4.fst.fst) := by kernel_rfl
theorem F72c12_eq (n x0 x1 x2 : _) : F72c12 (n + 1) x0 x1 x2 =
 bif decide (x1 < (↑x0.length : Int)) then
  if (0 : Int) ≤ x1 then
   if x1 < (↑x0.length : Int) then
    bif !decide ((x0.getD x1.toNat zVal).kind = (0 : Int)) then
     if (0 : Int) ≤ x1 then
      if x1 < (↑x0.length : Int) then
       some ((x0.getD x1.toNat zVal, ()), ())
      else
       none
     else
      none
    else
     F72c12 n (x0) (IntKind.i64.wrap (x1 + (1 : Int))) (x2)
   else
    none
  else
   none
 else
  some ((zVal, ()), ()) := by kernel_rfl
theorem F72c20_eq (n x0 x1 x2 x3 : _) : F72c20 (n + 1) x0 x1 x2 x3 =
 F72c21 n (x0) (x1) ((0 : Int)) (x2) (x3) := by kernel_rfl
theorem F72c21_eq (n x0 x1 x2 x3 x4 : _) : F72c21 (n + 1) x0 x1 x2 x3 x4 =
 bif decide (x2 < (↑x4.length : Int)) then
  if (0 : Int) ≤ x2 then
   if x2 < (↑x1.length : Int) then
    if (0 : Int) ≤ x2 then
     if x2 < (↑x4.length : Int) then
      bif !decide ((x1.getD x2.toNat zVal).kind = x4.getD x2.toNat (0 : Int)) then
       some ((zVal, ()), ())
      else
       F72c21 n (x0) (x1) (IntKind.i64.wrap (x2 + (1 : Int))) (x3) (x4)
     else
      none
    else
     none
   else
    none
  else
   none
 else
  (F115.run [PK.v Ty.str, PK.v (Ty.nm 0).sl] [RK.v (Ty.nm 0)] 4000000 (x0, x1, ())).bind fun r5 =>
   some ((r5.fst.fst, ()), ()) := by kernel_rfl
noncomputable def F71c2 (n : Nat) (x0 : List (Val)) (x1 : Int) (x2 : Val) := F71.at [.v (.sl (.nm 0))] [.v (.nm 0)] n 2 ⟨[.one (.data (.sl (.nm 0)) x0 []), U, .one (.bptr 0 0), .one (.int .i64 x1), U, U, U, U, U, U, U, U, U, U, U, U, U, U, U, U, U, U, U, U, U, U, U, U, U, U, U, U], [(0, .whole (.nm 0) x2 [])]⟩
theorem F71_run (n : Nat) (a0 : List (Val)) : F71.run [.v (.sl (.nm 0))] [.v (.nm 0)] n (a0, ()) =
 F71c2 n (a0) ((0 : Int)) (zVal) := by kernel_rfl
theorem F71c2_eq (n x0 x1 x2 : _) : F71c2 (n + 1) x0 x1 x2 =
 bif decide (IntKind.i64.wrap (x1 + (1 : Int)) < (↑x0.length : Int)) then
  if (0 : Int) ≤ x1 then
   if x1 < (↑x0.length : Int) then
    (F76.run [PK.v (Ty.nm 0)] [RK.v Ty.bool] 4000000 (x0.getD x1.toNat zVal, ())).bind fun r0 =>
     bif r0.fst.fst then
      if (0 : Int) ≤ IntKind.i64.wrap (x1 + (1 : Int)) then
       if IntKind.i64.wrap (x1 + (1 : Int)) < (↑x0.length : Int) then
        some ((x0.getD (IntKind.i64.wrap (x1 + (1 : Int))).toNat zVal, ()), ())
       else
        none
      else
       none
     else
      F71c2 n (x0) (IntKind.i64.wrap (x1 + (2 : Int))) (x2)
   else
    none
  else
   none
 else
  bif decide ((↑x0.length : Int).tmod (2 : Int) = (1 : Int)) then
   if (0 : Int) ≤ IntKind.i64.wrap ((↑x0.length : Int) - (1 : Int)) then
    if IntKind.i64.wrap ((↑x0.length : Int) - (1 : Int)) < (↑x0.length : Int) then
     some ((x0.getD (IntKind.i64.wrap ((↑x0.length : Int) - (1 : Int))).toNat zVal, ()), ())
    else
     none
   else
    none
  else
   some ((zVal, ()), ()) := by kernel_rfl
theorem F136_run (n : Nat) (a0 : Val) : F136.run [.v (.nm 0)] [.v (.bool)] n (a0, ()) =
 bif decide (a0.kind = (1 : Int)) then
  some ((decide (a0.int = (0 : Int)), ()), ())
 else
  some ((false, ()), ()) := by kernel_rfl
noncomputable def F107c3 (n : Nat) (x0 : List (Val)) (x1 : Bool) (x2 : Int) (x3 : Val) := F107.at [.v (.sl (.nm 0))] [.v (.nm 0)] n 3 ⟨[.one (.data (.sl (.nm 0)) x0 []), U, .one (.bptr 0 0), .one (.bool x1), .one (.int .i64 x2), U, U, U, U, U, U, U, U, U, U, U, U, U, U, U, U, U, U, U, U, U], [(0, .whole (.nm 0) x3 [])]⟩
theorem F107_run (n : Nat) (a0 : List (Val)) : F107.run [.v (.sl (.nm 0))] [.v (.nm 0)] n (a0, ()) =
 F107c3 n (a0) (false) ((0 : Int)) (zVal) := by kernel_rfl
theorem F107c3_eq (n x0 x1 x2 x3 : _) : F107c3 (n + 1) x0 x1 x2 x3 =
 bif decide (x2 < (↑x0.length : Int)) then
  if (0 : Int) ≤ x2 then
   if x2 < (↑x0.length : Int) then
    (F76.run [PK.v (Ty.nm 0)] [RK.v Ty.bool] 4000000 (x0.getD x2.toNat zVal, ())).bind fun r0 =>
     bif r0.fst.fst then
      (F104.run [PK.v Ty.bool] [RK.v (Ty.nm 0)] 4000000 (true, ())).bind fun r1 =>
       some ((r1.fst.fst, ()), ())
     else
      if (0 : Int) ≤ x2 then
       if x2 < (↑x0.length : Int) then
        (F136.run [PK.v (Ty.nm 0)] [RK.v Ty.bool] 4000000 (x0.getD x2.toNat zVal, ())).bind fun r2 =>
         bif !r2.fst.fst then
          F107c3 n (x0) (true) (IntKind.i64.wrap (x2 + (1 : Int))) (x3)
         else
          F107c3 n (x0) (x1) (IntKind.i64.wrap (x2 + (1 : Int))) (x3)
       else
        none
      else
       none
   else
    none
  else
   none
 else
  bif x1 then
   some ((zVal, ()), ())
  else
   (F104.run [PK.v Ty.bool] [RK.v (Ty.nm 0)] 4000000 (false, ())).bind fun r3 =>
    some ((r3.fst.fst, ()), ()) := by kernel_rfl
noncomputable def F70c3 (n : Nat) (x0 : List (Val)) (x1 : Int) (x2 : Val) (x3 : List (Val)) := F70.at [.v (.sl (.nm 0))] [.v (.nm 0)] n 3 ⟨[.one (.data (.sl (.nm 0)) x0 []), U, .one (.bptr 0 0), .one (.own 1), .one (.int .i64 x1), U, U, U, U, U, U, U, U, U, U, U, U, U, U, U, U, U, U, U], [(0, .whole (.nm 0) x2 []), (1, .row 23 (.nm 0) x3 [] false)]⟩
theorem F70_run (n : Nat) (a0 : List (Val)) : F70.run [.v (.sl (.nm 0))] [.v (.nm 0)] n (a0, ()) =
 F70c3 n (a0) ((1 : Int)) (zVal) ([]) := by kernel_rfl
theorem F70c3_eq (n x0 x1 x2 x3 : _) : F70c3 (n + 1) x0 x1 x2 x3 =
 bif decide (x1 < (↑x0.length : Int)) then
  if (0 : Int) < (↑x0.length : Int) then
   if (0 : Int) ≤ x1 then
    if x1 < (↑x0.length : Int) then
     (F111.run [PK.v (Ty.int .i64), PK.v (Ty.nm 0), PK.v (Ty.nm 0)] [RK.v (Ty.nm 0)] 4000000 ((1 : Int), x0.getD (Int.toNat (0 : Int)) zVal, x0.getD x1.toNat zVal, ())).bind fun r0 =>
      if x3.length + (1 : Nat) ≤ lim then
       F70c3 n (x0) (IntKind.i64.wrap (x1 + (1 : Int))) (x2) (x3 ++ ([r0.fst.fst] : List (Val)))
      else
       none
    else
     none
   else
    none
  else
   none
 else
  (F107.run [PK.v (Ty.nm 0).sl] [RK.v (Ty.nm 0)] 4000000 (x3, ())).bind fun r1 =>
   some ((r1.fst.fst, ()), ()) := by kernel_rfl
theorem F69_run (n : Nat) (a0 : Bool) : F69.run [.v (.bool)] [.v (.nm 0)] n (a0, ()) =
 bif a0 then
  some (({ kind := (1 : Int), int := (1 : Int), text := [] : Val }, ()), ())
 else
  some (({ kind := (1 : Int), int := (0 : Int), text := [] : Val }, ()), ()) := by kernel_rfl
noncomputable def F110c4 (n : Nat) (x0 : List Int) (x1 : List Int) (x2 : Int) (x3 : List (Bool)) := F110.at [.v (.str), .v (.str)] [.v (.bool)] n 4 ⟨[.one (.str x0), .one (.str x1), U, U, U, .one (.own 0), .one (.int .i64 x2), U, U, U, U, U, U, U, U, U, U, U, U, U, U, U, U, U, U, U, U, U, U, U, U, U, U, U, U, U, U, U, U, U, U, U, U, U, U, U, U, U, U, U, U, U, U, U, U, U, U, U, U, U, U, U, U, U, U, U, U, U, U, U, U, U, U, U], [(0, .row 4 .bool x3 [] false)]⟩
noncomputable def F110c9 (n : Nat) (x0 : List Int) (x1 : List Int) (x2 : Int) (x3 : Int) (x4 : List (Bool)) := F110.at [.v (.str), .v (.str)] [.v (.bool)] n 9 ⟨[.one (.str x0), .one (.str x1), U, U, U, .one (.own 0), .one (.int .i64 x2), U, .one (.int .i64 x3), U, U, U, U, U, U, U, U, U, U, U, U, U, U, U, U, U, U, U, U, U, U, U, U, U, U, U, U, U, U, U, U, U, U, U, U, U, U, U, U, U, U, U, U, U, U, U, U, U, U, U, U, U, U, U, U, U, U, U, U, U, U, U, U, U], [(0, .row 4 .bool x4 [] false)]⟩
noncomputable def F110c14 (n : Nat) (x0 : List Int) (x1 : List Int) (x2 : Int) (x3 : Int) (x4 : Int) (x5 : List (Bool)) := F110.at [.v (.str), .v (.str)] [.v (.bool)] n 14 ⟨[.one (.str x0), .one (.str x1), U, U, U, .one (.own 0), .one (.int .i64 x2), .one (.int .u8 x3), U, .one (.int .i64 x4), U, U, U, U, U, U, U, U, U, U, U, U, U, U, U, U, U, U, U, U, U, U, U, U, U, U, U, U, U, U, U, U, U, U, U, U, U, U, U, U, U, U, U, U, U, U, U, U, U, U, U, U, U, U, U, U, U, U, U, U, U, U, U, U], [(0, .row 4 .bool x5 [] false)]⟩
theorem F110_run (n : Nat) (a0 : List Int) (a1 : List Int) : F110.run [.v (.str), .v (.str)] [.v (.bool)] n (a0, a1, ()) =
 if (0 : Int) ≤ IntKind.i64.wrap ((↑a1.length : Int) + (1 : Int)) then
  if IntKind.i64.wrap ((↑a1.length : Int) + (1 : Int)) ≤ (↑lim : Int) then
   if (0 : Int) < (↑(List.replicate (IntKind.i64.wrap ((↑a1.length : Int) + (1 : Int))).toNat false).length : Int) then
    F110c4 n (a0) (a1) ((0 : Int)) ((List.replicate (IntKind.i64.wrap ((↑a1.length : Int) + (1 : Int))).toNat false).set (Int.toNat (0 : Int)) true)
   else
    none
  else
   none
 else
  none := by kernel_rfl
theorem F110c4_eq (n x0 x1 x2 x3 : _) : F110c4 (n + 1) x0 x1 x2 x3 =
 bif decide (x2 < (↑x0.length : Int)) then
  if (0 : Int) ≤ x2 then
   if x2 < (↑x0.length : Int) then
    bif decide (x0.getD x2.toNat (0 : Int) = (37 : Int)) then
     F110c9 n (x0) (x1) (x2) ((1 : Int)) (x3)
    else
     F110c14 n (x0) (x1) (x2) (x0.getD x2.toNat (0 : Int)) ((↑x1.length : Int)) (x3)
   else
    none
  else
   none
 else
  if (↑x1.length : Int) < (↑x3.length : Int) then
   some ((x3.getD (↑x1.length : Int).toNat false, ()), ())
  else
   none := by kernel_rfl
theorem F110c9_eq (n x0 x1 x2 x3 x4 : _) : F110c9 (n + 1) x0 x1 x2 x3 x4 =
 bif decide (x3 ≤ (↑x1.length : Int)) then
  if (0 : Int) ≤ IntKind.i64.wrap (x3 - (1 : Int)) then
   if IntKind.i64.wrap (x3 - (1 : Int)) < (↑x4.length : Int) then
    bif x4.getD (IntKind.i64.wrap (x3 - (1 : Int))).toNat false then
     if (0 : Int) ≤ x3 then
      if x3 < (↑x4.length : Int) then
       F110c9 n (x0) (x1) (x2) (IntKind.i64.wrap (x3 + (1 : Int))) (x4.set x3.toNat true)
      else
       none
     else
      none
    else
     F110c9 n (x0) (x1) (x2) (IntKind.i64.wrap (x3 + (1 : Int))) (x4)
   else
    none
  else
   none
 else
  F110c4 n (x0) (x1) (IntKind.i64.wrap (x2 + (1 : Int))) (x4) := by kernel_rfl
theorem F110c14_eq (n x0 x1 x2 x3 x4 x5 : _) : F110c14 (n + 1) x0 x1 x2 x3 x4 x5 =
 bif decide ((0 : Int) < x4) then
  if (0 : Int) ≤ IntKind.i64.wrap (x4 - (1 : Int)) then
   if IntKind.i64.wrap (x4 - (1 : Int)) < (↑x5.length : Int) then
    bif x5.getD (IntKind.i64.wrap (x4 - (1 : Int))).toNat false then
     bif decide (x3 = (95 : Int)) then
      if (0 : Int) ≤ x4 then
       if x4 < (↑x5.length : Int) then
        F110c14 n (x0) (x1) (x2) (x3) (IntKind.i64.wrap (x4 - (1 : Int))) (x5.set x4.toNat true)
       else
        none
      else
       none
     else
      if (0 : Int) ≤ IntKind.i64.wrap (x4 - (1 : Int)) then
       if IntKind.i64.wrap (x4 - (1 : Int)) < (↑x1.length : Int) then
        if (0 : Int) ≤ x4 then
         if x4 < (↑x5.length : Int) then
          F110c14 n (x0) (x1) (x2) (x3) (IntKind.i64.wrap (x4 - (1 : Int))) (x5.set x4.toNat (decide (x3 = x1.getD (IntKind.i64.wrap (x4 - (1 : Int))).toNat (0 : Int))))
         else
          none
        else
         none
       else
        none
      else
       none
    else
     if (0 : Int) ≤ x4 then
      if x4 < (↑x5.length : Int) then
       F110c14 n (x0) (x1) (x2) (x3) (IntKind.i64.wrap (x4 - (1 : Int))) (x5.set x4.toNat false)
      else
       none
     else
      none
   else
    none
  else
   none
 else
  if (0 : Int) < (↑x5.length : Int) then
   F110c4 n (x0) (x1) (IntKind.i64.wrap (x2 + (1 : Int))) (x5.set (Int.toNat (0 : Int)) false)
  else
   none := by kernel_rfl
noncomputable def F109c3 (n : Nat) (x0 : Val) (x1 : Val) (x2 : Val) := F109.at [.v (.nm 0), .v (.nm 0)] [.v (.nm 0)] n 3 ⟨[U, U, .one (.bptr 0 0), .one (.bptr 1 0), .one (.bptr 2 0), U, U, U, U, U, U, U, U, U, U, U, U, U, U, U, U, U, U, U, U, U, U, U, U, U], [(0, .whole (.nm 0) x0 []), (1, .whole (.nm 0) x1 []), (2, .whole (.nm 0) x2 [])]⟩
theorem F109_run (n : Nat) (a0 : Val) (a1 : Val) : F109.run [.v (.nm 0), .v (.nm 0)] [.v (.nm 0)] n (a0, a1, ()) =
 bif !decide (a0.kind = (3 : Int)) then
  some ((zVal, ()), ())
 else
  bif !decide (a1.kind = (3 : Int)) then
   some ((zVal, ()), ())
  else
   bif decide ((4096 : Int) < IntKind.i64.wrap ((↑a0.text.length : Int) + (↑a1.text.length : Int))) then
    some ((zVal, ()), ())
   else
    F109c3 n (a0) (a1) (zVal) := by kernel_rfl
theorem F109c3_eq (n x0 x1 x2 : _) : F109c3 (n + 1) x0 x1 x2 =
 if x0.text.length + x1.text.length ≤ lim then
  some (({ kind := (3 : Int), int := (0 : Int), text := x0.text ++ x1.text : Val }, ()), ())
 else
  none := by kernel_rfl
theorem F105_run (n : Nat) (a0 : Int) : F105.run [.v (.int .i64)] [.v (.nm 0)] n (a0, ()) =
 some (({ kind := (2 : Int), int := a0, text := [] : Val }, ()), ()) := by kernel_rfl
noncomputable def F163c3 (n : Nat) (x0 : Int) (x1 : Int) := F163.at [.v (.int .i64), .v (.int .i64)] [.v (.int .i64), .v (.bool)] n 3 ⟨[.one (.int .i64 x0), .one (.int .i64 x1), U, U, U, U, U, U, U, U, U, U, U, U, U, U, U, U, U, U, U, U, U, U, U, U, U, U, U, U, U, U, U, U], []⟩
theorem F163_run (n : Nat) (a0 : Int) (a1 : Int) : F163.run [.v (.int .i64), .v (.int .i64)] [.v (.int .i64), .v (.bool)] n (a0, a1, ()) =
 bif decide (a0 = (0 : Int)) then
  some (((0 : Int), (true, ())), ())
 else
  bif decide (a1 = (0 : Int)) then
   some (((0 : Int), (true, ())), ())
  else
   F163c3 n (a0) (a1) := by kernel_rfl
theorem F163c3_eq (n x0 x1 : _) : F163c3 (n + 1) x0 x1 =
 bif decide (x0 = (-1 : Int)) then
  some ((IntKind.i64.wrap ((0 : Int) - x1), (!decide (x1 = (-9223372036854775808 : Int)), ())), ())
 else
  bif decide (x1 = (-1 : Int)) then
   some ((IntKind.i64.wrap ((0 : Int) - x0), (!decide (x0 = (-9223372036854775808 : Int)), ())), ())
  else
   if x1 = (0 : Int) then
    none
   else
    some ((IntKind.i64.wrap (x0 * x1), (decide (IntKind.i64.wrap ((IntKind.i64.wrap (x0 * x1)).tdiv x1) = x0), ())), ()) := by kernel_rfl
noncomputable def F137c11 (n : Nat) (x0 : Int) (x1 : Int) := F137.at [.v (.int .i64), .v (.int .i64), .v (.int .i64)] [.v (.int .i64), .v (.bool)] n 11 ⟨[U, .one (.int .i64 x0), .one (.int .i64 x1), U, U, U, U, U, U, U, U, U, U, U, U, U, U, U, U, U, U, U, U, U, U, U, U, U, U, U, U, U, U, U, U, U, U, U, U, U, U, U, U, U, U, U, U, U, U, U, U, U, U, U, U, U, U, U, U, U, U, U, U, U, U, U, U, U, U, U, U, U, U, U, U, U, U, U, U, U, U, U, U, U, U, U, U, U], []⟩
theorem F137_run (n : Nat) (a0 : Int) (a1 : Int) (a2 : Int) : F137.run [.v (.int .i64), .v (.int .i64), .v (.int .i64)] [.v (.int .i64), .v (.bool)] n (a0, a1, a2, ()) =
 bif decide (a0 = (9 : Int)) then
  bif decide ((0 : Int) < a2) then
   bif decide (IntKind.i64.wrap ((9223372036854775807 : Int) - a2) < a1) then
    some ((IntKind.i64.wrap (a1 + a2), (!true, ())), ())
   else
    bif decide (a2 < (0 : Int)) then
     some ((IntKind.i64.wrap (a1 + a2), (!decide (a1 < IntKind.i64.wrap ((-9223372036854775808 : Int) - a2)), ())), ())
    else
     some ((IntKind.i64.wrap (a1 + a2), (!false, ())), ())
  else
   bif decide (a2 < (0 : Int)) then
    some ((IntKind.i64.wrap (a1 + a2), (!decide (a1 < IntKind.i64.wrap ((-9223372036854775808 : Int) - a2)), ())), ())
   else
    some ((IntKind.i64.wrap (a1 + a2), (!false, ())), ())
 else
  bif decide (a0 = (10 : Int)) then
   bif decide (a2 < (0 : Int)) then
    bif decide (IntKind.i64.wrap ((9223372036854775807 : Int) + a2) < a1) then
     some ((IntKind.i64.wrap (a1 - a2), (!true, ())), ())
    else
     bif decide ((0 : Int) < a2) then
      some ((IntKind.i64.wrap (a1 - a2), (!decide (a1 < IntKind.i64.wrap ((-9223372036854775808 : Int) + a2)), ())), ())
     else
      some ((IntKind.i64.wrap (a1 - a2), (!false, ())), ())
   else
    bif decide ((0 : Int) < a2) then
     some ((IntKind.i64.wrap (a1 - a2), (!decide (a1 < IntKind.i64.wrap ((-9223372036854775808 : Int) + a2)), ())), ())
    else
     some ((IntKind.i64.wrap (a1 - a2), (!false, ())), ())
  else
   bif decide (a0 = (11 : Int)) then
    (F163.run [PK.v (Ty.int .i64), PK.v (Ty.int .i64)] [RK.v (Ty.int .i64), RK.v Ty.bool] 4000000 (a1, a2, ())).bind fun r0 =>
     some ((r0.fst.fst, (r0.fst.snd.fst, ())), ())
   else
    bif decide (a0 = (12 : Int)) then
     bif decide (a2 = (0 : Int)) then
      some (((0 : Int), (false, ())), ())
     else
      bif decide (a1 = (-9223372036854775808 : Int)) then
       bif decide (a2 = (-1 : Int)) then
        some (((0 : Int), (false, ())), ())
       else
        F137c11 n (a1) (a2)
      else
       F137c11 n (a1) (a2)
    else
     bif decide (a0 = (13 : Int)) then
      bif decide (a2 = (0 : Int)) then
       some (((0 : Int), (false, ())), ())
      else
       bif decide (a2 = (-1 : Int)) then
        some (((0 : Int), (true, ())), ())
       else
        if a2 = (0 : Int) then
         none
        else
         some ((a1.tmod a2, (true, ())), ())
     else
      some (((0 : Int), (false, ())), ()) := by kernel_rfl
theorem F137c11_eq (n x0 x1 : _) : F137c11 (n + 1) x0 x1 =
 if x1 = (0 : Int) then
  none
 else
  some ((IntKind.i64.wrap (x0.tdiv x1), (true, ())), ()) := by kernel_rfl
noncomputable def F108c3 (n : Nat) (x0 : Int) (x1 : Val) (x2 : Val) (x3 : Val) := F108.at [.v (.int .i64), .v (.nm 0), .v (.nm 0)] [.v (.nm 0)] n 3 ⟨[.one (.int .i64 x0), U, U, U, .one (.bptr 0 0), .one (.bptr 1 0), .one (.bptr 2 0), U, U, U, U, U, U, U, U, U, U, U, U, U, U, U, U, U, U, U, U, U, U, U, U, U], [(0, .whole (.nm 0) x1 []), (1, .whole (.nm 0) x2 []), (2, .whole (.nm 0) x3 [])]⟩
theorem F108_run (n : Nat) (a0 : Int) (a1 : Val) (a2 : Val) : F108.run [.v (.int .i64), .v (.nm 0), .v (.nm 0)] [.v (.nm 0)] n (a0, a1, a2, ()) =
 bif !decide (a1.kind = (2 : Int)) then
  some ((zVal, ()), ())
 else
  bif !decide (a2.kind = (2 : Int)) then
   some ((zVal, ()), ())
  else
   F108c3 n (a0) (a1) (a2) (zVal) := by kernel_rfl
theorem F108c3_eq (n x0 x1 x2 x3 : _) : F108c3 (n + 1) x0 x1 x2 x3 =
 (F137.run [PK.v (Ty.int .i64), PK.v (Ty.int .i64), PK.v (Ty.int .i64)] [RK.v (Ty.int .i64), RK.v Ty.bool] 4000000 (x0, x1.int, x2.int, ())).bind fun r0 =>
  bif !r0.fst.snd.fst then
   some ((zVal, ()), ())
  else
   (F105.run [PK.v (Ty.int .i64)] [RK.v (Ty.nm 0)] 4000000 (r0.fst.fst, ())).bind fun r1 =>
    some ((r1.fst.fst, ()), ()) := by kernel_rfl
noncomputable def F106c3 (n : Nat) (x0 : List (Val)) (x1 : Bool) (x2 : Int) (x3 : Val) := F106.at [.v (.sl (.nm 0))] [.v (.nm 0)] n 3 ⟨[.one (.data (.sl (.nm 0)) x0 []), U, .one (.bptr 0 0), .one (.bool x1), .one (.int .i64 x2), U, U, U, U, U, U, U, U, U, U, U, U, U, U, U, U, U, U, U, U, U], [(0, .whole (.nm 0) x3 [])]⟩
theorem F106_run (n : Nat) (a0 : List (Val)) : F106.run [.v (.sl (.nm 0))] [.v (.nm 0)] n (a0, ()) =
 F106c3 n (a0) (false) ((0 : Int)) (zVal) := by kernel_rfl
theorem F106c3_eq (n x0 x1 x2 x3 : _) : F106c3 (n + 1) x0 x1 x2 x3 =
 bif decide (x2 < (↑x0.length : Int)) then
  if (0 : Int) ≤ x2 then
   if x2 < (↑x0.length : Int) then
    (F136.run [PK.v (Ty.nm 0)] [RK.v Ty.bool] 4000000 (x0.getD x2.toNat zVal, ())).bind fun r0 =>
     bif r0.fst.fst then
      (F104.run [PK.v Ty.bool] [RK.v (Ty.nm 0)] 4000000 (false, ())).bind fun r1 =>
       some ((r1.fst.fst, ()), ())
     else
      if (0 : Int) ≤ x2 then
       if x2 < (↑x0.length : Int) then
        (F76.run [PK.v (Ty.nm 0)] [RK.v Ty.bool] 4000000 (x0.getD x2.toNat zVal, ())).bind fun r2 =>
         bif !r2.fst.fst then
          F106c3 n (x0) (true) (IntKind.i64.wrap (x2 + (1 : Int))) (x3)
         else
          F106c3 n (x0) (x1) (IntKind.i64.wrap (x2 + (1 : Int))) (x3)
       else
        none
      else
       none
   else
    none
  else
   none
 else
  bif x1 then
   some ((zVal, ()), ())
  else
   (F104.run [PK.v Ty.bool] [RK.v (Ty.nm 0)] 4000000 (true, ())).bind fun r3 =>
    some ((r3.fst.fst, ()), ()) := by kernel_rfl
noncomputable def F68c17 (n : Nat) (x0 : Val) (x1 : Val) (x2 : Val) := F68.at [.v (.int .i64), .v (.nm 0), .v (.nm 0)] [.v (.nm 0)] n 17 ⟨[U, U, U, U, .one (.bptr 0 0), .one (.bptr 1 0), .one (.bptr 2 0), U, U, U, U, U, U, U, U, U, U, U, U, U, U, U, U, U, U, U, U, U, U, U, U, U, U, U, U, U, U, U, U, U, U, U, U, U, U, U, U, U, U, U, U, U, U, U, U, U], [(0, .whole (.nm 0) x0 []), (1, .whole (.nm 0) x1 []), (2, .whole (.nm 0) x2 [])]⟩
noncomputable def F68c18 (n : Nat) (x0 : Int) (x1 : Val) (x2 : Val) (x3 : Val) := F68.at [.v (.int .i64), .v (.nm 0), .v (.nm 0)] [.v (.nm 0)] n 18 ⟨[.one (.int .i64 x0), U, U, U, .one (.bptr 0 0), .one (.bptr 1 0), .one (.bptr 2 0), U, U, U, U, U, U, U, U, U, U, U, U, U, U, U, U, U, U, U, U, U, U, U, U, U, U, U, U, U, U, U, U, U, U, U, U, U, U, U, U, U, U, U, U, U, U, U, U, U], [(0, .whole (.nm 0) x1 []), (1, .whole (.nm 0) x2 []), (2, .whole (.nm 0) x3 [])]⟩
theorem F68_run (n : Nat) (a0 : Int) (a1 : Val) (a2 : Val) : F68.run [.v (.int .i64), .v (.nm 0), .v (.nm 0)] [.v (.nm 0)] n (a0, a1, a2, ()) =
 bif decide (a0 = (7 : Int)) then
  (F106.run [PK.v (Ty.nm 0).sl] [RK.v (Ty.nm 0)] 4000000 ([a1, a2], ())).bind fun r0 =>
   some ((r0.fst.fst, ()), ())
 else
  bif decide (a0 = (8 : Int)) then
   (F107.run [PK.v (Ty.nm 0).sl] [RK.v (Ty.nm 0)] 4000000 ([a1, a2], ())).bind fun r1 =>
    some ((r1.fst.fst, ()), ())
  else
   bif decide (a0 = (9 : Int)) then
    bif decide (a0 = (9 : Int)) then
     (F108.run [PK.v (Ty.int .i64), PK.v (Ty.nm 0), PK.v (Ty.nm 0)] [RK.v (Ty.nm 0)] 4000000 (a0, a1, a2, ())).bind fun r2 =>
      some ((r2.fst.fst, ()), ())
    else
     bif decide (a0 = (14 : Int)) then
      (F109.run [PK.v (Ty.nm 0), PK.v (Ty.nm 0)] [RK.v (Ty.nm 0)] 4000000 (a1, a2, ())).bind fun r3 =>
       some ((r3.fst.fst, ()), ())
     else
      bif decide (a0 = (15 : Int)) then
       bif !decide (a1.kind = (3 : Int)) then
        some ((zVal, ()), ())
       else
        bif !decide (a2.kind = (3 : Int)) then
         some ((zVal, ()), ())
        else
         F68c17 n (a1) (a2) (zVal)
      else
       F68c18 n (a0) (a1) (a2) (zVal)
   else
    bif decide (a0 = (10 : Int)) then
     bif decide (a0 = (10 : Int)) then
      (F108.run [PK.v (Ty.int .i64), PK.v (Ty.nm 0), PK.v (Ty.nm 0)] [RK.v (Ty.nm 0)] 4000000 (a0, a1, a2, ())).bind fun r4 =>
       some ((r4.fst.fst, ()), ())
     else
      bif decide (a0 = (14 : Int)) then
       (F109.run [PK.v (Ty.nm 0), PK.v (Ty.nm 0)] [RK.v (Ty.nm 0)] 4000000 (a1, a2, ())).bind fun r5 =>
        some ((r5.fst.fst, ()), ())
      else
       bif decide (a0 = (15 : Int)) then
        bif !decide (a1.kind = (3 : Int)) then
         some ((zVal, ()), ())
        else
         bif !decide (a2.kind = (3 : Int)) then
          some ((zVal, ()), ())
         else
          F68c17 n (a1) (a2) (zVal)
       else
        F68c18 n (a0) (a1) (a2) (zVal)
    else
     bif decide (a0 = (11 : Int)) then
      bif decide (a0 = (11 : Int)) then
       (F108.run [PK.v (Ty.int .i64), PK.v (Ty.nm 0), PK.v (Ty.nm 0)] [RK.v (Ty.nm 0)] 4000000 (a0, a1, a2, ())).bind fun r6 =>
        some ((r6.fst.fst, ()), ())
      else
       bif decide (a0 = (14 : Int)) then
        (F109.run [PK.v (Ty.nm 0), PK.v (Ty.nm 0)] [RK.v (Ty.nm 0)] 4000000 (a1, a2, ())).bind fun r7 =>
         some ((r7.fst.fst, ()), ())
       else
        bif decide (a0 = (15 : Int)) then
         bif !decide (a1.kind = (3 : Int)) then
          some ((zVal, ()), ())
         else
          bif !decide (a2.kind = (3 : Int)) then
           some ((zVal, ()), ())
          else
           F68c17 n (a1) (a2) (zVal)
        else
         F68c18 n (a0) (a1) (a2) (zVal)
     else
      bif decide (a0 = (12 : Int)) then
       bif decide (a0 = (12 : Int)) then
        (F108.run [PK.v (Ty.int .i64), PK.v (Ty.nm 0), PK.v (Ty.nm 0)] [RK.v (Ty.nm 0)] 4000000 (a0, a1, a2, ())).bind fun r8 =>
         some ((r8.fst.fst, ()), ())
       else
        bif decide (a0 = (14 : Int)) then
         (F109.run [PK.v (Ty.nm 0), PK.v (Ty.nm 0)] [RK.v (Ty.nm 0)] 4000000 (a1, a2, ())).bind fun r9 =>
          some ((r9.fst.fst, ()), ())
        else
         bif decide (a0 = (15 : Int)) then
          bif !decide (a1.kind = (3 : Int)) then
           some ((zVal, ()), ())
          else
           bif !decide (a2.kind = (3 : Int)) then
            some ((zVal, ()), ())
           else
            F68c17 n (a1) (a2) (zVal)
         else
          F68c18 n (a0) (a1) (a2) (zVal)
      else
       bif decide (a0 = (13 : Int)) then
        (F108.run [PK.v (Ty.int .i64), PK.v (Ty.nm 0), PK.v (Ty.nm 0)] [RK.v (Ty.nm 0)] 4000000 (a0, a1, a2, ())).bind fun r10 =>
         some ((r10.fst.fst, ()), ())
       else
        bif decide (a0 = (14 : Int)) then
         (F109.run [PK.v (Ty.nm 0), PK.v (Ty.nm 0)] [RK.v (Ty.nm 0)] 4000000 (a1, a2, ())).bind fun r11 =>
          some ((r11.fst.fst, ()), ())
        else
         bif decide (a0 = (15 : Int)) then
          bif !decide (a1.kind = (3 : Int)) then
           some ((zVal, ()), ())
          else
           bif !decide (a2.kind = (3 : Int)) then
            some ((zVal, ()), ())
           else
            F68c17 n (a1) (a2) (zVal)
         else
          F68c18 n (a0) (a1) (a2) (zVal) := by kernel_rfl
theorem F68c17_eq (n x0 x1 x2 : _) : F68c17 (n + 1) x0 x1 x2 =
 (F110.run [PK.v Ty.str, PK.v Ty.str] [RK.v Ty.bool] 40000000 (x1.text, x0.text, ())).bind fun r12 =>
  (F69.run [PK.v Ty.bool] [RK.v (Ty.nm 0)] 4000000 (r12.fst.fst, ())).bind fun r13 =>
   some ((r13.fst.fst, ()), ()) := by kernel_rfl
theorem F68c18_eq (n x0 x1 x2 x3 : _) : F68c18 (n + 1) x0 x1 x2 x3 =
 (F111.run [PK.v (Ty.int .i64), PK.v (Ty.nm 0), PK.v (Ty.nm 0)] [RK.v (Ty.nm 0)] 4000000 (x0, x1, x2, ())).bind fun r14 =>
  some ((r14.fst.fst, ()), ()) := by kernel_rfl
theorem F67_run (n : Nat) (a0 : Val) : F67.run [.v (.nm 0)] [.v (.nm 0)] n (a0, ()) =
 bif !decide (a0.kind = (2 : Int)) then
  some ((zVal, ()), ())
 else
  bif decide (a0.int = (-9223372036854775808 : Int)) then
   some ((zVal, ()), ())
  else
   (F105.run [PK.v (Ty.int .i64)] [RK.v (Ty.nm 0)] 4000000 (IntKind.i64.wrap ((0 : Int) - a0.int), ())).bind fun r0 =>
    some ((r0.fst.fst, ()), ()) := by kernel_rfl
theorem F66_run (n : Nat) (a0 : Val) : F66.run [.v (.nm 0)] [.v (.nm 0)] n (a0, ()) =
 bif !decide (a0.kind = (1 : Int)) then
  some ((zVal, ()), ())
 else
  (F104.run [PK.v Ty.bool] [RK.v (Ty.nm 0)] 4000000 (decide (a0.int = (0 : Int)), ())).bind fun r0 =>
   some ((r0.fst.fst, ()), ()) := by kernel_rfl
theorem F64_run (n : Nat) (a0 : List (Val)) (a1 : Int) : F64.run [.v (.sl (.nm 0)), .v (.int .i64)] [.v (.nm 0)] n (a0, a1, ()) =
 bif decide (a1 < (0 : Int)) then
  some ((zVal, ()), ())
 else
  bif decide ((↑a0.length : Int) ≤ a1) then
   some ((zVal, ()), ())
  else
   if (0 : Int) ≤ a1 then
    if a1 < (↑a0.length : Int) then
     some ((a0.getD a1.toNat zVal, ()), ())
    else
     none
   else
    none := by kernel_rfl
end Go.Proofs.Tryz
