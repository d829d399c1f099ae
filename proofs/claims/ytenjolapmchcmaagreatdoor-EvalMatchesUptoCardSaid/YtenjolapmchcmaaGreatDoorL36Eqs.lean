/- The functions of the program as the engine follows them (printed by a program of ours): their code, what is known of them, and the equations of their runs. -/
import Derived.Test.YtenjolapmchcmaaGreatDoorL36Fns
set_option linter.unusedVariables false
set_option maxRecDepth 20000
namespace Go.Proofs.Tryz
open Go.Eng
theorem F15_run (n : Nat) (a0 : Val) : F15.run [.v (.nm 0)] [.v (.bool)] n (a0, ()) =
 bif decide (a0.kind = (1 : Int)) then
  some ((decide (a0.int = (1 : Int)), ()), ())
 else
  some ((false, ()), ()) := by kernel_rfl
theorem F32_run (n : Nat) (a0 : Bool) : F32.run [.v (.bool)] [.v (.nm 0)] n (a0, ()) =
 bif a0 then
  some (({ kind := (1 : Int), int := (1 : Int), text := [] : Val }, ()), ())
 else
  some (({ kind := (1 : Int), int := (0 : Int), text := [] : Val }, ()), ()) := by kernel_rfl
theorem F49_run (n : Nat) (a0 : Bool) (a1 : Bool) : F49.run [.v (.bool), .v (.bool)] [.v (.int .i64)] n (a0, a1, ()) =
 bif a0 then
  some (((-1 : Int), ()), ())
 else
  bif a1 then
   some (((1 : Int), ()), ())
  else
   some (((0 : Int), ()), ()) := by kernel_rfl
noncomputable def F31c8 (n : Nat) (x0 : Val) (x1 : Val) := F31.at [.v (.nm 0), .v (.nm 0)] [.v (.int .i64)] n 8 ⟨[U, U, .one (.bptr 0 0), .one (.bptr 1 0), U, U, U, U, U, U, U, U, U, U, U, U, U, U, U, U, U, U, U, U, U, U, U, U, U, U, U, U, U, U, U, U, U, U, U, U], [(0, .whole (.nm 0) x0 []), (1, .whole (.nm 0) x1 [])]⟩
theorem F31_run (n : Nat) (a0 : Val) (a1 : Val) : F31.run [.v (.nm 0), .v (.nm 0)] [.v (.int .i64)] n (a0, a1, ()) =
 bif !decide (a0.kind = a1.kind) then
  (F49.run [PK.v Ty.bool, PK.v Ty.bool] [RK.v (Ty.int .i64)] 4000000 (decide (a0.kind < a1.kind), true, ())).bind fun r0 =>
   some ((r0.fst.fst, ()), ())
 else
  bif decide (a0.kind = (3 : Int)) then
   some ((cmpS a0.text a1.text, ()), ())
  else
   bif decide (a0.kind = (1 : Int)) then
    F31c8 n (a0) (a1)
   else
    bif decide (a0.kind = (2 : Int)) then
     F31c8 n (a0) (a1)
    else
     some (((0 : Int), ()), ()) := by kernel_rfl
theorem F31c8_eq (n x0 x1 : _) : F31c8 (n + 1) x0 x1 =
 (F49.run [PK.v Ty.bool, PK.v Ty.bool] [RK.v (Ty.int .i64)] 4000000 (decide (x0.int < x1.int), decide (x1.int < x0.int), ())).bind fun r1 =>
  some ((r1.fst.fst, ()), ()) := by kernel_rfl
noncomputable def F16c3 (n : Nat) (x0 : Int) (x1 : Val) (x2 : Val) (x3 : Val) := F16.at [.v (.int .i64), .v (.nm 0), .v (.nm 0)] [.v (.nm 0)] n 3 ⟨[.one (.int .i64 x0), U, U, U, .one (.bptr 0 0), .one (.bptr 1 0), .one (.bptr 2 0), U, U, U, U, U, U, U, U, U, U, U, U, U, U, U, U, U, U, U, U, U, U, U, U, U, U, U, U, U, U, U, U, U, U, U, U, U, U, U, U, U, U, U, U, U, U, U, U, U, U, U], [(0, .whole (.nm 0) x1 []), (1, .whole (.nm 0) x2 []), (2, .whole (.nm 0) x3 [])]⟩
noncomputable def F16c18 (n : Nat) (x0 : Bool) (x1 : Val) := F16.at [.v (.int .i64), .v (.nm 0), .v (.nm 0)] [.v (.nm 0)] n 18 ⟨[U, U, U, U, U, U, .one (.bptr 0 0), U, .one (.bool x0), U, U, U, U, U, U, U, U, U, U, U, U, U, U, U, U, U, U, U, U, U, U, U, U, U, U, U, U, U, U, U, U, U, U, U, U, U, U, U, U, U, U, U, U, U, U, U, U, U], [(0, .whole (.nm 0) x1 [])]⟩
theorem F16_run (n : Nat) (a0 : Int) (a1 : Val) (a2 : Val) : F16.run [.v (.int .i64), .v (.nm 0), .v (.nm 0)] [.v (.nm 0)] n (a0, a1, a2, ()) =
 bif decide (a1.kind = (0 : Int)) then
  some ((zVal, ()), ())
 else
  bif !decide (a1.kind = a2.kind) then
   some ((zVal, ()), ())
  else
   bif decide (a0 < (1 : Int)) then
    some ((zVal, ()), ())
   else
    bif decide ((6 : Int) < a0) then
     some ((zVal, ()), ())
    else
     F16c3 n (a0) (a1) (a2) (zVal) := by kernel_rfl
theorem F16c3_eq (n x0 x1 x2 x3 : _) : F16c3 (n + 1) x0 x1 x2 x3 =
 (F31.run [PK.v (Ty.nm 0), PK.v (Ty.nm 0)] [RK.v (Ty.int .i64)] 4000000 (x1, x2, ())).bind fun r0 =>
  bif decide (x0 = (1 : Int)) then
   F16c18 n (decide (r0.fst.fst = (0 : Int))) (x3)
  else
   bif decide (x0 = (2 : Int)) then
    F16c18 n (!decide (r0.fst.fst = (0 : Int))) (x3)
   else
    bif decide (x0 = (3 : Int)) then
     F16c18 n (decide (r0.fst.fst < (0 : Int))) (x3)
    else
     bif decide (x0 = (4 : Int)) then
      F16c18 n (decide (r0.fst.fst ≤ (0 : Int))) (x3)
     else
      bif decide (x0 = (5 : Int)) then
       F16c18 n (decide ((0 : Int) < r0.fst.fst)) (x3)
      else
       bif decide (x0 = (6 : Int)) then
        F16c18 n (decide ((0 : Int) ≤ r0.fst.fst)) (x3)
       else
        F16c18 n (false) (x3) := by kernel_rfl
theorem F16c18_eq (n x0 x1 : _) : F16c18 (n + 1) x0 x1 =
 (F32.run [PK.v Ty.bool] [RK.v (Ty.nm 0)] 4000000 (x0, ())).bind fun r1 =>
  some ((r1.fst.fst, ()), ()) := by kernel_rfl
theorem F14_run (n : Nat) (a0 : List (Val)) (a1 : Int) : F14.run [.v (.sl (.nm 0)), .v (.int .i64)] [.v (.nm 0)] n (a0, a1, ()) =
 bif decide (a1 < (0 : Int)) then
  some ((zVal, ()), ())
 else
  bif decide ((↑a0.length : Int) ≤ a1) then
   some ((zVal, ()), ())
  else
   if (0 : Int) ≤ a1 then
    if a1 < (↑a0.length : Int) then
     some ((a0.getD a1.toNat zVal, ()), ())
    else
     none
   else
    none := by kernel_rfl
theorem F7_run (n : Nat) (a0 : Pred) (a1 : List (Val)) : F7.run [.v (.nm 1), .v (.sl (.nm 0))] [.v (.bool)] n (a0, a1, ()) =
 (F14.run [PK.v (Ty.nm 0).sl, PK.v (Ty.int .i64)] [RK.v (Ty.nm 0)] 4000000 (a1, a0.column, ())).bind fun r0 =>
  bif decide (a0.op = (20 : Int)) then
   some ((decide (r0.fst.fst.kind = (0 : Int)), ()), ())
  else
   bif decide (a0.op = (21 : Int)) then
    some ((!decide (r0.fst.fst.kind = (0 : Int)), ()), ())
   else
    bif decide ((1 : Int) ≤ a0.op) then
     bif decide (a0.op ≤ (6 : Int)) then
      (F16.run [PK.v (Ty.int .i64), PK.v (Ty.nm 0), PK.v (Ty.nm 0)] [RK.v (Ty.nm 0)] 4000000 (a0.op, r0.fst.fst, a0.value, ())).bind fun r1 =>
       (F15.run [PK.v (Ty.nm 0)] [RK.v Ty.bool] 4000000 (r1.fst.fst, ())).bind fun r2 =>
        some ((r2.fst.fst, ()), ())
     else
      some ((false, ()), ())
    else
     some ((false, ()), ()) := by kernel_rfl
theorem F27_run (n : Nat) (a0 : Bool) : F27.run [.v (.bool)] [.v (.nm 0)] n (a0, ()) =
 bif a0 then
  some (({ kind := (1 : Int), int := (1 : Int), text := [] : Val }, ()), ())
 else
  some (({ kind := (1 : Int), int := (0 : Int), text := [] : Val }, ()), ()) := by kernel_rfl
noncomputable def F28c16 (n : Nat) (x0 : Int) (x1 : Val) (x2 : Val) (x3 : Val) := F28.at [.v (.int .i64), .v (.nm 0), .v (.nm 0)] [.v (.nm 0)] n 16 ⟨[.one (.int .i64 x0), U, U, U, .one (.bptr 0 0), .one (.bptr 1 0), .one (.bptr 2 0), U, U, U, U, U, U, U, U, U, U, U, U, U, U, U, U, U, U, U, U, U, U, U, U, U, U, U, U, U, U, U, U, U, U, U, U, U], [(0, .whole (.nm 0) x1 []), (1, .whole (.nm 0) x2 []), (2, .whole (.nm 0) x3 [])]⟩
theorem F28_run (n : Nat) (a0 : Int) (a1 : Val) (a2 : Val) : F28.run [.v (.int .i64), .v (.nm 0), .v (.nm 0)] [.v (.nm 0)] n (a0, a1, a2, ()) =
 bif decide (a0 = (7 : Int)) then
  (F40.run [PK.v (Ty.nm 0).sl] [RK.v (Ty.nm 0)] 4000000 ([a1, a2], ())).bind fun r0 =>
   some ((r0.fst.fst, ()), ())
 else
  bif decide (a0 = (8 : Int)) then
   (F41.run [PK.v (Ty.nm 0).sl] [RK.v (Ty.nm 0)] 4000000 ([a1, a2], ())).bind fun r1 =>
    some ((r1.fst.fst, ()), ())
  else
   bif decide (a0 = (14 : Int)) then
    (F42.run [PK.v (Ty.nm 0), PK.v (Ty.nm 0)] [RK.v (Ty.nm 0)] 4000000 (a1, a2, ())).bind fun r2 =>
     some ((r2.fst.fst, ()), ())
   else
    bif decide (a0 = (15 : Int)) then
     (F43.run [PK.v (Ty.nm 0), PK.v (Ty.nm 0)] [RK.v (Ty.nm 0)] 4000000 (a1, a2, ())).bind fun r3 =>
      some ((r3.fst.fst, ()), ())
    else
     bif decide (a0 = (9 : Int)) then
      bif decide (a0 = (9 : Int)) then
       (F44.run [PK.v (Ty.int .i64), PK.v (Ty.nm 0), PK.v (Ty.nm 0)] [RK.v (Ty.nm 0)] 4000000 (a0, a1, a2, ())).bind fun r4 =>
        some ((r4.fst.fst, ()), ())
      else
       F28c16 n (a0) (a1) (a2) (zVal)
     else
      bif decide (a0 = (10 : Int)) then
       bif decide (a0 = (10 : Int)) then
        (F44.run [PK.v (Ty.int .i64), PK.v (Ty.nm 0), PK.v (Ty.nm 0)] [RK.v (Ty.nm 0)] 4000000 (a0, a1, a2, ())).bind fun r5 =>
         some ((r5.fst.fst, ()), ())
       else
        F28c16 n (a0) (a1) (a2) (zVal)
      else
       bif decide (a0 = (11 : Int)) then
        bif decide (a0 = (11 : Int)) then
         (F44.run [PK.v (Ty.int .i64), PK.v (Ty.nm 0), PK.v (Ty.nm 0)] [RK.v (Ty.nm 0)] 4000000 (a0, a1, a2, ())).bind fun r6 =>
          some ((r6.fst.fst, ()), ())
        else
         F28c16 n (a0) (a1) (a2) (zVal)
       else
        bif decide (a0 = (12 : Int)) then
         bif decide (a0 = (12 : Int)) then
          (F44.run [PK.v (Ty.int .i64), PK.v (Ty.nm 0), PK.v (Ty.nm 0)] [RK.v (Ty.nm 0)] 4000000 (a0, a1, a2, ())).bind fun r7 =>
           some ((r7.fst.fst, ()), ())
         else
          F28c16 n (a0) (a1) (a2) (zVal)
        else
         bif decide (a0 = (13 : Int)) then
          (F44.run [PK.v (Ty.int .i64), PK.v (Ty.nm 0), PK.v (Ty.nm 0)] [RK.v (Ty.nm 0)] 4000000 (a0, a1, a2, ())).bind fun r8 =>
           some ((r8.fst.fst, ()), ())
         else
          F28c16 n (a0) (a1) (a2) (zVal) := by kernel_rfl
theorem F28c16_eq (n x0 x1 x2 x3 : _) : F28c16 (n + 1) x0 x1 x2 x3 =
 (F16.run [PK.v (Ty.int .i64), PK.v (Ty.nm 0), PK.v (Ty.nm 0)] [RK.v (Ty.nm 0)] 4000000 (x0, x1, x2, ())).bind fun r9 =>
  some ((r9.fst.fst, ()), ()) := by kernel_rfl
theorem F9_run (g13 : G13) (n : Nat) (a0 : Ex) (a1 : List (Val)) : (F9 g13).run [.v (.nm 2), .v (.sl (.nm 0))] [.v (.bool)] n (a0, a1, ()) =
 (g13 (a0, a1, ())).bind fun r0 =>
  (F15.run [PK.v (Ty.nm 0)] [RK.v Ty.bool] 4000000 (r0.fst.fst, ())).bind fun r1 =>
   some ((r1.fst.fst, ()), ()) := by kernel_rfl
noncomputable def F24c1 (g13 : G13) (n : Nat) (x0 : List (Ex)) (x1 : List (Val)) := (F24 g13).at [.v (.sl (.nm 2)), .v (.sl (.nm 0))] [.own 23 (.nm 0)] n 1 ⟨[.one (.data (.sl (.nm 2)) x0 []), .one (.data (.sl (.nm 0)) x1 []), U, U, U, U, U, U, U, U, U, U, U, U, U, U, U, U, U, U, U, U], []⟩
noncomputable def F24c3 (g13 : G13) (n : Nat) (x0 : List (Val)) (x1 : List (Ex)) (x2 : Int) (x3 : Int) (x4 : List (Val)) := (F24 g13).at [.v (.sl (.nm 2)), .v (.sl (.nm 0))] [.own 23 (.nm 0)] n 3 ⟨[U, .one (.data (.sl (.nm 0)) x0 []), U, U, U, .one (.own 0), U, U, .one (.data (.sl (.nm 2)) x1 []), .one (.int .i64 x2), .one (.int .i64 x3), U, U, U, U, U, U, U, U, U, U, U], [(0, .row 23 (.nm 0) x4 [] false)]⟩
theorem F24_run (g13 : G13) (n : Nat) (a0 : List (Ex)) (a1 : List (Val)) : (F24 g13).run [.v (.sl (.nm 2)), .v (.sl (.nm 0))] [.own 23 (.nm 0)] n (a0, a1, ()) =
 F24c1 g13 n (a0) (a1) := by kernel_rfl
theorem F24c1_eq (g13 : G13) (n x0 x1 : _) : F24c1 g13 (n + 1) x0 x1 =
 F24c3 g13 n (x1) (x0) ((↑x0.length : Int)) ((0 : Int)) ([]) := by kernel_rfl
theorem F24c3_eq (g13 : G13) (n x0 x1 x2 x3 x4 : _) : F24c3 g13 (n + 1) x0 x1 x2 x3 x4 =
 bif decide (x3 < x2) then
  if (0 : Int) ≤ x3 then
   if x3 < (↑x1.length : Int) then
    (g13 (x1.getD x3.toNat zEx, x0, ())).bind fun r0 =>
     if x4.length + (1 : Nat) ≤ lim then
      F24c3 g13 n (x0) (x1) (x2) (IntKind.i64.wrap (x3 + (1 : Int))) (x4 ++ ([r0.fst.fst] : List (Val)))
     else
      none
   else
    none
  else
   none
 else
  some ((x4, ()), ()) := by kernel_rfl
noncomputable def F13c10 (g13 : G13) (n : Nat) (x0 : Val) := (F13 g13).at [.v (.nm 2), .v (.sl (.nm 0))] [.v (.nm 0)] n 10 ⟨[U, U, U, U, .one (.bptr 0 0), U, U, U, U, U, U, U, U, U, U, U, U, U, U, U, U, U, U, U, U, U, U, U, U, U, U, U, U, U, U, U, U, U, U, U, U, U, U, U, U, U, U, U, U, U, U, U, U, U, U, U, U, U, U, U, U, U, U, U, U, U, U, U, U, U, U, U, U, U, U, U, U], [(0, .whole (.nm 0) x0 [])]⟩
theorem F13_run (g13 : G13) (n : Nat) (a0 : Ex) (a1 : List (Val)) : (F13 g13).run [.v (.nm 2), .v (.sl (.nm 0))] [.v (.nm 0)] n (a0, a1, ()) =
 bif decide (a0.kind = (1 : Int)) then
  some ((a0.value, ()), ())
 else
  bif decide (a0.kind = (2 : Int)) then
   (F14.run [PK.v (Ty.nm 0).sl, PK.v (Ty.int .i64)] [RK.v (Ty.nm 0)] 4000000 (a1, a0.slot, ())).bind fun r0 =>
    some ((r0.fst.fst, ()), ())
  else
   bif decide (a0.kind = (8 : Int)) then
    ((F23 g13).run [PK.v (Ty.nm 2).sl, PK.v (Ty.nm 0).sl] [RK.v (Ty.nm 0)] 4000000 (a0.args, a1, ())).bind fun r1 =>
     some ((r1.fst.fst, ()), ())
   else
    bif decide (a0.kind = (10 : Int)) then
     F13c10 g13 n (zVal)
    else
     bif decide (a0.kind = (11 : Int)) then
      F13c10 g13 n (zVal)
     else
      ((F24 g13).run [PK.v (Ty.nm 2).sl, PK.v (Ty.nm 0).sl] [RK.own 23 (Ty.nm 0)] 4000000 (a0.args, a1, ())).bind fun r2 =>
       bif decide (a0.kind = (3 : Int)) then
        if (0 : Int) < (↑(List.length r2.fst.fst) : Int) then
         (F25.run [PK.v (Ty.nm 0)] [RK.v (Ty.nm 0)] 4000000 (List.getD r2.fst.fst (Int.toNat (0 : Int)) zVal, ())).bind fun r3 =>
          some ((r3.fst.fst, ()), ())
        else
         none
       else
        bif decide (a0.kind = (4 : Int)) then
         if (0 : Int) < (↑(List.length r2.fst.fst) : Int) then
          (F26.run [PK.v (Ty.nm 0)] [RK.v (Ty.nm 0)] 4000000 (List.getD r2.fst.fst (Int.toNat (0 : Int)) zVal, ())).bind fun r4 =>
           some ((r4.fst.fst, ()), ())
         else
          none
        else
         bif decide (a0.kind = (6 : Int)) then
          if (0 : Int) < (↑(List.length r2.fst.fst) : Int) then
           (F27.run [PK.v Ty.bool] [RK.v (Ty.nm 0)] 4000000 (decide ((List.getD r2.fst.fst (Int.toNat (0 : Int)) zVal).kind = (0 : Int)), ())).bind fun r5 =>
            some ((r5.fst.fst, ()), ())
          else
           none
         else
          bif decide (a0.kind = (5 : Int)) then
           if (0 : Int) < (↑(List.length r2.fst.fst) : Int) then
            if (1 : Int) < (↑(List.length r2.fst.fst) : Int) then
             (F28.run [PK.v (Ty.int .i64), PK.v (Ty.nm 0), PK.v (Ty.nm 0)] [RK.v (Ty.nm 0)] 4000000 (a0.op, List.getD r2.fst.fst (Int.toNat (0 : Int)) zVal, List.getD r2.fst.fst (Int.toNat (1 : Int)) zVal, ())).bind fun r6 =>
              some ((r6.fst.fst, ()), ())
            else
             none
           else
            none
          else
           bif decide (a0.kind = (7 : Int)) then
            (F29.run [PK.v (Ty.nm 0).sl] [RK.v (Ty.nm 0)] 4000000 (r2.fst.fst, ())).bind fun r7 =>
             some ((r7.fst.fst, ()), ())
           else
            bif decide (a0.kind = (9 : Int)) then
             (F30.run [PK.v Ty.str, PK.v (Ty.nm 0).sl] [RK.v (Ty.nm 0)] 4000000 (a0.name, r2.fst.fst, ())).bind fun r8 =>
              some ((r8.fst.fst, ()), ())
            else
             some ((zVal, ()), ()) := by kernel_rfl
theorem F18_run (n : Nat) (a0 : Val) : F18.run [.v (.nm 0)] [.v (.bool)] n (a0, ()) =
 bif decide (a0.kind = (1 : Int)) then
  some ((decide (a0.int = (1 : Int)), ()), ())
 else
  some ((false, ()), ()) := by kernel_rfl
theorem F33_run (n : Nat) (a0 : Bool) : F33.run [.v (.bool)] [.v (.nm 0)] n (a0, ()) =
 bif a0 then
  some (({ kind := (1 : Int), int := (1 : Int), text := [] : Val }, ()), ())
 else
  some (({ kind := (1 : Int), int := (0 : Int), text := [] : Val }, ()), ()) := by kernel_rfl
theorem F34_run (n : Nat) (a0 : Int) (a1 : Int) : F34.run [.v (.int .i64), .v (.int .i64)] [.v (.bool)] n (a0, a1, ()) =
 bif decide (a0 = (1 : Int)) then
  some ((decide (a1 = (0 : Int)), ()), ())
 else
  bif decide (a0 = (2 : Int)) then
   some ((!decide (a1 = (0 : Int)), ()), ())
  else
   bif decide (a0 = (3 : Int)) then
    some ((decide (a1 < (0 : Int)), ()), ())
   else
    bif decide (a0 = (4 : Int)) then
     some ((decide (a1 ≤ (0 : Int)), ()), ())
    else
     bif decide (a0 = (5 : Int)) then
      some ((decide ((0 : Int) < a1), ()), ())
     else
      bif decide (a0 = (6 : Int)) then
       some ((decide ((0 : Int) ≤ a1), ()), ())
      else
       some ((false, ()), ()) := by kernel_rfl
theorem F51_run (n : Nat) (a0 : Bool) (a1 : Bool) : F51.run [.v (.bool), .v (.bool)] [.v (.int .i64)] n (a0, a1, ()) =
 bif a0 then
  some (((-1 : Int), ()), ())
 else
  bif a1 then
   some (((1 : Int), ()), ())
  else
   some (((0 : Int), ()), ()) := by kernel_rfl
theorem F35_run (n : Nat) (a0 : Val) (a1 : Val) : F35.run [.v (.nm 0), .v (.nm 0)] [.v (.int .i64)] n (a0, a1, ()) =
 bif !decide (a0.kind = a1.kind) then
  (F51.run [PK.v Ty.bool, PK.v Ty.bool] [RK.v (Ty.int .i64)] 4000000 (decide (a0.kind < a1.kind), true, ())).bind fun r0 =>
   some ((r0.fst.fst, ()), ())
 else
  bif decide (a0.kind = (3 : Int)) then
   (F51.run [PK.v Ty.bool, PK.v Ty.bool] [RK.v (Ty.int .i64)] 4000000 (Eng.strLt a0.text a1.text, Eng.strLt a1.text a0.text, ())).bind fun r1 =>
    some ((r1.fst.fst, ()), ())
  else
   (F51.run [PK.v Ty.bool, PK.v Ty.bool] [RK.v (Ty.int .i64)] 4000000 (decide (a0.int < a1.int), decide (a1.int < a0.int), ())).bind fun r2 =>
    some ((r2.fst.fst, ()), ()) := by kernel_rfl
noncomputable def F19c3 (n : Nat) (x0 : Int) (x1 : Val) (x2 : Val) (x3 : Val) := F19.at [.v (.int .i64), .v (.nm 0), .v (.nm 0)] [.v (.nm 0)] n 3 ⟨[.one (.int .i64 x0), U, U, U, .one (.bptr 0 0), .one (.bptr 1 0), .one (.bptr 2 0), U, U, U, U, U, U, U, U, U, U, U, U, U, U, U, U, U, U, U, U, U, U, U, U, U], [(0, .whole (.nm 0) x1 []), (1, .whole (.nm 0) x2 []), (2, .whole (.nm 0) x3 [])]⟩
theorem F19_run (n : Nat) (a0 : Int) (a1 : Val) (a2 : Val) : F19.run [.v (.int .i64), .v (.nm 0), .v (.nm 0)] [.v (.nm 0)] n (a0, a1, a2, ()) =
 bif decide (a1.kind = (0 : Int)) then
  some ((zVal, ()), ())
 else
  bif !decide (a1.kind = a2.kind) then
   some ((zVal, ()), ())
  else
   bif decide (a0 < (1 : Int)) then
    some ((zVal, ()), ())
   else
    bif decide ((6 : Int) < a0) then
     some ((zVal, ()), ())
    else
     F19c3 n (a0) (a1) (a2) (zVal) := by kernel_rfl
theorem F19c3_eq (n x0 x1 x2 x3 : _) : F19c3 (n + 1) x0 x1 x2 x3 =
 (F35.run [PK.v (Ty.nm 0), PK.v (Ty.nm 0)] [RK.v (Ty.int .i64)] 4000000 (x1, x2, ())).bind fun r0 =>
  (F34.run [PK.v (Ty.int .i64), PK.v (Ty.int .i64)] [RK.v Ty.bool] 4000000 (x0, r0.fst.fst, ())).bind fun r1 =>
   (F33.run [PK.v Ty.bool] [RK.v (Ty.nm 0)] 4000000 (r1.fst.fst, ())).bind fun r2 =>
    some ((r2.fst.fst, ()), ()) := by kernel_rfl
theorem F17_run (n : Nat) (a0 : List (Val)) (a1 : Int) : F17.run [.v (.sl (.nm 0)), .v (.int .i64)] [.v (.nm 0)] n (a0, a1, ()) =
 bif decide (a1 < (0 : Int)) then
  some ((zVal, ()), ())
 else
  bif decide ((↑a0.length : Int) ≤ a1) then
   some ((zVal, ()), ())
  else
   if (0 : Int) ≤ a1 then
    if a1 < (↑a0.length : Int) then
     some ((a0.getD a1.toNat zVal, ()), ())
    else
     none
   else
    none := by kernel_rfl
theorem F8_run (n : Nat) (a0 : Pred) (a1 : List (Val)) : F8.run [.v (.nm 1), .v (.sl (.nm 0))] [.v (.bool)] n (a0, a1, ()) =
 (F17.run [PK.v (Ty.nm 0).sl, PK.v (Ty.int .i64)] [RK.v (Ty.nm 0)] 4000000 (a1, a0.column, ())).bind fun r0 =>
  bif decide (a0.op = (20 : Int)) then
   some ((decide (r0.fst.fst.kind = (0 : Int)), ()), ())
  else
   bif decide (a0.op = (21 : Int)) then
    some ((!decide (r0.fst.fst.kind = (0 : Int)), ()), ())
   else
    (F19.run [PK.v (Ty.int .i64), PK.v (Ty.nm 0), PK.v (Ty.nm 0)] [RK.v (Ty.nm 0)] 4000000 (a0.op, r0.fst.fst, a0.value, ())).bind fun r1 =>
     (F18.run [PK.v (Ty.nm 0)] [RK.v Ty.bool] 4000000 (r1.fst.fst, ())).bind fun r2 =>
      some ((r2.fst.fst, ()), ()) := by kernel_rfl
theorem F5_run (n : Nat) (a0 : Val) : F5.run [.v (.nm 0)] [.v (.bool)] n (a0, ()) =
 bif decide (a0.kind = (0 : Int)) then
  bif decide (a0.int = (0 : Int)) then
   some ((decide (a0.text = []), ()), ())
  else
   some ((false, ()), ())
 else
  bif decide (a0.kind = (1 : Int)) then
   bif decide (a0.int = (0 : Int)) then
    some ((decide (a0.text = []), ()), ())
   else
    bif decide (a0.int = (1 : Int)) then
     some ((decide (a0.text = []), ()), ())
    else
     some ((false, ()), ())
  else
   bif decide (a0.kind = (2 : Int)) then
    some ((decide (a0.text = []), ()), ())
   else
    bif decide (a0.kind = (3 : Int)) then
     bif decide (a0.int = (0 : Int)) then
      some ((decide ((↑a0.text.length : Int) ≤ (4096 : Int)), ()), ())
     else
      some ((false, ()), ())
    else
     some ((false, ()), ()) := by kernel_rfl
noncomputable def F4c2 (n : Nat) (x0 : List (Val)) (x1 : Int) := F4.at [.v (.sl (.nm 0))] [.v (.bool)] n 2 ⟨[.one (.data (.sl (.nm 0)) x0 []), U, U, .one (.int .i64 x1), U, U, U, U, U, U, U, U, U, U, U, U], []⟩
theorem F4_run (n : Nat) (a0 : List (Val)) : F4.run [.v (.sl (.nm 0))] [.v (.bool)] n (a0, ()) =
 F4c2 n (a0) ((0 : Int)) := by kernel_rfl
theorem F4c2_eq (n x0 x1 : _) : F4c2 (n + 1) x0 x1 =
 bif decide (x1 < (↑x0.length : Int)) then
  if (0 : Int) ≤ x1 then
   if x1 < (↑x0.length : Int) then
    (F5.run [PK.v (Ty.nm 0)] [RK.v Ty.bool] 4000000 (x0.getD x1.toNat zVal, ())).bind fun r0 =>
     bif !r0.fst.fst then
      some ((false, ()), ())
     else
      F4c2 n (x0) (IntKind.i64.wrap (x1 + (1 : Int)))
   else
    none
  else
   none
 else
  some ((true, ()), ()) := by kernel_rfl
end Go.Proofs.Tryz
