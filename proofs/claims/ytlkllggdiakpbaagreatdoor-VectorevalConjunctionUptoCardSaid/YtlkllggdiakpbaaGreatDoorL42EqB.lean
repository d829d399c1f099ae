/- The functions of the program as the engine follows them (printed by a program of ours): their code, what is known of them, and the equations of their runs. -/
import Derived.Test.YtlkllggdiakpbaaGreatDoorL42Fns
set_option linter.unusedVariables false
set_option maxRecDepth 20000
namespace Go.Proofs.Tryz
open Go.Eng
noncomputable def F134c1 (n : Nat) (x0 : List Int) := F134.at [.v (.str)] [.own 3 (.int .i64), .v (.int .i64)] n 1 ⟨[.one (.str x0), U, U, U, U, U, U, U, U, U, U, U, U, U, U, U, U, U, U, U, U, U, U, U], []⟩
noncomputable def F134c10 (n : Nat)  := F134.at [.v (.str)] [.own 3 (.int .i64), .v (.int .i64)] n 10 ⟨[U, U, U, U, U, U, U, U, U, U, U, U, U, U, U, U, U, U, U, U, U, U, U, U], []⟩
noncomputable def F134c12 (n : Nat)  := F134.at [.v (.str)] [.own 3 (.int .i64), .v (.int .i64)] n 12 ⟨[U, U, U, U, U, U, U, U, U, U, U, U, U, U, U, U, U, U, U, U, U, U, U, U], []⟩
theorem F134_run (n : Nat) (a0 : List Int) : F134.run [.v (.str)] [.own 3 (.int .i64), .v (.int .i64)] n (a0, ()) =
 F134c1 n (a0) := by kernel_rfl
theorem F134c1_eq (n x0 : _) : F134c1 (n + 1) x0 =
 bif decide (x0 = [(108 : Int), (101 : Int), (110 : Int), (103 : Int), (116 : Int), (104 : Int)]) then
  some (([(3 : Int)], ((2 : Int), ())), ())
 else
  bif decide (x0 = [(117 : Int), (112 : Int), (112 : Int), (101 : Int), (114 : Int)]) then
   F134c10 n
  else
   bif decide (x0 = [(108 : Int), (111 : Int), (119 : Int), (101 : Int), (114 : Int)]) then
    F134c10 n
   else
    bif decide (x0 = [(115 : Int), (117 : Int), (98 : Int), (115 : Int), (116 : Int), (114 : Int)]) then
     some (([(3 : Int), (2 : Int), (2 : Int)], ((3 : Int), ())), ())
    else
     bif decide (x0 = [(97 : Int), (98 : Int), (115 : Int)]) then
      F134c12 n
     else
      bif decide (x0 = [(112 : Int), (97 : Int), (114 : Int), (105 : Int), (116 : Int), (121 : Int)]) then
       F134c12 n
      else
       bif decide (x0 = [(115 : Int), (116 : Int), (97 : Int), (114 : Int), (116 : Int), (115 : Int), (95 : Int), (119 : Int), (105 : Int), (116 : Int), (104 : Int)]) then
        some (([(3 : Int), (3 : Int)], ((1 : Int), ())), ())
       else
        some (([], ((0 : Int), ())), ()) := by kernel_rfl
theorem F134c10_eq (n : Nat)  : F134c10 (n + 1)  =
 some (([(3 : Int)], ((3 : Int), ())), ()) := by kernel_rfl
theorem F134c12_eq (n : Nat)  : F134c12 (n + 1)  =
 some (([(2 : Int)], ((2 : Int), ())), ()) := by kernel_rfl
noncomputable def F133c3 (n : Nat) (x0 : Int) (x1 : List (Val)) (x2 : Int) (x3 : Int) (x4 : Val) (x5 : Val) := F133.at [.v (.sl (.nm 0)), .v (.int .i64)] [.v (.nm 0)] n 3 ⟨[U, .one (.int .i64 x0), U, U, .one (.bptr 0 0), .one (.bptr 1 0), U, U, U, .one (.data (.sl (.nm 0)) x1 []), .one (.int .i64 x2), .one (.int .i64 x3), U, U, U, U, U, U, U, U, U, U, U, U, U, U, U, U, U, U, U, U, U], [(0, .whole (.nm 0) x4 []), (1, .whole (.nm 0) x5 [])]⟩
noncomputable def F133c7 (n : Nat) (x0 : Int) (x1 : List (Val)) (x2 : Int) (x3 : Int) (x4 : Val) (x5 : Val) := F133.at [.v (.sl (.nm 0)), .v (.int .i64)] [.v (.nm 0)] n 7 ⟨[U, .one (.int .i64 x0), U, U, .one (.bptr 0 0), .one (.bptr 1 0), U, U, U, .one (.data (.sl (.nm 0)) x1 []), .one (.int .i64 x2), .one (.int .i64 x3), U, U, U, U, U, U, U, U, U, U, U, U, U, U, U, U, U, U, U, U, U], [(0, .whole (.nm 0) x4 []), (1, .whole (.nm 0) x5 [])]⟩
theorem F133_run (n : Nat) (a0 : List (Val)) (a1 : Int) : F133.run [.v (.sl (.nm 0)), .v (.int .i64)] [.v (.nm 0)] n (a0, a1, ()) =
 F133c3 n (a1) (a0) ((↑a0.length : Int)) ((0 : Int)) (zVal) (zVal) := by kernel_rfl
theorem F133c3_eq (n x0 x1 x2 x3 x4 x5 : _) : F133c3 (n + 1) x0 x1 x2 x3 x4 x5 =
 bif decide (x3 < x2) then
  if (0 : Int) ≤ x3 then
   if x3 < (↑x1.length : Int) then
    bif !decide ((x1.getD x3.toNat zVal).kind = (0 : Int)) then
     bif decide (x5.kind = (0 : Int)) then
      F133c7 n (x0) (x1) (x2) (x3) (x4) (x1.getD x3.toNat zVal)
     else
      (F81.run [PK.v (Ty.nm 0), PK.v (Ty.nm 0)] [RK.v (Ty.int .i64)] 4000000 (x1.getD x3.toNat zVal, x5, ())).bind fun r0 =>
       bif decide (r0.fst.fst = x0) then
        F133c7 n (x0) (x1) (x2) (x3) (x4) (x1.getD x3.toNat zVal)
       else
        F133c7 n (x0) (x1) (x2) (x3) (x4) (x5)
    else
     F133c7 n (x0) (x1) (x2) (x3) (x4) (x5)
   else
    none
  else
   none
 else
  some ((x5, ()), ()) := by kernel_rfl
theorem F133c7_eq (n x0 x1 x2 x3 x4 x5 : _) : F133c7 (n + 1) x0 x1 x2 x3 x4 x5 =
 F133c3 n (x0) (x1) (x2) (IntKind.i64.wrap (x3 + (1 : Int))) (x4) (x5) := by kernel_rfl
theorem F155_run (n : Nat) (a0 : Bool) : F155.run [.v (.bool)] [.v (.nm 0)] n (a0, ()) =
 bif a0 then
  some (({ kind := (1 : Int), int := (1 : Int), text := [] : Val }, ()), ())
 else
  some (({ kind := (1 : Int), int := (0 : Int), text := [] : Val }, ()), ()) := by kernel_rfl
noncomputable def F132c3 (n : Nat) (x0 : Int) (x1 : Val) (x2 : Val) (x3 : Val) := F132.at [.v (.int .i64), .v (.nm 0), .v (.nm 0)] [.v (.nm 0)] n 3 ⟨[.one (.int .i64 x0), U, U, U, .one (.bptr 0 0), .one (.bptr 1 0), .one (.bptr 2 0), U, U, U, U, U, U, U, U, U, U, U, U, U, U, U, U, U, U, U, U, U, U, U, U, U, U, U, U, U, U, U, U, U, U, U, U, U, U, U, U, U, U, U, U, U, U, U, U, U, U, U], [(0, .whole (.nm 0) x1 []), (1, .whole (.nm 0) x2 []), (2, .whole (.nm 0) x3 [])]⟩
noncomputable def F132c18 (n : Nat) (x0 : Bool) (x1 : Val) := F132.at [.v (.int .i64), .v (.nm 0), .v (.nm 0)] [.v (.nm 0)] n 18 ⟨[U, U, U, U, U, U, .one (.bptr 0 0), U, .one (.bool x0), U, U, U, U, U, U, U, U, U, U, U, U, U, U, U, U, U, U, U, U, U, U, U, U, U, U, U, U, U, U, U, U, U, U, U, U, U, U, U, U, U, U, U, U, U, U, U, U, U], [(0, .whole (.nm 0) x1 [])]⟩
theorem F132_run (n : Nat) (a0 : Int) (a1 : Val) (a2 : Val) : F132.run [.v (.int .i64), .v (.nm 0), .v (.nm 0)] [.v (.nm 0)] n (a0, a1, a2, ()) =
 bif decide (a1.kind = (0 : Int)) then
  some ((zVal, ()), ())
 else
  bif !decide (a1.kind = a2.kind) then
   some ((zVal, ()), ())
  else
   bif decide (a0 < (1 : Int)) then
    some ((zVal, ()), ())
   else
    bif decide ((6 : Int) < a0) then
     some ((zVal, ()), ())
    else
     F132c3 n (a0) (a1) (a2) (zVal) := by kernel_rfl
theorem F132c3_eq (n x0 x1 x2 x3 : _) : F132c3 (n + 1) x0 x1 x2 x3 =
 (F81.run [PK.v (Ty.nm 0), PK.v (Ty.nm 0)] [RK.v (Ty.int .i64)] 4000000 (x1, x2, ())).bind fun r0 =>
  bif decide (x0 = (1 : Int)) then
   F132c18 n (decide (r0.fst.fst = (0 : Int))) (x3)
  else
   bif decide (x0 = (2 : Int)) then
    F132c18 n (!decide (r0.fst.fst = (0 : Int))) (x3)
   else
    bif decide (x0 = (3 : Int)) then
     F132c18 n (decide (r0.fst.fst < (0 : Int))) (x3)
    else
     bif decide (x0 = (4 : Int)) then
      F132c18 n (decide (r0.fst.fst ≤ (0 : Int))) (x3)
     else
      bif decide (x0 = (5 : Int)) then
       F132c18 n (decide ((0 : Int) < r0.fst.fst)) (x3)
      else
       bif decide (x0 = (6 : Int)) then
        F132c18 n (decide ((0 : Int) ≤ r0.fst.fst)) (x3)
       else
        F132c18 n (false) (x3) := by kernel_rfl
theorem F132c18_eq (n x0 x1 : _) : F132c18 (n + 1) x0 x1 =
 (F155.run [PK.v Ty.bool] [RK.v (Ty.nm 0)] 4000000 (x0, ())).bind fun r1 =>
  some ((r1.fst.fst, ()), ()) := by kernel_rfl
theorem F131_run (n : Nat) (a0 : List Int) (a1 : Int) : F131.run [.v (.str), .v (.int .i64)] [.v (.bool), .v (.bool)] n (a0, a1, ()) =
 bif decide (a0 = [(99 : Int), (111 : Int), (97 : Int), (108 : Int), (101 : Int), (115 : Int), (99 : Int), (101 : Int)]) then
  bif decide (a0 = [(99 : Int), (111 : Int), (97 : Int), (108 : Int), (101 : Int), (115 : Int), (99 : Int), (101 : Int)]) then
   some ((true, (decide ((1 : Int) ≤ a1), ())), ())
  else
   bif decide (a0 = [(110 : Int), (117 : Int), (108 : Int), (108 : Int), (105 : Int), (102 : Int)]) then
    some ((true, (decide (a1 = (2 : Int)), ())), ())
   else
    some ((false, (false, ())), ())
 else
  bif decide (a0 = [(108 : Int), (101 : Int), (97 : Int), (115 : Int), (116 : Int)]) then
   bif decide (a0 = [(108 : Int), (101 : Int), (97 : Int), (115 : Int), (116 : Int)]) then
    some ((true, (decide ((1 : Int) ≤ a1), ())), ())
   else
    bif decide (a0 = [(110 : Int), (117 : Int), (108 : Int), (108 : Int), (105 : Int), (102 : Int)]) then
     some ((true, (decide (a1 = (2 : Int)), ())), ())
    else
     some ((false, (false, ())), ())
  else
   bif decide (a0 = [(103 : Int), (114 : Int), (101 : Int), (97 : Int), (116 : Int), (101 : Int), (115 : Int), (116 : Int)]) then
    some ((true, (decide ((1 : Int) ≤ a1), ())), ())
   else
    bif decide (a0 = [(110 : Int), (117 : Int), (108 : Int), (108 : Int), (105 : Int), (102 : Int)]) then
     some ((true, (decide (a1 = (2 : Int)), ())), ())
    else
     some ((false, (false, ())), ()) := by kernel_rfl
noncomputable def F103c15 (n : Nat) (x0 : List (Val)) (x1 : Int) (x2 : Int) (x3 : Val) := F103.at [.v (.str), .v (.sl (.nm 0))] [.v (.nm 0)] n 15 ⟨[U, U, U, U, .one (.bptr 0 0), U, U, U, U, U, U, U, U, U, U, U, U, U, U, U, U, U, U, U, U, U, U, U, U, U, U, U, U, U, U, U, U, U, U, U, U, U, U, U, U, U, U, U, .one (.data (.sl (.nm 0)) x0 []), .one (.int .i64 x1), .one (.int .i64 x2), U, U, U, U, U, U, U, U, U, U, U, U, U, U, U, U, U, U, U, U, U, U, U, U, U, U, U, U, U, U, U, U, U, U, U, U, U, U, U, U, U, U, U], [(0, .whole (.nm 0) x3 [])]⟩
noncomputable def F103c24 (n : Nat) (x0 : List Int) (x1 : List (Val)) (x2 : Val) (x3 : List (Int)) := F103.at [.v (.str), .v (.sl (.nm 0))] [.v (.nm 0)] n 24 ⟨[.one (.str x0), .one (.data (.sl (.nm 0)) x1 []), U, U, .one (.bptr 0 0), U, U, U, U, .one (.own 1), U, U, U, U, U, U, U, U, U, U, U, U, U, U, U, U, U, U, U, U, U, U, U, U, U, U, U, U, U, U, U, U, U, U, U, U, U, U, U, U, U, U, U, U, U, U, U, U, U, U, U, U, U, U, U, U, U, U, U, U, U, U, U, U, U, U, U, U, U, U, U, U, U, U, U, U, U, U, U, U, U, U, U, U], [(0, .whole (.nm 0) x2 []), (1, .row 3 (.int .i64) x3 [] false)]⟩
noncomputable def F103c25 (n : Nat) (x0 : List Int) (x1 : List (Val)) (x2 : List (Val)) (x3 : Int) (x4 : Int) (x5 : Val) (x6 : List (Int)) := F103.at [.v (.str), .v (.sl (.nm 0))] [.v (.nm 0)] n 25 ⟨[.one (.str x0), .one (.data (.sl (.nm 0)) x1 []), U, U, .one (.bptr 0 0), U, U, U, U, .one (.own 1), U, U, U, U, U, U, U, U, U, U, U, U, U, U, U, U, U, U, U, U, U, U, U, U, U, U, U, U, U, U, U, U, U, U, U, U, U, U, U, U, U, U, U, U, U, U, U, U, U, U, U, U, U, U, U, U, U, U, U, U, U, U, U, U, U, .one (.data (.sl (.nm 0)) x2 []), .one (.int .i64 x3), .one (.int .i64 x4), U, U, U, U, U, U, U, U, U, U, U, U, U, U, U, U], [(0, .whole (.nm 0) x5 []), (1, .row 3 (.int .i64) x6 [] false)]⟩
theorem F103_run (n : Nat) (a0 : List Int) (a1 : List (Val)) : F103.run [.v (.str), .v (.sl (.nm 0))] [.v (.nm 0)] n (a0, a1, ()) =
 (F131.run [PK.v Ty.str, PK.v (Ty.int .i64)] [RK.v Ty.bool, RK.v Ty.bool] 4000000 (a0, (↑a1.length : Int), ())).bind fun r0 =>
  bif r0.fst.fst then
   bif !r0.fst.snd.fst then
    some ((zVal, ()), ())
   else
    bif decide (a0 = [(110 : Int), (117 : Int), (108 : Int), (108 : Int), (105 : Int), (102 : Int)]) then
     if (0 : Int) < (↑a1.length : Int) then
      if (1 : Int) < (↑a1.length : Int) then
       (F132.run [PK.v (Ty.int .i64), PK.v (Ty.nm 0), PK.v (Ty.nm 0)] [RK.v (Ty.nm 0)] 4000000 ((1 : Int), a1.getD (Int.toNat (0 : Int)) zVal, a1.getD (Int.toNat (1 : Int)) zVal, ())).bind fun r1 =>
        bif decide (r1.fst.fst.kind = (1 : Int)) && (decide (r1.fst.fst.int = (1 : Int)) && (decide (r1.fst.fst.text = []) && true)) then
         some ((zVal, ()), ())
        else
         if (0 : Int) < (↑a1.length : Int) then
          some ((a1.getD (Int.toNat (0 : Int)) zVal, ()), ())
         else
          none
      else
       none
     else
      none
    else
     bif decide (a0 = [(108 : Int), (101 : Int), (97 : Int), (115 : Int), (116 : Int)]) then
      (F133.run [PK.v (Ty.nm 0).sl, PK.v (Ty.int .i64)] [RK.v (Ty.nm 0)] 4000000 (a1, (-1 : Int), ())).bind fun r2 =>
       some ((r2.fst.fst, ()), ())
     else
      bif decide (a0 = [(103 : Int), (114 : Int), (101 : Int), (97 : Int), (116 : Int), (101 : Int), (115 : Int), (116 : Int)]) then
       (F133.run [PK.v (Ty.nm 0).sl, PK.v (Ty.int .i64)] [RK.v (Ty.nm 0)] 4000000 (a1, (1 : Int), ())).bind fun r3 =>
        some ((r3.fst.fst, ()), ())
      else
       F103c15 n (a1) ((↑a1.length : Int)) ((0 : Int)) (zVal)
  else
   (F134.run [PK.v Ty.str] [RK.own 3 (Ty.int .i64), RK.v (Ty.int .i64)] 4000000 (a0, ())).bind fun r4 =>
    if List.length r4.fst.fst = (0 : Nat) then
     none
    else
     bif !decide ((↑(List.length r4.fst.fst) : Int) = (↑a1.length : Int)) then
      some ((zVal, ()), ())
     else
      F103c24 n (a0) (a1) (zVal) (r4.fst.fst) := by kernel_rfl
theorem F103c15_eq (n x0 x1 x2 x3 : _) : F103c15 (n + 1) x0 x1 x2 x3 =
 bif decide (x2 < x1) then
  if (0 : Int) ≤ x2 then
   if x2 < (↑x0.length : Int) then
    bif !decide ((x0.getD x2.toNat zVal).kind = (0 : Int)) then
     some ((x0.getD x2.toNat zVal, ()), ())
    else
     F103c15 n (x0) (x1) (IntKind.i64.wrap (x2 + (1 : Int))) (x3)
   else
    none
  else
   none
 else
  some ((zVal, ()), ()) := by kernel_rfl
theorem F103c24_eq (n x0 x1 x2 x3 : _) : F103c24 (n + 1) x0 x1 x2 x3 =
 F103c25 n (x0) (x1) (x1) ((↑x1.length : Int)) ((0 : Int)) (x2) (x3) := by kernel_rfl
theorem F103c25_eq (n x0 x1 x2 x3 x4 x5 x6 : _) : F103c25 (n + 1) x0 x1 x2 x3 x4 x5 x6 =
 bif decide (x4 < x3) then
  if (0 : Int) ≤ x4 then
   if x4 < (↑x2.length : Int) then
    if (0 : Int) ≤ x4 then
     if x4 < (↑x6.length : Int) then
      bif !decide ((x2.getD x4.toNat zVal).kind = x6.getD x4.toNat (0 : Int)) then
       some ((zVal, ()), ())
      else
       F103c25 n (x0) (x1) (x2) (x3) (IntKind.i64.wrap (x4 + (1 : Int))) (x5) (x6)
     else
      none
    else
     none
   else
    none
  else
   none
 else
  (F135.run [PK.v Ty.str, PK.v (Ty.nm 0).sl] [RK.v (Ty.nm 0)] 4000000 (x0, x1, ())).bind fun r5 =>
   some ((r5.fst.fst, ()), ()) := by kernel_rfl
noncomputable def F102c3 (n : Nat) (x0 : Int) (x1 : Ex) (x2 : List (Vec)) (x3 : Int) (x4 : Int) (x5 : Val) (x6 : List (Val)) := F102.at [.v (.int .i64), .rp (.sl (.nm 3)), .rp (.nm 1)] [.v (.nm 0)] n 3 ⟨[.one (.int .i64 x0), U, .one (.sptr (.nm 1) x1 []), U, .one (.bptr 0 0), .one (.own 1), U, U, U, U, U, .one (.data (.sl (.nm 3)) x2 []), .one (.int .i64 x3), .one (.int .i64 x4), U, U, U, U, U, U, U, U, U, U, U, U, U, U, U], [(0, .whole (.nm 0) x5 []), (1, .row 23 (.nm 0) x6 [] false)]⟩
theorem F102_run (n : Nat) (a0 : Int) (a1 : List (Vec)) (a2 : Ex) : F102.run [.v (.int .i64), .rp (.sl (.nm 3)), .rp (.nm 1)] [.v (.nm 0)] n (a0, a1, a2, ()) =
 if (↑a1.length : Int) ≤ (↑lim : Int) then
  F102c3 n (a0) (a2) (a1) ((↑a1.length : Int)) ((0 : Int)) (zVal) (List.replicate (↑a1.length : Int).toNat zVal)
 else
  none := by kernel_rfl
theorem F102c3_eq (n x0 x1 x2 x3 x4 x5 x6 : _) : F102c3 (n + 1) x0 x1 x2 x3 x4 x5 x6 =
 bif decide (x4 < x3) then
  if (0 : Int) ≤ x4 then
   if x4 < (↑x2.length : Int) then
    (F40.run [PK.v (Ty.nm 3), PK.v (Ty.int .i64)] [RK.v (Ty.nm 0)] 4000000 (Vec.mk (x2.getD x4.toNat zVec).f_Type (x2.getD x4.toNat zVec).ints (x2.getD x4.toNat zVec).texts (x2.getD x4.toNat zVec).nulls, x0, ())).bind fun r0 =>
     if (0 : Int) ≤ x4 then
      if x4 < (↑x6.length : Int) then
       F102c3 n (x0) (x1) (x2) (x3) (IntKind.i64.wrap (x4 + (1 : Int))) (x5) (x6.set x4.toNat r0.fst.fst)
      else
       none
     else
      none
   else
    none
  else
   none
 else
  (F103.run [PK.v Ty.str, PK.v (Ty.nm 0).sl] [RK.v (Ty.nm 0)] 4000000 (x1.name, x6, ())).bind fun r1 =>
   some ((r1.fst.fst, ()), ()) := by kernel_rfl
noncomputable def F103000054c3 (n : Nat) (x0 : Int) (x1 : Int) (x2 : Int) (x3 : Int) (x4 : Int) (x5 : List (Val)) (x6 : List (Int)) (x7 : List (List Int)) (x8 : List (Bool)) (x9 : List (Vec)) (x10 : Ex) := F103000054.at [.v (.int .i64), .v (.int .i64), .fn 102 [3, 4], .bc [.c (.sl (.nm 3))], .bw (.nm 1)] [.v (.nm 3)] n 3 ⟨[.one (.int .i64 x0), .one (.int .i64 x1), .one (.fn 102 [903000, 904000]), U, U, U, .one (.bptr 2 0), .one (.own 3), U, U, U, U, U, U, .one (.int .i64 x2), .one (.int .i64 x3), U, U, U, U, U, U, U, U, U, U, U, U, U, U, U, U, U, U, U, U, U], [(2, .cells [.int .i64 x4, .own 4, .own 5, .own 6]), (3, .row 23 (.nm 0) x5 [] false), (4, .row 2 (.int .i64) x6 [] false), (5, .row 9 .str x7 [] false), (6, .row 4 .bool x8 [] false), (903000, .cells [.data (.sl (.nm 3)) x9 []]), (904000, .whole (.nm 1) x10 [])]⟩
theorem F103000054_run (n : Nat) (a0 : Int) (a1 : Int) (a2 : Unit) (a3 : List (Vec) × Unit) (a4 : Ex) : F103000054.run [.v (.int .i64), .v (.int .i64), .fn 102 [3, 4], .bc [.c (.sl (.nm 3))], .bw (.nm 1)] [.v (.nm 3)] n (a0, a1, a2, a3, a4, ()) =
 if (0 : Int) ≤ a1 then
  if a1 ≤ (↑lim : Int) then
   F103000054c3 n (a0) (a1) ((↑(List.replicate a1.toNat zVal).length : Int)) ((0 : Int)) ((0 : Int)) (List.replicate a1.toNat zVal) ([]) ([]) ([]) (a3.fst) (a4)
  else
   none
 else
  none := by kernel_rfl
theorem F103000054c3_eq (n x0 x1 x2 x3 x4 x5 x6 x7 x8 x9 x10 : _) : F103000054c3 (n + 1) x0 x1 x2 x3 x4 x5 x6 x7 x8 x9 x10 =
 bif decide (x3 < x2) then
  (F102.run [PK.v (Ty.int .i64), PK.rp (Ty.nm 3).sl, PK.rp (Ty.nm 1)] [RK.v (Ty.nm 0)] 4000000 (x3, x9, x10, ())).bind fun r0 =>
   if (0 : Int) ≤ x3 then
    if x3 < (↑x5.length : Int) then
     F103000054c3 n (x0) (x1) (x2) (IntKind.i64.wrap (x3 + (1 : Int))) (x4) (x5.set x3.toNat r0.fst.fst) (x6) (x7) (x8) (x9) (x10)
    else
     none
   else
    none
 else
  (F90.run [PK.v (Ty.int .i64), PK.v (Ty.nm 0).sl] [RK.ag 3 AGV, RK.v (Ty.int .i64)] 4000000 (x0, x5, ())).bind fun r1 =>
   bif !decide (r1.fst.snd.fst = (0 : Int)) then
    (F62.run [PK.v (Ty.int .i64), PK.v (Ty.int .i64)] [RK.ag 3 AGV] 4000000 (x0, x1, ())).bind fun r2 =>
     some (({ f_Type := r2.fst.fst.fst, ints := r2.fst.fst.snd.fst, texts := r2.fst.fst.snd.snd.fst, nulls := r2.fst.fst.snd.snd.snd.fst : Vec }, ()), ((x9, ()), (x10, ())))
   else
    some (({ f_Type := r1.fst.fst.fst, ints := r1.fst.fst.snd.fst, texts := r1.fst.fst.snd.snd.fst, nulls := r1.fst.fst.snd.snd.snd.fst : Vec }, ()), ((x9, ()), (x10, ()))) := by kernel_rfl
theorem F101_run (n : Nat) (a0 : Int) (a1 : List (Val)) : F101.run [.v (.int .i64), .rp (.sl (.nm 0))] [.v (.nm 0)] n (a0, a1, ()) =
 if (0 : Int) ≤ a0 then
  if a0 < (↑a1.length : Int) then
   some ((a1.getD a0.toNat zVal, ()), ())
  else
   none
 else
  none := by kernel_rfl
noncomputable def F102000054c3 (n : Nat) (x0 : Int) (x1 : Int) (x2 : Int) (x3 : Int) (x4 : Int) (x5 : List (Val)) (x6 : List (Int)) (x7 : List (List Int)) (x8 : List (Bool)) (x9 : List (Val)) := F102000054.at [.v (.int .i64), .v (.int .i64), .fn 101 [3], .bc [.c (.sl (.nm 0))]] [.v (.nm 3)] n 3 ⟨[.one (.int .i64 x0), .one (.int .i64 x1), .one (.fn 101 [903000]), U, U, U, .one (.bptr 1 0), .one (.own 2), U, U, U, U, U, U, .one (.int .i64 x2), .one (.int .i64 x3), U, U, U, U, U, U, U, U, U, U, U, U, U, U, U, U, U, U, U, U, U], [(1, .cells [.int .i64 x4, .own 3, .own 4, .own 5]), (2, .row 23 (.nm 0) x5 [] false), (3, .row 2 (.int .i64) x6 [] false), (4, .row 9 .str x7 [] false), (5, .row 4 .bool x8 [] false), (903000, .cells [.data (.sl (.nm 0)) x9 []])]⟩
theorem F102000054_run (n : Nat) (a0 : Int) (a1 : Int) (a2 : Unit) (a3 : List (Val) × Unit) : F102000054.run [.v (.int .i64), .v (.int .i64), .fn 101 [3], .bc [.c (.sl (.nm 0))]] [.v (.nm 3)] n (a0, a1, a2, a3, ()) =
 if (0 : Int) ≤ a1 then
  if a1 ≤ (↑lim : Int) then
   F102000054c3 n (a0) (a1) ((↑(List.replicate a1.toNat zVal).length : Int)) ((0 : Int)) ((0 : Int)) (List.replicate a1.toNat zVal) ([]) ([]) ([]) (a3.fst)
  else
   none
 else
  none := by kernel_rfl
theorem F102000054c3_eq (n x0 x1 x2 x3 x4 x5 x6 x7 x8 x9 : _) : F102000054c3 (n + 1) x0 x1 x2 x3 x4 x5 x6 x7 x8 x9 =
 bif decide (x3 < x2) then
  (F101.run [PK.v (Ty.int .i64), PK.rp (Ty.nm 0).sl] [RK.v (Ty.nm 0)] 4000000 (x3, x9, ())).bind fun r0 =>
   if (0 : Int) ≤ x3 then
    if x3 < (↑x5.length : Int) then
     F102000054c3 n (x0) (x1) (x2) (IntKind.i64.wrap (x3 + (1 : Int))) (x4) (x5.set x3.toNat r0.fst.fst) (x6) (x7) (x8) (x9)
    else
     none
   else
    none
 else
  (F90.run [PK.v (Ty.int .i64), PK.v (Ty.nm 0).sl] [RK.ag 3 AGV, RK.v (Ty.int .i64)] 4000000 (x0, x5, ())).bind fun r1 =>
   bif !decide (r1.fst.snd.fst = (0 : Int)) then
    (F62.run [PK.v (Ty.int .i64), PK.v (Ty.int .i64)] [RK.ag 3 AGV] 4000000 (x0, x1, ())).bind fun r2 =>
     some (({ f_Type := r2.fst.fst.fst, ints := r2.fst.fst.snd.fst, texts := r2.fst.fst.snd.snd.fst, nulls := r2.fst.fst.snd.snd.snd.fst : Vec }, ()), ((x9, ()), ()))
   else
    some (({ f_Type := r1.fst.fst.fst, ints := r1.fst.fst.snd.fst, texts := r1.fst.fst.snd.snd.fst, nulls := r1.fst.fst.snd.snd.snd.fst : Vec }, ()), ((x9, ()), ())) := by kernel_rfl
noncomputable def F38c3 (n : Nat) (x0 : Int) (x1 : Vec) := F38.at [.v (.nm 3), .v (.int .i64)] [.v (.int .i64)] n 3 ⟨[U, .one (.int .i64 x0), .one (.bptr 0 0), U, U, U, U, U, U, U, U, U, U, U, U, U, U, U, U, U], [(0, .whole (.nm 3) x1 [])]⟩
theorem F38_run (n : Nat) (a0 : Vec) (a1 : Int) : F38.run [.v (.nm 3), .v (.int .i64)] [.v (.int .i64)] n (a0, a1, ()) =
 bif !decide (a0.f_Type = (1 : Int)) then
  some (((-1 : Int), ()), ())
 else
  if (0 : Int) ≤ a1 then
   if a1 < (↑a0.nulls.length : Int) then
    bif a0.nulls.getD a1.toNat false then
     some (((-1 : Int), ()), ())
    else
     F38c3 n (a1) (a0)
   else
    none
  else
   none := by kernel_rfl
theorem F38c3_eq (n x0 x1 : _) : F38c3 (n + 1) x0 x1 =
 if (0 : Int) ≤ x0 then
  if x0 < (↑x1.ints.length : Int) then
   some ((x1.ints.getD x0.toNat (0 : Int), ()), ())
  else
   none
 else
  none := by kernel_rfl
noncomputable def F99c3 (n : Nat) (x0 : Scope) (x1 : List (Int)) (x2 : Int) (x3 : Int) (x4 : Scope) (x5 : List (Int)) := F99.at [.v (.sl (.int .i64)), .rp (.nm 4)] [.v (.nm 4)] n 3 ⟨[U, .one (.sptr (.nm 4) x0 []), U, .one (.bptr 0 0), .one (.own 1), U, U, U, U, U, .one (.data (.sl (.int .i64)) x1 []), .one (.int .i64 x2), .one (.int .i64 x3), U, U, U, U, U, U, U, U, U, U, U, U, U, U, U, U, U], [(0, .whole (.nm 4) x4 []), (1, .row 3 (.int .i64) x5 [] false)]⟩
theorem F99_run (n : Nat) (a0 : List (Int)) (a1 : Scope) : F99.run [.v (.sl (.int .i64)), .rp (.nm 4)] [.v (.nm 4)] n (a0, a1, ()) =
 if (↑a0.length : Int) ≤ (↑lim : Int) then
  F99c3 n (a1) (a0) ((↑a0.length : Int)) ((0 : Int)) (zScope) (List.replicate (↑a0.length : Int).toNat (0 : Int))
 else
  none := by kernel_rfl
theorem F99c3_eq (n x0 x1 x2 x3 x4 x5 : _) : F99c3 (n + 1) x0 x1 x2 x3 x4 x5 =
 bif decide (x3 < x2) then
  if (0 : Int) ≤ x3 then
   if x3 < (↑x1.length : Int) then
    if (0 : Int) ≤ x1.getD x3.toNat (0 : Int) then
     if x1.getD x3.toNat (0 : Int) < (↑x0.sel.length : Int) then
      if (0 : Int) ≤ x3 then
       if x3 < (↑x5.length : Int) then
        F99c3 n (x0) (x1) (x2) (IntKind.i64.wrap (x3 + (1 : Int))) (x4) (x5.set x3.toNat (x0.sel.getD (x1.getD x3.toNat (0 : Int)).toNat (0 : Int)))
       else
        none
      else
       none
     else
      none
    else
     none
   else
    none
  else
   none
 else
  some (({ columns := x0.columns, sel := x5 : Scope }, ()), ()) := by kernel_rfl
noncomputable def F50c1 (n : Nat) (x0 : Int) := F50.at [.v (.int .i64)] [.own 3 (.int .i64)] n 1 ⟨[.one (.int .i64 x0), U, U, U, U, U, U, U, U, U, U, U, U, U, U], []⟩
noncomputable def F50c3 (n : Nat) (x0 : Int) (x1 : Int) (x2 : List (Int)) := F50.at [.v (.int .i64)] [.own 3 (.int .i64)] n 3 ⟨[.one (.int .i64 x0), U, U, .one (.own 0), .one (.int .i64 x1), U, U, U, U, U, U, U, U, U, U], [(0, .row 3 (.int .i64) x2 [] false)]⟩
theorem F50_run (n : Nat) (a0 : Int) : F50.run [.v (.int .i64)] [.own 3 (.int .i64)] n (a0, ()) =
 F50c1 n (a0) := by kernel_rfl
theorem F50c1_eq (n x0 : _) : F50c1 (n + 1) x0 =
 F50c3 n (x0) ((0 : Int)) ([]) := by kernel_rfl
theorem F50c3_eq (n x0 x1 x2 : _) : F50c3 (n + 1) x0 x1 x2 =
 bif decide (x1 < x0) then
  if x2.length + (1 : Nat) ≤ lim then
   F50c3 n (x0) (IntKind.i64.wrap (x1 + (1 : Int))) (x2 ++ [x1])
  else
   none
 else
  some ((x2, ()), ()) := by kernel_rfl
noncomputable def F93c1 (n : Nat) (x0 : Int) (x1 : Vec) (x2 : Vec) (x3 : Int) (x4 : List (Int)) (x5 : List (List Int)) (x6 : List (Bool)) := F93.at [.v (.nm 3), .v (.nm 3), .v (.int .i64)] [.ag 3 AGV] n 1 ⟨[U, U, .one (.int .i64 x0), .one (.bptr 0 0), .one (.bptr 1 0), U, .one (.bptr 2 0), U, U, U, U, U, U, U, U, U, U, U, U, U, U, U, U, U, U, U, U, U, U, U, U, U, U, U, U, U, U, U, U, U, U, U, U, U, U, U, U, U, U, U, U, U, U, U, U, U, U, U, U, U, U, U, U, U], [(0, .whole (.nm 3) x1 []), (1, .whole (.nm 3) x2 []), (2, .cells [.int .i64 x3, .own 3, .own 4, .own 5]), (3, .row 2 (.int .i64) x4 [] false), (4, .row 9 .str x5 [] false), (5, .row 4 .bool x6 [] false)]⟩
noncomputable def F93c3 (n : Nat) (x0 : Int) (x1 : Int) (x2 : Int) (x3 : Vec) (x4 : Vec) (x5 : Int) (x6 : Int) (x7 : List (Int)) (x8 : List (List Int)) (x9 : List (Bool)) (x10 : List (Int)) (x11 : List (List Int)) (x12 : List (Bool)) := F93.at [.v (.nm 3), .v (.nm 3), .v (.int .i64)] [.ag 3 AGV] n 3 ⟨[U, U, .one (.int .i64 x0), .one (.bptr 0 0), .one (.bptr 1 0), U, .one (.bptr 2 0), .one (.bptr 3 0), U, U, U, U, U, U, U, U, U, .one (.int .i64 x1), .one (.int .i64 x2), U, U, U, U, U, U, U, U, U, U, U, U, U, U, U, U, U, U, U, U, U, U, U, U, U, U, U, U, U, U, U, U, U, U, U, U, U, U, U, U, U, U, U, U, U], [(0, .whole (.nm 3) x3 []), (1, .whole (.nm 3) x4 []), (2, .cells [.int .i64 x5, .own 4, .own 5, .own 6]), (3, .cells [.int .i64 x6, .own 7, .own 8, .own 9]), (4, .row 2 (.int .i64) x7 [] false), (5, .row 9 .str x8 [] false), (6, .row 4 .bool x9 [] false), (7, .row 2 (.int .i64) x10 [] false), (8, .row 9 .str x11 [] false), (9, .row 4 .bool x12 [] false)]⟩
noncomputable def F93c10 (n : Nat) (x0 : Int) (x1 : Int) (x2 : Int) (x3 : Vec) (x4 : Vec) (x5 : Int) (x6 : Int) (x7 : List (Int)) (x8 : List (List Int)) (x9 : List (Bool)) (x10 : List (Int)) (x11 : List (List Int)) (x12 : List (Bool)) := F93.at [.v (.nm 3), .v (.nm 3), .v (.int .i64)] [.ag 3 AGV] n 10 ⟨[U, U, .one (.int .i64 x0), .one (.bptr 0 0), .one (.bptr 1 0), U, .one (.bptr 2 0), .one (.bptr 3 0), U, U, U, U, U, U, U, U, U, .one (.int .i64 x1), .one (.int .i64 x2), U, U, U, U, U, U, U, U, U, U, U, U, U, U, U, U, U, U, U, U, U, U, U, U, U, U, U, U, U, U, U, U, U, U, U, U, U, U, U, U, U, U, U, U, U], [(0, .whole (.nm 3) x3 []), (1, .whole (.nm 3) x4 []), (2, .cells [.int .i64 x5, .own 4, .own 5, .own 6]), (3, .cells [.int .i64 x6, .own 7, .own 8, .own 9]), (4, .row 2 (.int .i64) x7 [] false), (5, .row 9 .str x8 [] false), (6, .row 4 .bool x9 [] false), (7, .row 2 (.int .i64) x10 [] false), (8, .row 9 .str x11 [] false), (9, .row 4 .bool x12 [] false)]⟩
theorem F93_run (n : Nat) (a0 : Vec) (a1 : Vec) (a2 : Int) : F93.run [.v (.nm 3), .v (.nm 3), .v (.int .i64)] [.ag 3 AGV] n (a0, a1, a2, ()) =
 F93c1 n (a2) (a0) (a1) ((0 : Int)) ([]) ([]) ([]) := by kernel_rfl
theorem F93c1_eq (n x0 x1 x2 x3 x4 x5 x6 : _) : F93c1 (n + 1) x0 x1 x2 x3 x4 x5 x6 =
 (F62.run [PK.v (Ty.int .i64), PK.v (Ty.int .i64)] [RK.ag 3 AGV] 4000000 ((1 : Int), (↑x1.nulls.length : Int), ())).bind fun r0 =>
  F93c3 n (x0) ((↑(List.length r0.fst.fst.snd.snd.snd.fst) : Int)) ((0 : Int)) (x1) (x2) (x3) (r0.fst.fst.fst) (x4) (x5) (x6) (r0.fst.fst.snd.fst) (r0.fst.fst.snd.snd.fst) (r0.fst.fst.snd.snd.snd.fst) := by kernel_rfl
theorem F93c3_eq (n x0 x1 x2 x3 x4 x5 x6 x7 x8 x9 x10 x11 x12 : _) : F93c3 (n + 1) x0 x1 x2 x3 x4 x5 x6 x7 x8 x9 x10 x11 x12 =
 bif decide (x2 < x1) then
  (F38.run [PK.v (Ty.nm 3), PK.v (Ty.int .i64)] [RK.v (Ty.int .i64)] 4000000 (x3, x2, ())).bind fun r1 =>
   (F38.run [PK.v (Ty.nm 3), PK.v (Ty.int .i64)] [RK.v (Ty.int .i64)] 4000000 (x4, x2, ())).bind fun r2 =>
    bif decide (r1.fst.fst = x0) then
     if (0 : Int) ≤ x2 then
      if x2 < (↑x12.length : Int) then
       if (0 : Int) ≤ x2 then
        if x2 < (↑x10.length : Int) then
         F93c10 n (x0) (x1) (x2) (x3) (x4) (x5) (x6) (x7) (x8) (x9) (x10.set x2.toNat x0) (x11) (x12.set x2.toNat false)
        else
         none
       else
        none
      else
       none
     else
      none
    else
     bif decide (r2.fst.fst = x0) then
      if (0 : Int) ≤ x2 then
       if x2 < (↑x12.length : Int) then
        if (0 : Int) ≤ x2 then
         if x2 < (↑x10.length : Int) then
          F93c10 n (x0) (x1) (x2) (x3) (x4) (x5) (x6) (x7) (x8) (x9) (x10.set x2.toNat x0) (x11) (x12.set x2.toNat false)
         else
          none
        else
         none
       else
        none
      else
       none
     else
      bif decide ((0 : Int) ≤ r1.fst.fst) then
       bif decide ((0 : Int) ≤ r2.fst.fst) then
        if (0 : Int) ≤ x2 then
         if x2 < (↑x12.length : Int) then
          if (0 : Int) ≤ x2 then
           if x2 < (↑x10.length : Int) then
            F93c10 n (x0) (x1) (x2) (x3) (x4) (x5) (x6) (x7) (x8) (x9) (x10.set x2.toNat (IntKind.i64.wrap ((1 : Int) - x0))) (x11) (x12.set x2.toNat false)
           else
            none
          else
           none
         else
          none
        else
         none
       else
        F93c10 n (x0) (x1) (x2) (x3) (x4) (x5) (x6) (x7) (x8) (x9) (x10) (x11) (x12)
      else
       F93c10 n (x0) (x1) (x2) (x3) (x4) (x5) (x6) (x7) (x8) (x9) (x10) (x11) (x12)
 else
  some (((x6, (x10, (x11, (x12, ())))), ()), ()) := by kernel_rfl
theorem F93c10_eq (n x0 x1 x2 x3 x4 x5 x6 x7 x8 x9 x10 x11 x12 : _) : F93c10 (n + 1) x0 x1 x2 x3 x4 x5 x6 x7 x8 x9 x10 x11 x12 =
 F93c3 n (x0) (x1) (IntKind.i64.wrap (x2 + (1 : Int))) (x3) (x4) (x5) (x6) (x7) (x8) (x9) (x10) (x11) (x12) := by kernel_rfl
theorem F144_run (n : Nat) (a0 : Int) (a1 : Int) : F144.run [.v (.int .i64), .v (.int .i64)] [.v (.bool)] n (a0, a1, ()) =
 bif decide (a0 = (1 : Int)) then
  some ((decide (a1 = (0 : Int)), ()), ())
 else
  bif decide (a0 = (2 : Int)) then
   some ((!decide (a1 = (0 : Int)), ()), ())
  else
   bif decide (a0 = (3 : Int)) then
    some ((decide (a1 < (0 : Int)), ()), ())
   else
    bif decide (a0 = (4 : Int)) then
     some ((decide (a1 ≤ (0 : Int)), ()), ())
    else
     bif decide (a0 = (5 : Int)) then
      some ((decide ((0 : Int) < a1), ()), ())
     else
      some ((decide ((0 : Int) ≤ a1), ()), ()) := by kernel_rfl
theorem F167_run (n : Nat) (a0 : Int) : F167.run [.v (.int .i64)] [.v (.bool)] n (a0, ()) =
 some ((!decide (a0 = a0), ()), ()) := by kernel_rfl
theorem F146_run (n : Nat) (a0 : Int) (a1 : Int) : F146.run [.v (.int .i64), .v (.int .i64)] [.v (.int .i64)] n (a0, a1, ()) =
 (F167.run [PK.v (Ty.int .i64)] [RK.v Ty.bool] 4000000 (a0, ())).bind fun r0 =>
  (F167.run [PK.v (Ty.int .i64)] [RK.v Ty.bool] 4000000 (a1, ())).bind fun r1 =>
   bif r0.fst.fst then
    bif r1.fst.fst then
     some (((0 : Int), ()), ())
    else
     some (((-1 : Int), ()), ())
   else
    bif r1.fst.fst then
     some (((1 : Int), ()), ())
    else
     bif decide (a0 < a1) then
      some (((-1 : Int), ()), ())
     else
      bif decide (a1 < a0) then
       some (((1 : Int), ()), ())
      else
       some (((0 : Int), ()), ()) := by kernel_rfl
theorem F126_run (n : Nat) (a0 : Int) (a1 : Vec) (a2 : Vec) : F126.run [.v (.int .i64), .rp (.nm 3), .rp (.nm 3)] [.v (.bool)] n (a0, a1, a2, ()) =
 if (0 : Int) ≤ a0 then
  if a0 < (↑a1.nulls.length : Int) then
   bif a1.nulls.getD a0.toNat false then
    some ((true, ()), ())
   else
    if (0 : Int) ≤ a0 then
     if a0 < (↑a2.nulls.length : Int) then
      some ((a2.nulls.getD a0.toNat false, ()), ())
     else
      none
    else
     none
  else
   none
 else
  none := by kernel_rfl
noncomputable def F127000128c3 (n : Nat) (x0 : List (Int)) (x1 : List (Int)) (x2 : Int) (x3 : Int) (x4 : Int) (x5 : Int) (x6 : Int) (x7 : List (Int)) (x8 : List (List Int)) (x9 : List (Bool)) (x10 : List (Int)) (x11 : List (List Int)) (x12 : List (Bool)) (x13 : Vec) (x14 : Vec) := F127000128.at [.v (.sl (.int .i64)), .v (.sl (.int .i64)), .fn 126 [4, 5], .v (.int .i64), .bw (.nm 3), .bw (.nm 3)] [.v (.nm 3)] n 3 ⟨[.one (.data (.sl (.int .i64)) x0 []), .one (.data (.sl (.int .i64)) x1 []), .one (.fn 126 [904000, 905000]), .one (.int .i64 x2), U, U, U, U, .one (.bptr 2 0), .one (.bptr 3 0), U, U, U, U, U, .one (.int .i64 x3), .one (.int .i64 x4), U, U, U, U, U, U, U, U, U, U, U, U, U, U, U, U, U, U, U, U, U, U, U, U, U, U], [(2, .cells [.int .i64 x5, .own 4, .own 5, .own 6]), (3, .cells [.int .i64 x6, .own 7, .own 8, .own 9]), (4, .row 2 (.int .i64) x7 [] false), (5, .row 9 .str x8 [] false), (6, .row 4 .bool x9 [] false), (7, .row 2 (.int .i64) x10 [] false), (8, .row 9 .str x11 [] false), (9, .row 4 .bool x12 [] false), (904000, .whole (.nm 3) x13 []), (905000, .whole (.nm 3) x14 [])]⟩
theorem F127000128_run (n : Nat) (a0 : List (Int)) (a1 : List (Int)) (a2 : Unit) (a3 : Int) (a4 : Vec) (a5 : Vec) : F127000128.run [.v (.sl (.int .i64)), .v (.sl (.int .i64)), .fn 126 [4, 5], .v (.int .i64), .bw (.nm 3), .bw (.nm 3)] [.v (.nm 3)] n (a0, a1, a2, a3, a4, a5, ()) =
 (F62.run [PK.v (Ty.int .i64), PK.v (Ty.int .i64)] [RK.ag 3 AGV] 4000000 ((1 : Int), (↑a0.length : Int), ())).bind fun r0 =>
  F127000128c3 n (a0) (a1) (a3) ((↑a0.length : Int)) ((0 : Int)) ((0 : Int)) (r0.fst.fst.fst) ([]) ([]) ([]) (r0.fst.fst.snd.fst) (r0.fst.fst.snd.snd.fst) (r0.fst.fst.snd.snd.snd.fst) (a4) (a5) := by kernel_rfl
theorem F127000128c3_eq (n x0 x1 x2 x3 x4 x5 x6 x7 x8 x9 x10 x11 x12 x13 x14 : _) : F127000128c3 (n + 1) x0 x1 x2 x3 x4 x5 x6 x7 x8 x9 x10 x11 x12 x13 x14 =
 bif decide (x4 < x3) then
  (F126.run [PK.v (Ty.int .i64), PK.rp (Ty.nm 3), PK.rp (Ty.nm 3)] [RK.v Ty.bool] 4000000 (x4, x13, x14, ())).bind fun r1 =>
   bif r1.fst.fst then
    F127000128c3 n (x0) (x1) (x2) (x3) (IntKind.i64.wrap (x4 + (1 : Int))) (x5) (x6) (x7) (x8) (x9) (x10) (x11) (x12) (x13) (x14)
   else
    if (0 : Int) ≤ x4 then
     if x4 < (↑x12.length : Int) then
      if (0 : Int) ≤ x4 then
       if x4 < (↑x0.length : Int) then
        if (0 : Int) ≤ x4 then
         if x4 < (↑x1.length : Int) then
          (F146.run [PK.v (Ty.int .i64), PK.v (Ty.int .i64)] [RK.v (Ty.int .i64)] 4000000 (x0.getD x4.toNat (0 : Int), x1.getD x4.toNat (0 : Int), ())).bind fun r2 =>
           (F144.run [PK.v (Ty.int .i64), PK.v (Ty.int .i64)] [RK.v Ty.bool] 4000000 (x2, r2.fst.fst, ())).bind fun r3 =>
            bif r3.fst.fst then
             if (0 : Int) ≤ x4 then
              if x4 < (↑x10.length : Int) then
               F127000128c3 n (x0) (x1) (x2) (x3) (IntKind.i64.wrap (x4 + (1 : Int))) (x5) (x6) (x7) (x8) (x9) (x10.set x4.toNat (1 : Int)) (x11) (x12.set x4.toNat false) (x13) (x14)
              else
               none
             else
              none
            else
             F127000128c3 n (x0) (x1) (x2) (x3) (IntKind.i64.wrap (x4 + (1 : Int))) (x5) (x6) (x7) (x8) (x9) (x10) (x11) (x12.set x4.toNat false) (x13) (x14)
         else
          none
        else
         none
       else
        none
      else
       none
     else
      none
    else
     none
 else
  some (({ f_Type := x6, ints := x10, texts := x11, nulls := x12 : Vec }, ()), (x13, (x14, ()))) := by kernel_rfl
theorem F166_run (n : Nat) (a0 : List Int) : F166.run [.v (.str)] [.v (.bool)] n (a0, ()) =
 some ((!decide (a0 = a0), ()), ()) := by kernel_rfl
theorem F145_run (n : Nat) (a0 : List Int) (a1 : List Int) : F145.run [.v (.str), .v (.str)] [.v (.int .i64)] n (a0, a1, ()) =
 (F166.run [PK.v Ty.str] [RK.v Ty.bool] 4000000 (a0, ())).bind fun r0 =>
  (F166.run [PK.v Ty.str] [RK.v Ty.bool] 4000000 (a1, ())).bind fun r1 =>
   bif r0.fst.fst then
    bif r1.fst.fst then
     some (((0 : Int), ()), ())
    else
     some (((-1 : Int), ()), ())
   else
    bif r1.fst.fst then
     some (((1 : Int), ()), ())
    else
     bif Eng.strLt a0 a1 then
      some (((-1 : Int), ()), ())
     else
      bif Eng.strLt a1 a0 then
       some (((1 : Int), ()), ())
      else
       some (((0 : Int), ()), ()) := by kernel_rfl
end Go.Proofs.Tryz
