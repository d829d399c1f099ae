/- The functions of the program as the engine follows them (printed by a program of ours): their code, what is known of them, and the equations of their runs. -/
import Derived.Test.YtlkllggdiakpbaaGreatDoorL42Fns
set_option linter.unusedVariables false
set_option maxRecDepth 20000
namespace Go.Proofs.Tryz
open Go.Eng
theorem F117_run (n : Nat) (a0 : Bool) (a1 : Bool) : F117.run [.v (.bool), .v (.bool)] [.v (.int .i64)] n (a0, a1, ()) =
 bif a0 then
  some (((-1 : Int), ()), ())
 else
  bif a1 then
   some (((1 : Int), ()), ())
  else
   some (((0 : Int), ()), ()) := by kernel_rfl
noncomputable def F81c8 (n : Nat) (x0 : Val) (x1 : Val) := F81.at [.v (.nm 0), .v (.nm 0)] [.v (.int .i64)] n 8 ⟨[U, U, .one (.bptr 0 0), .one (.bptr 1 0), U, U, U, U, U, U, U, U, U, U, U, U, U, U, U, U, U, U, U, U, U, U, U, U, U, U, U, U, U, U, U, U, U, U, U, U], [(0, .whole (.nm 0) x0 []), (1, .whole (.nm 0) x1 [])]⟩
theorem F81_run (n : Nat) (a0 : Val) (a1 : Val) : F81.run [.v (.nm 0), .v (.nm 0)] [.v (.int .i64)] n (a0, a1, ()) =
 bif !decide (a0.kind = a1.kind) then
  (F117.run [PK.v Ty.bool, PK.v Ty.bool] [RK.v (Ty.int .i64)] 4000000 (decide (a0.kind < a1.kind), true, ())).bind fun r0 =>
   some ((r0.fst.fst, ()), ())
 else
  bif decide (a0.kind = (3 : Int)) then
   (F118.run [PK.v Ty.str, PK.v Ty.str] [RK.v (Ty.int .i64)] 4000000 (a0.text, a1.text, ())).bind fun r1 =>
    some ((r1.fst.fst, ()), ())
  else
   bif decide (a0.kind = (1 : Int)) then
    F81c8 n (a0) (a1)
   else
    bif decide (a0.kind = (2 : Int)) then
     F81c8 n (a0) (a1)
    else
     some (((0 : Int), ()), ()) := by kernel_rfl
theorem F81c8_eq (n x0 x1 : _) : F81c8 (n + 1) x0 x1 =
 (F117.run [PK.v Ty.bool, PK.v Ty.bool] [RK.v (Ty.int .i64)] 4000000 (decide (x0.int < x1.int), decide (x1.int < x0.int), ())).bind fun r2 =>
  some ((r2.fst.fst, ()), ()) := by kernel_rfl
theorem F44_run (n : Nat) (a0 : Val) (a1 : Val) : F44.run [.v (.nm 0), .v (.nm 0)] [.v (.bool)] n (a0, a1, ()) =
 (F81.run [PK.v (Ty.nm 0), PK.v (Ty.nm 0)] [RK.v (Ty.int .i64)] 4000000 (a0, a1, ())).bind fun r0 =>
  some ((decide (r0.fst.fst = (0 : Int)), ()), ()) := by kernel_rfl
noncomputable def F40c3 (n : Nat) (x0 : Int) (x1 : Vec) (x2 : Val) := F40.at [.v (.nm 3), .v (.int .i64)] [.v (.nm 0)] n 3 ⟨[U, .one (.int .i64 x0), .one (.bptr 0 0), U, .one (.bptr 1 0), U, U, U, U, U, U, U, U, U, U, U, U, U, U, U, U, U, U, U, U, U, U, U, U, U, U, U, U, U, U, U, U, U, U], [(0, .whole (.nm 3) x1 []), (1, .whole (.nm 0) x2 [])]⟩
theorem F40_run (n : Nat) (a0 : Vec) (a1 : Int) : F40.run [.v (.nm 3), .v (.int .i64)] [.v (.nm 0)] n (a0, a1, ()) =
 bif decide (a1 < (0 : Int)) then
  some ((zVal, ()), ())
 else
  bif decide ((↑a0.nulls.length : Int) ≤ a1) then
   some ((zVal, ()), ())
  else
   if (0 : Int) ≤ a1 then
    if a1 < (↑a0.nulls.length : Int) then
     bif a0.nulls.getD a1.toNat false then
      some ((zVal, ()), ())
     else
      F40c3 n (a1) (a0) (zVal)
    else
     none
   else
    none := by kernel_rfl
theorem F40c3_eq (n x0 x1 x2 : _) : F40c3 (n + 1) x0 x1 x2 =
 bif decide (x1.f_Type = (3 : Int)) then
  if (0 : Int) ≤ x0 then
   if x0 < (↑x1.texts.length : Int) then
    some (({ kind := (3 : Int), int := (0 : Int), text := x1.texts.getD x0.toNat [] : Val }, ()), ())
   else
    none
  else
   none
 else
  if (0 : Int) ≤ x0 then
   if x0 < (↑x1.ints.length : Int) then
    some (({ kind := x1.f_Type, int := x1.ints.getD x0.toNat (0 : Int), text := [] : Val }, ()), ())
   else
    none
  else
   none := by kernel_rfl
noncomputable def F22c3 (n : Nat) (x0 : List (Vec)) (x1 : Int) (x2 : List (Vec)) (x3 : Int) := F22.at [.v (.sl (.nm 3)), .v (.int .i64), .v (.sl (.nm 3)), .v (.int .i64)] [.v (.bool)] n 3 ⟨[.one (.data (.sl (.nm 3)) x0 []), .one (.int .i64 x1), .one (.data (.sl (.nm 3)) x2 []), .one (.int .i64 x3), U, U, U, U, U, U, U, U, U, U, U, U, U, U, U, U, U, U, U, U, U, U, U, U, U, U, U, U, U, U, U, U, U, U, U, U, U, U, U, U, U, U, U, U, U, U, U, U, U, U, U, U, U, U, U, U, U, U, U], []⟩
noncomputable def F22c4 (n : Nat) (x0 : List (Vec)) (x1 : Int) (x2 : List (Vec)) (x3 : Int) (x4 : Int) (x5 : Int) := F22.at [.v (.sl (.nm 3)), .v (.int .i64), .v (.sl (.nm 3)), .v (.int .i64)] [.v (.bool)] n 4 ⟨[.one (.data (.sl (.nm 3)) x0 []), .one (.int .i64 x1), .one (.data (.sl (.nm 3)) x2 []), .one (.int .i64 x3), U, U, U, U, U, U, U, U, U, U, U, U, U, U, U, U, U, U, U, U, .one (.int .i64 x4), .one (.int .i64 x5), U, U, U, U, U, U, U, U, U, U, U, U, U, U, U, U, U, U, U, U, U, U, U, U, U, U, U, U, U, U, U, U, U, U, U, U, U], []⟩
theorem F22_run (n : Nat) (a0 : List (Vec)) (a1 : Int) (a2 : List (Vec)) (a3 : Int) : F22.run [.v (.sl (.nm 3)), .v (.int .i64), .v (.sl (.nm 3)), .v (.int .i64)] [.v (.bool)] n (a0, a1, a2, a3, ()) =
 bif !decide ((↑a0.length : Int) = (↑a2.length : Int)) then
  some ((false, ()), ())
 else
  bif decide (a1 < (0 : Int)) then
   some ((false, ()), ())
  else
   bif decide (a3 < (0 : Int)) then
    some ((false, ()), ())
   else
    F22c3 n (a0) (a1) (a2) (a3) := by kernel_rfl
theorem F22c3_eq (n x0 x1 x2 x3 : _) : F22c3 (n + 1) x0 x1 x2 x3 =
 F22c4 n (x0) (x1) (x2) (x3) ((↑x0.length : Int)) ((0 : Int)) := by kernel_rfl
theorem F22c4_eq (n x0 x1 x2 x3 x4 x5 : _) : F22c4 (n + 1) x0 x1 x2 x3 x4 x5 =
 bif decide (x5 < x4) then
  if (0 : Int) ≤ x5 then
   if x5 < (↑x0.length : Int) then
    bif decide ((↑(x0.getD x5.toNat zVec).nulls.length : Int) ≤ x1) then
     some ((false, ()), ())
    else
     if (0 : Int) ≤ x5 then
      if x5 < (↑x2.length : Int) then
       bif decide ((↑(x2.getD x5.toNat zVec).nulls.length : Int) ≤ x3) then
        some ((false, ()), ())
       else
        if (0 : Int) ≤ x5 then
         if x5 < (↑x0.length : Int) then
          (F40.run [PK.v (Ty.nm 3), PK.v (Ty.int .i64)] [RK.v (Ty.nm 0)] 4000000 (x0.getD x5.toNat zVec, x1, ())).bind fun r0 =>
           if (0 : Int) ≤ x5 then
            if x5 < (↑x2.length : Int) then
             (F40.run [PK.v (Ty.nm 3), PK.v (Ty.int .i64)] [RK.v (Ty.nm 0)] 4000000 (x2.getD x5.toNat zVec, x3, ())).bind fun r1 =>
              (F44.run [PK.v (Ty.nm 0), PK.v (Ty.nm 0)] [RK.v Ty.bool] 4000000 (r0.fst.fst, r1.fst.fst, ())).bind fun r2 =>
               bif !r2.fst.fst then
                some ((false, ()), ())
               else
                F22c4 n (x0) (x1) (x2) (x3) (x4) (IntKind.i64.wrap (x5 + (1 : Int)))
            else
             none
           else
            none
         else
          none
        else
         none
      else
       none
     else
      none
   else
    none
  else
   none
 else
  some ((true, ()), ()) := by kernel_rfl
theorem F77_run (n : Nat) (a0 : Int) : F77.run [.v (.int .u64)] [.v (.int .u64)] n (a0, ()) =
 some ((bits BinOp.xor IntKind.u64 (IntKind.u64.wrap (bits BinOp.xor IntKind.u64 (IntKind.u64.wrap (bits BinOp.xor IntKind.u64 a0 (a0 / (2 : Int) ^ min (Int.toNat (30 : Int)) IntKind.u64.bits) * (13787848793156543929 : Int))) (IntKind.u64.wrap (bits BinOp.xor IntKind.u64 a0 (a0 / (2 : Int) ^ min (Int.toNat (30 : Int)) IntKind.u64.bits) * (13787848793156543929 : Int)) / (2 : Int) ^ min (Int.toNat (27 : Int)) IntKind.u64.bits) * (10723151780598845931 : Int))) (IntKind.u64.wrap (bits BinOp.xor IntKind.u64 (IntKind.u64.wrap (bits BinOp.xor IntKind.u64 a0 (a0 / (2 : Int) ^ min (Int.toNat (30 : Int)) IntKind.u64.bits) * (13787848793156543929 : Int))) (IntKind.u64.wrap (bits BinOp.xor IntKind.u64 a0 (a0 / (2 : Int) ^ min (Int.toNat (30 : Int)) IntKind.u64.bits) * (13787848793156543929 : Int)) / (2 : Int) ^ min (Int.toNat (27 : Int)) IntKind.u64.bits) * (10723151780598845931 : Int)) / (2 : Int) ^ min (Int.toNat (31 : Int)) IntKind.u64.bits), ()), ()) := by kernel_rfl
noncomputable def F41c3 (n : Nat) (x0 : Int) (x1 : List (Val)) (x2 : Int) (x3 : Int) := F41.at [.v (.int .u64), .v (.sl (.nm 0))] [.v (.int .u64)] n 3 ⟨[U, U, U, U, U, .one (.int .u64 x0), U, U, U, U, .one (.data (.sl (.nm 0)) x1 []), .one (.int .i64 x2), .one (.int .i64 x3), U, U, U, U, U, U, U, U, U, U, U, U, U, U, U, U, U, U, U, U, U, U, U, U, U, U, U, U, U, U, U, U, U, U, U, U, U, U, U, U, U], []⟩
noncomputable def F41c14 (n : Nat) (x0 : Int) (x1 : List (Val)) (x2 : Int) (x3 : Int) := F41.at [.v (.int .u64), .v (.sl (.nm 0))] [.v (.int .u64)] n 14 ⟨[U, U, U, U, U, .one (.int .u64 x0), U, U, U, U, .one (.data (.sl (.nm 0)) x1 []), .one (.int .i64 x2), .one (.int .i64 x3), U, U, U, U, U, U, U, U, U, U, U, U, U, U, U, U, U, U, U, U, U, U, U, U, U, U, U, U, U, U, U, U, U, U, U, U, U, U, U, U, U], []⟩
theorem F41_run (n : Nat) (a0 : Int) (a1 : List (Val)) : F41.run [.v (.int .u64), .v (.sl (.nm 0))] [.v (.int .u64)] n (a0, a1, ()) =
 (F77.run [PK.v (Ty.int IntKind.u64)] [RK.v (Ty.int IntKind.u64)] 4000000 (a0, ())).bind fun r0 =>
  F41c3 n (r0.fst.fst) (a1) ((↑a1.length : Int)) ((0 : Int)) := by kernel_rfl
theorem F41c3_eq (n x0 x1 x2 x3 : _) : F41c3 (n + 1) x0 x1 x2 x3 =
 bif decide (x3 < x2) then
  if (0 : Int) ≤ x3 then
   if x3 < (↑x1.length : Int) then
    bif decide ((x1.getD x3.toNat zVal).kind = (0 : Int)) then
     (F77.run [PK.v (Ty.int IntKind.u64)] [RK.v (Ty.int IntKind.u64)] 4000000 (bits BinOp.xor IntKind.u64 x0 (1 : Int), ())).bind fun r1 =>
      F41c14 n (r1.fst.fst) (x1) (x2) (x3)
    else
     bif decide ((x1.getD x3.toNat zVal).kind = (1 : Int)) then
      (F77.run [PK.v (Ty.int IntKind.u64)] [RK.v (Ty.int IntKind.u64)] 4000000 (bits BinOp.xor IntKind.u64 x0 (2 : Int), ())).bind fun r2 =>
       (F77.run [PK.v (Ty.int IntKind.u64)] [RK.v (Ty.int IntKind.u64)] 4000000 (bits BinOp.xor IntKind.u64 r2.fst.fst (IntKind.u64.wrap (x1.getD x3.toNat zVal).int), ())).bind fun r3 =>
        F41c14 n (r3.fst.fst) (x1) (x2) (x3)
     else
      bif decide ((x1.getD x3.toNat zVal).kind = (2 : Int)) then
       (F77.run [PK.v (Ty.int IntKind.u64)] [RK.v (Ty.int IntKind.u64)] 4000000 (bits BinOp.xor IntKind.u64 x0 (3 : Int), ())).bind fun r4 =>
        (F77.run [PK.v (Ty.int IntKind.u64)] [RK.v (Ty.int IntKind.u64)] 4000000 (bits BinOp.xor IntKind.u64 r4.fst.fst (IntKind.u64.wrap (x1.getD x3.toNat zVal).int), ())).bind fun r5 =>
         F41c14 n (r5.fst.fst) (x1) (x2) (x3)
      else
       bif decide ((x1.getD x3.toNat zVal).kind = (3 : Int)) then
        (F77.run [PK.v (Ty.int IntKind.u64)] [RK.v (Ty.int IntKind.u64)] 4000000 (bits BinOp.xor IntKind.u64 x0 (4 : Int), ())).bind fun r6 =>
         if (x1.getD x3.toNat zVal).text.length ≤ lim then
          (F78.run [PK.v (Ty.int IntKind.u64), PK.v (Ty.int IntKind.u8).sl] [RK.v (Ty.int IntKind.u64)] 4000000 (r6.fst.fst, (x1.getD x3.toNat zVal).text, ())).bind fun r7 =>
           F41c14 n (r7.fst.fst) (x1) (x2) (x3)
         else
          none
       else
        F41c14 n (x0) (x1) (x2) (x3)
   else
    none
  else
   none
 else
  some ((x0, ()), ()) := by kernel_rfl
theorem F41c14_eq (n x0 x1 x2 x3 : _) : F41c14 (n + 1) x0 x1 x2 x3 =
 F41c3 n (x0) (x1) (x2) (IntKind.i64.wrap (x3 + (1 : Int))) := by kernel_rfl
noncomputable def F20c1 (n : Nat) (x0 : Int) (x1 : List (Vec)) (x2 : List (Int)) := F20.at [.v (.int .u64), .v (.sl (.nm 3)), .v (.sl (.int .i64))] [.own 46 (.int .u64)] n 1 ⟨[.one (.int .u64 x0), .one (.data (.sl (.nm 3)) x1 []), .one (.data (.sl (.int .i64)) x2 []), U, U, U, U, U, U, U, U, U, U, U, U, U, U, U, U, U, U, U, U, U, U, U, U, U, U, U, U, U, U, U, U, U, U, U, U, U, U, U, U, U, U, U, U, U], []⟩
noncomputable def F20c4 (n : Nat) (x0 : Int) (x1 : List (Vec)) (x2 : List (Int)) (x3 : Int) (x4 : Int) (x5 : List (Int)) (x6 : List (Val)) := F20.at [.v (.int .u64), .v (.sl (.nm 3)), .v (.sl (.int .i64))] [.own 46 (.int .u64)] n 4 ⟨[.one (.int .u64 x0), .one (.data (.sl (.nm 3)) x1 []), U, U, U, U, U, .one (.own 0), .one (.own 1), U, U, U, U, U, U, U, U, U, U, .one (.data (.sl (.int .i64)) x2 []), .one (.int .i64 x3), .one (.int .i64 x4), U, U, U, U, U, U, U, U, U, U, U, U, U, U, U, U, U, U, U, U, U, U, U, U, U, U], [(0, .row 46 (.int .u64) x5 [] false), (1, .row 23 (.nm 0) x6 [] false)]⟩
noncomputable def F20c7 (n : Nat) (x0 : Int) (x1 : List (Vec)) (x2 : Int) (x3 : Int) (x4 : List (Int)) (x5 : Int) (x6 : Int) (x7 : List (Vec)) (x8 : Int) (x9 : Int) (x10 : List (Int)) (x11 : List (Val)) := F20.at [.v (.int .u64), .v (.sl (.nm 3)), .v (.sl (.int .i64))] [.own 46 (.int .u64)] n 7 ⟨[.one (.int .u64 x0), .one (.data (.sl (.nm 3)) x1 []), U, U, U, U, U, .one (.own 0), .one (.own 1), .one (.int .i64 x2), .one (.int .i64 x3), U, U, U, U, U, U, U, U, .one (.data (.sl (.int .i64)) x4 []), .one (.int .i64 x5), .one (.int .i64 x6), U, U, U, U, .one (.data (.sl (.nm 3)) x7 []), .one (.int .i64 x8), .one (.int .i64 x9), U, U, U, U, U, U, U, U, U, U, U, U, U, U, U, U, U, U, U], [(0, .row 46 (.int .u64) x10 [] false), (1, .row 23 (.nm 0) x11 [] false)]⟩
theorem F20_run (n : Nat) (a0 : Int) (a1 : List (Vec)) (a2 : List (Int)) : F20.run [.v (.int .u64), .v (.sl (.nm 3)), .v (.sl (.int .i64))] [.own 46 (.int .u64)] n (a0, a1, a2, ()) =
 F20c1 n (a0) (a1) (a2) := by kernel_rfl
theorem F20c1_eq (n x0 x1 x2 : _) : F20c1 (n + 1) x0 x1 x2 =
 if (↑x2.length : Int) ≤ (↑lim : Int) then
  if (↑x1.length : Int) ≤ (↑lim : Int) then
   F20c4 n (x0) (x1) (x2) ((↑x2.length : Int)) ((0 : Int)) (List.replicate (↑x2.length : Int).toNat (0 : Int)) (List.replicate (↑x1.length : Int).toNat zVal)
  else
   none
 else
  none := by kernel_rfl
theorem F20c4_eq (n x0 x1 x2 x3 x4 x5 x6 : _) : F20c4 (n + 1) x0 x1 x2 x3 x4 x5 x6 =
 bif decide (x4 < x3) then
  if (0 : Int) ≤ x4 then
   if x4 < (↑x2.length : Int) then
    F20c7 n (x0) (x1) (x4) (x2.getD x4.toNat (0 : Int)) (x2) (x3) (x4) (x1) ((↑x1.length : Int)) ((0 : Int)) (x5) (x6)
   else
    none
  else
   none
 else
  some ((x5, ()), ()) := by kernel_rfl
theorem F20c7_eq (n x0 x1 x2 x3 x4 x5 x6 x7 x8 x9 x10 x11 : _) : F20c7 (n + 1) x0 x1 x2 x3 x4 x5 x6 x7 x8 x9 x10 x11 =
 bif decide (x9 < x8) then
  if (0 : Int) ≤ x9 then
   if x9 < (↑x7.length : Int) then
    (F40.run [PK.v (Ty.nm 3), PK.v (Ty.int .i64)] [RK.v (Ty.nm 0)] 4000000 (Vec.mk (x7.getD x9.toNat zVec).f_Type (x7.getD x9.toNat zVec).ints (x7.getD x9.toNat zVec).texts (x7.getD x9.toNat zVec).nulls, x3, ())).bind fun r0 =>
     if (0 : Int) ≤ x9 then
      if x9 < (↑x11.length : Int) then
       F20c7 n (x0) (x1) (x2) (x3) (x4) (x5) (x6) (x7) (x8) (IntKind.i64.wrap (x9 + (1 : Int))) (x10) (x11.set x9.toNat r0.fst.fst)
      else
       none
     else
      none
   else
    none
  else
   none
 else
  (F41.run [PK.v (Ty.int IntKind.u64), PK.v (Ty.nm 0).sl] [RK.v (Ty.int IntKind.u64)] 4000000 (x0, x11, ())).bind fun r1 =>
   if (0 : Int) ≤ x2 then
    if x2 < (↑x10.length : Int) then
     F20c4 n (x0) (x1) (x4) (x5) (IntKind.i64.wrap (x6 + (1 : Int))) (x10.set x2.toNat r1.fst.fst) (x11)
    else
     none
   else
    none := by kernel_rfl
end Go.Proofs.Tryz
