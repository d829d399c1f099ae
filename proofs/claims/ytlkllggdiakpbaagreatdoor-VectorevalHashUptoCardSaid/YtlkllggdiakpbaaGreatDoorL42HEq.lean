/- The functions of the program as the engine follows them (printed by a program of ours): their code, what is known of them, and the equations of their runs. -/
import Derived.Test.YtlkllggdiakpbaaGreatDoorL42HFns
import Derived.Test.YtlkllggdiakpbaaGreatDoorL42EqA
set_option linter.unusedVariables false
set_option maxRecDepth 20000
namespace Go.Proofs.Tryz
open Go.Eng
noncomputable def F78c3 (n : Nat) (x0 : List (Int)) (x1 : Int) (x2 : Int) := F78.at [.v (.int .u64), .v (.sl (.int .u8))] [.v (.int .u64)] n 3 ⟨[U, .one (.data (.sl (.int .u8)) x0 []), U, U, U, .one (.int .u64 x1), .one (.int .i64 x2), U, U, U, U, U, U, U, U, U, U, U, U, U, U, U, U, U, U, U, U, U, U, U, U, U, U, U, U, U, U, U, U, U, U, U, U, U, U, U, U, U, U, U, U], []⟩
noncomputable def F78c9 (n : Nat) (x0 : List (Int)) (x1 : Int) (x2 : Int) (x3 : Int) (x4 : Int) (x5 : List (Int)) := F78.at [.v (.int .u64), .v (.sl (.int .u8))] [.v (.int .u64)] n 9 ⟨[U, .one (.data (.sl (.int .u8)) x0 []), U, U, U, .one (.int .u64 x1), .one (.int .i64 x2), .one (.optr 0 0 0), .one (.int .u64 x3), U, U, U, U, U, U, U, U, U, U, U, U, U, U, U, U, U, U, U, U, U, U, U, .one (.int .i64 x4), U, U, U, U, U, U, U, U, U, U, U, U, U, U, U, U, U, U], [(0, .row 2000008 (.int .u8) x5 [] true)]⟩
theorem F78_run (n : Nat) (a0 : Int) (a1 : List (Int)) : F78.run [.v (.int .u64), .v (.sl (.int .u8))] [.v (.int .u64)] n (a0, a1, ()) =
 (F77.run [PK.v (Ty.int IntKind.u64)] [RK.v (Ty.int IntKind.u64)] 4000000 (bits BinOp.xor IntKind.u64 a0 (IntKind.u64.wrap (↑a1.length : Int)), ())).bind fun r0 =>
  F78c3 n (a1) (r0.fst.fst) ((0 : Int)) := by kernel_rfl
theorem F78c3_eq (n x0 x1 x2 : _) : F78c3 (n + 1) x0 x1 x2 =
 bif decide (x2 < (↑x0.length : Int)) then
  if (0 : Int) ≤ x2 then
   if x2 ≤ imin (IntKind.i64.wrap (x2 + (8 : Int))) (↑x0.length : Int) then
    if imin (IntKind.i64.wrap (x2 + (8 : Int))) (↑x0.length : Int) ≤ (↑x0.length : Int) then
     F78c9 n (x0) (x1) (x2) ((0 : Int)) ((0 : Int)) (cpyL [(0 : Int), (0 : Int), (0 : Int), (0 : Int), (0 : Int), (0 : Int), (0 : Int), (0 : Int)] (List.drop x2.toNat (List.take (imin (IntKind.i64.wrap (x2 + (8 : Int))) (↑x0.length : Int)).toNat x0)))
    else
     none
   else
    none
  else
   none
 else
  some ((x1, ()), ()) := by kernel_rfl
theorem F78c9_eq (n x0 x1 x2 x3 x4 x5 : _) : F78c9 (n + 1) x0 x1 x2 x3 x4 x5 =
 bif decide (x4 < (8 : Int)) then
  if (0 : Int) ≤ x4 then
   if x4 < (↑(8 : Nat) : Int) then
    if (0 : Int) ≤ IntKind.u64.wrap (IntKind.i64.wrap ((8 : Int) * x4)) then
     F78c9 n (x0) (x1) (x2) (bits BinOp.or IntKind.u64 x3 (IntKind.u64.wrap (IntKind.u64.wrap (x5.getD x4.toNat (0 : Int)) * (2 : Int) ^ min (IntKind.u64.wrap (IntKind.i64.wrap ((8 : Int) * x4))).toNat IntKind.u64.bits))) (IntKind.i64.wrap (x4 + (1 : Int))) (x5)
    else
     none
   else
    none
  else
   none
 else
  (F77.run [PK.v (Ty.int IntKind.u64)] [RK.v (Ty.int IntKind.u64)] 4000000 (bits BinOp.xor IntKind.u64 x1 x3, ())).bind fun r1 =>
   F78c3 n (x0) (r1.fst.fst) (IntKind.i64.wrap (x2 + (8 : Int))) := by kernel_rfl
noncomputable def F45c2 (n : Nat) (x0 : List (Vec)) (x1 : Int) (x2 : Int) := F45.at [.v (.sl (.nm 3)), .v (.int .i64)] [.v (.bool)] n 2 ⟨[.one (.data (.sl (.nm 3)) x0 []), .one (.int .i64 x1), U, U, U, .one (.int .i64 x2), U, U, U, U, U, U, U, U, U, U, U, U, U, U, U, U], []⟩
theorem F45_run (n : Nat) (a0 : List (Vec)) (a1 : Int) : F45.run [.v (.sl (.nm 3)), .v (.int .i64)] [.v (.bool)] n (a0, a1, ()) =
 F45c2 n (a0) (a1) ((0 : Int)) := by kernel_rfl
theorem F45c2_eq (n x0 x1 x2 : _) : F45c2 (n + 1) x0 x1 x2 =
 bif decide (x2 < (↑x0.length : Int)) then
  if (0 : Int) ≤ x2 then
   if x2 < (↑x0.length : Int) then
    bif decide ((↑(x0.getD x2.toNat zVec).nulls.length : Int) ≤ x1) then
     some ((false, ()), ())
    else
     F45c2 n (x0) (x1) (IntKind.i64.wrap (x2 + (1 : Int)))
   else
    none
  else
   none
 else
  some ((decide ((0 : Int) ≤ x1), ()), ()) := by kernel_rfl
noncomputable def F23c3 (n : Nat) (x0 : List (Vec)) (x1 : Int) (x2 : List (Vec)) (x3 : Int) := F23.at [.v (.sl (.nm 3)), .v (.int .i64), .v (.sl (.nm 3)), .v (.int .i64)] [.v (.bool)] n 3 ⟨[.one (.data (.sl (.nm 3)) x0 []), .one (.int .i64 x1), .one (.data (.sl (.nm 3)) x2 []), .one (.int .i64 x3), U, U, U, U, U, U, U, U, U, U, U, U, U, U, U, U, U, U, U, U, U, U, U, U, U, U, U, U, U, U, U, U, U, U, U, U, U, U, U, U, U, U, U, U, U, U, U, U], []⟩
noncomputable def F23c4 (n : Nat) (x0 : List (Vec)) (x1 : Int) (x2 : List (Vec)) (x3 : Int) (x4 : Int) := F23.at [.v (.sl (.nm 3)), .v (.int .i64), .v (.sl (.nm 3)), .v (.int .i64)] [.v (.bool)] n 4 ⟨[.one (.data (.sl (.nm 3)) x0 []), .one (.int .i64 x1), .one (.data (.sl (.nm 3)) x2 []), .one (.int .i64 x3), U, U, U, U, U, .one (.int .i64 x4), U, U, U, U, U, U, U, U, U, U, U, U, U, U, U, U, U, U, U, U, U, U, U, U, U, U, U, U, U, U, U, U, U, U, U, U, U, U, U, U, U, U], []⟩
noncomputable def F23c6 (n : Nat) (x0 : List (Vec)) (x1 : Int) (x2 : List (Vec)) (x3 : Int) (x4 : Int) := F23.at [.v (.sl (.nm 3)), .v (.int .i64), .v (.sl (.nm 3)), .v (.int .i64)] [.v (.bool)] n 6 ⟨[.one (.data (.sl (.nm 3)) x0 []), .one (.int .i64 x1), .one (.data (.sl (.nm 3)) x2 []), .one (.int .i64 x3), U, U, U, U, U, .one (.int .i64 x4), U, U, U, U, U, U, U, U, U, U, U, U, U, U, U, U, U, U, U, U, U, U, U, U, U, U, U, U, U, U, U, U, U, U, U, U, U, U, U, U, U, U], []⟩
theorem F23_run (n : Nat) (a0 : List (Vec)) (a1 : Int) (a2 : List (Vec)) (a3 : Int) : F23.run [.v (.sl (.nm 3)), .v (.int .i64), .v (.sl (.nm 3)), .v (.int .i64)] [.v (.bool)] n (a0, a1, a2, a3, ()) =
 bif !decide ((↑a0.length : Int) = (↑a2.length : Int)) then
  some ((false, ()), ())
 else
  (F45.run [PK.v (Ty.nm 3).sl, PK.v (Ty.int .i64)] [RK.v Ty.bool] 4000000 (a0, a1, ())).bind fun r0 =>
   bif !r0.fst.fst then
    some ((false, ()), ())
   else
    (F45.run [PK.v (Ty.nm 3).sl, PK.v (Ty.int .i64)] [RK.v Ty.bool] 4000000 (a2, a3, ())).bind fun r1 =>
     bif !r1.fst.fst then
      some ((false, ()), ())
     else
      F23c3 n (a0) (a1) (a2) (a3) := by kernel_rfl
theorem F23c3_eq (n x0 x1 x2 x3 : _) : F23c3 (n + 1) x0 x1 x2 x3 =
 F23c4 n (x0) (x1) (x2) (x3) ((0 : Int)) := by kernel_rfl
theorem F23c4_eq (n x0 x1 x2 x3 x4 : _) : F23c4 (n + 1) x0 x1 x2 x3 x4 =
 bif decide (x4 < (↑x0.length : Int)) then
  bif decide (x4 < (↑x2.length : Int)) then
   F23c6 n (x0) (x1) (x2) (x3) (x4)
  else
   some ((true, ()), ())
 else
  some ((true, ()), ()) := by kernel_rfl
theorem F23c6_eq (n x0 x1 x2 x3 x4 : _) : F23c6 (n + 1) x0 x1 x2 x3 x4 =
 if (0 : Int) ≤ x4 then
  if x4 < (↑x0.length : Int) then
   (F46.run [PK.v (Ty.nm 3), PK.v (Ty.int .i64)] [RK.v (Ty.nm 0)] 4000000 (x0.getD x4.toNat zVec, x1, ())).bind fun r2 =>
    if (0 : Int) ≤ x4 then
     if x4 < (↑x2.length : Int) then
      (F46.run [PK.v (Ty.nm 3), PK.v (Ty.int .i64)] [RK.v (Ty.nm 0)] 4000000 (x2.getD x4.toNat zVec, x3, ())).bind fun r3 =>
       bif !(decide (r2.fst.fst.kind = r3.fst.fst.kind) && (decide (r2.fst.fst.int = r3.fst.fst.int) && (decide (r2.fst.fst.text = r3.fst.fst.text) && true))) then
        some ((false, ()), ())
       else
        F23c4 n (x0) (x1) (x2) (x3) (IntKind.i64.wrap (x4 + (1 : Int)))
     else
      none
    else
     none
  else
   none
 else
  none := by kernel_rfl
theorem F79_run (n : Nat) (a0 : Int) : F79.run [.v (.int .u64)] [.v (.int .u64)] n (a0, ()) =
 some ((bits BinOp.xor IntKind.u64 (IntKind.u64.wrap (bits BinOp.xor IntKind.u64 (IntKind.u64.wrap (bits BinOp.xor IntKind.u64 a0 (a0 / (2 : Int) ^ min (Int.toNat (30 : Int)) IntKind.u64.bits) * (13787848793156543929 : Int))) (IntKind.u64.wrap (bits BinOp.xor IntKind.u64 a0 (a0 / (2 : Int) ^ min (Int.toNat (30 : Int)) IntKind.u64.bits) * (13787848793156543929 : Int)) / (2 : Int) ^ min (Int.toNat (27 : Int)) IntKind.u64.bits) * (10723151780598845931 : Int))) (IntKind.u64.wrap (bits BinOp.xor IntKind.u64 (IntKind.u64.wrap (bits BinOp.xor IntKind.u64 a0 (a0 / (2 : Int) ^ min (Int.toNat (30 : Int)) IntKind.u64.bits) * (13787848793156543929 : Int))) (IntKind.u64.wrap (bits BinOp.xor IntKind.u64 a0 (a0 / (2 : Int) ^ min (Int.toNat (30 : Int)) IntKind.u64.bits) * (13787848793156543929 : Int)) / (2 : Int) ^ min (Int.toNat (27 : Int)) IntKind.u64.bits) * (10723151780598845931 : Int)) / (2 : Int) ^ min (Int.toNat (31 : Int)) IntKind.u64.bits), ()), ()) := by kernel_rfl
noncomputable def F116c3 (n : Nat) (x0 : List (Int)) (x1 : Int) (x2 : Int) (x3 : Int) := F116.at [.v (.sl (.int .u8)), .v (.int .i64)] [.v (.int .u64)] n 3 ⟨[.one (.data (.sl (.int .u8)) x0 []), .one (.int .i64 x1), U, U, U, .one (.int .u64 x2), .one (.int .i64 x3), U, U, U, U, U, U, U, U, U, U, U, U, U, U, U, U, U, U, U, U, U, U], []⟩
theorem F116_run (n : Nat) (a0 : List (Int)) (a1 : Int) : F116.run [.v (.sl (.int .u8)), .v (.int .i64)] [.v (.int .u64)] n (a0, a1, ()) =
 F116c3 n (a0) (a1) ((0 : Int)) ((7 : Int)) := by kernel_rfl
theorem F116c3_eq (n x0 x1 x2 x3 : _) : F116c3 (n + 1) x0 x1 x2 x3 =
 bif decide ((0 : Int) ≤ x3) then
  bif decide (IntKind.i64.wrap (x1 + x3) < (↑x0.length : Int)) then
   if (0 : Int) ≤ IntKind.i64.wrap (x1 + x3) then
    if IntKind.i64.wrap (x1 + x3) < (↑x0.length : Int) then
     F116c3 n (x0) (x1) (bits BinOp.or IntKind.u64 (IntKind.u64.wrap (x2 * (2 : Int) ^ min (Int.toNat (8 : Int)) IntKind.u64.bits)) (IntKind.u64.wrap (x0.getD (IntKind.i64.wrap (x1 + x3)).toNat (0 : Int)))) (IntKind.i64.wrap (x3 - (1 : Int)))
    else
     none
   else
    none
  else
   F116c3 n (x0) (x1) (IntKind.u64.wrap (x2 * (2 : Int) ^ min (Int.toNat (8 : Int)) IntKind.u64.bits)) (IntKind.i64.wrap (x3 - (1 : Int)))
 else
  some ((x2, ()), ()) := by kernel_rfl
noncomputable def F80c3 (n : Nat) (x0 : List (Int)) (x1 : Int) (x2 : Int) := F80.at [.v (.int .u64), .v (.sl (.int .u8))] [.v (.int .u64)] n 3 ⟨[U, .one (.data (.sl (.int .u8)) x0 []), U, U, U, .one (.int .u64 x1), .one (.int .i64 x2), U, U, U, U, U, U, U, U, U, U, U, U, U, U, U, U, U, U, U], []⟩
theorem F80_run (n : Nat) (a0 : Int) (a1 : List (Int)) : F80.run [.v (.int .u64), .v (.sl (.int .u8))] [.v (.int .u64)] n (a0, a1, ()) =
 (F79.run [PK.v (Ty.int IntKind.u64)] [RK.v (Ty.int IntKind.u64)] 4000000 (bits BinOp.xor IntKind.u64 a0 (IntKind.u64.wrap (↑a1.length : Int)), ())).bind fun r0 =>
  F80c3 n (a1) (r0.fst.fst) ((0 : Int)) := by kernel_rfl
theorem F80c3_eq (n x0 x1 x2 : _) : F80c3 (n + 1) x0 x1 x2 =
 bif decide (x2 < (↑x0.length : Int)) then
  (F116.run [PK.v (Ty.int IntKind.u8).sl, PK.v (Ty.int .i64)] [RK.v (Ty.int IntKind.u64)] 4000000 (x0, x2, ())).bind fun r1 =>
   (F79.run [PK.v (Ty.int IntKind.u64)] [RK.v (Ty.int IntKind.u64)] 4000000 (bits BinOp.xor IntKind.u64 x1 r1.fst.fst, ())).bind fun r2 =>
    F80c3 n (x0) (r2.fst.fst) (IntKind.i64.wrap (x2 + (8 : Int)))
 else
  some ((x1, ()), ()) := by kernel_rfl
noncomputable def F42c3 (n : Nat) (x0 : List (Val)) (x1 : Int) (x2 : Int) := F42.at [.v (.int .u64), .v (.sl (.nm 0))] [.v (.int .u64)] n 3 ⟨[U, .one (.data (.sl (.nm 0)) x0 []), U, U, U, .one (.int .u64 x1), .one (.int .i64 x2), U, U, U, U, U, U, U, U, U, U, U, U, U, U, U, U, U, U, U, U, U, U, U, U, U, U, U, U, U, U, U, U, U, U, U, U, U, U, U, U, U, U, U, U, U, U, U, U, U, U], []⟩
noncomputable def F42c4 (n : Nat) (x0 : List (Val)) (x1 : Int) (x2 : Int) := F42.at [.v (.int .u64), .v (.sl (.nm 0))] [.v (.int .u64)] n 4 ⟨[U, .one (.data (.sl (.nm 0)) x0 []), U, U, U, .one (.int .u64 x1), .one (.int .i64 x2), U, U, U, U, U, U, U, U, U, U, U, U, U, U, U, U, U, U, U, U, U, U, U, U, U, U, U, U, U, U, U, U, U, U, U, U, U, U, U, U, U, U, U, U, U, U, U, U, U, U], []⟩
theorem F42_run (n : Nat) (a0 : Int) (a1 : List (Val)) : F42.run [.v (.int .u64), .v (.sl (.nm 0))] [.v (.int .u64)] n (a0, a1, ()) =
 (F79.run [PK.v (Ty.int IntKind.u64)] [RK.v (Ty.int IntKind.u64)] 4000000 (a0, ())).bind fun r0 =>
  F42c3 n (a1) (r0.fst.fst) ((0 : Int)) := by kernel_rfl
theorem F42c3_eq (n x0 x1 x2 : _) : F42c3 (n + 1) x0 x1 x2 =
 bif decide (x2 < (↑x0.length : Int)) then
  if (0 : Int) ≤ x2 then
   if x2 < (↑x0.length : Int) then
    bif decide ((x0.getD x2.toNat zVal).kind = (0 : Int)) then
     (F79.run [PK.v (Ty.int IntKind.u64)] [RK.v (Ty.int IntKind.u64)] 4000000 (bits BinOp.xor IntKind.u64 x1 (1 : Int), ())).bind fun r1 =>
      F42c4 n (x0) (r1.fst.fst) (x2)
    else
     bif decide ((x0.getD x2.toNat zVal).kind = (1 : Int)) then
      (F79.run [PK.v (Ty.int IntKind.u64)] [RK.v (Ty.int IntKind.u64)] 4000000 (bits BinOp.xor IntKind.u64 x1 (2 : Int), ())).bind fun r2 =>
       (F79.run [PK.v (Ty.int IntKind.u64)] [RK.v (Ty.int IntKind.u64)] 4000000 (bits BinOp.xor IntKind.u64 r2.fst.fst (IntKind.u64.wrap (x0.getD x2.toNat zVal).int), ())).bind fun r3 =>
        F42c4 n (x0) (r3.fst.fst) (x2)
     else
      bif decide ((x0.getD x2.toNat zVal).kind = (2 : Int)) then
       (F79.run [PK.v (Ty.int IntKind.u64)] [RK.v (Ty.int IntKind.u64)] 4000000 (bits BinOp.xor IntKind.u64 x1 (3 : Int), ())).bind fun r4 =>
        (F79.run [PK.v (Ty.int IntKind.u64)] [RK.v (Ty.int IntKind.u64)] 4000000 (bits BinOp.xor IntKind.u64 r4.fst.fst (IntKind.u64.wrap (x0.getD x2.toNat zVal).int), ())).bind fun r5 =>
         F42c4 n (x0) (r5.fst.fst) (x2)
      else
       bif decide ((x0.getD x2.toNat zVal).kind = (3 : Int)) then
        (F79.run [PK.v (Ty.int IntKind.u64)] [RK.v (Ty.int IntKind.u64)] 4000000 (bits BinOp.xor IntKind.u64 x1 (4 : Int), ())).bind fun r6 =>
         if (x0.getD x2.toNat zVal).text.length ≤ lim then
          (F80.run [PK.v (Ty.int IntKind.u64), PK.v (Ty.int IntKind.u8).sl] [RK.v (Ty.int IntKind.u64)] 4000000 (r6.fst.fst, (x0.getD x2.toNat zVal).text, ())).bind fun r7 =>
           F42c4 n (x0) (r7.fst.fst) (x2)
         else
          none
       else
        F42c4 n (x0) (x1) (x2)
   else
    none
  else
   none
 else
  some ((x1, ()), ()) := by kernel_rfl
theorem F42c4_eq (n x0 x1 x2 : _) : F42c4 (n + 1) x0 x1 x2 =
 F42c3 n (x0) (x1) (IntKind.i64.wrap (x2 + (1 : Int))) := by kernel_rfl
noncomputable def F43c1 (n : Nat) (x0 : List (Vec)) (x1 : Int) := F43.at [.v (.sl (.nm 3)), .v (.int .i64)] [.own 23 (.nm 0)] n 1 ⟨[.one (.data (.sl (.nm 3)) x0 []), .one (.int .i64 x1), U, U, U, U, U, U, U, U, U, U, U, U, U, U, U, U, U, U, U, U, U], []⟩
noncomputable def F43c3 (n : Nat) (x0 : List (Vec)) (x1 : Int) (x2 : Int) (x3 : List (Val)) := F43.at [.v (.sl (.nm 3)), .v (.int .i64)] [.own 23 (.nm 0)] n 3 ⟨[.one (.data (.sl (.nm 3)) x0 []), .one (.int .i64 x1), U, U, U, .one (.own 0), .one (.int .i64 x2), U, U, U, U, U, U, U, U, U, U, U, U, U, U, U, U], [(0, .row 23 (.nm 0) x3 [] false)]⟩
theorem F43_run (n : Nat) (a0 : List (Vec)) (a1 : Int) : F43.run [.v (.sl (.nm 3)), .v (.int .i64)] [.own 23 (.nm 0)] n (a0, a1, ()) =
 F43c1 n (a0) (a1) := by kernel_rfl
theorem F43c1_eq (n x0 x1 : _) : F43c1 (n + 1) x0 x1 =
 F43c3 n (x0) (x1) ((0 : Int)) ([]) := by kernel_rfl
theorem F43c3_eq (n x0 x1 x2 x3 : _) : F43c3 (n + 1) x0 x1 x2 x3 =
 bif decide (x2 < (↑x0.length : Int)) then
  if (0 : Int) ≤ x2 then
   if x2 < (↑x0.length : Int) then
    (F46.run [PK.v (Ty.nm 3), PK.v (Ty.int .i64)] [RK.v (Ty.nm 0)] 4000000 (x0.getD x2.toNat zVec, x1, ())).bind fun r0 =>
     if x3.length + (1 : Nat) ≤ lim then
      F43c3 n (x0) (x1) (IntKind.i64.wrap (x2 + (1 : Int))) (x3 ++ ([r0.fst.fst] : List (Val)))
     else
      none
   else
    none
  else
   none
 else
  some ((x3, ()), ()) := by kernel_rfl
noncomputable def F21c1 (n : Nat) (x0 : Int) (x1 : List (Vec)) (x2 : List (Int)) := F21.at [.v (.int .u64), .v (.sl (.nm 3)), .v (.sl (.int .i64))] [.own 46 (.int .u64)] n 1 ⟨[.one (.int .u64 x0), .one (.data (.sl (.nm 3)) x1 []), .one (.data (.sl (.int .i64)) x2 []), U, U, U, U, U, U, U, U, U, U, U, U, U, U, U, U, U, U, U, U, U, U, U, U], []⟩
noncomputable def F21c3 (n : Nat) (x0 : Int) (x1 : List (Vec)) (x2 : List (Int)) (x3 : Int) (x4 : List (Int)) := F21.at [.v (.int .u64), .v (.sl (.nm 3)), .v (.sl (.int .i64))] [.own 46 (.int .u64)] n 3 ⟨[.one (.int .u64 x0), .one (.data (.sl (.nm 3)) x1 []), .one (.data (.sl (.int .i64)) x2 []), U, U, U, U, .one (.own 0), .one (.int .i64 x3), U, U, U, U, U, U, U, U, U, U, U, U, U, U, U, U, U, U], [(0, .row 46 (.int .u64) x4 [] false)]⟩
theorem F21_run (n : Nat) (a0 : Int) (a1 : List (Vec)) (a2 : List (Int)) : F21.run [.v (.int .u64), .v (.sl (.nm 3)), .v (.sl (.int .i64))] [.own 46 (.int .u64)] n (a0, a1, a2, ()) =
 F21c1 n (a0) (a1) (a2) := by kernel_rfl
theorem F21c1_eq (n x0 x1 x2 : _) : F21c1 (n + 1) x0 x1 x2 =
 F21c3 n (x0) (x1) (x2) ((0 : Int)) ([]) := by kernel_rfl
theorem F21c3_eq (n x0 x1 x2 x3 x4 : _) : F21c3 (n + 1) x0 x1 x2 x3 x4 =
 bif decide (x3 < (↑x2.length : Int)) then
  if (0 : Int) ≤ x3 then
   if x3 < (↑x2.length : Int) then
    (F43.run [PK.v (Ty.nm 3).sl, PK.v (Ty.int .i64)] [RK.own 23 (Ty.nm 0)] 4000000 (x1, x2.getD x3.toNat (0 : Int), ())).bind fun r0 =>
     (F42.run [PK.v (Ty.int IntKind.u64), PK.v (Ty.nm 0).sl] [RK.v (Ty.int IntKind.u64)] 4000000 (x0, r0.fst.fst, ())).bind fun r1 =>
      if x4.length + (1 : Nat) ≤ lim then
       F21c3 n (x0) (x1) (x2) (IntKind.i64.wrap (x3 + (1 : Int))) (x4 ++ ([r1.fst.fst] : List (Int)))
      else
       none
   else
    none
  else
   none
 else
  some ((x4, ()), ()) := by kernel_rfl
end Go.Proofs.Tryz
