/- The functions of the program as the engine follows them (printed by a program of ours): their code, what is known of them, and the equations of their runs. -/
import Derived.Test.YtgfklnmckakclaaGreatDoorL40Fns
set_option linter.unusedVariables false
set_option maxRecDepth 20000
namespace Go.Proofs.Tryz
open Go.Eng
theorem F151_run (n : Nat) (a0 : Bool) (a1 : Bool) : F151.run [.v (.bool), .v (.bool)] [.v (.int .i64)] n (a0, a1, ()) =
  bif a0 then
    some (((-1 : Int), ()), ())
  else
    bif a1 then
      some (((1 : Int), ()), ())
    else
      some (((0 : Int), ()), ()) := by kernel_rfl
noncomputable def F141c8 (n : Nat) (x0 : Val) (x1 : Val) := F141.at [.v (.nm 0), .v (.nm 0)] [.v (.int .i64)] n 8 ⟨[U, U, .one (.bptr 0 0), .one (.bptr 1 0), U, U, U, U, U, U, U, U, U, U, U, U, U, U, U, U, U, U, U, U, U, U, U, U, U, U, U, U, U, U, U, U, U, U, U, U], [(0, .whole (.nm 0) x0 []), (1, .whole (.nm 0) x1 [])]⟩
theorem F141_run (n : Nat) (a0 : Val) (a1 : Val) : F141.run [.v (.nm 0), .v (.nm 0)] [.v (.int .i64)] n (a0, a1, ()) =
  bif !decide (a0.kind = a1.kind) then
    (F151.run [PK.v Ty.bool, PK.v Ty.bool] [RK.v (Ty.int IntKind.i64)] (4000000 : Nat) (decide (a0.kind < a1.kind), true, ())).bind fun r0 =>
      some ((r0.fst.fst, ()), ())
  else
    bif decide (a0.kind = (3 : Int)) then
      some ((cmpS a0.text a1.text, ()), ())
    else
      bif decide (a0.kind = (1 : Int)) then
        F141c8 n (a0) (a1)
      else
        bif decide (a0.kind = (2 : Int)) then
          F141c8 n (a0) (a1)
        else
          some (((0 : Int), ()), ()) := by kernel_rfl
theorem F141c8_eq (n : Nat) (x0 : Val) (x1 : Val) : F141c8 (n + 1) x0 x1 =
  (F151.run [PK.v Ty.bool, PK.v Ty.bool] [RK.v (Ty.int IntKind.i64)] (4000000 : Nat) (decide (x0.int < x1.int), decide (x1.int < x0.int), ())).bind fun r1 =>
    some ((r1.fst.fst, ()), ()) := by kernel_rfl
theorem F125_run (n : Nat) (a0 : Bool) : F125.run [.v (.bool)] [.v (.nm 0)] n (a0, ()) =
  bif a0 then
    some (({ kind := (1 : Int), int := (1 : Int), text := [] : Val }, ()), ())
  else
    some (({ kind := (1 : Int), int := (0 : Int), text := [] : Val }, ()), ()) := by kernel_rfl
noncomputable def F132c3 (n : Nat) (x0 : Int) (x1 : Val) (x2 : Val) (x3 : Val) := F132.at [.v (.int .i64), .v (.nm 0), .v (.nm 0)] [.v (.nm 0)] n 3 ⟨[.one (.int .i64 x0), U, U, U, .one (.bptr 0 0), .one (.bptr 1 0), .one (.bptr 2 0), U, U, U, U, U, U, U, U, U, U, U, U, U, U, U, U, U, U, U, U, U, U, U, U, U, U, U, U, U, U, U, U, U, U, U, U, U, U, U, U, U, U, U, U, U, U, U, U, U, U, U], [(0, .whole (.nm 0) x1 []), (1, .whole (.nm 0) x2 []), (2, .whole (.nm 0) x3 [])]⟩
noncomputable def F132c18 (n : Nat) (x0 : Bool) (x1 : Val) := F132.at [.v (.int .i64), .v (.nm 0), .v (.nm 0)] [.v (.nm 0)] n 18 ⟨[U, U, U, U, U, U, .one (.bptr 0 0), U, .one (.bool x0), U, U, U, U, U, U, U, U, U, U, U, U, U, U, U, U, U, U, U, U, U, U, U, U, U, U, U, U, U, U, U, U, U, U, U, U, U, U, U, U, U, U, U, U, U, U, U, U, U], [(0, .whole (.nm 0) x1 [])]⟩
theorem F132_run (n : Nat) (a0 : Int) (a1 : Val) (a2 : Val) : F132.run [.v (.int .i64), .v (.nm 0), .v (.nm 0)] [.v (.nm 0)] n (a0, a1, a2, ()) =
  bif decide (a1.kind = (0 : Int)) then
    some ((zVal, ()), ())
  else
    bif !decide (a1.kind = a2.kind) then
      some ((zVal, ()), ())
    else
      bif decide (a0 < (1 : Int)) then
        some ((zVal, ()), ())
      else
        bif decide ((6 : Int) < a0) then
          some ((zVal, ()), ())
        else
          F132c3 n (a0) (a1) (a2) (zVal) := by kernel_rfl
theorem F132c3_eq (n : Nat) (x0 : Int) (x1 : Val) (x2 : Val) (x3 : Val) : F132c3 (n + 1) x0 x1 x2 x3 =
  (F141.run [PK.v (Ty.nm (0 : Nat)), PK.v (Ty.nm (0 : Nat))] [RK.v (Ty.int IntKind.i64)] (4000000 : Nat) (x1, x2, ())).bind fun r0 =>
    bif decide (x0 = (1 : Int)) then
      F132c18 n (decide (r0.fst.fst = (0 : Int))) (x3)
    else
      bif decide (x0 = (2 : Int)) then
        F132c18 n (!decide (r0.fst.fst = (0 : Int))) (x3)
      else
        bif decide (x0 = (3 : Int)) then
          F132c18 n (decide (r0.fst.fst < (0 : Int))) (x3)
        else
          bif decide (x0 = (4 : Int)) then
            F132c18 n (decide (r0.fst.fst ≤ (0 : Int))) (x3)
          else
            bif decide (x0 = (5 : Int)) then
              F132c18 n (decide ((0 : Int) < r0.fst.fst)) (x3)
            else
              bif decide (x0 = (6 : Int)) then
                F132c18 n (decide ((0 : Int) ≤ r0.fst.fst)) (x3)
              else
                F132c18 n (false) (x3) := by kernel_rfl
theorem F132c18_eq (n : Nat) (x0 : Bool) (x1 : Val) : F132c18 (n + 1) x0 x1 =
  (F125.run [PK.v Ty.bool] [RK.v (Ty.nm (0 : Nat))] (4000000 : Nat) (x0, ())).bind fun r1 =>
    some ((r1.fst.fst, ()), ()) := by kernel_rfl
noncomputable def F138c3 (n : Nat) (x0 : Int) (x1 : Bool) (x2 : List (Val)) (x3 : Int) (x4 : Int) (x5 : Val) := F138.at [.v (.int .i64), .v (.sl (.nm 0))] [.v (.nm 0)] n 3 ⟨[.one (.int .i64 x0), U, U, U, .one (.bptr 0 0), .one (.bool x1), U, U, .one (.data (.sl (.nm 0)) x2 []), .one (.int .i64 x3), .one (.int .i64 x4), U, U, U, U, U, U, U, U, U, U, U, U, U, U, U, U, U, U, U], [(0, .whole (.nm 0) x5 [])]⟩
theorem F138_run (n : Nat) (a0 : Int) (a1 : List (Val)) : F138.run [.v (.int .i64), .v (.sl (.nm 0))] [.v (.nm 0)] n (a0, a1, ()) =
  F138c3 n (a0) (false) (a1) ((↑a1.length : Int)) ((0 : Int)) (zVal) := by kernel_rfl
theorem F138c3_eq (n : Nat) (x0 : Int) (x1 : Bool) (x2 : List (Val)) (x3 : Int) (x4 : Int) (x5 : Val) : F138c3 (n + 1) x0 x1 x2 x3 x4 x5 =
  bif decide (x4 < x3) then
    if (0 : Int) ≤ x4 then
      if x4 < (↑x2.length : Int) then
        bif !decide ((x2.getD x4.toNat zVal).kind = (1 : Int)) then
          F138c3 n (x0) (true) (x2) (x3) (IntKind.i64.wrap (x4 + (1 : Int))) (x5)
        else
          bif decide ((x2.getD x4.toNat zVal).int = x0) then
            some ((x2.getD x4.toNat zVal, ()), ())
          else
            F138c3 n (x0) (x1) (x2) (x3) (IntKind.i64.wrap (x4 + (1 : Int))) (x5)
      else
        none
    else
      none
  else
    bif x1 then
      some ((zVal, ()), ())
    else
      (F125.run [PK.v Ty.bool] [RK.v (Ty.nm (0 : Nat))] (4000000 : Nat) (decide (x0 = (0 : Int)), ())).bind fun r0 =>
        some ((r0.fst.fst, ()), ()) := by kernel_rfl
theorem F128_run (n : Nat) (a0 : List (Val)) : F128.run [.v (.sl (.nm 0))] [.v (.nm 0)] n (a0, ()) =
  (F138.run [PK.v (Ty.int IntKind.i64), PK.v (Ty.nm (0 : Nat)).sl] [RK.v (Ty.nm (0 : Nat))] (4000000 : Nat) ((1 : Int), a0, ())).bind fun r0 =>
    some ((r0.fst.fst, ()), ()) := by kernel_rfl
noncomputable def F121c1 (n : Nat) (x0 : List (Val)) (x1 : Val) := F121.at [.v (.sl (.nm 0))] [.v (.nm 0)] n 1 ⟨[.one (.data (.sl (.nm 0)) x0 []), U, .one (.bptr 0 0), U, U, U, U, U, U, U, U, U, U, U, U, U, U, U, U, U, U, U, U, U], [(0, .whole (.nm 0) x1 [])]⟩
noncomputable def F121c3 (n : Nat) (x0 : List (Val)) (x1 : List (Val)) (x2 : Int) (x3 : Int) (x4 : Val) (x5 : List (Val)) := F121.at [.v (.sl (.nm 0))] [.v (.nm 0)] n 3 ⟨[.one (.data (.sl (.nm 0)) x0 []), U, .one (.bptr 0 0), .one (.own 1), U, U, U, .one (.data (.sl (.nm 0)) x1 []), .one (.int .i64 x2), .one (.int .i64 x3), U, U, U, U, U, U, U, U, U, U, U, U, U, U], [(0, .whole (.nm 0) x4 []), (1, .row 23 (.nm 0) x5 [] false)]⟩
theorem F121_run (n : Nat) (a0 : List (Val)) : F121.run [.v (.sl (.nm 0))] [.v (.nm 0)] n (a0, ()) =
  F121c1 n (a0) (zVal) := by kernel_rfl
theorem F121c1_eq (n : Nat) (x0 : List (Val)) (x1 : Val) : F121c1 (n + 1) x0 x1 =
  if (1 : Int) ≤ (↑x0.length : Int) then
    if (↑x0.length : Int) ≤ (↑x0.length : Int) then
      F121c3 n (x0) (List.drop (Int.toNat (1 : Int)) (List.take (↑x0.length : Int).toNat x0)) ((↑(List.drop (Int.toNat (1 : Int)) (List.take (↑x0.length : Int).toNat x0)).length : Int)) ((0 : Int)) (x1) ([])
    else
      none
  else
    none := by kernel_rfl
theorem F121c3_eq (n : Nat) (x0 : List (Val)) (x1 : List (Val)) (x2 : Int) (x3 : Int) (x4 : Val) (x5 : List (Val)) : F121c3 (n + 1) x0 x1 x2 x3 x4 x5 =
  bif decide (x3 < x2) then
    if (0 : Int) ≤ x3 then
      if x3 < (↑x1.length : Int) then
        if (0 : Int) < (↑x0.length : Int) then
          (F132.run [PK.v (Ty.int IntKind.i64), PK.v (Ty.nm (0 : Nat)), PK.v (Ty.nm (0 : Nat))] [RK.v (Ty.nm (0 : Nat))] (4000000 : Nat) ((1 : Int), x0.getD (Int.toNat (0 : Int)) zVal, x1.getD x3.toNat zVal, ())).bind fun r0 =>
            if x5.length + (1 : Nat) ≤ lim then
              F121c3 n (x0) (x1) (x2) (IntKind.i64.wrap (x3 + (1 : Int))) (x4) (x5 ++ ([r0.fst.fst] : List (Val)))
            else
              none
        else
          none
      else
        none
    else
      none
  else
    (F128.run [PK.v (Ty.nm (0 : Nat)).sl] [RK.v (Ty.nm (0 : Nat))] (4000000 : Nat) (x5, ())).bind fun r1 =>
      some ((r1.fst.fst, ()), ()) := by kernel_rfl
theorem F126_run (n : Nat) (a0 : Int) : F126.run [.v (.int .i64)] [.v (.nm 0)] n (a0, ()) =
  some (({ kind := (2 : Int), int := a0, text := [] : Val }, ()), ()) := by kernel_rfl
theorem F150_run (n : Nat) (a0 : Int) (a1 : Int) : F150.run [.v (.int .u64), .v (.int .u64)] [.v (.int .u64), .v (.int .u64)] n (a0, a1, ()) =
  some ((IntKind.u64.wrap (IntKind.u64.wrap (IntKind.u64.wrap (a0 / (2 : Int) ^ min (Int.toNat (32 : Int)) IntKind.u64.bits * (a1 / (2 : Int) ^ min (Int.toNat (32 : Int)) IntKind.u64.bits)) + IntKind.u64.wrap (IntKind.u64.wrap (a0 / (2 : Int) ^ min (Int.toNat (32 : Int)) IntKind.u64.bits * bits BinOp.and IntKind.u64 a1 (4294967295 : Int)) + IntKind.u64.wrap (bits BinOp.and IntKind.u64 a0 (4294967295 : Int) * bits BinOp.and IntKind.u64 a1 (4294967295 : Int)) / (2 : Int) ^ min (Int.toNat (32 : Int)) IntKind.u64.bits) / (2 : Int) ^ min (Int.toNat (32 : Int)) IntKind.u64.bits) + IntKind.u64.wrap (bits BinOp.and IntKind.u64 (IntKind.u64.wrap (IntKind.u64.wrap (a0 / (2 : Int) ^ min (Int.toNat (32 : Int)) IntKind.u64.bits * bits BinOp.and IntKind.u64 a1 (4294967295 : Int)) + IntKind.u64.wrap (bits BinOp.and IntKind.u64 a0 (4294967295 : Int) * bits BinOp.and IntKind.u64 a1 (4294967295 : Int)) / (2 : Int) ^ min (Int.toNat (32 : Int)) IntKind.u64.bits)) (4294967295 : Int) + IntKind.u64.wrap (bits BinOp.and IntKind.u64 a0 (4294967295 : Int) * (a1 / (2 : Int) ^ min (Int.toNat (32 : Int)) IntKind.u64.bits))) / (2 : Int) ^ min (Int.toNat (32 : Int)) IntKind.u64.bits), (IntKind.u64.wrap (a0 * a1), ())), ()) := by kernel_rfl
noncomputable def F140c4 (n : Nat) (x0 : Int) (x1 : Int) (x2 : Int) (x3 : Int) := F140.at [.v (.int .i64), .v (.int .i64)] [.v (.int .i64), .v (.bool)] n 4 ⟨[.one (.int .i64 x0), .one (.int .i64 x1), U, U, U, U, .one (.int .u64 x2), .one (.int .u64 x3), U, U, U, U, U, U, U, U, U, U, U, U, U, U, U, U, U, U, U, U, U, U, U, U, U, U, U, U, U, U, U, U, U, U, U, U], []⟩
noncomputable def F140c6 (n : Nat) (x0 : Int) (x1 : Int) (x2 : Int) (x3 : Int) := F140.at [.v (.int .i64), .v (.int .i64)] [.v (.int .i64), .v (.bool)] n 6 ⟨[.one (.int .i64 x0), .one (.int .i64 x1), U, U, U, U, .one (.int .u64 x2), .one (.int .u64 x3), U, U, U, U, U, U, U, U, U, U, U, U, U, U, U, U, U, U, U, U, U, U, U, U, U, U, U, U, U, U, U, U, U, U, U, U], []⟩
theorem F140_run (n : Nat) (a0 : Int) (a1 : Int) : F140.run [.v (.int .i64), .v (.int .i64)] [.v (.int .i64), .v (.bool)] n (a0, a1, ()) =
  bif decide (a0 < (0 : Int)) then
    F140c4 n (a0) (a1) (IntKind.u64.wrap ((0 : Int) - IntKind.u64.wrap a0)) (IntKind.u64.wrap a1)
  else
    F140c4 n (a0) (a1) (IntKind.u64.wrap a0) (IntKind.u64.wrap a1) := by kernel_rfl
theorem F140c4_eq (n : Nat) (x0 : Int) (x1 : Int) (x2 : Int) (x3 : Int) : F140c4 (n + 1) x0 x1 x2 x3 =
  bif decide (x1 < (0 : Int)) then
    F140c6 n (x0) (x1) (x2) (IntKind.u64.wrap ((0 : Int) - x3))
  else
    F140c6 n (x0) (x1) (x2) (x3) := by kernel_rfl
theorem F140c6_eq (n : Nat) (x0 : Int) (x1 : Int) (x2 : Int) (x3 : Int) : F140c6 (n + 1) x0 x1 x2 x3 =
  (F150.run [PK.v (Ty.int IntKind.u64), PK.v (Ty.int IntKind.u64)] [RK.v (Ty.int IntKind.u64), RK.v (Ty.int IntKind.u64)] (4000000 : Nat) (x2, x3, ())).bind fun r0 =>
    bif !decide (r0.fst.fst = (0 : Int)) then
      some (((0 : Int), (false, ())), ())
    else
      bif !decide (decide (x0 < (0 : Int)) = decide (x1 < (0 : Int))) then
        some ((IntKind.i64.wrap (IntKind.u64.wrap ((0 : Int) - r0.fst.snd.fst)), (decide (r0.fst.snd.fst ≤ (9223372036854775808 : Int)), ())), ())
      else
        some ((IntKind.i64.wrap r0.fst.snd.fst, (decide (r0.fst.snd.fst < (9223372036854775808 : Int)), ())), ()) := by kernel_rfl
noncomputable def F131c3 (n : Nat) (x0 : Int) (x1 : Val) (x2 : Val) (x3 : Val) := F131.at [.v (.int .i64), .v (.nm 0), .v (.nm 0)] [.v (.nm 0)] n 3 ⟨[.one (.int .i64 x0), U, U, U, .one (.bptr 0 0), .one (.bptr 1 0), .one (.bptr 2 0), U, U, U, U, U, U, U, U, U, U, U, U, U, U, U, U, U, U, U, U, U, U, U, U, U, U, U, U, U, U, U, U, U, U, U, U, U, U, U, U, U, U, U, U, U, U, U, U, U, U, U, U, U, U, U, U, U, U, U, U, U, U, U, U, U, U, U, U, U, U, U, U, U, U, U, U, U, U, U, U, U, U, U, U, U, U, U], [(0, .whole (.nm 0) x1 []), (1, .whole (.nm 0) x2 []), (2, .whole (.nm 0) x3 [])]⟩
noncomputable def F131c27 (n : Nat) (x0 : Val) := F131.at [.v (.int .i64), .v (.nm 0), .v (.nm 0)] [.v (.nm 0)] n 27 ⟨[U, U, U, U, U, U, .one (.bptr 0 0), U, U, U, U, U, U, U, U, U, U, U, U, U, U, U, U, U, U, U, U, U, U, U, U, U, U, U, U, U, U, U, U, U, U, U, U, U, U, U, U, U, U, U, U, U, U, U, U, U, U, U, U, U, U, U, U, U, U, U, U, U, U, U, U, U, U, U, U, U, U, U, U, U, U, U, U, U, U, U, U, U, U, U, U, U, U, U], [(0, .whole (.nm 0) x0 [])]⟩
theorem F131_run (n : Nat) (a0 : Int) (a1 : Val) (a2 : Val) : F131.run [.v (.int .i64), .v (.nm 0), .v (.nm 0)] [.v (.nm 0)] n (a0, a1, a2, ()) =
  bif !decide (a1.kind = (2 : Int)) then
    some ((zVal, ()), ())
  else
    bif !decide (a2.kind = (2 : Int)) then
      some ((zVal, ()), ())
    else
      F131c3 n (a0) (a1) (a2) (zVal) := by kernel_rfl
theorem F131c3_eq (n : Nat) (x0 : Int) (x1 : Val) (x2 : Val) (x3 : Val) : F131c3 (n + 1) x0 x1 x2 x3 =
  bif decide (x0 = (9 : Int)) then
    bif decide (decide (x1.int < IntKind.i64.wrap (x1.int + x2.int)) = decide ((0 : Int) < x2.int)) then
      (F126.run [PK.v (Ty.int IntKind.i64)] [RK.v (Ty.nm (0 : Nat))] (4000000 : Nat) (IntKind.i64.wrap (x1.int + x2.int), ())).bind fun r0 =>
        some ((r0.fst.fst, ()), ())
    else
      F131c27 n (x3)
  else
    bif decide (x0 = (10 : Int)) then
      bif decide (decide (IntKind.i64.wrap (x1.int - x2.int) < x1.int) = decide ((0 : Int) < x2.int)) then
        (F126.run [PK.v (Ty.int IntKind.i64)] [RK.v (Ty.nm (0 : Nat))] (4000000 : Nat) (IntKind.i64.wrap (x1.int - x2.int), ())).bind fun r1 =>
          some ((r1.fst.fst, ()), ())
      else
        F131c27 n (x3)
    else
      bif decide (x0 = (11 : Int)) then
        (F140.run [PK.v (Ty.int IntKind.i64), PK.v (Ty.int IntKind.i64)] [RK.v (Ty.int IntKind.i64), RK.v Ty.bool] (4000000 : Nat) (x1.int, x2.int, ())).bind fun r2 =>
          bif r2.fst.snd.fst then
            (F126.run [PK.v (Ty.int IntKind.i64)] [RK.v (Ty.nm (0 : Nat))] (4000000 : Nat) (r2.fst.fst, ())).bind fun r3 =>
              some ((r3.fst.fst, ()), ())
          else
            F131c27 n (x3)
      else
        bif decide (x0 = (12 : Int)) then
          bif !decide (x2.int = (0 : Int)) then
            bif !decide (x2.int = (-1 : Int)) then
              if x2.int = (0 : Int) then
                none
              else
                (F126.run [PK.v (Ty.int IntKind.i64)] [RK.v (Ty.nm (0 : Nat))] (4000000 : Nat) (IntKind.i64.wrap (x1.int.tdiv x2.int), ())).bind fun r4 =>
                  some ((r4.fst.fst, ()), ())
            else
              bif !decide (x1.int = (-9223372036854775808 : Int)) then
                if x2.int = (0 : Int) then
                  none
                else
                  (F126.run [PK.v (Ty.int IntKind.i64)] [RK.v (Ty.nm (0 : Nat))] (4000000 : Nat) (IntKind.i64.wrap (x1.int.tdiv x2.int), ())).bind fun r5 =>
                    some ((r5.fst.fst, ()), ())
              else
                F131c27 n (x3)
          else
            F131c27 n (x3)
        else
          bif decide (x0 = (13 : Int)) then
            bif decide (x2.int = (0 : Int)) then
              some ((zVal, ()), ())
            else
              bif decide (x2.int = (-1 : Int)) then
                (F126.run [PK.v (Ty.int IntKind.i64)] [RK.v (Ty.nm (0 : Nat))] (4000000 : Nat) ((0 : Int), ())).bind fun r6 =>
                  some ((r6.fst.fst, ()), ())
              else
                if x2.int = (0 : Int) then
                  none
                else
                  (F126.run [PK.v (Ty.int IntKind.i64)] [RK.v (Ty.nm (0 : Nat))] (4000000 : Nat) (x1.int.tmod x2.int, ())).bind fun r7 =>
                    some ((r7.fst.fst, ()), ())
          else
            F131c27 n (x3) := by kernel_rfl
theorem F131c27_eq (n : Nat) (x0 : Val) : F131c27 (n + 1) x0 =
  some ((zVal, ()), ()) := by kernel_rfl
theorem F119_run (n : Nat) (a0 : Bool) : F119.run [.v (.bool)] [.v (.nm 0)] n (a0, ()) =
  bif a0 then
    some (({ kind := (1 : Int), int := (1 : Int), text := [] : Val }, ()), ())
  else
    some (({ kind := (1 : Int), int := (0 : Int), text := [] : Val }, ()), ()) := by kernel_rfl
noncomputable def F130c3 (n : Nat) (x0 : Val) (x1 : Val) (x2 : Val) := F130.at [.v (.nm 0), .v (.nm 0)] [.v (.nm 0)] n 3 ⟨[U, U, .one (.bptr 0 0), .one (.bptr 1 0), .one (.bptr 2 0), U, U, U, U, U, U, U, U, U, U, U, U, U, U, U], [(0, .whole (.nm 0) x0 []), (1, .whole (.nm 0) x1 []), (2, .whole (.nm 0) x2 [])]⟩
theorem F130_run (n : Nat) (a0 : Val) (a1 : Val) : F130.run [.v (.nm 0), .v (.nm 0)] [.v (.nm 0)] n (a0, a1, ()) =
  bif !decide (a0.kind = (3 : Int)) then
    some ((zVal, ()), ())
  else
    bif !decide (a1.kind = (3 : Int)) then
      some ((zVal, ()), ())
    else
      F130c3 n (a0) (a1) (zVal) := by kernel_rfl
theorem F130c3_eq (n : Nat) (x0 : Val) (x1 : Val) (x2 : Val) : F130c3 (n + 1) x0 x1 x2 =
  (F139.run [PK.v Ty.str, PK.v Ty.str] [RK.v Ty.bool] (40000000 : Nat) (x1.text, x0.text, ())).bind fun r0 =>
    (F119.run [PK.v Ty.bool] [RK.v (Ty.nm (0 : Nat))] (4000000 : Nat) (r0.fst.fst, ())).bind fun r1 =>
      some ((r1.fst.fst, ()), ()) := by kernel_rfl
noncomputable def F129c3 (n : Nat) (x0 : Val) (x1 : Val) (x2 : Val) := F129.at [.v (.nm 0), .v (.nm 0)] [.v (.nm 0)] n 3 ⟨[U, U, .one (.bptr 0 0), .one (.bptr 1 0), .one (.bptr 2 0), U, U, U, U, U, U, U, U, U, U, U, U, U, U, U, U, U, U, U, U, U, U, U, U, U], [(0, .whole (.nm 0) x0 []), (1, .whole (.nm 0) x1 []), (2, .whole (.nm 0) x2 [])]⟩
theorem F129_run (n : Nat) (a0 : Val) (a1 : Val) : F129.run [.v (.nm 0), .v (.nm 0)] [.v (.nm 0)] n (a0, a1, ()) =
  bif !decide (a0.kind = (3 : Int)) then
    some ((zVal, ()), ())
  else
    bif !decide (a1.kind = (3 : Int)) then
      some ((zVal, ()), ())
    else
      bif decide ((4096 : Int) < IntKind.i64.wrap ((↑a0.text.length : Int) + (↑a1.text.length : Int))) then
        some ((zVal, ()), ())
      else
        F129c3 n (a0) (a1) (zVal) := by kernel_rfl
theorem F129c3_eq (n : Nat) (x0 : Val) (x1 : Val) (x2 : Val) : F129c3 (n + 1) x0 x1 x2 =
  if x0.text.length + x1.text.length ≤ lim then
    some (({ kind := (3 : Int), int := (0 : Int), text := x0.text ++ x1.text : Val }, ()), ())
  else
    none := by kernel_rfl
theorem F127_run (n : Nat) (a0 : List (Val)) : F127.run [.v (.sl (.nm 0))] [.v (.nm 0)] n (a0, ()) =
  (F138.run [PK.v (Ty.int IntKind.i64), PK.v (Ty.nm (0 : Nat)).sl] [RK.v (Ty.nm (0 : Nat))] (4000000 : Nat) ((0 : Int), a0, ())).bind fun r0 =>
    some ((r0.fst.fst, ()), ()) := by kernel_rfl
noncomputable def F120c16 (n : Nat) (x0 : Int) (x1 : Val) (x2 : Val) (x3 : Val) := F120.at [.v (.int .i64), .v (.nm 0), .v (.nm 0)] [.v (.nm 0)] n 16 ⟨[.one (.int .i64 x0), U, U, U, .one (.bptr 0 0), .one (.bptr 1 0), .one (.bptr 2 0), U, U, U, U, U, U, U, U, U, U, U, U, U, U, U, U, U, U, U, U, U, U, U, U, U, U, U, U, U, U, U, U, U, U, U, U, U], [(0, .whole (.nm 0) x1 []), (1, .whole (.nm 0) x2 []), (2, .whole (.nm 0) x3 [])]⟩
theorem F120_run (n : Nat) (a0 : Int) (a1 : Val) (a2 : Val) : F120.run [.v (.int .i64), .v (.nm 0), .v (.nm 0)] [.v (.nm 0)] n (a0, a1, a2, ()) =
  bif decide (a0 = (7 : Int)) then
    (F127.run [PK.v (Ty.nm (0 : Nat)).sl] [RK.v (Ty.nm (0 : Nat))] (4000000 : Nat) ([a1, a2], ())).bind fun r0 =>
      some ((r0.fst.fst, ()), ())
  else
    bif decide (a0 = (8 : Int)) then
      (F128.run [PK.v (Ty.nm (0 : Nat)).sl] [RK.v (Ty.nm (0 : Nat))] (4000000 : Nat) ([a1, a2], ())).bind fun r1 =>
        some ((r1.fst.fst, ()), ())
    else
      bif decide (a0 = (14 : Int)) then
        (F129.run [PK.v (Ty.nm (0 : Nat)), PK.v (Ty.nm (0 : Nat))] [RK.v (Ty.nm (0 : Nat))] (4000000 : Nat) (a1, a2, ())).bind fun r2 =>
          some ((r2.fst.fst, ()), ())
      else
        bif decide (a0 = (15 : Int)) then
          (F130.run [PK.v (Ty.nm (0 : Nat)), PK.v (Ty.nm (0 : Nat))] [RK.v (Ty.nm (0 : Nat))] (4000000 : Nat) (a1, a2, ())).bind fun r3 =>
            some ((r3.fst.fst, ()), ())
        else
          bif decide (a0 = (9 : Int)) then
            bif decide (a0 = (9 : Int)) then
              (F131.run [PK.v (Ty.int IntKind.i64), PK.v (Ty.nm (0 : Nat)), PK.v (Ty.nm (0 : Nat))] [RK.v (Ty.nm (0 : Nat))] (4000000 : Nat) (a0, a1, a2, ())).bind fun r4 =>
                some ((r4.fst.fst, ()), ())
            else
              F120c16 n (a0) (a1) (a2) (zVal)
          else
            bif decide (a0 = (10 : Int)) then
              bif decide (a0 = (10 : Int)) then
                (F131.run [PK.v (Ty.int IntKind.i64), PK.v (Ty.nm (0 : Nat)), PK.v (Ty.nm (0 : Nat))] [RK.v (Ty.nm (0 : Nat))] (4000000 : Nat) (a0, a1, a2, ())).bind fun r5 =>
                  some ((r5.fst.fst, ()), ())
              else
                F120c16 n (a0) (a1) (a2) (zVal)
            else
              bif decide (a0 = (11 : Int)) then
                bif decide (a0 = (11 : Int)) then
                  (F131.run [PK.v (Ty.int IntKind.i64), PK.v (Ty.nm (0 : Nat)), PK.v (Ty.nm (0 : Nat))] [RK.v (Ty.nm (0 : Nat))] (4000000 : Nat) (a0, a1, a2, ())).bind fun r6 =>
                    some ((r6.fst.fst, ()), ())
                else
                  F120c16 n (a0) (a1) (a2) (zVal)
              else
                bif decide (a0 = (12 : Int)) then
                  bif decide (a0 = (12 : Int)) then
                    (F131.run [PK.v (Ty.int IntKind.i64), PK.v (Ty.nm (0 : Nat)), PK.v (Ty.nm (0 : Nat))] [RK.v (Ty.nm (0 : Nat))] (4000000 : Nat) (a0, a1, a2, ())).bind fun r7 =>
                      some ((r7.fst.fst, ()), ())
                  else
                    F120c16 n (a0) (a1) (a2) (zVal)
                else
                  bif decide (a0 = (13 : Int)) then
                    (F131.run [PK.v (Ty.int IntKind.i64), PK.v (Ty.nm (0 : Nat)), PK.v (Ty.nm (0 : Nat))] [RK.v (Ty.nm (0 : Nat))] (4000000 : Nat) (a0, a1, a2, ())).bind fun r8 =>
                      some ((r8.fst.fst, ()), ())
                  else
                    F120c16 n (a0) (a1) (a2) (zVal) := by kernel_rfl
theorem F120c16_eq (n : Nat) (x0 : Int) (x1 : Val) (x2 : Val) (x3 : Val) : F120c16 (n + 1) x0 x1 x2 x3 =
  (F132.run [PK.v (Ty.int IntKind.i64), PK.v (Ty.nm (0 : Nat)), PK.v (Ty.nm (0 : Nat))] [RK.v (Ty.nm (0 : Nat))] (4000000 : Nat) (x0, x1, x2, ())).bind fun r9 =>
    some ((r9.fst.fst, ()), ()) := by kernel_rfl
theorem F118_run (n : Nat) (a0 : Val) : F118.run [.v (.nm 0)] [.v (.nm 0)] n (a0, ()) =
  bif !decide (a0.kind = (2 : Int)) then
    some ((zVal, ()), ())
  else
    bif decide (a0.int = (-9223372036854775808 : Int)) then
      some ((zVal, ()), ())
    else
      (F126.run [PK.v (Ty.int IntKind.i64)] [RK.v (Ty.nm (0 : Nat))] (4000000 : Nat) (IntKind.i64.wrap ((0 : Int) - a0.int), ())).bind fun r0 =>
        some ((r0.fst.fst, ()), ()) := by kernel_rfl
theorem F117_run (n : Nat) (a0 : Val) : F117.run [.v (.nm 0)] [.v (.nm 0)] n (a0, ()) =
  bif !decide (a0.kind = (1 : Int)) then
    some ((zVal, ()), ())
  else
    (F125.run [PK.v Ty.bool] [RK.v (Ty.nm (0 : Nat))] (4000000 : Nat) (decide (a0.int = (0 : Int)), ())).bind fun r0 =>
      some ((r0.fst.fst, ()), ()) := by kernel_rfl
theorem F137_run (n : Nat) (a0 : Val) : F137.run [.v (.nm 0)] [.v (.bool)] n (a0, ()) =
  bif decide (a0.kind = (1 : Int)) then
    some ((decide (a0.int = (1 : Int)), ()), ())
  else
    some ((false, ()), ()) := by kernel_rfl
theorem F114_run (n : Nat) (a0 : List (Val)) (a1 : Int) : F114.run [.v (.sl (.nm 0)), .v (.int .i64)] [.v (.nm 0)] n (a0, a1, ()) =
  bif decide (a1 < (0 : Int)) then
    some ((zVal, ()), ())
  else
    bif decide ((↑a0.length : Int) ≤ a1) then
      some ((zVal, ()), ())
    else
      if (0 : Int) ≤ a1 then
        if a1 < (↑a0.length : Int) then
          some ((a0.getD a1.toNat zVal, ()), ())
        else
          none
      else
        none := by kernel_rfl
end Go.Proofs.Tryz
