/- The functions of the program as the engine follows them (printed by a program of ours): their code, what is known of them, and the equations of their runs. -/
import Derived.Test.YtlkllggdiakpbaaGreatDoorL42Fns
set_option linter.unusedVariables false
set_option maxRecDepth 20000
namespace Go.Proofs.Tryz
open Go.Eng
noncomputable def F65c1 (g35 : G35) (n : Nat) (x0 : List (Ex)) (x1 : List (Val)) := (F65 g35).at [.v (.sl (.nm 1)), .v (.sl (.nm 0))] [.own 23 (.nm 0)] n 1 ⟨[.one (.data (.sl (.nm 1)) x0 []), .one (.data (.sl (.nm 0)) x1 []), U, U, U, U, U, U, U, U, U, U, U, U, U, U, U, U, U, U, U, U, U], []⟩
noncomputable def F65c3 (g35 : G35) (n : Nat) (x0 : List (Ex)) (x1 : List (Val)) (x2 : Int) (x3 : List (Val)) := (F65 g35).at [.v (.sl (.nm 1)), .v (.sl (.nm 0))] [.own 23 (.nm 0)] n 3 ⟨[.one (.data (.sl (.nm 1)) x0 []), .one (.data (.sl (.nm 0)) x1 []), U, U, U, .one (.own 0), .one (.int .i64 x2), U, U, U, U, U, U, U, U, U, U, U, U, U, U, U, U], [(0, .row 23 (.nm 0) x3 [] false)]⟩
theorem F65_run (g35 : G35) (n : Nat) (a0 : List (Ex)) (a1 : List (Val)) : (F65 g35).run [.v (.sl (.nm 1)), .v (.sl (.nm 0))] [.own 23 (.nm 0)] n (a0, a1, ()) =
 F65c1 g35 n (a0) (a1) := by kernel_rfl
theorem F65c1_eq (g35 : G35) (n x0 x1 : _) : F65c1 g35 (n + 1) x0 x1 =
 F65c3 g35 n (x0) (x1) ((0 : Int)) ([]) := by kernel_rfl
theorem F65c3_eq (g35 : G35) (n x0 x1 x2 x3 : _) : F65c3 g35 (n + 1) x0 x1 x2 x3 =
 bif decide (x2 < (↑x0.length : Int)) then
  if (0 : Int) ≤ x2 then
   if x2 < (↑x0.length : Int) then
    (g35 (x0.getD x2.toNat zEx, x1, ())).bind fun r0 =>
     if x3.length + (1 : Nat) ≤ lim then
      F65c3 g35 n (x0) (x1) (IntKind.i64.wrap (x2 + (1 : Int))) (x3 ++ ([r0.fst.fst] : List (Val)))
     else
      none
   else
    none
  else
   none
 else
  some ((x3, ()), ()) := by kernel_rfl
noncomputable def F35c9 (g35 : G35) (n : Nat) (x0 : List (Val)) (x1 : Ex) (x2 : Val) := (F35 g35).at [.v (.nm 1), .v (.sl (.nm 0))] [.v (.nm 0)] n 9 ⟨[U, .one (.data (.sl (.nm 0)) x0 []), .one (.bptr 0 0), U, .one (.bptr 1 0), U, U, U, U, U, U, U, U, U, U, U, U, U, U, U, U, U, U, U, U, U, U, U, U, U, U, U, U, U, U, U, U, U, U, U, U, U, U, U, U, U, U, U, U, U, U, U, U, U, U, U, U, U, U, U, U, U, U, U, U, U, U, U, U, U, U, U, U, U], [(0, .whole (.nm 1) x1 []), (1, .whole (.nm 0) x2 [])]⟩
theorem F35_run (g35 : G35) (n : Nat) (a0 : Ex) (a1 : List (Val)) : (F35 g35).run [.v (.nm 1), .v (.sl (.nm 0))] [.v (.nm 0)] n (a0, a1, ()) =
 bif decide (a0.kind = (1 : Int)) then
  some ((a0.value, ()), ())
 else
  bif decide (a0.kind = (2 : Int)) then
   (F64.run [PK.v (Ty.nm 0).sl, PK.v (Ty.int .i64)] [RK.v (Ty.nm 0)] 4000000 (a1, a0.slot, ())).bind fun r0 =>
    some ((r0.fst.fst, ()), ())
  else
   bif decide (a0.kind = (10 : Int)) then
    bif decide (a0.kind = (10 : Int)) then
     some ((zVal, ()), ())
    else
     F35c9 g35 n (a1) (a0) (zVal)
   else
    bif decide (a0.kind = (11 : Int)) then
     some ((zVal, ()), ())
    else
     F35c9 g35 n (a1) (a0) (zVal) := by kernel_rfl
theorem F35c9_eq (g35 : G35) (n x0 x1 x2 : _) : F35c9 g35 (n + 1) x0 x1 x2 =
 ((F65 g35).run [PK.v (Ty.nm 1).sl, PK.v (Ty.nm 0).sl] [RK.own 23 (Ty.nm 0)] 4000000 (x1.args, x0, ())).bind fun r1 =>
  bif decide (x1.kind = (3 : Int)) then
   if (0 : Int) < (↑(List.length r1.fst.fst) : Int) then
    (F66.run [PK.v (Ty.nm 0)] [RK.v (Ty.nm 0)] 4000000 (List.getD r1.fst.fst (Int.toNat (0 : Int)) zVal, ())).bind fun r2 =>
     some ((r2.fst.fst, ()), ())
   else
    none
  else
   bif decide (x1.kind = (4 : Int)) then
    if (0 : Int) < (↑(List.length r1.fst.fst) : Int) then
     (F67.run [PK.v (Ty.nm 0)] [RK.v (Ty.nm 0)] 4000000 (List.getD r1.fst.fst (Int.toNat (0 : Int)) zVal, ())).bind fun r3 =>
      some ((r3.fst.fst, ()), ())
    else
     none
   else
    bif decide (x1.kind = (5 : Int)) then
     if (0 : Int) < (↑(List.length r1.fst.fst) : Int) then
      if (1 : Int) < (↑(List.length r1.fst.fst) : Int) then
       (F68.run [PK.v (Ty.int .i64), PK.v (Ty.nm 0), PK.v (Ty.nm 0)] [RK.v (Ty.nm 0)] 4000000 (x1.op, List.getD r1.fst.fst (Int.toNat (0 : Int)) zVal, List.getD r1.fst.fst (Int.toNat (1 : Int)) zVal, ())).bind fun r4 =>
        some ((r4.fst.fst, ()), ())
      else
       none
     else
      none
    else
     bif decide (x1.kind = (6 : Int)) then
      if (0 : Int) < (↑(List.length r1.fst.fst) : Int) then
       (F69.run [PK.v Ty.bool] [RK.v (Ty.nm 0)] 4000000 (decide ((List.getD r1.fst.fst (Int.toNat (0 : Int)) zVal).kind = (0 : Int)), ())).bind fun r5 =>
        some ((r5.fst.fst, ()), ())
      else
       none
     else
      bif decide (x1.kind = (7 : Int)) then
       (F70.run [PK.v (Ty.nm 0).sl] [RK.v (Ty.nm 0)] 4000000 (r1.fst.fst, ())).bind fun r6 =>
        some ((r6.fst.fst, ()), ())
      else
       bif decide (x1.kind = (8 : Int)) then
        (F71.run [PK.v (Ty.nm 0).sl] [RK.v (Ty.nm 0)] 4000000 (r1.fst.fst, ())).bind fun r7 =>
         some ((r7.fst.fst, ()), ())
       else
        bif decide (x1.kind = (9 : Int)) then
         (F72.run [PK.v Ty.str, PK.v (Ty.nm 0).sl] [RK.v (Ty.nm 0)] 4000000 (x1.name, r1.fst.fst, ())).bind fun r8 =>
          some ((r8.fst.fst, ()), ())
        else
         some ((zVal, ()), ()) := by kernel_rfl
noncomputable def F46c3 (n : Nat) (x0 : Int) (x1 : Vec) (x2 : Val) := F46.at [.v (.nm 3), .v (.int .i64)] [.v (.nm 0)] n 3 ⟨[U, .one (.int .i64 x0), .one (.bptr 0 0), U, .one (.bptr 1 0), U, U, U, U, U, U, U, U, U, U, U, U, U, U, U, U, U, U, U, U, U, U, U, U, U, U, U, U, U, U, U, U, U, U], [(0, .whole (.nm 3) x1 []), (1, .whole (.nm 0) x2 [])]⟩
theorem F46_run (n : Nat) (a0 : Vec) (a1 : Int) : F46.run [.v (.nm 3), .v (.int .i64)] [.v (.nm 0)] n (a0, a1, ()) =
 bif decide (a1 < (0 : Int)) then
  some ((zVal, ()), ())
 else
  bif decide ((↑a0.nulls.length : Int) ≤ a1) then
   some ((zVal, ()), ())
  else
   if (0 : Int) ≤ a1 then
    if a1 < (↑a0.nulls.length : Int) then
     bif a0.nulls.getD a1.toNat false then
      some ((zVal, ()), ())
     else
      F46c3 n (a1) (a0) (zVal)
    else
     none
   else
    none := by kernel_rfl
theorem F46c3_eq (n x0 x1 x2 : _) : F46c3 (n + 1) x0 x1 x2 =
 bif decide (x1.f_Type = (3 : Int)) then
  if (0 : Int) ≤ x0 then
   if x0 < (↑x1.texts.length : Int) then
    some (({ kind := (3 : Int), int := (0 : Int), text := x1.texts.getD x0.toNat [] : Val }, ()), ())
   else
    none
  else
   none
 else
  if (0 : Int) ≤ x0 then
   if x0 < (↑x1.ints.length : Int) then
    some (({ kind := x1.f_Type, int := x1.ints.getD x0.toNat (0 : Int), text := [] : Val }, ()), ())
   else
    none
  else
   none := by kernel_rfl
noncomputable def F63c1 (n : Nat) (x0 : Int) (x1 : Batch) := F63.at [.v (.nm 2), .v (.int .i64)] [.own 23 (.nm 0)] n 1 ⟨[U, .one (.int .i64 x0), .one (.bptr 0 0), U, U, U, U, U, U, U, U, U, U, U, U, U, U, U, U, U, U, U, U, U, U], [(0, .whole (.nm 2) x1 [])]⟩
noncomputable def F63c3 (n : Nat) (x0 : Int) (x1 : Int) (x2 : Batch) (x3 : List (Val)) := F63.at [.v (.nm 2), .v (.int .i64)] [.own 23 (.nm 0)] n 3 ⟨[U, .one (.int .i64 x0), .one (.bptr 0 0), U, U, .one (.own 1), .one (.int .i64 x1), U, U, U, U, U, U, U, U, U, U, U, U, U, U, U, U, U, U], [(0, .whole (.nm 2) x2 []), (1, .row 23 (.nm 0) x3 [] false)]⟩
theorem F63_run (n : Nat) (a0 : Batch) (a1 : Int) : F63.run [.v (.nm 2), .v (.int .i64)] [.own 23 (.nm 0)] n (a0, a1, ()) =
 F63c1 n (a1) (a0) := by kernel_rfl
theorem F63c1_eq (n x0 x1 : _) : F63c1 (n + 1) x0 x1 =
 F63c3 n (x0) ((0 : Int)) (x1) ([]) := by kernel_rfl
theorem F63c3_eq (n x0 x1 x2 x3 : _) : F63c3 (n + 1) x0 x1 x2 x3 =
 bif decide (x1 < (↑x2.columns.length : Int)) then
  if (0 : Int) ≤ x1 then
   if x1 < (↑x2.columns.length : Int) then
    (F46.run [PK.v (Ty.nm 3), PK.v (Ty.int .i64)] [RK.v (Ty.nm 0)] 4000000 (x2.columns.getD x1.toNat zVec, x0, ())).bind fun r0 =>
     if x3.length + (1 : Nat) ≤ lim then
      F63c3 n (x0) (IntKind.i64.wrap (x1 + (1 : Int))) (x2) (x3 ++ ([r0.fst.fst] : List (Val)))
     else
      none
   else
    none
  else
   none
 else
  some ((x3, ()), ()) := by kernel_rfl
noncomputable def F34c1 (n : Nat) (x0 : Batch) := F34.at [.v (.nm 2)] [.own 66 (.sl (.nm 0))] n 1 ⟨[U, .one (.bptr 0 0), U, U, U, U, U, U, U, U, U, U, U, U, U, U, U, U, U, U, U, U, U, U, U, U, U, U, U, U, U, U, U, U, U, U, U, U, U], [(0, .whole (.nm 2) x0 [])]⟩
noncomputable def F34c4 (n : Nat) (x0 : Int) (x1 : Batch) (x2 : List (List (Val))) := F34.at [.v (.nm 2)] [.own 66 (.sl (.nm 0))] n 4 ⟨[U, .one (.bptr 0 0), U, .one (.own 1), .one (.int .i64 x0), U, U, U, U, U, U, U, U, U, U, U, U, U, U, U, U, U, U, U, U, U, U, U, U, U, U, U, U, U, U, U, U, U, U], [(0, .whole (.nm 2) x1 []), (1, .row 66 (.sl (.nm 0)) x2 [] false)]⟩
noncomputable def F34c9 (n : Nat) (x0 : Int) (x1 : Batch) (x2 : List (List (Val))) := F34.at [.v (.nm 2)] [.own 66 (.sl (.nm 0))] n 9 ⟨[U, .one (.bptr 0 0), U, .one (.own 1), U, .one (.int .i64 x0), U, U, U, U, U, U, U, U, U, U, U, U, U, U, U, U, U, U, U, U, U, U, U, U, U, U, U, U, U, U, U, U, U], [(0, .whole (.nm 2) x1 []), (1, .row 66 (.sl (.nm 0)) x2 [] false)]⟩
theorem F34_run (n : Nat) (a0 : Batch) : F34.run [.v (.nm 2)] [.own 66 (.sl (.nm 0))] n (a0, ()) =
 F34c1 n (a0) := by kernel_rfl
theorem F34c1_eq (n x0 : _) : F34c1 (n + 1) x0 =
 bif x0.all then
  F34c4 n ((0 : Int)) (x0) ([])
 else
  F34c9 n ((0 : Int)) (x0) ([]) := by kernel_rfl
theorem F34c4_eq (n x0 x1 x2 : _) : F34c4 (n + 1) x0 x1 x2 =
 bif decide (x0 < x1.len) then
  (F63.run [PK.v (Ty.nm 2), PK.v (Ty.int .i64)] [RK.own 23 (Ty.nm 0)] 4000000 (x1, x0, ())).bind fun r0 =>
   if x2.length + (1 : Nat) ≤ lim then
    F34c4 n (IntKind.i64.wrap (x0 + (1 : Int))) (x1) (x2 ++ ([r0.fst.fst] : List (List (Val))))
   else
    none
 else
  some ((x2, ()), ()) := by kernel_rfl
theorem F34c9_eq (n x0 x1 x2 : _) : F34c9 (n + 1) x0 x1 x2 =
 bif decide (x0 < (↑x1.sel.length : Int)) then
  if (0 : Int) ≤ x0 then
   if x0 < (↑x1.sel.length : Int) then
    (F63.run [PK.v (Ty.nm 2), PK.v (Ty.int .i64)] [RK.own 23 (Ty.nm 0)] 4000000 (x1, x1.sel.getD x0.toNat (0 : Int), ())).bind fun r1 =>
     if x2.length + (1 : Nat) ≤ lim then
      F34c9 n (IntKind.i64.wrap (x0 + (1 : Int))) (x1) (x2 ++ ([r1.fst.fst] : List (List (Val))))
     else
      none
   else
    none
  else
   none
 else
  some ((x2, ()), ()) := by kernel_rfl
noncomputable def F19c5 (n : Nat) (x0 : Int) (x1 : Batch) (x2 : List (Int)) := F19.at [.v (.nm 2)] [.v (.sl (.int .i64))] n 5 ⟨[U, .one (.bptr 0 0), U, .one (.own 1), .one (.int .i64 x0), U, U, U, U, U, U, U, U, U, U, U, U, U, U, U, U], [(0, .whole (.nm 2) x1 []), (1, .row 3 (.int .i64) x2 [] false)]⟩
theorem F19_run (n : Nat) (a0 : Batch) : F19.run [.v (.nm 2)] [.v (.sl (.int .i64))] n (a0, ()) =
 bif !a0.all then
  some ((a0.sel, ()), ())
 else
  F19c5 n ((0 : Int)) (a0) ([]) := by kernel_rfl
theorem F19c5_eq (n x0 x1 x2 : _) : F19c5 (n + 1) x0 x1 x2 =
 bif decide (x0 < x1.len) then
  if x2.length + (1 : Nat) ≤ lim then
   F19c5 n (IntKind.i64.wrap (x0 + (1 : Int))) (x1) (x2 ++ [x0])
  else
   none
 else
  some ((x2, ()), ()) := by kernel_rfl
noncomputable def F75c1 (n : Nat) (x0 : Int) (x1 : Val) (x2 : Int) (x3 : List (Int)) (x4 : List (List Int)) (x5 : List (Bool)) (x6 : List (Int)) (x7 : List (List Int)) (x8 : List (Bool)) := F75.at [.ag 3 AGV, .v (.nm 0)] [.ag 3 AGV] n 1 ⟨[U, U, .one (.bptr 0 0), .one (.bptr 1 0), .one (.bptr 2 0), U, U, U, U, U, U, U, U, U, U, U, U, U, U, U, U, U, U, U, U, U, U, U, U, U, U, U, U, U, U, U, U, U, U], [(0, .cells [.int .i64 x0, .own 3, .own 4, .own 5]), (1, .whole (.nm 0) x1 []), (2, .cells [.int .i64 x2, .own 6, .own 7, .own 8]), (3, .row 2 (.int .i64) x3 [] false), (4, .row 9 .str x4 [] false), (5, .row 4 .bool x5 [] false), (6, .row 2 (.int .i64) x6 [] false), (7, .row 9 .str x7 [] false), (8, .row 4 .bool x8 [] false)]⟩
noncomputable def F75c4 (n : Nat) (x0 : Int) (x1 : Val) (x2 : Int) (x3 : List (Int)) (x4 : List (List Int)) (x5 : List (Bool)) (x6 : List (Int)) (x7 : List (List Int)) (x8 : List (Bool)) := F75.at [.ag 3 AGV, .v (.nm 0)] [.ag 3 AGV] n 4 ⟨[U, U, .one (.bptr 0 0), .one (.bptr 1 0), .one (.bptr 2 0), U, U, U, U, U, U, U, U, U, U, U, U, U, U, U, U, U, U, U, U, U, U, U, U, U, U, U, U, U, U, U, U, U, U], [(0, .cells [.int .i64 x0, .own 3, .own 4, .own 5]), (1, .whole (.nm 0) x1 []), (2, .cells [.int .i64 x2, .own 6, .own 7, .own 8]), (3, .row 2 (.int .i64) x3 [] false), (4, .row 9 .str x4 [] false), (5, .row 4 .bool x5 [] false), (6, .row 2 (.int .i64) x6 [] false), (7, .row 9 .str x7 [] false), (8, .row 4 .bool x8 [] false)]⟩
theorem F75_run (n : Nat) (a0 : Int × List (Int) × List (List Int) × List (Bool) × Unit) (a1 : Val) : F75.run [.ag 3 AGV, .v (.nm 0)] [.ag 3 AGV] n (a0, a1, ()) =
 F75c1 n (a0.fst) (a1) ((0 : Int)) (a0.snd.fst) (a0.snd.snd.fst) (a0.snd.snd.snd.fst) ([]) ([]) ([]) := by kernel_rfl
theorem F75c1_eq (n x0 x1 x2 x3 x4 x5 x6 x7 x8 : _) : F75c1 (n + 1) x0 x1 x2 x3 x4 x5 x6 x7 x8 =
 if x5.length + (1 : Nat) ≤ lim then
  bif decide (x0 = (1 : Int)) then
   if x3.length + (1 : Nat) ≤ lim then
    F75c4 n (x0) (x1) (x2) (x3 ++ [x1.int]) (x4) (x5 ++ [decide (x1.kind = (0 : Int))]) (x6) (x7) (x8)
   else
    none
  else
   bif decide (x0 = (2 : Int)) then
    if x3.length + (1 : Nat) ≤ lim then
     F75c4 n (x0) (x1) (x2) (x3 ++ [x1.int]) (x4) (x5 ++ [decide (x1.kind = (0 : Int))]) (x6) (x7) (x8)
    else
     none
   else
    F75c4 n (x0) (x1) (x2) (x3) (x4) (x5 ++ [decide (x1.kind = (0 : Int))]) (x6) (x7) (x8)
 else
  none := by kernel_rfl
theorem F75c4_eq (n x0 x1 x2 x3 x4 x5 x6 x7 x8 : _) : F75c4 (n + 1) x0 x1 x2 x3 x4 x5 x6 x7 x8 =
 bif decide (x0 = (3 : Int)) then
  if x4.length + (1 : Nat) ≤ lim then
   some (((x0, (x3, (x4 ++ [x1.text], (x5, ())))), ()), ())
  else
   none
 else
  some (((x0, (x3, (x4, (x5, ())))), ()), ()) := by kernel_rfl
theorem F74_run (n : Nat) (a0 : Val) (a1 : Int) : F74.run [.v (.nm 0), .v (.int .i64)] [.v (.bool)] n (a0, a1, ()) =
 bif decide (a0.kind = (0 : Int)) then
  some ((true, ()), ())
 else
  some ((decide (a0.kind = a1), ()), ()) := by kernel_rfl
theorem F73_run (n : Nat) (a0 : Int) : F73.run [.v (.int .i64)] [.v (.bool)] n (a0, ()) =
 bif decide ((0 : Int) ≤ a0) then
  some ((decide (a0 ≤ (3 : Int)), ()), ())
 else
  some ((false, ()), ()) := by kernel_rfl
noncomputable def F36c1 (n : Nat) (x0 : Int) (x1 : List (Val)) (x2 : Int) (x3 : List (Int)) (x4 : List (List Int)) (x5 : List (Bool)) := F36.at [.v (.int .i64), .v (.sl (.nm 0))] [.ag 3 AGV, .v (.int .i64)] n 1 ⟨[.one (.int .i64 x0), .one (.data (.sl (.nm 0)) x1 []), U, U, .one (.bptr 0 0), U, U, U, U, U, U, U, U, U, U, U, U, U, U, U, U, U, U, U, U, U, U, U, U, U, U, U, U, U, U], [(0, .cells [.int .i64 x2, .own 1, .own 2, .own 3]), (1, .row 2 (.int .i64) x3 [] false), (2, .row 9 .str x4 [] false), (3, .row 4 .bool x5 [] false)]⟩
noncomputable def F36c5 (n : Nat) (x0 : Int) (x1 : List (Val)) (x2 : Int) (x3 : Int) (x4 : Int) (x5 : List (Int)) (x6 : List (List Int)) (x7 : List (Bool)) (x8 : List (Int)) (x9 : List (List Int)) (x10 : List (Bool)) := F36.at [.v (.int .i64), .v (.sl (.nm 0))] [.ag 3 AGV, .v (.int .i64)] n 5 ⟨[.one (.int .i64 x0), .one (.data (.sl (.nm 0)) x1 []), U, U, .one (.bptr 0 0), U, .one (.bptr 1 0), .one (.int .i64 x2), U, U, U, U, U, U, U, U, U, U, U, U, U, U, U, U, U, U, U, U, U, U, U, U, U, U, U], [(0, .cells [.int .i64 x3, .own 2, .own 3, .own 4]), (1, .cells [.int .i64 x4, .own 5, .own 6, .own 7]), (2, .row 2 (.int .i64) x5 [] false), (3, .row 9 .str x6 [] false), (4, .row 4 .bool x7 [] false), (5, .row 2 (.int .i64) x8 [] false), (6, .row 9 .str x9 [] false), (7, .row 4 .bool x10 [] false)]⟩
theorem F36_run (n : Nat) (a0 : Int) (a1 : List (Val)) : F36.run [.v (.int .i64), .v (.sl (.nm 0))] [.ag 3 AGV, .v (.int .i64)] n (a0, a1, ()) =
 F36c1 n (a0) (a1) ((0 : Int)) ([]) ([]) ([]) := by kernel_rfl
theorem F36c1_eq (n x0 x1 x2 x3 x4 x5 : _) : F36c1 (n + 1) x0 x1 x2 x3 x4 x5 =
 (F73.run [PK.v (Ty.int .i64)] [RK.v Ty.bool] 4000000 (x0, ())).bind fun r0 =>
  bif !r0.fst.fst then
   some ((((0 : Int), ([], ([], ([], ())))), ((1 : Int), ())), ())
  else
   F36c5 n (x0) (x1) ((0 : Int)) (x2) (x0) (x3) (x4) (x5) ([]) ([]) ([]) := by kernel_rfl
theorem F36c5_eq (n x0 x1 x2 x3 x4 x5 x6 x7 x8 x9 x10 : _) : F36c5 (n + 1) x0 x1 x2 x3 x4 x5 x6 x7 x8 x9 x10 =
 bif decide (x2 < (↑x1.length : Int)) then
  if (0 : Int) ≤ x2 then
   if x2 < (↑x1.length : Int) then
    (F74.run [PK.v (Ty.nm 0), PK.v (Ty.int .i64)] [RK.v Ty.bool] 4000000 (x1.getD x2.toNat zVal, x0, ())).bind fun r1 =>
     bif !r1.fst.fst then
      some ((((0 : Int), ([], ([], ([], ())))), ((7 : Int), ())), ())
     else
      if (0 : Int) ≤ x2 then
       if x2 < (↑x1.length : Int) then
        (F75.run [PK.ag 3 AGV, PK.v (Ty.nm 0)] [RK.ag 3 AGV] 4000000 ((x4, x8, x9, x10, ()), x1.getD x2.toNat zVal, ())).bind fun r2 =>
         F36c5 n (x0) (x1) (IntKind.i64.wrap (x2 + (1 : Int))) (x3) (r2.fst.fst.fst) (x5) (x6) (x7) (r2.fst.fst.snd.fst) (r2.fst.fst.snd.snd.fst) (r2.fst.fst.snd.snd.snd.fst)
       else
        none
      else
       none
   else
    none
  else
   none
 else
  some (((x4, (x8, (x9, (x10, ())))), ((0 : Int), ())), ()) := by kernel_rfl
noncomputable def F13c4 (n : Nat) (x0 : Int) (x1 : Ex) (x2 : Int) (x3 : List (Val)) (x4 : List (List (Val))) (x5 : List (Int)) (x6 : List (List Int)) (x7 : List (Bool)) := F13.at [.v (.nm 1), .v (.nm 2)] [.v (.nm 3)] n 4 ⟨[U, U, .one (.bptr 0 0), U, .one (.bptr 1 0), .one (.own 2), .one (.own 3), .one (.int .i64 x0), U, U, U, U, U, U, U, U, U, U, U, U, U, U, U, U, U, U, U, U, U, U, U, U, U, U, U], [(0, .whole (.nm 1) x1 []), (1, .cells [.int .i64 x2, .own 4, .own 5, .own 6]), (2, .row 23 (.nm 0) x3 [] false), (3, .row 66 (.sl (.nm 0)) x4 [] false), (4, .row 2 (.int .i64) x5 [] false), (5, .row 9 .str x6 [] false), (6, .row 4 .bool x7 [] false)]⟩
theorem F13_run (n : Nat) (a0 : Ex) (a1 : Batch) : F13.run [.v (.nm 1), .v (.nm 2)] [.v (.nm 3)] n (a0, a1, ()) =
 (F34.run [PK.v (Ty.nm 2)] [RK.own 66 (Ty.nm 0).sl] 4000000 (a1, ())).bind fun r0 =>
  F13c4 n ((0 : Int)) (a0) ((0 : Int)) ([]) (r0.fst.fst) ([]) ([]) ([]) := by kernel_rfl
theorem F13c4_eq (n x0 x1 x2 x3 x4 x5 x6 x7 : _) : F13c4 (n + 1) x0 x1 x2 x3 x4 x5 x6 x7 =
 bif decide (x0 < (↑x4.length : Int)) then
  if (0 : Int) ≤ x0 then
   if x0 < (↑x4.length : Int) then
    (R35 (x1, x4.getD x0.toNat [], ())).bind fun r1 =>
     if x3.length + (1 : Nat) ≤ lim then
      F13c4 n (IntKind.i64.wrap (x0 + (1 : Int))) (x1) (x2) (x3 ++ ([r1.fst.fst] : List (Val))) (x4) (x5) (x6) (x7)
     else
      none
   else
    none
  else
   none
 else
  (F36.run [PK.v (Ty.int .i64), PK.v (Ty.nm 0).sl] [RK.ag 3 AGV, RK.v (Ty.int .i64)] 4000000 (x1.f_Type, x3, ())).bind fun r2 =>
   some (({ f_Type := r2.fst.fst.fst, ints := r2.fst.fst.snd.fst, texts := r2.fst.fst.snd.snd.fst, nulls := r2.fst.fst.snd.snd.snd.fst : Vec }, ()), ()) := by kernel_rfl
noncomputable def F143c3 (n : Nat) (x0 : List (Int)) (x1 : Int) (x2 : Int) := F143.at [.v (.sl (.int .i64))] [.v (.int .i64), .v (.bool)] n 3 ⟨[.one (.data (.sl (.int .i64)) x0 []), U, U, U, .one (.int .i64 x1), .one (.int .i64 x2), U, U, U, U, U, U, U, U, U, U, U, U, U, U, U, U, U, U, U, U, U, U, U, U, U, U, U, U, U, U, U, U, U], []⟩
noncomputable def F143c7 (n : Nat) (x0 : List (Int)) (x1 : Int) (x2 : Int) := F143.at [.v (.sl (.int .i64))] [.v (.int .i64), .v (.bool)] n 7 ⟨[.one (.data (.sl (.int .i64)) x0 []), U, U, U, .one (.int .i64 x1), .one (.int .i64 x2), U, U, U, U, U, U, U, U, U, U, U, U, U, U, U, U, U, U, U, U, U, U, U, U, U, U, U, U, U, U, U, U, U], []⟩
theorem F143_run (n : Nat) (a0 : List (Int)) : F143.run [.v (.sl (.int .i64))] [.v (.int .i64), .v (.bool)] n (a0, ()) =
 F143c3 n (a0) ((0 : Int)) ((0 : Int)) := by kernel_rfl
theorem F143c3_eq (n x0 x1 x2 : _) : F143c3 (n + 1) x0 x1 x2 =
 bif decide (x2 < (↑x0.length : Int)) then
  if (0 : Int) ≤ x2 then
   if x2 < (↑x0.length : Int) then
    bif !decide (x0.getD x2.toNat (0 : Int) = (0 : Int)) then
     bif !decide (x1 = (0 : Int)) then
      if (0 : Int) ≤ x2 then
       if x2 < (↑x0.length : Int) then
        bif !decide (x0.getD x2.toNat (0 : Int) = x1) then
         some (((0 : Int), (false, ())), ())
        else
         F143c7 n (x0) (x1) (x2)
       else
        none
      else
       none
     else
      F143c7 n (x0) (x1) (x2)
    else
     F143c7 n (x0) (x1) (x2)
   else
    none
  else
   none
 else
  some ((x1, (true, ())), ()) := by kernel_rfl
theorem F143c7_eq (n x0 x1 x2 : _) : F143c7 (n + 1) x0 x1 x2 =
 if (0 : Int) ≤ x2 then
  if x2 < (↑x0.length : Int) then
   bif !decide (x0.getD x2.toNat (0 : Int) = (0 : Int)) then
    if (0 : Int) ≤ x2 then
     if x2 < (↑x0.length : Int) then
      F143c3 n (x0) (x0.getD x2.toNat (0 : Int)) (IntKind.i64.wrap (x2 + (1 : Int)))
     else
      none
    else
     none
   else
    F143c3 n (x0) (x1) (IntKind.i64.wrap (x2 + (1 : Int)))
  else
   none
 else
  none := by kernel_rfl
noncomputable def F125c8 (n : Nat) (x0 : List (Int)) (x1 : Int) (x2 : List (Int)) := F125.at [.v (.str), .v (.sl (.int .i64))] [.v (.int .i64), .v (.bool)] n 8 ⟨[U, .one (.data (.sl (.int .i64)) x0 []), U, U, U, U, .one (.own 0), .one (.int .i64 x1), U, U, U, U, U, U, U, U, U, U, U, U, U, U, U, U, U, U, U, U, U, U, U, U, U, U, U, U, U, U, U, U, U, U, U, U, U, U, U, U, U, U, U, U, U, U, U, U, U, U, U], [(0, .row 3 (.int .i64) x2 [] false)]⟩
noncomputable def F125c9 (n : Nat) (x0 : List (Int)) (x1 : Int) (x2 : Int) (x3 : List (Int)) := F125.at [.v (.str), .v (.sl (.int .i64))] [.v (.int .i64), .v (.bool)] n 9 ⟨[U, .one (.data (.sl (.int .i64)) x0 []), U, U, U, U, .one (.own 0), .one (.int .i64 x1), U, .one (.int .i64 x2), U, U, U, U, U, U, U, U, U, U, U, U, U, U, U, U, U, U, U, U, U, U, U, U, U, U, U, U, U, U, U, U, U, U, U, U, U, U, U, U, U, U, U, U, U, U, U, U, U], [(0, .row 3 (.int .i64) x3 [] false)]⟩
theorem F125_run (n : Nat) (a0 : List Int) (a1 : List (Int)) : F125.run [.v (.str), .v (.sl (.int .i64))] [.v (.int .i64), .v (.bool)] n (a0, a1, ()) =
 bif decide ((256 : Int) < (↑a1.length : Int)) then
  some (((0 : Int), (false, ())), ())
 else
  (F112.run [PK.v Ty.str, PK.v (Ty.int .i64)] [RK.v Ty.bool] 4000000 (a0, (↑a1.length : Int), ())).bind fun r0 =>
   bif r0.fst.fst then
    (F143.run [PK.v (Ty.int .i64).sl] [RK.v (Ty.int .i64), RK.v Ty.bool] 4000000 (a1, ())).bind fun r1 =>
     some ((r1.fst.fst, (r1.fst.snd.fst, ())), ())
   else
    (F114.run [PK.v Ty.str] [RK.own 3 (Ty.int .i64), RK.v (Ty.int .i64), RK.v Ty.bool] 4000000 (a0, ())).bind fun r2 =>
     bif !r2.fst.snd.snd.fst then
      some (((0 : Int), (false, ())), ())
     else
      bif !decide ((↑(List.length r2.fst.fst) : Int) = (↑a1.length : Int)) then
       some (((0 : Int), (false, ())), ())
      else
       F125c8 n (a1) (r2.fst.snd.fst) (r2.fst.fst) := by kernel_rfl
theorem F125c8_eq (n x0 x1 x2 : _) : F125c8 (n + 1) x0 x1 x2 =
 F125c9 n (x0) (x1) ((0 : Int)) (x2) := by kernel_rfl
theorem F125c9_eq (n x0 x1 x2 x3 : _) : F125c9 (n + 1) x0 x1 x2 x3 =
 bif decide (x2 < (↑x3.length : Int)) then
  if (0 : Int) ≤ x2 then
   if x2 < (↑x0.length : Int) then
    if (0 : Int) ≤ x2 then
     if x2 < (↑x3.length : Int) then
      bif !decide (x0.getD x2.toNat (0 : Int) = x3.getD x2.toNat (0 : Int)) then
       if (0 : Int) ≤ x2 then
        if x2 < (↑x0.length : Int) then
         bif !decide (x0.getD x2.toNat (0 : Int) = (0 : Int)) then
          some (((0 : Int), (false, ())), ())
         else
          F125c9 n (x0) (x1) (IntKind.i64.wrap (x2 + (1 : Int))) (x3)
        else
         none
       else
        none
      else
       F125c9 n (x0) (x1) (IntKind.i64.wrap (x2 + (1 : Int))) (x3)
     else
      none
    else
     none
   else
    none
  else
   none
 else
  some ((x1, (true, ())), ()) := by kernel_rfl
theorem F121_run (n : Nat) (a0 : Int) (a1 : Int) : F121.run [.v (.int .i64), .v (.int .i64)] [.v (.bool)] n (a0, a1, ()) =
 bif decide (a0 = (0 : Int)) then
  some ((true, ()), ())
 else
  some ((decide (a0 = a1), ()), ()) := by kernel_rfl
noncomputable def F123c3 (n : Nat) (x0 : List (Int)) (x1 : Int) (x2 : Int) := F123.at [.v (.sl (.int .i64))] [.v (.int .i64), .v (.bool)] n 3 ⟨[.one (.data (.sl (.int .i64)) x0 []), U, U, U, .one (.int .i64 x1), .one (.int .i64 x2), U, U, U, U, U, U, U, U, U, U, U, U, U, U, U, U, U, U, U, U], []⟩
noncomputable def F123c7 (n : Nat) (x0 : List (Int)) (x1 : Int) (x2 : Int) := F123.at [.v (.sl (.int .i64))] [.v (.int .i64), .v (.bool)] n 7 ⟨[.one (.data (.sl (.int .i64)) x0 []), U, U, U, .one (.int .i64 x1), .one (.int .i64 x2), U, U, U, U, U, U, U, U, U, U, U, U, U, U, U, U, U, U, U, U], []⟩
theorem F123_run (n : Nat) (a0 : List (Int)) : F123.run [.v (.sl (.int .i64))] [.v (.int .i64), .v (.bool)] n (a0, ()) =
 F123c3 n (a0) ((0 : Int)) ((0 : Int)) := by kernel_rfl
theorem F123c3_eq (n x0 x1 x2 : _) : F123c3 (n + 1) x0 x1 x2 =
 bif decide (x2 < (↑x0.length : Int)) then
  bif decide (x1 = (0 : Int)) then
   if (0 : Int) ≤ x2 then
    if x2 < (↑x0.length : Int) then
     F123c7 n (x0) (x0.getD x2.toNat (0 : Int)) (x2)
    else
     none
   else
    none
  else
   F123c7 n (x0) (x1) (x2)
 else
  some ((x1, (true, ())), ()) := by kernel_rfl
theorem F123c7_eq (n x0 x1 x2 : _) : F123c7 (n + 1) x0 x1 x2 =
 if (0 : Int) ≤ x2 then
  if x2 < (↑x0.length : Int) then
   (F121.run [PK.v (Ty.int .i64), PK.v (Ty.int .i64)] [RK.v Ty.bool] 4000000 (x0.getD x2.toNat (0 : Int), x1, ())).bind fun r0 =>
    bif !r0.fst.fst then
     some (((0 : Int), (false, ())), ())
    else
     F123c3 n (x0) (x1) (IntKind.i64.wrap (x2 + (1 : Int)))
  else
   none
 else
  none := by kernel_rfl
noncomputable def F124c5 (n : Nat) (x0 : List (Int)) (x1 : Int) (x2 : List (Int)) := F124.at [.v (.sl (.int .i64))] [.v (.int .i64), .v (.bool)] n 5 ⟨[.one (.data (.sl (.int .i64)) x0 []), U, U, U, .one (.own 0), .one (.int .i64 x1), U, U, U, U, U, U, U, U, U, U, U, U, U, U, U, U, U, U, U, U, U, U, U, U, U, U, U, U, U, U, U, U, U, U, U, U], [(0, .row 3 (.int .i64) x2 [] false)]⟩
noncomputable def F124c10 (n : Nat) (x0 : List (Int)) (x1 : Int) (x2 : List (Int)) := F124.at [.v (.sl (.int .i64))] [.v (.int .i64), .v (.bool)] n 10 ⟨[.one (.data (.sl (.int .i64)) x0 []), U, U, U, .one (.own 0), .one (.int .i64 x1), U, U, U, U, U, U, U, U, U, U, U, U, U, U, U, U, U, U, U, U, U, U, U, U, U, U, U, U, U, U, U, U, U, U, U, U], [(0, .row 3 (.int .i64) x2 [] false)]⟩
theorem F124_run (n : Nat) (a0 : List (Int)) : F124.run [.v (.sl (.int .i64))] [.v (.int .i64), .v (.bool)] n (a0, ()) =
 bif decide ((↑a0.length : Int) < (2 : Int)) then
  some (((0 : Int), (false, ())), ())
 else
  F124c5 n (a0) ((0 : Int)) ([]) := by kernel_rfl
theorem F124c5_eq (n x0 x1 x2 : _) : F124c5 (n + 1) x0 x1 x2 =
 bif decide (x1 < (↑x0.length : Int)) then
  bif decide (x1.tmod (2 : Int) = (0 : Int)) then
   bif decide (IntKind.i64.wrap (x1 + (1 : Int)) < (↑x0.length : Int)) then
    if (0 : Int) ≤ x1 then
     if x1 < (↑x0.length : Int) then
      (F121.run [PK.v (Ty.int .i64), PK.v (Ty.int .i64)] [RK.v Ty.bool] 4000000 (x0.getD x1.toNat (0 : Int), (1 : Int), ())).bind fun r0 =>
       bif !r0.fst.fst then
        some (((0 : Int), (false, ())), ())
       else
        F124c5 n (x0) (IntKind.i64.wrap (x1 + (1 : Int))) (x2)
     else
      none
    else
     none
   else
    F124c10 n (x0) (x1) (x2)
  else
   F124c10 n (x0) (x1) (x2)
 else
  (F123.run [PK.v (Ty.int .i64).sl] [RK.v (Ty.int .i64), RK.v Ty.bool] 4000000 (x2, ())).bind fun r1 =>
   some ((r1.fst.fst, (r1.fst.snd.fst, ())), ()) := by kernel_rfl
theorem F124c10_eq (n x0 x1 x2 : _) : F124c10 (n + 1) x0 x1 x2 =
 if (0 : Int) ≤ x1 then
  if x1 < (↑x0.length : Int) then
   if x2.length + (1 : Nat) ≤ lim then
    F124c5 n (x0) (IntKind.i64.wrap (x1 + (1 : Int))) (x2 ++ [x0.getD x1.toNat (0 : Int)])
   else
    none
  else
   none
 else
  none := by kernel_rfl
noncomputable def F122c6 (n : Nat) (x0 : Int) (x1 : List (Int)) := F122.at [.v (.int .i64), .v (.sl (.int .i64))] [.v (.int .i64), .v (.bool)] n 6 ⟨[.one (.int .i64 x0), .one (.data (.sl (.int .i64)) x1 []), U, U, U, U, U, U, U, U, U, U, U, U, U, U, U, U, U, U, U, U, U, U, U, U, U, U, U, U, U, U, U, U, U, U, U, U, U, U, U, U, U, U, U, U, U, U, U, U, U, U, U, U, U, U, U, U], []⟩
noncomputable def F122c15 (n : Nat) (x0 : List (Int)) (x1 : Int) (x2 : Int) := F122.at [.v (.int .i64), .v (.sl (.int .i64))] [.v (.int .i64), .v (.bool)] n 15 ⟨[U, .one (.data (.sl (.int .i64)) x0 []), U, U, U, U, U, U, .one (.int .i64 x1), .one (.int .i64 x2), U, U, U, U, U, U, U, U, U, U, U, U, U, U, U, U, U, U, U, U, U, U, U, U, U, U, U, U, U, U, U, U, U, U, U, U, U, U, U, U, U, U, U, U, U, U, U, U], []⟩
theorem F122_run (n : Nat) (a0 : Int) (a1 : List (Int)) : F122.run [.v (.int .i64), .v (.sl (.int .i64))] [.v (.int .i64), .v (.bool)] n (a0, a1, ()) =
 bif !decide ((↑a1.length : Int) = (2 : Int)) then
  some (((0 : Int), (false, ())), ())
 else
  bif decide ((1 : Int) ≤ a0) then
   bif decide (a0 ≤ (6 : Int)) then
    (F123.run [PK.v (Ty.int .i64).sl] [RK.v (Ty.int .i64), RK.v Ty.bool] 4000000 (a1, ())).bind fun r0 =>
     some (((1 : Int), (r0.fst.snd.fst, ())), ())
   else
    F122c6 n (a0) (a1)
  else
   F122c6 n (a0) (a1) := by kernel_rfl
theorem F122c6_eq (n x0 x1 : _) : F122c6 (n + 1) x0 x1 =
 bif decide (x0 = (7 : Int)) then
  F122c15 n (x1) ((1 : Int)) ((1 : Int))
 else
  bif decide (x0 = (8 : Int)) then
   F122c15 n (x1) ((1 : Int)) ((1 : Int))
  else
   bif decide (x0 = (14 : Int)) then
    F122c15 n (x1) ((3 : Int)) ((3 : Int))
   else
    bif decide (x0 = (15 : Int)) then
     F122c15 n (x1) ((3 : Int)) ((1 : Int))
    else
     bif decide (x0 < (9 : Int)) then
      some (((0 : Int), (false, ())), ())
     else
      bif decide ((13 : Int) < x0) then
       some (((0 : Int), (false, ())), ())
      else
       F122c15 n (x1) ((2 : Int)) ((2 : Int)) := by kernel_rfl
theorem F122c15_eq (n x0 x1 x2 : _) : F122c15 (n + 1) x0 x1 x2 =
 if (0 : Int) < (↑x0.length : Int) then
  (F121.run [PK.v (Ty.int .i64), PK.v (Ty.int .i64)] [RK.v Ty.bool] 4000000 (x0.getD (Int.toNat (0 : Int)) (0 : Int), x1, ())).bind fun r1 =>
   bif r1.fst.fst then
    if (1 : Int) < (↑x0.length : Int) then
     (F121.run [PK.v (Ty.int .i64), PK.v (Ty.int .i64)] [RK.v Ty.bool] 4000000 (x0.getD (Int.toNat (1 : Int)) (0 : Int), x1, ())).bind fun r2 =>
      some ((x2, (r2.fst.fst, ())), ())
    else
     none
   else
    some ((x2, (false, ())), ())
 else
  none := by kernel_rfl
theorem F120_run (n : Nat) (a0 : Val) : F120.run [.v (.nm 0)] [.v (.bool)] n (a0, ()) =
 bif decide (a0.kind = (0 : Int)) then
  bif decide (a0.int = (0 : Int)) then
   some ((decide (a0.text = []), ()), ())
  else
   some ((false, ()), ())
 else
  bif decide (a0.kind = (1 : Int)) then
   bif decide (a0.int = (0 : Int)) then
    some ((decide (a0.text = []), ()), ())
   else
    bif decide (a0.int = (1 : Int)) then
     some ((decide (a0.text = []), ()), ())
    else
     some ((false, ()), ())
  else
   bif decide (a0.kind = (2 : Int)) then
    some ((decide (a0.text = []), ()), ())
   else
    bif decide (a0.kind = (3 : Int)) then
     bif decide (a0.int = (0 : Int)) then
      some ((decide ((↑a0.text.length : Int) ≤ (4096 : Int)), ()), ())
     else
      some ((false, ()), ())
    else
     some ((false, ()), ()) := by kernel_rfl
noncomputable def F119c3 (n : Nat) (x0 : Ex) := F119.at [.v (.nm 1)] [.v (.bool)] n 3 ⟨[U, .one (.bptr 0 0), U, U, U, U, U, U, U, U, U, U, U, U, U, U, U, U, U, U, U, U, U, U, U, U, U, U, U, U, U, U, U, U, U, U, U, U, U, U, U, U, U, U, U, U, U, U, U, U, U, U, U, U, U, U, U, U, U, U, U, U, U, U, U, U, U, U, U, U, U, U, U], [(0, .whole (.nm 1) x0 [])]⟩
theorem F119_run (n : Nat) (a0 : Ex) : F119.run [.v (.nm 1)] [.v (.bool)] n (a0, ()) =
 bif !decide (a0.kind = (1 : Int)) then
  bif !(decide (a0.value.kind = (0 : Int)) && (decide (a0.value.int = (0 : Int)) && (decide (a0.value.text = []) && true))) then
   some ((false, ()), ())
  else
   bif !decide (a0.kind = (2 : Int)) then
    bif !decide (a0.slot = (0 : Int)) then
     some ((false, ()), ())
    else
     bif !decide (a0.table = []) then
      some ((false, ()), ())
     else
      bif !decide (a0.kind = (5 : Int)) then
       bif !decide (a0.op = (0 : Int)) then
        some ((false, ()), ())
       else
        F119c3 n (a0)
      else
       F119c3 n (a0)
   else
    bif !decide (a0.kind = (5 : Int)) then
     bif !decide (a0.op = (0 : Int)) then
      some ((false, ()), ())
     else
      F119c3 n (a0)
    else
     F119c3 n (a0)
 else
  bif !decide (a0.kind = (2 : Int)) then
   bif !decide (a0.slot = (0 : Int)) then
    some ((false, ()), ())
   else
    bif !decide (a0.table = []) then
     some ((false, ()), ())
    else
     bif !decide (a0.kind = (5 : Int)) then
      bif !decide (a0.op = (0 : Int)) then
       some ((false, ()), ())
      else
       F119c3 n (a0)
     else
      F119c3 n (a0)
  else
   bif !decide (a0.kind = (5 : Int)) then
    bif !decide (a0.op = (0 : Int)) then
     some ((false, ()), ())
    else
     F119c3 n (a0)
   else
    F119c3 n (a0) := by kernel_rfl
theorem F119c3_eq (n x0 : _) : F119c3 (n + 1) x0 =
 bif decide (x0.name = []) then
  bif !x0.distinct then
   bif decide ((↑x0.partitionBy.length : Int) = (0 : Int)) then
    bif decide ((↑x0.orderBy.length : Int) = (0 : Int)) then
     some ((decide ((↑x0.args.length : Int) ≤ (256 : Int)), ()), ())
    else
     some ((false, ()), ())
   else
    some ((false, ()), ())
  else
   some ((false, ()), ())
 else
  bif decide (x0.kind = (2 : Int)) then
   bif !x0.distinct then
    bif decide ((↑x0.partitionBy.length : Int) = (0 : Int)) then
     bif decide ((↑x0.orderBy.length : Int) = (0 : Int)) then
      some ((decide ((↑x0.args.length : Int) ≤ (256 : Int)), ()), ())
     else
      some ((false, ()), ())
    else
     some ((false, ()), ())
   else
    some ((false, ()), ())
  else
   bif decide (x0.kind = (9 : Int)) then
    bif !x0.distinct then
     bif decide ((↑x0.partitionBy.length : Int) = (0 : Int)) then
      bif decide ((↑x0.orderBy.length : Int) = (0 : Int)) then
       some ((decide ((↑x0.args.length : Int) ≤ (256 : Int)), ()), ())
      else
       some ((false, ()), ())
     else
      some ((false, ()), ())
    else
     some ((false, ()), ())
   else
    some ((false, ()), ()) := by kernel_rfl
end Go.Proofs.Tryz
