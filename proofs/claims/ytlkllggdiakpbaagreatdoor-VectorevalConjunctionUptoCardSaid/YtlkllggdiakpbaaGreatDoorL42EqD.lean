/- The functions of the program as the engine follows them (printed by a program of ours): their code, what is known of them, and the equations of their runs. -/
import Derived.Test.YtlkllggdiakpbaaGreatDoorL42Fns
set_option linter.unusedVariables false
set_option maxRecDepth 20000
namespace Go.Proofs.Tryz
open Go.Eng
noncomputable def F53c3 (n : Nat) (x0 : Int) (x1 : Int) (x2 : Vec) (x3 : Int) (x4 : Int) (x5 : List (Int)) (x6 : List (List Int)) (x7 : List (Bool)) (x8 : List (Int)) (x9 : List (List Int)) (x10 : List (Bool)) := F53.at [.v (.nm 3)] [.v (.nm 3)] n 3 ⟨[U, .one (.bptr 0 0), .one (.bptr 1 0), .one (.bptr 2 0), U, U, U, U, U, U, U, U, .one (.int .i64 x0), .one (.int .i64 x1), U, U, U, U, U, U, U, U, U, U, U, U, U, U, U, U, U, U, U], [(0, .whole (.nm 3) x2 []), (1, .cells [.int .i64 x3, .own 3, .own 4, .own 5]), (2, .cells [.int .i64 x4, .own 6, .own 7, .own 8]), (3, .row 2 (.int .i64) x5 [] false), (4, .row 9 .str x6 [] false), (5, .row 4 .bool x7 [] false), (6, .row 2 (.int .i64) x8 [] false), (7, .row 9 .str x9 [] false), (8, .row 4 .bool x10 [] false)]⟩
theorem F53_run (n : Nat) (a0 : Vec) : F53.run [.v (.nm 3)] [.v (.nm 3)] n (a0, ()) =
 (F62.run [PK.v (Ty.int .i64), PK.v (Ty.int .i64)] [RK.ag 3 AGV] 4000000 ((1 : Int), (↑a0.nulls.length : Int), ())).bind fun r0 =>
  F53c3 n ((↑(List.length r0.fst.fst.snd.snd.snd.fst) : Int)) ((0 : Int)) (a0) ((0 : Int)) (r0.fst.fst.fst) ([]) ([]) ([]) (r0.fst.fst.snd.fst) (r0.fst.fst.snd.snd.fst) (r0.fst.fst.snd.snd.snd.fst) := by kernel_rfl
theorem F53c3_eq (n x0 x1 x2 x3 x4 x5 x6 x7 x8 x9 x10 : _) : F53c3 (n + 1) x0 x1 x2 x3 x4 x5 x6 x7 x8 x9 x10 =
 bif decide (x1 < x0) then
  (F38.run [PK.v (Ty.nm 3), PK.v (Ty.int .i64)] [RK.v (Ty.int .i64)] 4000000 (x2, x1, ())).bind fun r1 =>
   bif decide ((0 : Int) ≤ r1.fst.fst) then
    if (0 : Int) ≤ x1 then
     if x1 < (↑x10.length : Int) then
      if (0 : Int) ≤ x1 then
       if x1 < (↑x8.length : Int) then
        F53c3 n (x0) (IntKind.i64.wrap (x1 + (1 : Int))) (x2) (x3) (x4) (x5) (x6) (x7) (x8.set x1.toNat (IntKind.i64.wrap ((1 : Int) - r1.fst.fst))) (x9) (x10.set x1.toNat false)
       else
        none
      else
       none
     else
      none
    else
     none
   else
    F53c3 n (x0) (IntKind.i64.wrap (x1 + (1 : Int))) (x2) (x3) (x4) (x5) (x6) (x7) (x8) (x9) (x10)
 else
  some (({ f_Type := x4, ints := x8, texts := x9, nulls := x10 : Vec }, ()), ()) := by kernel_rfl
noncomputable def F89c1 (n : Nat) (x0 : List (List Int)) (x1 : List (Int)) := F89.at [.v (.sl (.str)), .v (.sl (.int .i64))] [.own 9 (.str)] n 1 ⟨[.one (.data (.sl .str) x0 []), .one (.data (.sl (.int .i64)) x1 []), U, U, U, U, U, U, U, U, U, U, U, U, U, U, U, U, U, U, U, U, U, U, U, U, U, U, U, U, U, U, U, U, U], []⟩
noncomputable def F89c3 (n : Nat) (x0 : List (List Int)) (x1 : List (Int)) (x2 : Int) (x3 : Int) (x4 : List (List Int)) := F89.at [.v (.sl (.str)), .v (.sl (.int .i64))] [.own 9 (.str)] n 3 ⟨[.one (.data (.sl .str) x0 []), U, U, U, U, .one (.own 0), U, U, U, U, U, .one (.data (.sl (.int .i64)) x1 []), .one (.int .i64 x2), .one (.int .i64 x3), U, U, U, U, U, U, U, U, U, U, U, U, U, U, U, U, U, U, U, U, U], [(0, .row 9 .str x4 [] false)]⟩
noncomputable def F89c7 (n : Nat) (x0 : List (List Int)) (x1 : List (Int)) (x2 : Int) (x3 : Int) (x4 : List (List Int)) := F89.at [.v (.sl (.str)), .v (.sl (.int .i64))] [.own 9 (.str)] n 7 ⟨[.one (.data (.sl .str) x0 []), U, U, U, U, .one (.own 0), U, U, U, U, U, .one (.data (.sl (.int .i64)) x1 []), .one (.int .i64 x2), .one (.int .i64 x3), U, U, U, U, U, U, U, U, U, U, U, U, U, U, U, U, U, U, U, U, U], [(0, .row 9 .str x4 [] false)]⟩
theorem F89_run (n : Nat) (a0 : List (List Int)) (a1 : List (Int)) : F89.run [.v (.sl (.str)), .v (.sl (.int .i64))] [.own 9 (.str)] n (a0, a1, ()) =
 F89c1 n (a0) (a1) := by kernel_rfl
theorem F89c1_eq (n x0 x1 : _) : F89c1 (n + 1) x0 x1 =
 if (↑x1.length : Int) ≤ (↑lim : Int) then
  F89c3 n (x0) (x1) ((↑x1.length : Int)) ((0 : Int)) (List.replicate (↑x1.length : Int).toNat [])
 else
  none := by kernel_rfl
theorem F89c3_eq (n x0 x1 x2 x3 x4 : _) : F89c3 (n + 1) x0 x1 x2 x3 x4 =
 bif decide (x3 < x2) then
  if (0 : Int) ≤ x3 then
   if x3 < (↑x1.length : Int) then
    bif decide ((0 : Int) ≤ x1.getD x3.toNat (0 : Int)) then
     bif decide (x1.getD x3.toNat (0 : Int) < (↑x0.length : Int)) then
      if (0 : Int) ≤ x1.getD x3.toNat (0 : Int) then
       if x1.getD x3.toNat (0 : Int) < (↑x0.length : Int) then
        if (0 : Int) ≤ x3 then
         if x3 < (↑x4.length : Int) then
          F89c7 n (x0) (x1) (x2) (x3) (x4.set x3.toNat (x0.getD (x1.getD x3.toNat (0 : Int)).toNat []))
         else
          none
        else
         none
       else
        none
      else
       none
     else
      F89c7 n (x0) (x1) (x2) (x3) (x4)
    else
     F89c7 n (x0) (x1) (x2) (x3) (x4)
   else
    none
  else
   none
 else
  some ((x4, ()), ()) := by kernel_rfl
theorem F89c7_eq (n x0 x1 x2 x3 x4 : _) : F89c7 (n + 1) x0 x1 x2 x3 x4 =
 F89c3 n (x0) (x1) (x2) (IntKind.i64.wrap (x3 + (1 : Int))) (x4) := by kernel_rfl
noncomputable def F88c1 (n : Nat) (x0 : List (Int)) (x1 : List (Int)) := F88.at [.v (.sl (.int .i64)), .v (.sl (.int .i64))] [.own 2 (.int .i64)] n 1 ⟨[.one (.data (.sl (.int .i64)) x0 []), .one (.data (.sl (.int .i64)) x1 []), U, U, U, U, U, U, U, U, U, U, U, U, U, U, U, U, U, U, U, U, U, U, U, U, U, U, U, U, U, U, U, U, U], []⟩
noncomputable def F88c3 (n : Nat) (x0 : List (Int)) (x1 : List (Int)) (x2 : Int) (x3 : Int) (x4 : List (Int)) := F88.at [.v (.sl (.int .i64)), .v (.sl (.int .i64))] [.own 2 (.int .i64)] n 3 ⟨[.one (.data (.sl (.int .i64)) x0 []), U, U, U, U, .one (.own 0), U, U, U, U, U, .one (.data (.sl (.int .i64)) x1 []), .one (.int .i64 x2), .one (.int .i64 x3), U, U, U, U, U, U, U, U, U, U, U, U, U, U, U, U, U, U, U, U, U], [(0, .row 2 (.int .i64) x4 [] false)]⟩
noncomputable def F88c7 (n : Nat) (x0 : List (Int)) (x1 : List (Int)) (x2 : Int) (x3 : Int) (x4 : List (Int)) := F88.at [.v (.sl (.int .i64)), .v (.sl (.int .i64))] [.own 2 (.int .i64)] n 7 ⟨[.one (.data (.sl (.int .i64)) x0 []), U, U, U, U, .one (.own 0), U, U, U, U, U, .one (.data (.sl (.int .i64)) x1 []), .one (.int .i64 x2), .one (.int .i64 x3), U, U, U, U, U, U, U, U, U, U, U, U, U, U, U, U, U, U, U, U, U], [(0, .row 2 (.int .i64) x4 [] false)]⟩
theorem F88_run (n : Nat) (a0 : List (Int)) (a1 : List (Int)) : F88.run [.v (.sl (.int .i64)), .v (.sl (.int .i64))] [.own 2 (.int .i64)] n (a0, a1, ()) =
 F88c1 n (a0) (a1) := by kernel_rfl
theorem F88c1_eq (n x0 x1 : _) : F88c1 (n + 1) x0 x1 =
 if (↑x1.length : Int) ≤ (↑lim : Int) then
  F88c3 n (x0) (x1) ((↑x1.length : Int)) ((0 : Int)) (List.replicate (↑x1.length : Int).toNat (0 : Int))
 else
  none := by kernel_rfl
theorem F88c3_eq (n x0 x1 x2 x3 x4 : _) : F88c3 (n + 1) x0 x1 x2 x3 x4 =
 bif decide (x3 < x2) then
  if (0 : Int) ≤ x3 then
   if x3 < (↑x1.length : Int) then
    bif decide ((0 : Int) ≤ x1.getD x3.toNat (0 : Int)) then
     bif decide (x1.getD x3.toNat (0 : Int) < (↑x0.length : Int)) then
      if (0 : Int) ≤ x1.getD x3.toNat (0 : Int) then
       if x1.getD x3.toNat (0 : Int) < (↑x0.length : Int) then
        if (0 : Int) ≤ x3 then
         if x3 < (↑x4.length : Int) then
          F88c7 n (x0) (x1) (x2) (x3) (x4.set x3.toNat (x0.getD (x1.getD x3.toNat (0 : Int)).toNat (0 : Int)))
         else
          none
        else
         none
       else
        none
      else
       none
     else
      F88c7 n (x0) (x1) (x2) (x3) (x4)
    else
     F88c7 n (x0) (x1) (x2) (x3) (x4)
   else
    none
  else
   none
 else
  some ((x4, ()), ()) := by kernel_rfl
theorem F88c7_eq (n x0 x1 x2 x3 x4 : _) : F88c7 (n + 1) x0 x1 x2 x3 x4 =
 F88c3 n (x0) (x1) (x2) (IntKind.i64.wrap (x3 + (1 : Int))) (x4) := by kernel_rfl
noncomputable def F52c3 (n : Nat) (x0 : List (Int)) (x1 : List (Int)) (x2 : Int) (x3 : Int) (x4 : Vec) (x5 : Int) (x6 : Int) (x7 : List (Int)) (x8 : List (List Int)) (x9 : List (Bool)) (x10 : List (Int)) (x11 : List (List Int)) (x12 : List (Bool)) := F52.at [.v (.nm 3), .v (.sl (.int .i64))] [.v (.nm 3)] n 3 ⟨[U, .one (.data (.sl (.int .i64)) x0 []), .one (.bptr 0 0), U, .one (.bptr 1 0), .one (.bptr 2 0), U, U, U, U, U, U, U, U, .one (.data (.sl (.int .i64)) x1 []), .one (.int .i64 x2), .one (.int .i64 x3), U, U, U, U, U, U, U, U, U, U, U, U, U, U, U, U, U, U, U, U, U, U, U, U, U, U, U, U, U, U, U, U, U, U, U, U, U, U, U, U, U, U, U], [(0, .whole (.nm 3) x4 []), (1, .cells [.int .i64 x5, .own 3, .own 4, .own 5]), (2, .cells [.int .i64 x6, .own 6, .own 7, .own 8]), (3, .row 2 (.int .i64) x7 [] false), (4, .row 9 .str x8 [] false), (5, .row 4 .bool x9 [] false), (6, .row 2 (.int .i64) x10 [] false), (7, .row 9 .str x11 [] false), (8, .row 4 .bool x12 [] false)]⟩
noncomputable def F52c13 (n : Nat) (x0 : Int) (x1 : Int) (x2 : List (Int)) (x3 : List (List Int)) (x4 : List (Bool)) (x5 : List (Int)) (x6 : List (List Int)) (x7 : List (Bool)) := F52.at [.v (.nm 3), .v (.sl (.int .i64))] [.v (.nm 3)] n 13 ⟨[U, U, U, U, .one (.bptr 0 0), .one (.bptr 1 0), U, U, U, U, U, U, U, U, U, U, U, U, U, U, U, U, U, U, U, U, U, U, U, U, U, U, U, U, U, U, U, U, U, U, U, U, U, U, U, U, U, U, U, U, U, U, U, U, U, U, U, U, U, U], [(0, .cells [.int .i64 x0, .own 2, .own 3, .own 4]), (1, .cells [.int .i64 x1, .own 5, .own 6, .own 7]), (2, .row 2 (.int .i64) x2 [] false), (3, .row 9 .str x3 [] false), (4, .row 4 .bool x4 [] false), (5, .row 2 (.int .i64) x5 [] false), (6, .row 9 .str x6 [] false), (7, .row 4 .bool x7 [] false)]⟩
theorem F52_run (n : Nat) (a0 : Vec) (a1 : List (Int)) : F52.run [.v (.nm 3), .v (.sl (.int .i64))] [.v (.nm 3)] n (a0, a1, ()) =
 if (↑a1.length : Int) ≤ (↑lim : Int) then
  F52c3 n (a1) (a1) ((↑a1.length : Int)) ((0 : Int)) (a0) ((0 : Int)) (a0.f_Type) ([]) ([]) ([]) ([]) ([]) (List.replicate (↑a1.length : Int).toNat false)
 else
  none := by kernel_rfl
theorem F52c3_eq (n x0 x1 x2 x3 x4 x5 x6 x7 x8 x9 x10 x11 x12 : _) : F52c3 (n + 1) x0 x1 x2 x3 x4 x5 x6 x7 x8 x9 x10 x11 x12 =
 bif decide (x3 < x2) then
  if (0 : Int) ≤ x3 then
   if x3 < (↑x1.length : Int) then
    bif decide (x1.getD x3.toNat (0 : Int) < (0 : Int)) then
     if (0 : Int) ≤ x3 then
      if x3 < (↑x12.length : Int) then
       F52c3 n (x0) (x1) (x2) (IntKind.i64.wrap (x3 + (1 : Int))) (x4) (x5) (x6) (x7) (x8) (x9) (x10) (x11) (x12.set x3.toNat true)
      else
       none
     else
      none
    else
     bif decide ((↑x4.nulls.length : Int) ≤ x1.getD x3.toNat (0 : Int)) then
      if (0 : Int) ≤ x3 then
       if x3 < (↑x12.length : Int) then
        F52c3 n (x0) (x1) (x2) (IntKind.i64.wrap (x3 + (1 : Int))) (x4) (x5) (x6) (x7) (x8) (x9) (x10) (x11) (x12.set x3.toNat true)
       else
        none
      else
       none
     else
      if (0 : Int) ≤ x1.getD x3.toNat (0 : Int) then
       if x1.getD x3.toNat (0 : Int) < (↑x4.nulls.length : Int) then
        if (0 : Int) ≤ x3 then
         if x3 < (↑x12.length : Int) then
          F52c3 n (x0) (x1) (x2) (IntKind.i64.wrap (x3 + (1 : Int))) (x4) (x5) (x6) (x7) (x8) (x9) (x10) (x11) (x12.set x3.toNat (x4.nulls.getD (x1.getD x3.toNat (0 : Int)).toNat false))
         else
          none
        else
         none
       else
        none
      else
       none
   else
    none
  else
   none
 else
  bif decide (x4.f_Type = (1 : Int)) then
   bif decide (x4.f_Type = (1 : Int)) then
    (F88.run [PK.v (Ty.int .i64).sl, PK.v (Ty.int .i64).sl] [RK.own 2 (Ty.int .i64)] 4000000 (x4.ints, x0, ())).bind fun r0 =>
     F52c13 n (x5) (x6) (x7) (x8) (x9) (r0.fst.fst) (x11) (x12)
   else
    bif decide (x4.f_Type = (3 : Int)) then
     (F89.run [PK.v Ty.str.sl, PK.v (Ty.int .i64).sl] [RK.own 9 Ty.str] 4000000 (x4.texts, x0, ())).bind fun r1 =>
      F52c13 n (x5) (x6) (x7) (x8) (x9) (x10) (r1.fst.fst) (x12)
    else
     F52c13 n (x5) (x6) (x7) (x8) (x9) (x10) (x11) (x12)
  else
   bif decide (x4.f_Type = (2 : Int)) then
    (F88.run [PK.v (Ty.int .i64).sl, PK.v (Ty.int .i64).sl] [RK.own 2 (Ty.int .i64)] 4000000 (x4.ints, x0, ())).bind fun r2 =>
     F52c13 n (x5) (x6) (x7) (x8) (x9) (r2.fst.fst) (x11) (x12)
   else
    bif decide (x4.f_Type = (3 : Int)) then
     (F89.run [PK.v Ty.str.sl, PK.v (Ty.int .i64).sl] [RK.own 9 Ty.str] 4000000 (x4.texts, x0, ())).bind fun r3 =>
      F52c13 n (x5) (x6) (x7) (x8) (x9) (x10) (r3.fst.fst) (x12)
    else
     F52c13 n (x5) (x6) (x7) (x8) (x9) (x10) (x11) (x12) := by kernel_rfl
theorem F52c13_eq (n x0 x1 x2 x3 x4 x5 x6 x7 : _) : F52c13 (n + 1) x0 x1 x2 x3 x4 x5 x6 x7 =
 some (({ f_Type := x1, ints := x5, texts := x6, nulls := x7 : Vec }, ()), ()) := by kernel_rfl
noncomputable def F57c17 (g33 : G33) (n : Nat) (x0 : Int) (x1 : Int) (x2 : Int) (x3 : Int) (x4 : List (Int)) (x5 : List (List Int)) (x6 : List (Bool)) (x7 : Int) (x8 : List (Int)) (x9 : List (List Int)) (x10 : List (Bool)) (x11 : Int) (x12 : List (Int)) (x13 : List (List Int)) (x14 : List (Bool)) (x15 : List (Int)) (x16 : List (List Int)) (x17 : List (Bool)) := (F57 g33).at [.v (.nm 4), .v (.nm 1)] [.v (.nm 3)] n 17 ⟨[U, U, U, U, .one (.bptr 0 0), .one (.bptr 1 0), .one (.bptr 2 0), U, U, .one (.bptr 3 0), U, U, U, U, U, U, U, U, U, U, U, U, U, U, U, U, U, U, U, U, U, U, U, U, U, U, U, U, U, U, U, U, U, U, U, U, U, U, U, U, U, U, U, U, U, U, U, U, U, U, U, U, U, U, U, U, U, U, U, .one (.int .i64 x0), .one (.int .i64 x1), U, U, U, U, U, U, U, U, U, U, U, U, U, U, U, U, U, U, U, U, U, U, U, U, U, U, U, U, U, U, U], [(0, .cells [.int .i64 x2, .own 4, .own 5, .own 6]), (1, .cells [.int .i64 x3, .data (.sl (.int .i64)) x4 [], .data (.sl .str) x5 [], .data (.sl .bool) x6 []]), (2, .cells [.int .i64 x7, .data (.sl (.int .i64)) x8 [], .data (.sl .str) x9 [], .data (.sl .bool) x10 []]), (3, .cells [.int .i64 x11, .own 7, .own 8, .own 9]), (4, .row 2 (.int .i64) x12 [] false), (5, .row 9 .str x13 [] false), (6, .row 4 .bool x14 [] false), (7, .row 2 (.int .i64) x15 [] false), (8, .row 9 .str x16 [] false), (9, .row 4 .bool x17 [] false)]⟩
noncomputable def F57c24 (g33 : G33) (n : Nat) (x0 : Int) (x1 : Int) (x2 : Int) (x3 : Int) (x4 : List (Int)) (x5 : List (List Int)) (x6 : List (Bool)) (x7 : Int) (x8 : List (Int)) (x9 : List (List Int)) (x10 : List (Bool)) (x11 : Int) (x12 : List (Int)) (x13 : List (List Int)) (x14 : List (Bool)) (x15 : List (Int)) (x16 : List (List Int)) (x17 : List (Bool)) := (F57 g33).at [.v (.nm 4), .v (.nm 1)] [.v (.nm 3)] n 24 ⟨[U, U, U, U, .one (.bptr 0 0), .one (.bptr 1 0), .one (.bptr 2 0), U, U, .one (.bptr 3 0), U, U, U, U, U, U, U, U, U, U, U, U, U, U, U, U, U, U, U, U, U, U, U, U, U, U, U, U, U, U, U, U, U, U, U, U, U, U, U, U, U, U, U, U, U, U, U, U, U, U, U, U, U, U, U, U, U, U, U, .one (.int .i64 x0), .one (.int .i64 x1), U, U, U, U, U, U, U, U, U, U, U, U, U, U, U, U, U, U, U, U, U, U, U, U, U, U, U, U, U, U, U], [(0, .cells [.int .i64 x2, .own 4, .own 5, .own 6]), (1, .cells [.int .i64 x3, .data (.sl (.int .i64)) x4 [], .data (.sl .str) x5 [], .data (.sl .bool) x6 []]), (2, .cells [.int .i64 x7, .data (.sl (.int .i64)) x8 [], .data (.sl .str) x9 [], .data (.sl .bool) x10 []]), (3, .cells [.int .i64 x11, .own 7, .own 8, .own 9]), (4, .row 2 (.int .i64) x12 [] false), (5, .row 9 .str x13 [] false), (6, .row 4 .bool x14 [] false), (7, .row 2 (.int .i64) x15 [] false), (8, .row 9 .str x16 [] false), (9, .row 4 .bool x17 [] false)]⟩
noncomputable def F57c21 (g33 : G33) (n : Nat) (x0 : Int) (x1 : Int) (x2 : Int) (x3 : Int) (x4 : Int) (x5 : List (Int)) (x6 : List (List Int)) (x7 : List (Bool)) (x8 : Int) (x9 : List (Int)) (x10 : List (List Int)) (x11 : List (Bool)) (x12 : Int) (x13 : Val) (x14 : Val) (x15 : List (Int)) (x16 : List (List Int)) (x17 : List (Bool)) (x18 : List (Int)) (x19 : List (List Int)) (x20 : List (Bool)) := (F57 g33).at [.v (.nm 4), .v (.nm 1)] [.v (.nm 3)] n 21 ⟨[U, U, U, U, .one (.bptr 0 0), .one (.bptr 1 0), .one (.bptr 2 0), U, U, .one (.bptr 3 0), .one (.int .i64 x0), .one (.bptr 4 0), .one (.bptr 5 0), U, U, U, U, U, U, U, U, U, U, U, U, U, U, U, U, U, U, U, U, U, U, U, U, U, U, U, U, U, U, U, U, U, U, U, U, U, U, U, U, U, U, U, U, U, U, U, U, U, U, U, U, U, U, U, U, .one (.int .i64 x1), .one (.int .i64 x2), U, U, U, U, U, U, U, U, U, U, U, U, U, U, U, U, U, U, U, U, U, U, U, U, U, U, U, U, U, U, U], [(0, .cells [.int .i64 x3, .own 6, .own 7, .own 8]), (1, .cells [.int .i64 x4, .data (.sl (.int .i64)) x5 [], .data (.sl .str) x6 [], .data (.sl .bool) x7 []]), (2, .cells [.int .i64 x8, .data (.sl (.int .i64)) x9 [], .data (.sl .str) x10 [], .data (.sl .bool) x11 []]), (3, .cells [.int .i64 x12, .own 9, .own 10, .own 11]), (4, .whole (.nm 0) x13 []), (5, .whole (.nm 0) x14 []), (6, .row 2 (.int .i64) x15 [] false), (7, .row 9 .str x16 [] false), (8, .row 4 .bool x17 [] false), (9, .row 2 (.int .i64) x18 [] false), (10, .row 9 .str x19 [] false), (11, .row 4 .bool x20 [] false)]⟩
theorem F57_run (g33 : G33) (n : Nat) (a0 : Scope) (a1 : Ex) : (F57 g33).run [.v (.nm 4), .v (.nm 1)] [.v (.nm 3)] n (a0, a1, ()) =
 if (0 : Int) < (↑a1.args.length : Int) then
  (g33 (a0, a1.args.getD (Int.toNat (0 : Int)) zEx, ())).bind fun r0 =>
   if (1 : Int) < (↑a1.args.length : Int) then
    (g33 (a0, a1.args.getD (Int.toNat (1 : Int)) zEx, ())).bind fun r1 =>
     bif decide (a1.op ≤ (6 : Int)) then
      (F92.run [PK.v (Ty.int .i64), PK.v (Ty.nm 3), PK.v (Ty.nm 3)] [RK.v (Ty.nm 3)] 4000000 (a1.op, Vec.mk r0.fst.fst.f_Type r0.fst.fst.ints r0.fst.fst.texts r0.fst.fst.nulls, Vec.mk r1.fst.fst.f_Type r1.fst.fst.ints r1.fst.fst.texts r1.fst.fst.nulls, ())).bind fun r2 =>
       some ((Vec.mk r2.fst.fst.f_Type r2.fst.fst.ints r2.fst.fst.texts r2.fst.fst.nulls, ()), ())
     else
      bif decide (a1.op = (7 : Int)) then
       (F93.run [PK.v (Ty.nm 3), PK.v (Ty.nm 3), PK.v (Ty.int .i64)] [RK.ag 3 AGV] 4000000 (Vec.mk r0.fst.fst.f_Type r0.fst.fst.ints r0.fst.fst.texts r0.fst.fst.nulls, Vec.mk r1.fst.fst.f_Type r1.fst.fst.ints r1.fst.fst.texts r1.fst.fst.nulls, (0 : Int), ())).bind fun r3 =>
        some (({ f_Type := r3.fst.fst.fst, ints := r3.fst.fst.snd.fst, texts := r3.fst.fst.snd.snd.fst, nulls := r3.fst.fst.snd.snd.snd.fst : Vec }, ()), ())
      else
       bif decide (a1.op = (8 : Int)) then
        (F93.run [PK.v (Ty.nm 3), PK.v (Ty.nm 3), PK.v (Ty.int .i64)] [RK.ag 3 AGV] 4000000 (Vec.mk r0.fst.fst.f_Type r0.fst.fst.ints r0.fst.fst.texts r0.fst.fst.nulls, Vec.mk r1.fst.fst.f_Type r1.fst.fst.ints r1.fst.fst.texts r1.fst.fst.nulls, (1 : Int), ())).bind fun r4 =>
         some (({ f_Type := r4.fst.fst.fst, ints := r4.fst.fst.snd.fst, texts := r4.fst.fst.snd.snd.fst, nulls := r4.fst.fst.snd.snd.snd.fst : Vec }, ()), ())
       else
        bif decide (a1.op ≤ (13 : Int)) then
         (F95000054.run [PK.v (Ty.int .i64), PK.v (Ty.int .i64), PK.fn 94 [(3 : Nat), (4 : Nat), (5 : Nat)], PK.bw (Ty.int .i64), PK.bc AGW, PK.bc AGW] [RK.v (Ty.nm 3)] 4000000 (a1.f_Type, (↑a0.sel.length : Int), (), a1.op, (r0.fst.fst.f_Type, r0.fst.fst.ints, r0.fst.fst.texts, r0.fst.fst.nulls, ()), (r1.fst.fst.f_Type, r1.fst.fst.ints, r1.fst.fst.texts, r1.fst.fst.nulls, ()), ())).bind fun r5 =>
          some ((Vec.mk r5.fst.fst.f_Type r5.fst.fst.ints r5.fst.fst.texts r5.fst.fst.nulls, ()), ())
        else
         bif decide (a1.op = (14 : Int)) then
          (F97000054.run [PK.v (Ty.int .i64), PK.v (Ty.int .i64), PK.fn 96 [(3 : Nat), (4 : Nat)], PK.bc AGW, PK.bc AGW] [RK.v (Ty.nm 3)] 4000000 (a1.f_Type, (↑a0.sel.length : Int), (), (r0.fst.fst.f_Type, r0.fst.fst.ints, r0.fst.fst.texts, r0.fst.fst.nulls, ()), (r1.fst.fst.f_Type, r1.fst.fst.ints, r1.fst.fst.texts, r1.fst.fst.nulls, ()), ())).bind fun r6 =>
           some ((Vec.mk r6.fst.fst.f_Type r6.fst.fst.ints r6.fst.fst.texts r6.fst.fst.nulls, ()), ())
         else
          (F62.run [PK.v (Ty.int .i64), PK.v (Ty.int .i64)] [RK.ag 3 AGV] 4000000 ((1 : Int), (↑a0.sel.length : Int), ())).bind fun r7 =>
           F57c17 g33 n ((↑(List.length r7.fst.fst.snd.snd.snd.fst) : Int)) ((0 : Int)) ((0 : Int)) (r0.fst.fst.f_Type) (r0.fst.fst.ints) (r0.fst.fst.texts) (r0.fst.fst.nulls) (r1.fst.fst.f_Type) (r1.fst.fst.ints) (r1.fst.fst.texts) (r1.fst.fst.nulls) (r7.fst.fst.fst) ([]) ([]) ([]) (r7.fst.fst.snd.fst) (r7.fst.fst.snd.snd.fst) (r7.fst.fst.snd.snd.snd.fst)
   else
    none
 else
  none := by kernel_rfl
theorem F57c17_eq (g33 : G33) (n x0 x1 x2 x3 x4 x5 x6 x7 x8 x9 x10 x11 x12 x13 x14 x15 x16 x17 : _) : F57c17 g33 (n + 1) x0 x1 x2 x3 x4 x5 x6 x7 x8 x9 x10 x11 x12 x13 x14 x15 x16 x17 =
 bif decide (x1 < x0) then
  (F40.run [PK.v (Ty.nm 3), PK.v (Ty.int .i64)] [RK.v (Ty.nm 0)] 4000000 ({ f_Type := x3, ints := x4, texts := x5, nulls := x6 : Vec }, x1, ())).bind fun r8 =>
   (F40.run [PK.v (Ty.nm 3), PK.v (Ty.int .i64)] [RK.v (Ty.nm 0)] 4000000 ({ f_Type := x7, ints := x8, texts := x9, nulls := x10 : Vec }, x1, ())).bind fun r9 =>
    bif !decide (r8.fst.fst.kind = (3 : Int)) then
     F57c24 g33 n (x0) (x1) (x2) (x3) (x4) (x5) (x6) (x7) (x8) (x9) (x10) (x11) (x12) (x13) (x14) (x15) (x16) (x17)
    else
     bif !decide (r9.fst.fst.kind = (3 : Int)) then
      F57c24 g33 n (x0) (x1) (x2) (x3) (x4) (x5) (x6) (x7) (x8) (x9) (x10) (x11) (x12) (x13) (x14) (x15) (x16) (x17)
     else
      F57c21 g33 n (x1) (x0) (x1) (x2) (x3) (x4) (x5) (x6) (x7) (x8) (x9) (x10) (x11) (r8.fst.fst) (r9.fst.fst) (x12) (x13) (x14) (x15) (x16) (x17)
 else
  some (({ f_Type := x11, ints := x15, texts := x16, nulls := x17 : Vec }, ()), ()) := by kernel_rfl
theorem F57c24_eq (g33 : G33) (n x0 x1 x2 x3 x4 x5 x6 x7 x8 x9 x10 x11 x12 x13 x14 x15 x16 x17 : _) : F57c24 g33 (n + 1) x0 x1 x2 x3 x4 x5 x6 x7 x8 x9 x10 x11 x12 x13 x14 x15 x16 x17 =
 F57c17 g33 n (x0) (IntKind.i64.wrap (x1 + (1 : Int))) (x2) (x3) (x4) (x5) (x6) (x7) (x8) (x9) (x10) (x11) (x12) (x13) (x14) (x15) (x16) (x17) := by kernel_rfl
theorem F57c21_eq (g33 : G33) (n x0 x1 x2 x3 x4 x5 x6 x7 x8 x9 x10 x11 x12 x13 x14 x15 x16 x17 x18 x19 x20 : _) : F57c21 g33 (n + 1) x0 x1 x2 x3 x4 x5 x6 x7 x8 x9 x10 x11 x12 x13 x14 x15 x16 x17 x18 x19 x20 =
 if (0 : Int) ≤ x0 then
  if x0 < (↑x20.length : Int) then
   (F98.run [PK.v Ty.str, PK.v Ty.str] [RK.v Ty.bool] 40000000 (x14.text, x13.text, ())).bind fun r10 =>
    bif r10.fst.fst then
     if (0 : Int) ≤ x0 then
      if x0 < (↑x18.length : Int) then
       F57c24 g33 n (x1) (x2) (x3) (x4) (x5) (x6) (x7) (x8) (x9) (x10) (x11) (x12) (x15) (x16) (x17) (x18.set x0.toNat (1 : Int)) (x19) (x20.set x0.toNat false)
      else
       none
     else
      none
    else
     F57c24 g33 n (x1) (x2) (x3) (x4) (x5) (x6) (x7) (x8) (x9) (x10) (x11) (x12) (x15) (x16) (x17) (x18) (x19) (x20.set x0.toNat false)
  else
   none
 else
  none := by kernel_rfl
noncomputable def F59c4 (g33 : G33) (n : Nat) (x0 : List (Ex)) (x1 : Int) (x2 : Int) (x3 : Scope) (x4 : Int) (x5 : Int) (x6 : List (Int)) (x7 : List (List Int)) (x8 : List (Bool)) (x9 : Int) (x10 : List (Int)) (x11 : List (List Int)) (x12 : List (Bool)) (x13 : List (Int)) (x14 : List (List Int)) (x15 : List (Bool)) := (F59 g33).at [.v (.nm 4), .v (.nm 1)] [.v (.nm 3)] n 4 ⟨[U, U, .one (.bptr 0 0), U, .one (.bptr 1 0), .one (.bptr 2 0), .one (.bptr 3 0), U, U, U, U, U, U, U, U, U, U, U, U, U, U, U, .one (.data (.sl (.nm 1)) x0 []), .one (.int .i64 x1), .one (.int .i64 x2), U, U, U, U, U, U, U, U, U, U, U, U], [(0, .whole (.nm 4) x3 []), (1, .cells [.int .i64 x4, .own 4, .own 5, .own 6]), (2, .cells [.int .i64 x5, .data (.sl (.int .i64)) x6 [], .data (.sl .str) x7 [], .data (.sl .bool) x8 []]), (3, .cells [.int .i64 x9, .own 7, .own 8, .own 9]), (4, .row 2 (.int .i64) x10 [] false), (5, .row 9 .str x11 [] false), (6, .row 4 .bool x12 [] false), (7, .row 2 (.int .i64) x13 [] false), (8, .row 9 .str x14 [] false), (9, .row 4 .bool x15 [] false)]⟩
theorem F59_run (g33 : G33) (n : Nat) (a0 : Scope) (a1 : Ex) : (F59 g33).run [.v (.nm 4), .v (.nm 1)] [.v (.nm 3)] n (a0, a1, ()) =
 if (0 : Int) < (↑a1.args.length : Int) then
  (g33 (a0, a1.args.getD (Int.toNat (0 : Int)) zEx, ())).bind fun r0 =>
   (F51.run [PK.v (Ty.int .i64), PK.v (Ty.nm 0), PK.v (Ty.int .i64)] [RK.ag 3 AGV] 4000000 ((1 : Int), { kind := (1 : Int), int := (0 : Int), text := [] : Val }, (↑a0.sel.length : Int), ())).bind fun r1 =>
    if (1 : Int) ≤ (↑a1.args.length : Int) then
     if (↑a1.args.length : Int) ≤ (↑a1.args.length : Int) then
      F59c4 g33 n (List.drop (Int.toNat (1 : Int)) (List.take (↑a1.args.length : Int).toNat a1.args)) ((↑(List.drop (Int.toNat (1 : Int)) (List.take (↑a1.args.length : Int).toNat a1.args)).length : Int)) ((0 : Int)) (a0) ((0 : Int)) (r0.fst.fst.f_Type) (r0.fst.fst.ints) (r0.fst.fst.texts) (r0.fst.fst.nulls) (r1.fst.fst.fst) ([]) ([]) ([]) (r1.fst.fst.snd.fst) (r1.fst.fst.snd.snd.fst) (r1.fst.fst.snd.snd.snd.fst)
     else
      none
    else
     none
 else
  none := by kernel_rfl
theorem F59c4_eq (g33 : G33) (n x0 x1 x2 x3 x4 x5 x6 x7 x8 x9 x10 x11 x12 x13 x14 x15 : _) : F59c4 g33 (n + 1) x0 x1 x2 x3 x4 x5 x6 x7 x8 x9 x10 x11 x12 x13 x14 x15 =
 bif decide (x2 < x1) then
  if (0 : Int) ≤ x2 then
   if x2 < (↑x0.length : Int) then
    (g33 (x3, x0.getD x2.toNat zEx, ())).bind fun r2 =>
     (F92.run [PK.v (Ty.int .i64), PK.v (Ty.nm 3), PK.v (Ty.nm 3)] [RK.v (Ty.nm 3)] 4000000 ((1 : Int), { f_Type := x5, ints := x6, texts := x7, nulls := x8 : Vec }, r2.fst.fst, ())).bind fun r3 =>
      (F93.run [PK.v (Ty.nm 3), PK.v (Ty.nm 3), PK.v (Ty.int .i64)] [RK.ag 3 AGV] 4000000 ({ f_Type := x9, ints := x13, texts := x14, nulls := x15 : Vec }, r3.fst.fst, (1 : Int), ())).bind fun r4 =>
       F59c4 g33 n (x0) (x1) (IntKind.i64.wrap (x2 + (1 : Int))) (x3) (x4) (x5) (x6) (x7) (x8) (r4.fst.fst.fst) (x10) (x11) (x12) (r4.fst.fst.snd.fst) (r4.fst.fst.snd.snd.fst) (r4.fst.fst.snd.snd.snd.fst)
   else
    none
  else
   none
 else
  some (({ f_Type := x9, ints := x13, texts := x14, nulls := x15 : Vec }, ()), ()) := by kernel_rfl
noncomputable def F100c3 (g33 : G33) (n : Nat) (x0 : List (Int)) (x1 : Int) (x2 : Int) (x3 : Int) (x4 : List (Int)) (x5 : List (List Int)) (x6 : List (Bool)) (x7 : List (Val)) (x8 : Scope) := (F100 g33).at [.v (.sl (.int .i64)), .v (.nm 1), .bc [.f 99 [4]], .bc [.o 23 (.nm 0)], .bw (.nm 4)] [] n 3 ⟨[U, U, U, .one (.bptr 903000 0), U, U, .one (.bptr 1 0), U, U, U, U, U, U, U, .one (.data (.sl (.int .i64)) x0 []), .one (.int .i64 x1), .one (.int .i64 x2), U, U, U, U, U, U, U, U, U, U, U], [(1, .cells [.int .i64 x3, .data (.sl (.int .i64)) x4 [904000], .data (.sl .str) x5 [904000], .data (.sl .bool) x6 [904000]]), (3, .row 23 (.nm 0) x7 [] false), (902000, .cells [.fn 99 [904000]]), (903000, .cells [.own 3]), (904000, .whole (.nm 4) x8 [])]⟩
theorem F100_run (g33 : G33) (n : Nat) (a0 : List (Int)) (a1 : Ex) (a2 : Unit × Unit) (a3 : List (Val) × Unit) (a4 : Scope) : (F100 g33).run [.v (.sl (.int .i64)), .v (.nm 1), .bc [.f 99 [4]], .bc [.o 23 (.nm 0)], .bw (.nm 4)] [] n (a0, a1, a2, a3, a4, ()) =
 (F99.run [PK.v (Ty.int .i64).sl, PK.rp (Ty.nm 4)] [RK.v (Ty.nm 4)] 4000000 (a0, a4, ())).bind fun r0 =>
  (g33 (r0.fst.fst, a1, ())).bind fun r1 =>
   F100c3 g33 n (a0) ((↑a0.length : Int)) ((0 : Int)) (r1.fst.fst.f_Type) (r1.fst.fst.ints) (r1.fst.fst.texts) (r1.fst.fst.nulls) (a3.fst) (a4) := by kernel_rfl
theorem F100c3_eq (g33 : G33) (n x0 x1 x2 x3 x4 x5 x6 x7 x8 : _) : F100c3 g33 (n + 1) x0 x1 x2 x3 x4 x5 x6 x7 x8 =
 bif decide (x2 < x1) then
  if (0 : Int) ≤ x2 then
   if x2 < (↑x0.length : Int) then
    (F40.run [PK.v (Ty.nm 3), PK.v (Ty.int .i64)] [RK.v (Ty.nm 0)] 4000000 ({ f_Type := x3, ints := x4, texts := x5, nulls := x6 : Vec }, x2, ())).bind fun r2 =>
     if (0 : Int) ≤ x0.getD x2.toNat (0 : Int) then
      if x0.getD x2.toNat (0 : Int) < (↑x7.length : Int) then
       F100c3 g33 n (x0) (x1) (IntKind.i64.wrap (x2 + (1 : Int))) (x3) (x4) (x5) (x6) (x7.set (x0.getD x2.toNat (0 : Int)).toNat r2.fst.fst) (x8)
      else
       none
     else
      none
   else
    none
  else
   none
 else
  some ((), (((), ()), ((x7, ()), (x8, ())))) := by kernel_rfl
noncomputable def F60c6 (g33 : G33) (n : Nat) (x0 : List (Ex)) (x1 : Ex) (x2 : Int) (x3 : List (Int)) (x4 : List (Int)) (x5 : List (List Int)) (x6 : List (Bool)) (x7 : List (Val)) (x8 : Scope) := (F60 g33).at [.v (.nm 4), .v (.nm 1)] [.v (.nm 3)] n 6 ⟨[U, U, U, .one (.bptr 0 0), .one (.bptr 1 0), .one (.bptr 2 0), .one (.own 3), .one (.bptr 4 0), .one (.fn 100 [4, 2]), .one (.data (.sl (.nm 1)) x0 []), U, U, U, U, U, U, U, U, U, U, U, U, U, U, U, U, U, U, U, U, U, U, U, U, U, U, U, U, U, U, U, U, U, U, U, U, U, U, U, U, U, U, U, U, U, U, U, U, U, U, U, U, U, U, U, U, U, U, U, U, U, U, U, U, U, U, U, U, U, U, U], [(0, .whole (.nm 1) x1 []), (1, .cells [.int .i64 x2, .own 5, .own 6, .own 7]), (2, .cells [.own 8]), (3, .row 3 (.int .i64) x3 [] false), (4, .cells [.fn 99 [9]]), (5, .row 2 (.int .i64) x4 [] false), (6, .row 9 .str x5 [] false), (7, .row 4 .bool x6 [] false), (8, .row 23 (.nm 0) x7 [] false), (9, .whole (.nm 4) x8 [])]⟩
noncomputable def F60c11 (g33 : G33) (n : Nat) (x0 : List (Ex)) (x1 : Int) (x2 : Int) (x3 : Ex) (x4 : Int) (x5 : Int) (x6 : List (Int)) (x7 : List (List Int)) (x8 : List (Bool)) (x9 : List (Int)) (x10 : List (Int)) (x11 : List (Int)) (x12 : List (Int)) (x13 : List (List Int)) (x14 : List (Bool)) (x15 : List (Val)) (x16 : Scope) := (F60 g33).at [.v (.nm 4), .v (.nm 1)] [.v (.nm 3)] n 11 ⟨[U, U, U, .one (.bptr 0 0), .one (.bptr 1 0), .one (.bptr 2 0), U, .one (.bptr 3 0), .one (.fn 100 [3, 2]), .one (.data (.sl (.nm 1)) x0 []), .one (.bptr 4 0), .one (.own 5), .one (.own 6), U, U, U, U, U, U, U, U, U, U, U, U, U, U, U, U, U, U, U, U, U, U, U, U, U, U, .one (.own 7), .one (.int .i64 x1), .one (.int .i64 x2), U, U, U, U, U, U, U, U, U, U, U, U, U, U, U, U, U, U, U, U, U, U, U, U, U, U, U, U, U, U, U, U, U, U, U, U, U, U, U], [(0, .whole (.nm 1) x3 []), (1, .cells [.int .i64 x4, .own 8, .own 9, .own 10]), (2, .cells [.own 11]), (3, .cells [.fn 99 [12]]), (4, .cells [.int .i64 x5, .data (.sl (.int .i64)) x6 [7, 12], .data (.sl .str) x7 [7, 12], .data (.sl .bool) x8 [7, 12]]), (5, .row 3 (.int .i64) x9 [] false), (6, .row 3 (.int .i64) x10 [] false), (7, .row 3 (.int .i64) x11 [] false), (8, .row 2 (.int .i64) x12 [] false), (9, .row 9 .str x13 [] false), (10, .row 4 .bool x14 [] false), (11, .row 23 (.nm 0) x15 [] false), (12, .whole (.nm 4) x16 [])]⟩
noncomputable def F60c21 (g33 : G33) (n : Nat) (x0 : Ex) (x1 : Int) (x2 : List (Int)) (x3 : List (List Int)) (x4 : List (Bool)) (x5 : List (Val)) := (F60 g33).at [.v (.nm 4), .v (.nm 1)] [.v (.nm 3)] n 21 ⟨[U, U, U, .one (.bptr 0 0), .one (.bptr 1 0), .one (.bptr 2 0), U, U, U, U, U, U, U, U, U, U, U, U, U, U, U, U, U, U, U, U, U, U, U, U, U, U, U, U, U, U, U, U, U, U, U, U, U, U, U, U, U, U, U, U, U, U, U, U, U, U, U, U, U, U, U, U, U, U, U, U, U, U, U, U, U, U, U, U, U, U, U, U, U, U, U], [(0, .whole (.nm 1) x0 []), (1, .cells [.int .i64 x1, .own 3, .own 4, .own 5]), (2, .cells [.own 6]), (3, .row 2 (.int .i64) x2 [] false), (4, .row 9 .str x3 [] false), (5, .row 4 .bool x4 [] false), (6, .row 23 (.nm 0) x5 [] false)]⟩
theorem F60_run (g33 : G33) (n : Nat) (a0 : Scope) (a1 : Ex) : (F60 g33).run [.v (.nm 4), .v (.nm 1)] [.v (.nm 3)] n (a0, a1, ()) =
 if (↑a0.sel.length : Int) ≤ (↑lim : Int) then
  (F50.run [PK.v (Ty.int .i64)] [RK.own 3 (Ty.int .i64)] 4000000 ((↑a0.sel.length : Int), ())).bind fun r0 =>
   F60c6 g33 n (a1.args) (a1) ((0 : Int)) (r0.fst.fst) ([]) ([]) ([]) (List.replicate (↑a0.sel.length : Int).toNat zVal) (a0)
 else
  none := by kernel_rfl
theorem F60c6_eq (g33 : G33) (n x0 x1 x2 x3 x4 x5 x6 x7 x8 : _) : F60c6 g33 (n + 1) x0 x1 x2 x3 x4 x5 x6 x7 x8 =
 bif decide ((1 : Int) < (↑x0.length : Int)) then
  (F99.run [PK.v (Ty.int .i64).sl, PK.rp (Ty.nm 4)] [RK.v (Ty.nm 4)] 4000000 (x3, x8, ())).bind fun r1 =>
   if (0 : Int) < (↑x0.length : Int) then
    (g33 (r1.fst.fst, x0.getD (Int.toNat (0 : Int)) zEx, ())).bind fun r2 =>
     F60c11 g33 n (x0) ((↑x3.length : Int)) ((0 : Int)) (x1) (x2) (r2.fst.fst.f_Type) (r2.fst.fst.ints) (r2.fst.fst.texts) (r2.fst.fst.nulls) ([]) ([]) (x3) (x4) (x5) (x6) (x7) (x8)
   else
    none
 else
  bif decide ((↑x0.length : Int) = (1 : Int)) then
   if (0 : Int) < (↑x0.length : Int) then
    ((F100 g33).run [PK.v (Ty.int .i64).sl, PK.v (Ty.nm 1), PK.bc [CK.f 99 [(4 : Nat)]], PK.bc [CK.o 23 (Ty.nm 0)], PK.bw (Ty.nm 4)] [] 4000000 (x3, x0.getD (Int.toNat (0 : Int)) zEx, ((), ()), (x7, ()), x8, ())).bind fun r3 =>
     F60c21 g33 n (x1) (x2) (x4) (x5) (x6) (r3.snd.snd.fst.fst)
   else
    none
  else
   F60c21 g33 n (x1) (x2) (x4) (x5) (x6) (x7) := by kernel_rfl
theorem F60c11_eq (g33 : G33) (n x0 x1 x2 x3 x4 x5 x6 x7 x8 x9 x10 x11 x12 x13 x14 x15 x16 : _) : F60c11 g33 (n + 1) x0 x1 x2 x3 x4 x5 x6 x7 x8 x9 x10 x11 x12 x13 x14 x15 x16 =
 bif decide (x2 < x1) then
  if (0 : Int) ≤ x2 then
   if x2 < (↑x11.length : Int) then
    (F38.run [PK.v (Ty.nm 3), PK.v (Ty.int .i64)] [RK.v (Ty.int .i64)] 4000000 ({ f_Type := x5, ints := x6, texts := x7, nulls := x8 : Vec }, x2, ())).bind fun r4 =>
     bif decide (r4.fst.fst = (1 : Int)) then
      if x9.length + (1 : Nat) ≤ lim then
       F60c11 g33 n (x0) (x1) (IntKind.i64.wrap (x2 + (1 : Int))) (x3) (x4) (x5) (x6) (x7) (x8) (x9 ++ [x11.getD x2.toNat (0 : Int)]) (x10) (x11) (x12) (x13) (x14) (x15) (x16)
      else
       none
     else
      if x10.length + (1 : Nat) ≤ lim then
       F60c11 g33 n (x0) (x1) (IntKind.i64.wrap (x2 + (1 : Int))) (x3) (x4) (x5) (x6) (x7) (x8) (x9) (x10 ++ [x11.getD x2.toNat (0 : Int)]) (x11) (x12) (x13) (x14) (x15) (x16)
      else
       none
   else
    none
  else
   none
 else
  if (1 : Int) < (↑x0.length : Int) then
   ((F100 g33).run [PK.v (Ty.int .i64).sl, PK.v (Ty.nm 1), PK.bc [CK.f 99 [(4 : Nat)]], PK.bc [CK.o 23 (Ty.nm 0)], PK.bw (Ty.nm 4)] [] 4000000 (x9, x0.getD (Int.toNat (1 : Int)) zEx, ((), ()), (x15, ()), x16, ())).bind fun r5 =>
    if (2 : Int) ≤ (↑x0.length : Int) then
     if (↑x0.length : Int) ≤ (↑x0.length : Int) then
      F60c6 g33 n (List.drop (Int.toNat (2 : Int)) (List.take (↑x0.length : Int).toNat x0)) (x3) (x4) (x10) (x12) (x13) (x14) (r5.snd.snd.fst.fst) (r5.snd.snd.snd.fst)
     else
      none
    else
     none
  else
   none := by kernel_rfl
theorem F60c21_eq (g33 : G33) (n x0 x1 x2 x3 x4 x5 : _) : F60c21 g33 (n + 1) x0 x1 x2 x3 x4 x5 =
 (F102000054.run [PK.v (Ty.int .i64), PK.v (Ty.int .i64), PK.fn 101 [(3 : Nat)], PK.bc [CK.c (Ty.nm 0).sl]] [RK.v (Ty.nm 3)] 4000000 (x0.f_Type, (↑x5.length : Int), (), (x5, ()), ())).bind fun r6 =>
  some ((Vec.mk r6.fst.fst.f_Type r6.fst.fst.ints r6.fst.fst.texts r6.fst.fst.nulls, ()), ()) := by kernel_rfl
noncomputable def F61c3 (g33 : G33) (n : Nat) (x0 : List (Ex)) (x1 : Int) (x2 : Int) (x3 : Scope) (x4 : Ex) (x5 : Int) (x6 : List (Int)) (x7 : List (List Int)) (x8 : List (Bool)) (x9 : List (Vec)) := (F61 g33).at [.v (.nm 4), .v (.nm 1)] [.v (.nm 3)] n 3 ⟨[U, U, .one (.bptr 0 0), .one (.bptr 1 0), .one (.bptr 2 0), .one (.bptr 3 0), U, U, U, .one (.data (.sl (.nm 1)) x0 []), .one (.int .i64 x1), .one (.int .i64 x2), U, U, U, U, U, U, U, U, U, U, U, U, U, U, U, U, U], [(0, .whole (.nm 4) x3 []), (1, .whole (.nm 1) x4 []), (2, .cells [.int .i64 x5, .own 4, .own 5, .own 6]), (3, .cells [.own 7]), (4, .row 2 (.int .i64) x6 [] false), (5, .row 9 .str x7 [] false), (6, .row 4 .bool x8 [] false), (7, .row 40 (.nm 3) x9 [] false)]⟩
theorem F61_run (g33 : G33) (n : Nat) (a0 : Scope) (a1 : Ex) : (F61 g33).run [.v (.nm 4), .v (.nm 1)] [.v (.nm 3)] n (a0, a1, ()) =
 F61c3 g33 n (a1.args) ((↑a1.args.length : Int)) ((0 : Int)) (a0) (a1) ((0 : Int)) ([]) ([]) ([]) ([]) := by kernel_rfl
theorem F61c3_eq (g33 : G33) (n x0 x1 x2 x3 x4 x5 x6 x7 x8 x9 : _) : F61c3 g33 (n + 1) x0 x1 x2 x3 x4 x5 x6 x7 x8 x9 =
 bif decide (x2 < x1) then
  if (0 : Int) ≤ x2 then
   if x2 < (↑x0.length : Int) then
    (g33 (x3, x0.getD x2.toNat zEx, ())).bind fun r0 =>
     if x9.length + (1 : Nat) ≤ lim then
      F61c3 g33 n (x0) (x1) (IntKind.i64.wrap (x2 + (1 : Int))) (x3) (x4) (x5) (x6) (x7) (x8) (x9 ++ ([r0.fst.fst] : List (Vec)))
     else
      none
   else
    none
  else
   none
 else
  (F103000054.run [PK.v (Ty.int .i64), PK.v (Ty.int .i64), PK.fn 102 [(3 : Nat), (4 : Nat)], PK.bc [CK.c (Ty.nm 3).sl], PK.bw (Ty.nm 1)] [RK.v (Ty.nm 3)] 4000000 (x4.f_Type, (↑x3.sel.length : Int), (), (x9, ()), x4, ())).bind fun r1 =>
   some ((Vec.mk r1.fst.fst.f_Type r1.fst.fst.ints r1.fst.fst.texts r1.fst.fst.nulls, ()), ()) := by kernel_rfl
end Go.Proofs.Tryz
