/- The functions of the program as the engine follows them (printed by a program of ours): their code, what is known of them, and the equations of their runs. -/
import Derived.Test.YtlkllggdiakpbaaGreatDoorL42Fns
set_option linter.unusedVariables false
set_option maxRecDepth 20000
namespace Go.Proofs.Tryz
open Go.Eng
theorem F33_run (g33 : G33) (n : Nat) (a0 : Scope) (a1 : Ex) : (F33 g33).run [.v (.nm 4), .v (.nm 1)] [.v (.nm 3)] n (a0, a1, ()) =
 bif decide (a1.kind = (1 : Int)) then
  (F51.run [PK.v (Ty.int .i64), PK.v (Ty.nm 0), PK.v (Ty.int .i64)] [RK.ag 3 AGV] 4000000 (a1.f_Type, a1.value, (↑a0.sel.length : Int), ())).bind fun r0 =>
   some (({ f_Type := r0.fst.fst.fst, ints := r0.fst.fst.snd.fst, texts := r0.fst.fst.snd.snd.fst, nulls := r0.fst.fst.snd.snd.snd.fst : Vec }, ()), ())
 else
  bif decide (a1.kind = (2 : Int)) then
   bif decide ((0 : Int) ≤ a1.slot) then
    bif decide (a1.slot < (↑a0.columns.length : Int)) then
     if (0 : Int) ≤ a1.slot then
      if a1.slot < (↑a0.columns.length : Int) then
       (F52.run [PK.v (Ty.nm 3), PK.v (Ty.int .i64).sl] [RK.v (Ty.nm 3)] 4000000 (a0.columns.getD a1.slot.toNat zVec, a0.sel, ())).bind fun r1 =>
        some ((Vec.mk r1.fst.fst.f_Type r1.fst.fst.ints r1.fst.fst.texts r1.fst.fst.nulls, ()), ())
      else
       none
     else
      none
    else
     (F62.run [PK.v (Ty.int .i64), PK.v (Ty.int .i64)] [RK.ag 3 AGV] 4000000 (a1.f_Type, (↑a0.sel.length : Int), ())).bind fun r2 =>
      some (({ f_Type := r2.fst.fst.fst, ints := r2.fst.fst.snd.fst, texts := r2.fst.fst.snd.snd.fst, nulls := r2.fst.fst.snd.snd.snd.fst : Vec }, ()), ())
   else
    (F62.run [PK.v (Ty.int .i64), PK.v (Ty.int .i64)] [RK.ag 3 AGV] 4000000 (a1.f_Type, (↑a0.sel.length : Int), ())).bind fun r3 =>
     some (({ f_Type := r3.fst.fst.fst, ints := r3.fst.fst.snd.fst, texts := r3.fst.fst.snd.snd.fst, nulls := r3.fst.fst.snd.snd.snd.fst : Vec }, ()), ())
  else
   bif decide (a1.kind = (3 : Int)) then
    if (0 : Int) < (↑a1.args.length : Int) then
     (g33 (a0, a1.args.getD (Int.toNat (0 : Int)) zEx, ())).bind fun r4 =>
      (F53.run [PK.v (Ty.nm 3)] [RK.v (Ty.nm 3)] 4000000 (r4.fst.fst, ())).bind fun r5 =>
       some ((Vec.mk r5.fst.fst.f_Type r5.fst.fst.ints r5.fst.fst.texts r5.fst.fst.nulls, ()), ())
    else
     none
   else
    bif decide (a1.kind = (4 : Int)) then
     if (0 : Int) < (↑a1.args.length : Int) then
      (g33 (a0, a1.args.getD (Int.toNat (0 : Int)) zEx, ())).bind fun r6 =>
       (F56000054.run [PK.v (Ty.int .i64), PK.v (Ty.int .i64), PK.fn 55 [(3 : Nat)], PK.bc AGW] [RK.v (Ty.nm 3)] 4000000 (a1.f_Type, (↑a0.sel.length : Int), (), (r6.fst.fst.f_Type, r6.fst.fst.ints, r6.fst.fst.texts, r6.fst.fst.nulls, ()), ())).bind fun r7 =>
        some ((Vec.mk r7.fst.fst.f_Type r7.fst.fst.ints r7.fst.fst.texts r7.fst.fst.nulls, ()), ())
     else
      none
    else
     bif decide (a1.kind = (5 : Int)) then
      ((F57 g33).run [PK.v (Ty.nm 4), PK.v (Ty.nm 1)] [RK.v (Ty.nm 3)] 4000000 (a0, a1, ())).bind fun r8 =>
       some ((Vec.mk r8.fst.fst.f_Type r8.fst.fst.ints r8.fst.fst.texts r8.fst.fst.nulls, ()), ())
     else
      bif decide (a1.kind = (6 : Int)) then
       if (0 : Int) < (↑a1.args.length : Int) then
        (g33 (a0, a1.args.getD (Int.toNat (0 : Int)) zEx, ())).bind fun r9 =>
         (F58.run [PK.v (Ty.nm 3)] [RK.v (Ty.nm 3)] 4000000 (r9.fst.fst, ())).bind fun r10 =>
          some ((Vec.mk r10.fst.fst.f_Type r10.fst.fst.ints r10.fst.fst.texts r10.fst.fst.nulls, ()), ())
       else
        none
      else
       bif decide (a1.kind = (7 : Int)) then
        ((F59 g33).run [PK.v (Ty.nm 4), PK.v (Ty.nm 1)] [RK.v (Ty.nm 3)] 4000000 (a0, a1, ())).bind fun r11 =>
         some ((Vec.mk r11.fst.fst.f_Type r11.fst.fst.ints r11.fst.fst.texts r11.fst.fst.nulls, ()), ())
       else
        bif decide (a1.kind = (8 : Int)) then
         ((F60 g33).run [PK.v (Ty.nm 4), PK.v (Ty.nm 1)] [RK.v (Ty.nm 3)] 4000000 (a0, a1, ())).bind fun r12 =>
          some ((Vec.mk r12.fst.fst.f_Type r12.fst.fst.ints r12.fst.fst.texts r12.fst.fst.nulls, ()), ())
        else
         bif decide (a1.kind = (9 : Int)) then
          ((F61 g33).run [PK.v (Ty.nm 4), PK.v (Ty.nm 1)] [RK.v (Ty.nm 3)] 4000000 (a0, a1, ())).bind fun r13 =>
           some ((Vec.mk r13.fst.fst.f_Type r13.fst.fst.ints r13.fst.fst.texts r13.fst.fst.nulls, ()), ())
         else
          (F62.run [PK.v (Ty.int .i64), PK.v (Ty.int .i64)] [RK.ag 3 AGV] 4000000 (a1.f_Type, (↑a0.sel.length : Int), ())).bind fun r14 =>
           some (({ f_Type := r14.fst.fst.fst, ints := r14.fst.fst.snd.fst, texts := r14.fst.fst.snd.snd.fst, nulls := r14.fst.fst.snd.snd.snd.fst : Vec }, ()), ()) := by kernel_rfl
theorem F32_run (n : Nat) (a0 : Batch) : F32.run [.v (.nm 2)] [.v (.sl (.int .i64))] n (a0, ()) =
 bif a0.all then
  (F50.run [PK.v (Ty.int .i64)] [RK.own 3 (Ty.int .i64)] 4000000 (a0.len, ())).bind fun r0 =>
   some ((r0.fst.fst, ()), ())
 else
  some ((a0.sel, ()), ()) := by kernel_rfl
noncomputable def F15c5 (n : Nat) (x0 : List (Int)) (x1 : Int) (x2 : Int) (x3 : Int) (x4 : Bool) (x5 : Int) (x6 : List (Int)) (x7 : List (List Int)) (x8 : List (Bool)) (x9 : List (Vec)) (x10 : Int) (x11 : Bool) (x12 : List (Vec)) (x13 : List (Int)) (x14 : List (Int)) := F15.at [.v (.nm 1), .v (.nm 2)] [.v (.nm 2)] n 5 ⟨[U, U, U, U, .one (.bptr 0 0), U, .one (.bptr 1 0), .one (.bptr 2 0), U, U, U, U, U, U, U, U, U, U, U, U, U, U, U, .one (.data (.sl (.int .i64)) x0 []), .one (.int .i64 x1), .one (.int .i64 x2), U, U, U, U, U, U, U, U, U, U, U, U, U, U, U, U], [(0, .cells [.own 3, .int .i64 x3, .bool x4, .own 4]), (1, .cells [.int .i64 x5, .data (.sl (.int .i64)) x6 [], .data (.sl .str) x7 [], .data (.sl .bool) x8 []]), (2, .cells [.data (.sl (.nm 3)) x9 [], .int .i64 x10, .bool x11, .own 5]), (3, .row 40 (.nm 3) x12 [] false), (4, .row 3 (.int .i64) x13 [] false), (5, .row 3 (.int .i64) x14 [] false)]⟩
theorem F15_run (n : Nat) (a0 : Ex) (a1 : Batch) : F15.run [.v (.nm 1), .v (.nm 2)] [.v (.nm 2)] n (a0, a1, ()) =
 (F32.run [PK.v (Ty.nm 2)] [RK.v (Ty.int .i64).sl] 4000000 (a1, ())).bind fun r0 =>
  (R33 ({ columns := a1.columns, sel := r0.fst.fst : Scope }, a0, ())).bind fun r1 =>
   F15c5 n (r0.fst.fst) ((↑(List.length r0.fst.fst) : Int)) ((0 : Int)) ((0 : Int)) (false) (r1.fst.fst.f_Type) (r1.fst.fst.ints) (r1.fst.fst.texts) (r1.fst.fst.nulls) (a1.columns) (a1.len) (false) ([]) ([]) ([]) := by kernel_rfl
theorem F15c5_eq (n x0 x1 x2 x3 x4 x5 x6 x7 x8 x9 x10 x11 x12 x13 x14 : _) : F15c5 (n + 1) x0 x1 x2 x3 x4 x5 x6 x7 x8 x9 x10 x11 x12 x13 x14 =
 bif decide (x2 < x1) then
  if (0 : Int) ≤ x2 then
   if x2 < (↑x0.length : Int) then
    (F38.run [PK.v (Ty.nm 3), PK.v (Ty.int .i64)] [RK.v (Ty.int .i64)] 4000000 ({ f_Type := x5, ints := x6, texts := x7, nulls := x8 : Vec }, x2, ())).bind fun r2 =>
     bif decide (r2.fst.fst = (1 : Int)) then
      if x14.length + (1 : Nat) ≤ lim then
       F15c5 n (x0) (x1) (IntKind.i64.wrap (x2 + (1 : Int))) (x3) (x4) (x5) (x6) (x7) (x8) (x9) (x10) (x11) (x12) (x13) (x14 ++ [x0.getD x2.toNat (0 : Int)])
      else
       none
     else
      F15c5 n (x0) (x1) (IntKind.i64.wrap (x2 + (1 : Int))) (x3) (x4) (x5) (x6) (x7) (x8) (x9) (x10) (x11) (x12) (x13) (x14)
   else
    none
  else
   none
 else
  some (({ columns := x9, len := x10, all := x11, sel := x14 : Batch }, ()), ()) := by kernel_rfl
noncomputable def F11c3 (n : Nat) (x0 : Vec) (x1 : Vec) := F11.at [.v (.nm 3), .v (.nm 3)] [.v (.bool)] n 3 ⟨[U, U, .one (.bptr 0 0), .one (.bptr 1 0), U, U, U, U, U, U, U, U, U, U, U, U, U, U, U, U, U, U, U, U, U, U, U, U, U, U, U, U, U, U, U, U, U, U, U, U, U, U, U, U, U, U, U, U, U, U, U, U, U, U, U, U, U, U, U, U, U, U, U, U, U, U, U, U, U, U, U, U, U, U, U, U, U, U, U, U, U, U, U, U, U, U, U, U, U, U, U, U, U, U], [(0, .whole (.nm 3) x0 []), (1, .whole (.nm 3) x1 [])]⟩
noncomputable def F11c4 (n : Nat) (x0 : Int) (x1 : Vec) (x2 : Vec) := F11.at [.v (.nm 3), .v (.nm 3)] [.v (.bool)] n 4 ⟨[U, U, .one (.bptr 0 0), .one (.bptr 1 0), U, .one (.int .i64 x0), U, U, U, U, U, U, U, U, U, U, U, U, U, U, U, U, U, U, U, U, U, U, U, U, U, U, U, U, U, U, U, U, U, U, U, U, U, U, U, U, U, U, U, U, U, U, U, U, U, U, U, U, U, U, U, U, U, U, U, U, U, U, U, U, U, U, U, U, U, U, U, U, U, U, U, U, U, U, U, U, U, U, U, U, U, U, U, U], [(0, .whole (.nm 3) x1 []), (1, .whole (.nm 3) x2 [])]⟩
noncomputable def F11c9 (n : Nat) (x0 : Int) (x1 : Vec) (x2 : Vec) := F11.at [.v (.nm 3), .v (.nm 3)] [.v (.bool)] n 9 ⟨[U, U, .one (.bptr 0 0), .one (.bptr 1 0), U, U, .one (.int .i64 x0), U, U, U, U, U, U, U, U, U, U, U, U, U, U, U, U, U, U, U, U, U, U, U, U, U, U, U, U, U, U, U, U, U, U, U, U, U, U, U, U, U, U, U, U, U, U, U, U, U, U, U, U, U, U, U, U, U, U, U, U, U, U, U, U, U, U, U, U, U, U, U, U, U, U, U, U, U, U, U, U, U, U, U, U, U, U, U], [(0, .whole (.nm 3) x1 []), (1, .whole (.nm 3) x2 [])]⟩
noncomputable def F11c14 (n : Nat) (x0 : Int) (x1 : Vec) (x2 : Vec) := F11.at [.v (.nm 3), .v (.nm 3)] [.v (.bool)] n 14 ⟨[U, U, .one (.bptr 0 0), .one (.bptr 1 0), U, U, U, .one (.int .i64 x0), U, U, U, U, U, U, U, U, U, U, U, U, U, U, U, U, U, U, U, U, U, U, U, U, U, U, U, U, U, U, U, U, U, U, U, U, U, U, U, U, U, U, U, U, U, U, U, U, U, U, U, U, U, U, U, U, U, U, U, U, U, U, U, U, U, U, U, U, U, U, U, U, U, U, U, U, U, U, U, U, U, U, U, U, U, U], [(0, .whole (.nm 3) x1 []), (1, .whole (.nm 3) x2 [])]⟩
theorem F11_run (n : Nat) (a0 : Vec) (a1 : Vec) : F11.run [.v (.nm 3), .v (.nm 3)] [.v (.bool)] n (a0, a1, ()) =
 bif !decide (a0.f_Type = a1.f_Type) then
  some ((false, ()), ())
 else
  bif !decide ((↑a0.nulls.length : Int) = (↑a1.nulls.length : Int)) then
   some ((false, ()), ())
  else
   bif !decide ((↑a0.ints.length : Int) = (↑a1.ints.length : Int)) then
    some ((false, ()), ())
   else
    bif !decide ((↑a0.texts.length : Int) = (↑a1.texts.length : Int)) then
     some ((false, ()), ())
    else
     F11c3 n (a0) (a1) := by kernel_rfl
theorem F11c3_eq (n x0 x1 : _) : F11c3 (n + 1) x0 x1 =
 F11c4 n ((0 : Int)) (x0) (x1) := by kernel_rfl
theorem F11c4_eq (n x0 x1 x2 : _) : F11c4 (n + 1) x0 x1 x2 =
 bif decide (x0 < (↑x1.nulls.length : Int)) then
  if (0 : Int) ≤ x0 then
   if x0 < (↑x1.nulls.length : Int) then
    if (0 : Int) ≤ x0 then
     if x0 < (↑x2.nulls.length : Int) then
      bif !decide (x1.nulls.getD x0.toNat false = x2.nulls.getD x0.toNat false) then
       some ((false, ()), ())
      else
       F11c4 n (IntKind.i64.wrap (x0 + (1 : Int))) (x1) (x2)
     else
      none
    else
     none
   else
    none
  else
   none
 else
  F11c9 n ((0 : Int)) (x1) (x2) := by kernel_rfl
theorem F11c9_eq (n x0 x1 x2 : _) : F11c9 (n + 1) x0 x1 x2 =
 bif decide (x0 < (↑x1.ints.length : Int)) then
  if (0 : Int) ≤ x0 then
   if x0 < (↑x1.ints.length : Int) then
    if (0 : Int) ≤ x0 then
     if x0 < (↑x2.ints.length : Int) then
      bif !decide (x1.ints.getD x0.toNat (0 : Int) = x2.ints.getD x0.toNat (0 : Int)) then
       some ((false, ()), ())
      else
       F11c9 n (IntKind.i64.wrap (x0 + (1 : Int))) (x1) (x2)
     else
      none
    else
     none
   else
    none
  else
   none
 else
  F11c14 n ((0 : Int)) (x1) (x2) := by kernel_rfl
theorem F11c14_eq (n x0 x1 x2 : _) : F11c14 (n + 1) x0 x1 x2 =
 bif decide (x0 < (↑x1.texts.length : Int)) then
  if (0 : Int) ≤ x0 then
   if x0 < (↑x1.texts.length : Int) then
    if (0 : Int) ≤ x0 then
     if x0 < (↑x2.texts.length : Int) then
      bif !decide (x1.texts.getD x0.toNat [] = x2.texts.getD x0.toNat []) then
       some ((false, ()), ())
      else
       F11c14 n (IntKind.i64.wrap (x0 + (1 : Int))) (x1) (x2)
     else
      none
    else
     none
   else
    none
  else
   none
 else
  some ((true, ()), ()) := by kernel_rfl
noncomputable def F37c4 (n : Nat) (x0 : List (Int)) (x1 : List (Int)) (x2 : Int) := F37.at [.v (.sl (.int .i64)), .v (.sl (.int .i64))] [.v (.bool)] n 4 ⟨[.one (.data (.sl (.int .i64)) x0 []), .one (.data (.sl (.int .i64)) x1 []), U, U, U, .one (.int .i64 x2), U, U, U, U, U, U, U, U, U, U, U, U, U, U, U, U, U, U, U, U], []⟩
theorem F37_run (n : Nat) (a0 : List (Int)) (a1 : List (Int)) : F37.run [.v (.sl (.int .i64)), .v (.sl (.int .i64))] [.v (.bool)] n (a0, a1, ()) =
 bif !decide ((↑a0.length : Int) = (↑a1.length : Int)) then
  some ((false, ()), ())
 else
  F37c4 n (a0) (a1) ((0 : Int)) := by kernel_rfl
theorem F37c4_eq (n x0 x1 x2 : _) : F37c4 (n + 1) x0 x1 x2 =
 bif decide (x2 < (↑x0.length : Int)) then
  if (0 : Int) ≤ x2 then
   if x2 < (↑x0.length : Int) then
    if (0 : Int) ≤ x2 then
     if x2 < (↑x1.length : Int) then
      bif !decide (x0.getD x2.toNat (0 : Int) = x1.getD x2.toNat (0 : Int)) then
       some ((false, ()), ())
      else
       F37c4 n (x0) (x1) (IntKind.i64.wrap (x2 + (1 : Int)))
     else
      none
    else
     none
   else
    none
  else
   none
 else
  some ((true, ()), ()) := by kernel_rfl
noncomputable def F14c3 (n : Nat) (x0 : Batch) (x1 : Batch) := F14.at [.v (.nm 2), .v (.nm 2)] [.v (.bool)] n 3 ⟨[U, U, .one (.bptr 0 0), .one (.bptr 1 0), U, U, U, U, U, U, U, U, U, U, U, U, U, U, U, U, U, U, U, U, U, U, U, U, U, U, U, U, U, U, U, U, U, U, U, U, U, U, U, U, U, U, U, U, U, U, U, U, U, U], [(0, .whole (.nm 2) x0 []), (1, .whole (.nm 2) x1 [])]⟩
noncomputable def F14c4 (n : Nat) (x0 : Int) (x1 : Batch) (x2 : Batch) := F14.at [.v (.nm 2), .v (.nm 2)] [.v (.bool)] n 4 ⟨[U, U, .one (.bptr 0 0), .one (.bptr 1 0), U, .one (.int .i64 x0), U, U, U, U, U, U, U, U, U, U, U, U, U, U, U, U, U, U, U, U, U, U, U, U, U, U, U, U, U, U, U, U, U, U, U, U, U, U, U, U, U, U, U, U, U, U, U, U], [(0, .whole (.nm 2) x1 []), (1, .whole (.nm 2) x2 [])]⟩
theorem F14_run (n : Nat) (a0 : Batch) (a1 : Batch) : F14.run [.v (.nm 2), .v (.nm 2)] [.v (.bool)] n (a0, a1, ()) =
 bif !decide (a0.len = a1.len) then
  some ((false, ()), ())
 else
  bif !decide (a0.all = a1.all) then
   some ((false, ()), ())
  else
   (F37.run [PK.v (Ty.int .i64).sl, PK.v (Ty.int .i64).sl] [RK.v Ty.bool] 4000000 (a0.sel, a1.sel, ())).bind fun r0 =>
    bif !r0.fst.fst then
     some ((false, ()), ())
    else
     bif !decide ((↑a0.columns.length : Int) = (↑a1.columns.length : Int)) then
      some ((false, ()), ())
     else
      F14c3 n (a0) (a1) := by kernel_rfl
theorem F14c3_eq (n x0 x1 : _) : F14c3 (n + 1) x0 x1 =
 F14c4 n ((0 : Int)) (x0) (x1) := by kernel_rfl
theorem F14c4_eq (n x0 x1 x2 : _) : F14c4 (n + 1) x0 x1 x2 =
 bif decide (x0 < (↑x1.columns.length : Int)) then
  if (0 : Int) ≤ x0 then
   if x0 < (↑x1.columns.length : Int) then
    if (0 : Int) ≤ x0 then
     if x0 < (↑x2.columns.length : Int) then
      (F11.run [PK.v (Ty.nm 3), PK.v (Ty.nm 3)] [RK.v Ty.bool] 4000000 (x1.columns.getD x0.toNat zVec, x2.columns.getD x0.toNat zVec, ())).bind fun r1 =>
       bif !r1.fst.fst then
        some ((false, ()), ())
       else
        F14c4 n (IntKind.i64.wrap (x0 + (1 : Int))) (x1) (x2)
     else
      none
    else
     none
   else
    none
  else
   none
 else
  some ((true, ()), ()) := by kernel_rfl
noncomputable def F140c3 (n : Nat) (x0 : Int) (x1 : Int) (x2 : Int) (x3 : List (Int)) := F140.at [.v (.str), .v (.int .u8), .v (.int .i64)] [.v (.str)] n 3 ⟨[U, .one (.int .u8 x0), .one (.int .i64 x1), U, U, U, U, .one (.own 0), .one (.int .i64 x2), U, U, U, U, U, U, U, U, U, U, U, U, U, U, U, U, U, U, U, U, U, U, U, U, U, U, U, U, U, U, U, U, U, U, U, U], [(0, .row 1000005 (.int .u8) x3 [] false)]⟩
noncomputable def F140c4 (n : Nat) (x0 : Int) (x1 : Int) (x2 : Int) (x3 : List (Int)) := F140.at [.v (.str), .v (.int .u8), .v (.int .i64)] [.v (.str)] n 4 ⟨[U, .one (.int .u8 x0), .one (.int .i64 x1), U, U, U, U, .one (.own 0), .one (.int .i64 x2), U, U, U, U, U, U, U, U, U, U, U, U, U, U, U, U, U, U, U, U, U, U, U, U, U, U, U, U, U, U, U, U, U, U, U, U], [(0, .row 1000005 (.int .u8) x3 [] false)]⟩
theorem F140_run (n : Nat) (a0 : List Int) (a1 : Int) (a2 : Int) : F140.run [.v (.str), .v (.int .u8), .v (.int .i64)] [.v (.str)] n (a0, a1, a2, ()) =
 if a0.length ≤ lim then
  F140c3 n (a1) (a2) ((0 : Int)) (a0)
 else
  none := by kernel_rfl
theorem F140c3_eq (n x0 x1 x2 x3 : _) : F140c3 (n + 1) x0 x1 x2 x3 =
 bif decide (x2 < (↑x3.length : Int)) then
  if (0 : Int) ≤ x2 then
   if x2 < (↑x3.length : Int) then
    bif decide (x0 ≤ x3.getD x2.toNat (0 : Int)) then
     if (0 : Int) ≤ x2 then
      if x2 < (↑x3.length : Int) then
       bif decide (x3.getD x2.toNat (0 : Int) < IntKind.u8.wrap (x0 + (26 : Int))) then
        if (0 : Int) ≤ x2 then
         if x2 < (↑x3.length : Int) then
          if (0 : Int) ≤ x2 then
           if x2 < (↑x3.length : Int) then
            F140c4 n (x0) (x1) (x2) (x3.set x2.toNat (IntKind.u8.wrap (IntKind.i64.wrap (IntKind.i64.wrap (x3.getD x2.toNat (0 : Int)) + x1))))
           else
            none
          else
           none
         else
          none
        else
         none
       else
        F140c4 n (x0) (x1) (x2) (x3)
      else
       none
     else
      none
    else
     F140c4 n (x0) (x1) (x2) (x3)
   else
    none
  else
   none
 else
  some ((List.map Eng.byteOf x3, ()), ()) := by kernel_rfl
theorem F140c4_eq (n x0 x1 x2 x3 : _) : F140c4 (n + 1) x0 x1 x2 x3 =
 F140c3 n (x0) (x1) (IntKind.i64.wrap (x2 + (1 : Int))) (x3) := by kernel_rfl
noncomputable def F114c1 (n : Nat) (x0 : List Int) := F114.at [.v (.str)] [.own 3 (.int .i64), .v (.int .i64), .v (.bool)] n 1 ⟨[.one (.str x0), U, U, U, U, U, U, U, U, U, U, U, U, U, U, U, U, U, U, U, U, U, U], []⟩
noncomputable def F114c14 (n : Nat)  := F114.at [.v (.str)] [.own 3 (.int .i64), .v (.int .i64), .v (.bool)] n 14 ⟨[U, U, U, U, U, U, U, U, U, U, U, U, U, U, U, U, U, U, U, U, U, U, U], []⟩
theorem F114_run (n : Nat) (a0 : List Int) : F114.run [.v (.str)] [.own 3 (.int .i64), .v (.int .i64), .v (.bool)] n (a0, ()) =
 F114c1 n (a0) := by kernel_rfl
theorem F114c1_eq (n x0 : _) : F114c1 (n + 1) x0 =
 bif decide (x0 = [(108 : Int), (101 : Int), (110 : Int), (103 : Int), (116 : Int), (104 : Int)]) then
  some (([(3 : Int)], ((2 : Int), (true, ()))), ())
 else
  bif decide (x0 = [(117 : Int), (112 : Int), (112 : Int), (101 : Int), (114 : Int)]) then
   bif decide (x0 = [(117 : Int), (112 : Int), (112 : Int), (101 : Int), (114 : Int)]) then
    some (([(3 : Int)], ((3 : Int), (true, ()))), ())
   else
    bif decide (x0 = [(115 : Int), (117 : Int), (98 : Int), (115 : Int), (116 : Int), (114 : Int)]) then
     some (([(3 : Int), (2 : Int), (2 : Int)], ((3 : Int), (true, ()))), ())
    else
     bif decide (x0 = [(97 : Int), (98 : Int), (115 : Int)]) then
      bif decide (x0 = [(97 : Int), (98 : Int), (115 : Int)]) then
       some (([(2 : Int)], ((2 : Int), (true, ()))), ())
      else
       bif decide (x0 = [(115 : Int), (116 : Int), (97 : Int), (114 : Int), (116 : Int), (115 : Int), (95 : Int), (119 : Int), (105 : Int), (116 : Int), (104 : Int)]) then
        some (([(3 : Int), (3 : Int)], ((1 : Int), (true, ()))), ())
       else
        F114c14 n
     else
      bif decide (x0 = [(112 : Int), (97 : Int), (114 : Int), (105 : Int), (116 : Int), (121 : Int)]) then
       some (([(2 : Int)], ((2 : Int), (true, ()))), ())
      else
       bif decide (x0 = [(115 : Int), (116 : Int), (97 : Int), (114 : Int), (116 : Int), (115 : Int), (95 : Int), (119 : Int), (105 : Int), (116 : Int), (104 : Int)]) then
        some (([(3 : Int), (3 : Int)], ((1 : Int), (true, ()))), ())
       else
        F114c14 n
  else
   bif decide (x0 = [(108 : Int), (111 : Int), (119 : Int), (101 : Int), (114 : Int)]) then
    some (([(3 : Int)], ((3 : Int), (true, ()))), ())
   else
    bif decide (x0 = [(115 : Int), (117 : Int), (98 : Int), (115 : Int), (116 : Int), (114 : Int)]) then
     some (([(3 : Int), (2 : Int), (2 : Int)], ((3 : Int), (true, ()))), ())
    else
     bif decide (x0 = [(97 : Int), (98 : Int), (115 : Int)]) then
      bif decide (x0 = [(97 : Int), (98 : Int), (115 : Int)]) then
       some (([(2 : Int)], ((2 : Int), (true, ()))), ())
      else
       bif decide (x0 = [(115 : Int), (116 : Int), (97 : Int), (114 : Int), (116 : Int), (115 : Int), (95 : Int), (119 : Int), (105 : Int), (116 : Int), (104 : Int)]) then
        some (([(3 : Int), (3 : Int)], ((1 : Int), (true, ()))), ())
       else
        F114c14 n
     else
      bif decide (x0 = [(112 : Int), (97 : Int), (114 : Int), (105 : Int), (116 : Int), (121 : Int)]) then
       some (([(2 : Int)], ((2 : Int), (true, ()))), ())
      else
       bif decide (x0 = [(115 : Int), (116 : Int), (97 : Int), (114 : Int), (116 : Int), (115 : Int), (95 : Int), (119 : Int), (105 : Int), (116 : Int), (104 : Int)]) then
        some (([(3 : Int), (3 : Int)], ((1 : Int), (true, ()))), ())
       else
        F114c14 n  := by kernel_rfl
theorem F114c14_eq (n : Nat)  : F114c14 (n + 1)  =
 some (([], ((0 : Int), (false, ()))), ()) := by kernel_rfl
end Go.Proofs.Tryz
