/- The functions of the program as the engine follows them (printed by a program of ours): their code, what is known of them, and the equations of their runs. -/
import Derived.Test.YtlkllggdiakpbaaGreatDoorL42Fns
set_option linter.unusedVariables false
set_option maxRecDepth 20000
namespace Go.Proofs.Tryz
open Go.Eng
theorem F33_run (g33 : G33) (n : Nat) (a0 : Scope) (a1 : Ex) : (F33 g33).run [.v (.nm 4), .v (.nm 1)] [.v (.nm 3)] n (a0, a1, ()) =
 bif decide (a1.kind = (1 : Int)) then
  (F51.run [PK.v (Ty.int .i64), PK.v (Ty.nm 0), PK.v (Ty.int .i64)] [RK.ag 3 AGV] 4000000 (a1.f_Type, a1.value, (↑a0.sel.length : Int), ())).bind fun r0 =>
   some (({ f_Type := r0.fst.fst.fst, ints := r0.fst.fst.snd.fst, texts := r0.fst.fst.snd.snd.fst, nulls := r0.fst.fst.snd.snd.snd.fst : Vec }, ()), ())
 else
  bif decide (a1.kind = (2 : Int)) then
   bif decide ((0 : Int) ≤ a1.slot) then
    bif decide (a1.slot < (↑a0.columns.length : Int)) then
     if (0 : Int) ≤ a1.slot then
      if a1.slot < (↑a0.columns.length : Int) then
       (F52.run [PK.v (Ty.nm 3), PK.v (Ty.int .i64).sl] [RK.v (Ty.nm 3)] 4000000 (a0.columns.getD a1.slot.toNat zVec, a0.sel, ())).bind fun r1 =>
        some ((Vec.mk r1.fst.fst.f_Type r1.fst.fst.ints r1.fst.fst.texts r1.fst.fst.nulls, ()), ())
      else
       none
     else
      none
    else
     (F62.run [PK.v (Ty.int .i64), PK.v (Ty.int .i64)] [RK.ag 3 AGV] 4000000 (a1.f_Type, (↑a0.sel.length : Int), ())).bind fun r2 =>
      some (({ f_Type := r2.fst.fst.fst, ints := r2.fst.fst.snd.fst, texts := r2.fst.fst.snd.snd.fst, nulls := r2.fst.fst.snd.snd.snd.fst : Vec }, ()), ())
   else
    (F62.run [PK.v (Ty.int .i64), PK.v (Ty.int .i64)] [RK.ag 3 AGV] 4000000 (a1.f_Type, (↑a0.sel.length : Int), ())).bind fun r3 =>
     some (({ f_Type := r3.fst.fst.fst, ints := r3.fst.fst.snd.fst, texts := r3.fst.fst.snd.snd.fst, nulls := r3.fst.fst.snd.snd.snd.fst : Vec }, ()), ())
  else
   bif decide (a1.kind = (3 : Int)) then
    if (0 : Int) < (↑a1.args.length : Int) then
     (g33 (a0, a1.args.getD (Int.toNat (0 : Int)) zEx, ())).bind fun r4 =>
      (F53.run [PK.v (Ty.nm 3)] [RK.v (Ty.nm 3)] 4000000 (r4.fst.fst, ())).bind fun r5 =>
       some ((Vec.mk r5.fst.fst.f_Type r5.fst.fst.ints r5.fst.fst.texts r5.fst.fst.nulls, ()), ())
    else
     none
   else
    bif decide (a1.kind = (4 : Int)) then
     if (0 : Int) < (↑a1.args.length : Int) then
      (g33 (a0, a1.args.getD (Int.toNat (0 : Int)) zEx, ())).bind fun r6 =>
       (F56000054.run [PK.v (Ty.int .i64), PK.v (Ty.int .i64), PK.fn 55 [(3 : Nat)], PK.bc AGW] [RK.v (Ty.nm 3)] 4000000 (a1.f_Type, (↑a0.sel.length : Int), (), (r6.fst.fst.f_Type, r6.fst.fst.ints, r6.fst.fst.texts, r6.fst.fst.nulls, ()), ())).bind fun r7 =>
        some ((Vec.mk r7.fst.fst.f_Type r7.fst.fst.ints r7.fst.fst.texts r7.fst.fst.nulls, ()), ())
     else
      none
    else
     bif decide (a1.kind = (5 : Int)) then
      ((F57 g33).run [PK.v (Ty.nm 4), PK.v (Ty.nm 1)] [RK.v (Ty.nm 3)] 4000000 (a0, a1, ())).bind fun r8 =>
       some ((Vec.mk r8.fst.fst.f_Type r8.fst.fst.ints r8.fst.fst.texts r8.fst.fst.nulls, ()), ())
     else
      bif decide (a1.kind = (6 : Int)) then
       if (0 : Int) < (↑a1.args.length : Int) then
        (g33 (a0, a1.args.getD (Int.toNat (0 : Int)) zEx, ())).bind fun r9 =>
         (F58.run [PK.v (Ty.nm 3)] [RK.v (Ty.nm 3)] 4000000 (r9.fst.fst, ())).bind fun r10 =>
          some ((Vec.mk r10.fst.fst.f_Type r10.fst.fst.ints r10.fst.fst.texts r10.fst.fst.nulls, ()), ())
       else
        none
      else
       bif decide (a1.kind = (7 : Int)) then
        ((F59 g33).run [PK.v (Ty.nm 4), PK.v (Ty.nm 1)] [RK.v (Ty.nm 3)] 4000000 (a0, a1, ())).bind fun r11 =>
         some ((Vec.mk r11.fst.fst.f_Type r11.fst.fst.ints r11.fst.fst.texts r11.fst.fst.nulls, ()), ())
       else
        bif decide (a1.kind = (8 : Int)) then
         ((F60 g33).run [PK.v (Ty.nm 4), PK.v (Ty.nm 1)] [RK.v (Ty.nm 3)] 4000000 (a0, a1, ())).bind fun r12 =>
          some ((Vec.mk r12.fst.fst.f_Type r12.fst.fst.ints r12.fst.fst.texts r12.fst.fst.nulls, ()), ())
        else
         bif decide (a1.kind = (9 : Int)) then
          ((F61 g33).run [PK.v (Ty.nm 4), PK.v (Ty.nm 1)] [RK.v (Ty.nm 3)] 4000000 (a0, a1, ())).bind fun r13 =>
           some ((Vec.mk r13.fst.fst.f_Type r13.fst.fst.ints r13.fst.fst.texts r13.fst.fst.nulls, ()), ())
         else
          (F62.run [PK.v (Ty.int .i64), PK.v (Ty.int .i64)] [RK.ag 3 AGV] 4000000 (a1.f_Type, (↑a0.sel.length : Int), ())).bind fun r14 =>
           some (({ f_Type := r14.fst.fst.fst, ints := r14.fst.fst.snd.fst, texts := r14.fst.fst.snd.snd.fst, nulls := r14.fst.fst.snd.snd.snd.fst : Vec }, ()), ()) := by kernel_rfl
theorem F32_run (n : Nat) (a0 : Batch) : F32.run [.v (.nm 2)] [.v (.sl (.int .i64))] n (a0, ()) =
 bif a0.all then
  (F50.run [PK.v (Ty.int .i64)] [RK.own 3 (Ty.int .i64)] 4000000 (a0.len, ())).bind fun r0 =>
   some ((r0.fst.fst, ()), ())
 else
  some ((a0.sel, ()), ()) := by kernel_rfl
noncomputable def F17c4 (n : Nat) (x0 : List (Ex)) (x1 : Int) (x2 : Int) (x3 : Int) (x4 : Bool) (x5 : Scope) (x6 : Int) (x7 : Bool) (x8 : List (Vec)) (x9 : List (Int)) (x10 : List (Vec)) (x11 : List (Int)) := F17.at [.v (.sl (.nm 1)), .v (.nm 2)] [.v (.nm 2)] n 4 ⟨[U, U, U, U, .one (.bptr 0 0), .one (.bptr 1 0), .one (.bptr 2 0), U, U, U, U, U, U, U, U, U, U, U, .one (.data (.sl (.nm 1)) x0 []), .one (.int .i64 x1), .one (.int .i64 x2), U, U, U, U, U, U, U, U, U, U, U, U, U], [(0, .cells [.own 3, .int .i64 x3, .bool x4, .own 4]), (1, .whole (.nm 4) x5 []), (2, .cells [.own 5, .int .i64 x6, .bool x7, .own 6]), (3, .row 40 (.nm 3) x8 [] false), (4, .row 3 (.int .i64) x9 [] false), (5, .row 40 (.nm 3) x10 [] false), (6, .row 3 (.int .i64) x11 [] false)]⟩
theorem F17_run (n : Nat) (a0 : List (Ex)) (a1 : Batch) : F17.run [.v (.sl (.nm 1)), .v (.nm 2)] [.v (.nm 2)] n (a0, a1, ()) =
 (F32.run [PK.v (Ty.nm 2)] [RK.v (Ty.int .i64).sl] 4000000 (a1, ())).bind fun r0 =>
  F17c4 n (a0) ((↑a0.length : Int)) ((0 : Int)) ((0 : Int)) (false) ({ columns := a1.columns, sel := r0.fst.fst : Scope }) ((↑(List.length r0.fst.fst) : Int)) (true) ([]) ([]) ([]) ([]) := by kernel_rfl
theorem F17c4_eq (n x0 x1 x2 x3 x4 x5 x6 x7 x8 x9 x10 x11 : _) : F17c4 (n + 1) x0 x1 x2 x3 x4 x5 x6 x7 x8 x9 x10 x11 =
 bif decide (x2 < x1) then
  if (0 : Int) ≤ x2 then
   if x2 < (↑x0.length : Int) then
    (R33 (x5, x0.getD x2.toNat zEx, ())).bind fun r1 =>
     if x10.length + (1 : Nat) ≤ lim then
      F17c4 n (x0) (x1) (IntKind.i64.wrap (x2 + (1 : Int))) (x3) (x4) (x5) (x6) (x7) (x8) (x9) (x10 ++ ([r1.fst.fst] : List (Vec))) (x11)
     else
      none
   else
    none
  else
   none
 else
  some (({ columns := x10, len := x6, all := x7, sel := x11 : Batch }, ()), ()) := by kernel_rfl
noncomputable def F11c3 (n : Nat) (x0 : Vec) (x1 : Vec) := F11.at [.v (.nm 3), .v (.nm 3)] [.v (.bool)] n 3 ⟨[U, U, .one (.bptr 0 0), .one (.bptr 1 0), U, U, U, U, U, U, U, U, U, U, U, U, U, U, U, U, U, U, U, U, U, U, U, U, U, U, U, U, U, U, U, U, U, U, U, U, U, U, U, U, U, U, U, U, U, U, U, U, U, U, U, U, U, U, U, U, U, U, U, U, U, U, U, U, U, U, U, U, U, U, U, U, U, U, U, U, U, U, U, U, U, U, U, U, U, U, U, U, U, U], [(0, .whole (.nm 3) x0 []), (1, .whole (.nm 3) x1 [])]⟩
noncomputable def F11c4 (n : Nat) (x0 : Int) (x1 : Vec) (x2 : Vec) := F11.at [.v (.nm 3), .v (.nm 3)] [.v (.bool)] n 4 ⟨[U, U, .one (.bptr 0 0), .one (.bptr 1 0), U, .one (.int .i64 x0), U, U, U, U, U, U, U, U, U, U, U, U, U, U, U, U, U, U, U, U, U, U, U, U, U, U, U, U, U, U, U, U, U, U, U, U, U, U, U, U, U, U, U, U, U, U, U, U, U, U, U, U, U, U, U, U, U, U, U, U, U, U, U, U, U, U, U, U, U, U, U, U, U, U, U, U, U, U, U, U, U, U, U, U, U, U, U, U], [(0, .whole (.nm 3) x1 []), (1, .whole (.nm 3) x2 [])]⟩
noncomputable def F11c9 (n : Nat) (x0 : Int) (x1 : Vec) (x2 : Vec) := F11.at [.v (.nm 3), .v (.nm 3)] [.v (.bool)] n 9 ⟨[U, U, .one (.bptr 0 0), .one (.bptr 1 0), U, U, .one (.int .i64 x0), U, U, U, U, U, U, U, U, U, U, U, U, U, U, U, U, U, U, U, U, U, U, U, U, U, U, U, U, U, U, U, U, U, U, U, U, U, U, U, U, U, U, U, U, U, U, U, U, U, U, U, U, U, U, U, U, U, U, U, U, U, U, U, U, U, U, U, U, U, U, U, U, U, U, U, U, U, U, U, U, U, U, U, U, U, U, U], [(0, .whole (.nm 3) x1 []), (1, .whole (.nm 3) x2 [])]⟩
noncomputable def F11c14 (n : Nat) (x0 : Int) (x1 : Vec) (x2 : Vec) := F11.at [.v (.nm 3), .v (.nm 3)] [.v (.bool)] n 14 ⟨[U, U, .one (.bptr 0 0), .one (.bptr 1 0), U, U, U, .one (.int .i64 x0), U, U, U, U, U, U, U, U, U, U, U, U, U, U, U, U, U, U, U, U, U, U, U, U, U, U, U, U, U, U, U, U, U, U, U, U, U, U, U, U, U, U, U, U, U, U, U, U, U, U, U, U, U, U, U, U, U, U, U, U, U, U, U, U, U, U, U, U, U, U, U, U, U, U, U, U, U, U, U, U, U, U, U, U, U, U], [(0, .whole (.nm 3) x1 []), (1, .whole (.nm 3) x2 [])]⟩
theorem F11_run (n : Nat) (a0 : Vec) (a1 : Vec) : F11.run [.v (.nm 3), .v (.nm 3)] [.v (.bool)] n (a0, a1, ()) =
 bif !decide (a0.f_Type = a1.f_Type) then
  some ((false, ()), ())
 else
  bif !decide ((↑a0.nulls.length : Int) = (↑a1.nulls.length : Int)) then
   some ((false, ()), ())
  else
   bif !decide ((↑a0.ints.length : Int) = (↑a1.ints.length : Int)) then
    some ((false, ()), ())
   else
    bif !decide ((↑a0.texts.length : Int) = (↑a1.texts.length : Int)) then
     some ((false, ()), ())
    else
     F11c3 n (a0) (a1) := by kernel_rfl
theorem F11c3_eq (n x0 x1 : _) : F11c3 (n + 1) x0 x1 =
 F11c4 n ((0 : Int)) (x0) (x1) := by kernel_rfl
theorem F11c4_eq (n x0 x1 x2 : _) : F11c4 (n + 1) x0 x1 x2 =
 bif decide (x0 < (↑x1.nulls.length : Int)) then
  if (0 : Int) ≤ x0 then
   if x0 < (↑x1.nulls.length : Int) then
    if (0 : Int) ≤ x0 then
     if x0 < (↑x2.nulls.length : Int) then
      bif !decide (x1.nulls.getD x0.toNat false = x2.nulls.getD x0.toNat false) then
       some ((false, ()), ())
      else
       F11c4 n (IntKind.i64.wrap (x0 + (1 : Int))) (x1) (x2)
     else
      none
    else
     none
   else
    none
  else
   none
 else
  F11c9 n ((0 : Int)) (x1) (x2) := by kernel_rfl
theorem F11c9_eq (n x0 x1 x2 : _) : F11c9 (n + 1) x0 x1 x2 =
 bif decide (x0 < (↑x1.ints.length : Int)) then
  if (0 : Int) ≤ x0 then
   if x0 < (↑x1.ints.length : Int) then
    if (0 : Int) ≤ x0 then
     if x0 < (↑x2.ints.length : Int) then
      bif !decide (x1.ints.getD x0.toNat (0 : Int) = x2.ints.getD x0.toNat (0 : Int)) then
       some ((false, ()), ())
      else
       F11c9 n (IntKind.i64.wrap (x0 + (1 : Int))) (x1) (x2)
     else
      none
    else
     none
   else
    none
  else
   none
 else
  F11c14 n ((0 : Int)) (x1) (x2) := by kernel_rfl
theorem F11c14_eq (n x0 x1 x2 : _) : F11c14 (n + 1) x0 x1 x2 =
 bif decide (x0 < (↑x1.texts.length : Int)) then
  if (0 : Int) ≤ x0 then
   if x0 < (↑x1.texts.length : Int) then
    if (0 : Int) ≤ x0 then
     if x0 < (↑x2.texts.length : Int) then
      bif !decide (x1.texts.getD x0.toNat [] = x2.texts.getD x0.toNat []) then
       some ((false, ()), ())
      else
       F11c14 n (IntKind.i64.wrap (x0 + (1 : Int))) (x1) (x2)
     else
      none
    else
     none
   else
    none
  else
   none
 else
  some ((true, ()), ()) := by kernel_rfl
noncomputable def F37c4 (n : Nat) (x0 : List (Int)) (x1 : List (Int)) (x2 : Int) := F37.at [.v (.sl (.int .i64)), .v (.sl (.int .i64))] [.v (.bool)] n 4 ⟨[.one (.data (.sl (.int .i64)) x0 []), .one (.data (.sl (.int .i64)) x1 []), U, U, U, .one (.int .i64 x2), U, U, U, U, U, U, U, U, U, U, U, U, U, U, U, U, U, U, U, U], []⟩
theorem F37_run (n : Nat) (a0 : List (Int)) (a1 : List (Int)) : F37.run [.v (.sl (.int .i64)), .v (.sl (.int .i64))] [.v (.bool)] n (a0, a1, ()) =
 bif !decide ((↑a0.length : Int) = (↑a1.length : Int)) then
  some ((false, ()), ())
 else
  F37c4 n (a0) (a1) ((0 : Int)) := by kernel_rfl
theorem F37c4_eq (n x0 x1 x2 : _) : F37c4 (n + 1) x0 x1 x2 =
 bif decide (x2 < (↑x0.length : Int)) then
  if (0 : Int) ≤ x2 then
   if x2 < (↑x0.length : Int) then
    if (0 : Int) ≤ x2 then
     if x2 < (↑x1.length : Int) then
      bif !decide (x0.getD x2.toNat (0 : Int) = x1.getD x2.toNat (0 : Int)) then
       some ((false, ()), ())
      else
       F37c4 n (x0) (x1) (IntKind.i64.wrap (x2 + (1 : Int)))
     else
      none
    else
     none
   else
    none
  else
   none
 else
  some ((true, ()), ()) := by kernel_rfl
noncomputable def F14c3 (n : Nat) (x0 : Batch) (x1 : Batch) := F14.at [.v (.nm 2), .v (.nm 2)] [.v (.bool)] n 3 ⟨[U, U, .one (.bptr 0 0), .one (.bptr 1 0), U, U, U, U, U, U, U, U, U, U, U, U, U, U, U, U, U, U, U, U, U, U, U, U, U, U, U, U, U, U, U, U, U, U, U, U, U, U, U, U, U, U, U, U, U, U, U, U, U, U], [(0, .whole (.nm 2) x0 []), (1, .whole (.nm 2) x1 [])]⟩
noncomputable def F14c4 (n : Nat) (x0 : Int) (x1 : Batch) (x2 : Batch) := F14.at [.v (.nm 2), .v (.nm 2)] [.v (.bool)] n 4 ⟨[U, U, .one (.bptr 0 0), .one (.bptr 1 0), U, .one (.int .i64 x0), U, U, U, U, U, U, U, U, U, U, U, U, U, U, U, U, U, U, U, U, U, U, U, U, U, U, U, U, U, U, U, U, U, U, U, U, U, U, U, U, U, U, U, U, U, U, U, U], [(0, .whole (.nm 2) x1 []), (1, .whole (.nm 2) x2 [])]⟩
theorem F14_run (n : Nat) (a0 : Batch) (a1 : Batch) : F14.run [.v (.nm 2), .v (.nm 2)] [.v (.bool)] n (a0, a1, ()) =
 bif !decide (a0.len = a1.len) then
  some ((false, ()), ())
 else
  bif !decide (a0.all = a1.all) then
   some ((false, ()), ())
  else
   (F37.run [PK.v (Ty.int .i64).sl, PK.v (Ty.int .i64).sl] [RK.v Ty.bool] 4000000 (a0.sel, a1.sel, ())).bind fun r0 =>
    bif !r0.fst.fst then
     some ((false, ()), ())
    else
     bif !decide ((↑a0.columns.length : Int) = (↑a1.columns.length : Int)) then
      some ((false, ()), ())
     else
      F14c3 n (a0) (a1) := by kernel_rfl
theorem F14c3_eq (n x0 x1 : _) : F14c3 (n + 1) x0 x1 =
 F14c4 n ((0 : Int)) (x0) (x1) := by kernel_rfl
theorem F14c4_eq (n x0 x1 x2 : _) : F14c4 (n + 1) x0 x1 x2 =
 bif decide (x0 < (↑x1.columns.length : Int)) then
  if (0 : Int) ≤ x0 then
   if x0 < (↑x1.columns.length : Int) then
    if (0 : Int) ≤ x0 then
     if x0 < (↑x2.columns.length : Int) then
      (F11.run [PK.v (Ty.nm 3), PK.v (Ty.nm 3)] [RK.v Ty.bool] 4000000 (x1.columns.getD x0.toNat zVec, x2.columns.getD x0.toNat zVec, ())).bind fun r1 =>
       bif !r1.fst.fst then
        some ((false, ()), ())
       else
        F14c4 n (IntKind.i64.wrap (x0 + (1 : Int))) (x1) (x2)
     else
      none
    else
     none
   else
    none
  else
   none
 else
  some ((true, ()), ()) := by kernel_rfl
theorem F76_run (n : Nat) (a0 : Val) : F76.run [.v (.nm 0)] [.v (.bool)] n (a0, ()) =
 bif decide (a0.kind = (1 : Int)) then
  some ((decide (a0.int = (1 : Int)), ()), ())
 else
  some ((false, ()), ()) := by kernel_rfl
noncomputable def F141c3 (n : Nat) (x0 : List Int) (x1 : Int) (x2 : Int) (x3 : List Int) (x4 : Int) := F141.at [.v (.str), .v (.int .i64), .v (.int .i64)] [.v (.str)] n 3 ⟨[.one (.str x0), .one (.int .i64 x1), .one (.int .i64 x2), U, U, U, U, .one (.str x3), .one (.int .i64 x4), U, U, U, U, U, U, U, U, U, U, U, U, U, U, U, U, U, U, U, U, U, U, U, U, U, U, U, U, U, U, U, U, U, U, U, U, U, U, U, U, U, U, U, U, U, U, U, U, U, U, U, U, U, U, U, U], []⟩
noncomputable def F141c4 (n : Nat) (x0 : List Int) (x1 : Int) (x2 : Int) (x3 : List Int) (x4 : Int) := F141.at [.v (.str), .v (.int .i64), .v (.int .i64)] [.v (.str)] n 4 ⟨[.one (.str x0), .one (.int .i64 x1), .one (.int .i64 x2), U, U, U, U, .one (.str x3), .one (.int .i64 x4), U, U, U, U, U, U, U, U, U, U, U, U, U, U, U, U, U, U, U, U, U, U, U, U, U, U, U, U, U, U, U, U, U, U, U, U, U, U, U, U, U, U, U, U, U, U, U, U, U, U, U, U, U, U, U, U], []⟩
theorem F141_run (n : Nat) (a0 : List Int) (a1 : Int) (a2 : Int) : F141.run [.v (.str), .v (.int .i64), .v (.int .i64)] [.v (.str)] n (a0, a1, a2, ()) =
 F141c3 n (a0) (a1) (a2) ([]) ((0 : Int)) := by kernel_rfl
theorem F141c3_eq (n x0 x1 x2 x3 x4 : _) : F141c3 (n + 1) x0 x1 x2 x3 x4 =
 bif decide (x4 < (↑x0.length : Int)) then
  bif decide (x1 ≤ IntKind.i64.wrap (x4 + (1 : Int))) then
   bif decide ((1 : Int) ≤ x2) then
    bif decide ((0 : Int) < x1) then
     bif decide (IntKind.i64.wrap (IntKind.i64.wrap (x4 + (1 : Int)) - x1) < x2) then
      if (0 : Int) ≤ x4 then
       if x4 ≤ IntKind.i64.wrap (x4 + (1 : Int)) then
        if IntKind.i64.wrap (x4 + (1 : Int)) ≤ (↑x0.length : Int) then
         if x3.length + (List.drop x4.toNat (List.take (IntKind.i64.wrap (x4 + (1 : Int))).toNat x0)).length ≤ lim then
          F141c4 n (x0) (x1) (x2) (x3 ++ List.drop x4.toNat (List.take (IntKind.i64.wrap (x4 + (1 : Int))).toNat x0)) (x4)
         else
          none
        else
         none
       else
        none
      else
       none
     else
      bif decide (x1 ≤ (0 : Int)) then
       bif decide ((-9223372036854775808 : Int) < x1) then
        bif decide (IntKind.i64.wrap (x4 + (1 : Int)) < x2) then
         bif decide (IntKind.i64.wrap ((0 : Int) - x1) < IntKind.i64.wrap (x2 - IntKind.i64.wrap (x4 + (1 : Int)))) then
          if (0 : Int) ≤ x4 then
           if x4 ≤ IntKind.i64.wrap (x4 + (1 : Int)) then
            if IntKind.i64.wrap (x4 + (1 : Int)) ≤ (↑x0.length : Int) then
             if x3.length + (List.drop x4.toNat (List.take (IntKind.i64.wrap (x4 + (1 : Int))).toNat x0)).length ≤ lim then
              F141c4 n (x0) (x1) (x2) (x3 ++ List.drop x4.toNat (List.take (IntKind.i64.wrap (x4 + (1 : Int))).toNat x0)) (x4)
             else
              none
            else
             none
           else
            none
          else
           none
         else
          F141c4 n (x0) (x1) (x2) (x3) (x4)
        else
         F141c4 n (x0) (x1) (x2) (x3) (x4)
       else
        F141c4 n (x0) (x1) (x2) (x3) (x4)
      else
       F141c4 n (x0) (x1) (x2) (x3) (x4)
    else
     bif decide (x1 ≤ (0 : Int)) then
      bif decide ((-9223372036854775808 : Int) < x1) then
       bif decide (IntKind.i64.wrap (x4 + (1 : Int)) < x2) then
        bif decide (IntKind.i64.wrap ((0 : Int) - x1) < IntKind.i64.wrap (x2 - IntKind.i64.wrap (x4 + (1 : Int)))) then
         if (0 : Int) ≤ x4 then
          if x4 ≤ IntKind.i64.wrap (x4 + (1 : Int)) then
           if IntKind.i64.wrap (x4 + (1 : Int)) ≤ (↑x0.length : Int) then
            if x3.length + (List.drop x4.toNat (List.take (IntKind.i64.wrap (x4 + (1 : Int))).toNat x0)).length ≤ lim then
             F141c4 n (x0) (x1) (x2) (x3 ++ List.drop x4.toNat (List.take (IntKind.i64.wrap (x4 + (1 : Int))).toNat x0)) (x4)
            else
             none
           else
            none
          else
           none
         else
          none
        else
         F141c4 n (x0) (x1) (x2) (x3) (x4)
       else
        F141c4 n (x0) (x1) (x2) (x3) (x4)
      else
       F141c4 n (x0) (x1) (x2) (x3) (x4)
     else
      F141c4 n (x0) (x1) (x2) (x3) (x4)
   else
    F141c4 n (x0) (x1) (x2) (x3) (x4)
  else
   F141c4 n (x0) (x1) (x2) (x3) (x4)
 else
  some ((x3, ()), ()) := by kernel_rfl
theorem F141c4_eq (n x0 x1 x2 x3 x4 : _) : F141c4 (n + 1) x0 x1 x2 x3 x4 =
 F141c3 n (x0) (x1) (x2) (x3) (IntKind.i64.wrap (x4 + (1 : Int))) := by kernel_rfl
noncomputable def F140c3 (n : Nat) (x0 : Int) (x1 : Int) (x2 : Int) (x3 : List (Int)) := F140.at [.v (.str), .v (.int .u8), .v (.int .i64)] [.v (.str)] n 3 ⟨[U, .one (.int .u8 x0), .one (.int .i64 x1), U, U, U, U, .one (.own 0), .one (.int .i64 x2), U, U, U, U, U, U, U, U, U, U, U, U, U, U, U, U, U, U, U, U, U, U, U, U, U, U, U, U, U, U, U, U, U, U, U, U], [(0, .row 1000005 (.int .u8) x3 [] false)]⟩
noncomputable def F140c4 (n : Nat) (x0 : Int) (x1 : Int) (x2 : Int) (x3 : List (Int)) := F140.at [.v (.str), .v (.int .u8), .v (.int .i64)] [.v (.str)] n 4 ⟨[U, .one (.int .u8 x0), .one (.int .i64 x1), U, U, U, U, .one (.own 0), .one (.int .i64 x2), U, U, U, U, U, U, U, U, U, U, U, U, U, U, U, U, U, U, U, U, U, U, U, U, U, U, U, U, U, U, U, U, U, U, U, U], [(0, .row 1000005 (.int .u8) x3 [] false)]⟩
theorem F140_run (n : Nat) (a0 : List Int) (a1 : Int) (a2 : Int) : F140.run [.v (.str), .v (.int .u8), .v (.int .i64)] [.v (.str)] n (a0, a1, a2, ()) =
 if a0.length ≤ lim then
  F140c3 n (a1) (a2) ((0 : Int)) (a0)
 else
  none := by kernel_rfl
theorem F140c3_eq (n x0 x1 x2 x3 : _) : F140c3 (n + 1) x0 x1 x2 x3 =
 bif decide (x2 < (↑x3.length : Int)) then
  if (0 : Int) ≤ x2 then
   if x2 < (↑x3.length : Int) then
    bif decide (x0 ≤ x3.getD x2.toNat (0 : Int)) then
     if (0 : Int) ≤ x2 then
      if x2 < (↑x3.length : Int) then
       bif decide (x3.getD x2.toNat (0 : Int) < IntKind.u8.wrap (x0 + (26 : Int))) then
        if (0 : Int) ≤ x2 then
         if x2 < (↑x3.length : Int) then
          if (0 : Int) ≤ x2 then
           if x2 < (↑x3.length : Int) then
            F140c4 n (x0) (x1) (x2) (x3.set x2.toNat (IntKind.u8.wrap (IntKind.i64.wrap (IntKind.i64.wrap (x3.getD x2.toNat (0 : Int)) + x1))))
           else
            none
          else
           none
         else
          none
        else
         none
       else
        F140c4 n (x0) (x1) (x2) (x3)
      else
       none
     else
      none
    else
     F140c4 n (x0) (x1) (x2) (x3)
   else
    none
  else
   none
 else
  some ((List.map Eng.byteOf x3, ()), ()) := by kernel_rfl
theorem F140c4_eq (n x0 x1 x2 x3 : _) : F140c4 (n + 1) x0 x1 x2 x3 =
 F140c3 n (x0) (x1) (IntKind.i64.wrap (x2 + (1 : Int))) (x3) := by kernel_rfl
noncomputable def F115c20 (n : Nat) (x0 : Int) (x1 : Val) := F115.at [.v (.str), .v (.sl (.nm 0))] [.v (.nm 0)] n 20 ⟨[U, U, U, U, .one (.bptr 0 0), U, U, .one (.int .i64 x0), U, U, U, U, U, U, U, U, U, U, U, U, U, U, U, U, U, U, U, U, U, U, U, U, U, U, U, U, U, U, U, U, U, U, U, U, U, U, U, U, U, U, U, U, U, U, U, U, U, U, U, U, U, U, U, U, U, U, U, U, U, U, U, U, U, U, U, U, U, U, U, U, U, U, U, U, U, U, U, U, U, U, U, U, U, U, U, U, U, U, U], [(0, .whole (.nm 0) x1 [])]⟩
theorem F115_run (n : Nat) (a0 : List Int) (a1 : List (Val)) : F115.run [.v (.str), .v (.sl (.nm 0))] [.v (.nm 0)] n (a0, a1, ()) =
 bif decide (a0 = [(108 : Int), (101 : Int), (110 : Int), (103 : Int), (116 : Int), (104 : Int)]) then
  if (0 : Int) < (↑a1.length : Int) then
   some (({ kind := (2 : Int), int := (↑(a1.getD (Int.toNat (0 : Int)) zVal).text.length : Int), text := [] : Val }, ()), ())
  else
   none
 else
  bif decide (a0 = [(117 : Int), (112 : Int), (112 : Int), (101 : Int), (114 : Int)]) then
   if (0 : Int) < (↑a1.length : Int) then
    (F140.run [PK.v Ty.str, PK.v (Ty.int IntKind.u8), PK.v (Ty.int .i64)] [RK.v Ty.str] 4000000 ((a1.getD (Int.toNat (0 : Int)) zVal).text, (97 : Int), (-32 : Int), ())).bind fun r0 =>
     some (({ kind := (3 : Int), int := (0 : Int), text := r0.fst.fst : Val }, ()), ())
   else
    none
  else
   bif decide (a0 = [(108 : Int), (111 : Int), (119 : Int), (101 : Int), (114 : Int)]) then
    if (0 : Int) < (↑a1.length : Int) then
     (F140.run [PK.v Ty.str, PK.v (Ty.int IntKind.u8), PK.v (Ty.int .i64)] [RK.v Ty.str] 4000000 ((a1.getD (Int.toNat (0 : Int)) zVal).text, (65 : Int), (32 : Int), ())).bind fun r1 =>
      some (({ kind := (3 : Int), int := (0 : Int), text := r1.fst.fst : Val }, ()), ())
    else
     none
   else
    bif decide (a0 = [(115 : Int), (117 : Int), (98 : Int), (115 : Int), (116 : Int), (114 : Int)]) then
     if (0 : Int) < (↑a1.length : Int) then
      if (1 : Int) < (↑a1.length : Int) then
       if (2 : Int) < (↑a1.length : Int) then
        (F141.run [PK.v Ty.str, PK.v (Ty.int .i64), PK.v (Ty.int .i64)] [RK.v Ty.str] 4000000 ((a1.getD (Int.toNat (0 : Int)) zVal).text, (a1.getD (Int.toNat (1 : Int)) zVal).int, (a1.getD (Int.toNat (2 : Int)) zVal).int, ())).bind fun r2 =>
         some (({ kind := (3 : Int), int := (0 : Int), text := r2.fst.fst : Val }, ()), ())
       else
        none
      else
       none
     else
      none
    else
     bif decide (a0 = [(97 : Int), (98 : Int), (115 : Int)]) then
      if (0 : Int) < (↑a1.length : Int) then
       bif decide ((a1.getD (Int.toNat (0 : Int)) zVal).int = (-9223372036854775808 : Int)) then
        some ((zVal, ()), ())
       else
        if (0 : Int) < (↑a1.length : Int) then
         if (0 : Int) < (↑a1.length : Int) then
          some (({ kind := (2 : Int), int := imax (a1.getD (Int.toNat (0 : Int)) zVal).int (IntKind.i64.wrap ((0 : Int) - (a1.getD (Int.toNat (0 : Int)) zVal).int)), text := [] : Val }, ()), ())
         else
          none
        else
         none
      else
       none
     else
      bif decide (a0 = [(112 : Int), (97 : Int), (114 : Int), (105 : Int), (116 : Int), (121 : Int)]) then
       if (0 : Int) < (↑a1.length : Int) then
        some (({ kind := (2 : Int), int := bits BinOp.and IntKind.i64 (a1.getD (Int.toNat (0 : Int)) zVal).int (1 : Int), text := [] : Val }, ()), ())
       else
        none
      else
       if (0 : Int) < (↑a1.length : Int) then
        if (1 : Int) < (↑a1.length : Int) then
         bif decide ((↑(a1.getD (Int.toNat (1 : Int)) zVal).text.length : Int) ≤ (↑(a1.getD (Int.toNat (0 : Int)) zVal).text.length : Int)) then
          if (↑(a1.getD (Int.toNat (1 : Int)) zVal).text.length : Int) ≤ (↑(a1.getD (Int.toNat (0 : Int)) zVal).text.length : Int) then
           bif decide (List.drop (Int.toNat (0 : Int)) (List.take (↑(a1.getD (Int.toNat (1 : Int)) zVal).text.length : Int).toNat (a1.getD (Int.toNat (0 : Int)) zVal).text) = (a1.getD (Int.toNat (1 : Int)) zVal).text) then
            F115c20 n ((1 : Int)) (zVal)
           else
            F115c20 n ((0 : Int)) (zVal)
          else
           none
         else
          F115c20 n ((0 : Int)) (zVal)
        else
         none
       else
        none := by kernel_rfl
theorem F115c20_eq (n x0 x1 : _) : F115c20 (n + 1) x0 x1 =
 some (({ kind := (1 : Int), int := x0, text := [] : Val }, ()), ()) := by kernel_rfl
noncomputable def F114c1 (n : Nat) (x0 : List Int) := F114.at [.v (.str)] [.own 3 (.int .i64), .v (.int .i64), .v (.bool)] n 1 ⟨[.one (.str x0), U, U, U, U, U, U, U, U, U, U, U, U, U, U, U, U, U, U, U, U, U, U], []⟩
noncomputable def F114c14 (n : Nat)  := F114.at [.v (.str)] [.own 3 (.int .i64), .v (.int .i64), .v (.bool)] n 14 ⟨[U, U, U, U, U, U, U, U, U, U, U, U, U, U, U, U, U, U, U, U, U, U, U], []⟩
theorem F114_run (n : Nat) (a0 : List Int) : F114.run [.v (.str)] [.own 3 (.int .i64), .v (.int .i64), .v (.bool)] n (a0, ()) =
 F114c1 n (a0) := by kernel_rfl
theorem F114c1_eq (n x0 : _) : F114c1 (n + 1) x0 =
 bif decide (x0 = [(108 : Int), (101 : Int), (110 : Int), (103 : Int), (116 : Int), (104 : Int)]) then
  some (([(3 : Int)], ((2 : Int), (true, ()))), ())
 else
  bif decide (x0 = [(117 : Int), (112 : Int), (112 : Int), (101 : Int), (114 : Int)]) then
   bif decide (x0 = [(117 : Int), (112 : Int), (112 : Int), (101 : Int), (114 : Int)]) then
    some (([(3 : Int)], ((3 : Int), (true, ()))), ())
   else
    bif decide (x0 = [(115 : Int), (117 : Int), (98 : Int), (115 : Int), (116 : Int), (114 : Int)]) then
     some (([(3 : Int), (2 : Int), (2 : Int)], ((3 : Int), (true, ()))), ())
    else
     bif decide (x0 = [(97 : Int), (98 : Int), (115 : Int)]) then
      bif decide (x0 = [(97 : Int), (98 : Int), (115 : Int)]) then
       some (([(2 : Int)], ((2 : Int), (true, ()))), ())
      else
       bif decide (x0 = [(115 : Int), (116 : Int), (97 : Int), (114 : Int), (116 : Int), (115 : Int), (95 : Int), (119 : Int), (105 : Int), (116 : Int), (104 : Int)]) then
        some (([(3 : Int), (3 : Int)], ((1 : Int), (true, ()))), ())
       else
        F114c14 n
     else
      bif decide (x0 = [(112 : Int), (97 : Int), (114 : Int), (105 : Int), (116 : Int), (121 : Int)]) then
       some (([(2 : Int)], ((2 : Int), (true, ()))), ())
      else
       bif decide (x0 = [(115 : Int), (116 : Int), (97 : Int), (114 : Int), (116 : Int), (115 : Int), (95 : Int), (119 : Int), (105 : Int), (116 : Int), (104 : Int)]) then
        some (([(3 : Int), (3 : Int)], ((1 : Int), (true, ()))), ())
       else
        F114c14 n
  else
   bif decide (x0 = [(108 : Int), (111 : Int), (119 : Int), (101 : Int), (114 : Int)]) then
    some (([(3 : Int)], ((3 : Int), (true, ()))), ())
   else
    bif decide (x0 = [(115 : Int), (117 : Int), (98 : Int), (115 : Int), (116 : Int), (114 : Int)]) then
     some (([(3 : Int), (2 : Int), (2 : Int)], ((3 : Int), (true, ()))), ())
    else
     bif decide (x0 = [(97 : Int), (98 : Int), (115 : Int)]) then
      bif decide (x0 = [(97 : Int), (98 : Int), (115 : Int)]) then
       some (([(2 : Int)], ((2 : Int), (true, ()))), ())
      else
       bif decide (x0 = [(115 : Int), (116 : Int), (97 : Int), (114 : Int), (116 : Int), (115 : Int), (95 : Int), (119 : Int), (105 : Int), (116 : Int), (104 : Int)]) then
        some (([(3 : Int), (3 : Int)], ((1 : Int), (true, ()))), ())
       else
        F114c14 n
     else
      bif decide (x0 = [(112 : Int), (97 : Int), (114 : Int), (105 : Int), (116 : Int), (121 : Int)]) then
       some (([(2 : Int)], ((2 : Int), (true, ()))), ())
      else
       bif decide (x0 = [(115 : Int), (116 : Int), (97 : Int), (114 : Int), (116 : Int), (115 : Int), (95 : Int), (119 : Int), (105 : Int), (116 : Int), (104 : Int)]) then
        some (([(3 : Int), (3 : Int)], ((1 : Int), (true, ()))), ())
       else
        F114c14 n  := by kernel_rfl
theorem F114c14_eq (n : Nat)  : F114c14 (n + 1)  =
 some (([], ((0 : Int), (false, ()))), ()) := by kernel_rfl
theorem F164_run (n : Nat) (a0 : Bool) (a1 : Bool) : F164.run [.v (.bool), .v (.bool)] [.v (.int .i64)] n (a0, a1, ()) =
 bif a0 then
  some (((-1 : Int), ()), ())
 else
  bif a1 then
   some (((1 : Int), ()), ())
  else
   some (((0 : Int), ()), ()) := by kernel_rfl
theorem F139_run (n : Nat) (a0 : Val) (a1 : Val) : F139.run [.v (.nm 0), .v (.nm 0)] [.v (.int .i64)] n (a0, a1, ()) =
 bif !decide (a0.kind = a1.kind) then
  (F164.run [PK.v Ty.bool, PK.v Ty.bool] [RK.v (Ty.int .i64)] 4000000 (decide (a0.kind < a1.kind), true, ())).bind fun r0 =>
   some ((r0.fst.fst, ()), ())
 else
  bif decide (a0.kind = (3 : Int)) then
   (F164.run [PK.v Ty.bool, PK.v Ty.bool] [RK.v (Ty.int .i64)] 4000000 (Eng.strLt a0.text a1.text, Eng.strLt a1.text a0.text, ())).bind fun r1 =>
    some ((r1.fst.fst, ()), ())
  else
   (F164.run [PK.v Ty.bool, PK.v Ty.bool] [RK.v (Ty.int .i64)] 4000000 (decide (a0.int < a1.int), decide (a1.int < a0.int), ())).bind fun r2 =>
    some ((r2.fst.fst, ()), ()) := by kernel_rfl
noncomputable def F113c3 (n : Nat) (x0 : List (Val)) (x1 : Bool) (x2 : Int) (x3 : Val) (x4 : Val) := F113.at [.v (.sl (.nm 0)), .v (.bool)] [.v (.nm 0)] n 3 ⟨[.one (.data (.sl (.nm 0)) x0 []), .one (.bool x1), U, U, .one (.bptr 0 0), .one (.bptr 1 0), .one (.int .i64 x2), U, U, U, U, U, U, U, U, U, U, U, U, U, U, U, U, U, U, U, U, U, U, U, U, U, U, U, U, U, U, U, U, U, U, U, U, U, U, U, U, U, U, U, U, U], [(0, .whole (.nm 0) x3 []), (1, .whole (.nm 0) x4 [])]⟩
noncomputable def F113c4 (n : Nat) (x0 : List (Val)) (x1 : Bool) (x2 : Int) (x3 : Val) (x4 : Val) := F113.at [.v (.sl (.nm 0)), .v (.bool)] [.v (.nm 0)] n 4 ⟨[.one (.data (.sl (.nm 0)) x0 []), .one (.bool x1), U, U, .one (.bptr 0 0), .one (.bptr 1 0), .one (.int .i64 x2), U, U, U, U, U, U, U, U, U, U, U, U, U, U, U, U, U, U, U, U, U, U, U, U, U, U, U, U, U, U, U, U, U, U, U, U, U, U, U, U, U, U, U, U, U], [(0, .whole (.nm 0) x3 []), (1, .whole (.nm 0) x4 [])]⟩
theorem F113_run (n : Nat) (a0 : List (Val)) (a1 : Bool) : F113.run [.v (.sl (.nm 0)), .v (.bool)] [.v (.nm 0)] n (a0, a1, ()) =
 F113c3 n (a0) (a1) ((0 : Int)) (zVal) (zVal) := by kernel_rfl
theorem F113c3_eq (n x0 x1 x2 x3 x4 : _) : F113c3 (n + 1) x0 x1 x2 x3 x4 =
 bif decide (x2 < (↑x0.length : Int)) then
  if (0 : Int) ≤ x2 then
   if x2 < (↑x0.length : Int) then
    (F139.run [PK.v (Ty.nm 0), PK.v (Ty.nm 0)] [RK.v (Ty.int .i64)] 4000000 (x0.getD x2.toNat zVal, x4, ())).bind fun r0 =>
     if (0 : Int) ≤ x2 then
      if x2 < (↑x0.length : Int) then
       bif !decide ((x0.getD x2.toNat zVal).kind = (0 : Int)) then
        bif decide (x4.kind = (0 : Int)) then
         if (0 : Int) ≤ x2 then
          if x2 < (↑x0.length : Int) then
           F113c4 n (x0) (x1) (x2) (x3) (x0.getD x2.toNat zVal)
          else
           none
         else
          none
        else
         bif x1 then
          bif decide ((0 : Int) < r0.fst.fst) then
           if (0 : Int) ≤ x2 then
            if x2 < (↑x0.length : Int) then
             F113c4 n (x0) (x1) (x2) (x3) (x0.getD x2.toNat zVal)
            else
             none
           else
            none
          else
           bif !x1 then
            bif decide (r0.fst.fst < (0 : Int)) then
             if (0 : Int) ≤ x2 then
              if x2 < (↑x0.length : Int) then
               F113c4 n (x0) (x1) (x2) (x3) (x0.getD x2.toNat zVal)
              else
               none
             else
              none
            else
             F113c4 n (x0) (x1) (x2) (x3) (x4)
           else
            F113c4 n (x0) (x1) (x2) (x3) (x4)
         else
          bif !x1 then
           bif decide (r0.fst.fst < (0 : Int)) then
            if (0 : Int) ≤ x2 then
             if x2 < (↑x0.length : Int) then
              F113c4 n (x0) (x1) (x2) (x3) (x0.getD x2.toNat zVal)
             else
              none
            else
             none
           else
            F113c4 n (x0) (x1) (x2) (x3) (x4)
          else
           F113c4 n (x0) (x1) (x2) (x3) (x4)
       else
        F113c4 n (x0) (x1) (x2) (x3) (x4)
      else
       none
     else
      none
   else
    none
  else
   none
 else
  some ((x4, ()), ()) := by kernel_rfl
theorem F113c4_eq (n x0 x1 x2 x3 x4 : _) : F113c4 (n + 1) x0 x1 x2 x3 x4 =
 F113c3 n (x0) (x1) (IntKind.i64.wrap (x2 + (1 : Int))) (x3) (x4) := by kernel_rfl
end Go.Proofs.Tryz
