/- The functions of the program as the engine follows them (printed by a program of ours): their code, what is known of them, and the equations of their runs. -/
import Derived.Test.YtlkllggdiakpbaaGreatDoorL42Fns
set_option linter.unusedVariables false
set_option maxRecDepth 20000
namespace Go.Proofs.Tryz
open Go.Eng
noncomputable def F127000127c3 (n : Nat) (x0 : List (List Int)) (x1 : List (List Int)) (x2 : Int) (x3 : Int) (x4 : Int) (x5 : Int) (x6 : Int) (x7 : List (Int)) (x8 : List (List Int)) (x9 : List (Bool)) (x10 : List (Int)) (x11 : List (List Int)) (x12 : List (Bool)) (x13 : Vec) (x14 : Vec) := F127000127.at [.v (.sl .str), .v (.sl .str), .fn 126 [4, 5], .v (.int .i64), .bw (.nm 3), .bw (.nm 3)] [.v (.nm 3)] n 3 ⟨[.one (.data (.sl .str) x0 []), .one (.data (.sl .str) x1 []), .one (.fn 126 [904000, 905000]), .one (.int .i64 x2), U, U, U, U, .one (.bptr 2 0), .one (.bptr 3 0), U, U, U, U, U, .one (.int .i64 x3), .one (.int .i64 x4), U, U, U, U, U, U, U, U, U, U, U, U, U, U, U, U, U, U, U, U, U, U, U, U, U, U], [(2, .cells [.int .i64 x5, .own 4, .own 5, .own 6]), (3, .cells [.int .i64 x6, .own 7, .own 8, .own 9]), (4, .row 2 (.int .i64) x7 [] false), (5, .row 9 .str x8 [] false), (6, .row 4 .bool x9 [] false), (7, .row 2 (.int .i64) x10 [] false), (8, .row 9 .str x11 [] false), (9, .row 4 .bool x12 [] false), (904000, .whole (.nm 3) x13 []), (905000, .whole (.nm 3) x14 [])]⟩
theorem F127000127_run (n : Nat) (a0 : List (List Int)) (a1 : List (List Int)) (a2 : Unit) (a3 : Int) (a4 : Vec) (a5 : Vec) : F127000127.run [.v (.sl .str), .v (.sl .str), .fn 126 [4, 5], .v (.int .i64), .bw (.nm 3), .bw (.nm 3)] [.v (.nm 3)] n (a0, a1, a2, a3, a4, a5, ()) =
 (F62.run [PK.v (Ty.int .i64), PK.v (Ty.int .i64)] [RK.ag 3 AGV] 4000000 ((1 : Int), (↑a0.length : Int), ())).bind fun r0 =>
  F127000127c3 n (a0) (a1) (a3) ((↑a0.length : Int)) ((0 : Int)) ((0 : Int)) (r0.fst.fst.fst) ([]) ([]) ([]) (r0.fst.fst.snd.fst) (r0.fst.fst.snd.snd.fst) (r0.fst.fst.snd.snd.snd.fst) (a4) (a5) := by kernel_rfl
theorem F127000127c3_eq (n x0 x1 x2 x3 x4 x5 x6 x7 x8 x9 x10 x11 x12 x13 x14 : _) : F127000127c3 (n + 1) x0 x1 x2 x3 x4 x5 x6 x7 x8 x9 x10 x11 x12 x13 x14 =
 bif decide (x4 < x3) then
  (F126.run [PK.v (Ty.int .i64), PK.rp (Ty.nm 3), PK.rp (Ty.nm 3)] [RK.v Ty.bool] 4000000 (x4, x13, x14, ())).bind fun r1 =>
   bif r1.fst.fst then
    F127000127c3 n (x0) (x1) (x2) (x3) (IntKind.i64.wrap (x4 + (1 : Int))) (x5) (x6) (x7) (x8) (x9) (x10) (x11) (x12) (x13) (x14)
   else
    if (0 : Int) ≤ x4 then
     if x4 < (↑x12.length : Int) then
      if (0 : Int) ≤ x4 then
       if x4 < (↑x0.length : Int) then
        if (0 : Int) ≤ x4 then
         if x4 < (↑x1.length : Int) then
          (F145.run [PK.v Ty.str, PK.v Ty.str] [RK.v (Ty.int .i64)] 4000000 (x0.getD x4.toNat [], x1.getD x4.toNat [], ())).bind fun r2 =>
           (F144.run [PK.v (Ty.int .i64), PK.v (Ty.int .i64)] [RK.v Ty.bool] 4000000 (x2, r2.fst.fst, ())).bind fun r3 =>
            bif r3.fst.fst then
             if (0 : Int) ≤ x4 then
              if x4 < (↑x10.length : Int) then
               F127000127c3 n (x0) (x1) (x2) (x3) (IntKind.i64.wrap (x4 + (1 : Int))) (x5) (x6) (x7) (x8) (x9) (x10.set x4.toNat (1 : Int)) (x11) (x12.set x4.toNat false) (x13) (x14)
              else
               none
             else
              none
            else
             F127000127c3 n (x0) (x1) (x2) (x3) (IntKind.i64.wrap (x4 + (1 : Int))) (x5) (x6) (x7) (x8) (x9) (x10) (x11) (x12.set x4.toNat false) (x13) (x14)
         else
          none
        else
         none
       else
        none
      else
       none
     else
      none
    else
     none
 else
  some (({ f_Type := x6, ints := x10, texts := x11, nulls := x12 : Vec }, ()), (x13, (x14, ()))) := by kernel_rfl
noncomputable def F92c3 (n : Nat) (x0 : Int) (x1 : Vec) (x2 : Vec) (x3 : Int) (x4 : List (Int)) (x5 : List (List Int)) (x6 : List (Bool)) := F92.at [.v (.int .i64), .v (.nm 3), .v (.nm 3)] [.v (.nm 3)] n 3 ⟨[.one (.int .i64 x0), U, U, U, .one (.bptr 0 0), .one (.bptr 1 0), .one (.bptr 2 0), U, U, U, U, U, U, U, U, U, U, U, U, U, U, U, U, U, U, U, U, U, U, U, U, U, U, U, U, U, U, U, U, U], [(0, .whole (.nm 3) x1 []), (1, .whole (.nm 3) x2 []), (2, .cells [.int .i64 x3, .own 3, .own 4, .own 5]), (3, .row 2 (.int .i64) x4 [] false), (4, .row 9 .str x5 [] false), (5, .row 4 .bool x6 [] false)]⟩
theorem F92_run (n : Nat) (a0 : Int) (a1 : Vec) (a2 : Vec) : F92.run [.v (.int .i64), .v (.nm 3), .v (.nm 3)] [.v (.nm 3)] n (a0, a1, a2, ()) =
 bif decide (a1.f_Type = (0 : Int)) then
  (F62.run [PK.v (Ty.int .i64), PK.v (Ty.int .i64)] [RK.ag 3 AGV] 4000000 ((1 : Int), (↑a1.nulls.length : Int), ())).bind fun r0 =>
   some (({ f_Type := r0.fst.fst.fst, ints := r0.fst.fst.snd.fst, texts := r0.fst.fst.snd.snd.fst, nulls := r0.fst.fst.snd.snd.snd.fst : Vec }, ()), ())
 else
  bif !decide (a1.f_Type = a2.f_Type) then
   (F62.run [PK.v (Ty.int .i64), PK.v (Ty.int .i64)] [RK.ag 3 AGV] 4000000 ((1 : Int), (↑a1.nulls.length : Int), ())).bind fun r1 =>
    some (({ f_Type := r1.fst.fst.fst, ints := r1.fst.fst.snd.fst, texts := r1.fst.fst.snd.snd.fst, nulls := r1.fst.fst.snd.snd.snd.fst : Vec }, ()), ())
  else
   F92c3 n (a0) (a1) (a2) ((0 : Int)) ([]) ([]) ([]) := by kernel_rfl
theorem F92c3_eq (n x0 x1 x2 x3 x4 x5 x6 : _) : F92c3 (n + 1) x0 x1 x2 x3 x4 x5 x6 =
 bif decide (x1.f_Type = (3 : Int)) then
  (F127000127.run [PK.v Ty.str.sl, PK.v Ty.str.sl, PK.fn 126 [(4 : Nat), (5 : Nat)], PK.v (Ty.int .i64), PK.bw (Ty.nm 3), PK.bw (Ty.nm 3)] [RK.v (Ty.nm 3)] 4000000 (x1.texts, x2.texts, (), x0, x1, x2, ())).bind fun r2 =>
   some ((Vec.mk r2.fst.fst.f_Type r2.fst.fst.ints r2.fst.fst.texts r2.fst.fst.nulls, ()), ())
 else
  (F127000128.run [PK.v (Ty.int .i64).sl, PK.v (Ty.int .i64).sl, PK.fn 126 [(4 : Nat), (5 : Nat)], PK.v (Ty.int .i64), PK.bw (Ty.nm 3), PK.bw (Ty.nm 3)] [RK.v (Ty.nm 3)] 4000000 (x1.ints, x2.ints, (), x0, x1, x2, ())).bind fun r3 =>
   some ((Vec.mk r3.fst.fst.f_Type r3.fst.fst.ints r3.fst.fst.texts r3.fst.fst.nulls, ()), ()) := by kernel_rfl
noncomputable def F58c3 (n : Nat) (x0 : List (Bool)) (x1 : Int) (x2 : Int) (x3 : Int) (x4 : Int) (x5 : List (Int)) (x6 : List (List Int)) (x7 : List (Bool)) (x8 : List (Int)) (x9 : List (List Int)) (x10 : List (Bool)) := F58.at [.v (.nm 3)] [.v (.nm 3)] n 3 ⟨[U, U, .one (.bptr 0 0), .one (.bptr 1 0), U, U, U, U, U, U, U, U, U, U, U, U, .one (.data (.sl .bool) x0 []), .one (.int .i64 x1), .one (.int .i64 x2), U, U, U, U, U, U, U, U, U, U, U], [(0, .cells [.int .i64 x3, .own 2, .own 3, .own 4]), (1, .cells [.int .i64 x4, .own 5, .own 6, .own 7]), (2, .row 2 (.int .i64) x5 [] false), (3, .row 9 .str x6 [] false), (4, .row 4 .bool x7 [] false), (5, .row 2 (.int .i64) x8 [] false), (6, .row 9 .str x9 [] false), (7, .row 4 .bool x10 [] false)]⟩
theorem F58_run (n : Nat) (a0 : Vec) : F58.run [.v (.nm 3)] [.v (.nm 3)] n (a0, ()) =
 if (↑a0.nulls.length : Int) ≤ (↑lim : Int) then
  if (↑a0.nulls.length : Int) ≤ (↑lim : Int) then
   F58c3 n (a0.nulls) ((↑a0.nulls.length : Int)) ((0 : Int)) ((0 : Int)) ((1 : Int)) ([]) ([]) ([]) (List.replicate (↑a0.nulls.length : Int).toNat (0 : Int)) ([]) (List.replicate (↑a0.nulls.length : Int).toNat false)
  else
   none
 else
  none := by kernel_rfl
theorem F58c3_eq (n x0 x1 x2 x3 x4 x5 x6 x7 x8 x9 x10 : _) : F58c3 (n + 1) x0 x1 x2 x3 x4 x5 x6 x7 x8 x9 x10 =
 bif decide (x2 < x1) then
  if (0 : Int) ≤ x2 then
   if x2 < (↑x0.length : Int) then
    bif x0.getD x2.toNat false then
     if (0 : Int) ≤ x2 then
      if x2 < (↑x8.length : Int) then
       F58c3 n (x0) (x1) (IntKind.i64.wrap (x2 + (1 : Int))) (x3) (x4) (x5) (x6) (x7) (x8.set x2.toNat (1 : Int)) (x9) (x10)
      else
       none
     else
      none
    else
     F58c3 n (x0) (x1) (IntKind.i64.wrap (x2 + (1 : Int))) (x3) (x4) (x5) (x6) (x7) (x8) (x9) (x10)
   else
    none
  else
   none
 else
  some (({ f_Type := x4, ints := x8, texts := x9, nulls := x10 : Vec }, ()), ()) := by kernel_rfl
noncomputable def F148c1 (n : Nat) (x0 : List Int) (x1 : Int) := F148.at [.v (.str), .v (.int .u8)] [.v (.str)] n 1 ⟨[.one (.str x0), .one (.int .u8 x1), U, U, U, U, U, U, U, U, U, U, U, U, U, U, U], []⟩
theorem F148_run (n : Nat) (a0 : List Int) (a1 : Int) : F148.run [.v (.str), .v (.int .u8)] [.v (.str)] n (a0, a1, ()) =
 F148c1 n (a0) (a1) := by kernel_rfl
theorem F148c1_eq (n x0 x1 : _) : F148c1 (n + 1) x0 x1 =
 bif decide ((0 : Int) < (↑x0.length : Int)) then
  if (0 : Int) < (↑x0.length : Int) then
   bif decide (x0.getD (Int.toNat (0 : Int)) (0 : Int) = x1) then
    if (1 : Int) ≤ (↑x0.length : Int) then
     if (↑x0.length : Int) ≤ (↑x0.length : Int) then
      F148c1 n (List.drop (Int.toNat (1 : Int)) (List.take (↑x0.length : Int).toNat x0)) (x1)
     else
      none
    else
     none
   else
    some ((x0, ()), ())
  else
   none
 else
  some ((x0, ()), ()) := by kernel_rfl
noncomputable def F149c1 (n : Nat) (x0 : List Int) (x1 : Int) := F149.at [.v (.str), .v (.int .u8)] [.v (.str)] n 1 ⟨[.one (.str x0), .one (.int .u8 x1), U, U, U, U, U, U, U, U, U, U, U, U, U, U, U, U, U, U, U, U, U], []⟩
noncomputable def F149c2 (n : Nat) (x0 : List Int) (x1 : Int) := F149.at [.v (.str), .v (.int .u8)] [.v (.str)] n 2 ⟨[.one (.str x0), .one (.int .u8 x1), U, U, U, U, U, U, U, U, U, U, U, U, U, U, U, U, U, U, U, U, U], []⟩
theorem F149_run (n : Nat) (a0 : List Int) (a1 : Int) : F149.run [.v (.str), .v (.int .u8)] [.v (.str)] n (a0, a1, ()) =
 F149c1 n (a0) (a1) := by kernel_rfl
theorem F149c1_eq (n x0 x1 : _) : F149c1 (n + 1) x0 x1 =
 bif decide ((0 : Int) < (↑x0.length : Int)) then
  if (0 : Int) ≤ IntKind.i64.wrap ((↑x0.length : Int) - (1 : Int)) then
   if IntKind.i64.wrap ((↑x0.length : Int) - (1 : Int)) < (↑x0.length : Int) then
    bif decide (x0.getD (IntKind.i64.wrap ((↑x0.length : Int) - (1 : Int))).toNat (0 : Int) = x1) then
     F149c2 n (x0) (x1)
    else
     some ((x0, ()), ())
   else
    none
  else
   none
 else
  some ((x0, ()), ()) := by kernel_rfl
theorem F149c2_eq (n x0 x1 : _) : F149c2 (n + 1) x0 x1 =
 if (0 : Int) ≤ IntKind.i64.wrap ((↑x0.length : Int) - (1 : Int)) then
  if IntKind.i64.wrap ((↑x0.length : Int) - (1 : Int)) ≤ (↑x0.length : Int) then
   F149c1 n (List.drop (Int.toNat (0 : Int)) (List.take (IntKind.i64.wrap ((↑x0.length : Int) - (1 : Int))).toNat x0)) (x1)
  else
   none
 else
  none := by kernel_rfl
noncomputable def F130c3 (n : Nat) (x0 : List Int) (x1 : List Int) := F130.at [.v (.str), .v (.str)] [.v (.str)] n 3 ⟨[.one (.str x0), .one (.str x1), U, U, U, U, U, U, U, U, U, U, U, U, U, U, U, U, U, U, U, U, U, U, U, U, U, U, U, U, U, U, U, U, U, U, U, U, U, U, U, U, U], []⟩
noncomputable def F130c5 (n : Nat) (x0 : List Int) (x1 : List Int) := F130.at [.v (.str), .v (.str)] [.v (.str)] n 5 ⟨[.one (.str x0), .one (.str x1), U, U, U, U, U, U, U, U, U, U, U, U, U, U, U, U, U, U, U, U, U, U, U, U, U, U, U, U, U, U, U, U, U, U, U, U, U, U, U, U, U], []⟩
theorem F130_run (n : Nat) (a0 : List Int) (a1 : List Int) : F130.run [.v (.str), .v (.str)] [.v (.str)] n (a0, a1, ()) =
 bif decide (a0 = []) then
  some ((a0, ()), ())
 else
  bif decide (a1 = []) then
   some ((a0, ()), ())
  else
   F130c3 n (a0) (a1) := by kernel_rfl
theorem F130c3_eq (n x0 x1 : _) : F130c3 (n + 1) x0 x1 =
 bif decide ((↑x1.length : Int) = (1 : Int)) then
  if (0 : Int) < (↑x1.length : Int) then
   bif decide (x1.getD (Int.toNat (0 : Int)) (0 : Int) < (128 : Int)) then
    if (0 : Int) < (↑x1.length : Int) then
     (F149.run [PK.v Ty.str, PK.v (Ty.int IntKind.u8)] [RK.v Ty.str] 4000000 (x0, x1.getD (Int.toNat (0 : Int)) (0 : Int), ())).bind fun r0 =>
      if (0 : Int) < (↑x1.length : Int) then
       (F148.run [PK.v Ty.str, PK.v (Ty.int IntKind.u8)] [RK.v Ty.str] 4000000 (r0.fst.fst, x1.getD (Int.toNat (0 : Int)) (0 : Int), ())).bind fun r1 =>
        some ((r1.fst.fst, ()), ())
      else
       none
    else
     none
   else
    F130c5 n (x0) (x1)
  else
   none
 else
  F130c5 n (x0) (x1) := by kernel_rfl
noncomputable def F98c3 (n : Nat) (x0 : List Int) (x1 : List Int) (x2 : Int) (x3 : Int) (x4 : Int) (x5 : Int) := F98.at [.v (.str), .v (.str)] [.v (.bool)] n 3 ⟨[.one (.str x0), .one (.str x1), U, U, U, .one (.int .i64 x2), .one (.int .i64 x3), .one (.int .i64 x4), .one (.int .i64 x5), U, U, U, U, U, U, U, U, U, U, U, U, U, U, U, U, U, U, U, U, U, U, U, U, U, U, U, U, U, U, U, U, U, U, U, U, U, U, U, U, U, U, U, U, U, U, U, U, U, U, U, U, U, U, U, U, U, U, U, U], []⟩
noncomputable def F98c13 (n : Nat) (x0 : List Int) (x1 : List Int) (x2 : Int) (x3 : Int) := F98.at [.v (.str), .v (.str)] [.v (.bool)] n 13 ⟨[.one (.str x0), .one (.str x1), U, U, U, .one (.int .i64 x2), .one (.int .i64 x3), U, U, U, U, U, U, U, U, U, U, U, U, U, U, U, U, U, U, U, U, U, U, U, U, U, U, U, U, U, U, U, U, U, U, U, U, U, U, U, U, U, U, U, U, U, U, U, U, U, U, U, U, U, U, U, U, U, U, U, U, U, U], []⟩
noncomputable def F98c11 (n : Nat) (x0 : List Int) (x1 : List Int) (x2 : Int) (x3 : Int) := F98.at [.v (.str), .v (.str)] [.v (.bool)] n 11 ⟨[.one (.str x0), .one (.str x1), U, U, U, U, U, .one (.int .i64 x2), .one (.int .i64 x3), U, U, U, U, U, U, U, U, U, U, U, U, U, U, U, U, U, U, U, U, U, U, U, U, U, U, U, U, U, U, U, U, U, U, U, U, U, U, U, U, U, U, U, U, U, U, U, U, U, U, U, U, U, U, U, U, U, U, U, U], []⟩
theorem F98_run (n : Nat) (a0 : List Int) (a1 : List Int) : F98.run [.v (.str), .v (.str)] [.v (.bool)] n (a0, a1, ()) =
 F98c3 n (a0) (a1) ((0 : Int)) ((0 : Int)) ((-1 : Int)) ((0 : Int)) := by kernel_rfl
theorem F98c3_eq (n x0 x1 x2 x3 x4 x5 : _) : F98c3 (n + 1) x0 x1 x2 x3 x4 x5 =
 bif decide (x3 < (↑x1.length : Int)) then
  bif decide (x2 < (↑x0.length : Int)) then
   if (0 : Int) ≤ x2 then
    if x2 < (↑x0.length : Int) then
     bif decide (x0.getD x2.toNat (0 : Int) = (37 : Int)) then
      F98c3 n (x0) (x1) (IntKind.i64.wrap (x2 + (1 : Int))) (x3) (x2) (x3)
     else
      bif decide (x2 < (↑x0.length : Int)) then
       if (0 : Int) ≤ x2 then
        if x2 < (↑x0.length : Int) then
         bif decide (x0.getD x2.toNat (0 : Int) = (95 : Int)) then
          F98c3 n (x0) (x1) (IntKind.i64.wrap (x2 + (1 : Int))) (IntKind.i64.wrap (x3 + (1 : Int))) (x4) (x5)
         else
          if (0 : Int) ≤ x2 then
           if x2 < (↑x0.length : Int) then
            if (0 : Int) ≤ x3 then
             if x3 < (↑x1.length : Int) then
              bif decide (x0.getD x2.toNat (0 : Int) = x1.getD x3.toNat (0 : Int)) then
               F98c3 n (x0) (x1) (IntKind.i64.wrap (x2 + (1 : Int))) (IntKind.i64.wrap (x3 + (1 : Int))) (x4) (x5)
              else
               bif decide (x4 < (0 : Int)) then
                F98c13 n (x0) (x1) (x2) (x3)
               else
                F98c11 n (x0) (x1) (x4) (x5)
             else
              none
            else
             none
           else
            none
          else
           none
        else
         none
       else
        none
      else
       bif decide (x4 < (0 : Int)) then
        F98c13 n (x0) (x1) (x2) (x3)
       else
        F98c11 n (x0) (x1) (x4) (x5)
    else
     none
   else
    none
  else
   bif decide (x2 < (↑x0.length : Int)) then
    if (0 : Int) ≤ x2 then
     if x2 < (↑x0.length : Int) then
      bif decide (x0.getD x2.toNat (0 : Int) = (95 : Int)) then
       F98c3 n (x0) (x1) (IntKind.i64.wrap (x2 + (1 : Int))) (IntKind.i64.wrap (x3 + (1 : Int))) (x4) (x5)
      else
       if (0 : Int) ≤ x2 then
        if x2 < (↑x0.length : Int) then
         if (0 : Int) ≤ x3 then
          if x3 < (↑x1.length : Int) then
           bif decide (x0.getD x2.toNat (0 : Int) = x1.getD x3.toNat (0 : Int)) then
            F98c3 n (x0) (x1) (IntKind.i64.wrap (x2 + (1 : Int))) (IntKind.i64.wrap (x3 + (1 : Int))) (x4) (x5)
           else
            bif decide (x4 < (0 : Int)) then
             F98c13 n (x0) (x1) (x2) (x3)
            else
             F98c11 n (x0) (x1) (x4) (x5)
          else
           none
         else
          none
        else
         none
       else
        none
     else
      none
    else
     none
   else
    bif decide (x4 < (0 : Int)) then
     F98c13 n (x0) (x1) (x2) (x3)
    else
     F98c11 n (x0) (x1) (x4) (x5)
 else
  F98c13 n (x0) (x1) (x2) (x3) := by kernel_rfl
theorem F98c13_eq (n x0 x1 x2 x3 : _) : F98c13 (n + 1) x0 x1 x2 x3 =
 bif decide (x3 < (↑x1.length : Int)) then
  some ((false, ()), ())
 else
  if (0 : Int) ≤ x2 then
   if x2 ≤ (↑x0.length : Int) then
    if (↑x0.length : Int) ≤ (↑x0.length : Int) then
     (F130.run [PK.v Ty.str, PK.v Ty.str] [RK.v Ty.str] 4000000 (List.drop x2.toNat (List.take (↑x0.length : Int).toNat x0), [(37 : Int)], ())).bind fun r0 =>
      some ((decide (r0.fst.fst = []), ()), ())
    else
     none
   else
    none
  else
   none := by kernel_rfl
theorem F98c11_eq (n x0 x1 x2 x3 : _) : F98c11 (n + 1) x0 x1 x2 x3 =
 F98c3 n (x0) (x1) (IntKind.i64.wrap (x2 + (1 : Int))) (IntKind.i64.wrap (x3 + (1 : Int))) (x2) (IntKind.i64.wrap (x3 + (1 : Int))) := by kernel_rfl
theorem F91_run (n : Nat) (a0 : Int) : F91.run [.v (.int .i64)] [.v (.nm 0)] n (a0, ()) =
 some (({ kind := (2 : Int), int := a0, text := [] : Val }, ()), ()) := by kernel_rfl
theorem F147_run (n : Nat) (a0 : Int) (a1 : Int) : F147.run [.v (.int .u64), .v (.int .u64)] [.v (.int .u64), .v (.int .u64)] n (a0, a1, ()) =
 some ((IntKind.u64.wrap (IntKind.u64.wrap (IntKind.u64.wrap (a0 / (2 : Int) ^ min (Int.toNat (32 : Int)) IntKind.u64.bits * (a1 / (2 : Int) ^ min (Int.toNat (32 : Int)) IntKind.u64.bits)) + IntKind.u64.wrap (IntKind.u64.wrap (a0 / (2 : Int) ^ min (Int.toNat (32 : Int)) IntKind.u64.bits * bits BinOp.and IntKind.u64 a1 (4294967295 : Int)) + IntKind.u64.wrap (bits BinOp.and IntKind.u64 a0 (4294967295 : Int) * bits BinOp.and IntKind.u64 a1 (4294967295 : Int)) / (2 : Int) ^ min (Int.toNat (32 : Int)) IntKind.u64.bits) / (2 : Int) ^ min (Int.toNat (32 : Int)) IntKind.u64.bits) + IntKind.u64.wrap (bits BinOp.and IntKind.u64 (IntKind.u64.wrap (IntKind.u64.wrap (a0 / (2 : Int) ^ min (Int.toNat (32 : Int)) IntKind.u64.bits * bits BinOp.and IntKind.u64 a1 (4294967295 : Int)) + IntKind.u64.wrap (bits BinOp.and IntKind.u64 a0 (4294967295 : Int) * bits BinOp.and IntKind.u64 a1 (4294967295 : Int)) / (2 : Int) ^ min (Int.toNat (32 : Int)) IntKind.u64.bits)) (4294967295 : Int) + IntKind.u64.wrap (bits BinOp.and IntKind.u64 a0 (4294967295 : Int) * (a1 / (2 : Int) ^ min (Int.toNat (32 : Int)) IntKind.u64.bits))) / (2 : Int) ^ min (Int.toNat (32 : Int)) IntKind.u64.bits), (IntKind.u64.wrap (a0 * a1), ())), ()) := by kernel_rfl
noncomputable def F129c4 (n : Nat) (x0 : Int) (x1 : Int) (x2 : Int) (x3 : Int) := F129.at [.v (.int .i64), .v (.int .i64)] [.v (.int .i64), .v (.bool)] n 4 ⟨[.one (.int .i64 x0), .one (.int .i64 x1), U, U, U, U, .one (.int .u64 x2), .one (.int .u64 x3), U, U, U, U, U, U, U, U, U, U, U, U, U, U, U, U, U, U, U, U, U, U, U, U, U, U, U, U, U, U, U, U, U, U, U, U], []⟩
noncomputable def F129c6 (n : Nat) (x0 : Int) (x1 : Int) (x2 : Int) (x3 : Int) := F129.at [.v (.int .i64), .v (.int .i64)] [.v (.int .i64), .v (.bool)] n 6 ⟨[.one (.int .i64 x0), .one (.int .i64 x1), U, U, U, U, .one (.int .u64 x2), .one (.int .u64 x3), U, U, U, U, U, U, U, U, U, U, U, U, U, U, U, U, U, U, U, U, U, U, U, U, U, U, U, U, U, U, U, U, U, U, U, U], []⟩
theorem F129_run (n : Nat) (a0 : Int) (a1 : Int) : F129.run [.v (.int .i64), .v (.int .i64)] [.v (.int .i64), .v (.bool)] n (a0, a1, ()) =
 bif decide (a0 < (0 : Int)) then
  F129c4 n (a0) (a1) (IntKind.u64.wrap ((0 : Int) - IntKind.u64.wrap a0)) (IntKind.u64.wrap a1)
 else
  F129c4 n (a0) (a1) (IntKind.u64.wrap a0) (IntKind.u64.wrap a1) := by kernel_rfl
theorem F129c4_eq (n x0 x1 x2 x3 : _) : F129c4 (n + 1) x0 x1 x2 x3 =
 bif decide (x1 < (0 : Int)) then
  F129c6 n (x0) (x1) (x2) (IntKind.u64.wrap ((0 : Int) - x3))
 else
  F129c6 n (x0) (x1) (x2) (x3) := by kernel_rfl
theorem F129c6_eq (n x0 x1 x2 x3 : _) : F129c6 (n + 1) x0 x1 x2 x3 =
 (F147.run [PK.v (Ty.int IntKind.u64), PK.v (Ty.int IntKind.u64)] [RK.v (Ty.int IntKind.u64), RK.v (Ty.int IntKind.u64)] 4000000 (x2, x3, ())).bind fun r0 =>
  bif !decide (r0.fst.fst = (0 : Int)) then
   some (((0 : Int), (false, ())), ())
  else
   bif !decide (decide (x0 < (0 : Int)) = decide (x1 < (0 : Int))) then
    some ((IntKind.i64.wrap (IntKind.u64.wrap ((0 : Int) - r0.fst.snd.fst)), (decide (r0.fst.snd.fst ≤ (9223372036854775808 : Int)), ())), ())
   else
    some ((IntKind.i64.wrap r0.fst.snd.fst, (decide (r0.fst.snd.fst < (9223372036854775808 : Int)), ())), ()) := by kernel_rfl
noncomputable def F95c3 (n : Nat) (x0 : Int) (x1 : Val) (x2 : Val) (x3 : Val) := F95.at [.v (.int .i64), .v (.nm 0), .v (.nm 0)] [.v (.nm 0)] n 3 ⟨[.one (.int .i64 x0), U, U, U, .one (.bptr 0 0), .one (.bptr 1 0), .one (.bptr 2 0), U, U, U, U, U, U, U, U, U, U, U, U, U, U, U, U, U, U, U, U, U, U, U, U, U, U, U, U, U, U, U, U, U, U, U, U, U, U, U, U, U, U, U, U, U, U, U, U, U, U, U, U, U, U, U, U, U, U, U, U, U, U, U, U, U, U, U, U, U, U, U, U, U, U, U, U, U, U, U, U, U, U, U, U, U, U, U], [(0, .whole (.nm 0) x1 []), (1, .whole (.nm 0) x2 []), (2, .whole (.nm 0) x3 [])]⟩
noncomputable def F95c27 (n : Nat) (x0 : Val) := F95.at [.v (.int .i64), .v (.nm 0), .v (.nm 0)] [.v (.nm 0)] n 27 ⟨[U, U, U, U, U, U, .one (.bptr 0 0), U, U, U, U, U, U, U, U, U, U, U, U, U, U, U, U, U, U, U, U, U, U, U, U, U, U, U, U, U, U, U, U, U, U, U, U, U, U, U, U, U, U, U, U, U, U, U, U, U, U, U, U, U, U, U, U, U, U, U, U, U, U, U, U, U, U, U, U, U, U, U, U, U, U, U, U, U, U, U, U, U, U, U, U, U, U, U], [(0, .whole (.nm 0) x0 [])]⟩
theorem F95_run (n : Nat) (a0 : Int) (a1 : Val) (a2 : Val) : F95.run [.v (.int .i64), .v (.nm 0), .v (.nm 0)] [.v (.nm 0)] n (a0, a1, a2, ()) =
 bif !decide (a1.kind = (2 : Int)) then
  some ((zVal, ()), ())
 else
  bif !decide (a2.kind = (2 : Int)) then
   some ((zVal, ()), ())
  else
   F95c3 n (a0) (a1) (a2) (zVal) := by kernel_rfl
theorem F95c3_eq (n x0 x1 x2 x3 : _) : F95c3 (n + 1) x0 x1 x2 x3 =
 bif decide (x0 = (9 : Int)) then
  bif decide (decide (x1.int < IntKind.i64.wrap (x1.int + x2.int)) = decide ((0 : Int) < x2.int)) then
   (F91.run [PK.v (Ty.int .i64)] [RK.v (Ty.nm 0)] 4000000 (IntKind.i64.wrap (x1.int + x2.int), ())).bind fun r0 =>
    some ((r0.fst.fst, ()), ())
  else
   F95c27 n (x3)
 else
  bif decide (x0 = (10 : Int)) then
   bif decide (decide (IntKind.i64.wrap (x1.int - x2.int) < x1.int) = decide ((0 : Int) < x2.int)) then
    (F91.run [PK.v (Ty.int .i64)] [RK.v (Ty.nm 0)] 4000000 (IntKind.i64.wrap (x1.int - x2.int), ())).bind fun r1 =>
     some ((r1.fst.fst, ()), ())
   else
    F95c27 n (x3)
  else
   bif decide (x0 = (11 : Int)) then
    (F129.run [PK.v (Ty.int .i64), PK.v (Ty.int .i64)] [RK.v (Ty.int .i64), RK.v Ty.bool] 4000000 (x1.int, x2.int, ())).bind fun r2 =>
     bif r2.fst.snd.fst then
      (F91.run [PK.v (Ty.int .i64)] [RK.v (Ty.nm 0)] 4000000 (r2.fst.fst, ())).bind fun r3 =>
       some ((r3.fst.fst, ()), ())
     else
      F95c27 n (x3)
   else
    bif decide (x0 = (12 : Int)) then
     bif !decide (x2.int = (0 : Int)) then
      bif !decide (x2.int = (-1 : Int)) then
       if x2.int = (0 : Int) then
        none
       else
        (F91.run [PK.v (Ty.int .i64)] [RK.v (Ty.nm 0)] 4000000 (IntKind.i64.wrap (x1.int.tdiv x2.int), ())).bind fun r4 =>
         some ((r4.fst.fst, ()), ())
      else
       bif !decide (x1.int = (-9223372036854775808 : Int)) then
        if x2.int = (0 : Int) then
         none
        else
         (F91.run [PK.v (Ty.int .i64)] [RK.v (Ty.nm 0)] 4000000 (IntKind.i64.wrap (x1.int.tdiv x2.int), ())).bind fun r5 =>
          some ((r5.fst.fst, ()), ())
       else
        F95c27 n (x3)
     else
      F95c27 n (x3)
    else
     bif decide (x0 = (13 : Int)) then
      bif decide (x2.int = (0 : Int)) then
       some ((zVal, ()), ())
      else
       bif decide (x2.int = (-1 : Int)) then
        (F91.run [PK.v (Ty.int .i64)] [RK.v (Ty.nm 0)] 4000000 ((0 : Int), ())).bind fun r6 =>
         some ((r6.fst.fst, ()), ())
       else
        if x2.int = (0 : Int) then
         none
        else
         (F91.run [PK.v (Ty.int .i64)] [RK.v (Ty.nm 0)] 4000000 (x1.int.tmod x2.int, ())).bind fun r7 =>
          some ((r7.fst.fst, ()), ())
     else
      F95c27 n (x3) := by kernel_rfl
theorem F95c27_eq (n x0 : _) : F95c27 (n + 1) x0 =
 some ((zVal, ()), ()) := by kernel_rfl
theorem F94_run (n : Nat) (a0 : Int) (a1 : Int) (a2 : Vec) (a3 : Vec) : F94.run [.v (.int .i64), .rp (.int .i64), .rp (.nm 3), .rp (.nm 3)] [.v (.nm 0)] n (a0, a1, a2, a3, ()) =
 (F40.run [PK.v (Ty.nm 3), PK.v (Ty.int .i64)] [RK.v (Ty.nm 0)] 4000000 (a2, a0, ())).bind fun r0 =>
  (F40.run [PK.v (Ty.nm 3), PK.v (Ty.int .i64)] [RK.v (Ty.nm 0)] 4000000 (a3, a0, ())).bind fun r1 =>
   (F95.run [PK.v (Ty.int .i64), PK.v (Ty.nm 0), PK.v (Ty.nm 0)] [RK.v (Ty.nm 0)] 4000000 (a1, r0.fst.fst, r1.fst.fst, ())).bind fun r2 =>
    some ((r2.fst.fst, ()), ()) := by kernel_rfl
noncomputable def F95000054c3 (n : Nat) (x0 : Int) (x1 : Int) (x2 : Int) (x3 : Int) (x4 : Int) (x5 : List (Val)) (x6 : List (Int)) (x7 : List (List Int)) (x8 : List (Bool)) (x9 : Int) (x10 : Int) (x11 : List (Int)) (x12 : List (List Int)) (x13 : List (Bool)) (x14 : Int) (x15 : List (Int)) (x16 : List (List Int)) (x17 : List (Bool)) := F95000054.at [.v (.int .i64), .v (.int .i64), .fn 94 [3, 4, 5], .bw (.int .i64), .bc AGW, .bc AGW] [.v (.nm 3)] n 3 ⟨[.one (.int .i64 x0), .one (.int .i64 x1), .one (.fn 94 [903000, 904000, 905000]), U, U, U, .one (.bptr 3 0), .one (.own 4), U, U, U, U, U, U, .one (.int .i64 x2), .one (.int .i64 x3), U, U, U, U, U, U, U, U, U, U, U, U, U, U, U, U, U, U, U, U, U], [(3, .cells [.int .i64 x4, .own 5, .own 6, .own 7]), (4, .row 23 (.nm 0) x5 [] false), (5, .row 2 (.int .i64) x6 [] false), (6, .row 9 .str x7 [] false), (7, .row 4 .bool x8 [] false), (903000, .whole (.int .i64) x9 []), (904000, .cells [.int .i64 x10, .data (.sl (.int .i64)) x11 [], .data (.sl .str) x12 [], .data (.sl .bool) x13 []]), (905000, .cells [.int .i64 x14, .data (.sl (.int .i64)) x15 [], .data (.sl .str) x16 [], .data (.sl .bool) x17 []])]⟩
theorem F95000054_run (n : Nat) (a0 : Int) (a1 : Int) (a2 : Unit) (a3 : Int) (a4 : Int × List (Int) × List (List Int) × List (Bool) × Unit) (a5 : Int × List (Int) × List (List Int) × List (Bool) × Unit) : F95000054.run [.v (.int .i64), .v (.int .i64), .fn 94 [3, 4, 5], .bw (.int .i64), .bc AGW, .bc AGW] [.v (.nm 3)] n (a0, a1, a2, a3, a4, a5, ()) =
 if (0 : Int) ≤ a1 then
  if a1 ≤ (↑lim : Int) then
   F95000054c3 n (a0) (a1) ((↑(List.replicate a1.toNat zVal).length : Int)) ((0 : Int)) ((0 : Int)) (List.replicate a1.toNat zVal) ([]) ([]) ([]) (a3) (a4.fst) (a4.snd.fst) (a4.snd.snd.fst) (a4.snd.snd.snd.fst) (a5.fst) (a5.snd.fst) (a5.snd.snd.fst) (a5.snd.snd.snd.fst)
  else
   none
 else
  none := by kernel_rfl
theorem F95000054c3_eq (n x0 x1 x2 x3 x4 x5 x6 x7 x8 x9 x10 x11 x12 x13 x14 x15 x16 x17 : _) : F95000054c3 (n + 1) x0 x1 x2 x3 x4 x5 x6 x7 x8 x9 x10 x11 x12 x13 x14 x15 x16 x17 =
 bif decide (x3 < x2) then
  (F94.run [PK.v (Ty.int .i64), PK.rp (Ty.int .i64), PK.rp (Ty.nm 3), PK.rp (Ty.nm 3)] [RK.v (Ty.nm 0)] 4000000 (x3, x9, { f_Type := x10, ints := x11, texts := x12, nulls := x13 : Vec }, { f_Type := x14, ints := x15, texts := x16, nulls := x17 : Vec }, ())).bind fun r0 =>
   if (0 : Int) ≤ x3 then
    if x3 < (↑x5.length : Int) then
     F95000054c3 n (x0) (x1) (x2) (IntKind.i64.wrap (x3 + (1 : Int))) (x4) (x5.set x3.toNat r0.fst.fst) (x6) (x7) (x8) (x9) (x10) (x11) (x12) (x13) (x14) (x15) (x16) (x17)
    else
     none
   else
    none
 else
  (F90.run [PK.v (Ty.int .i64), PK.v (Ty.nm 0).sl] [RK.ag 3 AGV, RK.v (Ty.int .i64)] 4000000 (x0, x5, ())).bind fun r1 =>
   bif !decide (r1.fst.snd.fst = (0 : Int)) then
    (F62.run [PK.v (Ty.int .i64), PK.v (Ty.int .i64)] [RK.ag 3 AGV] 4000000 (x0, x1, ())).bind fun r2 =>
     some (({ f_Type := r2.fst.fst.fst, ints := r2.fst.fst.snd.fst, texts := r2.fst.fst.snd.snd.fst, nulls := r2.fst.fst.snd.snd.snd.fst : Vec }, ()), (x9, ((x10, (x11, (x12, (x13, ())))), ((x14, (x15, (x16, (x17, ())))), ()))))
   else
    some (({ f_Type := r1.fst.fst.fst, ints := r1.fst.fst.snd.fst, texts := r1.fst.fst.snd.snd.fst, nulls := r1.fst.fst.snd.snd.snd.fst : Vec }, ()), (x9, ((x10, (x11, (x12, (x13, ())))), ((x14, (x15, (x16, (x17, ())))), ())))) := by kernel_rfl
noncomputable def F97c3 (n : Nat) (x0 : Val) (x1 : Val) (x2 : Val) := F97.at [.v (.nm 0), .v (.nm 0)] [.v (.nm 0)] n 3 ⟨[U, U, .one (.bptr 0 0), .one (.bptr 1 0), .one (.bptr 2 0), U, U, U, U, U, U, U, U, U, U, U, U, U, U, U, U, U, U, U, U, U, U, U, U, U], [(0, .whole (.nm 0) x0 []), (1, .whole (.nm 0) x1 []), (2, .whole (.nm 0) x2 [])]⟩
theorem F97_run (n : Nat) (a0 : Val) (a1 : Val) : F97.run [.v (.nm 0), .v (.nm 0)] [.v (.nm 0)] n (a0, a1, ()) =
 bif !decide (a0.kind = (3 : Int)) then
  some ((zVal, ()), ())
 else
  bif !decide (a1.kind = (3 : Int)) then
   some ((zVal, ()), ())
  else
   bif decide ((4096 : Int) < IntKind.i64.wrap ((↑a0.text.length : Int) + (↑a1.text.length : Int))) then
    some ((zVal, ()), ())
   else
    F97c3 n (a0) (a1) (zVal) := by kernel_rfl
theorem F97c3_eq (n x0 x1 x2 : _) : F97c3 (n + 1) x0 x1 x2 =
 if x0.text.length + x1.text.length ≤ lim then
  some (({ kind := (3 : Int), int := (0 : Int), text := x0.text ++ x1.text : Val }, ()), ())
 else
  none := by kernel_rfl
theorem F96_run (n : Nat) (a0 : Int) (a1 : Vec) (a2 : Vec) : F96.run [.v (.int .i64), .rp (.nm 3), .rp (.nm 3)] [.v (.nm 0)] n (a0, a1, a2, ()) =
 (F40.run [PK.v (Ty.nm 3), PK.v (Ty.int .i64)] [RK.v (Ty.nm 0)] 4000000 (a1, a0, ())).bind fun r0 =>
  (F40.run [PK.v (Ty.nm 3), PK.v (Ty.int .i64)] [RK.v (Ty.nm 0)] 4000000 (a2, a0, ())).bind fun r1 =>
   (F97.run [PK.v (Ty.nm 0), PK.v (Ty.nm 0)] [RK.v (Ty.nm 0)] 4000000 (r0.fst.fst, r1.fst.fst, ())).bind fun r2 =>
    some ((r2.fst.fst, ()), ()) := by kernel_rfl
noncomputable def F97000054c3 (n : Nat) (x0 : Int) (x1 : Int) (x2 : Int) (x3 : Int) (x4 : Int) (x5 : List (Val)) (x6 : List (Int)) (x7 : List (List Int)) (x8 : List (Bool)) (x9 : Int) (x10 : List (Int)) (x11 : List (List Int)) (x12 : List (Bool)) (x13 : Int) (x14 : List (Int)) (x15 : List (List Int)) (x16 : List (Bool)) := F97000054.at [.v (.int .i64), .v (.int .i64), .fn 96 [3, 4], .bc AGW, .bc AGW] [.v (.nm 3)] n 3 ⟨[.one (.int .i64 x0), .one (.int .i64 x1), .one (.fn 96 [903000, 904000]), U, U, U, .one (.bptr 2 0), .one (.own 3), U, U, U, U, U, U, .one (.int .i64 x2), .one (.int .i64 x3), U, U, U, U, U, U, U, U, U, U, U, U, U, U, U, U, U, U, U, U, U], [(2, .cells [.int .i64 x4, .own 4, .own 5, .own 6]), (3, .row 23 (.nm 0) x5 [] false), (4, .row 2 (.int .i64) x6 [] false), (5, .row 9 .str x7 [] false), (6, .row 4 .bool x8 [] false), (903000, .cells [.int .i64 x9, .data (.sl (.int .i64)) x10 [], .data (.sl .str) x11 [], .data (.sl .bool) x12 []]), (904000, .cells [.int .i64 x13, .data (.sl (.int .i64)) x14 [], .data (.sl .str) x15 [], .data (.sl .bool) x16 []])]⟩
theorem F97000054_run (n : Nat) (a0 : Int) (a1 : Int) (a2 : Unit) (a3 : Int × List (Int) × List (List Int) × List (Bool) × Unit) (a4 : Int × List (Int) × List (List Int) × List (Bool) × Unit) : F97000054.run [.v (.int .i64), .v (.int .i64), .fn 96 [3, 4], .bc AGW, .bc AGW] [.v (.nm 3)] n (a0, a1, a2, a3, a4, ()) =
 if (0 : Int) ≤ a1 then
  if a1 ≤ (↑lim : Int) then
   F97000054c3 n (a0) (a1) ((↑(List.replicate a1.toNat zVal).length : Int)) ((0 : Int)) ((0 : Int)) (List.replicate a1.toNat zVal) ([]) ([]) ([]) (a3.fst) (a3.snd.fst) (a3.snd.snd.fst) (a3.snd.snd.snd.fst) (a4.fst) (a4.snd.fst) (a4.snd.snd.fst) (a4.snd.snd.snd.fst)
  else
   none
 else
  none := by kernel_rfl
theorem F97000054c3_eq (n x0 x1 x2 x3 x4 x5 x6 x7 x8 x9 x10 x11 x12 x13 x14 x15 x16 : _) : F97000054c3 (n + 1) x0 x1 x2 x3 x4 x5 x6 x7 x8 x9 x10 x11 x12 x13 x14 x15 x16 =
 bif decide (x3 < x2) then
  (F96.run [PK.v (Ty.int .i64), PK.rp (Ty.nm 3), PK.rp (Ty.nm 3)] [RK.v (Ty.nm 0)] 4000000 (x3, { f_Type := x9, ints := x10, texts := x11, nulls := x12 : Vec }, { f_Type := x13, ints := x14, texts := x15, nulls := x16 : Vec }, ())).bind fun r0 =>
   if (0 : Int) ≤ x3 then
    if x3 < (↑x5.length : Int) then
     F97000054c3 n (x0) (x1) (x2) (IntKind.i64.wrap (x3 + (1 : Int))) (x4) (x5.set x3.toNat r0.fst.fst) (x6) (x7) (x8) (x9) (x10) (x11) (x12) (x13) (x14) (x15) (x16)
    else
     none
   else
    none
 else
  (F90.run [PK.v (Ty.int .i64), PK.v (Ty.nm 0).sl] [RK.ag 3 AGV, RK.v (Ty.int .i64)] 4000000 (x0, x5, ())).bind fun r1 =>
   bif !decide (r1.fst.snd.fst = (0 : Int)) then
    (F62.run [PK.v (Ty.int .i64), PK.v (Ty.int .i64)] [RK.ag 3 AGV] 4000000 (x0, x1, ())).bind fun r2 =>
     some (({ f_Type := r2.fst.fst.fst, ints := r2.fst.fst.snd.fst, texts := r2.fst.fst.snd.snd.fst, nulls := r2.fst.fst.snd.snd.snd.fst : Vec }, ()), ((x9, (x10, (x11, (x12, ())))), ((x13, (x14, (x15, (x16, ())))), ())))
   else
    some (({ f_Type := r1.fst.fst.fst, ints := r1.fst.fst.snd.fst, texts := r1.fst.fst.snd.snd.fst, nulls := r1.fst.fst.snd.snd.snd.fst : Vec }, ()), ((x9, (x10, (x11, (x12, ())))), ((x13, (x14, (x15, (x16, ())))), ()))) := by kernel_rfl
theorem F56_run (n : Nat) (a0 : Val) : F56.run [.v (.nm 0)] [.v (.nm 0)] n (a0, ()) =
 bif !decide (a0.kind = (2 : Int)) then
  some ((zVal, ()), ())
 else
  bif decide (a0.int = (-9223372036854775808 : Int)) then
   some ((zVal, ()), ())
  else
   (F91.run [PK.v (Ty.int .i64)] [RK.v (Ty.nm 0)] 4000000 (IntKind.i64.wrap ((0 : Int) - a0.int), ())).bind fun r0 =>
    some ((r0.fst.fst, ()), ()) := by kernel_rfl
theorem F55_run (n : Nat) (a0 : Int) (a1 : Vec) : F55.run [.v (.int .i64), .rp (.nm 3)] [.v (.nm 0)] n (a0, a1, ()) =
 (F40.run [PK.v (Ty.nm 3), PK.v (Ty.int .i64)] [RK.v (Ty.nm 0)] 4000000 (a1, a0, ())).bind fun r0 =>
  (F56.run [PK.v (Ty.nm 0)] [RK.v (Ty.nm 0)] 4000000 (r0.fst.fst, ())).bind fun r1 =>
   some ((r1.fst.fst, ()), ()) := by kernel_rfl
noncomputable def F56000054c3 (n : Nat) (x0 : Int) (x1 : Int) (x2 : Int) (x3 : Int) (x4 : Int) (x5 : List (Val)) (x6 : List (Int)) (x7 : List (List Int)) (x8 : List (Bool)) (x9 : Int) (x10 : List (Int)) (x11 : List (List Int)) (x12 : List (Bool)) := F56000054.at [.v (.int .i64), .v (.int .i64), .fn 55 [3], .bc AGW] [.v (.nm 3)] n 3 ⟨[.one (.int .i64 x0), .one (.int .i64 x1), .one (.fn 55 [903000]), U, U, U, .one (.bptr 1 0), .one (.own 2), U, U, U, U, U, U, .one (.int .i64 x2), .one (.int .i64 x3), U, U, U, U, U, U, U, U, U, U, U, U, U, U, U, U, U, U, U, U, U], [(1, .cells [.int .i64 x4, .own 3, .own 4, .own 5]), (2, .row 23 (.nm 0) x5 [] false), (3, .row 2 (.int .i64) x6 [] false), (4, .row 9 .str x7 [] false), (5, .row 4 .bool x8 [] false), (903000, .cells [.int .i64 x9, .data (.sl (.int .i64)) x10 [], .data (.sl .str) x11 [], .data (.sl .bool) x12 []])]⟩
theorem F56000054_run (n : Nat) (a0 : Int) (a1 : Int) (a2 : Unit) (a3 : Int × List (Int) × List (List Int) × List (Bool) × Unit) : F56000054.run [.v (.int .i64), .v (.int .i64), .fn 55 [3], .bc AGW] [.v (.nm 3)] n (a0, a1, a2, a3, ()) =
 if (0 : Int) ≤ a1 then
  if a1 ≤ (↑lim : Int) then
   F56000054c3 n (a0) (a1) ((↑(List.replicate a1.toNat zVal).length : Int)) ((0 : Int)) ((0 : Int)) (List.replicate a1.toNat zVal) ([]) ([]) ([]) (a3.fst) (a3.snd.fst) (a3.snd.snd.fst) (a3.snd.snd.snd.fst)
  else
   none
 else
  none := by kernel_rfl
theorem F56000054c3_eq (n x0 x1 x2 x3 x4 x5 x6 x7 x8 x9 x10 x11 x12 : _) : F56000054c3 (n + 1) x0 x1 x2 x3 x4 x5 x6 x7 x8 x9 x10 x11 x12 =
 bif decide (x3 < x2) then
  (F55.run [PK.v (Ty.int .i64), PK.rp (Ty.nm 3)] [RK.v (Ty.nm 0)] 4000000 (x3, { f_Type := x9, ints := x10, texts := x11, nulls := x12 : Vec }, ())).bind fun r0 =>
   if (0 : Int) ≤ x3 then
    if x3 < (↑x5.length : Int) then
     F56000054c3 n (x0) (x1) (x2) (IntKind.i64.wrap (x3 + (1 : Int))) (x4) (x5.set x3.toNat r0.fst.fst) (x6) (x7) (x8) (x9) (x10) (x11) (x12)
    else
     none
   else
    none
 else
  (F90.run [PK.v (Ty.int .i64), PK.v (Ty.nm 0).sl] [RK.ag 3 AGV, RK.v (Ty.int .i64)] 4000000 (x0, x5, ())).bind fun r1 =>
   bif !decide (r1.fst.snd.fst = (0 : Int)) then
    (F62.run [PK.v (Ty.int .i64), PK.v (Ty.int .i64)] [RK.ag 3 AGV] 4000000 (x0, x1, ())).bind fun r2 =>
     some (({ f_Type := r2.fst.fst.fst, ints := r2.fst.fst.snd.fst, texts := r2.fst.fst.snd.snd.fst, nulls := r2.fst.fst.snd.snd.snd.fst : Vec }, ()), ((x9, (x10, (x11, (x12, ())))), ()))
   else
    some (({ f_Type := r1.fst.fst.fst, ints := r1.fst.fst.snd.fst, texts := r1.fst.fst.snd.snd.fst, nulls := r1.fst.fst.snd.snd.snd.fst : Vec }, ()), ((x9, (x10, (x11, (x12, ())))), ())) := by kernel_rfl
end Go.Proofs.Tryz
