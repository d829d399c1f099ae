/- The functions of the program as the engine follows them (printed by a program of ours): their code, what is known of them, and the equations of their runs. -/
import Derived.Test.YtgfklnmckakclaaGreatDoorL40Fns
set_option linter.unusedVariables false
set_option maxRecDepth 20000
namespace Go.Proofs.Tryz
open Go.Eng
theorem F153_run (n : Nat) (a0 : List Int) (a1 : List Int) : F153.run [.v (.str), .v (.str)] [.v (.bool)] n (a0, a1, ()) =
  bif decide ((↑a1.length : Int) ≤ (↑a0.length : Int)) then
    if (↑a1.length : Int) ≤ (↑a0.length : Int) then
      some ((decide (List.drop (Int.toNat (0 : Int)) (List.take (↑a1.length : Int).toNat a0) = a1), ()), ())
    else
      none
  else
    some ((false, ()), ()) := by kernel_rfl
theorem F148_run (n : Nat) (a0 : List Int) (a1 : List Int) : F148.run [.v (.str), .v (.str)] [.v (.bool)] n (a0, a1, ()) =
  (F153.run [PK.v Ty.str, PK.v Ty.str] [RK.v Ty.bool] (4000000 : Nat) (a0, a1, ())).bind fun r0 =>
    some ((r0.fst.fst, ()), ()) := by kernel_rfl
theorem F144_run (n : Nat) (a0 : Int) : F144.run [.v (.int .i64)] [.v (.nm 0)] n (a0, ()) =
  some (({ kind := (2 : Int), int := a0, text := [] : Val }, ()), ()) := by kernel_rfl
theorem F145_run (n : Nat) (a0 : List Int) : F145.run [.v (.str)] [.v (.nm 0)] n (a0, ()) =
  some (({ kind := (3 : Int), int := (0 : Int), text := a0 : Val }, ()), ()) := by kernel_rfl
noncomputable def F147c6 (n : Nat) (x0 : List Int) (x1 : Int) (x2 : Int) := F147.at [.v (.str), .v (.int .i64), .v (.int .i64)] [.v (.str)] n 6 ⟨[.one (.str x0), .one (.int .i64 x1), U, U, U, U, U, .one (.int .i64 x2), U, U, U, U, U, U, U, U, U, U, U, U, U, U, U, U, U, U, U, U, U, U, U, U, U], []⟩
theorem F147_run (n : Nat) (a0 : List Int) (a1 : Int) (a2 : Int) : F147.run [.v (.str), .v (.int .i64), .v (.int .i64)] [.v (.str)] n (a0, a1, a2, ()) =
  bif decide (a2 < (1 : Int)) then
    some (([], ()), ())
  else
    bif decide (a1 ≤ IntKind.i64.wrap ((9223372036854775807 : Int) - a2)) then
      F147c6 n (a0) (a1) (IntKind.i64.wrap (a1 + a2))
    else
      F147c6 n (a0) (a1) ((9223372036854775807 : Int)) := by kernel_rfl
theorem F147c6_eq (n : Nat) (x0 : List Int) (x1 : Int) (x2 : Int) : F147c6 (n + 1) x0 x1 x2 =
  bif decide (imin x2 (IntKind.i64.wrap ((↑x0.length : Int) + (1 : Int))) ≤ imax x1 (1 : Int)) then
    some (([], ()), ())
  else
    if (0 : Int) ≤ IntKind.i64.wrap (imax x1 (1 : Int) - (1 : Int)) then
      if IntKind.i64.wrap (imax x1 (1 : Int) - (1 : Int)) ≤ IntKind.i64.wrap (imin x2 (IntKind.i64.wrap ((↑x0.length : Int) + (1 : Int))) - (1 : Int)) then
        if IntKind.i64.wrap (imin x2 (IntKind.i64.wrap ((↑x0.length : Int) + (1 : Int))) - (1 : Int)) ≤ (↑x0.length : Int) then
          some ((List.drop (IntKind.i64.wrap (imax x1 (1 : Int) - (1 : Int))).toNat (List.take (IntKind.i64.wrap (imin x2 (IntKind.i64.wrap ((↑x0.length : Int) + (1 : Int))) - (1 : Int))).toNat x0), ()), ())
        else
          none
      else
        none
    else
      none := by kernel_rfl
noncomputable def F146c3 (n : Nat) (x0 : Int) (x1 : Int) (x2 : Int) (x3 : Int) (x4 : Int) (x5 : List (Int)) := F146.at [.v (.str), .v (.int .u8), .v (.int .u8), .v (.int .i64)] [.v (.str)] n 3 ⟨[U, .one (.int .u8 x0), .one (.int .u8 x1), .one (.int .i64 x2), U, U, U, U, U, .one (.own 0), U, U, U, U, .one (.own 0), .one (.int .i64 x3), .one (.int .i64 x4), U, U, U, U, U, U, U, U, U, U, U, U, U, U, U, U, U, U, U, U, U, U, U], [(0, .row 1000005 (.int .u8) x5 [] false)]⟩
noncomputable def F146c7 (n : Nat) (x0 : Int) (x1 : Int) (x2 : Int) (x3 : Int) (x4 : Int) (x5 : List (Int)) := F146.at [.v (.str), .v (.int .u8), .v (.int .u8), .v (.int .i64)] [.v (.str)] n 7 ⟨[U, .one (.int .u8 x0), .one (.int .u8 x1), .one (.int .i64 x2), U, U, U, U, U, .one (.own 0), U, U, U, U, .one (.own 0), .one (.int .i64 x3), .one (.int .i64 x4), U, U, U, U, U, U, U, U, U, U, U, U, U, U, U, U, U, U, U, U, U, U, U], [(0, .row 1000005 (.int .u8) x5 [] false)]⟩
theorem F146_run (n : Nat) (a0 : List Int) (a1 : Int) (a2 : Int) (a3 : Int) : F146.run [.v (.str), .v (.int .u8), .v (.int .u8), .v (.int .i64)] [.v (.str)] n (a0, a1, a2, a3, ()) =
  if a0.length ≤ lim then
    F146c3 n (a1) (a2) (a3) ((↑a0.length : Int)) ((0 : Int)) (a0)
  else
    none := by kernel_rfl
theorem F146c3_eq (n : Nat) (x0 : Int) (x1 : Int) (x2 : Int) (x3 : Int) (x4 : Int) (x5 : List (Int)) : F146c3 (n + 1) x0 x1 x2 x3 x4 x5 =
  bif decide (x4 < x3) then
    if (0 : Int) ≤ x4 then
      if x4 < (↑x5.length : Int) then
        bif decide (x0 ≤ x5.getD x4.toNat (0 : Int)) then
          bif decide (x5.getD x4.toNat (0 : Int) ≤ x1) then
            if (0 : Int) ≤ x4 then
              if x4 < (↑x5.length : Int) then
                F146c7 n (x0) (x1) (x2) (x3) (x4) (x5.set x4.toNat (IntKind.u8.wrap (IntKind.i64.wrap (IntKind.i64.wrap (x5.getD x4.toNat (0 : Int)) + x2))))
              else
                none
            else
              none
          else
            F146c7 n (x0) (x1) (x2) (x3) (x4) (x5)
        else
          F146c7 n (x0) (x1) (x2) (x3) (x4) (x5)
      else
        none
    else
      none
  else
    some ((List.map Eng.byteOf x5, ()), ()) := by kernel_rfl
theorem F146c7_eq (n : Nat) (x0 : Int) (x1 : Int) (x2 : Int) (x3 : Int) (x4 : Int) (x5 : List (Int)) : F146c7 (n + 1) x0 x1 x2 x3 x4 x5 =
  F146c3 n (x0) (x1) (x2) (x3) (IntKind.i64.wrap (x4 + (1 : Int))) (x5) := by kernel_rfl
theorem F143_run (n : Nat) (a0 : Int) (a1 : List (Val)) : F143.run [.v (.int .i64), .bw (.sl (.nm 0))] [.v (.int .i64)] n (a0, a1, ()) =
  if (0 : Int) ≤ a0 then
    if a0 < (↑a1.length : Int) then
      some (((a1.getD a0.toNat zVal).int, ()), (a1, ()))
    else
      none
  else
    none := by kernel_rfl
theorem F142_run (n : Nat) (a0 : Int) (a1 : List (Val)) : F142.run [.v (.int .i64), .bw (.sl (.nm 0))] [.v (.str)] n (a0, a1, ()) =
  if (0 : Int) ≤ a0 then
    if a0 < (↑a1.length : Int) then
      some (((a1.getD a0.toNat zVal).text, ()), (a1, ()))
    else
      none
  else
    none := by kernel_rfl
theorem F136_run (n : Nat) (a0 : List Int) (a1 : List (Val)) : F136.run [.v (.str), .v (.sl (.nm 0))] [.v (.nm 0)] n (a0, a1, ()) =
  bif decide (a0 = [(108 : Int), (101 : Int), (110 : Int), (103 : Int), (116 : Int), (104 : Int)]) then
    (F142.run [PK.v (Ty.int IntKind.i64), PK.bw (Ty.nm (0 : Nat)).sl] [RK.v Ty.str] (4000000 : Nat) ((0 : Int), a1, ())).bind fun r0 =>
      (F144.run [PK.v (Ty.int IntKind.i64)] [RK.v (Ty.nm (0 : Nat))] (4000000 : Nat) ((↑(List.length r0.fst.fst) : Int), ())).bind fun r1 =>
        some ((r1.fst.fst, ()), ())
  else
    bif decide (a0 = [(117 : Int), (112 : Int), (112 : Int), (101 : Int), (114 : Int)]) then
      (F142.run [PK.v (Ty.int IntKind.i64), PK.bw (Ty.nm (0 : Nat)).sl] [RK.v Ty.str] (4000000 : Nat) ((0 : Int), a1, ())).bind fun r2 =>
        (F146.run [PK.v Ty.str, PK.v (Ty.int IntKind.u8), PK.v (Ty.int IntKind.u8), PK.v (Ty.int IntKind.i64)] [RK.v Ty.str] (4000000 : Nat) (r2.fst.fst, (97 : Int), (122 : Int), (-32 : Int), ())).bind fun r3 =>
          (F145.run [PK.v Ty.str] [RK.v (Ty.nm (0 : Nat))] (4000000 : Nat) (r3.fst.fst, ())).bind fun r4 =>
            some ((r4.fst.fst, ()), ())
    else
      bif decide (a0 = [(108 : Int), (111 : Int), (119 : Int), (101 : Int), (114 : Int)]) then
        (F142.run [PK.v (Ty.int IntKind.i64), PK.bw (Ty.nm (0 : Nat)).sl] [RK.v Ty.str] (4000000 : Nat) ((0 : Int), a1, ())).bind fun r5 =>
          (F146.run [PK.v Ty.str, PK.v (Ty.int IntKind.u8), PK.v (Ty.int IntKind.u8), PK.v (Ty.int IntKind.i64)] [RK.v Ty.str] (4000000 : Nat) (r5.fst.fst, (65 : Int), (90 : Int), (32 : Int), ())).bind fun r6 =>
            (F145.run [PK.v Ty.str] [RK.v (Ty.nm (0 : Nat))] (4000000 : Nat) (r6.fst.fst, ())).bind fun r7 =>
              some ((r7.fst.fst, ()), ())
      else
        bif decide (a0 = [(115 : Int), (117 : Int), (98 : Int), (115 : Int), (116 : Int), (114 : Int)]) then
          (F142.run [PK.v (Ty.int IntKind.i64), PK.bw (Ty.nm (0 : Nat)).sl] [RK.v Ty.str] (4000000 : Nat) ((0 : Int), a1, ())).bind fun r8 =>
            (F143.run [PK.v (Ty.int IntKind.i64), PK.bw (Ty.nm (0 : Nat)).sl] [RK.v (Ty.int IntKind.i64)] (4000000 : Nat) ((1 : Int), r8.snd.fst, ())).bind fun r9 =>
              (F143.run [PK.v (Ty.int IntKind.i64), PK.bw (Ty.nm (0 : Nat)).sl] [RK.v (Ty.int IntKind.i64)] (4000000 : Nat) ((2 : Int), r9.snd.fst, ())).bind fun r10 =>
                (F147.run [PK.v Ty.str, PK.v (Ty.int IntKind.i64), PK.v (Ty.int IntKind.i64)] [RK.v Ty.str] (4000000 : Nat) (r8.fst.fst, r9.fst.fst, r10.fst.fst, ())).bind fun r11 =>
                  (F145.run [PK.v Ty.str] [RK.v (Ty.nm (0 : Nat))] (4000000 : Nat) (r11.fst.fst, ())).bind fun r12 =>
                    some ((r12.fst.fst, ()), ())
        else
          bif decide (a0 = [(97 : Int), (98 : Int), (115 : Int)]) then
            (F143.run [PK.v (Ty.int IntKind.i64), PK.bw (Ty.nm (0 : Nat)).sl] [RK.v (Ty.int IntKind.i64)] (4000000 : Nat) ((0 : Int), a1, ())).bind fun r13 =>
              bif decide (r13.fst.fst = (-9223372036854775808 : Int)) then
                some ((zVal, ()), ())
              else
                (F143.run [PK.v (Ty.int IntKind.i64), PK.bw (Ty.nm (0 : Nat)).sl] [RK.v (Ty.int IntKind.i64)] (4000000 : Nat) ((0 : Int), r13.snd.fst, ())).bind fun r14 =>
                  (F143.run [PK.v (Ty.int IntKind.i64), PK.bw (Ty.nm (0 : Nat)).sl] [RK.v (Ty.int IntKind.i64)] (4000000 : Nat) ((0 : Int), r14.snd.fst, ())).bind fun r15 =>
                    (F144.run [PK.v (Ty.int IntKind.i64)] [RK.v (Ty.nm (0 : Nat))] (4000000 : Nat) (imax r14.fst.fst (IntKind.i64.wrap ((0 : Int) - r15.fst.fst)), ())).bind fun r16 =>
                      some ((r16.fst.fst, ()), ())
          else
            bif decide (a0 = [(112 : Int), (97 : Int), (114 : Int), (105 : Int), (116 : Int), (121 : Int)]) then
              (F143.run [PK.v (Ty.int IntKind.i64), PK.bw (Ty.nm (0 : Nat)).sl] [RK.v (Ty.int IntKind.i64)] (4000000 : Nat) ((0 : Int), a1, ())).bind fun r17 =>
                (F144.run [PK.v (Ty.int IntKind.i64)] [RK.v (Ty.nm (0 : Nat))] (4000000 : Nat) (bits BinOp.and IntKind.i64 r17.fst.fst (1 : Int), ())).bind fun r18 =>
                  some ((r18.fst.fst, ()), ())
            else
              (F142.run [PK.v (Ty.int IntKind.i64), PK.bw (Ty.nm (0 : Nat)).sl] [RK.v Ty.str] (4000000 : Nat) ((0 : Int), a1, ())).bind fun r19 =>
                (F142.run [PK.v (Ty.int IntKind.i64), PK.bw (Ty.nm (0 : Nat)).sl] [RK.v Ty.str] (4000000 : Nat) ((1 : Int), r19.snd.fst, ())).bind fun r20 =>
                  (F148.run [PK.v Ty.str, PK.v Ty.str] [RK.v Ty.bool] (4000000 : Nat) (r19.fst.fst, r20.fst.fst, ())).bind fun r21 =>
                    bif r21.fst.fst then
                      some (({ kind := (1 : Int), int := (1 : Int), text := [] : Val }, ()), ())
                    else
                      some (({ kind := (1 : Int), int := (0 : Int), text := [] : Val }, ()), ()) := by kernel_rfl
noncomputable def F135c1 (n : Nat) (x0 : List Int) := F135.at [.v (.str)] [.own 3 (.int .i64), .v (.int .i64)] n 1 ⟨[.one (.str x0), U, U, U, U, U, U, U, U, U, U, U, U, U, U, U, U, U, U, U, U, U, U, U], []⟩
noncomputable def F135c10 (n : Nat)  := F135.at [.v (.str)] [.own 3 (.int .i64), .v (.int .i64)] n 10 ⟨[U, U, U, U, U, U, U, U, U, U, U, U, U, U, U, U, U, U, U, U, U, U, U, U], []⟩
noncomputable def F135c12 (n : Nat)  := F135.at [.v (.str)] [.own 3 (.int .i64), .v (.int .i64)] n 12 ⟨[U, U, U, U, U, U, U, U, U, U, U, U, U, U, U, U, U, U, U, U, U, U, U, U], []⟩
theorem F135_run (n : Nat) (a0 : List Int) : F135.run [.v (.str)] [.own 3 (.int .i64), .v (.int .i64)] n (a0, ()) =
  F135c1 n (a0) := by kernel_rfl
theorem F135c1_eq (n : Nat) (x0 : List Int) : F135c1 (n + 1) x0 =
  bif decide (x0 = [(108 : Int), (101 : Int), (110 : Int), (103 : Int), (116 : Int), (104 : Int)]) then
    some (([(3 : Int)], ((2 : Int), ())), ())
  else
    bif decide (x0 = [(117 : Int), (112 : Int), (112 : Int), (101 : Int), (114 : Int)]) then
      F135c10 n 
    else
      bif decide (x0 = [(108 : Int), (111 : Int), (119 : Int), (101 : Int), (114 : Int)]) then
        F135c10 n 
      else
        bif decide (x0 = [(115 : Int), (117 : Int), (98 : Int), (115 : Int), (116 : Int), (114 : Int)]) then
          some (([(3 : Int), (2 : Int), (2 : Int)], ((3 : Int), ())), ())
        else
          bif decide (x0 = [(97 : Int), (98 : Int), (115 : Int)]) then
            F135c12 n 
          else
            bif decide (x0 = [(112 : Int), (97 : Int), (114 : Int), (105 : Int), (116 : Int), (121 : Int)]) then
              F135c12 n 
            else
              bif decide (x0 = [(115 : Int), (116 : Int), (97 : Int), (114 : Int), (116 : Int), (115 : Int), (95 : Int), (119 : Int), (105 : Int), (116 : Int), (104 : Int)]) then
                some (([(3 : Int), (3 : Int)], ((1 : Int), ())), ())
              else
                some (([], ((0 : Int), ())), ()) := by kernel_rfl
theorem F135c10_eq (n : Nat)  : F135c10 (n + 1)  =
  some (([(3 : Int)], ((3 : Int), ())), ()) := by kernel_rfl
theorem F135c12_eq (n : Nat)  : F135c12 (n + 1)  =
  some (([(2 : Int)], ((2 : Int), ())), ()) := by kernel_rfl
noncomputable def F134c3 (n : Nat) (x0 : Int) (x1 : List (Val)) (x2 : Int) (x3 : Int) (x4 : Val) (x5 : Val) := F134.at [.v (.sl (.nm 0)), .v (.int .i64)] [.v (.nm 0)] n 3 ⟨[U, .one (.int .i64 x0), U, U, .one (.bptr 0 0), .one (.bptr 1 0), U, U, U, .one (.data (.sl (.nm 0)) x1 []), .one (.int .i64 x2), .one (.int .i64 x3), U, U, U, U, U, U, U, U, U, U, U, U, U, U, U, U, U, U, U, U, U], [(0, .whole (.nm 0) x4 []), (1, .whole (.nm 0) x5 [])]⟩
noncomputable def F134c7 (n : Nat) (x0 : Int) (x1 : List (Val)) (x2 : Int) (x3 : Int) (x4 : Val) (x5 : Val) := F134.at [.v (.sl (.nm 0)), .v (.int .i64)] [.v (.nm 0)] n 7 ⟨[U, .one (.int .i64 x0), U, U, .one (.bptr 0 0), .one (.bptr 1 0), U, U, U, .one (.data (.sl (.nm 0)) x1 []), .one (.int .i64 x2), .one (.int .i64 x3), U, U, U, U, U, U, U, U, U, U, U, U, U, U, U, U, U, U, U, U, U], [(0, .whole (.nm 0) x4 []), (1, .whole (.nm 0) x5 [])]⟩
theorem F134_run (n : Nat) (a0 : List (Val)) (a1 : Int) : F134.run [.v (.sl (.nm 0)), .v (.int .i64)] [.v (.nm 0)] n (a0, a1, ()) =
  F134c3 n (a1) (a0) ((↑a0.length : Int)) ((0 : Int)) (zVal) (zVal) := by kernel_rfl
theorem F134c3_eq (n : Nat) (x0 : Int) (x1 : List (Val)) (x2 : Int) (x3 : Int) (x4 : Val) (x5 : Val) : F134c3 (n + 1) x0 x1 x2 x3 x4 x5 =
  bif decide (x3 < x2) then
    if (0 : Int) ≤ x3 then
      if x3 < (↑x1.length : Int) then
        bif !decide ((x1.getD x3.toNat zVal).kind = (0 : Int)) then
          bif decide (x5.kind = (0 : Int)) then
            F134c7 n (x0) (x1) (x2) (x3) (x4) (x1.getD x3.toNat zVal)
          else
            (F141.run [PK.v (Ty.nm (0 : Nat)), PK.v (Ty.nm (0 : Nat))] [RK.v (Ty.int IntKind.i64)] (4000000 : Nat) (x1.getD x3.toNat zVal, x5, ())).bind fun r0 =>
              bif decide (r0.fst.fst = x0) then
                F134c7 n (x0) (x1) (x2) (x3) (x4) (x1.getD x3.toNat zVal)
              else
                F134c7 n (x0) (x1) (x2) (x3) (x4) (x5)
        else
          F134c7 n (x0) (x1) (x2) (x3) (x4) (x5)
      else
        none
    else
      none
  else
    some ((x5, ()), ()) := by kernel_rfl
theorem F134c7_eq (n : Nat) (x0 : Int) (x1 : List (Val)) (x2 : Int) (x3 : Int) (x4 : Val) (x5 : Val) : F134c7 (n + 1) x0 x1 x2 x3 x4 x5 =
  F134c3 n (x0) (x1) (x2) (IntKind.i64.wrap (x3 + (1 : Int))) (x4) (x5) := by kernel_rfl
theorem F133_run (n : Nat) (a0 : List Int) (a1 : Int) : F133.run [.v (.str), .v (.int .i64)] [.v (.bool), .v (.bool)] n (a0, a1, ()) =
  bif decide (a0 = [(99 : Int), (111 : Int), (97 : Int), (108 : Int), (101 : Int), (115 : Int), (99 : Int), (101 : Int)]) then
    bif decide (a0 = [(99 : Int), (111 : Int), (97 : Int), (108 : Int), (101 : Int), (115 : Int), (99 : Int), (101 : Int)]) then
      some ((true, (decide ((1 : Int) ≤ a1), ())), ())
    else
      bif decide (a0 = [(110 : Int), (117 : Int), (108 : Int), (108 : Int), (105 : Int), (102 : Int)]) then
        some ((true, (decide (a1 = (2 : Int)), ())), ())
      else
        some ((false, (false, ())), ())
  else
    bif decide (a0 = [(108 : Int), (101 : Int), (97 : Int), (115 : Int), (116 : Int)]) then
      bif decide (a0 = [(108 : Int), (101 : Int), (97 : Int), (115 : Int), (116 : Int)]) then
        some ((true, (decide ((1 : Int) ≤ a1), ())), ())
      else
        bif decide (a0 = [(110 : Int), (117 : Int), (108 : Int), (108 : Int), (105 : Int), (102 : Int)]) then
          some ((true, (decide (a1 = (2 : Int)), ())), ())
        else
          some ((false, (false, ())), ())
    else
      bif decide (a0 = [(103 : Int), (114 : Int), (101 : Int), (97 : Int), (116 : Int), (101 : Int), (115 : Int), (116 : Int)]) then
        some ((true, (decide ((1 : Int) ≤ a1), ())), ())
      else
        bif decide (a0 = [(110 : Int), (117 : Int), (108 : Int), (108 : Int), (105 : Int), (102 : Int)]) then
          some ((true, (decide (a1 = (2 : Int)), ())), ())
        else
          some ((false, (false, ())), ()) := by kernel_rfl
noncomputable def F122c15 (n : Nat) (x0 : List (Val)) (x1 : Int) (x2 : Int) (x3 : Val) := F122.at [.v (.str), .v (.sl (.nm 0))] [.v (.nm 0)] n 15 ⟨[U, U, U, U, .one (.bptr 0 0), U, U, U, U, U, U, U, U, U, U, U, U, U, U, U, U, U, U, U, U, U, U, U, U, U, U, U, U, U, U, U, U, U, U, U, U, U, U, U, U, U, U, U, .one (.data (.sl (.nm 0)) x0 []), .one (.int .i64 x1), .one (.int .i64 x2), U, U, U, U, U, U, U, U, U, U, U, U, U, U, U, U, U, U, U, U, U, U, U, U, U, U, U, U, U, U, U, U, U, U, U, U, U, U, U, U, U, U, U], [(0, .whole (.nm 0) x3 [])]⟩
noncomputable def F122c24 (n : Nat) (x0 : List Int) (x1 : List (Val)) (x2 : Val) (x3 : List (Int)) := F122.at [.v (.str), .v (.sl (.nm 0))] [.v (.nm 0)] n 24 ⟨[.one (.str x0), .one (.data (.sl (.nm 0)) x1 []), U, U, .one (.bptr 0 0), U, U, U, U, .one (.own 1), U, U, U, U, U, U, U, U, U, U, U, U, U, U, U, U, U, U, U, U, U, U, U, U, U, U, U, U, U, U, U, U, U, U, U, U, U, U, U, U, U, U, U, U, U, U, U, U, U, U, U, U, U, U, U, U, U, U, U, U, U, U, U, U, U, U, U, U, U, U, U, U, U, U, U, U, U, U, U, U, U, U, U, U], [(0, .whole (.nm 0) x2 []), (1, .row 3 (.int .i64) x3 [] false)]⟩
noncomputable def F122c25 (n : Nat) (x0 : List Int) (x1 : List (Val)) (x2 : List (Val)) (x3 : Int) (x4 : Int) (x5 : Val) (x6 : List (Int)) := F122.at [.v (.str), .v (.sl (.nm 0))] [.v (.nm 0)] n 25 ⟨[.one (.str x0), .one (.data (.sl (.nm 0)) x1 []), U, U, .one (.bptr 0 0), U, U, U, U, .one (.own 1), U, U, U, U, U, U, U, U, U, U, U, U, U, U, U, U, U, U, U, U, U, U, U, U, U, U, U, U, U, U, U, U, U, U, U, U, U, U, U, U, U, U, U, U, U, U, U, U, U, U, U, U, U, U, U, U, U, U, U, U, U, U, U, U, U, .one (.data (.sl (.nm 0)) x2 []), .one (.int .i64 x3), .one (.int .i64 x4), U, U, U, U, U, U, U, U, U, U, U, U, U, U, U, U], [(0, .whole (.nm 0) x5 []), (1, .row 3 (.int .i64) x6 [] false)]⟩
theorem F122_run (n : Nat) (a0 : List Int) (a1 : List (Val)) : F122.run [.v (.str), .v (.sl (.nm 0))] [.v (.nm 0)] n (a0, a1, ()) =
  (F133.run [PK.v Ty.str, PK.v (Ty.int IntKind.i64)] [RK.v Ty.bool, RK.v Ty.bool] (4000000 : Nat) (a0, (↑a1.length : Int), ())).bind fun r0 =>
    bif r0.fst.fst then
      bif !r0.fst.snd.fst then
        some ((zVal, ()), ())
      else
        bif decide (a0 = [(110 : Int), (117 : Int), (108 : Int), (108 : Int), (105 : Int), (102 : Int)]) then
          if (0 : Int) < (↑a1.length : Int) then
            if (1 : Int) < (↑a1.length : Int) then
              (F132.run [PK.v (Ty.int IntKind.i64), PK.v (Ty.nm (0 : Nat)), PK.v (Ty.nm (0 : Nat))] [RK.v (Ty.nm (0 : Nat))] (4000000 : Nat) ((1 : Int), a1.getD (Int.toNat (0 : Int)) zVal, a1.getD (Int.toNat (1 : Int)) zVal, ())).bind fun r1 =>
                bif decide (r1.fst.fst.kind = (1 : Int)) && (decide (r1.fst.fst.int = (1 : Int)) && (decide (r1.fst.fst.text = []) && true)) then
                  some ((zVal, ()), ())
                else
                  if (0 : Int) < (↑a1.length : Int) then
                    some ((a1.getD (Int.toNat (0 : Int)) zVal, ()), ())
                  else
                    none
            else
              none
          else
            none
        else
          bif decide (a0 = [(108 : Int), (101 : Int), (97 : Int), (115 : Int), (116 : Int)]) then
            (F134.run [PK.v (Ty.nm (0 : Nat)).sl, PK.v (Ty.int IntKind.i64)] [RK.v (Ty.nm (0 : Nat))] (4000000 : Nat) (a1, (-1 : Int), ())).bind fun r2 =>
              some ((r2.fst.fst, ()), ())
          else
            bif decide (a0 = [(103 : Int), (114 : Int), (101 : Int), (97 : Int), (116 : Int), (101 : Int), (115 : Int), (116 : Int)]) then
              (F134.run [PK.v (Ty.nm (0 : Nat)).sl, PK.v (Ty.int IntKind.i64)] [RK.v (Ty.nm (0 : Nat))] (4000000 : Nat) (a1, (1 : Int), ())).bind fun r3 =>
                some ((r3.fst.fst, ()), ())
            else
              F122c15 n (a1) ((↑a1.length : Int)) ((0 : Int)) (zVal)
    else
      (F135.run [PK.v Ty.str] [RK.own (3 : TypeId) (Ty.int IntKind.i64), RK.v (Ty.int IntKind.i64)] (4000000 : Nat) (a0, ())).bind fun r4 =>
        if List.length r4.fst.fst = (0 : Nat) then
          none
        else
          bif !decide ((↑(List.length r4.fst.fst) : Int) = (↑a1.length : Int)) then
            some ((zVal, ()), ())
          else
            F122c24 n (a0) (a1) (zVal) (r4.fst.fst) := by kernel_rfl
theorem F122c15_eq (n : Nat) (x0 : List (Val)) (x1 : Int) (x2 : Int) (x3 : Val) : F122c15 (n + 1) x0 x1 x2 x3 =
  bif decide (x2 < x1) then
    if (0 : Int) ≤ x2 then
      if x2 < (↑x0.length : Int) then
        bif !decide ((x0.getD x2.toNat zVal).kind = (0 : Int)) then
          some ((x0.getD x2.toNat zVal, ()), ())
        else
          F122c15 n (x0) (x1) (IntKind.i64.wrap (x2 + (1 : Int))) (x3)
      else
        none
    else
      none
  else
    some ((zVal, ()), ()) := by kernel_rfl
theorem F122c24_eq (n : Nat) (x0 : List Int) (x1 : List (Val)) (x2 : Val) (x3 : List (Int)) : F122c24 (n + 1) x0 x1 x2 x3 =
  F122c25 n (x0) (x1) (x1) ((↑x1.length : Int)) ((0 : Int)) (x2) (x3) := by kernel_rfl
theorem F122c25_eq (n : Nat) (x0 : List Int) (x1 : List (Val)) (x2 : List (Val)) (x3 : Int) (x4 : Int) (x5 : Val) (x6 : List (Int)) : F122c25 (n + 1) x0 x1 x2 x3 x4 x5 x6 =
  bif decide (x4 < x3) then
    if (0 : Int) ≤ x4 then
      if x4 < (↑x2.length : Int) then
        if (0 : Int) ≤ x4 then
          if x4 < (↑x6.length : Int) then
            bif !decide ((x2.getD x4.toNat zVal).kind = x6.getD x4.toNat (0 : Int)) then
              some ((zVal, ()), ())
            else
              F122c25 n (x0) (x1) (x2) (x3) (IntKind.i64.wrap (x4 + (1 : Int))) (x5) (x6)
          else
            none
        else
          none
      else
        none
    else
      none
  else
    (F136.run [PK.v Ty.str, PK.v (Ty.nm (0 : Nat)).sl] [RK.v (Ty.nm (0 : Nat))] (4000000 : Nat) (x0, x1, ())).bind fun r5 =>
      some ((r5.fst.fst, ()), ()) := by kernel_rfl
noncomputable def F154c1 (n : Nat) (x0 : List Int) (x1 : Int) := F154.at [.v (.str), .v (.int .u8)] [.v (.str)] n 1 ⟨[.one (.str x0), .one (.int .u8 x1), U, U, U, U, U, U, U, U, U, U, U, U, U, U, U], []⟩
theorem F154_run (n : Nat) (a0 : List Int) (a1 : Int) : F154.run [.v (.str), .v (.int .u8)] [.v (.str)] n (a0, a1, ()) =
  F154c1 n (a0) (a1) := by kernel_rfl
theorem F154c1_eq (n : Nat) (x0 : List Int) (x1 : Int) : F154c1 (n + 1) x0 x1 =
  bif decide ((0 : Int) < (↑x0.length : Int)) then
    if (0 : Int) < (↑x0.length : Int) then
      bif decide (x0.getD (Int.toNat (0 : Int)) (0 : Int) = x1) then
        if (1 : Int) ≤ (↑x0.length : Int) then
          if (↑x0.length : Int) ≤ (↑x0.length : Int) then
            F154c1 n (List.drop (Int.toNat (1 : Int)) (List.take (↑x0.length : Int).toNat x0)) (x1)
          else
            none
        else
          none
      else
        some ((x0, ()), ())
    else
      none
  else
    some ((x0, ()), ()) := by kernel_rfl
noncomputable def F155c1 (n : Nat) (x0 : List Int) (x1 : Int) := F155.at [.v (.str), .v (.int .u8)] [.v (.str)] n 1 ⟨[.one (.str x0), .one (.int .u8 x1), U, U, U, U, U, U, U, U, U, U, U, U, U, U, U, U, U, U, U, U, U], []⟩
noncomputable def F155c2 (n : Nat) (x0 : List Int) (x1 : Int) := F155.at [.v (.str), .v (.int .u8)] [.v (.str)] n 2 ⟨[.one (.str x0), .one (.int .u8 x1), U, U, U, U, U, U, U, U, U, U, U, U, U, U, U, U, U, U, U, U, U], []⟩
theorem F155_run (n : Nat) (a0 : List Int) (a1 : Int) : F155.run [.v (.str), .v (.int .u8)] [.v (.str)] n (a0, a1, ()) =
  F155c1 n (a0) (a1) := by kernel_rfl
theorem F155c1_eq (n : Nat) (x0 : List Int) (x1 : Int) : F155c1 (n + 1) x0 x1 =
  bif decide ((0 : Int) < (↑x0.length : Int)) then
    if (0 : Int) ≤ IntKind.i64.wrap ((↑x0.length : Int) - (1 : Int)) then
      if IntKind.i64.wrap ((↑x0.length : Int) - (1 : Int)) < (↑x0.length : Int) then
        bif decide (x0.getD (IntKind.i64.wrap ((↑x0.length : Int) - (1 : Int))).toNat (0 : Int) = x1) then
          F155c2 n (x0) (x1)
        else
          some ((x0, ()), ())
      else
        none
    else
      none
  else
    some ((x0, ()), ()) := by kernel_rfl
theorem F155c2_eq (n : Nat) (x0 : List Int) (x1 : Int) : F155c2 (n + 1) x0 x1 =
  if (0 : Int) ≤ IntKind.i64.wrap ((↑x0.length : Int) - (1 : Int)) then
    if IntKind.i64.wrap ((↑x0.length : Int) - (1 : Int)) ≤ (↑x0.length : Int) then
      F155c1 n (List.drop (Int.toNat (0 : Int)) (List.take (IntKind.i64.wrap ((↑x0.length : Int) - (1 : Int))).toNat x0)) (x1)
    else
      none
  else
    none := by kernel_rfl
noncomputable def F149c3 (n : Nat) (x0 : List Int) (x1 : List Int) := F149.at [.v (.str), .v (.str)] [.v (.str)] n 3 ⟨[.one (.str x0), .one (.str x1), U, U, U, U, U, U, U, U, U, U, U, U, U, U, U, U, U, U, U, U, U, U, U, U, U, U, U, U, U, U, U, U, U, U, U, U, U, U, U, U, U], []⟩
noncomputable def F149c5 (n : Nat) (x0 : List Int) (x1 : List Int) := F149.at [.v (.str), .v (.str)] [.v (.str)] n 5 ⟨[.one (.str x0), .one (.str x1), U, U, U, U, U, U, U, U, U, U, U, U, U, U, U, U, U, U, U, U, U, U, U, U, U, U, U, U, U, U, U, U, U, U, U, U, U, U, U, U, U], []⟩
theorem F149_run (n : Nat) (a0 : List Int) (a1 : List Int) : F149.run [.v (.str), .v (.str)] [.v (.str)] n (a0, a1, ()) =
  bif decide (a0 = []) then
    some ((a0, ()), ())
  else
    bif decide (a1 = []) then
      some ((a0, ()), ())
    else
      F149c3 n (a0) (a1) := by kernel_rfl
theorem F149c3_eq (n : Nat) (x0 : List Int) (x1 : List Int) : F149c3 (n + 1) x0 x1 =
  bif decide ((↑x1.length : Int) = (1 : Int)) then
    if (0 : Int) < (↑x1.length : Int) then
      bif decide (x1.getD (Int.toNat (0 : Int)) (0 : Int) < (128 : Int)) then
        if (0 : Int) < (↑x1.length : Int) then
          (F155.run [PK.v Ty.str, PK.v (Ty.int IntKind.u8)] [RK.v Ty.str] (4000000 : Nat) (x0, x1.getD (Int.toNat (0 : Int)) (0 : Int), ())).bind fun r0 =>
            if (0 : Int) < (↑x1.length : Int) then
              (F154.run [PK.v Ty.str, PK.v (Ty.int IntKind.u8)] [RK.v Ty.str] (4000000 : Nat) (r0.fst.fst, x1.getD (Int.toNat (0 : Int)) (0 : Int), ())).bind fun r1 =>
                some ((r1.fst.fst, ()), ())
            else
              none
        else
          none
      else
        F149c5 n (x0) (x1)
    else
      none
  else
    F149c5 n (x0) (x1) := by kernel_rfl
theorem F149c5_eq (n : Nat) (x0 : List Int) (x1 : List Int) : F149c5 (n + 1) x0 x1 =
  none := by kernel_rfl
noncomputable def F139c3 (n : Nat) (x0 : List Int) (x1 : List Int) (x2 : Int) (x3 : Int) (x4 : Int) (x5 : Int) := F139.at [.v (.str), .v (.str)] [.v (.bool)] n 3 ⟨[.one (.str x0), .one (.str x1), U, U, U, .one (.int .i64 x2), .one (.int .i64 x3), .one (.int .i64 x4), .one (.int .i64 x5), U, U, U, U, U, U, U, U, U, U, U, U, U, U, U, U, U, U, U, U, U, U, U, U, U, U, U, U, U, U, U, U, U, U, U, U, U, U, U, U, U, U, U, U, U, U, U, U, U, U, U, U, U, U, U, U, U, U, U, U], []⟩
noncomputable def F139c13 (n : Nat) (x0 : List Int) (x1 : List Int) (x2 : Int) (x3 : Int) := F139.at [.v (.str), .v (.str)] [.v (.bool)] n 13 ⟨[.one (.str x0), .one (.str x1), U, U, U, .one (.int .i64 x2), .one (.int .i64 x3), U, U, U, U, U, U, U, U, U, U, U, U, U, U, U, U, U, U, U, U, U, U, U, U, U, U, U, U, U, U, U, U, U, U, U, U, U, U, U, U, U, U, U, U, U, U, U, U, U, U, U, U, U, U, U, U, U, U, U, U, U, U], []⟩
noncomputable def F139c11 (n : Nat) (x0 : List Int) (x1 : List Int) (x2 : Int) (x3 : Int) := F139.at [.v (.str), .v (.str)] [.v (.bool)] n 11 ⟨[.one (.str x0), .one (.str x1), U, U, U, U, U, .one (.int .i64 x2), .one (.int .i64 x3), U, U, U, U, U, U, U, U, U, U, U, U, U, U, U, U, U, U, U, U, U, U, U, U, U, U, U, U, U, U, U, U, U, U, U, U, U, U, U, U, U, U, U, U, U, U, U, U, U, U, U, U, U, U, U, U, U, U, U, U], []⟩
theorem F139_run (n : Nat) (a0 : List Int) (a1 : List Int) : F139.run [.v (.str), .v (.str)] [.v (.bool)] n (a0, a1, ()) =
  F139c3 n (a0) (a1) ((0 : Int)) ((0 : Int)) ((-1 : Int)) ((0 : Int)) := by kernel_rfl
theorem F139c3_eq (n : Nat) (x0 : List Int) (x1 : List Int) (x2 : Int) (x3 : Int) (x4 : Int) (x5 : Int) : F139c3 (n + 1) x0 x1 x2 x3 x4 x5 =
  bif decide (x3 < (↑x1.length : Int)) then
    bif decide (x2 < (↑x0.length : Int)) then
      if (0 : Int) ≤ x2 then
        if x2 < (↑x0.length : Int) then
          bif decide (x0.getD x2.toNat (0 : Int) = (37 : Int)) then
            F139c3 n (x0) (x1) (IntKind.i64.wrap (x2 + (1 : Int))) (x3) (x2) (x3)
          else
            bif decide (x2 < (↑x0.length : Int)) then
              if (0 : Int) ≤ x2 then
                if x2 < (↑x0.length : Int) then
                  bif decide (x0.getD x2.toNat (0 : Int) = (95 : Int)) then
                    F139c3 n (x0) (x1) (IntKind.i64.wrap (x2 + (1 : Int))) (IntKind.i64.wrap (x3 + (1 : Int))) (x4) (x5)
                  else
                    if (0 : Int) ≤ x2 then
                      if x2 < (↑x0.length : Int) then
                        if (0 : Int) ≤ x3 then
                          if x3 < (↑x1.length : Int) then
                            bif decide (x0.getD x2.toNat (0 : Int) = x1.getD x3.toNat (0 : Int)) then
                              F139c3 n (x0) (x1) (IntKind.i64.wrap (x2 + (1 : Int))) (IntKind.i64.wrap (x3 + (1 : Int))) (x4) (x5)
                            else
                              bif decide (x4 < (0 : Int)) then
                                F139c13 n (x0) (x1) (x2) (x3)
                              else
                                F139c11 n (x0) (x1) (x4) (x5)
                          else
                            none
                        else
                          none
                      else
                        none
                    else
                      none
                else
                  none
              else
                none
            else
              bif decide (x4 < (0 : Int)) then
                F139c13 n (x0) (x1) (x2) (x3)
              else
                F139c11 n (x0) (x1) (x4) (x5)
        else
          none
      else
        none
    else
      bif decide (x2 < (↑x0.length : Int)) then
        if (0 : Int) ≤ x2 then
          if x2 < (↑x0.length : Int) then
            bif decide (x0.getD x2.toNat (0 : Int) = (95 : Int)) then
              F139c3 n (x0) (x1) (IntKind.i64.wrap (x2 + (1 : Int))) (IntKind.i64.wrap (x3 + (1 : Int))) (x4) (x5)
            else
              if (0 : Int) ≤ x2 then
                if x2 < (↑x0.length : Int) then
                  if (0 : Int) ≤ x3 then
                    if x3 < (↑x1.length : Int) then
                      bif decide (x0.getD x2.toNat (0 : Int) = x1.getD x3.toNat (0 : Int)) then
                        F139c3 n (x0) (x1) (IntKind.i64.wrap (x2 + (1 : Int))) (IntKind.i64.wrap (x3 + (1 : Int))) (x4) (x5)
                      else
                        bif decide (x4 < (0 : Int)) then
                          F139c13 n (x0) (x1) (x2) (x3)
                        else
                          F139c11 n (x0) (x1) (x4) (x5)
                    else
                      none
                  else
                    none
                else
                  none
              else
                none
          else
            none
        else
          none
      else
        bif decide (x4 < (0 : Int)) then
          F139c13 n (x0) (x1) (x2) (x3)
        else
          F139c11 n (x0) (x1) (x4) (x5)
  else
    F139c13 n (x0) (x1) (x2) (x3) := by kernel_rfl
theorem F139c13_eq (n : Nat) (x0 : List Int) (x1 : List Int) (x2 : Int) (x3 : Int) : F139c13 (n + 1) x0 x1 x2 x3 =
  bif decide (x3 < (↑x1.length : Int)) then
    some ((false, ()), ())
  else
    if (0 : Int) ≤ x2 then
      if x2 ≤ (↑x0.length : Int) then
        if (↑x0.length : Int) ≤ (↑x0.length : Int) then
          (F149.run [PK.v Ty.str, PK.v Ty.str] [RK.v Ty.str] (4000000 : Nat) (List.drop x2.toNat (List.take (↑x0.length : Int).toNat x0), [(37 : Int)], ())).bind fun r0 =>
            some ((decide (r0.fst.fst = []), ()), ())
        else
          none
      else
        none
    else
      none := by kernel_rfl
theorem F139c11_eq (n : Nat) (x0 : List Int) (x1 : List Int) (x2 : Int) (x3 : Int) : F139c11 (n + 1) x0 x1 x2 x3 =
  F139c3 n (x0) (x1) (IntKind.i64.wrap (x2 + (1 : Int))) (IntKind.i64.wrap (x3 + (1 : Int))) (x2) (IntKind.i64.wrap (x3 + (1 : Int))) := by kernel_rfl
theorem F124_run (g104 : G104) (n : Nat) (a0 : Ex) (a1 : List (Val)) : (F124 g104).run [.v (.nm 1), .v (.sl (.nm 0))] [.v (.bool)] n (a0, a1, ()) =
  (g104 (a0, a1, ())).bind fun r0 =>
    (F137.run [PK.v (Ty.nm (0 : Nat))] [RK.v Ty.bool] (4000000 : Nat) (r0.fst.fst, ())).bind fun r1 =>
      some ((r1.fst.fst, ()), ()) := by kernel_rfl
noncomputable def F115c6 (g104 : G104) (n : Nat) (x0 : List (Ex)) (x1 : List (Val)) (x2 : Int) (x3 : Val) (x4 : Val) := (F115 g104).at [.v (.sl (.nm 1)), .v (.sl (.nm 0))] [.v (.nm 0)] n 6 ⟨[.one (.data (.sl (.nm 1)) x0 []), .one (.data (.sl (.nm 0)) x1 []), U, U, .one (.bptr 0 0), .one (.bptr 1 0), .one (.int .i64 x2), U, U, U, U, U, U, U, U, U, U, U, U, U, U, U, U, U, U, U, U, U, U, U, U, U, U, U, U, U, U, U, U, U, U, U, U], [(0, .whole (.nm 0) x3 []), (1, .whole (.nm 0) x4 [])]⟩
theorem F115_run (g104 : G104) (n : Nat) (a0 : List (Ex)) (a1 : List (Val)) : (F115 g104).run [.v (.sl (.nm 1)), .v (.sl (.nm 0))] [.v (.nm 0)] n (a0, a1, ()) =
  bif decide ((↑a0.length : Int).tmod (2 : Int) = (1 : Int)) then
    if (0 : Int) ≤ IntKind.i64.wrap ((↑a0.length : Int) - (1 : Int)) then
      if IntKind.i64.wrap ((↑a0.length : Int) - (1 : Int)) < (↑a0.length : Int) then
        (g104 (a0.getD (IntKind.i64.wrap ((↑a0.length : Int) - (1 : Int))).toNat zEx, a1, ())).bind fun r0 =>
          F115c6 g104 n (a0) (a1) ((0 : Int)) (zVal) (r0.fst.fst)
      else
        none
    else
      none
  else
    F115c6 g104 n (a0) (a1) ((0 : Int)) (zVal) (zVal) := by kernel_rfl
theorem F115c6_eq (g104 : G104) (n : Nat) (x0 : List (Ex)) (x1 : List (Val)) (x2 : Int) (x3 : Val) (x4 : Val) : F115c6 g104 (n + 1) x0 x1 x2 x3 x4 =
  bif decide ((↑x0.length : Int) ≤ IntKind.i64.wrap (x2 + (1 : Int))) then
    some ((x4, ()), ())
  else
    if (0 : Int) ≤ x2 then
      if x2 < (↑x0.length : Int) then
        ((F124 g104).run [PK.v (Ty.nm (1 : Nat)), PK.v (Ty.nm (0 : Nat)).sl] [RK.v Ty.bool] (4000000 : Nat) (x0.getD x2.toNat zEx, x1, ())).bind fun r1 =>
          bif r1.fst.fst then
            if (0 : Int) ≤ IntKind.i64.wrap (x2 + (1 : Int)) then
              if IntKind.i64.wrap (x2 + (1 : Int)) < (↑x0.length : Int) then
                (g104 (x0.getD (IntKind.i64.wrap (x2 + (1 : Int))).toNat zEx, x1, ())).bind fun r2 =>
                  some ((r2.fst.fst, ()), ())
              else
                none
            else
              none
          else
            F115c6 g104 n (x0) (x1) (IntKind.i64.wrap (x2 + (2 : Int))) (x3) (x4)
      else
        none
    else
      none := by kernel_rfl
noncomputable def F116c1 (g104 : G104) (n : Nat) (x0 : List (Ex)) (x1 : List (Val)) := (F116 g104).at [.v (.sl (.nm 1)), .v (.sl (.nm 0))] [.own 23 (.nm 0)] n 1 ⟨[.one (.data (.sl (.nm 1)) x0 []), .one (.data (.sl (.nm 0)) x1 []), U, U, U, U, U, U, U, U, U, U, U, U, U, U, U, U, U, U, U, U], []⟩
noncomputable def F116c3 (g104 : G104) (n : Nat) (x0 : List (Val)) (x1 : List (Ex)) (x2 : Int) (x3 : Int) (x4 : List (Val)) := (F116 g104).at [.v (.sl (.nm 1)), .v (.sl (.nm 0))] [.own 23 (.nm 0)] n 3 ⟨[U, .one (.data (.sl (.nm 0)) x0 []), U, U, U, .one (.own 0), U, U, .one (.data (.sl (.nm 1)) x1 []), .one (.int .i64 x2), .one (.int .i64 x3), U, U, U, U, U, U, U, U, U, U, U], [(0, .row 23 (.nm 0) x4 [] false)]⟩
theorem F116_run (g104 : G104) (n : Nat) (a0 : List (Ex)) (a1 : List (Val)) : (F116 g104).run [.v (.sl (.nm 1)), .v (.sl (.nm 0))] [.own 23 (.nm 0)] n (a0, a1, ()) =
  F116c1 g104 n (a0) (a1) := by kernel_rfl
theorem F116c1_eq (g104 : G104) (n : Nat) (x0 : List (Ex)) (x1 : List (Val)) : F116c1 g104 (n + 1) x0 x1 =
  F116c3 g104 n (x1) (x0) ((↑x0.length : Int)) ((0 : Int)) ([]) := by kernel_rfl
theorem F116c3_eq (g104 : G104) (n : Nat) (x0 : List (Val)) (x1 : List (Ex)) (x2 : Int) (x3 : Int) (x4 : List (Val)) : F116c3 g104 (n + 1) x0 x1 x2 x3 x4 =
  bif decide (x3 < x2) then
    if (0 : Int) ≤ x3 then
      if x3 < (↑x1.length : Int) then
        (g104 (x1.getD x3.toNat zEx, x0, ())).bind fun r0 =>
          if x4.length + (1 : Nat) ≤ lim then
            F116c3 g104 n (x0) (x1) (x2) (IntKind.i64.wrap (x3 + (1 : Int))) (x4 ++ ([r0.fst.fst] : List (Val)))
          else
            none
      else
        none
    else
      none
  else
    some ((x4, ()), ()) := by kernel_rfl
noncomputable def F104c10 (g104 : G104) (n : Nat) (x0 : Val) := (F104 g104).at [.v (.nm 1), .v (.sl (.nm 0))] [.v (.nm 0)] n 10 ⟨[U, U, U, U, .one (.bptr 0 0), U, U, U, U, U, U, U, U, U, U, U, U, U, U, U, U, U, U, U, U, U, U, U, U, U, U, U, U, U, U, U, U, U, U, U, U, U, U, U, U, U, U, U, U, U, U, U, U, U, U, U, U, U, U, U, U, U, U, U, U, U, U, U, U, U, U, U, U, U, U, U, U], [(0, .whole (.nm 0) x0 [])]⟩
theorem F104_run (g104 : G104) (n : Nat) (a0 : Ex) (a1 : List (Val)) : (F104 g104).run [.v (.nm 1), .v (.sl (.nm 0))] [.v (.nm 0)] n (a0, a1, ()) =
  bif decide (a0.kind = (1 : Int)) then
    some ((a0.value, ()), ())
  else
    bif decide (a0.kind = (2 : Int)) then
      (F114.run [PK.v (Ty.nm (0 : Nat)).sl, PK.v (Ty.int IntKind.i64)] [RK.v (Ty.nm (0 : Nat))] (4000000 : Nat) (a1, a0.slot, ())).bind fun r0 =>
        some ((r0.fst.fst, ()), ())
    else
      bif decide (a0.kind = (8 : Int)) then
        ((F115 g104).run [PK.v (Ty.nm (1 : Nat)).sl, PK.v (Ty.nm (0 : Nat)).sl] [RK.v (Ty.nm (0 : Nat))] (4000000 : Nat) (a0.args, a1, ())).bind fun r1 =>
          some ((r1.fst.fst, ()), ())
      else
        bif decide (a0.kind = (10 : Int)) then
          F104c10 g104 n (zVal)
        else
          bif decide (a0.kind = (11 : Int)) then
            F104c10 g104 n (zVal)
          else
            ((F116 g104).run [PK.v (Ty.nm (1 : Nat)).sl, PK.v (Ty.nm (0 : Nat)).sl] [RK.own (23 : TypeId) (Ty.nm (0 : Nat))] (4000000 : Nat) (a0.args, a1, ())).bind fun r2 =>
              bif decide (a0.kind = (3 : Int)) then
                if (0 : Int) < (↑(List.length r2.fst.fst) : Int) then
                  (F117.run [PK.v (Ty.nm (0 : Nat))] [RK.v (Ty.nm (0 : Nat))] (4000000 : Nat) (List.getD r2.fst.fst (Int.toNat (0 : Int)) zVal, ())).bind fun r3 =>
                    some ((r3.fst.fst, ()), ())
                else
                  none
              else
                bif decide (a0.kind = (4 : Int)) then
                  if (0 : Int) < (↑(List.length r2.fst.fst) : Int) then
                    (F118.run [PK.v (Ty.nm (0 : Nat))] [RK.v (Ty.nm (0 : Nat))] (4000000 : Nat) (List.getD r2.fst.fst (Int.toNat (0 : Int)) zVal, ())).bind fun r4 =>
                      some ((r4.fst.fst, ()), ())
                  else
                    none
                else
                  bif decide (a0.kind = (6 : Int)) then
                    if (0 : Int) < (↑(List.length r2.fst.fst) : Int) then
                      (F119.run [PK.v Ty.bool] [RK.v (Ty.nm (0 : Nat))] (4000000 : Nat) (decide ((List.getD r2.fst.fst (Int.toNat (0 : Int)) zVal).kind = (0 : Int)), ())).bind fun r5 =>
                        some ((r5.fst.fst, ()), ())
                    else
                      none
                  else
                    bif decide (a0.kind = (5 : Int)) then
                      if (0 : Int) < (↑(List.length r2.fst.fst) : Int) then
                        if (1 : Int) < (↑(List.length r2.fst.fst) : Int) then
                          (F120.run [PK.v (Ty.int IntKind.i64), PK.v (Ty.nm (0 : Nat)), PK.v (Ty.nm (0 : Nat))] [RK.v (Ty.nm (0 : Nat))] (4000000 : Nat) (a0.op, List.getD r2.fst.fst (Int.toNat (0 : Int)) zVal, List.getD r2.fst.fst (Int.toNat (1 : Int)) zVal, ())).bind fun r6 =>
                            some ((r6.fst.fst, ()), ())
                        else
                          none
                      else
                        none
                    else
                      bif decide (a0.kind = (7 : Int)) then
                        (F121.run [PK.v (Ty.nm (0 : Nat)).sl] [RK.v (Ty.nm (0 : Nat))] (4000000 : Nat) (r2.fst.fst, ())).bind fun r7 =>
                          some ((r7.fst.fst, ()), ())
                      else
                        bif decide (a0.kind = (9 : Int)) then
                          (F122.run [PK.v Ty.str, PK.v (Ty.nm (0 : Nat)).sl] [RK.v (Ty.nm (0 : Nat))] (4000000 : Nat) (a0.name, r2.fst.fst, ())).bind fun r8 =>
                            some ((r8.fst.fst, ()), ())
                        else
                          some ((zVal, ()), ()) := by kernel_rfl
theorem F104c10_eq (g104 : G104) (n : Nat) (x0 : Val) : F104c10 g104 (n + 1) x0 =
  some ((zVal, ()), ()) := by kernel_rfl
end Go.Proofs.Tryz
