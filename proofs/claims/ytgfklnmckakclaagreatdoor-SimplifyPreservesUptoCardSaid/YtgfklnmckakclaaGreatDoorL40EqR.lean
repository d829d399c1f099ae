/- The functions of the program as the engine follows them (printed by a program of ours): their code, what is known of them, and the equations of their runs. -/
import Derived.Test.YtgfklnmckakclaaGreatDoorL40Fns
set_option linter.unusedVariables false
set_option maxRecDepth 20000
namespace Go.Proofs.Tryz
open Go.Eng
theorem F79_run (n : Nat) (a0 : Int) (a1 : Known) (a2 : Known) : F79.run [.v (.int .i64), .v (.nm 5), .v (.nm 5)] [.v (.nm 5)] n (a0, a1, a2, ()) =
  bif decide (a0 = (7 : Int)) then
    bif a1.f_null then
      bif a1.notTrue then
        bif a1.notFalse then
          some (({ f_null := a2.f_null, notTrue := true, notFalse := a2.notFalse : Known }, ()), ())
        else
          some (({ f_null := a2.f_null, notTrue := true, notFalse := false : Known }, ()), ())
      else
        bif a1.notFalse then
          some (({ f_null := a2.f_null, notTrue := a2.notTrue, notFalse := a2.notFalse : Known }, ()), ())
        else
          some (({ f_null := a2.f_null, notTrue := a2.notTrue, notFalse := false : Known }, ()), ())
    else
      bif a1.notTrue then
        bif a1.notFalse then
          some (({ f_null := false, notTrue := true, notFalse := a2.notFalse : Known }, ()), ())
        else
          some (({ f_null := false, notTrue := true, notFalse := false : Known }, ()), ())
      else
        bif a1.notFalse then
          some (({ f_null := false, notTrue := a2.notTrue, notFalse := a2.notFalse : Known }, ()), ())
        else
          some (({ f_null := false, notTrue := a2.notTrue, notFalse := false : Known }, ()), ())
  else
    bif decide (a0 = (8 : Int)) then
      bif a1.f_null then
        bif a1.notTrue then
          bif a1.notFalse then
            some (({ f_null := a2.f_null, notTrue := a2.notTrue, notFalse := true : Known }, ()), ())
          else
            some (({ f_null := a2.f_null, notTrue := a2.notTrue, notFalse := a2.notFalse : Known }, ()), ())
        else
          bif a1.notFalse then
            some (({ f_null := a2.f_null, notTrue := false, notFalse := true : Known }, ()), ())
          else
            some (({ f_null := a2.f_null, notTrue := false, notFalse := a2.notFalse : Known }, ()), ())
      else
        bif a1.notTrue then
          bif a1.notFalse then
            some (({ f_null := false, notTrue := a2.notTrue, notFalse := true : Known }, ()), ())
          else
            some (({ f_null := false, notTrue := a2.notTrue, notFalse := a2.notFalse : Known }, ()), ())
        else
          bif a1.notFalse then
            some (({ f_null := false, notTrue := false, notFalse := true : Known }, ()), ())
          else
            some (({ f_null := false, notTrue := false, notFalse := a2.notFalse : Known }, ()), ())
    else
      bif a1.f_null then
        some (({ f_null := true, notTrue := false, notFalse := false : Known }, ()), ())
      else
        some (({ f_null := a2.f_null, notTrue := false, notFalse := false : Known }, ()), ()) := by cases a1; cases a2; kernel_rfl
noncomputable def F106c2 (n : Nat) (x0 : List (Int)) (x1 : Int) (x2 : Int) (x3 : Int) := F106.at [.v (.sl (.int .i64)), .v (.int .i64)] [.v (.int .i64)] n 2 ⟨[.one (.data (.sl (.int .i64)) x0 []), .one (.int .i64 x1), U, U, U, U, U, .one (.int .i64 x2), .one (.int .i64 x3), U, U, U, U, U, U, U, U, U, U], []⟩
theorem F106_run (n : Nat) (a0 : List (Int)) (a1 : Int) : F106.run [.v (.sl (.int .i64)), .v (.int .i64)] [.v (.int .i64)] n (a0, a1, ()) =
  F106c2 n (a0) (a1) ((↑a0.length : Int)) ((0 : Int)) := by kernel_rfl
theorem F106c2_eq (n : Nat) (x0 : List (Int)) (x1 : Int) (x2 : Int) (x3 : Int) : F106c2 (n + 1) x0 x1 x2 x3 =
  bif decide (x3 < x2) then
    if (0 : Int) ≤ x3 then
      if x3 < (↑x0.length : Int) then
        bif decide (x1 = x0.getD x3.toNat (0 : Int)) then
          some ((x3, ()), ())
        else
          F106c2 n (x0) (x1) (x2) (IntKind.i64.wrap (x3 + (1 : Int)))
      else
        none
    else
      none
  else
    some (((-1 : Int), ()), ()) := by kernel_rfl
theorem F78_run (n : Nat) (a0 : List (Int)) (a1 : Int) : F78.run [.v (.sl (.int .i64)), .v (.int .i64)] [.v (.bool)] n (a0, a1, ()) =
  (F106.run [PK.v (Ty.int IntKind.i64).sl, PK.v (Ty.int IntKind.i64)] [RK.v (Ty.int IntKind.i64)] (4000000 : Nat) (a0, a1, ())).bind fun r0 =>
    some ((decide ((0 : Int) ≤ r0.fst.fst), ()), ()) := by kernel_rfl
noncomputable def F46c1 (g46 : G46) (n : Nat) (x0 : List (Int)) (x1 : Ex) (x2 : Known) := (F46 g46).at [.v (.nm 1), .v (.sl (.int .i64))] [.v (.nm 5)] n 1 ⟨[U, .one (.data (.sl (.int .i64)) x0 []), .one (.bptr 0 0), U, .one (.bptr 1 0), U, U, U, U, U, U, U, U, U, U, U, U, U, U, U, U, U, U, U, U, U, U, U, U, U, U, U, U, U, U, U, U, U, U, U, U, U, U, U, U, U, U, U, U, U, U, U, U, U, U, U, U, U, U, U, U, U, U, U, U, U, U, U, U, U, U, U, U, U, U, U, U, U, U, U, U, U, U, U, U, U, U, U, U, U, U, U, U, U, U, U, U, U, U], [(0, .whole (.nm 1) x1 []), (1, .whole (.nm 5) x2 [])]⟩
noncomputable def F46c4 (g46 : G46) (n : Nat) (x0 : List (Int)) (x1 : List (Ex)) (x2 : Int) (x3 : Int) (x4 : Ex) (x5 : Known) (x6 : List (Known)) := (F46 g46).at [.v (.nm 1), .v (.sl (.int .i64))] [.v (.nm 5)] n 4 ⟨[U, .one (.data (.sl (.int .i64)) x0 []), .one (.bptr 0 0), U, .one (.bptr 1 0), .one (.own 2), U, U, U, U, U, U, U, U, U, U, U, U, .one (.data (.sl (.nm 1)) x1 []), .one (.int .i64 x2), .one (.int .i64 x3), U, U, U, U, U, U, U, U, U, U, U, U, U, U, U, U, U, U, U, U, U, U, U, U, U, U, U, U, U, U, U, U, U, U, U, U, U, U, U, U, U, U, U, U, U, U, U, U, U, U, U, U, U, U, U, U, U, U, U, U, U, U, U, U, U, U, U, U, U, U, U, U, U, U, U, U, U, U], [(0, .whole (.nm 1) x4 []), (1, .whole (.nm 5) x5 []), (2, .row 69 (.nm 5) x6 [] false)]⟩
noncomputable def F46c8 (g46 : G46) (n : Nat) (x0 : List (Int)) (x1 : Ex) (x2 : Known) (x3 : List (Known)) := (F46 g46).at [.v (.nm 1), .v (.sl (.int .i64))] [.v (.nm 5)] n 8 ⟨[U, .one (.data (.sl (.int .i64)) x0 []), .one (.bptr 0 0), U, .one (.bptr 1 0), .one (.own 2), U, U, U, U, U, U, U, U, U, U, U, U, U, U, U, U, U, U, U, U, U, U, U, U, U, U, U, U, U, U, U, U, U, U, U, U, U, U, U, U, U, U, U, U, U, U, U, U, U, U, U, U, U, U, U, U, U, U, U, U, U, U, U, U, U, U, U, U, U, U, U, U, U, U, U, U, U, U, U, U, U, U, U, U, U, U, U, U, U, U, U, U, U], [(0, .whole (.nm 1) x1 []), (1, .whole (.nm 5) x2 []), (2, .row 69 (.nm 5) x3 [] false)]⟩
noncomputable def F46c23 (g46 : G46) (n : Nat) (x0 : Known) (x1 : Known) := (F46 g46).at [.v (.nm 1), .v (.sl (.int .i64))] [.v (.nm 5)] n 23 ⟨[U, U, U, U, .one (.bptr 0 0), U, U, U, .one (.bptr 1 0), U, U, U, U, U, U, U, U, U, U, U, U, U, U, U, U, U, U, U, U, U, U, U, U, U, U, U, U, U, U, U, U, U, U, U, U, U, U, U, U, U, U, U, U, U, U, U, U, U, U, U, U, U, U, U, U, U, U, U, U, U, U, U, U, U, U, U, U, U, U, U, U, U, U, U, U, U, U, U, U, U, U, U, U, U, U, U, U, U, U], [(0, .whole (.nm 5) x0 []), (1, .whole (.nm 5) x1 [])]⟩
theorem F46_run (g46 : G46) (n : Nat) (a0 : Ex) (a1 : List (Int)) : (F46 g46).run [.v (.nm 1), .v (.sl (.int .i64))] [.v (.nm 5)] n (a0, a1, ()) =
  F46c1 g46 n (a1) (a0) (zKnown) := by kernel_rfl
theorem F46c1_eq (g46 : G46) (n : Nat) (x0 : List (Int)) (x1 : Ex) (x2 : Known) : F46c1 g46 (n + 1) x0 x1 x2 =
  bif !decide (x1.kind = (10 : Int)) then
    bif !decide (x1.kind = (11 : Int)) then
      F46c4 g46 n (x0) (x1.args) ((↑x1.args.length : Int)) ((0 : Int)) (x1) (x2) ([])
    else
      F46c8 g46 n (x0) (x1) (x2) ([])
  else
    F46c8 g46 n (x0) (x1) (x2) ([]) := by kernel_rfl
theorem F46c4_eq (g46 : G46) (n : Nat) (x0 : List (Int)) (x1 : List (Ex)) (x2 : Int) (x3 : Int) (x4 : Ex) (x5 : Known) (x6 : List (Known)) : F46c4 g46 (n + 1) x0 x1 x2 x3 x4 x5 x6 =
  bif decide (x3 < x2) then
    if (0 : Int) ≤ x3 then
      if x3 < (↑x1.length : Int) then
        (g46 (x1.getD x3.toNat zEx, x0, ())).bind fun r0 =>
          if x6.length + (1 : Nat) ≤ lim then
            F46c4 g46 n (x0) (x1) (x2) (IntKind.i64.wrap (x3 + (1 : Int))) (x4) (x5) (x6 ++ ([r0.fst.fst] : List (Known)))
          else
            none
      else
        none
    else
      none
  else
    F46c8 g46 n (x0) (x4) (x5) (x6) := by kernel_rfl
theorem F46c8_eq (g46 : G46) (n : Nat) (x0 : List (Int)) (x1 : Ex) (x2 : Known) (x3 : List (Known)) : F46c8 g46 (n + 1) x0 x1 x2 x3 =
  bif decide (x1.kind = (1 : Int)) then
    (F50.run [PK.v (Ty.nm (1 : Nat)), PK.v Ty.bool] [RK.v Ty.bool] (4000000 : Nat) (x1, true, ())).bind fun r1 =>
      (F50.run [PK.v (Ty.nm (1 : Nat)), PK.v Ty.bool] [RK.v Ty.bool] (4000000 : Nat) (x1, false, ())).bind fun r2 =>
        F46c23 g46 n (x2) ({ f_null := decide (x1.value.kind = (0 : Int)), notTrue := !r1.fst.fst, notFalse := !r2.fst.fst : Known })
  else
    bif decide (x1.kind = (2 : Int)) then
      (F78.run [PK.v (Ty.int IntKind.i64).sl, PK.v (Ty.int IntKind.i64)] [RK.v Ty.bool] (4000000 : Nat) (x0, x1.slot, ())).bind fun r3 =>
        F46c23 g46 n (x2) ({ f_null := r3.fst.fst, notTrue := false, notFalse := false : Known })
    else
      bif decide (x1.kind = (3 : Int)) then
        if (0 : Int) < (↑x3.length : Int) then
          if (0 : Int) < (↑x3.length : Int) then
            if (0 : Int) < (↑x3.length : Int) then
              F46c23 g46 n (x2) ({ f_null := (x3.getD (Int.toNat (0 : Int)) zKnown).f_null, notTrue := (x3.getD (Int.toNat (0 : Int)) zKnown).notFalse, notFalse := (x3.getD (Int.toNat (0 : Int)) zKnown).notTrue : Known })
            else
              none
          else
            none
        else
          none
      else
        bif decide (x1.kind = (4 : Int)) then
          bif decide (x1.kind = (4 : Int)) then
            if (0 : Int) < (↑x3.length : Int) then
              F46c23 g46 n (x2) ({ f_null := (x3.getD (Int.toNat (0 : Int)) zKnown).f_null, notTrue := false, notFalse := false : Known })
            else
              none
          else
            bif decide (x1.kind = (6 : Int)) then
              if (0 : Int) < (↑x3.length : Int) then
                F46c23 g46 n (x2) ({ f_null := false, notTrue := false, notFalse := (x3.getD (Int.toNat (0 : Int)) zKnown).f_null : Known })
              else
                none
            else
              bif decide (x1.kind = (5 : Int)) then
                if (0 : Int) < (↑x3.length : Int) then
                  if (1 : Int) < (↑x3.length : Int) then
                    (F79.run [PK.v (Ty.int IntKind.i64), PK.v (Ty.nm (5 : Nat)), PK.v (Ty.nm (5 : Nat))] [RK.v (Ty.nm (5 : Nat))] (4000000 : Nat) (x1.op, x3.getD (Int.toNat (0 : Int)) zKnown, x3.getD (Int.toNat (1 : Int)) zKnown, ())).bind fun r4 =>
                      F46c23 g46 n (x2) (r4.fst.fst)
                  else
                    none
                else
                  none
              else
                F46c23 g46 n (x2) (zKnown)
        else
          bif decide (x1.kind = (7 : Int)) then
            if (0 : Int) < (↑x3.length : Int) then
              F46c23 g46 n (x2) ({ f_null := (x3.getD (Int.toNat (0 : Int)) zKnown).f_null, notTrue := false, notFalse := false : Known })
            else
              none
          else
            bif decide (x1.kind = (6 : Int)) then
              if (0 : Int) < (↑x3.length : Int) then
                F46c23 g46 n (x2) ({ f_null := false, notTrue := false, notFalse := (x3.getD (Int.toNat (0 : Int)) zKnown).f_null : Known })
              else
                none
            else
              bif decide (x1.kind = (5 : Int)) then
                if (0 : Int) < (↑x3.length : Int) then
                  if (1 : Int) < (↑x3.length : Int) then
                    (F79.run [PK.v (Ty.int IntKind.i64), PK.v (Ty.nm (5 : Nat)), PK.v (Ty.nm (5 : Nat))] [RK.v (Ty.nm (5 : Nat))] (4000000 : Nat) (x1.op, x3.getD (Int.toNat (0 : Int)) zKnown, x3.getD (Int.toNat (1 : Int)) zKnown, ())).bind fun r5 =>
                      F46c23 g46 n (x2) (r5.fst.fst)
                  else
                    none
                else
                  none
              else
                F46c23 g46 n (x2) (zKnown) := by kernel_rfl
theorem F46c23_eq (g46 : G46) (n : Nat) (x0 : Known) (x1 : Known) : F46c23 g46 (n + 1) x0 x1 =
  bif x1.f_null then
    some (({ f_null := x1.f_null, notTrue := true, notFalse := true : Known }, ()), ())
  else
    some ((x1, ()), ()) := by kernel_rfl
theorem F20_run (n : Nat) (a0 : Ex) (a1 : List (Int)) : F20.run [.v (.nm 1), .v (.sl (.int .i64))] [.v (.bool)] n (a0, a1, ()) =
  (R46 (a0, a1, ())).bind fun r0 =>
    some ((r0.fst.fst.notTrue, ()), ()) := by kernel_rfl
theorem F108_run (n : Nat) (a0 : Val) : F108.run [.v (.nm 0)] [.v (.bool)] n (a0, ()) =
  bif decide (a0.kind = (1 : Int)) then
    some ((decide (a0.int = (0 : Int)), ()), ())
  else
    some ((false, ()), ()) := by kernel_rfl
theorem F81_run (n : Nat) (a0 : Ex) : F81.run [.v (.nm 1)] [.v (.bool)] n (a0, ()) =
  bif decide (a0.kind = (1 : Int)) then
    (F108.run [PK.v (Ty.nm (0 : Nat))] [RK.v Ty.bool] (4000000 : Nat) (a0.value, ())).bind fun r0 =>
      some ((r0.fst.fst, ()), ())
  else
    some ((false, ()), ()) := by kernel_rfl
noncomputable def F107c2 (n : Nat) (x0 : Int) (x1 : List (Int)) (x2 : Int) := F107.at [.v (.int .i64), .v (.sl (.int .i64))] [.v (.bool)] n 2 ⟨[.one (.int .i64 x0), .one (.data (.sl (.int .i64)) x1 []), U, U, U, .one (.int .i64 x2), U, U, U, U, U, U, U, U, U, U, U, U], []⟩
theorem F107_run (n : Nat) (a0 : Int) (a1 : List (Int)) : F107.run [.v (.int .i64), .v (.sl (.int .i64))] [.v (.bool)] n (a0, a1, ()) =
  F107c2 n (a0) (a1) ((0 : Int)) := by kernel_rfl
theorem F107c2_eq (n : Nat) (x0 : Int) (x1 : List (Int)) (x2 : Int) : F107c2 (n + 1) x0 x1 x2 =
  bif decide (x2 < (↑x1.length : Int)) then
    if (0 : Int) ≤ x2 then
      if x2 < (↑x1.length : Int) then
        bif decide (x1.getD x2.toNat (0 : Int) = x0) then
          some ((true, ()), ())
        else
          F107c2 n (x0) (x1) (IntKind.i64.wrap (x2 + (1 : Int)))
      else
        none
    else
      none
  else
    some ((false, ()), ()) := by kernel_rfl
noncomputable def F80c14 (g80 : G80) (n : Nat) (x0 : Bool) (x1 : Bool) := (F80 g80).at [.v (.nm 1), .v (.sl (.int .i64))] [.v (.bool)] n 14 ⟨[U, U, U, U, U, .one (.bool x0), .one (.bool x1), U, U, U, U, U, U, U, U, U, U, U, U, U, U, U, U, U, U, U, U, U, U, U, U, U, U, U, U, U, U, U, U, U, U, U, U, U, U, U, U, U, U, U, U, U, U, U, U, U, U, U, U, U, U], []⟩
theorem F80_run (g80 : G80) (n : Nat) (a0 : Ex) (a1 : List (Int)) : (F80 g80).run [.v (.nm 1), .v (.sl (.int .i64))] [.v (.bool)] n (a0, a1, ()) =
  bif decide (a0.kind = (1 : Int)) then
    some ((decide (a0.value.kind = (0 : Int)), ()), ())
  else
    bif decide (a0.kind = (2 : Int)) then
      (F107.run [PK.v (Ty.int IntKind.i64), PK.v (Ty.int IntKind.i64).sl] [RK.v Ty.bool] (4000000 : Nat) (a0.slot, a1, ())).bind fun r0 =>
        some ((r0.fst.fst, ()), ())
    else
      bif decide (a0.kind = (3 : Int)) then
        bif decide (a0.kind = (3 : Int)) then
          if (0 : Int) < (↑a0.args.length : Int) then
            (g80 (a0.args.getD (Int.toNat (0 : Int)) zEx, a1, ())).bind fun r1 =>
              some ((r1.fst.fst, ()), ())
          else
            none
        else
          bif decide (a0.kind = (5 : Int)) then
            if (0 : Int) < (↑a0.args.length : Int) then
              (g80 (a0.args.getD (Int.toNat (0 : Int)) zEx, a1, ())).bind fun r2 =>
                if (1 : Int) < (↑a0.args.length : Int) then
                  (g80 (a0.args.getD (Int.toNat (1 : Int)) zEx, a1, ())).bind fun r3 =>
                    bif decide (a0.op = (7 : Int)) then
                      bif r2.fst.fst then
                        some ((r3.fst.fst, ()), ())
                      else
                        some ((false, ()), ())
                    else
                      bif decide (a0.op = (8 : Int)) then
                        bif r2.fst.fst then
                          some ((r3.fst.fst, ()), ())
                        else
                          some ((false, ()), ())
                      else
                        F80c14 g80 n (r2.fst.fst) (r3.fst.fst)
                else
                  none
            else
              none
          else
            some ((false, ()), ())
      else
        bif decide (a0.kind = (4 : Int)) then
          bif decide (a0.kind = (4 : Int)) then
            if (0 : Int) < (↑a0.args.length : Int) then
              (g80 (a0.args.getD (Int.toNat (0 : Int)) zEx, a1, ())).bind fun r4 =>
                some ((r4.fst.fst, ()), ())
            else
              none
          else
            bif decide (a0.kind = (5 : Int)) then
              if (0 : Int) < (↑a0.args.length : Int) then
                (g80 (a0.args.getD (Int.toNat (0 : Int)) zEx, a1, ())).bind fun r5 =>
                  if (1 : Int) < (↑a0.args.length : Int) then
                    (g80 (a0.args.getD (Int.toNat (1 : Int)) zEx, a1, ())).bind fun r6 =>
                      bif decide (a0.op = (7 : Int)) then
                        bif r5.fst.fst then
                          some ((r6.fst.fst, ()), ())
                        else
                          some ((false, ()), ())
                      else
                        bif decide (a0.op = (8 : Int)) then
                          bif r5.fst.fst then
                            some ((r6.fst.fst, ()), ())
                          else
                            some ((false, ()), ())
                        else
                          F80c14 g80 n (r5.fst.fst) (r6.fst.fst)
                  else
                    none
              else
                none
            else
              some ((false, ()), ())
        else
          bif decide (a0.kind = (7 : Int)) then
            if (0 : Int) < (↑a0.args.length : Int) then
              (g80 (a0.args.getD (Int.toNat (0 : Int)) zEx, a1, ())).bind fun r7 =>
                some ((r7.fst.fst, ()), ())
            else
              none
          else
            bif decide (a0.kind = (5 : Int)) then
              if (0 : Int) < (↑a0.args.length : Int) then
                (g80 (a0.args.getD (Int.toNat (0 : Int)) zEx, a1, ())).bind fun r8 =>
                  if (1 : Int) < (↑a0.args.length : Int) then
                    (g80 (a0.args.getD (Int.toNat (1 : Int)) zEx, a1, ())).bind fun r9 =>
                      bif decide (a0.op = (7 : Int)) then
                        bif r8.fst.fst then
                          some ((r9.fst.fst, ()), ())
                        else
                          some ((false, ()), ())
                      else
                        bif decide (a0.op = (8 : Int)) then
                          bif r8.fst.fst then
                            some ((r9.fst.fst, ()), ())
                          else
                            some ((false, ()), ())
                        else
                          F80c14 g80 n (r8.fst.fst) (r9.fst.fst)
                  else
                    none
              else
                none
            else
              some ((false, ()), ()) := by kernel_rfl
theorem F80c14_eq (g80 : G80) (n : Nat) (x0 : Bool) (x1 : Bool) : F80c14 g80 (n + 1) x0 x1 =
  bif x0 then
    some ((true, ()), ())
  else
    some ((x1, ()), ()) := by kernel_rfl
noncomputable def F47c15 (g47 : G47) (n : Nat) (x0 : List (Int)) (x1 : Bool) (x2 : Ex) := (F47 g47).at [.v (.nm 1), .v (.sl (.int .i64)), .v (.bool)] [.v (.bool)] n 15 ⟨[U, .one (.data (.sl (.int .i64)) x0 []), .one (.bool x1), .one (.bptr 0 0), U, U, U, U, U, U, U, U, U, U, U, U, U, U, U, U, U, U, U, U, U, U, U, U, U, U, U, U, U, U, U, U, U, U, U, U, U, U, U, U, U, U, U, U, U, U, U, U, U, U, U, U, U, U, U, U, U, U, U, U, U, U, U, U, U, U, U, U, U, U, U, U, U, U, U, U, U, U], [(0, .whole (.nm 1) x2 [])]⟩
theorem F47_run (g47 : G47) (n : Nat) (a0 : Ex) (a1 : List (Int)) (a2 : Bool) : (F47 g47).run [.v (.nm 1), .v (.sl (.int .i64)), .v (.bool)] [.v (.bool)] n (a0, a1, a2, ()) =
  (R80 (a0, a1, ())).bind fun r0 =>
    bif r0.fst.fst then
      some ((true, ()), ())
    else
      bif decide (a0.kind = (1 : Int)) then
        bif a2 then
          (F51.run [PK.v (Ty.nm (1 : Nat))] [RK.v Ty.bool] (4000000 : Nat) (a0, ())).bind fun r1 =>
            some ((!r1.fst.fst, ()), ())
        else
          (F81.run [PK.v (Ty.nm (1 : Nat))] [RK.v Ty.bool] (4000000 : Nat) (a0, ())).bind fun r2 =>
            some ((!r2.fst.fst, ()), ())
      else
        bif decide (a0.kind = (3 : Int)) then
          if (0 : Int) < (↑a0.args.length : Int) then
            (g47 (a0.args.getD (Int.toNat (0 : Int)) zEx, a1, !a2, ())).bind fun r3 =>
              some ((r3.fst.fst, ()), ())
          else
            none
        else
          bif decide (a0.kind = (6 : Int)) then
            bif !a2 then
              if (0 : Int) < (↑a0.args.length : Int) then
                (R80 (a0.args.getD (Int.toNat (0 : Int)) zEx, a1, ())).bind fun r4 =>
                  some ((r4.fst.fst, ()), ())
              else
                none
            else
              some ((false, ()), ())
          else
            bif decide (a0.kind = (5 : Int)) then
              bif !decide (a0.op = (7 : Int)) then
                bif !decide (a0.op = (8 : Int)) then
                  some ((false, ()), ())
                else
                  F47c15 g47 n (a1) (a2) (a0)
              else
                F47c15 g47 n (a1) (a2) (a0)
            else
              some ((false, ()), ()) := by kernel_rfl
theorem F47c15_eq (g47 : G47) (n : Nat) (x0 : List (Int)) (x1 : Bool) (x2 : Ex) : F47c15 g47 (n + 1) x0 x1 x2 =
  if (0 : Int) < (↑x2.args.length : Int) then
    (g47 (x2.args.getD (Int.toNat (0 : Int)) zEx, x0, x1, ())).bind fun r5 =>
      if (1 : Int) < (↑x2.args.length : Int) then
        (g47 (x2.args.getD (Int.toNat (1 : Int)) zEx, x0, x1, ())).bind fun r6 =>
          bif decide (decide (x2.op = (7 : Int)) = x1) then
            bif r5.fst.fst then
              some ((true, ()), ())
            else
              some ((r6.fst.fst, ()), ())
          else
            bif r5.fst.fst then
              some ((r6.fst.fst, ()), ())
            else
              some ((false, ()), ())
      else
        none
  else
    none := by kernel_rfl
theorem F21_run (n : Nat) (a0 : Ex) (a1 : List (Int)) : F21.run [.v (.nm 1), .v (.sl (.int .i64))] [.v (.bool)] n (a0, a1, ()) =
  (R47 (a0, a1, true, ())).bind fun r0 =>
    some ((r0.fst.fst, ()), ()) := by kernel_rfl
end Go.Proofs.Tryz
