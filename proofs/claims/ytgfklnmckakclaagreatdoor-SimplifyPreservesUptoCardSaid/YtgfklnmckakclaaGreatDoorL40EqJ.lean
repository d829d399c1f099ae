/- The functions of the program as the engine follows them (printed by a program of ours): their code, what is known of them, and the equations of their runs. -/
import Derived.Test.YtgfklnmckakclaaGreatDoorL40Fns
set_option linter.unusedVariables false
set_option maxRecDepth 20000
namespace Go.Proofs.Tryz
open Go.Eng
noncomputable def F17c1 (n : Nat) (x0 : List (Ex)) (x1 : Int) (x2 : List (Pair)) (x3 : List (Ex)) := F17.at [.v (.sl (.nm 1)), .v (.int .i64)] [.own 37 (.nm 2), .own 27 (.nm 1)] n 1 ⟨[.one (.data (.sl (.nm 1)) x0 []), .one (.int .i64 x1), U, U, .one (.own 0), .one (.own 1), U, U, U, U, U, U, U, U, U, U, U, U, U, U, U, U, U, U, U, U, U, U, U, U, U, U, U, U, U, U, U, U, U, U, U, U, U, U, U, U, U, U, U, U, U, U, U, U, U, U, U, U, U, U, U, U, U, U, U, U, U, U, U, U, U, U, U, U, U, U, U, U, U, U, U, U, U, U, U], [(0, .row 37 (.nm 2) x2 [] false), (1, .row 27 (.nm 1) x3 [] false)]⟩
noncomputable def F17c2 (n : Nat) (x0 : Int) (x1 : List (Ex)) (x2 : Int) (x3 : Int) (x4 : List (Pair)) (x5 : List (Ex)) := F17.at [.v (.sl (.nm 1)), .v (.int .i64)] [.own 37 (.nm 2), .own 27 (.nm 1)] n 2 ⟨[U, .one (.int .i64 x0), U, U, .one (.own 0), .one (.own 1), U, U, U, U, .one (.data (.sl (.nm 1)) x1 []), .one (.int .i64 x2), .one (.int .i64 x3), U, U, U, U, U, U, U, U, U, U, U, U, U, U, U, U, U, U, U, U, U, U, U, U, U, U, U, U, U, U, U, U, U, U, U, U, U, U, U, U, U, U, U, U, U, U, U, U, U, U, U, U, U, U, U, U, U, U, U, U, U, U, U, U, U, U, U, U, U, U, U, U], [(0, .row 37 (.nm 2) x4 [] false), (1, .row 27 (.nm 1) x5 [] false)]⟩
noncomputable def F17c9 (n : Nat) (x0 : Int) (x1 : List (Ex)) (x2 : Int) (x3 : Int) (x4 : List (Pair)) (x5 : List (Ex)) := F17.at [.v (.sl (.nm 1)), .v (.int .i64)] [.own 37 (.nm 2), .own 27 (.nm 1)] n 9 ⟨[U, .one (.int .i64 x0), U, U, .one (.own 0), .one (.own 1), U, U, U, U, .one (.data (.sl (.nm 1)) x1 []), .one (.int .i64 x2), .one (.int .i64 x3), U, U, U, U, U, U, U, U, U, U, U, U, U, U, U, U, U, U, U, U, U, U, U, U, U, U, U, U, U, U, U, U, U, U, U, U, U, U, U, U, U, U, U, U, U, U, U, U, U, U, U, U, U, U, U, U, U, U, U, U, U, U, U, U, U, U, U, U, U, U, U, U], [(0, .row 37 (.nm 2) x4 [] false), (1, .row 27 (.nm 1) x5 [] false)]⟩
noncomputable def F17c8 (n : Nat) (x0 : Int) (x1 : List (Ex)) (x2 : Int) (x3 : Int) (x4 : List (Pair)) (x5 : List (Ex)) (x6 : Ex) := F17.at [.v (.sl (.nm 1)), .v (.int .i64)] [.own 37 (.nm 2), .own 27 (.nm 1)] n 8 ⟨[U, .one (.int .i64 x0), U, U, .one (.own 0), .one (.own 1), U, .one (.bptr 2 0), U, U, .one (.data (.sl (.nm 1)) x1 []), .one (.int .i64 x2), .one (.int .i64 x3), U, U, U, U, U, U, U, U, U, U, U, U, U, U, U, U, U, U, U, U, U, U, U, U, U, U, U, U, U, U, U, U, U, U, U, U, U, U, U, U, U, U, U, U, U, U, U, U, U, U, U, U, U, U, U, U, U, U, U, U, U, U, U, U, U, U, U, U, U, U, U, U], [(0, .row 37 (.nm 2) x4 [] false), (1, .row 27 (.nm 1) x5 [] false), (2, .whole (.nm 1) x6 [])]⟩
theorem F17_run (n : Nat) (a0 : List (Ex)) (a1 : Int) : F17.run [.v (.sl (.nm 1)), .v (.int .i64)] [.own 37 (.nm 2), .own 27 (.nm 1)] n (a0, a1, ()) =
  F17c1 n (a0) (a1) ([]) ([]) := by kernel_rfl
theorem F17c1_eq (n : Nat) (x0 : List (Ex)) (x1 : Int) (x2 : List (Pair)) (x3 : List (Ex)) : F17c1 (n + 1) x0 x1 x2 x3 =
  F17c2 n (x1) (x0) ((↑x0.length : Int)) ((0 : Int)) (x2) (x3) := by kernel_rfl
theorem F17c2_eq (n : Nat) (x0 : Int) (x1 : List (Ex)) (x2 : Int) (x3 : Int) (x4 : List (Pair)) (x5 : List (Ex)) : F17c2 (n + 1) x0 x1 x2 x3 x4 x5 =
  bif decide (x3 < x2) then
    if (0 : Int) ≤ x3 then
      if x3 < (↑x1.length : Int) then
        bif decide ((x1.getD x3.toNat zEx).kind = (5 : Int)) then
          bif decide ((x1.getD x3.toNat zEx).op = (1 : Int)) then
            if (0 : Int) < (↑(x1.getD x3.toNat zEx).args.length : Int) then
              bif decide (((x1.getD x3.toNat zEx).args.getD (Int.toNat (0 : Int)) zEx).kind = (2 : Int)) then
                if (1 : Int) < (↑(x1.getD x3.toNat zEx).args.length : Int) then
                  bif decide (((x1.getD x3.toNat zEx).args.getD (Int.toNat (1 : Int)) zEx).kind = (2 : Int)) then
                    if (0 : Int) < (↑(x1.getD x3.toNat zEx).args.length : Int) then
                      if (1 : Int) < (↑(x1.getD x3.toNat zEx).args.length : Int) then
                        if (0 : Int) < (↑(x1.getD x3.toNat zEx).args.length : Int) then
                          if (1 : Int) < (↑(x1.getD x3.toNat zEx).args.length : Int) then
                            bif decide (imin ((x1.getD x3.toNat zEx).args.getD (Int.toNat (0 : Int)) zEx).slot ((x1.getD x3.toNat zEx).args.getD (Int.toNat (1 : Int)) zEx).slot < x0) then
                              bif decide (x0 ≤ imax ((x1.getD x3.toNat zEx).args.getD (Int.toNat (0 : Int)) zEx).slot ((x1.getD x3.toNat zEx).args.getD (Int.toNat (1 : Int)) zEx).slot) then
                                if x4.length + (1 : Nat) ≤ lim then
                                  F17c9 n (x0) (x1) (x2) (x3) (x4 ++ [{ e0 := imin ((x1.getD x3.toNat zEx).args.getD (Int.toNat (0 : Int)) zEx).slot ((x1.getD x3.toNat zEx).args.getD (Int.toNat (1 : Int)) zEx).slot, e1 := IntKind.i64.wrap (imax ((x1.getD x3.toNat zEx).args.getD (Int.toNat (0 : Int)) zEx).slot ((x1.getD x3.toNat zEx).args.getD (Int.toNat (1 : Int)) zEx).slot - x0) : Pair }]) (x5)
                                else
                                  none
                              else
                                F17c8 n (x0) (x1) (x2) (x3) (x4) (x5) (x1.getD x3.toNat zEx)
                            else
                              F17c8 n (x0) (x1) (x2) (x3) (x4) (x5) (x1.getD x3.toNat zEx)
                          else
                            none
                        else
                          none
                      else
                        none
                    else
                      none
                  else
                    F17c8 n (x0) (x1) (x2) (x3) (x4) (x5) (x1.getD x3.toNat zEx)
                else
                  none
              else
                F17c8 n (x0) (x1) (x2) (x3) (x4) (x5) (x1.getD x3.toNat zEx)
            else
              none
          else
            F17c8 n (x0) (x1) (x2) (x3) (x4) (x5) (x1.getD x3.toNat zEx)
        else
          F17c8 n (x0) (x1) (x2) (x3) (x4) (x5) (x1.getD x3.toNat zEx)
      else
        none
    else
      none
  else
    some ((x4, (x5, ())), ()) := by kernel_rfl
theorem F17c9_eq (n : Nat) (x0 : Int) (x1 : List (Ex)) (x2 : Int) (x3 : Int) (x4 : List (Pair)) (x5 : List (Ex)) : F17c9 (n + 1) x0 x1 x2 x3 x4 x5 =
  F17c2 n (x0) (x1) (x2) (IntKind.i64.wrap (x3 + (1 : Int))) (x4) (x5) := by kernel_rfl
theorem F17c8_eq (n : Nat) (x0 : Int) (x1 : List (Ex)) (x2 : Int) (x3 : Int) (x4 : List (Pair)) (x5 : List (Ex)) (x6 : Ex) : F17c8 (n + 1) x0 x1 x2 x3 x4 x5 x6 =
  if x5.length + (1 : Nat) ≤ lim then
    F17c9 n (x0) (x1) (x2) (x3) (x4) (x5 ++ [x6])
  else
    none := by kernel_rfl
noncomputable def F18c1 (n : Nat) (x0 : List (Ex)) (x1 : Int) := F18.at [.v (.sl (.nm 1)), .v (.int .i64)] [.own 37 (.nm 2), .own 27 (.nm 1)] n 1 ⟨[.one (.data (.sl (.nm 1)) x0 []), .one (.int .i64 x1), U, U, U, U, U, U, U, U, U, U, U, U, U, U, U, U, U, U, U, U, U, U, U, U, U, U, U, U, U, U, U, U, U, U, U, U, U, U, U, U, U, U, U, U, U, U, U, U, U, U, U, U, U, U, U, U, U, U, U, U, U, U, U, U, U, U, U, U, U, U, U, U, U, U, U, U, U, U, U, U, U, U, U, U, U, U, U, U], []⟩
noncomputable def F18c4 (n : Nat) (x0 : List (Ex)) (x1 : Int) (x2 : Int) (x3 : List (Pair)) (x4 : List (Ex)) := F18.at [.v (.sl (.nm 1)), .v (.int .i64)] [.own 37 (.nm 2), .own 27 (.nm 1)] n 4 ⟨[.one (.data (.sl (.nm 1)) x0 []), .one (.int .i64 x1), U, U, U, U, .one (.own 0), .one (.own 1), .one (.int .i64 x2), U, U, U, U, U, U, U, U, U, U, U, U, U, U, U, U, U, U, U, U, U, U, U, U, U, U, U, U, U, U, U, U, U, U, U, U, U, U, U, U, U, U, U, U, U, U, U, U, U, U, U, U, U, U, U, U, U, U, U, U, U, U, U, U, U, U, U, U, U, U, U, U, U, U, U, U, U, U, U, U, U], [(0, .row 37 (.nm 2) x3 [] false), (1, .row 27 (.nm 1) x4 [] false)]⟩
noncomputable def F18c5 (n : Nat) (x0 : List (Ex)) (x1 : Int) (x2 : Int) (x3 : List (Pair)) (x4 : List (Ex)) := F18.at [.v (.sl (.nm 1)), .v (.int .i64)] [.own 37 (.nm 2), .own 27 (.nm 1)] n 5 ⟨[.one (.data (.sl (.nm 1)) x0 []), .one (.int .i64 x1), U, U, U, U, .one (.own 0), .one (.own 1), .one (.int .i64 x2), U, U, U, U, U, U, U, U, U, U, U, U, U, U, U, U, U, U, U, U, U, U, U, U, U, U, U, U, U, U, U, U, U, U, U, U, U, U, U, U, U, U, U, U, U, U, U, U, U, U, U, U, U, U, U, U, U, U, U, U, U, U, U, U, U, U, U, U, U, U, U, U, U, U, U, U, U, U, U, U, U], [(0, .row 37 (.nm 2) x3 [] false), (1, .row 27 (.nm 1) x4 [] false)]⟩
noncomputable def F18c11 (n : Nat) (x0 : List (Ex)) (x1 : Int) (x2 : Int) (x3 : List (Pair)) (x4 : List (Ex)) (x5 : Ex) := F18.at [.v (.sl (.nm 1)), .v (.int .i64)] [.own 37 (.nm 2), .own 27 (.nm 1)] n 11 ⟨[.one (.data (.sl (.nm 1)) x0 []), .one (.int .i64 x1), U, U, U, U, .one (.own 0), .one (.own 1), .one (.int .i64 x2), .one (.bptr 2 0), U, U, U, U, U, U, U, U, U, U, U, U, U, U, U, U, U, U, U, U, U, U, U, U, U, U, U, U, U, U, U, U, U, U, U, U, U, U, U, U, U, U, U, U, U, U, U, U, U, U, U, U, U, U, U, U, U, U, U, U, U, U, U, U, U, U, U, U, U, U, U, U, U, U, U, U, U, U, U, U], [(0, .row 37 (.nm 2) x3 [] false), (1, .row 27 (.nm 1) x4 [] false), (2, .whole (.nm 1) x5 [])]⟩
theorem F18_run (n : Nat) (a0 : List (Ex)) (a1 : Int) : F18.run [.v (.sl (.nm 1)), .v (.int .i64)] [.own 37 (.nm 2), .own 27 (.nm 1)] n (a0, a1, ()) =
  F18c1 n (a0) (a1) := by kernel_rfl
theorem F18c1_eq (n : Nat) (x0 : List (Ex)) (x1 : Int) : F18c1 (n + 1) x0 x1 =
  F18c4 n (x0) (x1) ((0 : Int)) ([]) ([]) := by kernel_rfl
theorem F18c4_eq (n : Nat) (x0 : List (Ex)) (x1 : Int) (x2 : Int) (x3 : List (Pair)) (x4 : List (Ex)) : F18c4 (n + 1) x0 x1 x2 x3 x4 =
  bif decide (x2 < (↑x0.length : Int)) then
    if (0 : Int) ≤ x2 then
      if x2 < (↑x0.length : Int) then
        bif decide ((x0.getD x2.toNat zEx).kind = (5 : Int)) then
          bif decide ((x0.getD x2.toNat zEx).op = (1 : Int)) then
            if (0 : Int) < (↑(x0.getD x2.toNat zEx).args.length : Int) then
              bif decide (((x0.getD x2.toNat zEx).args.getD (Int.toNat (0 : Int)) zEx).kind = (2 : Int)) then
                if (1 : Int) < (↑(x0.getD x2.toNat zEx).args.length : Int) then
                  bif decide (((x0.getD x2.toNat zEx).args.getD (Int.toNat (1 : Int)) zEx).kind = (2 : Int)) then
                    if (0 : Int) < (↑(x0.getD x2.toNat zEx).args.length : Int) then
                      if (1 : Int) < (↑(x0.getD x2.toNat zEx).args.length : Int) then
                        if (0 : Int) < (↑(x0.getD x2.toNat zEx).args.length : Int) then
                          if (1 : Int) < (↑(x0.getD x2.toNat zEx).args.length : Int) then
                            bif decide (imin ((x0.getD x2.toNat zEx).args.getD (Int.toNat (0 : Int)) zEx).slot ((x0.getD x2.toNat zEx).args.getD (Int.toNat (1 : Int)) zEx).slot < x1) then
                              bif decide (x1 ≤ imax ((x0.getD x2.toNat zEx).args.getD (Int.toNat (0 : Int)) zEx).slot ((x0.getD x2.toNat zEx).args.getD (Int.toNat (1 : Int)) zEx).slot) then
                                if x3.length + (1 : Nat) ≤ lim then
                                  F18c5 n (x0) (x1) (x2) (x3 ++ [{ e0 := imin ((x0.getD x2.toNat zEx).args.getD (Int.toNat (0 : Int)) zEx).slot ((x0.getD x2.toNat zEx).args.getD (Int.toNat (1 : Int)) zEx).slot, e1 := IntKind.i64.wrap (imax ((x0.getD x2.toNat zEx).args.getD (Int.toNat (0 : Int)) zEx).slot ((x0.getD x2.toNat zEx).args.getD (Int.toNat (1 : Int)) zEx).slot - x1) : Pair }]) (x4)
                                else
                                  none
                              else
                                F18c11 n (x0) (x1) (x2) (x3) (x4) (x0.getD x2.toNat zEx)
                            else
                              F18c11 n (x0) (x1) (x2) (x3) (x4) (x0.getD x2.toNat zEx)
                          else
                            none
                        else
                          none
                      else
                        none
                    else
                      none
                  else
                    F18c11 n (x0) (x1) (x2) (x3) (x4) (x0.getD x2.toNat zEx)
                else
                  none
              else
                F18c11 n (x0) (x1) (x2) (x3) (x4) (x0.getD x2.toNat zEx)
            else
              none
          else
            F18c11 n (x0) (x1) (x2) (x3) (x4) (x0.getD x2.toNat zEx)
        else
          F18c11 n (x0) (x1) (x2) (x3) (x4) (x0.getD x2.toNat zEx)
      else
        none
    else
      none
  else
    some ((x3, (x4, ())), ()) := by kernel_rfl
theorem F18c5_eq (n : Nat) (x0 : List (Ex)) (x1 : Int) (x2 : Int) (x3 : List (Pair)) (x4 : List (Ex)) : F18c5 (n + 1) x0 x1 x2 x3 x4 =
  F18c4 n (x0) (x1) (IntKind.i64.wrap (x2 + (1 : Int))) (x3) (x4) := by kernel_rfl
theorem F18c11_eq (n : Nat) (x0 : List (Ex)) (x1 : Int) (x2 : Int) (x3 : List (Pair)) (x4 : List (Ex)) (x5 : Ex) : F18c11 (n + 1) x0 x1 x2 x3 x4 x5 =
  if x4.length + (1 : Nat) ≤ lim then
    F18c5 n (x0) (x1) (x2) (x3) (x4 ++ [x5])
  else
    none := by kernel_rfl
end Go.Proofs.Tryz
