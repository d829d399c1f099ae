/- The functions of the program as the engine follows them (printed by a program of ours): their code, what is known of them, and the equations of their runs. -/
import Derived.Test.YtgfklnmckakclaaGreatDoorL40Awake
set_option linter.unusedVariables false
set_option maxRecDepth 20000
namespace Go.Proofs.Tryz
open Go.Eng
noncomputable def F9 : Eng.Fn NN := ⟨⟨(Eng.look tys), (lookS [(12, sp12), (23, sp23), (26, sp26), (24, sp24), (35, sp35), (36, sp36), (34, sp34), (32, sp32), (33, sp33), (14, sp14), (22, sp22), (11, sp11)]), Eng.look [(3, [1, 2]), (6, [1, 2])], Eng.pinIds 0 [.v (.nm 1), .v (.sl (.nm 0))]⟩, Eng.bodyOf Go.Proofs.Tryz.f9, [.tmp 4], 63⟩
noncomputable def sp9 : Eng.Spec NN := F9.spec [.v (.nm 1), .v (.sl (.nm 0))] [.v (.bool)] 4000000
theorem good9 : Eng.Good prog 9 sp9 := Eng.good_fn (fn := f9) fits (by kernel_rfl) mixed (by kernel_rfl) (.cons good12 (.cons good23 (.cons good26 (.cons good24 (.cons good35 (.cons good36 (.cons good34 (.cons good32 (.cons good33 (.cons good14 (.cons good22 (.cons good11 .nil)))))))))))) (by kernel_rfl) (by kernel_rfl) (by kernel_rfl) (by kernel_rfl) (by kernel_rfl) (by kernel_rfl) (by kernel_rfl) (by kernel_rfl) (by kernel_rfl)
noncomputable def F9c3 (n : Nat) (x0 : List (Val)) (x1 : Ex) := F9.at [.v (.nm 1), .v (.sl (.nm 0))] [.v (.bool)] n 3 ⟨[U, .one (.data (.sl (.nm 0)) x0 []), .one (.bptr 0 0), U, U, U, U, U, U, U, U, U, U, U, U, U, U, U, U, U, U, U, U, U, U, U, U, U, U, U, U, U, U, U, U, U, U, U, U, U, U, U, U, U, U, U, U, U, U, U, U, U, U, U, U, U, U, U, U, U, U, U, U], [(0, .whole (.nm 1) x1 [])]⟩
noncomputable def F9c6 (n : Nat) (x0 : List (Val)) (x1 : Ex) := F9.at [.v (.nm 1), .v (.sl (.nm 0))] [.v (.bool)] n 6 ⟨[U, .one (.data (.sl (.nm 0)) x0 []), .one (.bptr 0 0), U, U, U, U, U, U, U, U, U, U, U, U, U, U, U, U, U, U, U, U, U, U, U, U, U, U, U, U, U, U, U, U, U, U, U, U, U, U, U, U, U, U, U, U, U, U, U, U, U, U, U, U, U, U, U, U, U, U, U, U], [(0, .whole (.nm 1) x1 [])]⟩
theorem F9_run (n : Nat) (a0 : Ex) (a1 : List (Val)) : F9.run [.v (.nm 1), .v (.sl (.nm 0))] [.v (.bool)] n (a0, a1, ()) =
  (F11.run [PK.v (Ty.nm (1 : Nat))] [RK.v Ty.bool] (4000000 : Nat) (a0, ())).bind fun r0 =>
    bif !r0.fst.fst then
      some ((true, ()), ())
    else
      (F22.run [PK.v (Ty.nm (0 : Nat)).sl] [RK.v Ty.bool] (4000000 : Nat) (a1, ())).bind fun r1 =>
        bif !r1.fst.fst then
          some ((true, ()), ())
        else
          F9c3 n (a1) (a0) := by kernel_rfl
theorem F9c3_eq (n : Nat) (x0 : List (Val)) (x1 : Ex) : F9c3 (n + 1) x0 x1 =
  (F14.run [PK.v (Ty.nm (1 : Nat))] [RK.v (Ty.nm (1 : Nat))] (4000000 : Nat) (x1, ())).bind fun r2 =>
    bif !decide (r2.fst.fst.f_Type = x1.f_Type) then
      some ((false, ()), ())
    else
      (R33 (r2.fst.fst, x0, ())).bind fun r3 =>
        (R33 (x1, x0, ())).bind fun r4 =>
          (F32.run [PK.v (Ty.nm (0 : Nat)), PK.v (Ty.nm (0 : Nat))] [RK.v Ty.bool] (4000000 : Nat) (r3.fst.fst, r4.fst.fst, ())).bind fun r5 =>
            bif !r5.fst.fst then
              some ((false, ()), ())
            else
              (R34 (r2.fst.fst, ())).bind fun r6 =>
                (R34 (x1, ())).bind fun r7 =>
                  bif decide (r7.fst.fst < r6.fst.fst) then
                    some ((false, ()), ())
                  else
                    (F36.run [] [RK.own (3 : TypeId) (Ty.int IntKind.i64)] (4000000 : Nat) ()).bind fun r8 =>
                      (F35.run [PK.v (Ty.nm (1 : Nat)), PK.v (Ty.int IntKind.i64).sl] [RK.v Ty.bool] (4000000 : Nat) (r2.fst.fst, r8.fst.fst, ())).bind fun r9 =>
                        bif !r9.fst.fst then
                          some ((false, ()), ())
                        else
                          F9c6 n (x0) (x1) := by kernel_rfl
theorem F9c6_eq (n : Nat) (x0 : List (Val)) (x1 : Ex) : F9c6 (n + 1) x0 x1 =
  bif !decide (x1.f_Type = (1 : Int)) then
    some ((true, ()), ())
  else
    (R24 (x1, ())).bind fun r10 =>
      (F26.run [PK.v (Ty.nm (1 : Nat)).sl] [RK.v (Ty.nm (1 : Nat))] (4000000 : Nat) (r10.fst.fst, ())).bind fun r11 =>
        (F23.run [PK.v (Ty.nm (1 : Nat)), PK.v (Ty.nm (0 : Nat)).sl] [RK.v Ty.bool] (4000000 : Nat) (r11.fst.fst, x0, ())).bind fun r12 =>
          (F23.run [PK.v (Ty.nm (1 : Nat)), PK.v (Ty.nm (0 : Nat)).sl] [RK.v Ty.bool] (4000000 : Nat) (x1, x0, ())).bind fun r13 =>
            bif decide (r12.fst.fst = r13.fst.fst) then
              some ((true, ()), ())
            else
              some ((false, ()), ()) := by kernel_rfl
end Go.Proofs.Tryz
