/- The functions of the program as the engine follows them (printed by a program of ours): their code, what is known of them, and the equations of their runs. -/
import Derived.Test.YtgfklnmckakclaaGreatDoorL40Awake
set_option linter.unusedVariables false
set_option maxRecDepth 20000
namespace Go.Proofs.Tryz
open Go.Eng
noncomputable def F3 : Eng.Fn NN := ⟨⟨(Eng.look tys), (lookS [(12, sp12), (13, sp13), (15, sp15), (14, sp14), (11, sp11)]), Eng.look [], Eng.pinIds 0 [.v (.nm 1)]⟩, Eng.bodyOf Go.Proofs.Tryz.f3, [.tmp 2], 15⟩
noncomputable def sp3 : Eng.Spec NN := F3.spec [.v (.nm 1)] [.v (.bool)] 4000000
theorem good3 : Eng.Good prog 3 sp3 := Eng.good_fn (fn := f3) fits (by kernel_rfl) mixed (by kernel_rfl) (.cons good12 (.cons good13 (.cons good15 (.cons good14 (.cons good11 .nil))))) (by kernel_rfl) (by kernel_rfl) (by kernel_rfl) (by kernel_rfl) (by kernel_rfl) (by kernel_rfl) (by kernel_rfl) (by kernel_rfl) (by kernel_rfl)
theorem F3_run (n : Nat) (a0 : Ex) : F3.run [.v (.nm 1)] [.v (.bool)] n (a0, ()) =
  (F11.run [PK.v (Ty.nm (1 : Nat))] [RK.v Ty.bool] (4000000 : Nat) (a0, ())).bind fun r0 =>
    bif !r0.fst.fst then
      some ((true, ()), ())
    else
      (F14.run [PK.v (Ty.nm (1 : Nat))] [RK.v (Ty.nm (1 : Nat))] (4000000 : Nat) (a0, ())).bind fun r1 =>
        (R15 (a0, ())).bind fun r2 =>
          (R13 (r1.fst.fst, r2.fst.fst, ())).bind fun r3 =>
            bif r3.fst.fst then
              some ((true, ()), ())
            else
              some ((false, ()), ()) := by kernel_rfl
end Go.Proofs.Tryz
