/- The functions of the program as the engine follows them (printed by a program of ours): their code, what is known of them, and the equations of their runs. -/
import Derived.Test.YtgfklnmckakclaaGreatDoorL40Fns
set_option linter.unusedVariables false
set_option maxRecDepth 20000
namespace Go.Proofs.Tryz
open Go.Eng
noncomputable def F12 : Eng.Fn NN := ⟨⟨(Eng.look tys), (lookS [(24, sp24), (20, sp20), (13, sp13), (41, sp41), (39, sp39), (40, sp40), (17, sp17), (28, sp28), (14, sp14)]), Eng.look [], Eng.pinIds 0 []⟩, Eng.bodyOf Go.Proofs.Tryz.f12, [.tmp 0], 86⟩
noncomputable def sp12 : Eng.Spec NN := Eng.specOf [] [RK.v Ty.bool] (fun _ => some ((true, ()), ()))
theorem good12f : Eng.Good prog 12 (F12.spec [] [.v (.bool)] 4000000) := Eng.good_fn (fn := f12) fits (by kernel_rfl) mixed (by kernel_rfl) (.cons good24 (.cons good20 (.cons good13 (.cons good41 (.cons good39 (.cons good40 (.cons good17 (.cons good28 (.cons good14 .nil))))))))) (by kernel_rfl) (by kernel_rfl) (by kernel_rfl) (by kernel_rfl) (by kernel_rfl) (by kernel_rfl) (by kernel_rfl) (by kernel_rfl) (by kernel_rfl)
set_option maxRecDepth 100000 in
theorem awake_run : F12.run [] [RK.v Ty.bool] 4000000 () = some ((true, ()), ()) := by kernel_rfl
theorem good12 : Eng.Good prog 12 sp12 := Eng.good_rec good12f (fun _ => awake_run.symm)
end Go.Proofs.Tryz
