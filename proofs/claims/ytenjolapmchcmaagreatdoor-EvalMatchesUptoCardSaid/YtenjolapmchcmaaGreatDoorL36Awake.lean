/- The functions of the program as the engine follows them (printed by a program of ours): their code, what is known of them, and the equations of their runs. -/
import Derived.Test.YtenjolapmchcmaaGreatDoorL36Fns
set_option linter.unusedVariables false
set_option maxRecDepth 20000
namespace Go.Proofs.Tryz
open Go.Eng
noncomputable def F6 : Eng.Fn NN := ⟨⟨(Eng.look tys), (lookS [(7, sp7), (13, sp13), (9, (sp9 R13)), (12, sp12), (10, sp10), (11, sp11)]), Eng.look [], Eng.pinIds 0 [], 0, noInl, noThr⟩, Eng.bodyOf Go.Proofs.Tryz.f6, [.tmp 0], 80⟩
noncomputable def sp6 : Eng.Spec NN := Eng.specOf [] [RK.v Ty.bool] 0 (fun _ => some ((true, ()), ()))
theorem good6f : Eng.Good prog 6 (F6.spec [] [.v (.bool)] 4000000) := Eng.good_fn (fn := f6) fits (by kernel_rfl) mixed (by kernel_rfl) (.cons good7 (.cons good13 (.cons good9 (.cons good12 (.cons good10 (.cons good11 .nil)))))) (by kernel_rfl) (by kernel_rfl) (by kernel_rfl) (by kernel_rfl) (by kernel_rfl) (by kernel_rfl) (by kernel_rfl) (by kernel_rfl) (by kernel_rfl)
set_option maxRecDepth 100000 in
theorem awake_run : F6.run [] [RK.v Ty.bool] 4000000 () = some ((true, ()), ()) := by kernel_rfl
theorem good6 : Eng.Good prog 6 sp6 := Eng.good_rec good6f (fun _ => awake_run.symm)
end Go.Proofs.Tryz
