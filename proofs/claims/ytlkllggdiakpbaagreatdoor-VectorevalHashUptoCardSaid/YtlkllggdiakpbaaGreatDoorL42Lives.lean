/- The functions of the program as the engine follows them (printed by a program of ours): their code, what is known of them, and the equations of their runs. -/
import Derived.Test.YtlkllggdiakpbaaGreatDoorL42Fns
set_option linter.unusedVariables false
set_option maxRecDepth 20000
namespace Go.Proofs.Tryz
open Go.Eng
noncomputable def F10 : Eng.Fn NN := ⟨⟨(Eng.look tys), (lookS [(22, sp22), (30, sp30), (20, sp20), (17, sp17), (31, sp31), (15, sp15), (29, sp29), (12, sp12)]), Eng.look [], Eng.pinIds 0 [], 0⟩, Eng.bodyOf Go.Proofs.Tryz.f10, [.tmp 0], 123⟩
noncomputable def sp10 : Eng.Spec NN := Eng.specOf [] [RK.v Ty.bool] 0 (fun _ => some ((true, ()), ()))
theorem good10f : Eng.Good prog 10 (F10.spec [] [.v (.bool)] 4000000) := Eng.good_fn (fn := f10) fits (by kernel_rfl) mixed (by kernel_rfl) (.cons good22 (.cons good30 (.cons good20 (.cons good17 (.cons good31 (.cons good15 (.cons good29 (.cons good12 .nil)))))))) (by kernel_rfl) (by kernel_rfl) (by kernel_rfl) (by kernel_rfl) (by kernel_rfl) (by kernel_rfl) (by kernel_rfl) (by kernel_rfl) (by kernel_rfl)
set_option maxRecDepth 100000 in
theorem lives_run : F10.run [] [RK.v Ty.bool] 4000000 () = some ((true, ()), ()) := by kernel_rfl
theorem good10 : Eng.Good prog 10 sp10 := Eng.good_rec good10f (fun _ => lives_run.symm)
end Go.Proofs.Tryz
