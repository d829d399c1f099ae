/- The functions of the program as the engine follows them (printed by a program of ours): their code, what is known of them, and the equations of their runs. -/
import Derived.Test.YtpnabclcnplchaaGreatL12Lives
set_option linter.unusedVariables false
set_option maxRecDepth 20000
namespace Go.Proofs.Tryz
open Go.Eng
noncomputable def F8 : Eng.Fn NN := ⟨⟨(Eng.look tys), (lookS [(10, sp10), (11, sp11), (16, sp16), (14, sp14), (13, sp13), (9, sp9)]), Eng.look [(3, [1]), (7, [1, 3, 4]), (8, [1, 3, 4, 6]), (9, [1, 3, 4, 6])], Eng.pinIds 0 [.v (.nm 0)], 0, noInl⟩, Eng.bodyOf Go.Proofs.Tryz.f8, [.tmp 2], 84⟩
noncomputable def sp8 : Eng.Spec NN := F8.spec [.v (.nm 0)] [.v (.bool)] 4000000
end Go.Proofs.Tryz
