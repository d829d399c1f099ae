/- The functions of the program as the engine follows them (printed by a program of ours): their code, what is known of them, and the equations of their runs. -/
import Derived.Test.YtpnabclcnplchaaGreatL12FnL
set_option linter.unusedVariables false
set_option maxRecDepth 20000
namespace Go.Proofs.Tryz
open Go.Eng
noncomputable def F26:Eng.Fn NN:=mkF [] [] [.v (.nm 0)] f26 [.tmp 2] 6
noncomputable def sp26:Eng.Spec NN:=F26.spec Pkx Rkd 4000000
theorem z14r:Eng.Good prog 26 sp26:=gF (fn:=f26) fits q0e .nil (by kernel_rfl)
theorem F26_run (n:Nat)(a0:Vec):F26.run Pkx Rkd n (a0,())=some (((↑a0.nulls.length:Int),()),()):=by kernel_rfl
end Go.Proofs.Tryz
