/- Law 10: the examples hold. -/
import Derived.Test.YtkbeapecncddkaaL10Fns
namespace Go.Proofs.Try
open Go.Eng
theorem awake_run : F9.run [] [RK.v Ty.bool] 4000000 () = some ((true, ()), ()) := by kernel_rfl
end Go.Proofs.Try
