/- Law 40: the examples hold. -/
import Derived.Test.YtgfklnmckakclaaGreatDoorL40Fns
namespace Go.Proofs.Tryz
open Go.Eng
set_option maxRecDepth 100000
theorem awake_run : F12.run [] [RK.v Ty.bool] 4000000 () = some ((true, ()), ()) := by kernel_rfl
end Go.Proofs.Tryz
