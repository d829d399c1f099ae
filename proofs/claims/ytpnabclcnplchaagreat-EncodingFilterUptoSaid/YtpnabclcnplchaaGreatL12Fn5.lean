/- The functions of the program as the engine follows them (printed by a program of ours): their code, what is known of them, and the equations of their runs. -/
import Derived.Test.YtpnabclcnplchaaGreatL12Lives
import Derived.Test.YtpnabclcnplchaaGreatL12Dec6
import Derived.Test.YtpnabclcnplchaaGreatL12FnE
set_option linter.unusedVariables false
set_option maxRecDepth 20000
namespace Go.Proofs.Tryz
open Go.Eng
noncomputable def F5:Eng.Fn NN:=mkF [(10,sp10),(24,sp24),(23,sp23),(22,sp22),(21,sp21)] [(3,[0,1,2,7])] [.v (.sl (.int .u8)),.v (.int .i64),.v (.int .i64),.v (.nm 3)] f5 [.tmp 8] 58
noncomputable def sp5:Eng.Spec NN:=F5.spec Pkd Rkn 4000000
theorem good5:Eng.Good prog 5 sp5:=gF (fn:=f5) fits q06 (.cons z152 (.cons z158 (.cons z157 (.cons qz2 (.cons z156 .nil))))) (by kernel_rfl)
noncomputable def F5c3 (n:Nat)(x0:List (Int))(x1 x2:Int)(x3:Pred):=F5.at Pkd Rkn n 3 ⟨(.one (.data (.sl (.int .u8)) x0 [])::.one (.int .i64 x1)::.one (.int .i64 x2)::uU 4 (.one (.bptr 0 0)::uU 50 [])),[(0,.whole (.nm 3) x3 [])]⟩
theorem F5_run (n:Nat)(a0:List (Int))(a1 a2:Int)(a3:Pred):F5.run Pkd Rkn n (a0,a1,a2,a3,())=bif decide ((1000:Int)<(↑a0.length:Int))then some ((true,()),())else bif decide ((300:Int)<a2)then bif decide (a2<=(65536:Int))then some ((true,()),())else(F21.run Pk3b Rkl 4000000 (a3.value,())).bind fun r0=>bif !r0.fst.fst then some ((true,()),())else F5c3 n (a0) (a1) (a2) (a3)else(F21.run Pk3b Rkl 4000000 (a3.value,())).bind fun r1=>bif !r1.fst.fst then some ((true,()),())else F5c3 n (a0) (a1) (a2) (a3):=by kernel_rfl
theorem F5c3_eq (n x0 x1 x2 x3:_):F5c3 (n+1) x0 x1 x2 x3=(F22.run Pk1i Rk2n 4000000 (x0,x1,x2,x3,())).bind fun r2=>(F23.run Pk1i Rk2n 4000000 (x0,x1,x2,x3,())).bind fun r3=>(F24.run Pk34 Rkl 4000000 (Bits.mk r2.fst.fst.n r2.fst.fst.words,Bits.mk r3.fst.fst.n r3.fst.fst.words,())).bind fun r4=>bif r4.fst.fst then bif decide (r2.fst.snd.fst=r3.fst.snd.fst)then some ((true,()),())else some ((false,()),())else some ((false,()),()):=by kernel_rfl
end Go.Proofs.Tryz
