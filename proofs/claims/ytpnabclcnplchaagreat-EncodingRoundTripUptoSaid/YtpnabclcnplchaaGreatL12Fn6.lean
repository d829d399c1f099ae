/- The functions of the program as the engine follows them (printed by a program of ours): their code, what is known of them, and the equations of their runs. -/
import Derived.Test.YtpnabclcnplchaaGreatL12Lives
import Derived.Test.YtpnabclcnplchaaGreatL12Dec6
import Derived.Test.YtpnabclcnplchaaGreatL12FnR
set_option linter.unusedVariables false
set_option maxRecDepth 20000
namespace Go.Proofs.Tryz
open Go.Eng
open IntKind (i64 u64 u8)
noncomputable section
def F6:Eng.Fn NN:=mkF [(10,sp10),(20,sp20),(18,sp18),(26,sp26),(25,sp25),(11,sp11),(13,sp13),(9,sp9)] [(3,[1,2]),(4,[1,2,5]),(5,[1,2,5])] [.v (.nm 0),.v (.sl (.int .u8))] f6 [.tmp 4] 74
def sp6:Eng.Spec NN:=F6.spec qyk Rkk 4000000
theorem good6:Eng.Good prog 6 sp6:=gF (fn:=f6) fits q0e (.cons z14m (.cons qzh (.cons qts (.cons z14r (.cons z14q (.cons qtm (.cons z14n (.cons z18m .nil)))))))) (by kernel_rfl)
def F6c3 (n:Nat)(x0:List (Int))(x1:Vec):=F6.at qyk Rkk n 3 ⟨(uU 1 (.one (.data (.sl (.int .u8)) x0 [])::.one (.bptr 0 0)::uU 71 [])),[(0,.whole (.nm 0) x1 [])]⟩
def F6c4 (n:Nat)(x0:List (Int))(x1:Int)(x2:Vec):=F6.at qyk Rkk n 4 ⟨(uU 1 (.one (.data (.sl (.int .u8)) x0 [])::.one (.bptr 0 0)::uU 2 (.one (.int .i64 x1)::uU 68 []))),[(0,.whole (.nm 0) x2 [])]⟩
def F6c5 (n:Nat)(x0:List (Int))(x1:Int)(x2:Vec):=F6.at qyk Rkk n 5 ⟨(uU 1 (.one (.data (.sl (.int .u8)) x0 [])::.one (.bptr 0 0)::uU 2 (.one (.int .i64 x1)::uU 68 []))),[(0,.whole (.nm 0) x2 [])]⟩
theorem F6_run (n:Nat)(a0:Vec)(a1:List (Int)):F6.run qyk Rkk n (a0,a1,())=(F9.run qe5 Rkl 4000000 (a0,())).bind fun r0=>bif !r0.fst.fst then some ((true,()),())else(F13.run qe5 Rkl 4000000 (a0,())).bind fun r1=>bif !r1.fst.fst then some ((true,()),())else bif decide ((100:Int)<(↑a1.length:Int))then some ((true,()),())else F6c3 n (a1) (a0):=by kernel_rfl
theorem F6c3_eq (n x0 x1:_):F6c3 (n+1) x0 x1=F6c4 n (x0) ((0:Int)) (x1):=by kernel_rfl
theorem F6c4_eq (n x0 x1 x2:_):F6c4 (n+1) x0 x1 x2=bif decide (x1<=(5:Int))then(F11.run qrz qym 4000000 (x2,x1,())).bind fun r2=>bif !decide (r2.fst.snd.fst=(0:Int))then bif !decide (r2.fst.snd.fst=(7:Int))then some ((false,()),())else(F25.run Pk9 Rkl 4000000 (x2.f_Type,x1,())).bind fun r3=>bif r3.fst.fst then some ((false,()),())else F6c5 n (x0) (x1) (x2)else if(0:Nat)+List.length r2.fst.fst<=lim then if([]++r2.fst.fst).length+x0.length<=lim then(F26.run qe5 Rk6 4000000 (x2,())).bind fun r4=>(F18.run Pk2 Rk1h 4000000 ([]++r2.fst.fst++x0,x2.f_Type,r4.fst.fst,())).bind fun r5=>bif !decide (r5.fst.snd.snd.fst=(0:Int))then some ((false,()),())else bif !decide (r5.fst.snd.fst=(↑(List.length r2.fst.fst):Int))then some ((false,()),())else(F20.run Pk2e Rkl 4000000 (r5.fst.fst,x2,())).bind fun r6=>bif !r6.fst.fst then some ((false,()),())else F6c5 n (x0) (x1) (x2)else none else none else some ((true,()),()):=by kernel_rfl
theorem F6c5_eq (n x0 x1 x2:_):F6c5 (n+1) x0 x1 x2=F6c4 n (x0) (i64.wrap (x1+(1:Int))) (x2):=by kernel_rfl
end
end Go.Proofs.Tryz
