/- The functions of the program as the engine follows them (printed by a program of ours): their code, what is known of them, and the equations of their runs. -/
import Derived.Test.YtpnabclcnplchaaGreatL12Lives
import Derived.Test.YtpnabclcnplchaaGreatL12Dec6
set_option linter.unusedVariables false
set_option maxRecDepth 20000
namespace Go.Proofs.Tryz
open Go.Eng
noncomputable def F4:Eng.Fn NN:=mkF [(10,sp10),(20,sp20),(19,sp19),(18,sp18)] [(3,[0,1,2])] [.v (.sl (.int .u8)),.v (.int .i64),.v (.int .i64)] f4 [.tmp 6] 57
noncomputable def sp4:Eng.Spec NN:=F4.spec Pk0 Rkm 4000000
theorem good4:Eng.Good prog 4 sp4:=gF (fn:=f4) fits q07 (.cons z13s (.cons qy3 (.cons z13u (.cons qsm .nil)))) (by kernel_rfl)
noncomputable def F4c3 (n:Nat) (x0:List (Int)) (x1 x2:Int):=F4.at Pk0 Rkm n 3 ⟨(.one (.data (.sl (.int .u8)) x0 [])::.one (.int .i64 x1)::.one (.int .i64 x2)::uU 54 []),[]⟩
theorem F4_run (n:Nat) (a0:List (Int)) (a1 a2:Int):F4.run Pk0 Rkm n (a0,a1,a2,())=
 bif decide ((1000:Int)<(↑a0.length:Int))then
  some ((true,()),())
 else
  bif decide ((300:Int)<a2)then
   bif decide (a2<=(65536:Int))then
    some ((true,()),())
   else
    F4c3 n (a0) (a1) (a2)
  else
   F4c3 n (a0) (a1) (a2):=by kernel_rfl
theorem F4c3_eq (n x0 x1 x2:_):F4c3 (n+1) x0 x1 x2=
 (F18.run Pk2 qza 4000000 (x0,x1,x2,())).bind fun r0=>
  (F19.run Pk2 qza 4000000 (x0,x1,x2,())).bind fun r1=>
   (F20.run Pk2e Rkp 4000000 (r0.fst.fst,r1.fst.fst,())).bind fun r2=>
    bif r2.fst.fst then
     bif decide (r0.fst.snd.fst=r1.fst.snd.fst)then
      bif decide (r0.fst.snd.snd.fst=r1.fst.snd.snd.fst)then
       some ((true,()),())
      else
       some ((false,()),())
     else
      some ((false,()),())
    else
     some ((false,()),()):=by kernel_rfl
end Go.Proofs.Tryz
