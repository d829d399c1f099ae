/- The functions of the program as the engine follows them (printed by a program of ours): their code, what is known of them, and the equations of their runs. -/
import Derived.Test.YtpnabclcnplchaaGreatL12FnB
import Derived.Test.YtpnabclcnplchaaGreatL12FnL
set_option linter.unusedVariables false
set_option maxRecDepth 20000
namespace Go.Proofs.Tryz
open Go.Eng
noncomputable section
def F144:Eng.Fn NN:=mkF [] [(3,[0,3,4]),(7,[0,3,4])] [.v (.sl (.nm 5))] f144 [.tmp 2] 51
def z16a:Eng.Spec NN:=F144.spec Pks Rkm 4000000
theorem z10m:Eng.Good prog 144 z16a:=gF (fn:=f144) fits q07 .nil (by kernel_rfl)
def F84:Eng.Fn NN:=mkF [(144,z16a)] [(1,[0]),(5,[0,4,5]),(8,[0,4,5,6])] [.v (.sl (.nm 5))] f84 [.tmp 2,.tmp 3] 34
def sp84:Eng.Spec NN:=F84.spec Pks qv5 4000000
theorem qyh:Eng.Good prog 84 sp84:=gF (fn:=f84) fits q07 (.cons z10m .nil) (by kernel_rfl)
def F83:Eng.Fn NN:=mkF [] [(3,[0,3,4])] [.v (.sl (.nm 5))] f83 [.tmp 2] 19
def sp83:Eng.Spec NN:=F83.spec Pks Rke 4000000
theorem z14r:Eng.Good prog 83 sp83:=gF (fn:=f83) fits q07 .nil (by kernel_rfl)
def F141:Eng.Fn NN:=mkF [] [] [.v (.int .u64)] f141 [.tmp 2] 14
def qx2:Eng.Spec NN:=F141.spec qci Rke 4000000
theorem qm5:Eng.Good prog 141 qx2:=gF (fn:=f141) fits q07 .nil (by kernel_rfl)
def F132:Eng.Fn NN:=mkF [] [(3,[0,1]),(6,[0,1,7,8,9]),(11,[0,1,7,8,9,10])] [.v (.sl (.int .u8)),.v (.int .i64)] f132 [.tmp 4,.tmp 5,.tmp 6] 63
def qks:Eng.Spec NN:=F132.spec Pkb Rkr 4000000
theorem q9d:Eng.Good prog 132 qks:=gF (fn:=f132) fits q07 .nil (by kernel_rfl)
def F82:Eng.Fn NN:=mkF [(141,qx2),(132,qks)] [(1,[0,1]),(10,[0,7,8,10,11,12,13]),(17,[0,7,10,11,12,13,14,15]),(22,[0,7,10,11,12,13,14,17,18])] [.v (.sl (.int .u8)),.v (.int .i64)] f82 [.tmp 4,.tmp 5,.tmp 6] 88
def sp82:Eng.Spec NN:=F82.spec Pkb Rkk 4000000
theorem qyg:Eng.Good prog 82 sp82:=gF (fn:=f82) fits q07 (.cons qm5 (.cons q9d .nil)) (by kernel_rfl)
def F143:Eng.Fn NN:=mkF [] [(1,[0,1]),(3,[1,5,6])] [.v (.int .i64),.v (.sl (.int .i64))] f143 [.tmp 4] 28
def z169:Eng.Spec NN:=F143.spec qvd ql6 4000000
theorem z10l:Eng.Good prog 143 z169:=gF (fn:=f143) fits q07 .nil (by kernel_rfl)
def F140:Eng.Fn NN:=mkF [(132,qks)] [(2,[0,1,2,3,4,12]),(12,[0,2,3,4,12,17])] [.v (.sl (.int .u8)),.v (.int .i64),.v (.int .i64),.v (.int .i64),.io 83 (.int .u64)] f140 [.tmp 10,.tmp 11] 69
def z167:Eng.Spec NN:=F140.spec Pk1a qzd 4000000
theorem z10j:Eng.Good prog 140 z167:=gF (fn:=f140) fits q07 (.cons q9d .nil) (by kernel_rfl)
def F167:Eng.Fn NN:=mkF [] [] [.v (.sl (.int .u8)),.v (.int .i64)] f167 [.tmp 4] 16
def z12f:Eng.Spec NN:=F167.spec Pkb qff 4000000
theorem qsj:Eng.Good prog 167 z12f:=gF (fn:=f167) fits q07 .nil (by kernel_rfl)
def F168:Eng.Fn NN:=mkF [(167,z12f)] [(3,[0,1,2,7,8])] [.v (.sl (.int .u8)),.v (.int .i64),.v (.int .i64)] f168 [.tmp 6] 27
def z12g:Eng.Spec NN:=F168.spec Pk0 qff 4000000
theorem qsk:Eng.Good prog 168 z12g:=gF (fn:=f168) fits q07 (.cons qsj .nil) (by kernel_rfl)
def F139:Eng.Fn NN:=mkF [(168,z12g)] [(3,[0,1,2])] [.v (.sl (.int .u8)),.v (.int .i64),.v (.int .i64)] f139 [.tmp 6] 30
def z166:Eng.Spec NN:=F139.spec Pk0 qff 4000000
theorem z10i:Eng.Good prog 139 z166:=gF (fn:=f139) fits q07 (.cons qsk .nil) (by kernel_rfl)
def F80:Eng.Fn NN:=mkF [(64,sp64),(141,qx2),(140,z167),(139,z166),(136,qql),(132,qks)] [(1,[0,1,2]),(3,[0,1,2]),(21,[0,1,2,9,10,12,13,14,15,16]),(30,[0,1,2,15,17,18,19,20]),(37,[0,1,17,19,21,22])] [.v (.sl (.int .u8)),.v (.int .i64),.v (.int .i64)] f80 [.tmp 6,.tmp 7,.tmp 8] 164
def sp80:Eng.Spec NN:=F80.spec Pk0 Rk3 4000000
theorem qyf:Eng.Good prog 80 sp80:=gF (fn:=f80) fits q07 (.cons qsu (.cons qm5 (.cons z10j (.cons z10i (.cons qec (.cons q9d .nil)))))) (by kernel_rfl)
def F142:Eng.Fn NN:=mkF [(141,qx2),(132,qks)] [(1,[0,1,2]),(3,[0,1,2,9,10])] [.v (.sl (.int .u8)),.v (.int .i64),.v (.int .i64)] f142 [.tmp 6,.tmp 7,.tmp 8] 37
def z168:Eng.Spec NN:=F142.spec Pk0 Rk3 4000000
theorem z10k:Eng.Good prog 142 z168:=gF (fn:=f142) fits q07 (.cons qm5 (.cons q9d .nil)) (by kernel_rfl)
def F81:Eng.Fn NN:=mkF [(65,sp65),(143,z169),(80,sp80),(142,z168)] [(1,[0,1,2]),(3,[0,1,2]),(8,[0,1,2,9]),(16,[0,1,10,14,15,16])] [.v (.sl (.int .u8)),.v (.int .i64),.v (.int .i64)] f81 [.tmp 6,.tmp 7,.tmp 8] 99
def sp81:Eng.Spec NN:=F81.spec Pk0 Rk3 4000000
theorem z14q:Eng.Good prog 81 sp81:=gF (fn:=f81) fits q07 (.cons qyc (.cons z10l (.cons qyf (.cons z10k .nil)))) (by kernel_rfl)
def F138:Eng.Fn NN:=mkF [] [(3,[0,1,2]),(7,[0,1,8,9])] [.v (.sl (.int .u8)),.v (.int .i64),.v (.int .i64)] f138 [.tmp 6,.tmp 7] 49
def z165:Eng.Spec NN:=F138.spec Pk0 qxe 4000000
theorem z10h:Eng.Good prog 138 z165:=gF (fn:=f138) fits q07 .nil (by kernel_rfl)
def F137:Eng.Fn NN:=mkF [(168,z12g),(167,z12f),(136,qql),(157,qx4)] [(1,[0,1,2]),(8,[0,1,2,8]),(14,[0,1,2,9,10])] [.v (.sl (.int .u8)),.v (.int .i64),.v (.int .i64)] f137 [.tmp 6,.tmp 7] 54
def z12a:Eng.Spec NN:=F137.spec Pk0 qv4 4000000
theorem qse:Eng.Good prog 137 z12a:=gF (fn:=f137) fits q07 (.cons qsk (.cons qsj (.cons qec (.cons qm7 .nil)))) (by kernel_rfl)
def F79:Eng.Fn NN:=mkF [(138,z165),(137,z12a),(136,qql)] [(1,[0,1,2,3]),(4,[0,1,2,3,11]),(10,[1,11,12,13,14,15]),(15,[0,1,3,11,12,16])] [.v (.sl (.int .u8)),.v (.int .i64),.v (.int .i64),.v (.int .i64)] f79 [.tmp 8,.tmp 9,.tmp 10] 86
def sp79:Eng.Spec NN:=F79.spec Pkg Rk3 4000000
theorem z14p:Eng.Good prog 79 sp79:=gF (fn:=f79) fits q07 (.cons z10h (.cons qse (.cons qec .nil))) (by kernel_rfl)
def F42:Eng.Fn NN:=mkF [(84,sp84),(83,sp83),(82,sp82),(81,sp81),(80,sp80),(79,sp79)] [(1,[0,1,2])] [.v (.sl (.int .u8)),.v (.int .i64),.v (.int .i64)] f42 [.tmp 6,.tmp 7,.tmp 8] 63
def sp42:Eng.Spec NN:=F42.spec Pk0 Rk3 4000000
theorem z146:Eng.Good prog 42 sp42:=gF (fn:=f42) fits q07 (.cons qyh (.cons z14r (.cons qyg (.cons z14q (.cons qyf (.cons z14p .nil)))))) (by kernel_rfl)
def F135:Eng.Fn NN:=mkF [(164,z12e),(132,qks)] [(6,[0,2,3,11,12])] [.v (.sl (.int .u8)),.v (.int .i64),.v (.int .i64),.v (.str)] f135 [.tmp 8,.tmp 9,.tmp 10] 85
def z164:Eng.Spec NN:=F135.spec Pkz qzc 4000000
theorem z10g:Eng.Good prog 135 z164:=gF (fn:=f135) fits q07 (.cons qsi (.cons q9d .nil)) (by kernel_rfl)
def F78:Eng.Fn NN:=mkF [(135,z164)] [(1,[0,1,2]),(3,[0,1,2]),(6,[0,1,2,9,10,11])] [.v (.sl (.int .u8)),.v (.int .i64),.v (.int .i64)] f78 [.tmp 6,.tmp 7,.tmp 8] 56
def sp78:Eng.Spec NN:=F78.spec Pk0 Rk7 4000000
theorem z14o:Eng.Good prog 78 sp78:=gF (fn:=f78) fits q07 (.cons z10g .nil) (by kernel_rfl)
def F134:Eng.Fn NN:=mkF [(84,sp84),(82,sp82),(137,z12a),(116,z127),(136,qql)] [(1,[0,1,2,3]),(19,[15,17,19,20])] [.v (.sl (.int .u8)),.v (.int .i64),.v (.int .i64),.v (.int .i64)] f134 [.tmp 8,.tmp 9,.tmp 10] 103
def z163:Eng.Spec NN:=F134.spec Pkg Rko 4000000
theorem z10f:Eng.Good prog 134 z163:=gF (fn:=f134) fits q07 (.cons qyh (.cons qyg (.cons qse (.cons qsb (.cons qec .nil))))) (by kernel_rfl)
def F133:Eng.Fn NN:=mkF [(132,qks)] [(1,[0,1,2]),(8,[0,9,10,12,13]),(20,[0,9,12,13,14,15,17])] [.v (.sl (.int .u8)),.v (.int .i64),.v (.int .i64)] f133 [.tmp 6,.tmp 7,.tmp 8] 86
def z162:Eng.Spec NN:=F133.spec Pk0 Rk7 4000000
theorem z10e:Eng.Good prog 133 z162:=gF (fn:=f133) fits q07 (.cons q9d .nil) (by kernel_rfl)
def F77:Eng.Fn NN:=mkF [(66,sp66),(134,z163),(133,z162)] [(1,[0,1,2]),(3,[0,1,2]),(11,[0,1,9,12,13,15,16])] [.v (.sl (.int .u8)),.v (.int .i64),.v (.int .i64)] f77 [.tmp 6,.tmp 7,.tmp 8] 92
def sp77:Eng.Spec NN:=F77.spec Pk0 Rk7 4000000
theorem z14n:Eng.Good prog 77 sp77:=gF (fn:=f77) fits q07 (.cons qyd (.cons z10f (.cons z10e .nil))) (by kernel_rfl)
def F76:Eng.Fn NN:=mkF [(132,qks)] [(1,[0,1,2]),(3,[0,1,2,9,10])] [.v (.sl (.int .u8)),.v (.int .i64),.v (.int .i64)] f76 [.tmp 6,.tmp 7,.tmp 8] 55
def sp76:Eng.Spec NN:=F76.spec Pk0 Rk7 4000000
theorem z14m:Eng.Good prog 76 sp76:=gF (fn:=f76) fits q07 (.cons q9d .nil) (by kernel_rfl)
def F41:Eng.Fn NN:=mkF [(78,sp78),(77,sp77),(76,sp76)] [(1,[0,1])] [.v (.sl (.int .u8)),.v (.int .i64)] f41 [.tmp 4,.tmp 5,.tmp 6] 33
def sp41:Eng.Spec NN:=F41.spec Pkb Rk7 4000000
theorem z145:Eng.Good prog 41 sp41:=gF (fn:=f41) fits q07 (.cons z14o (.cons z14n (.cons z14m .nil))) (by kernel_rfl)
def F19:Eng.Fn NN:=mkF [(35,sp35),(42,sp42),(41,sp41),(25,sp25)] [(3,[0,1,2,6]),(18,[0,1,6,9,10,11]),(21,[0,1,6,9,10,18]),(26,[0,6,9,10,19])] [.v (.sl (.int .u8)),.v (.int .i64),.v (.int .i64)] f19 [.cell 6 26,.tmp 7,.tmp 8] 136
def sp19:Eng.Spec NN:=F19.spec Pk0 Rkh 4000000
theorem z13u:Eng.Good prog 19 sp19:=gF (fn:=f19) fits q07 (.cons z142 (.cons z146 (.cons z145 (.cons z13w .nil)))) (by kernel_rfl)
def F144c3 (n:Nat) (x0:List (Run)) (x1 x2:Int):=F144.at Pks Rkm n 3 ⟨(.one (.data (.sl (.nm 5)) x0 [])::uU 2 (.one (.int .i64 x1)::.one (.int .i64 x2)::uU 46 [])),[]⟩
def F144c7 (n:Nat) (x0:List (Run)) (x1 x2:Int):=F144.at Pks Rkm n 7 ⟨(.one (.data (.sl (.nm 5)) x0 [])::uU 2 (.one (.int .i64 x1)::.one (.int .i64 x2)::uU 46 [])),[]⟩
theorem F144_run (n:Nat) (a0:List (Run)):F144.run Pks Rkm n (a0,())=
 F144c3 n (a0) ((65536:Int)) ((0:Int)):=by kernel_rfl
theorem F144c3_eq (n x0 x1 x2:_):F144c3 (n+1) x0 x1 x2=
 bif decide (x2<(↑x0.length:Int))then
  if (0 : Int)<=x2 then
   if x2 < (↑x0.length:Int)then
    bif decide ((x0.getD x2.toNat q0v).count<(1:Int))then
     some ((false,()),())
    else
     if (0 : Int)<=x2 then
      if x2 < (↑x0.length:Int)then
       bif decide (x1<(x0.getD x2.toNat q0v).count)then
        some ((false,()),())
       else
        bif decide ((0:Int)<x2)then
         if (0:Int)<=x2 then
          if x2<(↑x0.length:Int)then
           if (0:Int)<=IntKind.i64.wrap (x2-(1:Int))then
            if IntKind.i64.wrap (x2-(1:Int))<(↑x0.length:Int)then
             bif decide ((x0.getD x2.toNat q0v).value=(x0.getD (IntKind.i64.wrap (x2-(1:Int))).toNat q0v).value)then
              some ((false,()),())
             else
              F144c7 n (x0) (x1) (x2)
            else
             none
           else
            none
          else
           none
         else
          none
        else
         F144c7 n (x0) (x1) (x2)
      else
       none
     else
      none
   else
    none
  else
   none
 else
  some ((true,()),()):=by kernel_rfl
theorem F144c7_eq (n x0 x1 x2:_):F144c7 (n+1) x0 x1 x2=
 if(0:Int)<=x2 then
  if x2<(↑x0.length:Int)then
   F144c3 n (x0) (IntKind.i64.wrap (x1-(x0.getD x2.toNat q0v).count)) (IntKind.i64.wrap (x2+(1:Int)))
  else
   none
 else
  none:=by kernel_rfl
def F84c1 (n:Nat) (x0:List (Run)):=F84.at Pks qv5 n 1 ⟨(.one (.data (.sl (.nm 5)) x0 [])::uU 33 []),[]⟩
def F84c5 (n:Nat) (x0:List (Run)) (x1:Int) (x2:List (Int)):=F84.at Pks qv5 n 5 ⟨(.one (.data (.sl (.nm 5)) x0 [])::uU 3 (.one (.own 0)::.one (.int .i64 x1)::uU 28 [])),[(0,.row 2 (.int .i64) x2 [] false)]⟩
def F84c8 (n:Nat) (x0:List (Run)) (x1 x2:Int) (x3:List (Int)):=F84.at Pks qv5 n 8 ⟨(.one (.data (.sl (.nm 5)) x0 [])::uU 3 (.one (.own 0)::.one (.int .i64 x1)::.one (.int .i64 x2)::uU 27 [])),[(0,.row 2 (.int .i64) x3 [] false)]⟩
theorem F84_run (n:Nat) (a0:List (Run)):F84.run Pks qv5 n (a0,())=
 F84c1 n (a0):=by kernel_rfl
theorem F84c1_eq (n x0:_):F84c1 (n+1) x0=
 (F144.run qii Rkp 4000000 (x0,())).bind fun r0=>
  bif !r0.fst.fst then
   some (([],((4:Int),())),())
  else
   F84c5 n (x0) ((0:Int)) ([]):=by kernel_rfl
theorem F84c5_eq (n x0 x1 x2:_):F84c5 (n+1) x0 x1 x2=
 bif decide (x1<(↑x0.length:Int))then
  F84c8 n (x0) (x1) ((0:Int)) (x2)
 else
  some ((x2,((0:Int),())),()):=by kernel_rfl
theorem F84c8_eq (n x0 x1 x2 x3:_):F84c8 (n+1) x0 x1 x2 x3=
 if (0 :Int)<=x1 then
  if x1<(↑x0.length:Int)then
   bif decide (x2<(x0.getD x1.toNat q0v).count)then
    if (0:Int)<=x1 then
     if x1<(↑x0.length:Int)then
      if x3.length+(1:Nat)<=lim then
       F84c8 n (x0) (x1) (IntKind.i64.wrap (x2+(1:Int))) (x3++[(x0.getD x1.toNat q0v).value])
      else
       none
     else
      none
    else
     none
   else
    F84c5 n (x0) (IntKind.i64.wrap (x1+(1:Int))) (x3)
  else
   none
 else
  none:=by kernel_rfl
def F83c3 (n:Nat) (x0:List (Run)) (x1 x2:Int):=F83.at Pks Rke n 3 ⟨(.one (.data (.sl (.nm 5)) x0 [])::uU 2 (.one (.int .i64 x1)::.one (.int .i64 x2)::uU 14 [])),[]⟩
theorem F83_run (n:Nat) (a0:List (Run)):F83.run Pks Rke n (a0,())=
 F83c3 n (a0) ((0:Int)) ((0:Int)):=by kernel_rfl
theorem F83c3_eq (n x0 x1 x2:_):F83c3 (n+1) x0 x1 x2=
 bif decide (x2<(↑x0.length:Int))then
  if(0:Int)<=x2 then
   if x2<(↑x0.length:Int)then
    F83c3 n (x0) (IntKind.i64.wrap (x1+(x0.getD x2.toNat q0v).count)) (IntKind.i64.wrap (x2+(1:Int)))
   else
    none
  else
   none
 else
  some ((x1,()),()):=by kernel_rfl
theorem F141_run (n:Nat) (a0:Int):F141.run qci Rke n (a0,())=
 bif decide (a0.tmod (2:Int)=(0:Int))then
  some ((IntKind.i64.wrap (IntKind.u64.wrap (a0.tdiv (2:Int))),()),())
 else
  some ((IntKind.i64.wrap (IntKind.i64.wrap ((0:Int)-IntKind.i64.wrap (IntKind.u64.wrap (a0.tdiv (2:Int))))-(1:Int)),()),()):=by kernel_rfl
def F132c3 (n:Nat) (x0:List (Int)) (x1:Int):=F132.at Pkb Rkr n 3 ⟨(.one (.data (.sl (.int .u8)) x0 [])::.one (.int .i64 x1)::uU 61 []),[]⟩
def F132c6 (n:Nat) (x0:List (Int)) (x1 x2:Int) (x3 x4:Int):=F132.at Pkb Rkr n 6 ⟨(.one (.data (.sl (.int .u8)) x0 [])::.one (.int .i64 x1)::uU 5 (.one (.int .u64 x2)::.one (.int .u64 x3)::.one (.int .i64 x4)::uU 53 [])),[]⟩
def F132c11 (n:Nat) (x0:List (Int)) (x1 x2:Int) (x3 x4 x5:Int):=F132.at Pkb Rkr n 11 ⟨(.one (.data (.sl (.int .u8)) x0 [])::.one (.int .i64 x1)::uU 5 (.one (.int .u64 x2)::.one (.int .u64 x3)::.one (.int .i64 x4)::.one (.int .u8 x5)::uU 52 [])),[]⟩
theorem F132_run (n:Nat) (a0:List (Int)) (a1:Int):F132.run Pkb Rkr n (a0,a1,())=
 bif decide (a1<(0:Int))then
  some (((0:Int),((0:Int),((1:Int),()))),())
 else
  bif decide ((↑a0.length:Int)<a1)then
   some (((0:Int),((0:Int),((1:Int),()))),())
  else
   F132c3 n (a0) (a1):=by kernel_rfl
theorem F132c3_eq (n x0 x1:_):F132c3 (n+1) x0 x1=
 F132c6 n (x0) (x1) ((0:Int)) ((1:Int)) ((0:Int)):=by kernel_rfl
theorem F132c6_eq (n x0 x1 x2 x3 x4:_):F132c6 (n+1) x0 x1 x2 x3 x4=
 bif decide ((↑x0.length:Int)<=IntKind.i64.wrap (x1+x4))then
  some (((0:Int),((0:Int),((2:Int),()))),())
 else
  if (0 :Int)<=IntKind.i64.wrap (x1+x4)then
   if IntKind.i64.wrap (x1+x4)<(↑x0.length:Int)then
    bif decide (x4=(9:Int))then
     bif decide ((1:Int)<x0.getD (IntKind.i64.wrap (x1+x4)).toNat (0:Int))then
      some (((0:Int),((0:Int),((4:Int),()))),())
     else
      bif decide ((0:Int)<x4)then
       bif decide (x0.getD (IntKind.i64.wrap (x1+x4)).toNat (0:Int)=(0:Int))then
        some (((0:Int),((0:Int),((4:Int),()))),())
       else
        F132c11 n (x0) (x1) (x2) (x3) (x4) (x0.getD (IntKind.i64.wrap (x1+x4)).toNat (0:Int))
      else
       F132c11 n (x0) (x1) (x2) (x3) (x4) (x0.getD (IntKind.i64.wrap (x1+x4)).toNat (0:Int))
    else
     bif decide ((0:Int)<x4)then
      bif decide (x0.getD (IntKind.i64.wrap (x1+x4)).toNat (0:Int)=(0:Int))then
       some (((0:Int),((0:Int),((4:Int),()))),())
      else
       F132c11 n (x0) (x1) (x2) (x3) (x4) (x0.getD (IntKind.i64.wrap (x1+x4)).toNat (0:Int))
     else
      F132c11 n (x0) (x1) (x2) (x3) (x4) (x0.getD (IntKind.i64.wrap (x1+x4)).toNat (0:Int))
   else
    none
  else
   none:=by kernel_rfl
theorem F132c11_eq (n x0 x1 x2 x3 x4 x5:_):F132c11 (n+1) x0 x1 x2 x3 x4 x5=
 bif decide (x5<(128:Int))then
  some ((IntKind.u64.wrap (x2+IntKind.u64.wrap (IntKind.u64.wrap (x5.tmod (128:Int))*x3)),(IntKind.i64.wrap (IntKind.i64.wrap (x1+x4)+(1:Int)),((0:Int),()))),())
 else
  F132c6 n (x0) (x1) (IntKind.u64.wrap (x2+IntKind.u64.wrap (IntKind.u64.wrap (x5.tmod (128:Int))*x3))) (IntKind.u64.wrap (x3*(128:Int))) (IntKind.i64.wrap (x4+(1:Int))):=by kernel_rfl
def F82c1 (n:Nat) (x0:List (Int)) (x1:Int):=F82.at Pkb Rkk n 1 ⟨(.one (.data (.sl (.int .u8)) x0 [])::.one (.int .i64 x1)::uU 86 []),[]⟩
def F82c10 (n:Nat) (x0:List (Int)) (x1 x2:Int) (x3 x4 x5:Int) (x6:List (Run)):=F82.at Pkb Rkk n 10 ⟨(.one (.data (.sl (.int .u8)) x0 [])::uU 6 (.one (.int .u64 x1)::.one (.int .i64 x2)::uU 1 (.one (.own 0)::.one (.int .i64 x3)::.one (.int .u64 x4)::.one (.int .i64 x5)::uU 74 []))),[(0,.row 110 (.nm 5) x6 [] false)]⟩
def F82c17 (n:Nat) (x0:List (Int)) (x1 x2:Int) (x3 x4:Int) (x5 x6:Int) (x7:List (Run)):=F82.at Pkb Rkk n 17 ⟨(.one (.data (.sl (.int .u8)) x0 [])::uU 6 (.one (.int .u64 x1)::uU 2 (.one (.own 0)::.one (.int .i64 x2)::.one (.int .u64 x3)::.one (.int .i64 x4)::.one (.int .u64 x5)::.one (.int .i64 x6)::uU 72 []))),[(0,.row 110 (.nm 5) x7 [] false)]⟩
def F82c22 (n:Nat) (x0:List (Int)) (x1 x2:Int) (x3 x4:Int) (x5 x6 x7:Int) (x8:List (Run)):=F82.at Pkb Rkk n 22 ⟨(.one (.data (.sl (.int .u8)) x0 [])::uU 6 (.one (.int .u64 x1)::uU 2 (.one (.own 0)::.one (.int .i64 x2)::.one (.int .u64 x3)::.one (.int .i64 x4)::.one (.int .u64 x5)::uU 2 (.one (.int .u64 x6)::.one (.int .i64 x7)::uU 69 [])))),[(0,.row 110 (.nm 5) x8 [] false)]⟩
theorem F82_run (n:Nat) (a0:List (Int)) (a1:Int):F82.run Pkb Rkk n (a0,a1,())=
 F82c1 n (a0) (a1):=by kernel_rfl
theorem F82c1_eq (n x0 x1:_):F82c1 (n+1) x0 x1=
 (F132.run Pk5 Rk8 4000000 (x0,x1,())).bind fun r0=>
  bif !decide (r0.fst.snd.snd.fst=(0:Int))then
   some (([],((0:Int),(r0.fst.snd.snd.fst,()))),())
  else
   bif decide ((65536:Int)<r0.fst.fst)then
    some (([],((0:Int),((6:Int),()))),())
   else
    F82c10 n (x0) (r0.fst.fst) (r0.fst.snd.fst) ((0:Int)) ((65536:Int)) ((0:Int)) ([]):=by kernel_rfl
theorem F82c10_eq (n x0 x1 x2 x3 x4 x5 x6:_):F82c10 (n+1) x0 x1 x2 x3 x4 x5 x6=
 bif decide (x5<IntKind.i64.wrap x1)then
  (F132.run Pk5 Rk8 4000000 (x0,x2,())).bind fun r1=>
   bif !decide (r1.fst.snd.snd.fst=(0:Int))then
    some (([],((0:Int),(r1.fst.snd.snd.fst,()))),())
   else
    bif decide (r1.fst.fst=(0:Int))then
     bif decide ((0:Int)<x5)then
      some (([],((0:Int),((4:Int),()))),())
     else
      F82c17 n (x0) (x1) (x3) (x4) (x5) (r1.fst.fst) (r1.fst.snd.fst) (x6)
    else
     F82c17 n (x0) (x1) (x3) (x4) (x5) (r1.fst.fst) (r1.fst.snd.fst) (x6)
 else
  some ((x6,(x2,((0:Int),()))),()):=by kernel_rfl
theorem F82c17_eq (n x0 x1 x2 x3 x4 x5 x6 x7:_):F82c17 (n+1) x0 x1 x2 x3 x4 x5 x6 x7=
 (F132.run Pk5 Rk8 4000000 (x0,x6,())).bind fun r2=>
  bif !decide (r2.fst.snd.snd.fst=(0:Int))then
   some (([],((0:Int),(r2.fst.snd.snd.fst,()))),())
  else
   bif decide (r2.fst.fst=(0:Int))then
    some (([],((0:Int),((6:Int),()))),())
   else
    bif decide (x3<r2.fst.fst)then
     some (([],((0:Int),((6:Int),()))),())
    else
     F82c22 n (x0) (x1) (x2) (x3) (x4) (x5) (r2.fst.fst) (r2.fst.snd.fst) (x7):=by kernel_rfl
theorem F82c22_eq (n x0 x1 x2 x3 x4 x5 x6 x7 x8:_):F82c22 (n+1) x0 x1 x2 x3 x4 x5 x6 x7 x8=
 (F141.run Pk9 Rk6 4000000 (x5,())).bind fun r3=>
  if x8.length+(1:Nat)<=lim then
   F82c10 n (x0) (x1) (x7) (IntKind.i64.wrap (x2+r3.fst.fst)) (IntKind.u64.wrap (x3-x6)) (IntKind.i64.wrap (x4+(1:Int))) (x8++[{value:=IntKind.i64.wrap (x2+r3.fst.fst),count:=IntKind.i64.wrap x6:Run}])
  else
   none:=by kernel_rfl
def F143c1 (n:Nat) (x0:Int) (x1:List (Int)):=F143.at qvd ql6 n 1 ⟨(.one (.int .i64 x0)::.one (.data (.sl (.int .i64)) x1 [])::uU 26 []),[]⟩
def F143c3 (n:Nat) (x0:List (Int)) (x1:Int) (x2:List (Int)):=F143.at qvd ql6 n 3 ⟨(uU 1 (.one (.data (.sl (.int .i64)) x0 [])::uU 3 (.one (.own 0)::.one (.int .i64 x1)::uU 21 []))),[(0,.row 2 (.int .i64) x2 [] false)]⟩
theorem F143_run (n:Nat) (a0:Int) (a1:List (Int)):F143.run qvd ql6 n (a0,a1,())=
 F143c1 n (a0) (a1):=by kernel_rfl
theorem F143c1_eq (n x0 x1:_):F143c1 (n+1) x0 x1=
 F143c3 n (x1) ((0:Int)) ([x0]):=by kernel_rfl
theorem F143c3_eq (n x0 x1 x2:_):F143c3 (n+1) x0 x1 x2=
 bif decide (x1<(↑x0.length:Int))then
  if (0:Int)<=x1 then
   if x1<(↑x2.length:Int)then
    if (0:Int)<=x1 then
     if x1<(↑x0.length:Int)then
      if x2.length+(1:Nat)<=lim then
       F143c3 n (x0) (IntKind.i64.wrap (x1+(1:Int))) (x2++[IntKind.i64.wrap (x2.getD x1.toNat (0:Int)+x0.getD x1.toNat (0:Int))])
      else
       none
     else
      none
    else
     none
   else
    none
  else
   none
 else
  some ((x2,()),()):=by kernel_rfl
def F140c2 (n:Nat) (x0:List (Int)) (x1 x2:Int) (x3 x4:Int) (x5:List (Int)):=F140.at Pk1a qzd n 2 ⟨(.one (.data (.sl (.int .u8)) x0 [])::.one (.int .i64 x1)::.one (.int .i64 x2)::.one (.int .i64 x3)::.one (.own 904000)::uU 7 (.one (.int .i64 x4)::uU 56 [])),[(904000,.row 83 (.int .u64) x5 [] true)]⟩
def F140c12 (n:Nat) (x0:List (Int)) (x1 x2:Int) (x3 x4:Int) (x5:List (Int)):=F140.at Pk1a qzd n 12 ⟨(.one (.data (.sl (.int .u8)) x0 [])::uU 1 (.one (.int .i64 x1)::.one (.int .i64 x2)::.one (.own 904000)::uU 7 (.one (.int .i64 x3)::uU 4 (.one (.int .i64 x4)::uU 51 [])))),[(904000,.row 83 (.int .u64) x5 [] true)]⟩
theorem F140_run (n:Nat) (a0:List (Int)) (a1 a2 a3:Int) (a4:List (Int)):F140.run Pk1a qzd n (a0,a1,a2,a3,a4,())=
 F140c2 n (a0) (a1) (a2) (a3) ((0:Int)) (a4):=by kernel_rfl
theorem F140c2_eq (n x0 x1 x2 x3 x4 x5:_):F140c2 (n+1) x0 x1 x2 x3 x4 x5=
 bif decide (x4<x2)then
  (F132.run Pk5 Rk8 4000000 (x0,x1,())).bind fun r0=>
   bif !decide (r0.fst.snd.snd.fst=(0:Int))then
    some (((0:Int),(r0.fst.snd.snd.fst,())),(x5,()))
   else
    (F132.run Pk5 Rk8 4000000 (x0,r0.fst.snd.fst,())).bind fun r1=>
     bif !decide (r1.fst.snd.snd.fst=(0:Int))then
      some (((0:Int),(r1.fst.snd.snd.fst,())),(x5,()))
     else
      bif decide (r0.fst.fst<IntKind.u64.wrap (↑x5.length:Int))then
       bif decide (x3<(64:Int))then
        if (0:Int)<=IntKind.i64.wrap r0.fst.fst then
         if IntKind.i64.wrap r0.fst.fst<(↑x5.length:Int)then
          if (0:Int)<=IntKind.u64.wrap x3 then
           if(0:Int)<=IntKind.i64.wrap r0.fst.fst then
            if IntKind.i64.wrap r0.fst.fst<(↑x5.length:Int)then
             F140c12 n (x0) (x2) (x3) (x4) (r1.fst.snd.fst) (x5.set (IntKind.i64.wrap r0.fst.fst).toNat (bits BinOp.or IntKind.u64 (x5.getD (IntKind.i64.wrap r0.fst.fst).toNat (0:Int)) (IntKind.u64.wrap (r1.fst.fst*(2:Int)^min (IntKind.u64.wrap x3).toNat IntKind.u64.bits))))
            else
             none
           else
            none
          else
           none
         else
          none
        else
         none
       else
        F140c12 n (x0) (x2) (x3) (x4) (r1.fst.snd.fst) (x5)
      else
       F140c12 n (x0) (x2) (x3) (x4) (r1.fst.snd.fst) (x5)
 else
  some ((x1,((0:Int),())),(x5,())):=by kernel_rfl
theorem F140c12_eq (n x0 x1 x2 x3 x4 x5:_):F140c12 (n+1) x0 x1 x2 x3 x4 x5=
 F140c2 n (x0) (x4) (x1) (x2) (IntKind.i64.wrap (x3+(1:Int))) (x5):=by kernel_rfl
theorem F167_run (n:Nat) (a0:List (Int)) (a1:Int):F167.run Pkb qff n (a0,a1,())=
 if (0:Int)<=IntKind.i64.wrap (a1.tdiv (8:Int))then
  if IntKind.i64.wrap (a1.tdiv (8:Int))<(↑a0.length:Int)then
   if(0:Int)<=IntKind.u64.wrap (a1.tmod (8:Int))then
    some ((bits BinOp.and IntKind.u64 (IntKind.u64.wrap (a0.getD (IntKind.i64.wrap (a1.tdiv (8:Int))).toNat (0:Int)/(2:Int)^min (IntKind.u64.wrap (a1.tmod (8:Int))).toNat IntKind.u8.bits)) (1:Int),()),())
   else
    none
  else
   none
 else
  none:=by kernel_rfl
def F168c3 (n:Nat) (x0:List (Int)) (x1 x2:Int) (x3 x4:Int):=F168.at Pk0 qff n 3 ⟨(.one (.data (.sl (.int .u8)) x0 [])::.one (.int .i64 x1)::.one (.int .i64 x2)::uU 4 (.one (.int .u64 x3)::.one (.int .i64 x4)::uU 18 [])),[]⟩
theorem F168_run (n:Nat) (a0:List (Int)) (a1 a2:Int):F168.run Pk0 qff n (a0,a1,a2,())=
 F168c3 n (a0) (a1) (a2) ((0:Int)) ((0:Int)):=by kernel_rfl
theorem F168c3_eq (n x0 x1 x2 x3 x4:_):F168c3 (n+1) x0 x1 x2 x3 x4=
 bif decide (x4<x2)then
  (F167.run Pk5 Rkf 4000000 (x0,IntKind.i64.wrap (IntKind.i64.wrap (x1*x2)+x4),())).bind fun r0=>
   if(0:Int)<=IntKind.u64.wrap x4 then
    F168c3 n (x0) (x1) (x2) (bits BinOp.or IntKind.u64 x3 (IntKind.u64.wrap (r0.fst.fst*(2:Int)^min (IntKind.u64.wrap x4).toNat IntKind.u64.bits))) (IntKind.i64.wrap (x4+(1:Int)))
   else
    none
 else
  some ((x3,()),()):=by kernel_rfl
def F139c3 (n:Nat) (x0:List (Int)) (x1 x2:Int):=F139.at Pk0 qff n 3 ⟨(.one (.data (.sl (.int .u8)) x0 [])::.one (.int .i64 x1)::.one (.int .i64 x2)::uU 27 []),[]⟩
theorem F139_run (n:Nat) (a0:List (Int)) (a1 a2:Int):F139.run Pk0 qff n (a0,a1,a2,())=
 bif decide (a2<(1:Int))then
  some (((0:Int),()),())
 else
  bif decide ((64:Int)<a2)then
   some (((0:Int),()),())
  else
   bif decide (a1<(0:Int))then
    some (((0:Int),()),())
   else
    if a2=(0:Int)then
     none
    else
     bif decide (IntKind.i64.wrap ((IntKind.i64.wrap ((8:Int)*(↑a0.length:Int))).tdiv a2)<=a1)then
      some (((0:Int),()),())
     else
      F139c3 n (a0) (a1) (a2):=by kernel_rfl
theorem F139c3_eq (n x0 x1 x2:_):F139c3 (n+1) x0 x1 x2=
 (F168.run Pk2 Rkf 4000000 (x0,x1,x2,())).bind fun r0=>
  some ((r0.fst.fst,()),()):=by kernel_rfl
def F80c1 (n:Nat) (x0:List (Int)) (x1 x2:Int):=F80.at Pk0 Rk3 n 1 ⟨(.one (.data (.sl (.int .u8)) x0 [])::.one (.int .i64 x1)::.one (.int .i64 x2)::uU 161 []),[]⟩
def F80c3 (n:Nat) (x0:List (Int)) (x1 x2:Int):=F80.at Pk0 Rk3 n 3 ⟨(.one (.data (.sl (.int .u8)) x0 [])::.one (.int .i64 x1)::.one (.int .i64 x2)::uU 161 []),[]⟩
def F80c21 (n:Nat) (x0:List (Int)) (x1 x2:Int) (x3 x4:Int) (x5 x6:Int) (x7 x8:Int) (x9:List (Int)):=F80.at Pk0 Rk3 n 21 ⟨(.one (.data (.sl (.int .u8)) x0 [])::.one (.int .i64 x1)::.one (.int .i64 x2)::uU 6 (.one (.int .u64 x3)::.one (.int .i64 x4)::uU 1 (.one (.int .u64 x5)::.one (.int .u64 x6)::.one (.int .i64 x7)::.one (.own 0)::.one (.int .i64 x8)::uU 147 []))),[(0,.row 83 (.int .u64) x9 [] false)]⟩
def F80c30 (n:Nat) (x0:List (Int)) (x1 x2:Int) (x3 x4 x5:Int) (x6 x7:List (Int)):=F80.at Pk0 Rk3 n 30 ⟨(.one (.data (.sl (.int .u8)) x0 [])::.one (.int .i64 x1)::.one (.int .i64 x2)::uU 12 (.one (.own 0)::uU 1 (.one (.int .i64 x3)::.one (.int .u64 x4)::.one (.own 1)::.one (.int .i64 x5)::uU 143 []))),[(0,.row 83 (.int .u64) x6 [] false),(1,.row 2 (.int .i64) x7 [] false)]⟩
def F80c37 (n:Nat) (x0:List (Int)) (x1 x2 x3:Int) (x4 x5:List (Int)):=F80.at Pk0 Rk3 n 37 ⟨(.one (.data (.sl (.int .u8)) x0 [])::.one (.int .i64 x1)::uU 15 (.one (.int .i64 x2)::uU 1 (.one (.own 0)::uU 1 (.one (.own 1)::.one (.int .i64 x3)::uU 141 [])))),[(0,.row 2 (.int .i64) x4 [] false),(1,.row 5 (.int .u8) x5 [] false)]⟩
theorem F80_run (n:Nat) (a0:List (Int)) (a1 a2:Int):F80.run Pk0 Rk3 n (a0,a1,a2,())=
 F80c1 n (a0) (a1) (a2):=by kernel_rfl
theorem F80c1_eq (n x0 x1 x2:_):F80c1 (n+1) x0 x1 x2=
 bif decide (x1<(0:Int))then
  some (([],((0:Int),((1:Int),()))),())
 else
  bif decide ((↑x0.length:Int)<x1)then
   some (([],((0:Int),((1:Int),()))),())
  else
   bif decide (x2<(0:Int))then
    some (([],((0:Int),((1:Int),()))),())
   else
    bif decide ((65536:Int)<x2)then
     some (([],((0:Int),((1:Int),()))),())
    else
     F80c3 n (x0) (x1) (x2):=by kernel_rfl
theorem F80c3_eq (n x0 x1 x2:_):F80c3 (n+1) x0 x1 x2=
 (F132.run Pk5 Rk8 4000000 (x0,x1,())).bind fun r0=>
  bif !decide (r0.fst.snd.snd.fst=(0:Int))then
   some (([],((0:Int),(r0.fst.snd.snd.fst,()))),())
  else
   (F132.run Pk5 Rk8 4000000 (x0,r0.fst.snd.fst,())).bind fun r1=>
    bif !decide (r1.fst.snd.snd.fst=(0:Int))then
     some (([],((0:Int),(r1.fst.snd.snd.fst,()))),())
    else
     bif decide ((64:Int)<r1.fst.fst)then
      some (([],((0:Int),((4:Int),()))),())
     else
      (F132.run Pk5 Rk8 4000000 (x0,r1.fst.snd.fst,())).bind fun r2=>
       bif !decide (r2.fst.snd.snd.fst=(0:Int))then
        some (([],((0:Int),(r2.fst.snd.snd.fst,()))),())
       else
        bif decide (IntKind.u64.wrap x2<r2.fst.fst)then
         some (([],((0:Int),((4:Int),()))),())
        else
         (F136.run Pka Rk6 4000000 (x2,IntKind.i64.wrap r1.fst.fst,())).bind fun r3=>
          bif decide (IntKind.i64.wrap ((↑x0.length:Int)-r2.fst.snd.fst)<r3.fst.fst)then
           some (([],((0:Int),((2:Int),()))),())
          else
           F80c21 n (x0) (x1) (x2) (r0.fst.fst) (r2.fst.snd.fst) (r1.fst.fst) (r2.fst.fst) (r3.fst.fst) ((0:Int)) ([]):=by kernel_rfl
theorem F80c21_eq (n x0 x1 x2 x3 x4 x5 x6 x7 x8 x9:_):F80c21 (n+1) x0 x1 x2 x3 x4 x5 x6 x7 x8 x9=
 bif decide (x8<x2)then
  if (0:Int)<=x4 then
   if x4<=IntKind.i64.wrap (x4+x7)then
    if IntKind.i64.wrap (x4+x7)<=(↑x0.length:Int)then
     (F139.run Pk2 Rkf 4000000 (List.drop x4.toNat (List.take (IntKind.i64.wrap (x4+x7)).toNat x0),x8,IntKind.i64.wrap x5,())).bind fun r4=>
      if x9.length+(1:Nat)<=lim then
       F80c21 n (x0) (x1) (x2) (x3) (x4) (x5) (x6) (x7) (IntKind.i64.wrap (x8+(1:Int))) (x9++([r4.fst.fst]:List (Int)))
      else
       none
    else
     none
   else
    none
  else
   none
 else
  (F140.run Pk1u Rk25 4000000 (x0,IntKind.i64.wrap (x4+x7),IntKind.i64.wrap x6,IntKind.i64.wrap x5,x9,())).bind fun r5=>
   bif !decide (r5.fst.snd.fst=(0:Int))then
    some (([],((0:Int),(r5.fst.snd.fst,()))),())
   else
    (F141.run Pk9 Rk6 4000000 (x3,())).bind fun r6=>
     F80c30 n (x0) (x1) (x2) (r5.fst.fst) (IntKind.u64.wrap r6.fst.fst) ((0:Int)) (r5.snd.fst) ([]):=by kernel_rfl
theorem F80c30_eq (n x0 x1 x2 x3 x4 x5 x6 x7:_):F80c30 (n+1) x0 x1 x2 x3 x4 x5 x6 x7=
 bif decide (x5<x2)then
  if (0:Int)<=x5 then
   if x5<(↑x6.length:Int)then
    if x7.length+(1:Nat)<=lim then
     F80c30 n (x0) (x1) (x2) (x3) (x4) (IntKind.i64.wrap (x5+(1:Int))) (x6) (x7++[IntKind.i64.wrap (IntKind.u64.wrap (x4+x6.getD x5.toNat (0:Int)))])
    else
     none
   else
    none
  else
   none
 else
  (F64.run Pkc Rk1 4000000 (x7,())).bind fun r7=>
   bif !decide ((↑(List.length r7.fst.fst):Int)=IntKind.i64.wrap (x3-x1))then
    some (([],((0:Int),((4:Int),()))),())
   else
    F80c37 n (x0) (x1) (x3) ((0:Int)) (x7) (r7.fst.fst):=by kernel_rfl
theorem F80c37_eq (n x0 x1 x2 x3 x4 x5:_):F80c37 (n+1) x0 x1 x2 x3 x4 x5=
 bif decide (x3<(↑x5.length:Int))then
  if (0:Int)<=x3 then
   if x3<(↑x5.length:Int)then
    if (0:Int)<=IntKind.i64.wrap (x1+x3)then
     if IntKind.i64.wrap (x1+x3)<(↑x0.length:Int)then
      bif !decide (x5.getD x3.toNat (0:Int)=x0.getD (IntKind.i64.wrap (x1+x3)).toNat (0:Int))then
       some (([],((0:Int),((4:Int),()))),())
      else
       F80c37 n (x0) (x1) (x2) (IntKind.i64.wrap (x3+(1:Int))) (x4) (x5)
     else
      none
    else
     none
   else
    none
  else
   none
 else
  some ((x4,(x2,((0:Int),()))),()):=by kernel_rfl
def F142c1 (n:Nat) (x0:List (Int)) (x1 x2:Int):=F142.at Pk0 Rk3 n 1 ⟨(.one (.data (.sl (.int .u8)) x0 [])::.one (.int .i64 x1)::.one (.int .i64 x2)::uU 34 []),[]⟩
def F142c3 (n:Nat) (x0:List (Int)) (x1 x2 x3:Int) (x4:List (Int)):=F142.at Pk0 Rk3 n 3 ⟨(.one (.data (.sl (.int .u8)) x0 [])::.one (.int .i64 x1)::.one (.int .i64 x2)::uU 6 (.one (.own 0)::.one (.int .i64 x3)::uU 26 [])),[(0,.row 2 (.int .i64) x4 [] false)]⟩
theorem F142_run (n:Nat) (a0:List (Int)) (a1 a2:Int):F142.run Pk0 Rk3 n (a0,a1,a2,())=
 F142c1 n (a0) (a1) (a2):=by kernel_rfl
theorem F142c1_eq (n x0 x1 x2:_):F142c1 (n+1) x0 x1 x2=
 F142c3 n (x0) (x1) (x2) ((0:Int)) ([]):=by kernel_rfl
theorem F142c3_eq (n x0 x1 x2 x3 x4:_):F142c3 (n+1) x0 x1 x2 x3 x4=
 bif decide (x3<x2)then
  (F132.run Pk5 Rk8 4000000 (x0,x1,())).bind fun r0=>
   bif !decide (r0.fst.snd.snd.fst=(0:Int))then
    some (([],((0:Int),(r0.fst.snd.snd.fst,()))),())
   else
    (F141.run Pk9 Rk6 4000000 (r0.fst.fst,())).bind fun r1=>
     if x4.length+(1:Nat)<=lim then
      F142c3 n (x0) (r0.fst.snd.fst) (x2) (IntKind.i64.wrap (x3+(1:Int))) (x4++([r1.fst.fst]:List (Int)))
     else
      none
 else
  some ((x4,(x1,((0:Int),()))),()):=by kernel_rfl
def F81c1 (n:Nat) (x0:List (Int)) (x1 x2:Int):=F81.at Pk0 Rk3 n 1 ⟨(.one (.data (.sl (.int .u8)) x0 [])::.one (.int .i64 x1)::.one (.int .i64 x2)::uU 96 []),[]⟩
def F81c3 (n:Nat) (x0:List (Int)) (x1 x2:Int):=F81.at Pk0 Rk3 n 3 ⟨(.one (.data (.sl (.int .u8)) x0 [])::.one (.int .i64 x1)::.one (.int .i64 x2)::uU 96 []),[]⟩
def F81c8 (n:Nat) (x0:List (Int)) (x1 x2 x3:Int):=F81.at Pk0 Rk3 n 8 ⟨(.one (.data (.sl (.int .u8)) x0 [])::.one (.int .i64 x1)::.one (.int .i64 x2)::uU 6 (.one (.int .i64 x3)::uU 89 [])),[]⟩
def F81c16 (n:Nat) (x0:List (Int)) (x1 x2 x3:Int) (x4 x5:List (Int)):=F81.at Pk0 Rk3 n 16 ⟨(.one (.data (.sl (.int .u8)) x0 [])::.one (.int .i64 x1)::uU 8 (.one (.own 0)::uU 3 (.one (.int .i64 x2)::.one (.own 1)::.one (.int .i64 x3)::uU 82 []))),[(0,.row 2 (.int .i64) x4 [] false),(1,.row 2 (.int .i64) x5 [] false)]⟩
theorem F81_run (n:Nat) (a0:List (Int)) (a1 a2:Int):F81.run Pk0 Rk3 n (a0,a1,a2,())=
 F81c1 n (a0) (a1) (a2):=by kernel_rfl
theorem F81c1_eq (n x0 x1 x2:_):F81c1 (n+1) x0 x1 x2=
 bif decide (x2<(0:Int))then
  some (([],((0:Int),((1:Int),()))),())
 else
  bif decide ((65536:Int)<x2)then
   some (([],((0:Int),((1:Int),()))),())
  else
   bif decide (x1<(0:Int))then
    some (([],((0:Int),((1:Int),()))),())
   else
    F81c3 n (x0) (x1) (x2):=by kernel_rfl
theorem F81c3_eq (n x0 x1 x2:_):F81c3 (n+1) x0 x1 x2=
 bif decide ((↑x0.length:Int)<=x1)then
  some (([],((0:Int),((2:Int),()))),())
 else
  if (0:Int)<=x1 then
   if x1<(↑x0.length:Int)then
    bif !decide (IntKind.i64.wrap (x0.getD x1.toNat (0:Int))=(1:Int))then
     bif !decide (IntKind.i64.wrap (x0.getD x1.toNat (0:Int))=(2:Int))then
      some (([],((0:Int),((4:Int),()))),())
     else
      bif decide (x2<(2:Int))then
       some (([],((0:Int),((4:Int),()))),())
      else
       F81c8 n (x0) (x1) (x2) (IntKind.i64.wrap (x0.getD x1.toNat (0:Int)))
    else
     F81c8 n (x0) (x1) (x2) (IntKind.i64.wrap (x0.getD x1.toNat (0:Int)))
   else
    none
  else
   none:=by kernel_rfl
theorem F81c8_eq (n x0 x1 x2 x3:_):F81c8 (n+1) x0 x1 x2 x3=
 (F142.run Pk2 Rki 4000000 (x0,IntKind.i64.wrap (x1+(1:Int)),q9f x3 x2,())).bind fun r0=>
  bif !decide (r0.fst.snd.snd.fst=(0:Int))then
   some (([],((0:Int),(r0.fst.snd.snd.fst,()))),())
  else
   (F80.run Pk2 Rki 4000000 (x0,r0.fst.snd.fst,qyl (IntKind.i64.wrap (x2-x3)) (0:Int),())).bind fun r1=>
    bif !decide (r1.fst.snd.snd.fst=(0:Int))then
     some (([],((0:Int),(r1.fst.snd.snd.fst,()))),())
    else
     F81c16 n (x0) (x1) (r1.fst.snd.fst) (IntKind.i64.wrap ((↑(List.length r0.fst.fst):Int)-(1:Int))) (r0.fst.fst) (r1.fst.fst):=by kernel_rfl
theorem F81c16_eq (n x0 x1 x2 x3 x4 x5:_):F81c16 (n+1) x0 x1 x2 x3 x4 x5=
 bif decide ((0:Int)<=x3)then
  if (0:Int)<=x3 then
   if x3<(↑x4.length:Int)then
    (F143.run Pk1o qn3 4000000 (x4.getD x3.toNat (0:Int),x5,())).bind fun r2=>
     F81c16 n (x0) (x1) (x2) (IntKind.i64.wrap (x3-(1:Int))) (x4) (r2.fst.fst)
   else
    none
  else
   none
 else
  (F65.run Pkc Rk1 4000000 (x5,())).bind fun r3=>
   if (0:Int)<=x1 then
    if x1<=x2 then
     if x2<=(↑x0.length:Int)then
      bif !decide (List.map Eng.q0p r3.fst.fst=List.map Eng.q0p (List.drop x1.toNat (List.take x2.toNat x0)))then
       some (([],((0:Int),((4:Int),()))),())
      else
       some ((x5,(x2,((0:Int),()))),())
     else
      none
    else
     none
   else
    none:=by kernel_rfl
def F138c3 (n:Nat) (x0:List (Int)) (x1 x2:Int):=F138.at Pk0 qxe n 3 ⟨(.one (.data (.sl (.int .u8)) x0 [])::.one (.int .i64 x1)::.one (.int .i64 x2)::uU 46 []),[]⟩
def F138c7 (n:Nat) (x0:List (Int)) (x1 x2 x3:Int):=F138.at Pk0 qxe n 7 ⟨(.one (.data (.sl (.int .u8)) x0 [])::.one (.int .i64 x1)::uU 6 (.one (.int .u64 x2)::.one (.int .i64 x3)::uU 39 [])),[]⟩
theorem F138_run (n:Nat) (a0:List (Int)) (a1 a2:Int):F138.run Pk0 qxe n (a0,a1,a2,())=
 bif decide (a2<(1:Int))then
  some (((0:Int),((1:Int),())),())
 else
  bif decide ((8:Int)<a2)then
   some (((0:Int),((1:Int),())),())
  else
   bif decide (a1<(0:Int))then
    some (((0:Int),((1:Int),())),())
   else
    bif decide ((↑a0.length:Int)<a1)then
     some (((0:Int),((1:Int),())),())
    else
     F138c3 n (a0) (a1) (a2):=by kernel_rfl
theorem F138c3_eq (n x0 x1 x2:_):F138c3 (n+1) x0 x1 x2=
 bif decide (IntKind.i64.wrap ((↑x0.length:Int)-x1)<x2)then
  some (((0:Int),((2:Int),())),())
 else
  F138c7 n (x0) (x1) ((0:Int)) (IntKind.i64.wrap (x2-(1:Int))):=by kernel_rfl
theorem F138c7_eq (n x0 x1 x2 x3:_):F138c7 (n+1) x0 x1 x2 x3=
 bif decide ((0:Int)<=x3)then
  if(0:Int)<=IntKind.i64.wrap (x1+x3)then
   if IntKind.i64.wrap (x1+x3)<(↑x0.length:Int)then
    F138c7 n (x0) (x1) (IntKind.u64.wrap (IntKind.u64.wrap (x2*(256:Int))+IntKind.u64.wrap (x0.getD (IntKind.i64.wrap (x1+x3)).toNat (0:Int)))) (IntKind.i64.wrap (x3-(1:Int)))
   else
    none
  else
   none
 else
  some ((x2,((0:Int),())),()):=by kernel_rfl
def F137c1 (n:Nat) (x0:List (Int)) (x1 x2:Int):=F137.at Pk0 qv4 n 1 ⟨(.one (.data (.sl (.int .u8)) x0 [])::.one (.int .i64 x1)::.one (.int .i64 x2)::uU 51 []),[]⟩
def F137c8 (n:Nat) (x0:List (Int)) (x1 x2 x3:Int):=F137.at Pk0 qv4 n 8 ⟨(.one (.data (.sl (.int .u8)) x0 [])::.one (.int .i64 x1)::.one (.int .i64 x2)::uU 5 (.one (.int .i64 x3)::uU 45 [])),[]⟩
def F137c14 (n:Nat) (x0:List (Int)) (x1 x2 x3:Int) (x4:List (Int)):=F137.at Pk0 qv4 n 14 ⟨(.one (.data (.sl (.int .u8)) x0 [])::.one (.int .i64 x1)::.one (.int .i64 x2)::uU 6 (.one (.own 0)::.one (.int .i64 x3)::uU 43 [])),[(0,.row 83 (.int .u64) x4 [] false)]⟩
theorem F137_run (n:Nat) (a0:List (Int)) (a1 a2:Int):F137.run Pk0 qv4 n (a0,a1,a2,())=
 F137c1 n (a0) (a1) (a2):=by kernel_rfl
theorem F137c1_eq (n x0 x1 x2:_):F137c1 (n+1) x0 x1 x2=
 (F157.run Pka Rkp 4000000 (x1,x2,())).bind fun r0=>
  bif !r0.fst.fst then
   some (([],((1:Int),())),())
  else
   (F136.run Pka Rk6 4000000 (x1,x2,())).bind fun r1=>
    bif decide ((↑x0.length:Int)<r1.fst.fst)then
     some (([],((2:Int),())),())
    else
     (F136.run Pka Rk6 4000000 (x1,x2,())).bind fun r2=>
      bif decide (r2.fst.fst<(↑x0.length:Int))then
       some (([],((3:Int),())),())
      else
       F137c8 n (x0) (x1) (x2) (IntKind.i64.wrap (x1*x2)):=by kernel_rfl
theorem F137c8_eq (n x0 x1 x2 x3:_):F137c8 (n+1) x0 x1 x2 x3=
 bif decide (x3<IntKind.i64.wrap ((8:Int)*(↑x0.length:Int)))then
  (F167.run Pk5 Rkf 4000000 (x0,x3,())).bind fun r3=>
   bif decide (r3.fst.fst=(1:Int))then
    some (([],((4:Int),())),())
   else
    F137c8 n (x0) (x1) (x2) (IntKind.i64.wrap (x3+(1:Int)))
 else
  F137c14 n (x0) (x1) (x2) ((0:Int)) ([]):=by kernel_rfl
theorem F137c14_eq (n x0 x1 x2 x3 x4:_):F137c14 (n+1) x0 x1 x2 x3 x4=
 bif decide (x3<x1)then
  (F168.run Pk2 Rkf 4000000 (x0,x3,x2,())).bind fun r4=>
   if x4.length+(1:Nat)<=lim then
    F137c14 n (x0) (x1) (x2) (IntKind.i64.wrap (x3+(1:Int))) (x4++([r4.fst.fst]:List (Int)))
   else
    none
 else
  some ((x4,((0:Int),())),()):=by kernel_rfl
def F79c1 (n:Nat) (x0:List (Int)) (x1 x2 x3:Int):=F79.at Pkg Rk3 n 1 ⟨(.one (.data (.sl (.int .u8)) x0 [])::.one (.int .i64 x1)::.one (.int .i64 x2)::.one (.int .i64 x3)::uU 82 []),[]⟩
def F79c4 (n:Nat) (x0:List (Int)) (x1 x2:Int) (x3 x4:Int):=F79.at Pkg Rk3 n 4 ⟨(.one (.data (.sl (.int .u8)) x0 [])::.one (.int .i64 x1)::.one (.int .i64 x2)::.one (.int .i64 x3)::uU 7 (.one (.int .i64 x4)::uU 74 [])),[]⟩
def F79c10 (n:Nat) (x0 x1:Int) (x2 x3:Int) (x4 x5:List (Int)):=F79.at Pkg Rk3 n 10 ⟨(uU 1 (.one (.int .i64 x0)::uU 9 (.one (.int .i64 x1)::.one (.own 0)::.one (.own 1)::.one (.int .i64 x2)::.one (.int .i64 x3)::uU 70 []))),[(0,.row 2 (.int .i64) x4 [] false),(1,.row 83 (.int .u64) x5 [] false)]⟩
def F79c15 (n:Nat) (x0:List (Int)) (x1 x2:Int) (x3 x4:Int) (x5:List (Int)):=F79.at Pkg Rk3 n 15 ⟨(.one (.data (.sl (.int .u8)) x0 [])::.one (.int .i64 x1)::uU 1 (.one (.int .i64 x2)::uU 7 (.one (.int .i64 x3)::.one (.own 0)::uU 3 (.one (.int .i64 x4)::uU 69 [])))),[(0,.row 2 (.int .i64) x5 [] false)]⟩
theorem F79_run (n:Nat) (a0:List (Int)) (a1 a2 a3:Int):F79.run Pkg Rk3 n (a0,a1,a2,a3,())=
 F79c1 n (a0) (a1) (a2) (a3):=by kernel_rfl
theorem F79c1_eq (n x0 x1 x2 x3:_):F79c1 (n+1) x0 x1 x2 x3=
 bif decide (x2=(1:Int))then
  (F136.run Pka Rk6 4000000 (x3,(1:Int),())).bind fun r0=>
   F79c4 n (x0) (x1) (x2) (x3) (r0.fst.fst)
 else
  F79c4 n (x0) (x1) (x2) (x3) (IntKind.i64.wrap ((8:Int)*x3)):=by kernel_rfl
theorem F79c4_eq (n x0 x1 x2 x3 x4:_):F79c4 (n+1) x0 x1 x2 x3 x4=
 bif decide (IntKind.i64.wrap ((↑x0.length:Int)-x1)<x4)then
  some (([],((0:Int),((2:Int),()))),())
 else
  bif decide (x2=(1:Int))then
   if (0:Int)<=x1 then
    if x1<=IntKind.i64.wrap (x1+x4)then
     if IntKind.i64.wrap (x1+x4)<=(↑x0.length:Int)then
      (F137.run Pk2 Rk1n 4000000 (List.drop x1.toNat (List.take (IntKind.i64.wrap (x1+x4)).toNat x0),x3,(1:Int),())).bind fun r1=>
       F79c10 n (x1) (x4) (r1.fst.snd.fst) ((0:Int)) ([]) (r1.fst.fst)
     else
      none
    else
     none
   else
    none
  else
   F79c15 n (x0) (x1) (x3) (x4) ((0:Int)) ([]):=by kernel_rfl
theorem F79c10_eq (n x0 x1 x2 x3 x4 x5:_):F79c10 (n+1) x0 x1 x2 x3 x4 x5=
 bif decide (x3<(↑x5.length:Int))then
  if (0:Int)<=x3 then
   if x3<(↑x5.length:Int)then
    if x4.length+(1:Nat)<=lim then
     F79c10 n (x0) (x1) (x2) (IntKind.i64.wrap (x3+(1:Int))) (x4++[IntKind.i64.wrap (x5.getD x3.toNat (0:Int))]) (x5)
    else
     none
   else
    none
  else
   none
 else
  some ((x4,(IntKind.i64.wrap (x0+x1),(x2,()))),()):=by kernel_rfl
theorem F79c15_eq (n x0 x1 x2 x3 x4 x5:_):F79c15 (n+1) x0 x1 x2 x3 x4 x5=
 bif decide (x4<x2)then
  (F138.run Pk2 Rk2w 4000000 (x0,IntKind.i64.wrap (x1+IntKind.i64.wrap ((8:Int)*x4)),(8:Int),())).bind fun r2=>
   if x5.length+(1:Nat)<=lim then
    F79c15 n (x0) (x1) (x2) (x3) (IntKind.i64.wrap (x4+(1:Int))) (x5++[IntKind.i64.wrap r2.fst.fst])
   else
    none
 else
  some ((x5,(IntKind.i64.wrap (x1+x3),((0:Int),()))),()):=by kernel_rfl
def F42c1 (n:Nat) (x0:List (Int)) (x1 x2:Int):=F42.at Pk0 Rk3 n 1 ⟨(.one (.data (.sl (.int .u8)) x0 [])::.one (.int .i64 x1)::.one (.int .i64 x2)::uU 60 []),[]⟩
theorem F42_run (n:Nat) (a0:List (Int)) (a1 a2:Int):F42.run Pk0 Rk3 n (a0,a1,a2,())=
 F42c1 n (a0) (a1) (a2):=by kernel_rfl
theorem F42c1_eq (n x0 x1 x2:_):F42c1 (n+1) x0 x1 x2=
 if (0 : Int)<(↑x0.length:Int)then
  bif decide (IntKind.i64.wrap (x0.getD (Int.toNat (0:Int)) (0:Int))=(0:Int))then
   (F79.run Pkl Rki 4000000 (x0,(1:Int),x1,x2,())).bind fun r0=>
    some ((r0.fst.fst,(r0.fst.snd.fst,(r0.fst.snd.snd.fst,()))),())
  else
   bif decide (IntKind.i64.wrap (x0.getD (Int.toNat (0:Int)) (0:Int))=(2:Int))then
    (F80.run Pk2 Rki 4000000 (x0,(1:Int),x2,())).bind fun r1=>
     some ((r1.fst.fst,(r1.fst.snd.fst,(r1.fst.snd.snd.fst,()))),())
   else
    bif decide (IntKind.i64.wrap (x0.getD (Int.toNat (0:Int)) (0:Int))=(3:Int))then
     (F81.run Pk2 Rki 4000000 (x0,(1:Int),x2,())).bind fun r2=>
      some ((r2.fst.fst,(r2.fst.snd.fst,(r2.fst.snd.snd.fst,()))),())
    else
     (F82.run Pk5 Rk1r 4000000 (x0,(1:Int),())).bind fun r3=>
      bif !decide (r3.fst.snd.snd.fst=(0:Int))then
       some (([],((0:Int),(r3.fst.snd.snd.fst,()))),())
      else
       (F83.run qii Rk6 4000000 (r3.fst.fst,())).bind fun r4=>
        bif !decide (r4.fst.fst=x2)then
         some (([],((0:Int),((18:Int),()))),())
        else
         (F84.run qii Rk28 4000000 (r3.fst.fst,())).bind fun r5=>
          some ((r5.fst.fst,(r3.fst.snd.fst,(r5.fst.snd.fst,()))),())
 else
  none:=by kernel_rfl
def F135c6 (n:Nat) (x0:List (Int)) (x1:Int) (x2:List Int) (x3 x4:Int):=F135.at Pkz qzc n 6 ⟨(.one (.data (.sl (.int .u8)) x0 [])::uU 1 (.one (.int .i64 x1)::.one (.str x2)::uU 7 (.one (.int .u64 x3)::.one (.int .i64 x4)::uU 72 []))),[]⟩
theorem F135_run (n:Nat) (a0:List (Int)) (a1 a2:Int) (a3:List Int):F135.run Pkz qzc n (a0,a1,a2,a3,())=
 (F132.run Pk5 Rk8 4000000 (a0,a1,())).bind fun r0=>
  bif !decide (r0.fst.snd.snd.fst=(0:Int))then
   some (([],((0:Int),(r0.fst.snd.snd.fst,()))),())
  else
   bif decide (a2.tmod (16:Int)=(0:Int))then
    bif !decide (r0.fst.fst=(0:Int))then
     some (([],((0:Int),((4:Int),()))),())
    else
     bif decide (IntKind.u64.wrap (↑a3.length:Int)<r0.fst.fst)then
      some (([],((0:Int),((4:Int),()))),())
     else
      F135c6 n (a0) (a2) (a3) (r0.fst.fst) (r0.fst.snd.fst)
   else
    bif decide (IntKind.u64.wrap (↑a3.length:Int)<r0.fst.fst)then
     some (([],((0:Int),((4:Int),()))),())
    else
     F135c6 n (a0) (a2) (a3) (r0.fst.fst) (r0.fst.snd.fst):=by kernel_rfl
theorem F135c6_eq (n x0 x1 x2 x3 x4:_):F135c6 (n+1) x0 x1 x2 x3 x4=
 (F132.run Pk5 Rk8 4000000 (x0,x4,())).bind fun r1=>
  bif !decide (r1.fst.snd.snd.fst=(0:Int))then
   some (([],((0:Int),(r1.fst.snd.snd.fst,()))),())
  else
   bif decide (IntKind.u64.wrap (IntKind.i64.wrap ((↑x0.length:Int)-r1.fst.snd.fst))<r1.fst.fst)then
    some (([],((0:Int),((2:Int),()))),())
   else
    if (0 : Int)<=IntKind.i64.wrap x3 then
     if IntKind.i64.wrap x3<=(↑x2.length:Int)then
      if (0 :Int)<=r1.fst.snd.fst then
       if r1.fst.snd.fst<=IntKind.i64.wrap (r1.fst.snd.fst+IntKind.i64.wrap r1.fst.fst)then
        if IntKind.i64.wrap (r1.fst.snd.fst+IntKind.i64.wrap r1.fst.fst)<=(↑x0.length:Int)then
         if (List.drop (Int.toNat (0:Int)) (List.take (IntKind.i64.wrap x3).toNat x2)).length+(List.map Eng.q0p (List.drop (Int.toNat r1.fst.snd.fst) (List.take (IntKind.i64.wrap (r1.fst.snd.fst+IntKind.i64.wrap r1.fst.fst)).toNat x0))).length<=lim then
          bif !decide (x1.tmod (16:Int)=(0:Int))then
           (F164.run qxd Rk6 4000000 (x2,List.drop (Int.toNat (0:Int)) (List.take (IntKind.i64.wrap x3).toNat x2)++List.map Eng.q0p (List.drop (Int.toNat r1.fst.snd.fst) (List.take (IntKind.i64.wrap (r1.fst.snd.fst+IntKind.i64.wrap r1.fst.fst)).toNat x0)),())).bind fun r2=>
            bif !decide (r2.fst.fst=IntKind.i64.wrap x3)then
             some (([],((0:Int),((4:Int),()))),())
            else
             some ((List.drop (Int.toNat (0:Int)) (List.take (IntKind.i64.wrap x3).toNat x2)++List.map Eng.q0p (List.drop (Int.toNat r1.fst.snd.fst) (List.take (IntKind.i64.wrap (r1.fst.snd.fst+IntKind.i64.wrap r1.fst.fst)).toNat x0)),(IntKind.i64.wrap (r1.fst.snd.fst+IntKind.i64.wrap r1.fst.fst),((0:Int),()))),())
          else
           some ((List.drop (Int.toNat (0:Int)) (List.take (IntKind.i64.wrap x3).toNat x2)++List.map Eng.q0p (List.drop (Int.toNat r1.fst.snd.fst) (List.take (IntKind.i64.wrap (r1.fst.snd.fst+IntKind.i64.wrap r1.fst.fst)).toNat x0)),(IntKind.i64.wrap (r1.fst.snd.fst+IntKind.i64.wrap r1.fst.fst),((0:Int),()))),())
         else
          none
        else
         none
       else
        none
      else
       none
     else
      none
    else
     none:=by kernel_rfl
def F78c1 (n:Nat) (x0:List (Int)) (x1 x2:Int):=F78.at Pk0 Rk7 n 1 ⟨(.one (.data (.sl (.int .u8)) x0 [])::.one (.int .i64 x1)::.one (.int .i64 x2)::uU 53 []),[]⟩
def F78c3 (n:Nat) (x0:List (Int)) (x1 x2:Int):=F78.at Pk0 Rk7 n 3 ⟨(.one (.data (.sl (.int .u8)) x0 [])::.one (.int .i64 x1)::.one (.int .i64 x2)::uU 53 []),[]⟩
def F78c6 (n:Nat) (x0:List (Int)) (x1 x2:Int) (x3:List Int) (x4:Int) (x5:List (List Int)):=F78.at Pk0 Rk7 n 6 ⟨(.one (.data (.sl (.int .u8)) x0 [])::.one (.int .i64 x1)::.one (.int .i64 x2)::uU 6 (.one (.own 0)::.one (.str x3)::.one (.int .i64 x4)::uU 44 [])),[(0,.row 9 .str x5 [] false)]⟩
theorem F78_run (n:Nat) (a0:List (Int)) (a1 a2:Int):F78.run Pk0 Rk7 n (a0,a1,a2,())=
 F78c1 n (a0) (a1) (a2):=by kernel_rfl
theorem F78c1_eq (n x0 x1 x2:_):F78c1 (n+1) x0 x1 x2=
 bif decide (x1<(0:Int))then
  some (([],((0:Int),((1:Int),()))),())
 else
  bif decide ((↑x0.length:Int)<x1)then
   some (([],((0:Int),((1:Int),()))),())
  else
   bif decide (x2<(0:Int))then
    some (([],((0:Int),((1:Int),()))),())
   else
    bif decide ((65536:Int)<x2)then
     some (([],((0:Int),((1:Int),()))),())
    else
     F78c3 n (x0) (x1) (x2):=by kernel_rfl
theorem F78c3_eq (n x0 x1 x2:_):F78c3 (n+1) x0 x1 x2=
 F78c6 n (x0) (x1) (x2) ([]) ((0:Int)) ([]):=by kernel_rfl
theorem F78c6_eq (n x0 x1 x2 x3 x4 x5:_):F78c6 (n+1) x0 x1 x2 x3 x4 x5=
 bif decide (x4<x2)then
  (F135.run Pk2b Rk2u 4000000 (x0,x1,x4,x3,())).bind fun r0=>
   bif !decide (r0.fst.snd.snd.fst=(0:Int))then
    some (([],((0:Int),(r0.fst.snd.snd.fst,()))),())
   else
    if x5.length+(1:Nat)<=lim then
     F78c6 n (x0) (r0.fst.snd.fst) (x2) (r0.fst.fst) (IntKind.i64.wrap (x4+(1:Int))) (x5++([r0.fst.fst]:List (List Int)))
    else
     none
 else
  some ((x5,(x1,((0:Int),()))),()):=by kernel_rfl
def F134c1 (n:Nat) (x0:List (Int)) (x1 x2 x3:Int):=F134.at Pkg Rko n 1 ⟨(.one (.data (.sl (.int .u8)) x0 [])::.one (.int .i64 x1)::.one (.int .i64 x2)::.one (.int .i64 x3)::uU 99 []),[]⟩
def F134c19 (n:Nat) (x0 x1:Int) (x2 x3:List (Int)):=F134.at Pkg Rko n 19 ⟨(uU 15 (.one (.int .i64 x0)::uU 1 (.one (.own 0)::uU 1 (.one (.own 1)::.one (.int .i64 x1)::uU 82 [])))),[(0,.row 2 (.int .i64) x2 [] false),(1,.row 83 (.int .u64) x3 [] false)]⟩
theorem F134_run (n:Nat) (a0:List (Int)) (a1 a2 a3:Int):F134.run Pkg Rko n (a0,a1,a2,a3,())=
 F134c1 n (a0) (a1) (a2) (a3):=by kernel_rfl
theorem F134c1_eq (n x0 x1 x2 x3:_):F134c1 (n+1) x0 x1 x2 x3=
 bif decide (x1=(↑x0.length:Int))then
  some (([],((0:Int),((2:Int),()))),())
 else
  if (0 : Int) <=x1 then
   if x1 < (↑x0.length:Int)then
    bif decide ((1:Int)<x0.getD x1.toNat (0:Int))then
     some (([],((0:Int),((4:Int),()))),())
    else
     if (0 : Int)<=x1 then
      if x1 < (↑x0.length:Int)then
       bif decide (x0.getD x1.toNat (0:Int)=(0:Int))then
        (F116.run Pkx Rk6 4000000 (x3,())).bind fun r0=>
         (F136.run Pka Rk6 4000000 (x2,r0.fst.fst,())).bind fun r1=>
          bif decide (IntKind.i64.wrap (IntKind.i64.wrap ((↑x0.length:Int)-x1)-(1:Int))<r1.fst.fst)then
           some (([],((0:Int),((2:Int),()))),())
          else
           if (0:Int)<=IntKind.i64.wrap (x1+(1:Int))then
            if IntKind.i64.wrap (x1+(1:Int))<=IntKind.i64.wrap (IntKind.i64.wrap (x1+(1:Int))+r1.fst.fst)then
             if IntKind.i64.wrap (IntKind.i64.wrap (x1+(1:Int))+r1.fst.fst)<=(↑x0.length:Int)then
              (F116.run Pkx Rk6 4000000 (x3,())).bind fun r2=>
               (F137.run Pk2 Rk1n 4000000 (List.drop (IntKind.i64.wrap (x1+(1:Int))).toNat (List.take (IntKind.i64.wrap (IntKind.i64.wrap (x1+(1:Int))+r1.fst.fst)).toNat x0),x2,r2.fst.fst,())).bind fun r3=>
                some ((r3.fst.fst,(IntKind.i64.wrap (IntKind.i64.wrap (x1+(1:Int))+r1.fst.fst),(r3.fst.snd.fst,()))),())
             else
              none
            else
             none
           else
            none
       else
        (F82.run Pk5 Rk1r 4000000 (x0,IntKind.i64.wrap (x1+(1:Int)),())).bind fun r4=>
         bif !decide (r4.fst.snd.snd.fst=(0:Int))then
          some (([],((0:Int),(r4.fst.snd.snd.fst,()))),())
         else
          (F84.run qii Rk28 4000000 (r4.fst.fst,())).bind fun r5=>
           bif !decide ((↑(List.length r5.fst.fst):Int)=x2)then
            some (([],((0:Int),((18:Int),()))),())
           else
            F134c19 n (r4.fst.snd.fst) ((0:Int)) (r5.fst.fst) ([])
      else
       none
     else
      none
   else
    none
  else
   none:=by kernel_rfl
theorem F134c19_eq (n x0 x1 x2 x3:_):F134c19 (n+1) x0 x1 x2 x3=
 bif decide (x1<(↑x2.length:Int))then
  if (0:Int)<=x1 then
   if x1<(↑x2.length:Int)then
    if x3.length+(1:Nat)<=lim then
     F134c19 n (x0) (IntKind.i64.wrap (x1+(1:Int))) (x2) (x3++[IntKind.u64.wrap (x2.getD x1.toNat (0:Int))])
    else
     none
   else
    none
  else
   none
 else
  some ((x3,(x0,((0:Int),()))),()):=by kernel_rfl
def F133c1 (n:Nat) (x0:List (Int)) (x1 x2:Int):=F133.at Pk0 Rk7 n 1 ⟨(.one (.data (.sl (.int .u8)) x0 [])::.one (.int .i64 x1)::.one (.int .i64 x2)::uU 83 []),[]⟩
def F133c8 (n:Nat) (x0:List (Int)) (x1 x2 x3:Int) (x4:List (List Int)):=F133.at Pk0 Rk7 n 8 ⟨(.one (.data (.sl (.int .u8)) x0 [])::uU 8 (.one (.int .u64 x1)::.one (.int .i64 x2)::uU 1 (.one (.own 0)::.one (.int .i64 x3)::uU 72 []))),[(0,.row 9 .str x4 [] false)]⟩
def F133c20 (n:Nat) (x0:List (Int)) (x1 x2:Int) (x3 x4:Int) (x5:List Int) (x6:List (List Int)):=F133.at Pk0 Rk7 n 20 ⟨(.one (.data (.sl (.int .u8)) x0 [])::uU 8 (.one (.int .u64 x1)::uU 2 (.one (.own 0)::.one (.int .i64 x2)::.one (.int .u64 x3)::.one (.int .i64 x4)::uU 1 (.one (.str x5)::uU 68 [])))),[(0,.row 9 .str x6 [] false)]⟩
theorem F133_run (n:Nat) (a0:List (Int)) (a1 a2:Int):F133.run Pk0 Rk7 n (a0,a1,a2,())=
 F133c1 n (a0) (a1) (a2):=by kernel_rfl
theorem F133c1_eq (n x0 x1 x2:_):F133c1 (n+1) x0 x1 x2=
 (F132.run Pk5 Rk8 4000000 (x0,x1,())).bind fun r0=>
  bif !decide (r0.fst.snd.snd.fst=(0:Int))then
   some (([],((0:Int),(r0.fst.snd.snd.fst,()))),())
  else
   bif decide (IntKind.u64.wrap x2<r0.fst.fst)then
    some (([],((0:Int),((6:Int),()))),())
   else
    F133c8 n (x0) (r0.fst.fst) (r0.fst.snd.fst) ((0:Int)) ([]):=by kernel_rfl
theorem F133c8_eq (n x0 x1 x2 x3 x4:_):F133c8 (n+1) x0 x1 x2 x3 x4=
 bif decide (x3<IntKind.i64.wrap x1)then
  (F132.run Pk5 Rk8 4000000 (x0,x2,())).bind fun r1=>
   bif !decide (r1.fst.snd.snd.fst=(0:Int))then
    some (([],((0:Int),(r1.fst.snd.snd.fst,()))),())
   else
    bif decide ((4096:Int)<r1.fst.fst)then
     some (([],((0:Int),((3:Int),()))),())
    else
     bif decide (IntKind.i64.wrap ((↑x0.length:Int)-r1.fst.snd.fst)<IntKind.i64.wrap r1.fst.fst)then
      some (([],((0:Int),((2:Int),()))),())
     else
      if (0 :Int)<=r1.fst.snd.fst then
       if r1.fst.snd.fst<=IntKind.i64.wrap (r1.fst.snd.fst+IntKind.i64.wrap r1.fst.fst)then
        if IntKind.i64.wrap (r1.fst.snd.fst+IntKind.i64.wrap r1.fst.fst)<=(↑x0.length:Int)then
         bif decide ((0:Int)<x3)then
          if (0:Int)<=IntKind.i64.wrap (x3-(1:Int))then
           if IntKind.i64.wrap (x3-(1:Int))<(↑x4.length:Int)then
            bif !Eng.q0t (x4.getD (IntKind.i64.wrap (x3-(1:Int))).toNat []) (List.map Eng.q0p (List.drop (Int.toNat r1.fst.snd.fst) (List.take (IntKind.i64.wrap (r1.fst.snd.fst+IntKind.i64.wrap r1.fst.fst)).toNat x0)))then
             some (([],((0:Int),((4:Int),()))),())
            else
             F133c20 n (x0) (x1) (x3) (r1.fst.fst) (r1.fst.snd.fst) (List.map Eng.q0p (List.drop (Int.toNat r1.fst.snd.fst) (List.take (IntKind.i64.wrap (r1.fst.snd.fst+IntKind.i64.wrap r1.fst.fst)).toNat x0))) (x4)
           else
            none
          else
           none
         else
          F133c20 n (x0) (x1) (x3) (r1.fst.fst) (r1.fst.snd.fst) (List.map Eng.q0p (List.drop (Int.toNat r1.fst.snd.fst) (List.take (IntKind.i64.wrap (r1.fst.snd.fst+IntKind.i64.wrap r1.fst.fst)).toNat x0))) (x4)
        else
         none
       else
        none
      else
       none
 else
  some ((x4,(x2,((0:Int),()))),()):=by kernel_rfl
theorem F133c20_eq (n x0 x1 x2 x3 x4 x5 x6:_):F133c20 (n+1) x0 x1 x2 x3 x4 x5 x6=
 if x6.length+(1:Nat)<=lim then
  F133c8 n (x0) (x1) (IntKind.i64.wrap (x4+IntKind.i64.wrap x3)) (IntKind.i64.wrap (x2+(1:Int))) (x6++[x5])
 else
  none:=by kernel_rfl
def F77c1 (n:Nat) (x0:List (Int)) (x1 x2:Int):=F77.at Pk0 Rk7 n 1 ⟨(.one (.data (.sl (.int .u8)) x0 [])::.one (.int .i64 x1)::.one (.int .i64 x2)::uU 89 []),[]⟩
def F77c3 (n:Nat) (x0:List (Int)) (x1 x2:Int):=F77.at Pk0 Rk7 n 3 ⟨(.one (.data (.sl (.int .u8)) x0 [])::.one (.int .i64 x1)::.one (.int .i64 x2)::uU 89 []),[]⟩
def F77c11 (n:Nat) (x0:List (Int)) (x1 x2 x3:Int) (x4:List (List Int)) (x5:List (Int)) (x6:List (List Int)):=F77.at Pk0 Rk7 n 11 ⟨(.one (.data (.sl (.int .u8)) x0 [])::.one (.int .i64 x1)::uU 7 (.one (.own 0)::uU 2 (.one (.own 1)::.one (.int .i64 x2)::uU 1 (.one (.own 2)::.one (.int .i64 x3)::uU 75 [])))),[(0,.row 9 .str x4 [] false),(1,.row 83 (.int .u64) x5 [] false),(2,.row 9 .str x6 [] false)]⟩
theorem F77_run (n:Nat) (a0:List (Int)) (a1 a2:Int):F77.run Pk0 Rk7 n (a0,a1,a2,())=
 F77c1 n (a0) (a1) (a2):=by kernel_rfl
theorem F77c1_eq (n x0 x1 x2:_):F77c1 (n+1) x0 x1 x2=
 bif decide (x1<(0:Int))then
  some (([],((0:Int),((1:Int),()))),())
 else
  bif decide ((↑x0.length:Int)<x1)then
   some (([],((0:Int),((1:Int),()))),())
  else
   bif decide (x2<(0:Int))then
    some (([],((0:Int),((1:Int),()))),())
   else
    bif decide ((65536:Int)<x2)then
     some (([],((0:Int),((1:Int),()))),())
    else
     F77c3 n (x0) (x1) (x2):=by kernel_rfl
theorem F77c3_eq (n x0 x1 x2:_):F77c3 (n+1) x0 x1 x2=
 (F133.run Pk2 Rku 4000000 (x0,x1,x2,())).bind fun r0=>
  bif !decide (r0.fst.snd.snd.fst=(0:Int))then
   some (([],((0:Int),(r0.fst.snd.snd.fst,()))),())
  else
   (F134.run Pkl Rk21 4000000 (x0,r0.fst.snd.fst,x2,(↑(List.length r0.fst.fst):Int),())).bind fun r1=>
    bif !decide (r1.fst.snd.snd.fst=(0:Int))then
     some (([],((0:Int),(r1.fst.snd.snd.fst,()))),())
    else
     F77c11 n (x0) (x1) (r1.fst.snd.fst) ((0:Int)) (r0.fst.fst) (r1.fst.fst) ([]):=by kernel_rfl
theorem F77c11_eq (n x0 x1 x2 x3 x4 x5 x6:_):F77c11 (n+1) x0 x1 x2 x3 x4 x5 x6=
 bif decide (x3<(↑x5.length:Int))then
  if (0 : Int)<=x3 then
   if x3 <(↑x5.length:Int)then
    bif decide (IntKind.u64.wrap (↑x4.length:Int)<=x5.getD x3.toNat (0:Int))then
     some (([],((0:Int),((6:Int),()))),())
    else
     if (0:Int)<=x3 then
      if x3<(↑x5.length:Int)then
       if (0:Int)<=x5.getD x3.toNat (0:Int)then
        if x5.getD x3.toNat (0:Int)<(↑x4.length:Int)then
         if x6.length+(1:Nat)<=lim then
          F77c11 n (x0) (x1) (x2) (IntKind.i64.wrap (x3+(1:Int))) (x4) (x5) (x6++[x4.getD (x5.getD x3.toNat (0:Int)).toNat []])
         else
          none
        else
         none
       else
        none
      else
       none
     else
      none
   else
    none
  else
   none
 else
  (F66.run qfr Rk1 4000000 (x6,())).bind fun r2=>
   if (0:Int)<=x1 then
    if x1<=x2 then
     if x2<=(↑x0.length:Int)then
      bif !decide (List.map Eng.q0p r2.fst.fst=List.map Eng.q0p (List.drop x1.toNat (List.take x2.toNat x0)))then
       some (([],((0:Int),((4:Int),()))),())
      else
       some ((x6,(x2,((0:Int),()))),())
     else
      none
    else
     none
   else
    none:=by kernel_rfl
def F76c1 (n:Nat) (x0:List (Int)) (x1 x2:Int):=F76.at Pk0 Rk7 n 1 ⟨(.one (.data (.sl (.int .u8)) x0 [])::.one (.int .i64 x1)::.one (.int .i64 x2)::uU 52 []),[]⟩
def F76c3 (n:Nat) (x0:List (Int)) (x1 x2 x3:Int) (x4:List (List Int)):=F76.at Pk0 Rk7 n 3 ⟨(.one (.data (.sl (.int .u8)) x0 [])::.one (.int .i64 x1)::.one (.int .i64 x2)::uU 6 (.one (.own 0)::.one (.int .i64 x3)::uU 44 [])),[(0,.row 9 .str x4 [] false)]⟩
theorem F76_run (n:Nat) (a0:List (Int)) (a1 a2:Int):F76.run Pk0 Rk7 n (a0,a1,a2,())=
 F76c1 n (a0) (a1) (a2):=by kernel_rfl
theorem F76c1_eq (n x0 x1 x2:_):F76c1 (n+1) x0 x1 x2=
 F76c3 n (x0) (x1) (x2) ((0:Int)) ([]):=by kernel_rfl
theorem F76c3_eq (n x0 x1 x2 x3 x4:_):F76c3 (n+1) x0 x1 x2 x3 x4=
 bif decide (x3<x2)then
  (F132.run Pk5 Rk8 4000000 (x0,x1,())).bind fun r0=>
   bif !decide (r0.fst.snd.snd.fst=(0:Int))then
    some (([],((0:Int),(r0.fst.snd.snd.fst,()))),())
   else
    bif decide ((4096:Int)<r0.fst.fst)then
     some (([],((0:Int),((3:Int),()))),())
    else
     bif decide (IntKind.i64.wrap ((↑x0.length:Int)-r0.fst.snd.fst)<IntKind.i64.wrap r0.fst.fst)then
      some (([],((0:Int),((2:Int),()))),())
     else
      if (0:Int)<=r0.fst.snd.fst then
       if r0.fst.snd.fst<=IntKind.i64.wrap (r0.fst.snd.fst+IntKind.i64.wrap r0.fst.fst)then
        if IntKind.i64.wrap (r0.fst.snd.fst+IntKind.i64.wrap r0.fst.fst)<=(↑x0.length:Int)then
         if x4.length+(1:Nat)<=lim then
          F76c3 n (x0) (IntKind.i64.wrap (r0.fst.snd.fst+IntKind.i64.wrap r0.fst.fst)) (x2) (IntKind.i64.wrap (x3+(1:Int))) (x4++[List.map Eng.q0p (List.drop (Int.toNat r0.fst.snd.fst) (List.take (IntKind.i64.wrap (r0.fst.snd.fst+IntKind.i64.wrap r0.fst.fst)).toNat x0))])
         else
          none
        else
         none
       else
        none
      else
       none
 else
  some ((x4,(x1,((0:Int),()))),()):=by kernel_rfl
def F41c1 (n:Nat) (x0:List (Int)) (x1:Int):=F41.at Pkb Rk7 n 1 ⟨(.one (.data (.sl (.int .u8)) x0 [])::.one (.int .i64 x1)::uU 31 []),[]⟩
theorem F41_run (n:Nat) (a0:List (Int)) (a1:Int):F41.run Pkb Rk7 n (a0,a1,())=
 F41c1 n (a0) (a1):=by kernel_rfl
theorem F41c1_eq (n x0 x1:_):F41c1 (n+1) x0 x1=
 if (0:Int)<(↑x0.length:Int)then
  bif decide (IntKind.i64.wrap (x0.getD (Int.toNat (0:Int)) (0:Int))=(0:Int))then
   (F76.run Pk2 Rku 4000000 (x0,(1:Int),x1,())).bind fun r0=>
    some ((r0.fst.fst,(r0.fst.snd.fst,(r0.fst.snd.snd.fst,()))),())
  else
   bif decide (IntKind.i64.wrap (x0.getD (Int.toNat (0:Int)) (0:Int))=(4:Int))then
    (F77.run Pk2 Rku 4000000 (x0,(1:Int),x1,())).bind fun r1=>
     some ((r1.fst.fst,(r1.fst.snd.fst,(r1.fst.snd.snd.fst,()))),())
   else
    (F78.run Pk2 Rku 4000000 (x0,(1:Int),x1,())).bind fun r2=>
     some ((r2.fst.fst,(r2.fst.snd.fst,(r2.fst.snd.snd.fst,()))),())
 else
  none:=by kernel_rfl
def F19c3 (n:Nat) (x0:List (Int)) (x1 x2:Int) (x3:Vec):=F19.at Pk0 Rkh n 3 ⟨(.one (.data (.sl (.int .u8)) x0 [])::.one (.int .i64 x1)::.one (.int .i64 x2)::uU 3 (.one (.bptr 0 0)::uU 129 [])),[(0,.whole (.nm 0) x3 [])]⟩
def F19c18 (n:Nat) (x0:List (Int)) (x1 x2 x3:Int) (x4:Vec) (x5:Int) (x6:List (Int)) (x7:List (Bool)) (x8:List (List Int)):=F19.at Pk0 Rkh n 18 ⟨(.one (.data (.sl (.int .u8)) x0 [])::.one (.int .i64 x1)::uU 4 (.one (.bptr 0 0)::uU 2 (.one (.bptr 1 0)::.one (.int .i64 x2)::.one (.int .i64 x3)::uU 124 []))),[(0,.whole (.nm 0) x4 []),(1,.cells [.int .i64 x5,.data (.sl (.int .i64)) x6 [],.own 2,.data (.sl .bool) x7 []]),(2,.row 9 .str x8 [] false)]⟩
def F19c18' (n:Nat) (x0:List (Int)) (x1 x2 x3:Int) (x4:Vec) (x5:Int) (x6:List (List Int)) (x7:List (Bool)) (x8:List (Int)):=F19.at Pk0 Rkh n 18 ⟨(.one (.data (.sl (.int .u8)) x0 [])::.one (.int .i64 x1)::uU 4 (.one (.bptr 0 0)::uU 2 (.one (.bptr 1 0)::.one (.int .i64 x2)::.one (.int .i64 x3)::uU 124 []))),[(0,.whole (.nm 0) x4 []),(1,.cells [.int .i64 x5,.own 2,.data (.sl .str) x6 [],.data (.sl .bool) x7 []]),(2,.row 2 (.int .i64) x8 [] false)]⟩
def F19c21 (n:Nat) (x0:List (Int)) (x1 x2 x3:Int) (x4:Vec) (x5:Int) (x6:List (Int)) (x7:List (Bool)) (x8:List (List Int)):=F19.at Pk0 Rkh n 21 ⟨(.one (.data (.sl (.int .u8)) x0 [])::.one (.int .i64 x1)::uU 4 (.one (.bptr 0 0)::uU 2 (.one (.bptr 1 0)::.one (.int .i64 x2)::uU 7 (.one (.int .i64 x3)::uU 117 [])))),[(0,.whole (.nm 0) x4 []),(1,.cells [.int .i64 x5,.data (.sl (.int .i64)) x6 [],.own 2,.data (.sl .bool) x7 []]),(2,.row 9 .str x8 [] false)]⟩
def F19c21' (n:Nat) (x0:List (Int)) (x1 x2 x3:Int) (x4:Vec) (x5:Int) (x6:List (List Int)) (x7:List (Bool)) (x8:List (Int)):=F19.at Pk0 Rkh n 21 ⟨(.one (.data (.sl (.int .u8)) x0 [])::.one (.int .i64 x1)::uU 4 (.one (.bptr 0 0)::uU 2 (.one (.bptr 1 0)::.one (.int .i64 x2)::uU 7 (.one (.int .i64 x3)::uU 117 [])))),[(0,.whole (.nm 0) x4 []),(1,.cells [.int .i64 x5,.own 2,.data (.sl .str) x6 [],.data (.sl .bool) x7 []]),(2,.row 2 (.int .i64) x8 [] false)]⟩
def F19c26 (n:Nat) (x0:List (Int)) (x1 x2:Int) (x3:Vec) (x4:Int) (x5:List (Int)) (x6:List (Bool)) (x7:List (List Int)):=F19.at Pk0 Rkh n 26 ⟨(.one (.data (.sl (.int .u8)) x0 [])::uU 5 (.one (.bptr 0 0)::uU 2 (.one (.bptr 1 0)::.one (.int .i64 x1)::uU 8 (.one (.int .i64 x2)::uU 116 [])))),[(0,.whole (.nm 0) x3 []),(1,.cells [.int .i64 x4,.data (.sl (.int .i64)) x5 [],.own 2,.data (.sl .bool) x6 []]),(2,.row 9 .str x7 [] false)]⟩
def F19c26' (n:Nat) (x0:List (Int)) (x1 x2:Int) (x3:Vec) (x4:Int) (x5:List (List Int)) (x6:List (Bool)) (x7:List (Int)):=F19.at Pk0 Rkh n 26 ⟨(.one (.data (.sl (.int .u8)) x0 [])::uU 5 (.one (.bptr 0 0)::uU 2 (.one (.bptr 1 0)::.one (.int .i64 x1)::uU 8 (.one (.int .i64 x2)::uU 116 [])))),[(0,.whole (.nm 0) x3 []),(1,.cells [.int .i64 x4,.own 2,.data (.sl .str) x5 [],.data (.sl .bool) x6 []]),(2,.row 2 (.int .i64) x7 [] false)]⟩
theorem F19_run (n:Nat) (a0:List (Int)) (a1 a2:Int):F19.run Pk0 Rkh n (a0,a1,a2,())=
 bif decide (a1<(1:Int))then
  some ((q2r,((0:Int),((1:Int),()))),())
 else
  bif decide ((3:Int)<a1)then
   some ((q2r,((0:Int),((1:Int),()))),())
  else
   bif decide (a2<(0:Int))then
    some ((q2r,((0:Int),((1:Int),()))),())
   else
    bif decide ((65536:Int)<a2)then
     some ((q2r,((0:Int),((1:Int),()))),())
    else
     F19c3 n (a0) (a1) (a2) (q2r):=by kernel_rfl
theorem F19c3_eq (n x0 x1 x2 x3:_):F19c3 (n+1) x0 x1 x2 x3=
 bif decide ((↑x0.length:Int)=(0:Int))then
  some ((q2r,((0:Int),((2:Int),()))),())
 else
  if (0 :Int)<(↑x0.length:Int)then
   (F25.run Pka Rkp 4000000 (x1,IntKind.i64.wrap (x0.getD (Int.toNat (0:Int)) (0:Int)),())).bind fun r0=>
    bif !r0.fst.fst then
     some ((q2r,((0:Int),((4:Int),()))),())
    else
     if (0:Int)<=x2 then
      if x2<=(↑lim:Int)then
       bif decide (x1=(3:Int))then
        (F41.run Pk5 Rku 4000000 (x0,x2,())).bind fun r1=>
         F19c18 n (x0) (x1) (r1.fst.snd.fst) (r1.fst.snd.snd.fst) (x3) (x1) ([]) (List.replicate x2.toNat false) (r1.fst.fst)
       else
        (F42.run Pk2 Rki 4000000 (x0,x1,x2,())).bind fun r2=>
         F19c18' n (x0) (x1) (r2.fst.snd.fst) (r2.fst.snd.snd.fst) (x3) (x1) ([]) (List.replicate x2.toNat false) (r2.fst.fst)
      else
       none
     else
      none
  else
   none:=by kernel_rfl
theorem F19c18_eq (n x0 x1 x2 x3 x4 x5 x6 x7 x8:_):F19c18 (n+1) x0 x1 x2 x3 x4 x5 x6 x7 x8=
 bif !decide (x3=(0:Int))then
  some ((q2r,((0:Int),(x3,()))),())
 else
  F19c21 n (x0) (x1) (x2) ((0:Int)) (x4) (x5) (x6) (x7) (x8):=by kernel_rfl
theorem F19c18'_eq (n x0 x1 x2 x3 x4 x5 x6 x7 x8:_):F19c18' (n+1) x0 x1 x2 x3 x4 x5 x6 x7 x8=
 bif !decide (x3=(0:Int))then
  some ((q2r,((0:Int),(x3,()))),())
 else
  F19c21' n (x0) (x1) (x2) ((0:Int)) (x4) (x5) (x6) (x7) (x8):=by kernel_rfl
theorem F19c21_eq (n x0 x1 x2 x3 x4 x5 x6 x7 x8:_):F19c21 (n+1) x0 x1 x2 x3 x4 x5 x6 x7 x8=
 bif decide (x3<(↑x6.length:Int))then
  bif decide (x1=(1:Int))then
   if (0 :Int)<=x3 then
    if x3<(↑x6.length:Int)then
     bif !decide (x6.getD x3.toNat (0:Int)=(0:Int))then
      if (0:Int)<=x3 then
       if x3<(↑x6.length:Int)then
        bif !decide (x6.getD x3.toNat (0:Int)=(1:Int))then
         some ((q2r,((0:Int),((4:Int),()))),())
        else
         F19c21 n (x0) (x1) (x2) (IntKind.i64.wrap (x3+(1:Int))) (x4) (x5) (x6) (x7) (x8)
       else
        none
      else
       none
     else
      F19c21 n (x0) (x1) (x2) (IntKind.i64.wrap (x3+(1:Int))) (x4) (x5) (x6) (x7) (x8)
    else
     none
   else
    none
  else
   F19c21 n (x0) (x1) (x2) (IntKind.i64.wrap (x3+(1:Int))) (x4) (x5) (x6) (x7) (x8)
 else
  F19c26 n (x0) (x2) ((0:Int)) (x4) (x5) (x6) (x7) (x8):=by kernel_rfl
theorem F19c21'_eq (n x0 x1 x2 x3 x4 x5 x6 x7 x8:_):F19c21' (n+1) x0 x1 x2 x3 x4 x5 x6 x7 x8=
 bif decide (x3<(↑x8.length:Int))then
  bif decide (x1=(1:Int))then
   if (0 :Int)<=x3 then
    if x3<(↑x8.length:Int)then
     bif !decide (x8.getD x3.toNat (0:Int)=(0:Int))then
      if (0:Int)<=x3 then
       if x3<(↑x8.length:Int)then
        bif !decide (x8.getD x3.toNat (0:Int)=(1:Int))then
         some ((q2r,((0:Int),((4:Int),()))),())
        else
         F19c21' n (x0) (x1) (x2) (IntKind.i64.wrap (x3+(1:Int))) (x4) (x5) (x6) (x7) (x8)
       else
        none
      else
       none
     else
      F19c21' n (x0) (x1) (x2) (IntKind.i64.wrap (x3+(1:Int))) (x4) (x5) (x6) (x7) (x8)
    else
     none
   else
    none
  else
   F19c21' n (x0) (x1) (x2) (IntKind.i64.wrap (x3+(1:Int))) (x4) (x5) (x6) (x7) (x8)
 else
  F19c26' n (x0) (x2) ((0:Int)) (x4) (x5) (x6) (x7) (x8):=by kernel_rfl
theorem F19c26_eq (n x0 x1 x2 x3 x4 x5 x6 x7:_):F19c26 (n+1) x0 x1 x2 x3 x4 x5 x6 x7=
 bif decide (x2<(↑x7.length:Int))then
  if (0:Int)<=x2 then
   if x2<(↑x7.length:Int)then
    bif decide ((4096:Int)<(↑(x7.getD x2.toNat []).length:Int))then
     some ((q2r,((0:Int),((3:Int),()))),())
    else
     F19c26 n (x0) (x1) (IntKind.i64.wrap (x2+(1:Int))) (x3) (x4) (x5) (x6) (x7)
   else
    none
  else
   none
 else
  if (0:Int)<(↑x0.length:Int)then
   (F35.run qr4 Rk1 4000000 ({f_Type:=x4,ints:=x5,texts:=x7,nulls:=x6:Vec},IntKind.i64.wrap (x0.getD (Int.toNat (0:Int)) (0:Int)),())).bind fun r3=>
    if (0:Int)<=x1 then
     if x1<=(↑x0.length:Int)then
      bif !decide (List.map Eng.q0p r3.fst.fst=List.map Eng.q0p (List.drop (Int.toNat (0:Int)) (List.take x1.toNat x0)))then
       some ((q2r,((0:Int),((4:Int),()))),())
      else
       some (({f_Type:=x4,ints:=x5,texts:=x7,nulls:=x6:Vec},(x1,((0:Int),()))),())
     else
      none
    else
     none
  else
   none:=by kernel_rfl
theorem F19c26'_eq (n x0 x1 x2 x3 x4 x5 x6 x7:_):F19c26' (n+1) x0 x1 x2 x3 x4 x5 x6 x7=
 bif decide (x2<(↑x5.length:Int))then
  if (0:Int)<=x2 then
   if x2<(↑x5.length:Int)then
    bif decide ((4096:Int)<(↑(x5.getD x2.toNat []).length:Int))then
     some ((q2r,((0:Int),((3:Int),()))),())
    else
     F19c26' n (x0) (x1) (IntKind.i64.wrap (x2+(1:Int))) (x3) (x4) (x5) (x6) (x7)
   else
    none
  else
   none
 else
  if (0:Int)<(↑x0.length:Int)then
   (F35.run qr4 Rk1 4000000 ({f_Type:=x4,ints:=x7,texts:=x5,nulls:=x6:Vec},IntKind.i64.wrap (x0.getD (Int.toNat (0:Int)) (0:Int)),())).bind fun r4=>
    if (0:Int)<=x1 then
     if x1<=(↑x0.length:Int)then
      bif !decide (List.map Eng.q0p r4.fst.fst=List.map Eng.q0p (List.drop (Int.toNat (0:Int)) (List.take x1.toNat x0)))then
       some ((q2r,((0:Int),((4:Int),()))),())
      else
       some (({f_Type:=x4,ints:=x7,texts:=x5,nulls:=x6:Vec},(x1,((0:Int),()))),())
     else
      none
    else
     none
  else
   none:=by kernel_rfl
end
end Go.Proofs.Tryz
