/- The functions of the program as the engine follows them (printed by a program of ours): their code, what is known of them, and the equations of their runs. -/
import Derived.Test.YtpnabclcnplchaaGreatL12FnD
set_option linter.unusedVariables false
set_option maxRecDepth 20000
namespace Go.Proofs.Tryz
open Go.Eng
open IntKind (i64 u64 u8)
noncomputable section
def F24:Eng.Fn NN:=mkF [] [(3,[2,3]),(4,[2,3,5]),(6,[2,3,5])] [.v (.nm 4),.v (.nm 4)] f24 [.tmp 4] 45
def sp24:Eng.Spec NN:=F24.spec Pk2v Rkn 4000000
theorem z158:Eng.Good prog 24 sp24:=gF (fn:=f24) fits q06 .nil (by kernel_rfl)
def F88:Eng.Fn NN:=mkF [] [] [.v (.bool)] f88 [.cell 2 48] 6
def sp88:Eng.Spec NN:=F88.spec [.v (.bool)] qll 4000000
theorem z16b:Eng.Good prog 88 sp88:=gF (fn:=f88) fits q06 .nil (by kernel_rfl)
def F89:Eng.Fn NN:=mkF [] [] [.v (.int .i64),.v (.int .i64)] f89 [.tmp 4] 30
def sp89:Eng.Spec NN:=F89.spec Pkz Rkn 4000000
theorem z16c:Eng.Good prog 89 sp89:=gF (fn:=f89) fits q06 .nil (by kernel_rfl)
def F148:Eng.Fn NN:=mkF [] [] [.v (.bool),.v (.bool)] f148 [.tmp 4] 7
def z180:Eng.Spec NN:=F148.spec Pk32 Rkc 4000000
theorem z11x:Eng.Good prog 148 z180:=gF (fn:=f148) fits q06 .nil (by kernel_rfl)
def F90:Eng.Fn NN:=mkF [(148,z180)] [] [.v (.nm 2),.v (.nm 2)] f90 [.tmp 4] 41
def sp90:Eng.Spec NN:=F90.spec Pk2u Rkc 4000000
theorem z16d:Eng.Good prog 90 sp90:=gF (fn:=f90) fits q06 (.cons z11x .nil) (by kernel_rfl)
def F46:Eng.Fn NN:=mkF [(88,sp88),(89,sp89),(90,sp90)] [(3,[0,4,5,6])] [.v (.int .i64),.v (.nm 2),.v (.nm 2)] f46 [.cell 6 48] 32
def sp46:Eng.Spec NN:=F46.spec Pk1q qll 4000000
theorem z15p:Eng.Good prog 46 sp46:=gF (fn:=f46) fits q06 (.cons z16b (.cons z16c (.cons z16d .nil))) (by kernel_rfl)
def F29:Eng.Fn NN:=mkF [(46,sp46)] [(3,[2,3])] [.v (.nm 3),.v (.nm 2)] f29 [.tmp 4] 24
def sp29:Eng.Spec NN:=F29.spec Pk3c Rkn 4000000
theorem z15c:Eng.Good prog 29 sp29:=gF (fn:=f29) fits q06 (.cons z15p .nil) (by kernel_rfl)
def F30:Eng.Fn NN:=mkF [] [] [.v (.nm 0),.v (.int .i64)] f30 [.cell 4 48] 22
def sp30:Eng.Spec NN:=F30.spec qpu qll 4000000
theorem z15d:Eng.Good prog 30 sp30:=gF (fn:=f30) fits q06 .nil (by kernel_rfl)
def F23:Eng.Fn NN:=mkF [(29,sp29),(30,sp30),(19,sp19)] [(3,[0,1,2,7,8]),(8,[2,7,8,10,13,14])] [.v (.sl (.int .u8)),.v (.int .i64),.v (.int .i64),.v (.nm 3)] f23 [.cell 8 54,.tmp 9] 75
def sp23:Eng.Spec NN:=F23.spec Pkd qrd 4000000
theorem z157:Eng.Good prog 23 sp23:=gF (fn:=f23) fits q06 (.cons z15c (.cons z15d (.cons z154 .nil))) (by kernel_rfl)
def F21:Eng.Fn NN:=mkF [] [] [.v (.nm 2)] f21 [.tmp 2] 46
def sp21:Eng.Spec NN:=F21.spec [.v (.nm 2)] Rkn 4000000
theorem z156:Eng.Good prog 21 sp21:=gF (fn:=f21) fits q06 .nil (by kernel_rfl)
def F24c3 (n:Nat)(x0 x1:Bits):=F24.at Pk2v Rkn n 3 ⟨(uU 2 (.one (.bptr 0 0)::.one (.bptr 1 0)::uU 41 [])),[(0,.whole (.nm 4) x0 []),(1,.whole (.nm 4) x1 [])]⟩
def F24c4 (n:Nat)(x0:Int)(x1 x2:Bits):=F24.at Pk2v Rkn n 4 ⟨(uU 2 (.one (.bptr 0 0)::.one (.bptr 1 0)::uU 1 (.one (.int .i64 x0)::uU 39 []))),[(0,.whole (.nm 4) x1 []),(1,.whole (.nm 4) x2 [])]⟩
def F24c6 (n:Nat)(x0:Int)(x1 x2:Bits):=F24.at Pk2v Rkn n 6 ⟨(uU 2 (.one (.bptr 0 0)::.one (.bptr 1 0)::uU 1 (.one (.int .i64 x0)::uU 39 []))),[(0,.whole (.nm 4) x1 []),(1,.whole (.nm 4) x2 [])]⟩
theorem F24_run (n:Nat)(a0 a1:Bits):F24.run Pk2v Rkn n (a0,a1,())=bif !decide (a0.n=a1.n)then some ((false,()),())else bif !decide ((↑a0.words.length:Int)=(↑a1.words.length:Int))then some ((false,()),())else F24c3 n (a0) (a1):=by kernel_rfl
theorem F24c3_eq (n x0 x1:_):F24c3 (n+1) x0 x1=F24c4 n ((0:Int)) (x0) (x1):=by kernel_rfl
theorem F24c4_eq (n x0 x1 x2:_):F24c4 (n+1) x0 x1 x2=bif decide (x0<(↑x1.words.length:Int))then bif decide (x0<(↑x2.words.length:Int))then F24c6 n (x0) (x1) (x2)else some ((true,()),())else some ((true,()),()):=by kernel_rfl
theorem F24c6_eq (n x0 x1 x2:_):F24c6 (n+1) x0 x1 x2=if 0<=x0 then if x0<(↑x1.words.length:Int)then if 0<=x0 then if x0<(↑x2.words.length:Int)then bif !decide (x1.words.getD x0.toNat (0:Int)=x2.words.getD x0.toNat (0:Int))then some ((false,()),())else F24c4 n (i64.wrap (x0+(1:Int))) (x1) (x2)else none else none else none else none:=by kernel_rfl
theorem F88_run (n:Nat)(a0:Bool):F88.run [.v (.bool)] qll n (a0,())=bif a0 then some (({kind:=(1:Int),int:=(1:Int),text:=[]:Val},()),())else some (({kind:=(1:Int),int:=(0:Int),text:=[]:Val},()),()):=by kernel_rfl
theorem F89_run (n:Nat)(a0 a1:Int):F89.run Pkz Rkn n (a0,a1,())=bif decide (a0=(1:Int))then some ((decide (a1=(0:Int)),()),())else bif decide (a0=(2:Int))then some ((!decide (a1=(0:Int)),()),())else bif decide (a0=(3:Int))then some ((decide (a1<(0:Int)),()),())else bif decide (a0=(4:Int))then some ((decide (a1<=(0:Int)),()),())else bif decide (a0=(5:Int))then some ((decide ((0:Int)<a1),()),())else bif decide (a0=(6:Int))then some ((decide ((0:Int)<=a1),()),())else some ((false,()),()):=by kernel_rfl
theorem F148_run (n:Nat)(a0 a1:Bool):F148.run Pk32 Rkc n (a0,a1,())=bif a0 then some (((-1:Int),()),())else bif a1 then some (((1:Int),()),())else some (((0:Int),()),()):=by kernel_rfl
theorem F90_run (n:Nat)(a0 a1:Val):F90.run Pk2u Rkc n (a0,a1,())=bif !decide (a0.kind=a1.kind)then(F148.run qw2 Rk5 4000000 (decide (a0.kind<a1.kind),true,())).bind fun r0=>some ((r0.fst.fst,()),())else bif decide (a0.kind=(3:Int))then(F148.run qw2 Rk5 4000000 (Eng.q0s a0.text a1.text,Eng.q0s a1.text a0.text,())).bind fun r1=>some ((r1.fst.fst,()),())else(F148.run qw2 Rk5 4000000 (decide (a0.int<a1.int),decide (a1.int<a0.int),())).bind fun r2=>some ((r2.fst.fst,()),()):=by kernel_rfl
def F46c3 (n:Nat)(x0:Int)(x1 x2 x3:Val):=F46.at Pk1q qll n 3 ⟨(.one (.int .i64 x0)::uU 3 (.one (.bptr 0 0)::.one (.bptr 1 0)::.one (.bptr 2 0)::uU 25 [])),[(0,.whole (.nm 2) x1 []),(1,.whole (.nm 2) x2 []),(2,.whole (.nm 2) x3 [])]⟩
theorem F46_run (n:Nat)(a0:Int)(a1 a2:Val):F46.run Pk1q qll n (a0,a1,a2,())=bif decide (a1.kind=(0:Int))then some ((qli,()),())else bif !decide (a1.kind=a2.kind)then some ((qli,()),())else bif decide (a0<(1:Int))then some ((qli,()),())else bif decide ((6:Int)<a0)then some ((qli,()),())else F46c3 n (a0) (a1) (a2) (qli):=by kernel_rfl
theorem F46c3_eq (n x0 x1 x2 x3:_):F46c3 (n+1) x0 x1 x2 x3=(F90.run Pk3e Rk5 4000000 (x1,x2,())).bind fun r0=>(F89.run Pk9 Rkl 4000000 (x0,r0.fst.fst,())).bind fun r1=>(F88.run Pk39 Rk2y 4000000 (r1.fst.fst,())).bind fun r2=>some ((r2.fst.fst,()),()):=by kernel_rfl
def F29c3 (n:Nat)(x0:Pred)(x1:Val):=F29.at Pk3c Rkn n 3 ⟨(uU 2 (.one (.bptr 0 0)::.one (.bptr 1 0)::uU 20 [])),[(0,.whole (.nm 3) x0 []),(1,.whole (.nm 2) x1 [])]⟩
theorem F29_run (n:Nat)(a0:Pred)(a1:Val):F29.run Pk3c Rkn n (a0,a1,())=bif decide (a0.op=(21:Int))then some ((decide (a0.op=(21:Int)),()),())else bif decide (a0.op=(20:Int))then some ((decide (a0.op=(21:Int)),()),())else F29c3 n (a0) (a1):=by kernel_rfl
theorem F29c3_eq (n x0 x1:_):F29c3 (n+1) x0 x1=(F46.run Pk2k Rk2y 4000000 (x0.op,x1,x0.value,())).bind fun r0=>some ((decide (r0.fst.fst.kind=(1:Int))&&(decide (r0.fst.fst.int=(1:Int))&&(decide (r0.fst.fst.text=[])&&true)),()),()):=by kernel_rfl
theorem F30_run (n:Nat)(a0:Vec)(a1:Int):F30.run qpu qll n (a0,a1,())=bif decide (a0.f_Type=(3:Int))then if(0:Int)<=a1 then if a1<(↑a0.texts.length:Int)then some (({kind:=(3:Int),int:=(0:Int),text:=a0.texts.getD a1.toNat []:Val},()),())else none else none else if(0:Int)<=a1 then if a1<(↑a0.ints.length:Int)then some (({kind:=a0.f_Type,int:=a0.ints.getD a1.toNat (0:Int),text:=[]:Val},()),())else none else none:=by kernel_rfl
def F23c3 (n:Nat)(x0:List (Int))(x1 x2:Int)(x3:Pred)(x4:Int)(x5:List (Int)):=F23.at Pkd qrd n 3 ⟨(.one (.data (.sl (.int .u8)) x0 [])::.one (.int .i64 x1)::.one (.int .i64 x2)::uU 4 (.one (.bptr 0 0)::.one (.bptr 1 0)::uU 66 [])),[(0,.whole (.nm 3) x3 []),(1,.cells [.int .i64 x4,.own 2]),(2,.row 83 (.int .u64) x5 [] false)]⟩
def F23c8 (n:Nat)(x0 x1:Int)(x2:Pred)(x3:Int)(x4:Vec)(x5:Int)(x6 x7:List (Int)):=F23.at Pkd qrd n 8 ⟨(uU 2 (.one (.int .i64 x0)::uU 4 (.one (.bptr 0 0)::.one (.bptr 1 0)::uU 1 (.one (.bptr 2 0)::uU 2 (.one (.bptr 3 0)::.one (.int .i64 x1)::uU 60 []))))),[(0,.whole (.nm 3) x2 []),(1,.cells [.int .i64 x3,.own 4]),(2,.whole (.nm 0) x4 []),(3,.cells [.int .i64 x5,.own 5]),(4,.row 83 (.int .u64) x6 [] false),(5,.row 83 (.int .u64) x7 [] false)]⟩
theorem F23_run (n:Nat)(a0:List (Int))(a1 a2:Int)(a3:Pred):F23.run Pkd qrd n (a0,a1,a2,a3,())=bif decide (a3.op<(1:Int))then bif !decide (a3.op=(20:Int))then bif !decide (a3.op=(21:Int))then some ((qvo,((1:Int),())),())else F23c3 n (a0) (a1) (a2) (a3) ((0:Int)) ([])else F23c3 n (a0) (a1) (a2) (a3) ((0:Int)) ([])else bif decide ((6:Int)<a3.op)then bif !decide (a3.op=(20:Int))then bif !decide (a3.op=(21:Int))then some ((qvo,((1:Int),())),())else F23c3 n (a0) (a1) (a2) (a3) ((0:Int)) ([])else F23c3 n (a0) (a1) (a2) (a3) ((0:Int)) ([])else F23c3 n (a0) (a1) (a2) (a3) ((0:Int)) ([]):=by kernel_rfl
theorem F23c3_eq (n x0 x1 x2 x3 x4 x5:_):F23c3 (n+1) x0 x1 x2 x3 x4 x5=(F19.run Pk2 Rk17 4000000 (x0,x1,x2,())).bind fun r0=>bif !decide (r0.fst.snd.snd.fst=(0:Int))then some ((qvo,(r0.fst.snd.snd.fst,())),())else if 0<=i64.wrap ((i64.wrap (x2+(63:Int))).tdiv (64:Int))then if i64.wrap ((i64.wrap (x2+(63:Int))).tdiv (64:Int))<=(↑lim:Int)then F23c8 n (x2) ((0:Int)) (x3) (x4) (r0.fst.fst) (x2) (x5) (List.replicate (i64.wrap ((i64.wrap (x2+(63:Int))).tdiv (64:Int))).toNat (0:Int))else none else none:=by kernel_rfl
theorem F23c8_eq (n x0 x1 x2 x3 x4 x5 x6 x7:_):F23c8 (n+1) x0 x1 x2 x3 x4 x5 x6 x7=bif decide (x1<x0)then(F30.run Pkp Rk2y 4000000 (x4,x1,())).bind fun r1=>(F29.run Pk33 Rkl 4000000 (x2,r1.fst.fst,())).bind fun r2=>bif r2.fst.fst then if 0<=i64.wrap (x1.tdiv (64:Int))then if i64.wrap (x1.tdiv (64:Int))<(↑x7.length:Int)then if 0<=u64.wrap (x1.tmod (64:Int))then if 0<=i64.wrap (x1.tdiv (64:Int))then if i64.wrap (x1.tdiv (64:Int))<(↑x7.length:Int)then F23c8 n (x0) (i64.wrap (x1+(1:Int))) (x2) (x3) (x4) (x5) (x6) (x7.set (i64.wrap (x1.tdiv (64:Int))).toNat (bits BinOp.or u64 (x7.getD (i64.wrap (x1.tdiv (64:Int))).toNat (0:Int)) (u64.wrap ((1:Int)*(2:Int)^min (u64.wrap (x1.tmod (64:Int))).toNat u64.bits))))else none else none else none else none else none else F23c8 n (x0) (i64.wrap (x1+(1:Int))) (x2) (x3) (x4) (x5) (x6) (x7)else some (({n:=x5,words:=x7:Bits},((0:Int),())),()):=by kernel_rfl
theorem F21_run (n:Nat)(a0:Val):F21.run [.v (.nm 2)] Rkn n (a0,())=bif decide (a0.kind=(0:Int))then bif decide (a0.int=(0:Int))then some ((decide (a0.text=[]),()),())else some ((false,()),())else bif decide (a0.kind=(1:Int))then bif decide (a0.int=(0:Int))then some ((decide (a0.text=[]),()),())else bif decide (a0.int=(1:Int))then some ((decide (a0.text=[]),()),())else some ((false,()),())else bif decide (a0.kind=(2:Int))then some ((decide (a0.text=[]),()),())else bif decide (a0.kind=(3:Int))then bif decide (a0.int=(0:Int))then some ((decide ((↑a0.text.length:Int)<=(4096:Int)),()),())else some ((false,()),())else some ((false,()),()):=by kernel_rfl
end
end Go.Proofs.Tryz
