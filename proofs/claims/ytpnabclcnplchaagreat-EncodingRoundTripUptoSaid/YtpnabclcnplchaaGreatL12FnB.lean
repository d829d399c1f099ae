/- The functions of the program as the engine follows them (printed by a program of ours): their code, what is known of them, and the equations of their runs. -/
import Derived.Test.YtpnabclcnplchaaGreatL12FnA
set_option linter.unusedVariables false
set_option maxRecDepth 20000
namespace Go.Proofs.Tryz
open Go.Eng
open IntKind (i64 u64 u8)
noncomputable section
def F108:Eng.Fn NN:=mkF [] [(1,[0]),(2,[0,3])] [.v (.int .u64)] f108 [.tmp 2] 20
def qnp:Eng.Spec NN:=F108.spec qd9 Rk4 4000000
def F164:Eng.Fn NN:=mkF [] [(2,[0,1,5])] [.v (.str),.v (.str)] f164 [.tmp 4] 28
def z16t:Eng.Spec NN:=F164.spec Pk2g Rkd 4000000
def F117:Eng.Fn NN:=mkF [(164,z16t)] [] [.v (.sl (.str)),.v (.int .i64)] f117 [.tmp 4] 18
def z192:Eng.Spec NN:=F117.spec Pk2l Rkd 4000000
def F67:Eng.Fn NN:=mkF [(108,qnp),(117,z192)] [(1,[0]),(3,[0,3,4]),(9,[0,3,4,6])] [.v (.sl (.str))] f67 [.tmp 2] 52
def sp67:Eng.Spec NN:=F67.spec Pkq Rk4 400000000
def F110:Eng.Fn NN:=mkF [] [(1,[0]),(3,[0,3,4]),(6,[0,3,4,5])] [.v (.sl (.sl (.int .u8)))] f110 [.tmp 2] 32
def z12y:Eng.Spec NN:=F110.spec qwp Rk4 400000000
def F109:Eng.Fn NN:=mkF [] [] [.v (.int .i64)] f109 [.tmp 2] 14
def z12x:Eng.Spec NN:=F109.spec qwe qgd 4000000
def F62:Eng.Fn NN:=mkF [(110,z12y),(108,qnp),(109,z12x)] [(1,[0]),(4,[0,3,4,5])] [.v (.sl (.nm 5))] f62 [.tmp 2] 46
def sp62:Eng.Spec NN:=F62.spec Pks Rk4 4000000
def F63:Eng.Fn NN:=mkF [] [(1,[0]),(3,[0,3,4]),(4,[0,3,4])] [.v (.sl (.int .i64))] f63 [.tmp 2] 47
def sp63:Eng.Spec NN:=F63.spec Pke qwh 4000000
def F157:Eng.Fn NN:=mkF [] [] [.v (.int .i64),.v (.int .i64)] f157 [.tmp 4] 19
def z134:Eng.Spec NN:=F157.spec Pkz Rkk 4000000
def F136:Eng.Fn NN:=mkF [(157,z134)] [] [.v (.int .i64),.v (.int .i64)] f136 [.tmp 4] 14
def qvr:Eng.Spec NN:=F136.spec Pkz Rkd 4000000
def F105:Eng.Fn NN:=mkF [(136,qvr),(157,z134)] [(1,[0,1]),(5,[0,1,5,6]),(8,[0,1,5,6,7])] [.v (.sl (.int .u64)),.v (.int .i64)] f105 [.tmp 4] 58
def z12w:Eng.Spec NN:=F105.spec qwn Rk4 4000000
def F163:Eng.Fn NN:=mkF [] [(2,[0,3])] [.v (.int .u64)] f163 [.tmp 2] 11
def z19i:Eng.Spec NN:=F163.spec qd9 Rkd 4000000
def F116:Eng.Fn NN:=mkF [(163,z19i)] [] [.v (.int .i64)] f116 [.tmp 2] 9
def z16a:Eng.Spec NN:=F116.spec qwe Rkd 4000000
def F115:Eng.Fn NN:=mkF [(110,z12y),(108,qnp)] [(1,[0])] [.v (.str)] f115 [.tmp 2] 11
def z191:Eng.Spec NN:=F115.spec [.v (.str)] Rk4 4000000
def F162:Eng.Fn NN:=mkF [] [(2,[0,1,6])] [.v (.sl (.str)),.v (.str)] f162 [.tmp 4,.tmp 5] 20
def z19h:Eng.Spec NN:=F162.spec Pk2j Rk2k 4000000
def F114:Eng.Fn NN:=mkF [(162,z19h)] [(1,[0]),(3,[0,4,5]),(6,[0,4,5,6]),(8,[0,4,5,6]),(9,[0,4,5,6]),(11,[0,4,5,6,7]),(17,[0,4,8,9])] [.v (.sl (.str))] f114 [.tmp 2,.tmp 3] 97
def z190:Eng.Spec NN:=F114.spec Pkq Rkw 1000000000
def F66:Eng.Fn NN:=mkF [(110,z12y),(62,sp62),(63,sp63),(105,z12w),(116,z16a),(115,z191),(108,qnp),(114,z190)] [(1,[0]),(4,[3,4,5,6]),(10,[3,4,5,7,8,9])] [.v (.sl (.str))] f66 [.tmp 2] 88
def sp66:Eng.Spec NN:=F66.spec Pkq Rk4 4000000
def F160:Eng.Fn NN:=mkF [] [] [.v (.int .u64),.v (.int .i64)] f160 [.tmp 4] 11
def z19f:Eng.Spec NN:=F160.spec Pkv qgd 4000000
def F159:Eng.Fn NN:=mkF [] [] [.v (.int .u64),.v (.int .i64)] f159 [.tmp 4] 14
def z19e:Eng.Spec NN:=F159.spec Pkv qgd 4000000
def F158:Eng.Fn NN:=mkF [] [(3,[0,3,4]),(4,[0,3,4])] [.v (.sl (.int .i64))] f158 [.tmp 2] 26
def z16s:Eng.Spec NN:=F158.spec Pke Rkd 4000000
def F112:Eng.Fn NN:=mkF [(105,z12w),(108,qnp),(109,z12x),(160,z19f),(159,z19e),(158,z16s)] [(1,[0,1]),(6,[0,1,5,6,7,8,9])] [.v (.sl (.int .i64)),.v (.int .i64)] f112 [.tmp 4] 73
def z169:Eng.Spec NN:=F112.spec qsb Rk4 4000000
def F111:Eng.Fn NN:=mkF [(158,z16s),(112,z169)] [(3,[0,4,5,6])] [.v (.sl (.int .i64))] f111 [.tmp 2,.tmp 3] 27
def z18y:Eng.Spec NN:=F111.spec Pke Rk1y 4000000
def F64:Eng.Fn NN:=mkF [(112,z169),(111,z18y)] [(1,[0])] [.v (.sl (.int .i64))] f64 [.tmp 2] 13
def sp64:Eng.Spec NN:=F64.spec Pke Rk4 4000000
def F161:Eng.Fn NN:=mkF [] [(1,[0]),(3,[0,3,4])] [.v (.sl (.int .i64))] f161 [.tmp 2] 25
def z19g:Eng.Spec NN:=F161.spec Pke qm2 4000000
def F113:Eng.Fn NN:=mkF [(64,sp64),(161,z19g),(108,qnp),(109,z12x)] [(1,[0,1]),(4,[1,5,6,7]),(6,[1,5,6,7])] [.v (.sl (.int .i64)),.v (.int .i64)] f113 [.tmp 4] 35
def z18z:Eng.Spec NN:=F113.spec qsb Rk4 4000000
def F65:Eng.Fn NN:=mkF [(113,z18z)] [(1,[0])] [.v (.sl (.int .i64))] f65 [.tmp 2] 23
def sp65:Eng.Spec NN:=F65.spec Pke Rk4 4000000
def F107:Eng.Fn NN:=mkF [] [(1,[0,1]),(3,[0,1]),(5,[0,1,5,6])] [.v (.int .u64),.v (.int .i64)] f107 [.tmp 4] 27
def z18x:Eng.Spec NN:=F107.spec Pkv Rk4 4000000
def F106:Eng.Fn NN:=mkF [] [(1,[0]),(3,[0,3,4])] [.v (.sl (.int .i64))] f106 [.tmp 2] 20
def z18w:Eng.Spec NN:=F106.spec Pke Rk2x 4000000
def F61:Eng.Fn NN:=mkF [(108,qnp),(107,z18x),(105,z12w),(106,z18w)] [(1,[1]),(5,[1,3,4]),(9,[1,3,5])] [.v (.nm 0)] f61 [.tmp 2] 54
def sp61:Eng.Spec NN:=F61.spec Pkx Rk4 4000000
def F35:Eng.Fn NN:=mkF [(67,sp67),(66,sp66),(65,sp65),(64,sp64),(62,sp62),(63,sp63),(61,sp61)] [(1,[1,2])] [.v (.nm 0),.v (.int .i64)] f35 [.tmp 4] 50
def sp35:Eng.Spec NN:=F35.spec qwd Rk4 4000000
def F25:Eng.Fn NN:=mkF [] [(11,[])] [.v (.int .i64),.v (.int .i64)] f25 [.tmp 4] 23
def sp25:Eng.Spec NN:=F25.spec Pkz Rkk 4000000
theorem z14q:Eng.Good prog 25 sp25:=gF (fn:=f25) fits q0e .nil (by kernel_rfl)
def F15:Eng.Fn NN:=mkF [(35,sp35),(25,sp25)] [(1,[1]),(3,[1,3,4]),(8,[1,3,4,5])] [.v (.nm 0)] f15 [.tmp 2] 25
def sp15:Eng.Spec NN:=F15.spec Pkx Rk2q 4000000
def F17:Eng.Fn NN:=mkF [(15,sp15)] [(4,[3,4,5]),(5,[3,4,5])] [.v (.nm 0)] f17 [.tmp 2] 35
def sp17:Eng.Spec NN:=F17.spec Pkx Rkd 4000000
def F12:Eng.Fn NN:=mkF [(35,sp35),(25,sp25),(13,sp13)] [(1,[1,2]),(3,[1,2])] [.v (.nm 0),.v (.int .i64)] f12 [.tmp 4,.tmp 5] 25
def sp12:Eng.Spec NN:=F12.spec qwd Rk23 4000000
def F108c1 (n:Nat)(x0:Int):=F108.at qd9 Rk4 n 1 ⟨(.one (.int .u64 x0)::uU 19 []),[]⟩
def F108c2 (n:Nat)(x0:Int)(x1:List (Int)):=F108.at qd9 Rk4 n 2 ⟨(.one (.int .u64 x0)::uU 2 (.one (.own 0)::uU 16 [])),[(0,.row 5 (.int .u8) x1 [] false)]⟩
theorem F108_run (n:Nat)(a0:Int):F108.run qd9 Rk4 n (a0,())=F108c1 n (a0):=by kernel_rfl
theorem F108c1_eq (n x0:_):F108c1 (n+1) x0=F108c2 n (x0) ([]):=by kernel_rfl
theorem F108c2_eq (n x0 x1:_):F108c2 (n+1) x0 x1=bif decide ((127:Int)<x0)then if x1.length+(1:Nat)<=lim then F108c2 n (u64.wrap (x0.tdiv (128:Int))) (x1++[u8.wrap (u64.wrap ((128:Int)+x0.tmod (128:Int)))])else none else if x1.length+(1:Nat)<=lim then some ((x1++[u8.wrap x0],()),())else none:=by kernel_rfl
def F164c2 (n:Nat)(x0 x1:List Int)(x2:Int):=F164.at Pk2g Rkd n 2 ⟨(.one (.str x0)::.one (.str x1)::uU 3 (.one (.int .i64 x2)::uU 22 [])),[]⟩
theorem F164_run (n:Nat)(a0 a1:List Int):F164.run Pk2g Rkd n (a0,a1,())=F164c2 n (a0) (a1) ((0:Int)):=by kernel_rfl
theorem F164c2_eq (n x0 x1 x2:_):F164c2 (n+1) x0 x1 x2=bif decide (x2<(↑x0.length:Int))then bif decide (x2<(↑x1.length:Int))then if 0<=x2 then if x2<(↑x0.length:Int)then if 0<=x2 then if x2<(↑x1.length:Int)then bif decide (x0.getD x2.toNat (0:Int)=x1.getD x2.toNat (0:Int))then F164c2 n (x0) (x1) (i64.wrap (x2+(1:Int)))else some ((x2,()),())else none else none else none else none else some ((x2,()),())else some ((x2,()),()):=by kernel_rfl
theorem F117_run (n:Nat)(a0:List (List Int))(a1:Int):F117.run Pk2l Rkd n (a0,a1,())=bif decide (a1.tmod (16:Int)=(0:Int))then some (((0:Int),()),())else if(0:Int)<=i64.wrap (a1-(1:Int))then if i64.wrap (a1-(1:Int))<(↑a0.length:Int)then if(0:Int)<=a1 then if a1<(↑a0.length:Int)then(F164.run qyl Rk6 4000000 (a0.getD (i64.wrap (a1-(1:Int))).toNat [],a0.getD a1.toNat [],())).bind fun r0=>some ((r0.fst.fst,()),())else none else none else none else none:=by kernel_rfl
def F67c1 (n:Nat)(x0:List (List Int)):=F67.at Pkq Rk4 n 1 ⟨(.one (.data (.sl .str) x0 [])::uU 51 []),[]⟩
def F67c3 (n:Nat)(x0:List (List Int))(x1:Int)(x2:List (Int)):=F67.at Pkq Rk4 n 3 ⟨(.one (.data (.sl .str) x0 [])::uU 2 (.one (.own 0)::.one (.int .i64 x1)::uU 47 [])),[(0,.row 5 (.int .u8) x2 [] false)]⟩
def F67c9 (n:Nat)(x0:List (List Int))(x1 x2:Int)(x3:List (Int)):=F67.at Pkq Rk4 n 9 ⟨(.one (.data (.sl .str) x0 [])::uU 2 (.one (.own 0)::.one (.int .i64 x1)::uU 1 (.one (.int .i64 x2)::uU 45 []))),[(0,.row 5 (.int .u8) x3 [] false)]⟩
theorem F67_run (n:Nat)(a0:List (List Int)):F67.run Pkq Rk4 n (a0,())=F67c1 n (a0):=by kernel_rfl
theorem F67c1_eq (n x0:_):F67c1 (n+1) x0=F67c3 n (x0) ((0:Int)) ([]):=by kernel_rfl
theorem F67c3_eq (n x0 x1 x2:_):F67c3 (n+1) x0 x1 x2=bif decide (x1<(↑x0.length:Int))then(F117.run Pk21 Rk6 4000000 (x0,x1,())).bind fun r0=>(F108.run Pka Rk1 4000000 (u64.wrap r0.fst.fst,())).bind fun r1=>if x2.length+List.length r1.fst.fst<=lim then if 0<=x1 then if x1<(↑x0.length:Int)then(F108.run Pka Rk1 4000000 (u64.wrap (i64.wrap ((↑(x0.getD x1.toNat []).length:Int)-r0.fst.fst)),())).bind fun r2=>if(x2++r1.fst.fst).length+List.length r2.fst.fst<=lim then F67c9 n (x0) (x1) (r0.fst.fst) (x2++r1.fst.fst++r2.fst.fst)else none else none else none else none else some ((x2,()),()):=by kernel_rfl
theorem F67c9_eq (n x0 x1 x2 x3:_):F67c9 (n+1) x0 x1 x2 x3=if 0<=x1 then if x1<(↑x0.length:Int)then bif decide (x2<(↑(x0.getD x1.toNat []).length:Int))then if 0<=x1 then if x1<(↑x0.length:Int)then if 0<=x2 then if x2<(↑(x0.getD x1.toNat []).length:Int)then if x3.length+(1:Nat)<=lim then F67c9 n (x0) (x1) (i64.wrap (x2+(1:Int))) (x3++[(x0.getD x1.toNat []).getD x2.toNat (0:Int)])else none else none else none else none else none else F67c3 n (x0) (i64.wrap (x1+(1:Int))) (x3)else none else none:=by kernel_rfl
def F110c1 (n:Nat)(x0:List (List (Int))):=F110.at qwp Rk4 n 1 ⟨(.one (.data (.sl (.sl (.int .u8))) x0 [])::uU 31 []),[]⟩
def F110c3 (n:Nat)(x0:List (List (Int)))(x1:Int)(x2:List (Int)):=F110.at qwp Rk4 n 3 ⟨(.one (.data (.sl (.sl (.int .u8))) x0 [])::uU 2 (.one (.own 0)::.one (.int .i64 x1)::uU 27 [])),[(0,.row 5 (.int .u8) x2 [] false)]⟩
def F110c6 (n:Nat)(x0:List (List (Int)))(x1 x2:Int)(x3:List (Int)):=F110.at qwp Rk4 n 6 ⟨(.one (.data (.sl (.sl (.int .u8))) x0 [])::uU 2 (.one (.own 0)::.one (.int .i64 x1)::.one (.int .i64 x2)::uU 26 [])),[(0,.row 5 (.int .u8) x3 [] false)]⟩
theorem F110_run (n:Nat)(a0:List (List (Int))):F110.run qwp Rk4 n (a0,())=F110c1 n (a0):=by kernel_rfl
theorem F110c1_eq (n x0:_):F110c1 (n+1) x0=F110c3 n (x0) ((0:Int)) ([]):=by kernel_rfl
theorem F110c3_eq (n x0 x1 x2:_):F110c3 (n+1) x0 x1 x2=bif decide (x1<(↑x0.length:Int))then F110c6 n (x0) (x1) ((0:Int)) (x2)else some ((x2,()),()):=by kernel_rfl
theorem F110c6_eq (n x0 x1 x2 x3:_):F110c6 (n+1) x0 x1 x2 x3=if 0<=x1 then if x1<(↑x0.length:Int)then bif decide (x2<(↑(x0.getD x1.toNat []).length:Int))then if 0<=x1 then if x1<(↑x0.length:Int)then if 0<=x2 then if x2<(↑(x0.getD x1.toNat []).length:Int)then if x3.length+(1:Nat)<=lim then F110c6 n (x0) (x1) (i64.wrap (x2+(1:Int))) (x3++[(x0.getD x1.toNat []).getD x2.toNat (0:Int)])else none else none else none else none else none else F110c3 n (x0) (i64.wrap (x1+(1:Int))) (x3)else none else none:=by kernel_rfl
theorem F109_run (n:Nat)(a0:Int):F109.run qwe qgd n (a0,())=bif decide ((0:Int)<=a0)then some ((u64.wrap ((2:Int)*u64.wrap a0),()),())else some ((u64.wrap (u64.wrap ((2:Int)*u64.wrap (i64.wrap ((0:Int)-i64.wrap (a0+(1:Int)))))+(1:Int)),()),()):=by kernel_rfl
def F62c1 (n:Nat)(x0:List (Run)):=F62.at Pks Rk4 n 1 ⟨(.one (.data (.sl (.nm 5)) x0 [])::uU 45 []),[]⟩
def F62c4 (n:Nat)(x0:List (Run))(x1 x2:Int)(x3:List (List (Int))):=F62.at Pks Rk4 n 4 ⟨(.one (.data (.sl (.nm 5)) x0 [])::uU 2 (.one (.own 0)::.one (.int .i64 x1)::.one (.int .i64 x2)::uU 40 [])),[(0,.row 29 (.sl (.int .u8)) x3 [] false)]⟩
theorem F62_run (n:Nat)(a0:List (Run)):F62.run Pks Rk4 n (a0,())=F62c1 n (a0):=by kernel_rfl
theorem F62c1_eq (n x0:_):F62c1 (n+1) x0=(F108.run Pka Rk1 4000000 (u64.wrap (↑x0.length:Int),())).bind fun r0=>F62c4 n (x0) ((0:Int)) ((0:Int)) ([r0.fst.fst]):=by kernel_rfl
theorem F62c4_eq (n x0 x1 x2 x3:_):F62c4 (n+1) x0 x1 x2 x3=bif decide (x2<(↑x0.length:Int))then if 0<=x2 then if x2<(↑x0.length:Int)then(F109.run Pky Rkf 4000000 (i64.wrap ((x0.getD x2.toNat q0x).value-x1),())).bind fun r1=>(F108.run Pka Rk1 4000000 (r1.fst.fst,())).bind fun r2=>if x3.length+(1:Nat)<=lim then if 0<=x2 then if x2<(↑x0.length:Int)then(F108.run Pka Rk1 4000000 (u64.wrap (x0.getD x2.toNat q0x).count,())).bind fun r3=>if(x3++([r2.fst.fst]:List (List (Int)))).length+(1:Nat)<=lim then if 0<=x2 then if x2<(↑x0.length:Int)then F62c4 n (x0) ((x0.getD x2.toNat q0x).value) (i64.wrap (x2+(1:Int))) (x3++([r2.fst.fst]:List (List (Int)))++[r3.fst.fst])else none else none else none else none else none else none else none else none else(F110.run qs0 Rk1 (400000000:Nat) (x3,())).bind fun r4=>some ((r4.fst.fst,()),()):=by kernel_rfl
def F63c1 (n:Nat)(x0:List (Int)):=F63.at Pke qwh n 1 ⟨(.one (.data (.sl (.int .i64)) x0 [])::uU 46 []),[]⟩
def F63c3 (n:Nat)(x0:List (Int))(x1:Int)(x2:List (Run)):=F63.at Pke qwh n 3 ⟨(.one (.data (.sl (.int .i64)) x0 [])::uU 2 (.one (.own 0)::.one (.int .i64 x1)::uU 42 [])),[(0,.row 110 (.nm 5) x2 [] false)]⟩
def F63c4 (n:Nat)(x0:List (Int))(x1:Int)(x2:List (Run)):=F63.at Pke qwh n 4 ⟨(.one (.data (.sl (.int .i64)) x0 [])::uU 2 (.one (.own 0)::.one (.int .i64 x1)::uU 42 [])),[(0,.row 110 (.nm 5) x2 [] false)]⟩
theorem F63_run (n:Nat)(a0:List (Int)):F63.run Pke qwh n (a0,())=F63c1 n (a0):=by kernel_rfl
theorem F63c1_eq (n x0:_):F63c1 (n+1) x0=F63c3 n (x0) ((0:Int)) ([]):=by kernel_rfl
theorem F63c3_eq (n x0 x1 x2:_):F63c3 (n+1) x0 x1 x2=bif decide (x1<(↑x0.length:Int))then bif decide ((0:Int)<(↑x2.length:Int))then if 0<=i64.wrap ((↑x2.length:Int)-(1:Int))then if i64.wrap ((↑x2.length:Int)-(1:Int))<(↑x2.length:Int)then if 0<=x1 then if x1<(↑x0.length:Int)then bif decide ((x2.getD (i64.wrap ((↑x2.length:Int)-(1:Int))).toNat q0x).value=x0.getD x1.toNat (0:Int))then if 0<=i64.wrap ((↑x2.length:Int)-(1:Int))then if i64.wrap ((↑x2.length:Int)-(1:Int))<(↑x2.length:Int)then if 0<=i64.wrap ((↑x2.length:Int)-(1:Int))then if i64.wrap ((↑x2.length:Int)-(1:Int))<(↑x2.length:Int)then F63c4 n (x0) (x1) (x2.set (i64.wrap ((↑x2.length:Int)-(1:Int))).toNat {value:=(x2.getD (i64.wrap ((↑x2.length:Int)-(1:Int))).toNat q0x).value,count:=i64.wrap ((x2.getD (i64.wrap ((↑x2.length:Int)-(1:Int))).toNat q0x).count+(1:Int)):Run})else none else none else none else none else if 0<=x1 then if x1<(↑x0.length:Int)then if x2.length+(1:Nat)<=lim then F63c4 n (x0) (x1) (x2++[{value:=x0.getD x1.toNat (0:Int),count:=(1:Int):Run}])else none else none else none else none else none else none else none else if 0<=x1 then if x1<(↑x0.length:Int)then if x2.length+(1:Nat)<=lim then F63c4 n (x0) (x1) (x2++[{value:=x0.getD x1.toNat (0:Int),count:=(1:Int):Run}])else none else none else none else some ((x2,()),()):=by kernel_rfl
theorem F63c4_eq (n x0 x1 x2:_):F63c4 (n+1) x0 x1 x2=F63c3 n (x0) (i64.wrap (x1+(1:Int))) (x2):=by kernel_rfl
theorem F157_run (n:Nat)(a0 a1:Int):F157.run Pkz Rkk n (a0,a1,())=bif decide ((0:Int)<=a0)then bif decide (a0<=(1048576:Int))then bif decide ((0:Int)<=a1)then some ((decide (a1<=(64:Int)),()),())else some ((false,()),())else some ((false,()),())else some ((false,()),()):=by kernel_rfl
theorem F136_run (n:Nat)(a0 a1:Int):F136.run Pkz Rkd n (a0,a1,())=(F157.run Pk9 Rkl 4000000 (a0,a1,())).bind fun r0=>bif !r0.fst.fst then some (((0:Int),()),())else some ((i64.wrap ((i64.wrap (i64.wrap (a0*a1)+(7:Int))).tdiv (8:Int)),()),()):=by kernel_rfl
def F105c1 (n:Nat)(x0:List (Int))(x1:Int):=F105.at qwn Rk4 n 1 ⟨(.one (.data (.sl (.int .u64)) x0 [])::.one (.int .i64 x1)::uU 56 []),[]⟩
def F105c5 (n:Nat)(x0:List (Int))(x1 x2:Int)(x3:List (Int)):=F105.at qwn Rk4 n 5 ⟨(.one (.data (.sl (.int .u64)) x0 [])::.one (.int .i64 x1)::uU 3 (.one (.own 0)::.one (.int .i64 x2)::uU 51 [])),[(0,.row 5 (.int .u8) x3 [] false)]⟩
def F105c8 (n:Nat)(x0:List (Int))(x1 x2 x3:Int)(x4:List (Int)):=F105.at qwn Rk4 n 8 ⟨(.one (.data (.sl (.int .u64)) x0 [])::.one (.int .i64 x1)::uU 3 (.one (.own 0)::.one (.int .i64 x2)::.one (.int .i64 x3)::uU 50 [])),[(0,.row 5 (.int .u8) x4 [] false)]⟩
theorem F105_run (n:Nat)(a0:List (Int))(a1:Int):F105.run qwn Rk4 n (a0,a1,())=F105c1 n (a0) (a1):=by kernel_rfl
theorem F105c1_eq (n x0 x1:_):F105c1 (n+1) x0 x1=(F157.run Pk9 Rkl 4000000 ((↑x0.length:Int),x1,())).bind fun r0=>bif !r0.fst.fst then some (([],()),())else(F136.run Pk9 Rk6 4000000 ((↑x0.length:Int),x1,())).bind fun r1=>if(0:Int)<=r1.fst.fst then if r1.fst.fst<=(↑lim:Int)then F105c5 n (x0) (x1) ((0:Int)) (List.replicate (Int.toNat r1.fst.fst) (0:Int))else none else none:=by kernel_rfl
theorem F105c5_eq (n x0 x1 x2 x3:_):F105c5 (n+1) x0 x1 x2 x3=bif decide (x2<(↑x0.length:Int))then F105c8 n (x0) (x1) (x2) ((0:Int)) (x3)else some ((x3,()),()):=by kernel_rfl
theorem F105c8_eq (n x0 x1 x2 x3 x4:_):F105c8 (n+1) x0 x1 x2 x3 x4=bif decide (x3<x1)then if 0<=i64.wrap ((i64.wrap (i64.wrap (x2*x1)+x3)).tdiv (8:Int))then if i64.wrap ((i64.wrap (i64.wrap (x2*x1)+x3)).tdiv (8:Int))<(↑x4.length:Int)then if 0<=x2 then if x2<(↑x0.length:Int)then if 0<=u64.wrap x3 then if 0<=u64.wrap ((i64.wrap (i64.wrap (x2*x1)+x3)).tmod (8:Int))then if 0<=i64.wrap ((i64.wrap (i64.wrap (x2*x1)+x3)).tdiv (8:Int))then if i64.wrap ((i64.wrap (i64.wrap (x2*x1)+x3)).tdiv (8:Int))<(↑x4.length:Int)then F105c8 n (x0) (x1) (x2) (i64.wrap (x3+(1:Int))) (x4.set (i64.wrap ((i64.wrap (i64.wrap (x2*x1)+x3)).tdiv (8:Int))).toNat (bits BinOp.or u8 (x4.getD (i64.wrap ((i64.wrap (i64.wrap (x2*x1)+x3)).tdiv (8:Int))).toNat (0:Int)) (u8.wrap (u8.wrap (bits BinOp.and u64 (x0.getD x2.toNat (0:Int)/(2:Int)^min (u64.wrap x3).toNat u64.bits) (1:Int))*(2:Int)^min (u64.wrap ((i64.wrap (i64.wrap (x2*x1)+x3)).tmod (8:Int))).toNat u8.bits))))else none else none else none else none else none else none else none else none else F105c5 n (x0) (x1) (i64.wrap (x2+(1:Int))) (x4):=by kernel_rfl
def F163c2 (n:Nat)(x0 x1:Int):=F163.at qd9 Rkd n 2 ⟨(.one (.int .u64 x0)::uU 2 (.one (.int .i64 x1)::uU 7 [])),[]⟩
theorem F163_run (n:Nat)(a0:Int):F163.run qd9 Rkd n (a0,())=F163c2 n (a0) ((0:Int)):=by kernel_rfl
theorem F163c2_eq (n x0 x1:_):F163c2 (n+1) x0 x1=bif decide ((0:Int)<x0)then F163c2 n (u64.wrap (x0.tdiv (2:Int))) (i64.wrap (x1+(1:Int)))else some ((x1,()),()):=by kernel_rfl
theorem F116_run (n:Nat)(a0:Int):F116.run qwe Rkd n (a0,())=bif decide (a0=(0:Int))then some (((0:Int),()),())else(F163.run Pka Rk6 4000000 (u64.wrap (i64.wrap (a0-(1:Int))),())).bind fun r0=>some ((r0.fst.fst,()),()):=by kernel_rfl
def F115c1 (n:Nat)(x0:List Int):=F115.at [.v (.str)] Rk4 n 1 ⟨(.one (.str x0)::uU 10 []),[]⟩
theorem F115_run (n:Nat)(a0:List Int):F115.run [.v (.str)] Rk4 n (a0,())=F115c1 n (a0):=by kernel_rfl
theorem F115c1_eq (n x0:_):F115c1 (n+1) x0=(F108.run Pka Rk1 4000000 (u64.wrap (↑x0.length:Int),())).bind fun r0=>if x0.length<=lim then(F110.run qs0 Rk1 (400000000:Nat) ([r0.fst.fst,x0],())).bind fun r1=>some ((r1.fst.fst,()),())else none:=by kernel_rfl
def F162c2 (n:Nat)(x0:List (List Int))(x1:List Int)(x2:Int):=F162.at Pk2j Rk2k n 2 ⟨(.one (.data (.sl .str) x0 [])::.one (.str x1)::uU 4 (.one (.int .i64 x2)::uU 13 [])),[]⟩
theorem F162_run (n:Nat)(a0:List (List Int))(a1:List Int):F162.run Pk2j Rk2k n (a0,a1,())=F162c2 n (a0) (a1) ((0:Int)):=by kernel_rfl
theorem F162c2_eq (n x0 x1 x2:_):F162c2 (n+1) x0 x1 x2=bif decide (x2<(↑x0.length:Int))then if 0<=x2 then if x2<(↑x0.length:Int)then bif decide (x0.getD x2.toNat []=x1)then some ((x2,(true,())),())else F162c2 n (x0) (x1) (i64.wrap (x2+(1:Int)))else none else none else some (((0:Int),(false,())),()):=by kernel_rfl
def F114c1 (n:Nat)(x0:List (List Int)):=F114.at Pkq Rkw n 1 ⟨(.one (.data (.sl .str) x0 [])::uU 96 []),[]⟩
def F114c3 (n:Nat)(x0:List (List Int))(x1:Int)(x2:List (List Int)):=F114.at Pkq Rkw n 3 ⟨(.one (.data (.sl .str) x0 [])::uU 3 (.one (.own 0)::.one (.int .i64 x1)::uU 91 [])),[(0,.row 9 .str x2 [] false)]⟩
def F114c6 (n:Nat)(x0:List (List Int))(x1 x2:Int)(x3:List (List Int)):=F114.at Pkq Rkw n 6 ⟨(.one (.data (.sl .str) x0 [])::uU 3 (.one (.own 0)::.one (.int .i64 x1)::.one (.int .i64 x2)::uU 90 [])),[(0,.row 9 .str x3 [] false)]⟩
def F114c17 (n:Nat)(x0:List (List Int))(x1:Int)(x2:List (List Int))(x3:List (Int)):=F114.at Pkq Rkw n 17 ⟨(.one (.data (.sl .str) x0 [])::uU 3 (.one (.own 0)::uU 3 (.one (.own 1)::.one (.int .i64 x1)::uU 87 []))),[(0,.row 9 .str x2 [] false),(1,.row 3 (.int .i64) x3 [] false)]⟩
def F114c8 (n:Nat)(x0:List (List Int))(x1 x2:Int)(x3:List (List Int)):=F114.at Pkq Rkw n 8 ⟨(.one (.data (.sl .str) x0 [])::uU 3 (.one (.own 0)::.one (.int .i64 x1)::.one (.int .i64 x2)::uU 90 [])),[(0,.row 9 .str x3 [] false)]⟩
def F114c9 (n:Nat)(x0:List (List Int))(x1 x2:Int)(x3:List (List Int)):=F114.at Pkq Rkw n 9 ⟨(.one (.data (.sl .str) x0 [])::uU 3 (.one (.own 0)::.one (.int .i64 x1)::.one (.int .i64 x2)::uU 90 [])),[(0,.row 9 .str x3 [] false)]⟩
def F114c11 (n:Nat)(x0:List (List Int))(x1 x2 x3:Int)(x4:List (List Int)):=F114.at Pkq Rkw n 11 ⟨(.one (.data (.sl .str) x0 [])::uU 3 (.one (.own 0)::.one (.int .i64 x1)::.one (.int .i64 x2)::.one (.int .i64 x3)::uU 89 [])),[(0,.row 9 .str x4 [] false)]⟩
theorem F114_run (n:Nat)(a0:List (List Int)):F114.run Pkq Rkw n (a0,())=F114c1 n (a0):=by kernel_rfl
theorem F114c1_eq (n x0:_):F114c1 (n+1) x0=F114c3 n (x0) ((0:Int)) ([]):=by kernel_rfl
theorem F114c3_eq (n x0 x1 x2:_):F114c3 (n+1) x0 x1 x2=bif decide (x1<(↑x0.length:Int))then F114c6 n (x0) (x1) ((↑x2.length:Int)) (x2)else F114c17 n (x0) ((0:Int)) (x2) ([]):=by kernel_rfl
theorem F114c6_eq (n x0 x1 x2 x3:_):F114c6 (n+1) x0 x1 x2 x3=bif decide ((0:Int)<x2)then if 0<=i64.wrap (x2-(1:Int))then if i64.wrap (x2-(1:Int))<(↑x3.length:Int)then if 0<=x1 then if x1<(↑x0.length:Int)then bif Eng.q0s (x0.getD x1.toNat []) (x3.getD (i64.wrap (x2-(1:Int))).toNat [])then F114c6 n (x0) (x1) (i64.wrap (x2-(1:Int))) (x3)else F114c8 n (x0) (x1) (x2) (x3)else none else none else none else none else F114c8 n (x0) (x1) (x2) (x3):=by kernel_rfl
theorem F114c17_eq (n x0 x1 x2 x3:_):F114c17 (n+1) x0 x1 x2 x3=bif decide (x1<(↑x0.length:Int))then if 0<=x1 then if x1<(↑x0.length:Int)then(F162.run Pk2a Rk25 4000000 (x2,x0.getD x1.toNat [],())).bind fun r0=>if x3.length+(1:Nat)<=lim then F114c17 n (x0) (i64.wrap (x1+(1:Int))) (x2) (x3++([r0.fst.fst]:List (Int)))else none else none else none else some ((x2,(x3,())),()):=by kernel_rfl
theorem F114c8_eq (n x0 x1 x2 x3:_):F114c8 (n+1) x0 x1 x2 x3=bif decide ((0:Int)<x2)then if 0<=i64.wrap (x2-(1:Int))then if i64.wrap (x2-(1:Int))<(↑x3.length:Int)then if 0<=x1 then if x1<(↑x0.length:Int)then bif decide (x3.getD (i64.wrap (x2-(1:Int))).toNat []=x0.getD x1.toNat [])then F114c3 n (x0) (i64.wrap (x1+(1:Int))) (x3)else F114c9 n (x0) (x1) (x2) (x3)else none else none else none else none else F114c9 n (x0) (x1) (x2) (x3):=by kernel_rfl
theorem F114c9_eq (n x0 x1 x2 x3:_):F114c9 (n+1) x0 x1 x2 x3=if x3.length+(1:Nat)<=lim then F114c11 n (x0) (x1) (x2) (i64.wrap ((↑(x3++[[]]).length:Int)-(1:Int))) (x3++[[]])else none:=by kernel_rfl
theorem F114c11_eq (n x0 x1 x2 x3 x4:_):F114c11 (n+1) x0 x1 x2 x3 x4=bif decide (x2<x3)then if 0<=i64.wrap (x3-(1:Int))then if i64.wrap (x3-(1:Int))<(↑x4.length:Int)then if 0<=x3 then if x3<(↑x4.length:Int)then F114c11 n (x0) (x1) (x2) (i64.wrap (x3-(1:Int))) (x4.set x3.toNat (x4.getD (i64.wrap (x3-(1:Int))).toNat []))else none else none else none else none else if 0<=x1 then if x1<(↑x0.length:Int)then if 0<=x2 then if x2<(↑x4.length:Int)then F114c3 n (x0) (i64.wrap (x1+(1:Int))) (x4.set x2.toNat (x0.getD x1.toNat []))else none else none else none else none:=by kernel_rfl
def F66c1 (n:Nat)(x0:List (List Int)):=F66.at Pkq Rk4 n 1 ⟨(.one (.data (.sl .str) x0 [])::uU 87 []),[]⟩
def F66c4 (n:Nat)(x0:Int)(x1:List (List Int))(x2:List (Int))(x3:List (List (Int))):=F66.at Pkq Rk4 n 4 ⟨(uU 3 (.one (.own 0)::.one (.own 1)::.one (.own 2)::.one (.int .i64 x0)::uU 81 [])),[(0,.row 9 .str x1 [] false),(1,.row 3 (.int .i64) x2 [] false),(2,.row 29 (.sl (.int .u8)) x3 [] false)]⟩
def F66c10 (n:Nat)(x0:Int)(x1:List (List Int))(x2:List (Int))(x3:List (List (Int)))(x4 x5:List (Int)):=F66.at Pkq Rk4 n 10 ⟨(uU 3 (.one (.own 0)::.one (.own 1)::.one (.own 2)::uU 1 (.one (.own 3)::.one (.own 4)::.one (.int .i64 x0)::uU 78 []))),[(0,.row 9 .str x1 [] false),(1,.row 3 (.int .i64) x2 [] false),(2,.row 29 (.sl (.int .u8)) x3 [] false),(3,.row 83 (.int .u64) x4 [] false),(4,.row 2 (.int .i64) x5 [] false)]⟩
theorem F66_run (n:Nat)(a0:List (List Int)):F66.run Pkq Rk4 n (a0,())=F66c1 n (a0):=by kernel_rfl
theorem F66c1_eq (n x0:_):F66c1 (n+1) x0=(F114.run qgq Rk1t (1000000000:Nat) (x0,())).bind fun r0=>(F108.run Pka Rk1 4000000 (u64.wrap (↑(List.length r0.fst.fst):Int),())).bind fun r1=>F66c4 n ((0:Int)) (r0.fst.fst) (r0.fst.snd.fst) ([r1.fst.fst]):=by kernel_rfl
theorem F66c4_eq (n x0 x1 x2 x3:_):F66c4 (n+1) x0 x1 x2 x3=bif decide (x0<(↑x1.length:Int))then if 0<=x0 then if x0<(↑x1.length:Int)then(F115.run [PK.v Ty.str] Rk1 4000000 (x1.getD x0.toNat [],())).bind fun r2=>if x3.length+(1:Nat)<=lim then F66c4 n (i64.wrap (x0+(1:Int))) (x1) (x2) (x3++([r2.fst.fst]:List (List (Int))))else none else none else none else F66c10 n ((0:Int)) (x1) (x2) (x3) ([]) ([]):=by kernel_rfl
theorem F66c10_eq (n x0 x1 x2 x3 x4 x5:_):F66c10 (n+1) x0 x1 x2 x3 x4 x5=bif decide (x0<(↑x2.length:Int))then if 0<=x0 then if x0<(↑x2.length:Int)then if x4.length+(1:Nat)<=lim then if 0<=x0 then if x0<(↑x2.length:Int)then if x5.length+(1:Nat)<=lim then F66c10 n (i64.wrap (x0+(1:Int))) (x1) (x2) (x3) (x4++[u64.wrap (x2.getD x0.toNat (0:Int))]) (x5++[x2.getD x0.toNat (0:Int)])else none else none else none else none else none else none else(F116.run Pky Rk6 4000000 ((↑x1.length:Int),())).bind fun r3=>(F105.run Pko Rk1 4000000 (x4,r3.fst.fst,())).bind fun r4=>(F63.run Pkc qyo 4000000 (x5,())).bind fun r5=>(F62.run qji Rk1 4000000 (r5.fst.fst,())).bind fun r6=>bif decide ((↑(List.length r6.fst.fst):Int)<(↑(List.length r4.fst.fst):Int))then if x3.length+(1:Nat)<=lim then if(x3++[[(1:Int)]]).length+(1:Nat)<=lim then(F110.run qs0 Rk1 (400000000:Nat) (x3++[[(1:Int)]]++[r6.fst.fst],())).bind fun r7=>some ((r7.fst.fst,()),())else none else none else if x3.length+(1:Nat)<=lim then if(x3++[[(0:Int)]]).length+(1:Nat)<=lim then(F110.run qs0 Rk1 (400000000:Nat) (x3++[[(0:Int)]]++[r4.fst.fst],())).bind fun r8=>some ((r8.fst.fst,()),())else none else none:=by kernel_rfl
theorem F160_run (n:Nat)(a0 a1:Int):F160.run Pkv qgd n (a0,a1,())=bif decide (a1=(64:Int))then some (((0:Int),()),())else if(0:Int)<=u64.wrap a1 then some ((a0/(2:Int)^min (u64.wrap a1).toNat u64.bits,()),())else none:=by kernel_rfl
theorem F159_run (n:Nat)(a0 a1:Int):F159.run Pkv qgd n (a0,a1,())=bif decide (a1=(64:Int))then some ((a0,()),())else if(0:Int)<=u64.wrap a1 then some ((bits BinOp.and u64 a0 (u64.wrap (u64.wrap ((1:Int)*(2:Int)^min (u64.wrap a1).toNat u64.bits)-(1:Int))),()),())else none:=by kernel_rfl
def F158c3 (n:Nat)(x0:List (Int))(x1 x2:Int):=F158.at Pke Rkd n 3 ⟨(.one (.data (.sl (.int .i64)) x0 [])::uU 2 (.one (.int .i64 x1)::.one (.int .i64 x2)::uU 21 [])),[]⟩
def F158c4 (n:Nat)(x0:List (Int))(x1 x2:Int):=F158.at Pke Rkd n 4 ⟨(.one (.data (.sl (.int .i64)) x0 [])::uU 2 (.one (.int .i64 x1)::.one (.int .i64 x2)::uU 21 [])),[]⟩
theorem F158_run (n:Nat)(a0:List (Int)):F158.run Pke Rkd n (a0,())=F158c3 n (a0) ((0:Int)) ((0:Int)):=by kernel_rfl
theorem F158c3_eq (n x0 x1 x2:_):F158c3 (n+1) x0 x1 x2=bif decide (x2<(↑x0.length:Int))then bif decide (x2=(0:Int))then if 0<=x2 then if x2<(↑x0.length:Int)then F158c4 n (x0) (x0.getD x2.toNat (0:Int)) (x2)else none else none else if 0<=x2 then if x2<(↑x0.length:Int)then bif decide (x0.getD x2.toNat (0:Int)<x1)then if 0<=x2 then if x2<(↑x0.length:Int)then F158c4 n (x0) (x0.getD x2.toNat (0:Int)) (x2)else none else none else F158c4 n (x0) (x1) (x2)else none else none else some ((x1,()),()):=by kernel_rfl
theorem F158c4_eq (n x0 x1 x2:_):F158c4 (n+1) x0 x1 x2=F158c3 n (x0) (x1) (i64.wrap (x2+(1:Int))):=by kernel_rfl
def F112c1 (n:Nat)(x0:List (Int))(x1:Int):=F112.at qsb Rk4 n 1 ⟨(.one (.data (.sl (.int .i64)) x0 [])::.one (.int .i64 x1)::uU 71 []),[]⟩
def F112c6 (n:Nat)(x0:List (Int))(x1 x2:Int)(x3 x4:Int)(x5 x6:List (Int)):=F112.at qsb Rk4 n 6 ⟨(.one (.data (.sl (.int .i64)) x0 [])::.one (.int .i64 x1)::uU 3 (.one (.int .i64 x2)::.one (.int .i64 x3)::.one (.own 0)::.one (.own 1)::.one (.int .i64 x4)::uU 63 [])),[(0,.row 83 (.int .u64) x5 [] false),(1,.row 5 (.int .u8) x6 [] false)]⟩
theorem F112_run (n:Nat)(a0:List (Int))(a1:Int):F112.run qsb Rk4 n (a0,a1,())=F112c1 n (a0) (a1):=by kernel_rfl
theorem F112c1_eq (n x0 x1:_):F112c1 (n+1) x0 x1=(F158.run Pkc Rk6 4000000 (x0,())).bind fun r0=>F112c6 n (x0) (x1) (r0.fst.fst) ((0:Int)) ((0:Int)) ([]) ([]):=by kernel_rfl
theorem F112c6_eq (n x0 x1 x2 x3 x4 x5 x6:_):F112c6 (n+1) x0 x1 x2 x3 x4 x5 x6=bif decide (x4<(↑x0.length:Int))then if 0<=x4 then if x4<(↑x0.length:Int)then(F159.run Pkj Rkf 4000000 (u64.wrap (u64.wrap (x0.getD x4.toNat (0:Int))-u64.wrap x2),x1,())).bind fun r1=>if x5.length+(1:Nat)<=lim then(F160.run Pkj Rkf 4000000 (u64.wrap (u64.wrap (x0.getD x4.toNat (0:Int))-u64.wrap x2),x1,())).bind fun r2=>bif !decide (r2.fst.fst=(0:Int))then(F108.run Pka Rk1 4000000 (u64.wrap x4,())).bind fun r3=>if x6.length+List.length r3.fst.fst<=lim then(F108.run Pka Rk1 4000000 (r2.fst.fst,())).bind fun r4=>if(x6++r3.fst.fst).length+List.length r4.fst.fst<=lim then F112c6 n (x0) (x1) (x2) (i64.wrap (x3+(1:Int))) (i64.wrap (x4+(1:Int))) (x5++([r1.fst.fst]:List (Int))) (x6++r3.fst.fst++r4.fst.fst)else none else none else F112c6 n (x0) (x1) (x2) (x3) (i64.wrap (x4+(1:Int))) (x5++([r1.fst.fst]:List (Int))) (x6)else none else none else none else(F109.run Pky Rkf 4000000 (x2,())).bind fun r5=>(F108.run Pka Rk1 4000000 (r5.fst.fst,())).bind fun r6=>(F108.run Pka Rk1 4000000 (u64.wrap x1,())).bind fun r7=>if List.length r6.fst.fst+List.length r7.fst.fst<=lim then(F108.run Pka Rk1 4000000 (u64.wrap x3,())).bind fun r8=>if(r6.fst.fst++r7.fst.fst).length+List.length r8.fst.fst<=lim then(F105.run Pko Rk1 4000000 (x5,x1,())).bind fun r9=>if(r6.fst.fst++r7.fst.fst++r8.fst.fst).length+List.length r9.fst.fst<=lim then if(r6.fst.fst++r7.fst.fst++r8.fst.fst++r9.fst.fst).length+x6.length<=lim then some ((r6.fst.fst++r7.fst.fst++r8.fst.fst++r9.fst.fst++x6,()),())else none else none else none else none:=by kernel_rfl
def F111c3 (n:Nat)(x0:List (Int))(x1 x2 x3:Int):=F111.at Pke Rk1y n 3 ⟨(.one (.data (.sl (.int .i64)) x0 [])::uU 3 (.one (.int .i64 x1)::.one (.int .i64 x2)::.one (.int .i64 x3)::uU 20 [])),[]⟩
theorem F111_run (n:Nat)(a0:List (Int)):F111.run Pke Rk1y n (a0,())=(F112.run Pkt Rk1 4000000 (a0,(0:Int),())).bind fun r0=>F111c3 n (a0) ((0:Int)) ((↑(List.length r0.fst.fst):Int)) ((1:Int)):=by kernel_rfl
theorem F111c3_eq (n x0 x1 x2 x3:_):F111c3 (n+1) x0 x1 x2 x3=bif decide (x3<=(64:Int))then(F112.run Pkt Rk1 4000000 (x0,x3,())).bind fun r1=>bif decide ((↑(List.length r1.fst.fst):Int)<x2)then F111c3 n (x0) (x3) ((↑(List.length r1.fst.fst):Int)) (i64.wrap (x3+(1:Int)))else F111c3 n (x0) (x1) (x2) (i64.wrap (x3+(1:Int)))else(F158.run Pkc Rk6 4000000 (x0,())).bind fun r2=>some ((r2.fst.fst,(x1,())),()):=by kernel_rfl
def F64c1 (n:Nat)(x0:List (Int)):=F64.at Pke Rk4 n 1 ⟨(.one (.data (.sl (.int .i64)) x0 [])::uU 12 []),[]⟩
theorem F64_run (n:Nat)(a0:List (Int)):F64.run Pke Rk4 n (a0,())=F64c1 n (a0):=by kernel_rfl
theorem F64c1_eq (n x0:_):F64c1 (n+1) x0=(F111.run Pkc Rk26 4000000 (x0,())).bind fun r0=>(F112.run Pkt Rk1 4000000 (x0,r0.fst.snd.fst,())).bind fun r1=>some ((r1.fst.fst,()),()):=by kernel_rfl
def F161c1 (n:Nat)(x0:List (Int)):=F161.at Pke qm2 n 1 ⟨(.one (.data (.sl (.int .i64)) x0 [])::uU 24 []),[]⟩
def F161c3 (n:Nat)(x0:List (Int))(x1:Int)(x2:List (Int)):=F161.at Pke qm2 n 3 ⟨(.one (.data (.sl (.int .i64)) x0 [])::uU 2 (.one (.own 0)::.one (.int .i64 x1)::uU 20 [])),[(0,.row 2 (.int .i64) x2 [] false)]⟩
theorem F161_run (n:Nat)(a0:List (Int)):F161.run Pke qm2 n (a0,())=F161c1 n (a0):=by kernel_rfl
theorem F161c1_eq (n x0:_):F161c1 (n+1) x0=F161c3 n (x0) ((1:Int)) ([]):=by kernel_rfl
theorem F161c3_eq (n x0 x1 x2:_):F161c3 (n+1) x0 x1 x2=bif decide (x1<(↑x0.length:Int))then if 0<=x1 then if x1<(↑x0.length:Int)then if 0<=i64.wrap (x1-(1:Int))then if i64.wrap (x1-(1:Int))<(↑x0.length:Int)then if x2.length+(1:Nat)<=lim then F161c3 n (x0) (i64.wrap (x1+(1:Int))) (x2++[i64.wrap (x0.getD x1.toNat (0:Int)-x0.getD (i64.wrap (x1-(1:Int))).toNat (0:Int))])else none else none else none else none else none else some ((x2,()),()):=by kernel_rfl
def F113c1 (n:Nat)(x0:List (Int))(x1:Int):=F113.at qsb Rk4 n 1 ⟨(.one (.data (.sl (.int .i64)) x0 [])::.one (.int .i64 x1)::uU 33 []),[]⟩
def F113c4 (n:Nat)(x0:Int)(x1:List (Int))(x2:Int)(x3:List (Int)):=F113.at qsb Rk4 n 4 ⟨(uU 1 (.one (.int .i64 x0)::uU 3 (.one (.own 0)::.one (.data (.sl (.int .i64)) x1 [])::.one (.int .i64 x2)::uU 27 []))),[(0,.row 5 (.int .u8) x3 [] false)]⟩
def F113c6 (n:Nat)(x0:Int)(x1:List (Int))(x2:Int)(x3:List (Int)):=F113.at qsb Rk4 n 6 ⟨(uU 1 (.one (.int .i64 x0)::uU 3 (.one (.own 0)::.one (.data (.sl (.int .i64)) x1 [])::.one (.int .i64 x2)::uU 27 []))),[(0,.row 5 (.int .u8) x3 [] false)]⟩
def F113c4' (n:Nat)(x0 x1:Int)(x2 x3:List (Int)):=F113.at qsb Rk4 n 4 ⟨(uU 1 (.one (.int .i64 x0)::uU 3 (.one (.own 0)::.one (.own 1)::.one (.int .i64 x1)::uU 27 []))),[(0,.row 5 (.int .u8) x2 [] false),(1,.row 2 (.int .i64) x3 [] false)]⟩
def F113c6' (n:Nat)(x0 x1:Int)(x2 x3:List (Int)):=F113.at qsb Rk4 n 6 ⟨(uU 1 (.one (.int .i64 x0)::uU 3 (.one (.own 0)::.one (.own 1)::.one (.int .i64 x1)::uU 27 []))),[(0,.row 5 (.int .u8) x2 [] false),(1,.row 2 (.int .i64) x3 [] false)]⟩
theorem F113_run (n:Nat)(a0:List (Int))(a1:Int):F113.run qsb Rk4 n (a0,a1,())=F113c1 n (a0) (a1):=by kernel_rfl
theorem F113c1_eq (n x0 x1:_):F113c1 (n+1) x0 x1=F113c4 n (x1) (x0) ((0:Int)) ([u8.wrap x1]):=by kernel_rfl
theorem F113c4_eq (n x0 x1 x2 x3:_):F113c4 (n+1) x0 x1 x2 x3=bif decide (x2<x0)then bif decide ((0:Int)<(↑x1.length:Int))then F113c6 n (x0) (x1) (x2) (x3)else(F64.run Pkc Rk1 4000000 (x1,())).bind fun r0=>if x3.length+List.length r0.fst.fst<=lim then some ((x3++r0.fst.fst,()),())else none else(F64.run Pkc Rk1 4000000 (x1,())).bind fun r1=>if x3.length+List.length r1.fst.fst<=lim then some ((x3++r1.fst.fst,()),())else none:=by kernel_rfl
theorem F113c6_eq (n x0 x1 x2 x3:_):F113c6 (n+1) x0 x1 x2 x3=if(0:Int)<(↑x1.length:Int)then(F109.run Pky Rkf 4000000 (x1.getD (Int.toNat (0:Int)) (0:Int),())).bind fun r2=>(F108.run Pka Rk1 4000000 (r2.fst.fst,())).bind fun r3=>if x3.length+List.length r3.fst.fst<=lim then(F161.run Pkc qo2 4000000 (x1,())).bind fun r4=>F113c4' n (x0) (i64.wrap (x2+(1:Int))) (x3++r3.fst.fst) (r4.fst.fst)else none else none:=by kernel_rfl
theorem F113c4'_eq (n x0 x1 x2 x3:_):F113c4' (n+1) x0 x1 x2 x3=bif decide (x1<x0)then bif decide ((0:Int)<(↑x3.length:Int))then F113c6' n (x0) (x1) (x2) (x3)else(F64.run Pkc Rk1 4000000 (x3,())).bind fun r5=>if x2.length+List.length r5.fst.fst<=lim then some ((x2++r5.fst.fst,()),())else none else(F64.run Pkc Rk1 4000000 (x3,())).bind fun r6=>if x2.length+List.length r6.fst.fst<=lim then some ((x2++r6.fst.fst,()),())else none:=by kernel_rfl
theorem F113c6'_eq (n x0 x1 x2 x3:_):F113c6' (n+1) x0 x1 x2 x3=if(0:Int)<(↑x3.length:Int)then(F109.run Pky Rkf 4000000 (x3.getD (Int.toNat (0:Int)) (0:Int),())).bind fun r7=>(F108.run Pka Rk1 4000000 (r7.fst.fst,())).bind fun r8=>if x2.length+List.length r8.fst.fst<=lim then(F161.run Pkc qo2 4000000 (x3,())).bind fun r9=>F113c4' n (x0) (i64.wrap (x1+(1:Int))) (x2++r8.fst.fst) (r9.fst.fst)else none else none:=by kernel_rfl
def F65c1 (n:Nat)(x0:List (Int)):=F65.at Pke Rk4 n 1 ⟨(.one (.data (.sl (.int .i64)) x0 [])::uU 22 []),[]⟩
theorem F65_run (n:Nat)(a0:List (Int)):F65.run Pke Rk4 n (a0,())=F65c1 n (a0):=by kernel_rfl
theorem F65c1_eq (n x0:_):F65c1 (n+1) x0=bif decide ((65536:Int)<(↑x0.length:Int))then some (([],()),())else(F113.run Pkt Rk1 4000000 (x0,(1:Int),())).bind fun r0=>bif decide ((↑x0.length:Int)<(2:Int))then some ((r0.fst.fst,()),())else(F113.run Pkt Rk1 4000000 (x0,(2:Int),())).bind fun r1=>bif decide ((↑(List.length r1.fst.fst):Int)<(↑(List.length r0.fst.fst):Int))then some ((r1.fst.fst,()),())else some ((r0.fst.fst,()),()):=by kernel_rfl
def F107c1 (n:Nat)(x0 x1:Int):=F107.at Pkv Rk4 n 1 ⟨(.one (.int .u64 x0)::.one (.int .i64 x1)::uU 25 []),[]⟩
def F107c3 (n:Nat)(x0 x1:Int):=F107.at Pkv Rk4 n 3 ⟨(.one (.int .u64 x0)::.one (.int .i64 x1)::uU 25 []),[]⟩
def F107c5 (n:Nat)(x0 x1 x2:Int)(x3:List (Int)):=F107.at Pkv Rk4 n 5 ⟨(.one (.int .u64 x0)::.one (.int .i64 x1)::uU 3 (.one (.own 0)::.one (.int .i64 x2)::uU 20 [])),[(0,.row 5 (.int .u8) x3 [] false)]⟩
theorem F107_run (n:Nat)(a0 a1:Int):F107.run Pkv Rk4 n (a0,a1,())=F107c1 n (a0) (a1):=by kernel_rfl
theorem F107c1_eq (n x0 x1:_):F107c1 (n+1) x0 x1=bif decide (x1<(1:Int))then some (([],()),())else bif decide ((8:Int)<x1)then some (([],()),())else F107c3 n (x0) (x1):=by kernel_rfl
theorem F107c3_eq (n x0 x1:_):F107c3 (n+1) x0 x1=F107c5 n (x0) (x1) ((0:Int)) ([]):=by kernel_rfl
theorem F107c5_eq (n x0 x1 x2 x3:_):F107c5 (n+1) x0 x1 x2 x3=bif decide (x2<x1)then if x3.length+(1:Nat)<=lim then F107c5 n (u64.wrap (x0.tdiv (256:Int))) (x1) (i64.wrap (x2+(1:Int))) (x3++[u8.wrap (x0.tmod (256:Int))])else none else some ((x3,()),()):=by kernel_rfl
def F106c1 (n:Nat)(x0:List (Int)):=F106.at Pke Rk2x n 1 ⟨(.one (.data (.sl (.int .i64)) x0 [])::uU 19 []),[]⟩
def F106c3 (n:Nat)(x0:List (Int))(x1:Int)(x2:List (Int)):=F106.at Pke Rk2x n 3 ⟨(.one (.data (.sl (.int .i64)) x0 [])::uU 2 (.one (.own 0)::.one (.int .i64 x1)::uU 15 [])),[(0,.row 83 (.int .u64) x2 [] false)]⟩
theorem F106_run (n:Nat)(a0:List (Int)):F106.run Pke Rk2x n (a0,())=F106c1 n (a0):=by kernel_rfl
theorem F106c1_eq (n x0:_):F106c1 (n+1) x0=F106c3 n (x0) ((0:Int)) ([]):=by kernel_rfl
theorem F106c3_eq (n x0 x1 x2:_):F106c3 (n+1) x0 x1 x2=bif decide (x1<(↑x0.length:Int))then if 0<=x1 then if x1<(↑x0.length:Int)then if x2.length+(1:Nat)<=lim then F106c3 n (x0) (i64.wrap (x1+(1:Int))) (x2++[u64.wrap (x0.getD x1.toNat (0:Int))])else none else none else none else some ((x2,()),()):=by kernel_rfl
def F61c1 (n:Nat)(x0:Vec):=F61.at Pkx Rk4 n 1 ⟨(uU 1 (.one (.bptr 0 0)::uU 52 [])),[(0,.whole (.nm 0) x0 [])]⟩
def F61c5 (n:Nat)(x0:Int)(x1:Vec)(x2:List (Int)):=F61.at Pkx Rk4 n 5 ⟨(uU 1 (.one (.bptr 0 0)::uU 1 (.one (.own 1)::.one (.int .i64 x0)::uU 49 []))),[(0,.whole (.nm 0) x1 []),(1,.row 5 (.int .u8) x2 [] false)]⟩
def F61c9 (n:Nat)(x0:Int)(x1:Vec)(x2:List (Int)):=F61.at Pkx Rk4 n 9 ⟨(uU 1 (.one (.bptr 0 0)::uU 1 (.one (.own 1)::uU 1 (.one (.int .i64 x0)::uU 48 [])))),[(0,.whole (.nm 0) x1 []),(1,.row 5 (.int .u8) x2 [] false)]⟩
theorem F61_run (n:Nat)(a0:Vec):F61.run Pkx Rk4 n (a0,())=F61c1 n (a0):=by kernel_rfl
theorem F61c1_eq (n x0:_):F61c1 (n+1) x0=bif decide (x0.f_Type=(1:Int))then(F106.run Pkc Rk2u 4000000 (x0.ints,())).bind fun r0=>(F105.run Pko Rk1 4000000 (r0.fst.fst,(1:Int),())).bind fun r1=>some ((r1.fst.fst,()),())else F61c5 n ((0:Int)) (x0) ([]):=by kernel_rfl
theorem F61c5_eq (n x0 x1 x2:_):F61c5 (n+1) x0 x1 x2=bif decide (x0<(↑x1.ints.length:Int))then if 0<=x0 then if x0<(↑x1.ints.length:Int)then(F107.run Pkj Rk1 4000000 (u64.wrap (x1.ints.getD x0.toNat (0:Int)),(8:Int),())).bind fun r2=>if x2.length+List.length r2.fst.fst<=lim then F61c5 n (i64.wrap (x0+(1:Int))) (x1) (x2++r2.fst.fst)else none else none else none else F61c9 n ((0:Int)) (x1) (x2):=by kernel_rfl
theorem F61c9_eq (n x0 x1 x2:_):F61c9 (n+1) x0 x1 x2=bif decide (x0<(↑x1.texts.length:Int))then if 0<=x0 then if x0<(↑x1.texts.length:Int)then(F108.run Pka Rk1 4000000 (u64.wrap (↑(x1.texts.getD x0.toNat []).length:Int),())).bind fun r3=>if x2.length+List.length r3.fst.fst<=lim then if 0<=x0 then if x0<(↑x1.texts.length:Int)then if(x2++r3.fst.fst).length+(x1.texts.getD x0.toNat []).length<=lim then F61c9 n (i64.wrap (x0+(1:Int))) (x1) (x2++r3.fst.fst++x1.texts.getD x0.toNat [])else none else none else none else none else none else none else some ((x2,()),()):=by kernel_rfl
def F35c1 (n:Nat)(x0:Int)(x1:Vec):=F35.at qwd Rk4 n 1 ⟨(uU 1 (.one (.int .i64 x0)::.one (.bptr 0 0)::uU 47 [])),[(0,.whole (.nm 0) x1 [])]⟩
theorem F35_run (n:Nat)(a0:Vec)(a1:Int):F35.run qwd Rk4 n (a0,a1,())=F35c1 n (a1) (a0):=by kernel_rfl
theorem F35c1_eq (n x0 x1:_):F35c1 (n+1) x0 x1=bif decide (x0=(0:Int))then(F61.run qe5 Rk1 4000000 (x1,())).bind fun r0=>if(1:Nat)+List.length r0.fst.fst<=lim then some (([u8.wrap x0]++r0.fst.fst,()),())else none else bif decide (x0=(1:Int))then(F63.run Pkc qyo 4000000 (x1.ints,())).bind fun r1=>(F62.run qji Rk1 4000000 (r1.fst.fst,())).bind fun r2=>if(1:Nat)+List.length r2.fst.fst<=lim then some (([u8.wrap x0]++r2.fst.fst,()),())else none else bif decide (x0=(2:Int))then(F64.run Pkc Rk1 4000000 (x1.ints,())).bind fun r3=>if(1:Nat)+List.length r3.fst.fst<=lim then some (([u8.wrap x0]++r3.fst.fst,()),())else none else bif decide (x0=(3:Int))then(F65.run Pkc Rk1 4000000 (x1.ints,())).bind fun r4=>if(1:Nat)+List.length r4.fst.fst<=lim then some (([u8.wrap x0]++r4.fst.fst,()),())else none else bif decide (x0=(4:Int))then(F66.run qgq Rk1 4000000 (x1.texts,())).bind fun r5=>if(1:Nat)+List.length r5.fst.fst<=lim then some (([u8.wrap x0]++r5.fst.fst,()),())else none else(F67.run qgq Rk1 (400000000:Nat) (x1.texts,())).bind fun r6=>if(1:Nat)+List.length r6.fst.fst<=lim then some (([u8.wrap x0]++r6.fst.fst,()),())else none:=by kernel_rfl
def F25c11 (n:Nat) :=F25.at Pkz Rkk n 11 ⟨(uU 23 []),[]⟩
theorem F25_run (n:Nat)(a0 a1:Int):F25.run Pkz Rkk n (a0,a1,())=bif decide (a1=(0:Int))then some ((true,()),())else bif decide (a1=(1:Int))then bif decide (a1=(1:Int))then bif decide (a0=(1:Int))then some ((true,()),())else some ((decide (a0=(2:Int)),()),())else bif decide (a1=(4:Int))then bif decide (a1=(4:Int))then some ((decide (a0=(3:Int)),()),())else F25c11 n else bif decide (a1=(5:Int))then some ((decide (a0=(3:Int)),()),())else F25c11 n else bif decide (a1=(2:Int))then bif decide (a1=(2:Int))then bif decide (a0=(1:Int))then some ((true,()),())else some ((decide (a0=(2:Int)),()),())else bif decide (a1=(4:Int))then bif decide (a1=(4:Int))then some ((decide (a0=(3:Int)),()),())else F25c11 n else bif decide (a1=(5:Int))then some ((decide (a0=(3:Int)),()),())else F25c11 n else bif decide (a1=(3:Int))then bif decide (a0=(1:Int))then some ((true,()),())else some ((decide (a0=(2:Int)),()),())else bif decide (a1=(4:Int))then bif decide (a1=(4:Int))then some ((decide (a0=(3:Int)),()),())else F25c11 n else bif decide (a1=(5:Int))then some ((decide (a0=(3:Int)),()),())else F25c11 n :=by kernel_rfl
theorem F25c11_eq (n:Nat) :F25c11 (n+1) =some ((false,()),()):=by kernel_rfl
end
end Go.Proofs.Tryz
