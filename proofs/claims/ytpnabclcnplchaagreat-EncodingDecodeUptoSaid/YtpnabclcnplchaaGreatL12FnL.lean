/- The functions of the program as the engine follows them (printed by a program of ours): their code, what is known of them, and the equations of their runs. -/
import Derived.Test.YtpnabclcnplchaaGreatL12FnA
set_option linter.unusedVariables false
set_option maxRecDepth 20000
namespace Go.Proofs.Tryz
open Go.Eng
noncomputable section
def F28:Eng.Fn NN:=mkF [] [] [.v (.nm 4),.v (.int .i64)] f28 [.tmp 4] 27
def sp28:Eng.Spec NN:=F28.spec [.v (.nm 4),.v (.int .i64)] Rkm 4000000
theorem z13y:Eng.Good prog 28 sp28:=gF (fn:=f28) fits q07 .nil (by kernel_rfl)
def F47:Eng.Fn NN:=mkF [(28,sp28)] [(3,[1,2,5,6]),(5,[1,2,5,6])] [.v (.nm 4),.v (.int .i64)] f47 [.tmp 4] 24
def sp47:Eng.Spec NN:=F47.spec [.v (.nm 4),.v (.int .i64)] Rke 4000000
theorem z14a:Eng.Good prog 47 sp47:=gF (fn:=f47) fits q07 (.cons z13y .nil) (by kernel_rfl)
def F32:Eng.Fn NN:=mkF [(47,sp47)] [] [.v (.nm 4)] f32 [.tmp 2] 7
def sp32:Eng.Spec NN:=F32.spec [.v (.nm 4)] Rke 4000000
theorem z140:Eng.Good prog 32 sp32:=gF (fn:=f32) fits q07 (.cons z14a .nil) (by kernel_rfl)
def F27:Eng.Fn NN:=mkF [] [(3,[1])] [.v (.nm 4)] f27 [.tmp 2] 41
def sp27:Eng.Spec NN:=F27.spec [.v (.nm 4)] Rkm 4000000
theorem z13x:Eng.Good prog 27 sp27:=gF (fn:=f27) fits q07 .nil (by kernel_rfl)
def F20:Eng.Fn NN:=mkF [] [(3,[2,3]),(4,[2,3,5]),(6,[2,3,5]),(8,[2,3]),(9,[2,3,6]),(11,[2,3,6]),(13,[2,3]),(14,[2,3,7]),(16,[2,3,7])] [.v (.nm 0),.v (.nm 0)] f20 [.tmp 4] 115
def sp20:Eng.Spec NN:=F20.spec qqv Rkm 4000000
theorem qy3:Eng.Good prog 20 sp20:=gF (fn:=f20) fits q07 .nil (by kernel_rfl)
def F40:Eng.Fn NN:=mkF [] [] [.v (.sl (.int .u8)),.v (.sl (.int .u8))] f40 [.tmp 4] 10
def sp40:Eng.Spec NN:=F40.spec Pk2z Rkm 4000000
theorem qy5:Eng.Good prog 40 sp40:=gF (fn:=f40) fits q07 .nil (by kernel_rfl)
def F121:Eng.Fn NN:=mkF [] [(3,[0,1]),(5,[0,1,7,18]),(12,[0,1,7,8,9,18]),(16,[1,7,8])] [.v (.sl (.int .u8)),.v (.int .i64)] f121 [.tmp 4,.tmp 5,.tmp 6] 61
def qkr:Eng.Spec NN:=F121.spec Pkb Rkr 4000000
theorem q9c:Eng.Good prog 121 qkr:=gF (fn:=f121) fits q07 .nil (by kernel_rfl)
def F131:Eng.Fn NN:=mkF [(156,z12c),(121,qkr)] [(6,[0,2,3,11,12]),(17,[12,14,16])] [.v (.sl (.int .u8)),.v (.int .i64),.v (.int .i64),.v (.str)] f131 [.tmp 8,.tmp 9,.tmp 10] 98
def z161:Eng.Spec NN:=F131.spec Pkz qzc 4000000
theorem z10d:Eng.Good prog 131 z161:=gF (fn:=f131) fits q07 (.cons qsg (.cons q9c .nil)) (by kernel_rfl)
def F130:Eng.Fn NN:=mkF [] [] [.v (.sl (.int .u8)),.v (.int .i64),.v (.int .i64)] f130 [.tmp 6] 23
def z160:Eng.Spec NN:=F130.spec Pk0 Rkm 4000000
theorem z10c:Eng.Good prog 130 z160:=gF (fn:=f130) fits q07 .nil (by kernel_rfl)
def F75:Eng.Fn NN:=mkF [(131,z161),(130,z160)] [(1,[0,1,2]),(6,[0,1,9,10,20,21])] [.v (.sl (.int .u8)),.v (.int .i64),.v (.int .i64)] f75 [.tmp 6,.tmp 7,.tmp 8] 45
def sp75:Eng.Spec NN:=F75.spec Pk0 Rk7 4000000
theorem z14l:Eng.Good prog 75 sp75:=gF (fn:=f75) fits q07 (.cons z10d (.cons z10c .nil)) (by kernel_rfl)
def F166:Eng.Fn NN:=mkF [] [(3,[0,3,6,7,8]),(7,[0,3,5,6,7,8])] [.v (.sl (.nm 5))] f166 [.tmp 2] 43
def z16p:Eng.Spec NN:=F166.spec Pks Rkm 4000000
theorem z111:Eng.Good prog 166 z16p:=gF (fn:=f166) fits q07 .nil (by kernel_rfl)
def F123:Eng.Fn NN:=mkF [(166,z16p)] [(1,[0]),(5,[4,10,11,12]),(8,[4,6,10,11,12,17,18])] [.v (.sl (.nm 5))] f123 [.tmp 2,.tmp 3] 28
def z129:Eng.Spec NN:=F123.spec Pks qv5 4000000
theorem qsd:Eng.Good prog 123 z129:=gF (fn:=f123) fits q07 (.cons z111 .nil) (by kernel_rfl)
def F125:Eng.Fn NN:=mkF [] [] [.v (.int .u64)] f125 [.tmp 2] 11
def qx1:Eng.Spec NN:=F125.spec qci Rke 4000000
theorem qm4:Eng.Good prog 125 qx1:=gF (fn:=f125) fits q07 .nil (by kernel_rfl)
def F122:Eng.Fn NN:=mkF [(125,qx1),(121,qkr)] [(1,[0,1]),(9,[0,8,9,10,11,12,29,30]),(16,[0,8,10,11,12,14,29,30]),(20,[0,8,9,10,11,12,14,15,29,30]),(24,[8,9,10])] [.v (.sl (.int .u8)),.v (.int .i64)] f122 [.tmp 4,.tmp 5,.tmp 6] 85
def z128:Eng.Spec NN:=F122.spec Pkb Rkk 4000000
theorem qsc:Eng.Good prog 122 z128:=gF (fn:=f122) fits q07 (.cons qm4 (.cons q9c .nil)) (by kernel_rfl)
def F129:Eng.Fn NN:=mkF [(123,z129),(122,z128)] [(1,[0,1,2]),(11,[10,13,38,39,40])] [.v (.sl (.int .u8)),.v (.int .i64),.v (.int .i64)] f129 [.tmp 6,.tmp 7,.tmp 8] 52
def z15z:Eng.Spec NN:=F129.spec Pk0 Rko 4000000
theorem z10b:Eng.Good prog 129 z15z:=gF (fn:=f129) fits q07 (.cons qsd (.cons qsc .nil)) (by kernel_rfl)
def F165:Eng.Fn NN:=mkF [] [(3,[0,1,2,7,8])] [.v (.sl (.int .u8)),.v (.int .i64),.v (.int .i64)] f165 [.tmp 6] 44
def z16o:Eng.Spec NN:=F165.spec Pk0 qff 4000000
theorem z110:Eng.Good prog 165 z16o:=gF (fn:=f165) fits q07 .nil (by kernel_rfl)
def F119:Eng.Fn NN:=mkF [(165,z16o),(150,qx3),(118,qmt)] [(1,[0,1,2]),(11,[0,1,2]),(13,[0,2,10,48,49])] [.v (.sl (.int .u8)),.v (.int .i64),.v (.int .i64)] f119 [.tmp 6,.tmp 7] 63
def qx0:Eng.Spec NN:=F119.spec Pk0 qv4 4000000
theorem qm3:Eng.Good prog 119 qx0:=gF (fn:=f119) fits q07 (.cons z110 (.cons qm6 (.cons qbe .nil))) (by kernel_rfl)
def F128:Eng.Fn NN:=mkF [(119,qx0),(102,z125),(118,qmt)] [(1,[0,1,2,3])] [.v (.sl (.int .u8)),.v (.int .i64),.v (.int .i64),.v (.int .i64)] f128 [.tmp 8,.tmp 9,.tmp 10] 42
def z15y:Eng.Spec NN:=F128.spec Pkg Rko 4000000
theorem z10a:Eng.Good prog 128 z15y:=gF (fn:=f128) fits q07 (.cons qm3 (.cons qs9 (.cons qbe .nil))) (by kernel_rfl)
def F127:Eng.Fn NN:=mkF [(121,qkr)] [(1,[0,1,2]),(8,[0,1,11,32,33]),(21,[0,1,11,16,32,33])] [.v (.sl (.int .u8)),.v (.int .i64),.v (.int .i64)] f127 [.tmp 6,.tmp 7,.tmp 8] 85
def z15x:Eng.Spec NN:=F127.spec Pk0 Rk7 4000000
theorem z109:Eng.Good prog 127 z15x:=gF (fn:=f127) fits q07 (.cons q9c .nil) (by kernel_rfl)
def F74:Eng.Fn NN:=mkF [(56,sp56),(129,z15z),(128,z15y),(127,z15x)] [(1,[0,1,2]),(3,[0,1,2]),(15,[0,1,9,10,11,12]),(19,[0,1,9,10,13,78,79,80])] [.v (.sl (.int .u8)),.v (.int .i64),.v (.int .i64)] f74 [.tmp 6,.tmp 7,.tmp 8] 108
def sp74:Eng.Spec NN:=F74.spec Pk0 Rk7 4000000
theorem z14k:Eng.Good prog 74 sp74:=gF (fn:=f74) fits q07 (.cons qy9 (.cons z10b (.cons z10a (.cons z109 .nil)))) (by kernel_rfl)
def F126:Eng.Fn NN:=mkF [] [(1,[0,1]),(4,[0,5,15,16,17])] [.v (.int .i64),.v (.sl (.int .i64))] f126 [.tmp 4] 30
def z15w:Eng.Spec NN:=F126.spec qvd ql6 4000000
theorem z108:Eng.Good prog 126 z15w:=gF (fn:=f126) fits q07 .nil (by kernel_rfl)
def F124:Eng.Fn NN:=mkF [(125,qx1),(121,qkr)] [] [.v (.sl (.int .u8)),.v (.int .i64),.v (.int .i64)] f124 [.cell 6 146,.tmp 7] 63
def z15v:Eng.Spec NN:=F124.spec Pk0 [.v (.nm 7),.v (.int .i64)] 4000000
theorem z107:Eng.Good prog 124 z15v:=gF (fn:=f124) fits q07 (.cons qm4 (.cons q9c .nil)) (by kernel_rfl)
def F72:Eng.Fn NN:=mkF [(52,sp52),(119,qx0),(121,qkr),(118,qmt),(124,z15v)] [(1,[0,1,2]),(3,[0,1,2]),(13,[0,1,2,9,11,12,13,14,68,69]),(22,[0,1,2,9,11,12,13,14,15,18,68,69]),(27,[0,1,2,9,12,13,19]),(28,[0,1,2,9,12,19,131,132,133]),(35,[0,1,9,12,22,156,157,158])] [.v (.sl (.int .u8)),.v (.int .i64),.v (.int .i64)] f72 [.tmp 6,.tmp 7,.tmp 8] 185
def sp72:Eng.Spec NN:=F72.spec Pk0 Rk3 4000000
theorem qye:Eng.Good prog 72 sp72:=gF (fn:=f72) fits q07 (.cons qsp (.cons qm3 (.cons q9c (.cons qbe (.cons z107 .nil))))) (by kernel_rfl)
def F73:Eng.Fn NN:=mkF [(40,sp40),(54,sp54),(126,z15w),(72,sp72),(125,qx1),(121,qkr)] [(1,[0,1,2]),(3,[0,1,2]),(8,[0,1,2,9]),(11,[0,1,2,10,11,51,52]),(22,[0,1,10,11,15,17])] [.v (.sl (.int .u8)),.v (.int .i64),.v (.int .i64)] f73 [.tmp 6,.tmp 7,.tmp 8] 108
def sp73:Eng.Spec NN:=F73.spec Pk0 Rk3 4000000
theorem z14j:Eng.Good prog 73 sp73:=gF (fn:=f73) fits q07 (.cons qy5 (.cons qy8 (.cons z108 (.cons qye (.cons qm4 (.cons q9c .nil)))))) (by kernel_rfl)
def F71:Eng.Fn NN:=mkF [(123,z129),(122,z128)] [(1,[0,1])] [.v (.sl (.int .u8)),.v (.int .i64)] f71 [.tmp 4,.tmp 5,.tmp 6] 34
def sp71:Eng.Spec NN:=F71.spec Pkb Rk3 4000000
theorem z14i:Eng.Good prog 71 sp71:=gF (fn:=f71) fits q07 (.cons qsd (.cons qsc .nil)) (by kernel_rfl)
def F70:Eng.Fn NN:=mkF [(121,qkr)] [(1,[0,1]),(4,[0,7,8,12,13])] [.v (.sl (.int .u8)),.v (.int .i64)] f70 [.tmp 4,.tmp 5,.tmp 6] 52
def sp70:Eng.Spec NN:=F70.spec Pkb Rk7 4000000
theorem z14h:Eng.Good prog 70 sp70:=gF (fn:=f70) fits q07 (.cons q9c .nil) (by kernel_rfl)
def F120:Eng.Fn NN:=mkF [] [(3,[0,1,2]),(7,[0,1,8,32,33])] [.v (.sl (.int .u8)),.v (.int .i64),.v (.int .i64)] f120 [.tmp 6,.tmp 7] 50
def z15u:Eng.Spec NN:=F120.spec Pk0 qxe 4000000
theorem z106:Eng.Good prog 120 z15u:=gF (fn:=f120) fits q07 .nil (by kernel_rfl)
def F69:Eng.Fn NN:=mkF [(120,z15u)] [(1,[0,1]),(5,[0,1,7,20,21])] [.v (.sl (.int .u8)),.v (.int .i64)] f69 [.tmp 4,.tmp 5,.tmp 6] 42
def sp69:Eng.Spec NN:=F69.spec Pkb Rk3 4000000
theorem z14g:Eng.Good prog 69 sp69:=gF (fn:=f69) fits q07 (.cons z106 .nil) (by kernel_rfl)
def F68:Eng.Fn NN:=mkF [(119,qx0),(118,qmt)] [(1,[0,1]),(9,[7,10,34,35,36])] [.v (.sl (.int .u8)),.v (.int .i64)] f68 [.tmp 4,.tmp 5,.tmp 6] 50
def sp68:Eng.Spec NN:=F68.spec Pkb Rk3 4000000
theorem z14f:Eng.Good prog 68 sp68:=gF (fn:=f68) fits q07 (.cons qm3 (.cons qbe .nil)) (by kernel_rfl)
def F39:Eng.Fn NN:=mkF [(75,sp75),(74,sp74),(73,sp73),(72,sp72),(71,sp71),(70,sp70),(69,sp69),(68,sp68)] [(19,[6,7,8])] [.v (.sl (.int .u8)),.v (.int .i64),.v (.int .i64)] f39 [.cell 6 26,.tmp 7,.tmp 8] 98
def sp39:Eng.Spec NN:=F39.spec Pk0 Rkh 4000000
theorem z144:Eng.Good prog 39 sp39:=gF (fn:=f39) fits q07 (.cons z14l (.cons z14k (.cons z14j (.cons qye (.cons z14i (.cons z14h (.cons z14g (.cons z14f .nil)))))))) (by kernel_rfl)
def F18:Eng.Fn NN:=mkF [(40,sp40),(11,sp11),(39,sp39),(38,sp38)] [(7,[0,1,2,6]),(11,[0,1,6,9,10,61,62,63]),(17,[0,6,9,10,77,78,79])] [.v (.sl (.int .u8)),.v (.int .i64),.v (.int .i64)] f18 [.cell 6 26,.tmp 7,.tmp 8] 106
def sp18:Eng.Spec NN:=F18.spec Pk0 Rkh 4000000
theorem qsm:Eng.Good prog 18 sp18:=gF (fn:=f18) fits q07 (.cons qy5 (.cons qy1 (.cons z144 (.cons qnu .nil)))) (by kernel_rfl)
def F147:Eng.Fn NN:=mkF [] [] [.v (.int .i64)] f147 [.tmp 2] 6
def z16d:Eng.Spec NN:=F147.spec qv3 Rke 4000000
theorem z10p:Eng.Good prog 147 z16d:=gF (fn:=f147) fits q07 .nil (by kernel_rfl)
def F87:Eng.Fn NN:=mkF [(147,z16d)] [(1,[0,2]),(3,[0,2])] [.v (.int .i64)] f87 [.cell 2 54] 14
def sp87:Eng.Spec NN:=F87.spec qv3 Rk2x 4000000
theorem z14u:Eng.Good prog 87 sp87:=gF (fn:=f87) fits q07 (.cons z10p .nil) (by kernel_rfl)
def F45:Eng.Fn NN:=mkF [(87,sp87)] [(1,[0,1,4]),(3,[4,5,10,11,12]),(7,[4,5,10,11,12])] [.v (.int .i64),.v (.sl (.int .i64))] f45 [.cell 4 54] 37
def sp45:Eng.Spec NN:=F45.spec qvd Rk2x 4000000
theorem z149:Eng.Good prog 45 sp45:=gF (fn:=f45) fits q07 (.cons z14u .nil) (by kernel_rfl)
def F86:Eng.Fn NN:=mkF [] [] [.v (.bool)] f86 [.cell 2 48] 6
def sp86:Eng.Spec NN:=F86.spec [.v (.bool)] [.v (.nm 2)] 4000000
theorem z14t:Eng.Good prog 86 sp86:=gF (fn:=f86) fits q07 .nil (by kernel_rfl)
def F145:Eng.Fn NN:=mkF [] [] [.v (.bool),.v (.bool)] f145 [.tmp 4] 9
def z16b:Eng.Spec NN:=F145.spec [.v (.bool),.v (.bool)] Rke 4000000
theorem z10n:Eng.Good prog 145 z16b:=gF (fn:=f145) fits q07 .nil (by kernel_rfl)
def z16q:Eng.Spec NN:=Eng.q5r [PK.v Ty.str,PK.v Ty.str] [RK.v (Ty.int .i64)] 0 (fun x=>some ((Eng.qxh x.1 x.2.1,()),()))
theorem z112:Eng.Good prog 169 z16q:=Eng.qw9 (fn:=f169) (by kernel_rfl) (c:=Eng.qfv f169) (by kernel_rfl) (by kernel_rfl) qvn
def F146:Eng.Fn NN:=mkF [(169,z16q)] [] [.v (.str),.v (.str)] f146 [.tmp 4] 8
def z16c:Eng.Spec NN:=F146.spec qz8 Rke 4000000
theorem z10o:Eng.Good prog 146 z16c:=gF (fn:=f146) fits q07 (.cons z112 .nil) (by kernel_rfl)
def F85:Eng.Fn NN:=mkF [(145,z16b),(146,z16c)] [(8,[2,3])] [.v (.nm 2),.v (.nm 2)] f85 [.tmp 4] 40
def sp85:Eng.Spec NN:=F85.spec [.v (.nm 2),.v (.nm 2)] Rke 4000000
theorem z14s:Eng.Good prog 85 sp85:=gF (fn:=f85) fits q07 (.cons z10n (.cons z10o .nil)) (by kernel_rfl)
def F44:Eng.Fn NN:=mkF [(86,sp86),(85,sp85)] [(3,[0,4,5,6]),(18,[6,8])] [.v (.int .i64),.v (.nm 2),.v (.nm 2)] f44 [.cell 6 48] 58
def sp44:Eng.Spec NN:=F44.spec [.v (.int .i64),.v (.nm 2),.v (.nm 2)] [.v (.nm 2)] 4000000
theorem z148:Eng.Good prog 44 sp44:=gF (fn:=f44) fits q07 (.cons z14t (.cons z14s .nil)) (by kernel_rfl)
def F43:Eng.Fn NN:=mkF [] [] [.v (.nm 0),.v (.int .i64)] f43 [.cell 4 48] 22
def sp43:Eng.Spec NN:=F43.spec qv2 [.v (.nm 2)] 4000000
theorem z147:Eng.Good prog 43 sp43:=gF (fn:=f43) fits q07 .nil (by kernel_rfl)
def F22:Eng.Fn NN:=mkF [(45,sp45),(44,sp44),(43,sp43),(18,sp18)] [(1,[0,1,2,7,8]),(2,[0,1,2,7,8,10]),(4,[0,1,2,7,8,10]),(10,[2,7,8,10,11,14,15,16,53,54]),(15,[2,7,8,10,11,14,15,16,17,53,54]),(17,[2,7,8,10,11,14,15,16,53,54])] [.v (.sl (.int .u8)),.v (.int .i64),.v (.int .i64),.v (.nm 3)] f22 [.cell 8 54,.tmp 9] 93
def sp22:Eng.Spec NN:=F22.spec Pk2m Rk2r 4000000
theorem z13v:Eng.Good prog 22 sp22:=gF (fn:=f22) fits q07 (.cons z149 (.cons z148 (.cons z147 (.cons qsm .nil)))) (by kernel_rfl)
def F31:Eng.Fn NN:=mkF [] [] [] f31 [.cell 0 26] 4
def sp31:Eng.Spec NN:=F31.spec [] [.v (.nm 0)] 4000000
theorem z13z:Eng.Good prog 31 sp31:=gF (fn:=f31) fits q07 .nil (by kernel_rfl)
def F20c3 (n:Nat) (x0 x1:Vec):=F20.at qqv Rkm n 3 ⟨(uU 2 (.one (.bptr 0 0)::.one (.bptr 1 0)::uU 111 [])),[(0,.whole (.nm 0) x0 []),(1,.whole (.nm 0) x1 [])]⟩
def F20c4 (n:Nat) (x0:Int) (x1 x2:Vec):=F20.at qqv Rkm n 4 ⟨(uU 2 (.one (.bptr 0 0)::.one (.bptr 1 0)::uU 1 (.one (.int .i64 x0)::uU 109 []))),[(0,.whole (.nm 0) x1 []),(1,.whole (.nm 0) x2 [])]⟩
def F20c6 (n:Nat) (x0:Int) (x1 x2:Vec):=F20.at qqv Rkm n 6 ⟨(uU 2 (.one (.bptr 0 0)::.one (.bptr 1 0)::uU 1 (.one (.int .i64 x0)::uU 109 []))),[(0,.whole (.nm 0) x1 []),(1,.whole (.nm 0) x2 [])]⟩
def F20c8 (n:Nat) (x0 x1:Vec):=F20.at qqv Rkm n 8 ⟨(uU 2 (.one (.bptr 0 0)::.one (.bptr 1 0)::uU 111 [])),[(0,.whole (.nm 0) x0 []),(1,.whole (.nm 0) x1 [])]⟩
def F20c9 (n:Nat) (x0:Int) (x1 x2:Vec):=F20.at qqv Rkm n 9 ⟨(uU 2 (.one (.bptr 0 0)::.one (.bptr 1 0)::uU 2 (.one (.int .i64 x0)::uU 108 []))),[(0,.whole (.nm 0) x1 []),(1,.whole (.nm 0) x2 [])]⟩
def F20c11 (n:Nat) (x0:Int) (x1 x2:Vec):=F20.at qqv Rkm n 11 ⟨(uU 2 (.one (.bptr 0 0)::.one (.bptr 1 0)::uU 2 (.one (.int .i64 x0)::uU 108 []))),[(0,.whole (.nm 0) x1 []),(1,.whole (.nm 0) x2 [])]⟩
def F20c13 (n:Nat) (x0 x1:Vec):=F20.at qqv Rkm n 13 ⟨(uU 2 (.one (.bptr 0 0)::.one (.bptr 1 0)::uU 111 [])),[(0,.whole (.nm 0) x0 []),(1,.whole (.nm 0) x1 [])]⟩
def F20c14 (n:Nat) (x0:Int) (x1 x2:Vec):=F20.at qqv Rkm n 14 ⟨(uU 2 (.one (.bptr 0 0)::.one (.bptr 1 0)::uU 3 (.one (.int .i64 x0)::uU 107 []))),[(0,.whole (.nm 0) x1 []),(1,.whole (.nm 0) x2 [])]⟩
def F20c16 (n:Nat) (x0:Int) (x1 x2:Vec):=F20.at qqv Rkm n 16 ⟨(uU 2 (.one (.bptr 0 0)::.one (.bptr 1 0)::uU 3 (.one (.int .i64 x0)::uU 107 []))),[(0,.whole (.nm 0) x1 []),(1,.whole (.nm 0) x2 [])]⟩
theorem F20_run (n:Nat) (a0 a1:Vec):F20.run qqv Rkm n (a0,a1,())=
 bif !decide (a0.f_Type=a1.f_Type)then
  some ((false,()),())
 else
  bif !decide ((↑a0.ints.length:Int)=(↑a1.ints.length:Int))then
   some ((false,()),())
  else
   bif !decide ((↑a0.texts.length:Int)=(↑a1.texts.length:Int))then
    some ((false,()),())
   else
    bif !decide ((↑a0.nulls.length:Int)=(↑a1.nulls.length:Int))then
     some ((false,()),())
    else
     F20c3 n (a0) (a1):=by kernel_rfl
theorem F20c3_eq (n x0 x1:_):F20c3 (n+1) x0 x1=
 F20c4 n ((0:Int)) (x0) (x1):=by kernel_rfl
theorem F20c4_eq (n x0 x1 x2:_):F20c4 (n+1) x0 x1 x2=
 bif decide (x0<(↑x1.ints.length:Int))then
  bif decide (x0<(↑x2.ints.length:Int))then
   F20c6 n (x0) (x1) (x2)
  else
   F20c8 n (x1) (x2)
 else
  F20c8 n (x1) (x2):=by kernel_rfl
theorem F20c6_eq (n x0 x1 x2:_):F20c6 (n+1) x0 x1 x2=
 if (0:Int)<=x0 then
  if x0<(↑x1.ints.length:Int)then
   if (0:Int)<=x0 then
    if x0<(↑x2.ints.length:Int)then
     bif !decide (x1.ints.getD x0.toNat (0:Int)=x2.ints.getD x0.toNat (0:Int))then
      some ((false,()),())
     else
      F20c4 n (IntKind.i64.wrap (x0+(1:Int))) (x1) (x2)
    else
     none
   else
    none
  else
   none
 else
  none:=by kernel_rfl
theorem F20c8_eq (n x0 x1:_):F20c8 (n+1) x0 x1=
 F20c9 n ((0:Int)) (x0) (x1):=by kernel_rfl
theorem F20c9_eq (n x0 x1 x2:_):F20c9 (n+1) x0 x1 x2=
 bif decide (x0<(↑x1.texts.length:Int))then
  bif decide (x0<(↑x2.texts.length:Int))then
   F20c11 n (x0) (x1) (x2)
  else
   F20c13 n (x1) (x2)
 else
  F20c13 n (x1) (x2):=by kernel_rfl
theorem F20c11_eq (n x0 x1 x2:_):F20c11 (n+1) x0 x1 x2=
 if (0:Int)<=x0 then
  if x0<(↑x1.texts.length:Int)then
   if (0:Int)<=x0 then
    if x0<(↑x2.texts.length:Int)then
     bif !decide (x1.texts.getD x0.toNat []=x2.texts.getD x0.toNat [])then
      some ((false,()),())
     else
      F20c9 n (IntKind.i64.wrap (x0+(1:Int))) (x1) (x2)
    else
     none
   else
    none
  else
   none
 else
  none:=by kernel_rfl
theorem F20c13_eq (n x0 x1:_):F20c13 (n+1) x0 x1=
 F20c14 n ((0:Int)) (x0) (x1):=by kernel_rfl
theorem F20c14_eq (n x0 x1 x2:_):F20c14 (n+1) x0 x1 x2=
 bif decide (x0<(↑x1.nulls.length:Int))then
  bif decide (x0<(↑x2.nulls.length:Int))then
   F20c16 n (x0) (x1) (x2)
  else
   some ((true,()),())
 else
  some ((true,()),()):=by kernel_rfl
theorem F20c16_eq (n x0 x1 x2:_):F20c16 (n+1) x0 x1 x2=
 if (0:Int)<=x0 then
  if x0<(↑x1.nulls.length:Int)then
   if (0:Int)<=x0 then
    if x0<(↑x2.nulls.length:Int)then
     bif !decide (x1.nulls.getD x0.toNat false=x2.nulls.getD x0.toNat false)then
      some ((false,()),())
     else
      F20c14 n (IntKind.i64.wrap (x0+(1:Int))) (x1) (x2)
    else
     none
   else
    none
  else
   none
 else
  none:=by kernel_rfl
theorem F40_run (n:Nat) (a0 a1:List (Int)):F40.run Pk2z Rkm n (a0,a1,())=
 some ((decide (List.map Eng.q0p a0=List.map Eng.q0p a1),()),()):=by kernel_rfl
def F121c3 (n:Nat) (x0:List (Int)) (x1:Int):=F121.at Pkb Rkr n 3 ⟨(.one (.data (.sl (.int .u8)) x0 [])::.one (.int .i64 x1)::uU 59 []),[]⟩
def F121c5 (n:Nat) (x0:List (Int)) (x1 x2 x3:Int):=F121.at Pkb Rkr n 5 ⟨(.one (.data (.sl (.int .u8)) x0 [])::.one (.int .i64 x1)::uU 5 (.one (.int .u64 x2)::uU 10 (.one (.int .i64 x3)::uU 42 []))),[]⟩
def F121c12 (n:Nat) (x0:List (Int)) (x1 x2:Int) (x3 x4 x5:Int):=F121.at Pkb Rkr n 12 ⟨(.one (.data (.sl (.int .u8)) x0 [])::.one (.int .i64 x1)::uU 5 (.one (.int .u64 x2)::.one (.int .i64 x3)::.one (.int .u8 x4)::uU 8 (.one (.int .i64 x5)::uU 42 []))),[]⟩
def F121c16 (n:Nat) (x0 x1 x2:Int):=F121.at Pkb Rkr n 16 ⟨(uU 1 (.one (.int .i64 x0)::uU 5 (.one (.int .u64 x1)::.one (.int .i64 x2)::uU 52 []))),[]⟩
theorem F121_run (n:Nat) (a0:List (Int)) (a1:Int):F121.run Pkb Rkr n (a0,a1,())=
 bif decide (a1<(0:Int))then
  some (((0:Int),((0:Int),((1:Int),()))),())
 else
  bif decide ((↑a0.length:Int)<a1)then
   some (((0:Int),((0:Int),((1:Int),()))),())
  else
   F121c3 n (a0) (a1):=by kernel_rfl
theorem F121c3_eq (n x0 x1:_):F121c3 (n+1) x0 x1=
 F121c5 n (x0) (x1) ((0:Int)) ((0:Int)):=by kernel_rfl
theorem F121c5_eq (n x0 x1 x2 x3:_):F121c5 (n+1) x0 x1 x2 x3=
 bif decide (x3<(10:Int))then
  bif decide ((↑x0.length:Int)<=IntKind.i64.wrap (x1+x3))then
   some (((0:Int),((0:Int),((2:Int),()))),())
  else
   if (0:Int)<=IntKind.i64.wrap (x1+x3)then
    if IntKind.i64.wrap (x1+x3)<(↑x0.length:Int)then
     bif decide (x3=(9:Int))then
      bif decide ((1:Int)<x0.getD (IntKind.i64.wrap (x1+x3)).toNat (0:Int))then
       some (((0:Int),((0:Int),((4:Int),()))),())
      else
       F121c12 n (x0) (x1) (x2) (x3) (x0.getD (IntKind.i64.wrap (x1+x3)).toNat (0:Int)) (x3)
     else
      F121c12 n (x0) (x1) (x2) (x3) (x0.getD (IntKind.i64.wrap (x1+x3)).toNat (0:Int)) (x3)
    else
     none
   else
    none
 else
  some (((0:Int),((0:Int),((4:Int),()))),()):=by kernel_rfl
theorem F121c12_eq (n x0 x1 x2 x3 x4 x5:_):F121c12 (n+1) x0 x1 x2 x3 x4 x5=
 if (0:Int)<=IntKind.i64.wrap ((7:Int)*x3)then
  bif decide ((128:Int)<=x4)then
   F121c5 n (x0) (x1) (bits BinOp.or IntKind.u64 x2 (IntKind.u64.wrap (IntKind.u64.wrap (bits BinOp.and IntKind.u8 x4 (127:Int))*(2:Int)^min (IntKind.i64.wrap ((7:Int)*x3)).toNat IntKind.u64.bits))) (IntKind.i64.wrap (x5+(1:Int)))
  else
   bif decide (x4=(0:Int))then
    bif decide ((0:Int)<x3)then
     some (((0:Int),((0:Int),((4:Int),()))),())
    else
     F121c16 n (x1) (bits BinOp.or IntKind.u64 x2 (IntKind.u64.wrap (IntKind.u64.wrap (bits BinOp.and IntKind.u8 x4 (127:Int))*(2:Int)^min (IntKind.i64.wrap ((7:Int)*x3)).toNat IntKind.u64.bits))) (x3)
   else
    F121c16 n (x1) (bits BinOp.or IntKind.u64 x2 (IntKind.u64.wrap (IntKind.u64.wrap (bits BinOp.and IntKind.u8 x4 (127:Int))*(2:Int)^min (IntKind.i64.wrap ((7:Int)*x3)).toNat IntKind.u64.bits))) (x3)
 else
  none:=by kernel_rfl
theorem F121c16_eq (n x0 x1 x2:_):F121c16 (n+1) x0 x1 x2=
 some ((x1,(IntKind.i64.wrap (IntKind.i64.wrap (x0+x2)+(1:Int)),((0:Int),()))),()):=by kernel_rfl
def F131c6 (n:Nat) (x0:List (Int)) (x1:Int) (x2:List Int) (x3 x4:Int):=F131.at Pkz qzc n 6 ⟨(.one (.data (.sl (.int .u8)) x0 [])::uU 1 (.one (.int .i64 x1)::.one (.str x2)::uU 7 (.one (.int .u64 x3)::.one (.int .i64 x4)::uU 85 []))),[]⟩
def F131c17 (n:Nat) (x0 x1:Int) (x2:List Int):=F131.at Pkz qzc n 17 ⟨(uU 12 (.one (.int .i64 x0)::uU 1 (.one (.int .u64 x1)::uU 1 (.one (.str x2)::uU 81 [])))),[]⟩
theorem F131_run (n:Nat) (a0:List (Int)) (a1 a2:Int) (a3:List Int):F131.run Pkz qzc n (a0,a1,a2,a3,())=
 (F121.run Pk5 Rk8 4000000 (a0,a1,())).bind fun r0=>
  bif !decide (r0.fst.snd.snd.fst=(0:Int))then
   some (([],((0:Int),(r0.fst.snd.snd.fst,()))),())
  else
   bif decide (IntKind.u64.wrap (↑a3.length:Int)<r0.fst.fst)then
    some (([],((0:Int),((4:Int),()))),())
   else
    bif decide (a2.tmod (16:Int)=(0:Int))then
     bif decide ((0:Int)<r0.fst.fst)then
      some (([],((0:Int),((4:Int),()))),())
     else
      F131c6 n (a0) (a2) (a3) (r0.fst.fst) (r0.fst.snd.fst)
    else
     F131c6 n (a0) (a2) (a3) (r0.fst.fst) (r0.fst.snd.fst):=by kernel_rfl
theorem F131c6_eq (n x0 x1 x2 x3 x4:_):F131c6 (n+1) x0 x1 x2 x3 x4=
 (F121.run Pk5 Rk8 4000000 (x0,x4,())).bind fun r1=>
  bif !decide (r1.fst.snd.snd.fst=(0:Int))then
   some (([],((0:Int),(r1.fst.snd.snd.fst,()))),())
  else
   bif decide (IntKind.u64.wrap (IntKind.i64.wrap ((↑x0.length:Int)-r1.fst.snd.fst))<r1.fst.fst)then
    some (([],((0:Int),((2:Int),()))),())
   else
    if (0 : Int) <=IntKind.i64.wrap (IntKind.i64.wrap x3+IntKind.i64.wrap r1.fst.fst)then
     if IntKind.i64.wrap (IntKind.i64.wrap x3+IntKind.i64.wrap r1.fst.fst)<=(↑lim:Int)then
      if (0 : Int)<=x3 then
       if x3 <= (↑x2.length:Int)then
        if (0 : Int)<=x3 then
         if x3 <= (↑(qcy (List.replicate (IntKind.i64.wrap (IntKind.i64.wrap x3+IntKind.i64.wrap r1.fst.fst)).toNat (0:Int)) (List.drop (Int.toNat (0:Int)) (List.take x3.toNat x2))).length:Int)then
          if (↑(qcy (List.replicate (IntKind.i64.wrap (IntKind.i64.wrap x3+IntKind.i64.wrap r1.fst.fst)).toNat (0:Int)) (List.drop (Int.toNat (0:Int)) (List.take x3.toNat x2))).length:Int)<=(↑(qcy (List.replicate (IntKind.i64.wrap (IntKind.i64.wrap x3+IntKind.i64.wrap r1.fst.fst)).toNat (0:Int)) (List.drop (Int.toNat (0:Int)) (List.take x3.toNat x2))).length:Int)then
           if (0 :Int)<=r1.fst.snd.fst then
            if r1.fst.snd.fst<=IntKind.i64.wrap (r1.fst.snd.fst+IntKind.i64.wrap r1.fst.fst)then
             if IntKind.i64.wrap (r1.fst.snd.fst+IntKind.i64.wrap r1.fst.fst)<=(↑x0.length:Int)then
              bif !decide (x1.tmod (16:Int)=(0:Int))then
               (F156.run qxd Rk6 4000000 (x2,List.map Eng.q0p (ql8 (qcy (List.replicate (IntKind.i64.wrap (IntKind.i64.wrap x3+IntKind.i64.wrap r1.fst.fst)).toNat (0:Int)) (List.drop (Int.toNat (0:Int)) (List.take x3.toNat x2))) x3.toNat ((↑(qcy (List.replicate (IntKind.i64.wrap (IntKind.i64.wrap x3+IntKind.i64.wrap r1.fst.fst)).toNat (0:Int)) (List.drop (Int.toNat (0:Int)) (List.take x3.toNat x2))).length:Int)-x3).toNat (List.drop (Int.toNat r1.fst.snd.fst) (List.take (IntKind.i64.wrap (r1.fst.snd.fst+IntKind.i64.wrap r1.fst.fst)).toNat x0))),())).bind fun r2=>
                bif decide (IntKind.i64.wrap x3<r2.fst.fst)then
                 some (([],((0:Int),((4:Int),()))),())
                else
                 F131c17 n (r1.fst.snd.fst) (r1.fst.fst) (List.map Eng.q0p (ql8 (qcy (List.replicate (IntKind.i64.wrap (IntKind.i64.wrap x3+IntKind.i64.wrap r1.fst.fst)).toNat (0:Int)) (List.drop (Int.toNat (0:Int)) (List.take x3.toNat x2))) x3.toNat ((↑(qcy (List.replicate (IntKind.i64.wrap (IntKind.i64.wrap x3+IntKind.i64.wrap r1.fst.fst)).toNat (0:Int)) (List.drop (Int.toNat (0:Int)) (List.take x3.toNat x2))).length:Int)-x3).toNat (List.drop (Int.toNat r1.fst.snd.fst) (List.take (IntKind.i64.wrap (r1.fst.snd.fst+IntKind.i64.wrap r1.fst.fst)).toNat x0))))
              else
               F131c17 n (r1.fst.snd.fst) (r1.fst.fst) (List.map Eng.q0p (ql8 (qcy (List.replicate (IntKind.i64.wrap (IntKind.i64.wrap x3+IntKind.i64.wrap r1.fst.fst)).toNat (0:Int)) (List.drop (Int.toNat (0:Int)) (List.take x3.toNat x2))) x3.toNat ((↑(qcy (List.replicate (IntKind.i64.wrap (IntKind.i64.wrap x3+IntKind.i64.wrap r1.fst.fst)).toNat (0:Int)) (List.drop (Int.toNat (0:Int)) (List.take x3.toNat x2))).length:Int)-x3).toNat (List.drop (Int.toNat r1.fst.snd.fst) (List.take (IntKind.i64.wrap (r1.fst.snd.fst+IntKind.i64.wrap r1.fst.fst)).toNat x0))))
             else
              none
            else
             none
           else
            none
          else
           none
         else
          none
        else
         none
       else
        none
      else
       none
     else
      none
    else
     none:=by kernel_rfl
theorem F131c17_eq (n x0 x1 x2:_):F131c17 (n+1) x0 x1 x2=
 some ((x2,(IntKind.i64.wrap (x0+IntKind.i64.wrap x1),((0:Int),()))),()):=by kernel_rfl
theorem F130_run (n:Nat) (a0:List (Int)) (a1 a2:Int):F130.run Pk0 Rkm n (a0,a1,a2,())=
 bif decide ((0:Int)<=a1)then
  bif decide (a1<=(↑a0.length:Int))then
   bif decide ((0:Int)<=a2)then
    some ((decide (a2<=(65536:Int)),()),())
   else
    some ((false,()),())
  else
   some ((false,()),())
 else
  some ((false,()),()):=by kernel_rfl
def F75c1 (n:Nat) (x0:List (Int)) (x1 x2:Int):=F75.at Pk0 Rk7 n 1 ⟨(.one (.data (.sl (.int .u8)) x0 [])::.one (.int .i64 x1)::.one (.int .i64 x2)::uU 42 []),[]⟩
def F75c6 (n:Nat) (x0:List (Int)) (x1:Int) (x2:List Int) (x3 x4:Int) (x5:List (List Int)):=F75.at Pk0 Rk7 n 6 ⟨(.one (.data (.sl (.int .u8)) x0 [])::.one (.int .i64 x1)::uU 7 (.one (.own 0)::.one (.str x2)::uU 9 (.one (.int .i64 x3)::.one (.int .i64 x4)::uU 23 []))),[(0,.row 9 .str x5 [] false)]⟩
theorem F75_run (n:Nat) (a0:List (Int)) (a1 a2:Int):F75.run Pk0 Rk7 n (a0,a1,a2,())=
 F75c1 n (a0) (a1) (a2):=by kernel_rfl
theorem F75c1_eq (n x0 x1 x2:_):F75c1 (n+1) x0 x1 x2=
 (F130.run Pk2 Rkp 4000000 (x0,x1,x2,())).bind fun r0=>
  bif !r0.fst.fst then
   some (([],((0:Int),((1:Int),()))),())
  else
   F75c6 n (x0) (x1) ([]) (x2) ((0:Int)) ([]):=by kernel_rfl
theorem F75c6_eq (n x0 x1 x2 x3 x4 x5:_):F75c6 (n+1) x0 x1 x2 x3 x4 x5=
 bif decide (x4<x3)then
  (F131.run Pk2b Rk2u 4000000 (x0,x1,x4,x2,())).bind fun r1=>
   bif !decide (r1.fst.snd.snd.fst=(0:Int))then
    some (([],((0:Int),(r1.fst.snd.snd.fst,()))),())
   else
    if x5.length+(1:Nat)<=lim then
     F75c6 n (x0) (r1.fst.snd.fst) (r1.fst.fst) (x3) (IntKind.i64.wrap (x4+(1:Int))) (x5++([r1.fst.fst]:List (List Int)))
    else
     none
 else
  some ((x5,(x1,((0:Int),()))),()):=by kernel_rfl
def F166c3 (n:Nat) (x0:List (Run)) (x1:Int) (x2:List (Run)) (x3 x4:Int):=F166.at Pks Rkm n 3 ⟨(.one (.data (.sl (.nm 5)) x0 [])::uU 2 (.one (.int .i64 x1)::uU 2 (.one (.data (.sl (.nm 5)) x2 [])::.one (.int .i64 x3)::.one (.int .i64 x4)::uU 34 []))),[]⟩
def F166c7 (n:Nat) (x0:List (Run)) (x1:Int) (x2:List (Run)) (x3 x4:Int) (x5:Run):=F166.at Pks Rkm n 7 ⟨(.one (.data (.sl (.nm 5)) x0 [])::uU 2 (.one (.int .i64 x1)::uU 1 (.one (.bptr 0 0)::.one (.data (.sl (.nm 5)) x2 [])::.one (.int .i64 x3)::.one (.int .i64 x4)::uU 34 []))),[(0,.whole (.nm 5) x5 [])]⟩
theorem F166_run (n:Nat) (a0:List (Run)):F166.run Pks Rkm n (a0,())=
 F166c3 n (a0) ((0:Int)) (a0) ((↑a0.length:Int)) ((0:Int)):=by kernel_rfl
theorem F166c3_eq (n x0 x1 x2 x3 x4:_):F166c3 (n+1) x0 x1 x2 x3 x4=
 bif decide (x4<x3)then
  if (0 : Int)<=x4 then
   if x4 <(↑x2.length:Int)then
    bif decide ((x2.getD x4.toNat q0v).count<(1:Int))then
     some ((false,()),())
    else
     bif decide (IntKind.i64.wrap ((65536:Int)-x1)<(x2.getD x4.toNat q0v).count)then
      some ((false,()),())
     else
      bif decide ((0:Int)<x4)then
       if (0:Int)<=IntKind.i64.wrap (x4-(1:Int))then
        if IntKind.i64.wrap (x4-(1:Int))<(↑x0.length:Int)then
         bif decide ((x2.getD x4.toNat q0v).value=(x0.getD (IntKind.i64.wrap (x4-(1:Int))).toNat q0v).value)then
          some ((false,()),())
         else
          F166c7 n (x0) (x1) (x2) (x3) (x4) (x2.getD x4.toNat q0v)
        else
         none
       else
        none
      else
       F166c7 n (x0) (x1) (x2) (x3) (x4) (x2.getD x4.toNat q0v)
   else
    none
  else
   none
 else
  some ((true,()),()):=by kernel_rfl
theorem F166c7_eq (n x0 x1 x2 x3 x4 x5:_):F166c7 (n+1) x0 x1 x2 x3 x4 x5=
 F166c3 n (x0) (IntKind.i64.wrap (x1+x5.count)) (x2) (x3) (IntKind.i64.wrap (x4+(1:Int))):=by kernel_rfl
def F123c1 (n:Nat) (x0:List (Run)):=F123.at Pks qv5 n 1 ⟨(.one (.data (.sl (.nm 5)) x0 [])::uU 27 []),[]⟩
def F123c5 (n:Nat) (x0:List (Run)) (x1 x2:Int) (x3:List (Int)):=F123.at Pks qv5 n 5 ⟨(uU 4 (.one (.own 0)::uU 5 (.one (.data (.sl (.nm 5)) x0 [])::.one (.int .i64 x1)::.one (.int .i64 x2)::uU 15 []))),[(0,.row 2 (.int .i64) x3 [] false)]⟩
def F123c8 (n:Nat) (x0:List (Run)) (x1 x2:Int) (x3 x4:Int) (x5:List (Int)) (x6:Run):=F123.at Pks qv5 n 8 ⟨(uU 4 (.one (.own 0)::uU 1 (.one (.bptr 1 0)::uU 3 (.one (.data (.sl (.nm 5)) x0 [])::.one (.int .i64 x1)::.one (.int .i64 x2)::uU 4 (.one (.int .i64 x3)::.one (.int .i64 x4)::uU 9 []))))),[(0,.row 2 (.int .i64) x5 [] false),(1,.whole (.nm 5) x6 [])]⟩
theorem F123_run (n:Nat) (a0:List (Run)):F123.run Pks qv5 n (a0,())=
 F123c1 n (a0):=by kernel_rfl
theorem F123c1_eq (n x0:_):F123c1 (n+1) x0=
 (F166.run qii Rkp 4000000 (x0,())).bind fun r0=>
  bif !r0.fst.fst then
   some (([],((4:Int),())),())
  else
   F123c5 n (x0) ((↑x0.length:Int)) ((0:Int)) ([]):=by kernel_rfl
theorem F123c5_eq (n x0 x1 x2 x3:_):F123c5 (n+1) x0 x1 x2 x3=
 bif decide (x2<x1)then
  if(0:Int)<=x2 then
   if x2<(↑x0.length:Int)then
    F123c8 n (x0) (x1) (x2) ((x0.getD x2.toNat q0v).count) ((0:Int)) (x3) (x0.getD x2.toNat q0v)
   else
    none
  else
   none
 else
  some ((x3,((0:Int),())),()):=by kernel_rfl
theorem F123c8_eq (n x0 x1 x2 x3 x4 x5 x6:_):F123c8 (n+1) x0 x1 x2 x3 x4 x5 x6=
 bif decide (x4<x3)then
  if x5.length+(1:Nat)<=lim then
   F123c8 n (x0) (x1) (x2) (x3) (IntKind.i64.wrap (x4+(1:Int))) (x5++[x6.value]) (x6)
  else
   none
 else
  F123c5 n (x0) (x1) (IntKind.i64.wrap (x2+(1:Int))) (x5):=by kernel_rfl
theorem F125_run (n:Nat) (a0:Int):F125.run qci Rke n (a0,())=
 some ((bits BinOp.xor IntKind.i64 (IntKind.i64.wrap (a0/(2:Int)^min (Int.toNat (1:Int)) IntKind.u64.bits)) (IntKind.i64.wrap ((0:Int)-IntKind.i64.wrap (bits BinOp.and IntKind.u64 a0 (1:Int)))),()),()):=by kernel_rfl
def F122c1 (n:Nat) (x0:List (Int)) (x1:Int):=F122.at Pkb Rkk n 1 ⟨(.one (.data (.sl (.int .u8)) x0 [])::.one (.int .i64 x1)::uU 83 []),[]⟩
def F122c9 (n:Nat) (x0:List (Int)) (x1 x2:Int) (x3 x4:Int) (x5 x6:Int) (x7:List (Run)):=F122.at Pkb Rkk n 9 ⟨(.one (.data (.sl (.int .u8)) x0 [])::uU 7 (.one (.int .i64 x1)::.one (.int .i64 x2)::.one (.own 0)::.one (.int .i64 x3)::.one (.int .u64 x4)::uU 16 (.one (.int .i64 x5)::.one (.int .i64 x6)::uU 54 []))),[(0,.row 110 (.nm 5) x7 [] false)]⟩
def F122c24 (n:Nat) (x0 x1:Int) (x2:List (Run)):=F122.at Pkb Rkk n 24 ⟨(uU 8 (.one (.int .i64 x0)::.one (.int .i64 x1)::.one (.own 0)::uU 74 [])),[(0,.row 110 (.nm 5) x2 [] false)]⟩
def F122c16 (n:Nat) (x0:List (Int)) (x1 x2:Int) (x3 x4:Int) (x5 x6:Int) (x7:List (Run)):=F122.at Pkb Rkk n 16 ⟨(.one (.data (.sl (.int .u8)) x0 [])::uU 7 (.one (.int .i64 x1)::uU 1 (.one (.own 0)::.one (.int .i64 x2)::.one (.int .u64 x3)::uU 1 (.one (.int .u64 x4)::uU 14 (.one (.int .i64 x5)::.one (.int .i64 x6)::uU 54 []))))),[(0,.row 110 (.nm 5) x7 [] false)]⟩
def F122c20 (n:Nat) (x0:List (Int)) (x1 x2:Int) (x3 x4:Int) (x5 x6:Int) (x7 x8:Int) (x9:List (Run)):=F122.at Pkb Rkk n 20 ⟨(.one (.data (.sl (.int .u8)) x0 [])::uU 7 (.one (.int .i64 x1)::.one (.int .i64 x2)::.one (.own 0)::.one (.int .i64 x3)::.one (.int .u64 x4)::uU 1 (.one (.int .u64 x5)::.one (.int .u64 x6)::uU 13 (.one (.int .i64 x7)::.one (.int .i64 x8)::uU 54 [])))),[(0,.row 110 (.nm 5) x9 [] false)]⟩
theorem F122_run (n:Nat) (a0:List (Int)) (a1:Int):F122.run Pkb Rkk n (a0,a1,())=
 F122c1 n (a0) (a1):=by kernel_rfl
theorem F122c1_eq (n x0 x1:_):F122c1 (n+1) x0 x1=
 (F121.run Pk5 Rk8 4000000 (x0,x1,())).bind fun r0=>
  bif !decide (r0.fst.snd.snd.fst=(0:Int))then
   some (([],((0:Int),(r0.fst.snd.snd.fst,()))),())
  else
   bif decide ((65536:Int)<r0.fst.fst)then
    some (([],((0:Int),((6:Int),()))),())
   else
    F122c9 n (x0) (r0.fst.snd.fst) (r0.fst.snd.snd.fst) ((0:Int)) ((0:Int)) (IntKind.i64.wrap r0.fst.fst) ((0:Int)) ([]):=by kernel_rfl
theorem F122c9_eq (n x0 x1 x2 x3 x4 x5 x6 x7:_):F122c9 (n+1) x0 x1 x2 x3 x4 x5 x6 x7=
 bif decide (x6<x5)then
  (F121.run Pk5 Rk8 4000000 (x0,x1,())).bind fun r1=>
   bif !decide (r1.fst.snd.snd.fst=(0:Int))then
    F122c24 n (r1.fst.snd.fst) (r1.fst.snd.snd.fst) (x7)
   else
    bif decide (r1.fst.fst=(0:Int))then
     bif decide ((0:Int)<x6)then
      F122c24 n (r1.fst.snd.fst) ((4:Int)) (x7)
     else
      F122c16 n (x0) (r1.fst.snd.fst) (x3) (x4) (r1.fst.fst) (x5) (x6) (x7)
    else
     F122c16 n (x0) (r1.fst.snd.fst) (x3) (x4) (r1.fst.fst) (x5) (x6) (x7)
 else
  F122c24 n (x1) (x2) (x7):=by kernel_rfl
theorem F122c24_eq (n x0 x1 x2:_):F122c24 (n+1) x0 x1 x2=
 bif !decide (x1=(0:Int))then
  some (([],((0:Int),(x1,()))),())
 else
  some ((x2,(x0,((0:Int),()))),()):=by kernel_rfl
theorem F122c16_eq (n x0 x1 x2 x3 x4 x5 x6 x7:_):F122c16 (n+1) x0 x1 x2 x3 x4 x5 x6 x7=
 (F121.run Pk5 Rk8 4000000 (x0,x1,())).bind fun r2=>
  bif !decide (r2.fst.snd.snd.fst=(0:Int))then
   F122c24 n (r2.fst.snd.fst) (r2.fst.snd.snd.fst) (x7)
  else
   bif decide (r2.fst.fst<(1:Int))then
    F122c24 n (r2.fst.snd.fst) ((6:Int)) (x7)
   else
    bif decide (IntKind.u64.wrap ((65536:Int)-x3)<r2.fst.fst)then
     F122c24 n (r2.fst.snd.fst) ((6:Int)) (x7)
    else
     F122c20 n (x0) (r2.fst.snd.fst) (r2.fst.snd.snd.fst) (x2) (x3) (x4) (r2.fst.fst) (x5) (x6) (x7):=by kernel_rfl
theorem F122c20_eq (n x0 x1 x2 x3 x4 x5 x6 x7 x8 x9:_):F122c20 (n+1) x0 x1 x2 x3 x4 x5 x6 x7 x8 x9=
 (F125.run Pk9 Rk6 4000000 (x5,())).bind fun r3=>
  if x9.length+(1:Nat)<=lim then
   F122c9 n (x0) (x1) (x2) (IntKind.i64.wrap (x3+r3.fst.fst)) (IntKind.u64.wrap (x4+x6)) (x7) (IntKind.i64.wrap (x8+(1:Int))) (x9++[{value:=IntKind.i64.wrap (x3+r3.fst.fst),count:=IntKind.i64.wrap x6:Run}])
  else
   none:=by kernel_rfl
def F129c1 (n:Nat) (x0:List (Int)) (x1 x2:Int):=F129.at Pk0 Rko n 1 ⟨(.one (.data (.sl (.int .u8)) x0 [])::.one (.int .i64 x1)::.one (.int .i64 x2)::uU 49 []),[]⟩
def F129c11 (n:Nat) (x0 x1 x2:Int) (x3 x4:List (Int)):=F129.at Pk0 Rko n 11 ⟨(uU 10 (.one (.int .i64 x0)::uU 2 (.one (.own 0)::uU 24 (.one (.own 1)::.one (.int .i64 x1)::.one (.int .i64 x2)::uU 11 [])))),[(0,.row 83 (.int .u64) x3 [] false),(1,.row 2 (.int .i64) x4 [] false)]⟩
theorem F129_run (n:Nat) (a0:List (Int)) (a1 a2:Int):F129.run Pk0 Rko n (a0,a1,a2,())=
 F129c1 n (a0) (a1) (a2):=by kernel_rfl
theorem F129c1_eq (n x0 x1 x2:_):F129c1 (n+1) x0 x1 x2=
 (F122.run Pk5 Rk1r 4000000 (x0,x1,())).bind fun r0=>
  bif !decide (r0.fst.snd.snd.fst=(0:Int))then
   some (([],((0:Int),(r0.fst.snd.snd.fst,()))),())
  else
   (F123.run qii Rk28 4000000 (r0.fst.fst,())).bind fun r1=>
    bif !decide (r1.fst.snd.fst=(0:Int))then
     some (([],((0:Int),(r1.fst.snd.fst,()))),())
    else
     bif !decide ((↑(List.length r1.fst.fst):Int)=x2)then
      some (([],((0:Int),((18:Int),()))),())
     else
      F129c11 n (r0.fst.snd.fst) ((↑(List.length r1.fst.fst):Int)) ((0:Int)) ([]) (r1.fst.fst):=by kernel_rfl
theorem F129c11_eq (n x0 x1 x2 x3 x4:_):F129c11 (n+1) x0 x1 x2 x3 x4=
 bif decide (x2<x1)then
  if (0:Int)<=x2 then
   if x2<(↑x4.length:Int)then
    if x3.length+(1:Nat)<=lim then
     F129c11 n (x0) (x1) (IntKind.i64.wrap (x2+(1:Int))) (x3++[IntKind.u64.wrap (x4.getD x2.toNat (0:Int))]) (x4)
    else
     none
   else
    none
  else
   none
 else
  some ((x3,(x0,((0:Int),()))),()):=by kernel_rfl
def F165c3 (n:Nat) (x0:List (Int)) (x1 x2:Int) (x3 x4:Int):=F165.at Pk0 qff n 3 ⟨(.one (.data (.sl (.int .u8)) x0 [])::.one (.int .i64 x1)::.one (.int .i64 x2)::uU 4 (.one (.int .u64 x3)::.one (.int .i64 x4)::uU 35 [])),[]⟩
theorem F165_run (n:Nat) (a0:List (Int)) (a1 a2:Int):F165.run Pk0 qff n (a0,a1,a2,())=
 F165c3 n (a0) (a1) (a2) ((0:Int)) ((0:Int)):=by kernel_rfl
theorem F165c3_eq (n x0 x1 x2 x3 x4:_):F165c3 (n+1) x0 x1 x2 x3 x4=
 bif decide (x4<x2)then
  if (0:Int)<=IntKind.i64.wrap (x1.tdiv (8:Int))then
   if IntKind.i64.wrap (x1.tdiv (8:Int))<(↑x0.length:Int)then
    if (0:Int)<=x1.tmod (8:Int)then
     if(0:Int)<=q9f (IntKind.i64.wrap ((8:Int)-x1.tmod (8:Int))) (IntKind.i64.wrap (x2-x4))then
      if(0:Int)<=x4 then
       F165c3 n (x0) (IntKind.i64.wrap (x1+q9f (IntKind.i64.wrap ((8:Int)-x1.tmod (8:Int))) (IntKind.i64.wrap (x2-x4)))) (x2) (bits BinOp.or IntKind.u64 x3 (IntKind.u64.wrap (IntKind.u64.wrap (bits BinOp.and IntKind.u8 (x0.getD (IntKind.i64.wrap (x1.tdiv (8:Int))).toNat (0:Int)/(2:Int)^min (x1.tmod (8:Int)).toNat IntKind.u8.bits) (IntKind.u8.wrap (IntKind.u8.wrap ((1:Int)*(2:Int)^min (q9f (IntKind.i64.wrap ((8:Int)-x1.tmod (8:Int))) (IntKind.i64.wrap (x2-x4))).toNat IntKind.u8.bits)-(1:Int))))*(2:Int)^min x4.toNat IntKind.u64.bits))) (IntKind.i64.wrap (x4+q9f (IntKind.i64.wrap ((8:Int)-x1.tmod (8:Int))) (IntKind.i64.wrap (x2-x4))))
      else
       none
     else
      none
    else
     none
   else
    none
  else
   none
 else
  some ((x3,()),()):=by kernel_rfl
def F119c1 (n:Nat) (x0:List (Int)) (x1 x2:Int):=F119.at Pk0 qv4 n 1 ⟨(.one (.data (.sl (.int .u8)) x0 [])::.one (.int .i64 x1)::.one (.int .i64 x2)::uU 60 []),[]⟩
def F119c11 (n:Nat) (x0:List (Int)) (x1 x2:Int):=F119.at Pk0 qv4 n 11 ⟨(.one (.data (.sl (.int .u8)) x0 [])::.one (.int .i64 x1)::.one (.int .i64 x2)::uU 60 []),[]⟩
def F119c13 (n:Nat) (x0:List (Int)) (x1 x2 x3:Int) (x4:List (Int)):=F119.at Pk0 qv4 n 13 ⟨(.one (.data (.sl (.int .u8)) x0 [])::uU 1 (.one (.int .i64 x1)::uU 7 (.one (.own 0)::uU 37 (.one (.int .i64 x2)::.one (.int .i64 x3)::uU 13 [])))),[(0,.row 83 (.int .u64) x4 [] false)]⟩
theorem F119_run (n:Nat) (a0:List (Int)) (a1 a2:Int):F119.run Pk0 qv4 n (a0,a1,a2,())=
 F119c1 n (a0) (a1) (a2):=by kernel_rfl
theorem F119c1_eq (n x0 x1 x2:_):F119c1 (n+1) x0 x1 x2=
 (F118.run Pka Rk6 4000000 (x1,x2,())).bind fun r0=>
  (F150.run Pka Rkp 4000000 (x1,x2,())).bind fun r1=>
   bif !r1.fst.fst then
    some (([],((1:Int),())),())
   else
    bif decide ((↑x0.length:Int)<r0.fst.fst)then
     some (([],((2:Int),())),())
    else
     bif decide (r0.fst.fst<(↑x0.length:Int))then
      some (([],((3:Int),())),())
     else
      bif !decide ((IntKind.i64.wrap (x1*x2)).tmod (8:Int)=(0:Int))then
       if (0:Int)<=IntKind.i64.wrap (r0.fst.fst-(1:Int))then
        if IntKind.i64.wrap (r0.fst.fst-(1:Int))<(↑x0.length:Int)then
         if(0:Int)<=(IntKind.i64.wrap (x1*x2)).tmod (8:Int)then
          bif !decide (x0.getD (IntKind.i64.wrap (r0.fst.fst-(1:Int))).toNat (0:Int)/(2:Int)^min ((IntKind.i64.wrap (x1*x2)).tmod (8:Int)).toNat IntKind.u8.bits=(0:Int))then
           some (([],((4:Int),())),())
          else
           F119c11 n (x0) (x1) (x2)
         else
          none
        else
         none
       else
        none
      else
       F119c11 n (x0) (x1) (x2):=by kernel_rfl
theorem F119c11_eq (n x0 x1 x2:_):F119c11 (n+1) x0 x1 x2=
 if(0:Int)<=x1 then
  if x1<=(↑lim:Int)then
   F119c13 n (x0) (x2) (x1) ((0:Int)) (List.replicate x1.toNat (0:Int))
  else
   none
 else
  none:=by kernel_rfl
theorem F119c13_eq (n x0 x1 x2 x3 x4:_):F119c13 (n+1) x0 x1 x2 x3 x4=
 bif decide (x3<x2)then
  (F165.run Pk2 Rkf 4000000 (x0,IntKind.i64.wrap (x3*x1),x1,())).bind fun r2=>
   if(0:Int)<=x3 then
    if x3<(↑x4.length:Int)then
     F119c13 n (x0) (x1) (x2) (IntKind.i64.wrap (x3+(1:Int))) (x4.set x3.toNat r2.fst.fst)
    else
     none
   else
    none
 else
  some ((x4,((0:Int),())),()):=by kernel_rfl
def F128c1 (n:Nat) (x0:List (Int)) (x1 x2 x3:Int):=F128.at Pkg Rko n 1 ⟨(.one (.data (.sl (.int .u8)) x0 [])::.one (.int .i64 x1)::.one (.int .i64 x2)::.one (.int .i64 x3)::uU 38 []),[]⟩
theorem F128_run (n:Nat) (a0:List (Int)) (a1 a2 a3:Int):F128.run Pkg Rko n (a0,a1,a2,a3,())=
 F128c1 n (a0) (a1) (a2) (a3):=by kernel_rfl
theorem F128c1_eq (n x0 x1 x2 x3:_):F128c1 (n+1) x0 x1 x2 x3=
 (F102.run Pkx Rk6 4000000 (x3,())).bind fun r0=>
  (F118.run Pka Rk6 4000000 (x2,r0.fst.fst,())).bind fun r1=>
   bif decide (IntKind.i64.wrap ((↑x0.length:Int)-x1)<r1.fst.fst)then
    some (([],((0:Int),((2:Int),()))),())
   else
    if (0:Int)<=x1 then
     if x1<=IntKind.i64.wrap (x1+r1.fst.fst)then
      if IntKind.i64.wrap (x1+r1.fst.fst)<=(↑x0.length:Int)then
       (F102.run Pkx Rk6 4000000 (x3,())).bind fun r2=>
        (F119.run Pk2 Rk1n 4000000 (List.drop x1.toNat (List.take (IntKind.i64.wrap (x1+r1.fst.fst)).toNat x0),x2,r2.fst.fst,())).bind fun r3=>
         some ((r3.fst.fst,(IntKind.i64.wrap (x1+r1.fst.fst),(r3.fst.snd.fst,()))),())
      else
       none
     else
      none
    else
     none:=by kernel_rfl
def F127c1 (n:Nat) (x0:List (Int)) (x1 x2:Int):=F127.at Pk0 Rk7 n 1 ⟨(.one (.data (.sl (.int .u8)) x0 [])::.one (.int .i64 x1)::.one (.int .i64 x2)::uU 82 []),[]⟩
def F127c8 (n:Nat) (x0:List (Int)) (x1 x2 x3:Int) (x4:List (List Int)):=F127.at Pk0 Rk7 n 8 ⟨(.one (.data (.sl (.int .u8)) x0 [])::.one (.int .i64 x1)::uU 9 (.one (.own 0)::uU 20 (.one (.int .i64 x2)::.one (.int .i64 x3)::uU 51 []))),[(0,.row 9 .str x4 [] false)]⟩
def F127c21 (n:Nat) (x0:List (Int)) (x1:Int) (x2:List Int) (x3 x4:Int) (x5:List (List Int)):=F127.at Pk0 Rk7 n 21 ⟨(.one (.data (.sl (.int .u8)) x0 [])::.one (.int .i64 x1)::uU 9 (.one (.own 0)::uU 4 (.one (.str x2)::uU 15 (.one (.int .i64 x3)::.one (.int .i64 x4)::uU 51 [])))),[(0,.row 9 .str x5 [] false)]⟩
theorem F127_run (n:Nat) (a0:List (Int)) (a1 a2:Int):F127.run Pk0 Rk7 n (a0,a1,a2,())=
 F127c1 n (a0) (a1) (a2):=by kernel_rfl
theorem F127c1_eq (n x0 x1 x2:_):F127c1 (n+1) x0 x1 x2=
 (F121.run Pk5 Rk8 4000000 (x0,x1,())).bind fun r0=>
  bif !decide (r0.fst.snd.snd.fst=(0:Int))then
   some (([],((0:Int),(r0.fst.snd.snd.fst,()))),())
  else
   bif decide (IntKind.u64.wrap x2<r0.fst.fst)then
    some (([],((0:Int),((6:Int),()))),())
   else
    F127c8 n (x0) (r0.fst.snd.fst) (IntKind.i64.wrap r0.fst.fst) ((0:Int)) ([]):=by kernel_rfl
theorem F127c8_eq (n x0 x1 x2 x3 x4:_):F127c8 (n+1) x0 x1 x2 x3 x4=
 bif decide (x3<x2)then
  (F121.run Pk5 Rk8 4000000 (x0,x1,())).bind fun r1=>
   bif !decide (r1.fst.snd.snd.fst=(0:Int))then
    some (([],((0:Int),(r1.fst.snd.snd.fst,()))),())
   else
    bif decide ((4096:Int)<r1.fst.fst)then
     some (([],((0:Int),((3:Int),()))),())
    else
     bif decide (IntKind.i64.wrap ((↑x0.length:Int)-r1.fst.snd.fst)<IntKind.i64.wrap r1.fst.fst)then
      some (([],((0:Int),((2:Int),()))),())
     else
      if (0 :Int)<=r1.fst.snd.fst then
       if r1.fst.snd.fst<=IntKind.i64.wrap (r1.fst.snd.fst+IntKind.i64.wrap r1.fst.fst)then
        if IntKind.i64.wrap (r1.fst.snd.fst+IntKind.i64.wrap r1.fst.fst)<=(↑x0.length:Int)then
         bif decide ((0:Int)<x3)then
          if (0:Int)<=IntKind.i64.wrap (x3-(1:Int))then
           if IntKind.i64.wrap (x3-(1:Int))<(↑x4.length:Int)then
            bif !Eng.q0t (x4.getD (IntKind.i64.wrap (x3-(1:Int))).toNat []) (List.map Eng.q0p (List.drop (Int.toNat r1.fst.snd.fst) (List.take (IntKind.i64.wrap (r1.fst.snd.fst+IntKind.i64.wrap r1.fst.fst)).toNat x0)))then
             some (([],((0:Int),((4:Int),()))),())
            else
             F127c21 n (x0) (IntKind.i64.wrap (r1.fst.snd.fst+IntKind.i64.wrap r1.fst.fst)) (List.map Eng.q0p (List.drop (Int.toNat r1.fst.snd.fst) (List.take (IntKind.i64.wrap (r1.fst.snd.fst+IntKind.i64.wrap r1.fst.fst)).toNat x0))) (x2) (x3) (x4)
           else
            none
          else
           none
         else
          F127c21 n (x0) (IntKind.i64.wrap (r1.fst.snd.fst+IntKind.i64.wrap r1.fst.fst)) (List.map Eng.q0p (List.drop (Int.toNat r1.fst.snd.fst) (List.take (IntKind.i64.wrap (r1.fst.snd.fst+IntKind.i64.wrap r1.fst.fst)).toNat x0))) (x2) (x3) (x4)
        else
         none
       else
        none
      else
       none
 else
  some ((x4,(x1,((0:Int),()))),()):=by kernel_rfl
theorem F127c21_eq (n x0 x1 x2 x3 x4 x5:_):F127c21 (n+1) x0 x1 x2 x3 x4 x5=
 if x5.length+(1:Nat)<=lim then
  F127c8 n (x0) (x1) (x3) (IntKind.i64.wrap (x4+(1:Int))) (x5++[x2])
 else
  none:=by kernel_rfl
def F74c1 (n:Nat) (x0:List (Int)) (x1 x2:Int):=F74.at Pk0 Rk7 n 1 ⟨(.one (.data (.sl (.int .u8)) x0 [])::.one (.int .i64 x1)::.one (.int .i64 x2)::uU 105 []),[]⟩
def F74c3 (n:Nat) (x0:List (Int)) (x1 x2:Int):=F74.at Pk0 Rk7 n 3 ⟨(.one (.data (.sl (.int .u8)) x0 [])::.one (.int .i64 x1)::.one (.int .i64 x2)::uU 105 []),[]⟩
def F74c15 (n:Nat) (x0:List (Int)) (x1 x2 x3:Int) (x4:List (List Int)) (x5:List (Int)):=F74.at Pk0 Rk7 n 15 ⟨(.one (.data (.sl (.int .u8)) x0 [])::.one (.int .i64 x1)::uU 7 (.one (.own 0)::.one (.int .i64 x2)::.one (.int .i64 x3)::.one (.own 1)::uU 95 [])),[(0,.row 9 .str x4 [] false),(1,.row 83 (.int .u64) x5 [] false)]⟩
def F74c19 (n:Nat) (x0:List (Int)) (x1 x2:Int) (x3 x4:Int) (x5 x6:List (List Int)) (x7:List (Int)):=F74.at Pk0 Rk7 n 19 ⟨(.one (.data (.sl (.int .u8)) x0 [])::.one (.int .i64 x1)::uU 7 (.one (.own 0)::.one (.int .i64 x2)::uU 2 (.one (.own 1)::uU 64 (.one (.own 2)::.one (.int .i64 x3)::.one (.int .i64 x4)::uU 27 [])))),[(0,.row 9 .str x5 [] false),(1,.row 9 .str x6 [] false),(2,.row 83 (.int .u64) x7 [] false)]⟩
theorem F74_run (n:Nat) (a0:List (Int)) (a1 a2:Int):F74.run Pk0 Rk7 n (a0,a1,a2,())=
 F74c1 n (a0) (a1) (a2):=by kernel_rfl
theorem F74c1_eq (n x0 x1 x2:_):F74c1 (n+1) x0 x1 x2=
 bif decide (x1<(0:Int))then
  some (([],((0:Int),((1:Int),()))),())
 else
  bif decide ((↑x0.length:Int)<x1)then
   some (([],((0:Int),((1:Int),()))),())
  else
   bif decide (x2<(0:Int))then
    some (([],((0:Int),((1:Int),()))),())
   else
    bif decide ((65536:Int)<x2)then
     some (([],((0:Int),((1:Int),()))),())
    else
     F74c3 n (x0) (x1) (x2):=by kernel_rfl
theorem F74c3_eq (n x0 x1 x2:_):F74c3 (n+1) x0 x1 x2=
 (F127.run Pk2 Rku 4000000 (x0,x1,x2,())).bind fun r0=>
  bif !decide (r0.fst.snd.snd.fst=(0:Int))then
   some (([],((0:Int),(r0.fst.snd.snd.fst,()))),())
  else
   bif decide (r0.fst.snd.fst=(↑x0.length:Int))then
    some (([],((0:Int),((2:Int),()))),())
   else
    if (0:Int)<=r0.fst.snd.fst then
     if r0.fst.snd.fst<(↑x0.length:Int)then
      bif decide (x0.getD (Int.toNat r0.fst.snd.fst) (0:Int)=(0:Int))then
       (F128.run Pkl Rk21 4000000 (x0,IntKind.i64.wrap (r0.fst.snd.fst+(1:Int)),x2,(↑(List.length r0.fst.fst):Int),())).bind fun r1=>
        F74c15 n (x0) (x1) (r1.fst.snd.fst) (r1.fst.snd.snd.fst) (r0.fst.fst) (r1.fst.fst)
      else
       bif decide (x0.getD (Int.toNat r0.fst.snd.fst) (0:Int)=(1:Int))then
        (F129.run Pk2 Rk21 4000000 (x0,IntKind.i64.wrap (r0.fst.snd.fst+(1:Int)),x2,())).bind fun r2=>
         F74c15 n (x0) (x1) (r2.fst.snd.fst) (r2.fst.snd.snd.fst) (r0.fst.fst) (r2.fst.fst)
       else
        F74c15 n (x0) (x1) (r0.fst.snd.fst) ((4:Int)) (r0.fst.fst) ([])
     else
      none
    else
     none:=by kernel_rfl
theorem F74c15_eq (n x0 x1 x2 x3 x4 x5:_):F74c15 (n+1) x0 x1 x2 x3 x4 x5=
 bif !decide (x3=(0:Int))then
  some (([],((0:Int),(x3,()))),())
 else
  F74c19 n (x0) (x1) (x2) ((↑x5.length:Int)) ((0:Int)) (x4) ([]) (x5):=by kernel_rfl
theorem F74c19_eq (n x0 x1 x2 x3 x4 x5 x6 x7:_):F74c19 (n+1) x0 x1 x2 x3 x4 x5 x6 x7=
 bif decide (x4<x3)then
  if (0 :Int)<=x4 then
   if x4<(↑x7.length:Int)then
    bif decide (IntKind.u64.wrap (↑x5.length:Int)<=x7.getD x4.toNat (0:Int))then
     some (([],((0:Int),((6:Int),()))),())
    else
     if (0:Int)<=x7.getD x4.toNat (0:Int)then
      if x7.getD x4.toNat (0:Int)<(↑x5.length:Int)then
       if x6.length+(1:Nat)<=lim then
        F74c19 n (x0) (x1) (x2) (x3) (IntKind.i64.wrap (x4+(1:Int))) (x5) (x6++[x5.getD (x7.getD x4.toNat (0:Int)).toNat []]) (x7)
       else
        none
      else
       none
     else
      none
   else
    none
  else
   none
 else
  (F56.run qfr Rk1 4000000 (x6,())).bind fun r3=>
   if (0:Int)<=x1 then
    if x1<=x2 then
     if x2<=(↑x0.length:Int)then
      bif !decide (List.map Eng.q0p r3.fst.fst=List.map Eng.q0p (List.drop x1.toNat (List.take x2.toNat x0)))then
       some (([],((0:Int),((4:Int),()))),())
      else
       some ((x6,(x2,((0:Int),()))),())
     else
      none
    else
     none
   else
    none:=by kernel_rfl
def F126c1 (n:Nat) (x0:Int) (x1:List (Int)):=F126.at qvd ql6 n 1 ⟨(.one (.int .i64 x0)::.one (.data (.sl (.int .i64)) x1 [])::uU 28 []),[]⟩
def F126c4 (n:Nat) (x0:Int) (x1:List (Int)) (x2 x3:Int) (x4:List (Int)):=F126.at qvd ql6 n 4 ⟨(.one (.int .i64 x0)::uU 4 (.one (.own 0)::uU 9 (.one (.data (.sl (.int .i64)) x1 [])::.one (.int .i64 x2)::.one (.int .i64 x3)::uU 12 []))),[(0,.row 2 (.int .i64) x4 [] false)]⟩
theorem F126_run (n:Nat) (a0:Int) (a1:List (Int)):F126.run qvd ql6 n (a0,a1,())=
 F126c1 n (a0) (a1):=by kernel_rfl
theorem F126c1_eq (n x0 x1:_):F126c1 (n+1) x0 x1=
 if(↑(Int.toNat (1:Int)):Int)<=IntKind.i64.wrap ((↑x1.length:Int)+(1:Int))then
  if IntKind.i64.wrap ((↑x1.length:Int)+(1:Int))<=(↑lim:Int)then
   F126c4 n (x0) (x1) ((↑x1.length:Int)) ((0:Int)) ([x0])
  else
   none
 else
  none:=by kernel_rfl
theorem F126c4_eq (n x0 x1 x2 x3 x4:_):F126c4 (n+1) x0 x1 x2 x3 x4=
 bif decide (x3<x2)then
  if (0:Int)<=x3 then
   if x3<(↑x1.length:Int)then
    if x4.length+(1:Nat)<=lim then
     F126c4 n (IntKind.i64.wrap (x0+x1.getD x3.toNat (0:Int))) (x1) (x2) (IntKind.i64.wrap (x3+(1:Int))) (x4++[IntKind.i64.wrap (x0+x1.getD x3.toNat (0:Int))])
    else
     none
   else
    none
  else
   none
 else
  some ((x4,()),()):=by kernel_rfl
theorem F124_run (n:Nat) (a0:List (Int)) (a1 a2:Int):F124.run Pk0 [.v (.nm 7),.v (.int .i64)] n (a0,a1,a2,())=
 (F121.run Pk5 Rk8 4000000 (a0,a1,())).bind fun r0=>
  bif !decide (r0.fst.snd.snd.fst=(0:Int))then
   some ((zHdr,(r0.fst.snd.snd.fst,())),())
  else
   (F121.run Pk5 Rk8 4000000 (a0,r0.fst.snd.fst,())).bind fun r1=>
    bif !decide (r1.fst.snd.snd.fst=(0:Int))then
     some ((zHdr,(r1.fst.snd.snd.fst,())),())
    else
     bif decide ((64:Int)<r1.fst.fst)then
      some ((zHdr,((4:Int),())),())
     else
      (F121.run Pk5 Rk8 4000000 (a0,r1.fst.snd.fst,())).bind fun r2=>
       bif !decide (r2.fst.snd.snd.fst=(0:Int))then
        some ((zHdr,(r2.fst.snd.snd.fst,())),())
       else
        bif decide (IntKind.u64.wrap a2<r2.fst.fst)then
         some ((zHdr,((4:Int),())),())
        else
         (F125.run Pk9 Rk6 4000000 (r0.fst.fst,())).bind fun r3=>
          some (({base:=r3.fst.fst,width:=IntKind.i64.wrap r1.fst.fst,exceptions:=IntKind.i64.wrap r2.fst.fst,f_end:=r2.fst.snd.fst:Hdr},((0:Int),())),()):=by kernel_rfl
def F72c1 (n:Nat) (x0:List (Int)) (x1 x2:Int):=F72.at Pk0 Rk3 n 1 ⟨(.one (.data (.sl (.int .u8)) x0 [])::.one (.int .i64 x1)::.one (.int .i64 x2)::uU 182 []),[]⟩
def F72c3 (n:Nat) (x0:List (Int)) (x1 x2:Int):=F72.at Pk0 Rk3 n 3 ⟨(.one (.data (.sl (.int .u8)) x0 [])::.one (.int .i64 x1)::.one (.int .i64 x2)::uU 182 []),[]⟩
def F72c13 (n:Nat) (x0:List (Int)) (x1 x2:Int) (x3 x4:Int) (x5:Bool) (x6 x7:Int) (x8:Hdr) (x9:List (Patch)):=F72.at Pk0 Rk3 n 13 ⟨(.one (.data (.sl (.int .u8)) x0 [])::.one (.int .i64 x1)::.one (.int .i64 x2)::uU 6 (.one (.bptr 0 0)::uU 1 (.one (.int .i64 x3)::.one (.int .i64 x4)::.one (.own 1)::.one (.bool x5)::uU 53 (.one (.int .i64 x6)::.one (.int .i64 x7)::uU 115 [])))),[(0,.whole (.nm 7) x8 []),(1,.row 151 (.nm 8) x9 [] false)]⟩
def F72c22 (n:Nat) (x0:List (Int)) (x1 x2:Int) (x3 x4:Int) (x5:Bool) (x6 x7:Int) (x8 x9:Int) (x10:Hdr) (x11:List (Patch)):=F72.at Pk0 Rk3 n 22 ⟨(.one (.data (.sl (.int .u8)) x0 [])::.one (.int .i64 x1)::.one (.int .i64 x2)::uU 6 (.one (.bptr 0 0)::uU 1 (.one (.int .i64 x3)::.one (.int .i64 x4)::.one (.own 1)::.one (.bool x5)::.one (.int .u64 x6)::uU 2 (.one (.int .u64 x7)::uU 49 (.one (.int .i64 x8)::.one (.int .i64 x9)::uU 115 []))))),[(0,.whole (.nm 7) x10 []),(1,.row 151 (.nm 8) x11 [] false)]⟩
def F72c27 (n:Nat) (x0:List (Int)) (x1 x2 x3:Int) (x4:Hdr) (x5:List (Patch)) (x6:List (Int)):=F72.at Pk0 Rk3 n 27 ⟨(.one (.data (.sl (.int .u8)) x0 [])::.one (.int .i64 x1)::.one (.int .i64 x2)::uU 6 (.one (.bptr 0 0)::uU 2 (.one (.int .i64 x3)::.one (.own 1)::uU 5 (.one (.own 2)::uU 165 [])))),[(0,.whole (.nm 7) x4 []),(1,.row 151 (.nm 8) x5 [] false),(2,.row 83 (.int .u64) x6 [] false)]⟩
def F72c28 (n:Nat) (x0:List (Int)) (x1 x2:Int) (x3 x4 x5:Int) (x6:Hdr) (x7:List (Int)) (x8:List (Patch)):=F72.at Pk0 Rk3 n 28 ⟨(.one (.data (.sl (.int .u8)) x0 [])::.one (.int .i64 x1)::.one (.int .i64 x2)::uU 6 (.one (.bptr 0 0)::uU 2 (.one (.int .i64 x3)::uU 6 (.one (.own 1)::uU 111 (.one (.own 2)::.one (.int .i64 x4)::.one (.int .i64 x5)::uU 51 []))))),[(0,.whole (.nm 7) x6 []),(1,.row 83 (.int .u64) x7 [] false),(2,.row 151 (.nm 8) x8 [] false)]⟩
def F72c35 (n:Nat) (x0:List (Int)) (x1 x2:Int) (x3 x4:Int) (x5:Hdr) (x6 x7:List (Int)):=F72.at Pk0 Rk3 n 35 ⟨(.one (.data (.sl (.int .u8)) x0 [])::.one (.int .i64 x1)::uU 7 (.one (.bptr 0 0)::uU 2 (.one (.int .i64 x2)::uU 9 (.one (.own 1)::uU 133 (.one (.own 2)::.one (.int .i64 x3)::.one (.int .i64 x4)::uU 26 []))))),[(0,.whole (.nm 7) x5 []),(1,.row 2 (.int .i64) x6 [] false),(2,.row 83 (.int .u64) x7 [] false)]⟩
theorem F72_run (n:Nat) (a0:List (Int)) (a1 a2:Int):F72.run Pk0 Rk3 n (a0,a1,a2,())=
 F72c1 n (a0) (a1) (a2):=by kernel_rfl
theorem F72c1_eq (n x0 x1 x2:_):F72c1 (n+1) x0 x1 x2=
 bif decide (x1<(0:Int))then
  some (([],((0:Int),((1:Int),()))),())
 else
  bif decide ((↑x0.length:Int)<x1)then
   some (([],((0:Int),((1:Int),()))),())
  else
   bif decide (x2<(0:Int))then
    some (([],((0:Int),((1:Int),()))),())
   else
    bif decide ((65536:Int)<x2)then
     some (([],((0:Int),((1:Int),()))),())
    else
     F72c3 n (x0) (x1) (x2):=by kernel_rfl
theorem F72c3_eq (n x0 x1 x2:_):F72c3 (n+1) x0 x1 x2=
 (F124.run Pk2 [RK.v (Ty.nm 7),RK.v (Ty.int .i64)] 4000000 (x0,x1,x2,())).bind fun r0=>
  bif !decide (r0.fst.snd.fst=(0:Int))then
   some (([],((0:Int),(r0.fst.snd.fst,()))),())
  else
   (F118.run Pka Rk6 4000000 (x2,r0.fst.fst.width,())).bind fun r1=>
    bif decide (IntKind.i64.wrap ((↑x0.length:Int)-r0.fst.fst.f_end)<r1.fst.fst)then
     some (([],((0:Int),((2:Int),()))),())
    else
     F72c13 n (x0) (x1) (x2) (r1.fst.fst) (IntKind.i64.wrap (r0.fst.fst.f_end+r1.fst.fst)) (true) (r0.fst.fst.exceptions) ((0:Int)) (r0.fst.fst) ([]):=by kernel_rfl
theorem F72c13_eq (n x0 x1 x2 x3 x4 x5 x6 x7 x8 x9:_):F72c13 (n+1) x0 x1 x2 x3 x4 x5 x6 x7 x8 x9=
 bif decide (x7<x6)then
  (F121.run Pk5 Rk8 4000000 (x0,x4,())).bind fun r2=>
   bif !decide (r2.fst.snd.snd.fst=(0:Int))then
    some (([],((0:Int),(r2.fst.snd.snd.fst,()))),())
   else
    (F121.run Pk5 Rk8 4000000 (x0,r2.fst.snd.fst,())).bind fun r3=>
     bif !decide (r3.fst.snd.snd.fst=(0:Int))then
      some (([],((0:Int),(r3.fst.snd.snd.fst,()))),())
     else
      bif x5 then
       F72c22 n (x0) (x1) (x2) (x3) (r3.fst.snd.fst) (decide (r2.fst.fst<IntKind.u64.wrap x2)) (r2.fst.fst) (r3.fst.fst) (x6) (x7) (x8) (x9)
      else
       F72c22 n (x0) (x1) (x2) (x3) (r3.fst.snd.fst) (false) (r2.fst.fst) (r3.fst.fst) (x6) (x7) (x8) (x9)
 else
  if (0 :Int)<=x8.f_end then
   if x8.f_end<=IntKind.i64.wrap (x8.f_end+x3)then
    if IntKind.i64.wrap (x8.f_end+x3)<=(↑x0.length:Int)then
     (F119.run Pk2 Rk1n 4000000 (List.drop x8.f_end.toNat (List.take (IntKind.i64.wrap (x8.f_end+x3)).toNat x0),x2,x8.width,())).bind fun r4=>
      bif !decide (r4.fst.snd.fst=(0:Int))then
       some (([],((0:Int),((4:Int),()))),())
      else
       bif !x5 then
        some (([],((0:Int),((4:Int),()))),())
       else
        F72c27 n (x0) (x1) (x2) (x4) (x8) (x9) (r4.fst.fst)
    else
     none
   else
    none
  else
   none:=by kernel_rfl
theorem F72c22_eq (n x0 x1 x2 x3 x4 x5 x6 x7 x8 x9 x10 x11:_):F72c22 (n+1) x0 x1 x2 x3 x4 x5 x6 x7 x8 x9 x10 x11=
 if x11.length+(1:Nat)<=lim then
  F72c13 n (x0) (x1) (x2) (x3) (x4) (x5) (x8) (IntKind.i64.wrap (x9+(1:Int))) (x10) (x11++[{index:=IntKind.i64.wrap (q9f x6 (IntKind.u64.wrap x2)),high:=x7:Patch}])
 else
  none:=by kernel_rfl
theorem F72c27_eq (n x0 x1 x2 x3 x4 x5 x6:_):F72c27 (n+1) x0 x1 x2 x3 x4 x5 x6=
 F72c28 n (x0) (x1) (x2) (x3) ((↑x5.length:Int)) ((0:Int)) (x4) (x6) (x5):=by kernel_rfl
theorem F72c28_eq (n x0 x1 x2 x3 x4 x5 x6 x7 x8:_):F72c28 (n+1) x0 x1 x2 x3 x4 x5 x6 x7 x8=
 bif decide (x5<x4)then
  if (0 : Int)<=x5 then
   if x5 <(↑x8.length:Int)then
    bif decide (x6.width<(64:Int))then
     if (0:Int)<=(x8.getD x5.toNat qch).index then
      if (x8.getD x5.toNat qch).index<(↑x7.length:Int)then
       if (0:Int)<=IntKind.u64.wrap x6.width then
        if(0:Int)<=(x8.getD x5.toNat qch).index then
         if(x8.getD x5.toNat qch).index<(↑x7.length:Int)then
          F72c28 n (x0) (x1) (x2) (x3) (x4) (IntKind.i64.wrap (x5+(1:Int))) (x6) (x7.set (x8.getD x5.toNat qch).index.toNat (bits BinOp.or IntKind.u64 (x7.getD (x8.getD x5.toNat qch).index.toNat (0:Int)) (IntKind.u64.wrap ((x8.getD x5.toNat qch).high*(2:Int)^min (IntKind.u64.wrap x6.width).toNat IntKind.u64.bits)))) (x8)
         else
          none
        else
         none
       else
        none
      else
       none
     else
      none
    else
     F72c28 n (x0) (x1) (x2) (x3) (x4) (IntKind.i64.wrap (x5+(1:Int))) (x6) (x7) (x8)
   else
    none
  else
   none
 else
  if(0:Int)<=x2 then
   if x2<=(↑lim:Int)then
    F72c35 n (x0) (x1) (x3) ((↑x7.length:Int)) ((0:Int)) (x6) (List.replicate x2.toNat (0:Int)) (x7)
   else
    none
  else
   none:=by kernel_rfl
theorem F72c35_eq (n x0 x1 x2 x3 x4 x5 x6 x7:_):F72c35 (n+1) x0 x1 x2 x3 x4 x5 x6 x7=
 bif decide (x4<x3)then
  if (0:Int)<=x4 then
   if x4<(↑x7.length:Int)then
    if(0:Int)<=x4 then
     if x4<(↑x6.length:Int)then
      F72c35 n (x0) (x1) (x2) (x3) (IntKind.i64.wrap (x4+(1:Int))) (x5) (x6.set x4.toNat (IntKind.i64.wrap (IntKind.u64.wrap (IntKind.u64.wrap x5.base+x7.getD x4.toNat (0:Int))))) (x7)
     else
      none
    else
     none
   else
    none
  else
   none
 else
  (F52.run Pkc Rk1 4000000 (x6,())).bind fun r5=>
   if (0:Int)<=x1 then
    if x1<=x2 then
     if x2<=(↑x0.length:Int)then
      bif !decide (List.map Eng.q0p r5.fst.fst=List.map Eng.q0p (List.drop x1.toNat (List.take x2.toNat x0)))then
       some (([],((0:Int),((4:Int),()))),())
      else
       some ((x6,(x2,((0:Int),()))),())
     else
      none
    else
     none
   else
    none:=by kernel_rfl
def F73c1 (n:Nat) (x0:List (Int)) (x1 x2:Int):=F73.at Pk0 Rk3 n 1 ⟨(.one (.data (.sl (.int .u8)) x0 [])::.one (.int .i64 x1)::.one (.int .i64 x2)::uU 105 []),[]⟩
def F73c3 (n:Nat) (x0:List (Int)) (x1 x2:Int):=F73.at Pk0 Rk3 n 3 ⟨(.one (.data (.sl (.int .u8)) x0 [])::.one (.int .i64 x1)::.one (.int .i64 x2)::uU 105 []),[]⟩
def F73c8 (n:Nat) (x0:List (Int)) (x1 x2 x3:Int):=F73.at Pk0 Rk3 n 8 ⟨(.one (.data (.sl (.int .u8)) x0 [])::.one (.int .i64 x1)::.one (.int .i64 x2)::uU 6 (.one (.int .i64 x3)::uU 98 [])),[]⟩
def F73c11 (n:Nat) (x0:List (Int)) (x1 x2:Int) (x3 x4 x5:Int) (x6:List (Int)):=F73.at Pk0 Rk3 n 11 ⟨(.one (.data (.sl (.int .u8)) x0 [])::.one (.int .i64 x1)::.one (.int .i64 x2)::uU 7 (.one (.int .i64 x3)::.one (.own 0)::uU 39 (.one (.int .i64 x4)::.one (.int .i64 x5)::uU 55 []))),[(0,.row 2 (.int .i64) x6 [] false)]⟩
def F73c22 (n:Nat) (x0:List (Int)) (x1 x2 x3:Int) (x4 x5:List (Int)):=F73.at Pk0 Rk3 n 22 ⟨(.one (.data (.sl (.int .u8)) x0 [])::.one (.int .i64 x1)::uU 8 (.one (.int .i64 x2)::.one (.own 0)::uU 3 (.one (.own 1)::uU 1 (.one (.int .i64 x3)::uU 90 [])))),[(0,.row 2 (.int .i64) x4 [] false),(1,.row 2 (.int .i64) x5 [] false)]⟩
theorem F73_run (n:Nat) (a0:List (Int)) (a1 a2:Int):F73.run Pk0 Rk3 n (a0,a1,a2,())=
 F73c1 n (a0) (a1) (a2):=by kernel_rfl
theorem F73c1_eq (n x0 x1 x2:_):F73c1 (n+1) x0 x1 x2=
 bif decide (x2<(0:Int))then
  some (([],((0:Int),((1:Int),()))),())
 else
  bif decide ((65536:Int)<x2)then
   some (([],((0:Int),((1:Int),()))),())
  else
   bif decide (x1<(0:Int))then
    some (([],((0:Int),((1:Int),()))),())
   else
    F73c3 n (x0) (x1) (x2):=by kernel_rfl
theorem F73c3_eq (n x0 x1 x2:_):F73c3 (n+1) x0 x1 x2=
 bif decide ((↑x0.length:Int)<=x1)then
  some (([],((0:Int),((2:Int),()))),())
 else
  if (0:Int)<=x1 then
   if x1<(↑x0.length:Int)then
    bif !decide (IntKind.i64.wrap (x0.getD x1.toNat (0:Int))=(1:Int))then
     bif !decide (IntKind.i64.wrap (x0.getD x1.toNat (0:Int))=(2:Int))then
      some (([],((0:Int),((4:Int),()))),())
     else
      bif decide (x2<(2:Int))then
       some (([],((0:Int),((4:Int),()))),())
      else
       F73c8 n (x0) (x1) (x2) (IntKind.i64.wrap (x0.getD x1.toNat (0:Int)))
    else
     F73c8 n (x0) (x1) (x2) (IntKind.i64.wrap (x0.getD x1.toNat (0:Int)))
   else
    none
  else
   none:=by kernel_rfl
theorem F73c8_eq (n x0 x1 x2 x3:_):F73c8 (n+1) x0 x1 x2 x3=
 F73c11 n (x0) (x1) (x2) (IntKind.i64.wrap (x1+(1:Int))) (q9f x3 x2) ((0:Int)) ([]):=by kernel_rfl
theorem F73c11_eq (n x0 x1 x2 x3 x4 x5 x6:_):F73c11 (n+1) x0 x1 x2 x3 x4 x5 x6=
 bif decide (x5<x4)then
  (F121.run Pk5 Rk8 4000000 (x0,x3,())).bind fun r0=>
   bif !decide (r0.fst.snd.snd.fst=(0:Int))then
    some (([],((0:Int),(r0.fst.snd.snd.fst,()))),())
   else
    (F125.run Pk9 Rk6 4000000 (r0.fst.fst,())).bind fun r1=>
     if x6.length+(1:Nat)<=lim then
      F73c11 n (x0) (x1) (x2) (r0.fst.snd.fst) (x4) (IntKind.i64.wrap (x5+(1:Int))) (x6++([r1.fst.fst]:List (Int)))
     else
      none
 else
  (F72.run Pk2 Rki 4000000 (x0,x3,IntKind.i64.wrap (x2-(↑x6.length:Int)),())).bind fun r2=>
   bif !decide (r2.fst.snd.snd.fst=(0:Int))then
    some (([],((0:Int),(r2.fst.snd.snd.fst,()))),())
   else
    F73c22 n (x0) (x1) (r2.fst.snd.fst) (IntKind.i64.wrap ((↑x6.length:Int)-(1:Int))) (x6) (r2.fst.fst):=by kernel_rfl
theorem F73c22_eq (n x0 x1 x2 x3 x4 x5:_):F73c22 (n+1) x0 x1 x2 x3 x4 x5=
 bif decide ((0:Int)<=x3)then
  if (0:Int)<=x3 then
   if x3<(↑x4.length:Int)then
    (F126.run Pk1o qn3 4000000 (x4.getD x3.toNat (0:Int),x5,())).bind fun r3=>
     F73c22 n (x0) (x1) (x2) (IntKind.i64.wrap (x3-(1:Int))) (x4) (r3.fst.fst)
   else
    none
  else
   none
 else
  (F54.run Pkc Rk1 4000000 (x5,())).bind fun r4=>
   if (0:Int)<=x1 then
    if x1<=x2 then
     if x2<=(↑x0.length:Int)then
      (F40.run Pk2s Rkp 4000000 (r4.fst.fst,List.drop x1.toNat (List.take x2.toNat x0),())).bind fun r5=>
       bif !r5.fst.fst then
        some (([],((0:Int),((4:Int),()))),())
       else
        some ((x5,(x2,((0:Int),()))),())
     else
      none
    else
     none
   else
    none:=by kernel_rfl
def F71c1 (n:Nat) (x0:List (Int)) (x1:Int):=F71.at Pkb Rk3 n 1 ⟨(.one (.data (.sl (.int .u8)) x0 [])::.one (.int .i64 x1)::uU 32 []),[]⟩
theorem F71_run (n:Nat) (a0:List (Int)) (a1:Int):F71.run Pkb Rk3 n (a0,a1,())=
 F71c1 n (a0) (a1):=by kernel_rfl
theorem F71c1_eq (n x0 x1:_):F71c1 (n+1) x0 x1=
 (F122.run Pk5 Rk1r 4000000 (x0,(1:Int),())).bind fun r0=>
  bif !decide (r0.fst.snd.snd.fst=(0:Int))then
   some (([],((0:Int),(r0.fst.snd.snd.fst,()))),())
  else
   (F123.run qii Rk28 4000000 (r0.fst.fst,())).bind fun r1=>
    bif !decide (r1.fst.snd.fst=(0:Int))then
     some (([],((0:Int),(r1.fst.snd.fst,()))),())
    else
     bif !decide ((↑(List.length r1.fst.fst):Int)=x1)then
      some (([],((0:Int),((18:Int),()))),())
     else
      some ((r1.fst.fst,(r0.fst.snd.fst,((0:Int),()))),()):=by kernel_rfl
def F70c1 (n:Nat) (x0:List (Int)) (x1:Int):=F70.at Pkb Rk7 n 1 ⟨(.one (.data (.sl (.int .u8)) x0 [])::.one (.int .i64 x1)::uU 50 []),[]⟩
def F70c4 (n:Nat) (x0:List (Int)) (x1 x2 x3:Int) (x4:List (List Int)):=F70.at Pkb Rk7 n 4 ⟨(.one (.data (.sl (.int .u8)) x0 [])::uU 6 (.one (.int .i64 x1)::.one (.own 0)::uU 3 (.one (.int .i64 x2)::.one (.int .i64 x3)::uU 38 []))),[(0,.row 9 .str x4 [] false)]⟩
theorem F70_run (n:Nat) (a0:List (Int)) (a1:Int):F70.run Pkb Rk7 n (a0,a1,())=
 F70c1 n (a0) (a1):=by kernel_rfl
theorem F70c1_eq (n x0 x1:_):F70c1 (n+1) x0 x1=
 F70c4 n (x0) ((1:Int)) (x1) ((0:Int)) ([]):=by kernel_rfl
theorem F70c4_eq (n x0 x1 x2 x3 x4:_):F70c4 (n+1) x0 x1 x2 x3 x4=
 bif decide (x3<x2)then
  (F121.run Pk5 Rk8 4000000 (x0,x1,())).bind fun r0=>
   bif !decide (r0.fst.snd.snd.fst=(0:Int))then
    some (([],((0:Int),(r0.fst.snd.snd.fst,()))),())
   else
    bif decide ((4096:Int)<r0.fst.fst)then
     some (([],((0:Int),((3:Int),()))),())
    else
     bif decide (IntKind.i64.wrap ((↑x0.length:Int)-r0.fst.snd.fst)<IntKind.i64.wrap r0.fst.fst)then
      some (([],((0:Int),((2:Int),()))),())
     else
      if (0:Int)<=r0.fst.snd.fst then
       if r0.fst.snd.fst<=IntKind.i64.wrap (r0.fst.snd.fst+IntKind.i64.wrap r0.fst.fst)then
        if IntKind.i64.wrap (r0.fst.snd.fst+IntKind.i64.wrap r0.fst.fst)<=(↑x0.length:Int)then
         if x4.length+(1:Nat)<=lim then
          F70c4 n (x0) (IntKind.i64.wrap (r0.fst.snd.fst+IntKind.i64.wrap r0.fst.fst)) (x2) (IntKind.i64.wrap (x3+(1:Int))) (x4++[List.map Eng.q0p (List.drop (Int.toNat r0.fst.snd.fst) (List.take (IntKind.i64.wrap (r0.fst.snd.fst+IntKind.i64.wrap r0.fst.fst)).toNat x0))])
         else
          none
        else
         none
       else
        none
      else
       none
 else
  some ((x4,(x1,((0:Int),()))),()):=by kernel_rfl
def F120c3 (n:Nat) (x0:List (Int)) (x1 x2:Int):=F120.at Pk0 qxe n 3 ⟨(.one (.data (.sl (.int .u8)) x0 [])::.one (.int .i64 x1)::.one (.int .i64 x2)::uU 47 []),[]⟩
def F120c7 (n:Nat) (x0:List (Int)) (x1 x2:Int) (x3 x4:Int):=F120.at Pk0 qxe n 7 ⟨(.one (.data (.sl (.int .u8)) x0 [])::.one (.int .i64 x1)::uU 6 (.one (.int .u64 x2)::uU 23 (.one (.int .i64 x3)::.one (.int .i64 x4)::uU 16 []))),[]⟩
theorem F120_run (n:Nat) (a0:List (Int)) (a1 a2:Int):F120.run Pk0 qxe n (a0,a1,a2,())=
 bif decide (a2<(1:Int))then
  some (((0:Int),((1:Int),())),())
 else
  bif decide ((8:Int)<a2)then
   some (((0:Int),((1:Int),())),())
  else
   bif decide (a1<(0:Int))then
    some (((0:Int),((1:Int),())),())
   else
    bif decide ((↑a0.length:Int)<a1)then
     some (((0:Int),((1:Int),())),())
    else
     F120c3 n (a0) (a1) (a2):=by kernel_rfl
theorem F120c3_eq (n x0 x1 x2:_):F120c3 (n+1) x0 x1 x2=
 bif decide (IntKind.i64.wrap ((↑x0.length:Int)-x1)<x2)then
  some (((0:Int),((2:Int),())),())
 else
  F120c7 n (x0) (x1) ((0:Int)) (x2) ((0:Int)):=by kernel_rfl
theorem F120c7_eq (n x0 x1 x2 x3 x4:_):F120c7 (n+1) x0 x1 x2 x3 x4=
 bif decide (x4<x3)then
  if (0:Int)<=IntKind.i64.wrap (x1+x4)then
   if IntKind.i64.wrap (x1+x4)<(↑x0.length:Int)then
    if(0:Int)<=IntKind.i64.wrap ((8:Int)*x4)then
     F120c7 n (x0) (x1) (bits BinOp.or IntKind.u64 x2 (IntKind.u64.wrap (IntKind.u64.wrap (x0.getD (IntKind.i64.wrap (x1+x4)).toNat (0:Int))*(2:Int)^min (IntKind.i64.wrap ((8:Int)*x4)).toNat IntKind.u64.bits))) (x3) (IntKind.i64.wrap (x4+(1:Int)))
    else
     none
   else
    none
  else
   none
 else
  some ((x2,((0:Int),())),()):=by kernel_rfl
def F69c1 (n:Nat) (x0:List (Int)) (x1:Int):=F69.at Pkb Rk3 n 1 ⟨(.one (.data (.sl (.int .u8)) x0 [])::.one (.int .i64 x1)::uU 40 []),[]⟩
def F69c5 (n:Nat) (x0:List (Int)) (x1 x2 x3:Int) (x4:List (Int)):=F69.at Pkb Rk3 n 5 ⟨(.one (.data (.sl (.int .u8)) x0 [])::.one (.int .i64 x1)::uU 5 (.one (.own 0)::uU 12 (.one (.int .i64 x2)::.one (.int .i64 x3)::uU 20 []))),[(0,.row 2 (.int .i64) x4 [] false)]⟩
theorem F69_run (n:Nat) (a0:List (Int)) (a1:Int):F69.run Pkb Rk3 n (a0,a1,())=
 F69c1 n (a0) (a1):=by kernel_rfl
theorem F69c1_eq (n x0 x1:_):F69c1 (n+1) x0 x1=
 bif decide (IntKind.i64.wrap ((↑x0.length:Int)-(1:Int))<IntKind.i64.wrap ((8:Int)*x1))then
  some (([],((0:Int),((2:Int),()))),())
 else
  if(0:Int)<=x1 then
   if x1<=(↑lim:Int)then
    F69c5 n (x0) (x1) ((↑(List.replicate x1.toNat (0:Int)).length:Int)) ((0:Int)) (List.replicate x1.toNat (0:Int))
   else
    none
  else
   none:=by kernel_rfl
theorem F69c5_eq (n x0 x1 x2 x3 x4:_):F69c5 (n+1) x0 x1 x2 x3 x4=
 bif decide (x3<x2)then
  (F120.run Pk2 Rk2w 4000000 (x0,IntKind.i64.wrap ((1:Int)+IntKind.i64.wrap ((8:Int)*x3)),(8:Int),())).bind fun r0=>
   if(0:Int)<=x3 then
    if x3<(↑x4.length:Int)then
     F69c5 n (x0) (x1) (x2) (IntKind.i64.wrap (x3+(1:Int))) (x4.set x3.toNat (IntKind.i64.wrap r0.fst.fst))
    else
     none
   else
    none
 else
  some ((x4,(IntKind.i64.wrap ((1:Int)+IntKind.i64.wrap ((8:Int)*x1)),((0:Int),()))),()):=by kernel_rfl
def F68c1 (n:Nat) (x0:List (Int)) (x1:Int):=F68.at Pkb Rk3 n 1 ⟨(.one (.data (.sl (.int .u8)) x0 [])::.one (.int .i64 x1)::uU 48 []),[]⟩
def F68c9 (n:Nat) (x0 x1 x2:Int) (x3 x4:List (Int)):=F68.at Pkb Rk3 n 9 ⟨(uU 7 (.one (.int .i64 x0)::uU 2 (.one (.own 0)::uU 23 (.one (.own 1)::.one (.int .i64 x1)::.one (.int .i64 x2)::uU 13 [])))),[(0,.row 2 (.int .i64) x3 [] false),(1,.row 83 (.int .u64) x4 [] false)]⟩
theorem F68_run (n:Nat) (a0:List (Int)) (a1:Int):F68.run Pkb Rk3 n (a0,a1,())=
 F68c1 n (a0) (a1):=by kernel_rfl
theorem F68c1_eq (n x0 x1:_):F68c1 (n+1) x0 x1=
 (F118.run Pka Rk6 4000000 (x1,(1:Int),())).bind fun r0=>
  bif decide (IntKind.i64.wrap ((↑x0.length:Int)-(1:Int))<r0.fst.fst)then
   some (([],((0:Int),((2:Int),()))),())
  else
   if (1 :Int)<=IntKind.i64.wrap ((1:Int)+r0.fst.fst)then
    if IntKind.i64.wrap ((1:Int)+r0.fst.fst)<=(↑x0.length:Int)then
     (F119.run Pk2 Rk1n 4000000 (List.drop (Int.toNat (1:Int)) (List.take (IntKind.i64.wrap ((1:Int)+r0.fst.fst)).toNat x0),x1,(1:Int),())).bind fun r1=>
      bif !decide (r1.fst.snd.fst=(0:Int))then
       some (([],((0:Int),(r1.fst.snd.fst,()))),())
      else
       if(0:Int)<=x1 then
        if x1<=(↑lim:Int)then
         F68c9 n (r0.fst.fst) ((↑(List.length r1.fst.fst):Int)) ((0:Int)) (List.replicate x1.toNat (0:Int)) (r1.fst.fst)
        else
         none
       else
        none
    else
     none
   else
    none:=by kernel_rfl
theorem F68c9_eq (n x0 x1 x2 x3 x4:_):F68c9 (n+1) x0 x1 x2 x3 x4=
 bif decide (x2<x1)then
  if (0:Int)<=x2 then
   if x2<(↑x4.length:Int)then
    if(0:Int)<=x2 then
     if x2<(↑x3.length:Int)then
      F68c9 n (x0) (x1) (IntKind.i64.wrap (x2+(1:Int))) (x3.set x2.toNat (IntKind.i64.wrap (x4.getD x2.toNat (0:Int)))) (x4)
     else
      none
    else
     none
   else
    none
  else
   none
 else
  some ((x3,(IntKind.i64.wrap ((1:Int)+x0),((0:Int),()))),()):=by kernel_rfl
def F39c19 (n:Nat) (x0 x1 x2:Int) (x3:List (List Int)) (x4:List (Bool)) (x5:List (Int)):=F39.at Pk0 Rkh n 19 ⟨(uU 6 (.one (.bptr 0 0)::.one (.int .i64 x0)::.one (.int .i64 x1)::uU 89 [])),[(0,.cells [.int .i64 x2,.own 1,.data (.sl .str) x3 [],.data (.sl .bool) x4 []]),(1,.row 2 (.int .i64) x5 [] false)]⟩
def F39c19' (n:Nat) (x0 x1 x2:Int) (x3:List (Int)) (x4:List (Bool)) (x5:List (List Int)):=F39.at Pk0 Rkh n 19 ⟨(uU 6 (.one (.bptr 0 0)::.one (.int .i64 x0)::.one (.int .i64 x1)::uU 89 [])),[(0,.cells [.int .i64 x2,.data (.sl (.int .i64)) x3 [],.own 1,.data (.sl .bool) x4 []]),(1,.row 9 .str x5 [] false)]⟩
theorem F39_run (n:Nat) (a0:List (Int)) (a1 a2:Int):F39.run Pk0 Rkh n (a0,a1,a2,())=
 if (0 : Int)<=a2 then
  if a2 <= (↑lim:Int)then
   if (0 :Int)<(↑a0.length:Int)then
    bif decide (a0.getD (Int.toNat (0:Int)) (0:Int)=(0:Int))then
     bif decide (a1=(1:Int))then
      (F68.run Pk5 Rki 4000000 (a0,a2,())).bind fun r0=>
       F39c19 n (r0.fst.snd.fst) (r0.fst.snd.snd.fst) (a1) ([]) (List.replicate a2.toNat false) (r0.fst.fst)
     else
      bif decide (a1=(2:Int))then
       (F69.run Pk5 Rki 4000000 (a0,a2,())).bind fun r1=>
        F39c19 n (r1.fst.snd.fst) (r1.fst.snd.snd.fst) (a1) ([]) (List.replicate a2.toNat false) (r1.fst.fst)
      else
       (F70.run Pk5 Rku 4000000 (a0,a2,())).bind fun r2=>
        F39c19' n (r2.fst.snd.fst) (r2.fst.snd.snd.fst) (a1) ([]) (List.replicate a2.toNat false) (r2.fst.fst)
    else
     bif decide (a0.getD (Int.toNat (0:Int)) (0:Int)=(1:Int))then
      (F71.run Pk5 Rki 4000000 (a0,a2,())).bind fun r3=>
       F39c19 n (r3.fst.snd.fst) (r3.fst.snd.snd.fst) (a1) ([]) (List.replicate a2.toNat false) (r3.fst.fst)
     else
      bif decide (a0.getD (Int.toNat (0:Int)) (0:Int)=(2:Int))then
       (F72.run Pk2 Rki 4000000 (a0,(1:Int),a2,())).bind fun r4=>
        F39c19 n (r4.fst.snd.fst) (r4.fst.snd.snd.fst) (a1) ([]) (List.replicate a2.toNat false) (r4.fst.fst)
      else
       bif decide (a0.getD (Int.toNat (0:Int)) (0:Int)=(3:Int))then
        (F73.run Pk2 Rki 4000000 (a0,(1:Int),a2,())).bind fun r5=>
         F39c19 n (r5.fst.snd.fst) (r5.fst.snd.snd.fst) (a1) ([]) (List.replicate a2.toNat false) (r5.fst.fst)
       else
        bif decide (a0.getD (Int.toNat (0:Int)) (0:Int)=(4:Int))then
         (F74.run Pk2 Rku 4000000 (a0,(1:Int),a2,())).bind fun r6=>
          F39c19' n (r6.fst.snd.fst) (r6.fst.snd.snd.fst) (a1) ([]) (List.replicate a2.toNat false) (r6.fst.fst)
        else
         (F75.run Pk2 Rku 4000000 (a0,(1:Int),a2,())).bind fun r7=>
          F39c19' n (r7.fst.snd.fst) (r7.fst.snd.snd.fst) (a1) ([]) (List.replicate a2.toNat false) (r7.fst.fst)
   else
    none
  else
   none
 else
  none:=by kernel_rfl
theorem F39c19_eq (n x0 x1 x2 x3 x4 x5:_):F39c19 (n+1) x0 x1 x2 x3 x4 x5=
 some (({f_Type:=x2,ints:=x5,texts:=x3,nulls:=x4:Vec},(x0,(x1,()))),()):=by kernel_rfl
theorem F39c19'_eq (n x0 x1 x2 x3 x4 x5:_):F39c19' (n+1) x0 x1 x2 x3 x4 x5=
 some (({f_Type:=x2,ints:=x3,texts:=x5,nulls:=x4:Vec},(x0,(x1,()))),()):=by kernel_rfl
def F18c7 (n:Nat) (x0:List (Int)) (x1 x2:Int) (x3:Vec):=F18.at Pk0 Rkh n 7 ⟨(.one (.data (.sl (.int .u8)) x0 [])::.one (.int .i64 x1)::.one (.int .i64 x2)::uU 3 (.one (.bptr 0 0)::uU 99 [])),[(0,.whole (.nm 0) x3 [])]⟩
def F18c11 (n:Nat) (x0:List (Int)) (x1 x2:Int) (x3:List (Int)) (x4 x5:Int) (x6 x7:Vec):=F18.at Pk0 Rkh n 11 ⟨(.one (.data (.sl (.int .u8)) x0 [])::.one (.int .i64 x1)::uU 4 (.one (.bptr 0 0)::uU 2 (.one (.bptr 1 0)::.one (.int .i64 x2)::uU 50 (.one (.data (.sl (.int .i64)) x3 [])::.one (.int .i64 x4)::.one (.int .i64 x5)::uU 42 [])))),[(0,.whole (.nm 0) x6 []),(1,.whole (.nm 0) x7 [])]⟩
def F18c17 (n:Nat) (x0:List (Int)) (x1:Int) (x2:List (List Int)) (x3 x4:Int) (x5 x6:Vec):=F18.at Pk0 Rkh n 17 ⟨(.one (.data (.sl (.int .u8)) x0 [])::uU 5 (.one (.bptr 0 0)::uU 2 (.one (.bptr 1 0)::.one (.int .i64 x1)::uU 66 (.one (.data (.sl .str) x2 [])::.one (.int .i64 x3)::.one (.int .i64 x4)::uU 26 [])))),[(0,.whole (.nm 0) x5 []),(1,.whole (.nm 0) x6 [])]⟩
theorem F18_run (n:Nat) (a0:List (Int)) (a1 a2:Int):F18.run Pk0 Rkh n (a0,a1,a2,())=
 bif decide (a1<(1:Int))then
  some ((q2r,((0:Int),((1:Int),()))),())
 else
  bif decide ((3:Int)<a1)then
   some ((q2r,((0:Int),((1:Int),()))),())
  else
   bif decide (a2<(0:Int))then
    some ((q2r,((0:Int),((1:Int),()))),())
   else
    bif decide ((65536:Int)<a2)then
     some ((q2r,((0:Int),((1:Int),()))),())
    else
     bif decide ((↑a0.length:Int)=(0:Int))then
      some ((q2r,((0:Int),((2:Int),()))),())
     else
      if (0:Int)<(↑a0.length:Int)then
       (F38.run Pka Rkp 4000000 (IntKind.i64.wrap (a0.getD (Int.toNat (0:Int)) (0:Int)),a1,())).bind fun r0=>
        bif !r0.fst.fst then
         some ((q2r,((0:Int),((4:Int),()))),())
        else
         F18c7 n (a0) (a1) (a2) (q2r)
      else
       none:=by kernel_rfl
theorem F18c7_eq (n x0 x1 x2 x3:_):F18c7 (n+1) x0 x1 x2 x3=
 (F39.run Pk2 qza 4000000 (x0,x1,x2,())).bind fun r1=>
  bif !decide (r1.fst.snd.snd.fst=(0:Int))then
   some ((q2r,((0:Int),(r1.fst.snd.snd.fst,()))),())
  else
   F18c11 n (x0) (x1) (r1.fst.snd.fst) (r1.fst.fst.ints) ((↑r1.fst.fst.ints.length:Int)) ((0:Int)) (x3) (r1.fst.fst):=by kernel_rfl
theorem F18c11_eq (n x0 x1 x2 x3 x4 x5 x6 x7:_):F18c11 (n+1) x0 x1 x2 x3 x4 x5 x6 x7=
 bif decide (x5<x4)then
  if (0:Int)<=x5 then
   if x5<(↑x3.length:Int)then
    bif decide (x1=(1:Int))then
     bif !decide (bits BinOp.andNot IntKind.i64 (x3.getD x5.toNat (0:Int)) (1:Int)=(0:Int))then
      some ((q2r,((0:Int),((4:Int),()))),())
     else
      F18c11 n (x0) (x1) (x2) (x3) (x4) (IntKind.i64.wrap (x5+(1:Int))) (x6) (x7)
    else
     F18c11 n (x0) (x1) (x2) (x3) (x4) (IntKind.i64.wrap (x5+(1:Int))) (x6) (x7)
   else
    none
  else
   none
 else
  F18c17 n (x0) (x2) (x7.texts) ((↑x7.texts.length:Int)) ((0:Int)) (x6) (x7):=by kernel_rfl
theorem F18c17_eq (n x0 x1 x2 x3 x4 x5 x6:_):F18c17 (n+1) x0 x1 x2 x3 x4 x5 x6=
 bif decide (x4<x3)then
  if (0:Int)<=x4 then
   if x4<(↑x2.length:Int)then
    bif decide ((4096:Int)<(↑(x2.getD x4.toNat []).length:Int))then
     some ((q2r,((0:Int),((3:Int),()))),())
    else
     F18c17 n (x0) (x1) (x2) (x3) (IntKind.i64.wrap (x4+(1:Int))) (x5) (x6)
   else
    none
  else
   none
 else
  if (0 :Int)<(↑x0.length:Int)then
   (F11.run qr4 qzb 4000000 (x6,IntKind.i64.wrap (x0.getD (Int.toNat (0:Int)) (0:Int)),())).bind fun r2=>
    if (0:Int)<=x1 then
     if x1<=(↑x0.length:Int)then
      (F40.run Pk2s Rkp 4000000 (r2.fst.fst,List.drop (Int.toNat (0:Int)) (List.take x1.toNat x0),())).bind fun r3=>
       bif !r3.fst.fst then
        some ((q2r,((0:Int),((4:Int),()))),())
       else
        some ((x6,(x1,((0:Int),()))),())
     else
      none
    else
     none
  else
   none:=by kernel_rfl
end
end Go.Proofs.Tryz
