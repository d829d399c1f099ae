/- The functions of the program as the engine follows them (printed by a program of ours): their code, what is known of them, and the equations of their runs. -/
import Derived.Test.YtpnabclcnplchaaGreatL12Base
set_option linter.unusedVariables false
set_option maxRecDepth 20000
namespace Go.Proofs.Tryz
open Go.Eng
open IntKind (i64 u64 u8)
noncomputable section
def F37:Eng.Fn NN:=mkF [] [] [.v (.nm 1)] f37 [.tmp 2] 5
def sp37:Eng.Spec NN:=F37.spec [.v (.nm 1)] Rkd 4000000
theorem qzi:Eng.Good prog 37 sp37:=gF (fn:=f37) fits q0e .nil (by kernel_rfl)
def F36:Eng.Fn NN:=mkF [(37,sp37)] [] [.v (.nm 1),.v (.nm 1),.fv 37] f36 [.cell 6 38] 28
def sp36:Eng.Spec NN:=F36.spec Pk31 [.v (.nm 1)] 4000000
theorem z14x:Eng.Good prog 36 sp36:=gF (fn:=f36) fits q0e (.cons qzi .nil) (by kernel_rfl)
def F91:Eng.Fn NN:=mkF [] [(1,[0]),(2,[0,3])] [.v (.int .u64)] f91 [.tmp 2] 19
def sp91:Eng.Spec NN:=F91.spec qd9 Rk4 4000000
theorem qgy:Eng.Good prog 91 sp91:=gF (fn:=f91) fits q0e .nil (by kernel_rfl)
def F104:Eng.Fn NN:=mkF [] [(1,[0,1]),(3,[0,1]),(5,[0,5,15,16])] [.v (.int .u64),.v (.int .i64)] f104 [.tmp 4] 29
def z168:Eng.Spec NN:=F104.spec Pkv Rk4 4000000
theorem z118:Eng.Good prog 104 z168:=gF (fn:=f104) fits q0e .nil (by kernel_rfl)
def F151:Eng.Fn NN:=mkF [] [(1,[0,2,3,5])] [.v (.int .u64),.bw (.int .i64),.bw (.int .i64),.bc [.o 5 (.int .u8)]] f151 [] 40
def z16o:Eng.Spec NN:=F151.spec Pk20 [] 4000000
theorem z11m:Eng.Good prog 151 z16o:=gF (fn:=f151) fits q0e .nil (by kernel_rfl)
def F150:Eng.Fn NN:=mkF [] [] [.v (.int .i64),.v (.int .i64)] f150 [.tmp 4] 19
def qya:Eng.Spec NN:=F150.spec Pkz Rkk 4000000
theorem qmz:Eng.Good prog 150 qya:=gF (fn:=f150) fits q0e .nil (by kernel_rfl)
def F118:Eng.Fn NN:=mkF [(150,qya)] [] [.v (.int .i64),.v (.int .i64)] f118 [.tmp 4] 14
def qnq:Eng.Spec NN:=F118.spec Pkz Rkd 4000000
theorem qc2:Eng.Good prog 118 qnq:=gF (fn:=f118) fits q0e (.cons qmz .nil) (by kernel_rfl)
def F98:Eng.Fn NN:=mkF [(151,z16o),(118,qnq),(150,qya)] [(1,[0,3]),(7,[0,5,7,21,22])] [.v (.sl (.int .u64)),.v (.int .i64)] f98 [.tmp 4] 33
def sp98:Eng.Spec NN:=F98.spec qwn Rk4 4000000
theorem qu0:Eng.Good prog 98 sp98:=gF (fn:=f98) fits q0e (.cons z11m (.cons qc2 (.cons qmz .nil))) (by kernel_rfl)
def F60:Eng.Fn NN:=mkF [(91,sp91),(104,z168),(98,sp98)] [(1,[1]),(5,[3,21,22,23]),(13,[6,39,40,41]),(20,[9,53,54,55])] [.v (.nm 0)] f60 [.tmp 2] 70
def sp60:Eng.Spec NN:=F60.spec Pkx Rk4 4000000
theorem z154:Eng.Good prog 60 sp60:=gF (fn:=f60) fits q0e (.cons qgy (.cons z118 (.cons qu0 .nil))) (by kernel_rfl)
def F59:Eng.Fn NN:=mkF [(60,sp60)] [(1,[0])] [.bw (.nm 0)] f59 [.tmp 1] 4
def sp59:Eng.Spec NN:=F59.spec qjj Rk4 4000000
theorem qtz:Eng.Good prog 59 sp59:=gF (fn:=f59) fits q0e (.cons z154 .nil) (by kernel_rfl)
def F156:Eng.Fn NN:=mkF [] [(2,[0,1,5])] [.v (.str),.v (.str)] f156 [.tmp 4] 28
def z133:Eng.Spec NN:=F156.spec Pk2g Rkd 4000000
theorem qtq:Eng.Good prog 156 z133:=gF (fn:=f156) fits q0e .nil (by kernel_rfl)
def F103:Eng.Fn NN:=mkF [(156,z133)] [] [.v (.sl (.str)),.v (.int .i64)] f103 [.tmp 4] 18
def z167:Eng.Spec NN:=F103.spec Pk2l Rkd 4000000
theorem z117:Eng.Good prog 103 z167:=gF (fn:=f103) fits q0e (.cons qtq .nil) (by kernel_rfl)
def F58:Eng.Fn NN:=mkF [(91,sp91),(103,z167)] [(1,[0]),(3,[0,3,7,8,9])] [.v (.sl (.str))] f58 [.tmp 2] 37
def sp58:Eng.Spec NN:=F58.spec Pkq Rk4 4000000
theorem z153:Eng.Good prog 58 sp58:=gF (fn:=f58) fits q0e (.cons qgy (.cons z117 .nil)) (by kernel_rfl)
def F57:Eng.Fn NN:=mkF [(58,sp58)] [(1,[0])] [.bw (.nm 0)] f57 [.tmp 1] 5
def sp57:Eng.Spec NN:=F57.spec qjj Rk4 4000000
theorem qty:Eng.Good prog 57 sp57:=gF (fn:=f57) fits q0e (.cons z153 .nil) (by kernel_rfl)
def F92:Eng.Fn NN:=mkF [] [] [.v (.int .i64)] f92 [.tmp 2] 10
def sp92:Eng.Spec NN:=F92.spec qwe qgd 4000000
theorem qow:Eng.Good prog 92 sp92:=gF (fn:=f92) fits q0e .nil (by kernel_rfl)
def F49:Eng.Fn NN:=mkF [(91,sp91),(92,sp92)] [(1,[0]),(4,[3,4,11,12,13])] [.v (.sl (.nm 5))] f49 [.tmp 2] 35
def sp49:Eng.Spec NN:=F49.spec Pks Rk4 4000000
theorem qzk:Eng.Good prog 49 sp49:=gF (fn:=f49) fits q0e (.cons qgy (.cons qow .nil)) (by kernel_rfl)
def F50:Eng.Fn NN:=mkF [] [(1,[0]),(3,[0,3,6,7,8]),(7,[0,3,5,6,7,8])] [.v (.sl (.int .i64))] f50 [.tmp 2] 41
def sp50:Eng.Spec NN:=F50.spec Pke qwh 4000000
theorem qzl:Eng.Good prog 50 sp50:=gF (fn:=f50) fits q0e .nil (by kernel_rfl)
def F173:Eng.Fn NN:=mkF [] [(4,[0,2]),(7,[0,2]),(10,[0,2])] [.v (.int .u64)] f173 [.tmp 2] 25
def z135:Eng.Spec NN:=F173.spec qd9 Rkd 4000000
theorem qtr:Eng.Good prog 173 z135:=gF (fn:=f173) fits q0e .nil (by kernel_rfl)
def F155:Eng.Fn NN:=mkF [(173,z135)] [] [.v (.int .u64)] f155 [.tmp 2] 5
def z132:Eng.Spec NN:=F155.spec qd9 Rkd 4000000
theorem qtp:Eng.Good prog 155 z132:=gF (fn:=f155) fits q0e (.cons qtr .nil) (by kernel_rfl)
def F102:Eng.Fn NN:=mkF [(155,z132)] [] [.v (.int .i64)] f102 [.tmp 2] 9
def z12v:Eng.Spec NN:=F102.spec qwe Rkd 4000000
theorem qtl:Eng.Good prog 102 z12v:=gF (fn:=f102) fits q0e (.cons qtp .nil) (by kernel_rfl)
def F172:Eng.Fn NN:=mkF [] [(2,[0,1,2,7,8])] [.v (.sl (.str)),.v (.str),.v (.bool)] f172 [.tmp 6] 40
def z171:Eng.Spec NN:=F172.spec Pk2p Rkd 4000000
theorem z11v:Eng.Good prog 172 z171:=gF (fn:=f172) fits q0e .nil (by kernel_rfl)
def F154:Eng.Fn NN:=mkF [(172,z171)] [] [.v (.sl (.str)),.v (.str)] f154 [.tmp 4,.tmp 5] 23
def z16r:Eng.Spec NN:=F154.spec Pk2j Rk2k 4000000
theorem z11p:Eng.Good prog 154 z16r:=gF (fn:=f154) fits q0e (.cons z11v .nil) (by kernel_rfl)
def F153:Eng.Fn NN:=mkF [(154,z16r)] [] [.v .str,.bc [.o 9 .str]] f153 [.tmp 3] 13
def z16q:Eng.Spec NN:=F153.spec [.v .str,.bc [.o 9 .str]] Rkd 4000000
theorem z11o:Eng.Good prog 153 z16q:=gF (fn:=f153) fits q0e (.cons z11p .nil) (by kernel_rfl)
def F175:Eng.Fn NN:=mkF [] [(1,[0,1,2,6]),(4,[0,1,2,6,7]),(6,[0,1,2,6,7])] [.io 9 .str,.v (.int .i64),.v (.int .i64)] f175 [] 49
def z172:Eng.Spec NN:=F175.spec [.io 9 .str,.v (.int .i64),.v (.int .i64)] [] 4000000
theorem z11w:Eng.Good prog 175 z172:=gF (fn:=f175) fits q0e .nil (by kernel_rfl)
def F170:Eng.Fn NN:=mkF [(175,z172)] [(2,[0,1,2,3,8,9]),(10,[0,1,2,3,8,9,10]),(15,[0,1,2,3,8,9,10,11,12]),(17,[0,1,2,3,8,9,10,11]),(20,[0,1,2,3,10,11])] [.io 9 .str,.v (.int .i64),.v (.int .i64),.v (.int .i64)] f170 [] 134
def z16z:Eng.Spec NN:=F170.spec [.io 9 .str,.v (.int .i64),.v (.int .i64),.v (.int .i64)] [] 4000000
theorem z11t:Eng.Good prog 170 z16z:=gF (fn:=f170) fits q0e (.cons z11w .nil) (by kernel_rfl)
def F184:Eng.Fn NN:=mkF [] [(4,[0,2]),(7,[0,2])] [.v (.int .u32)] f184 [.tmp 2] 19
def z173:Eng.Spec NN:=F184.spec [.v (.int .u32)] Rkd 4000000
theorem z11x:Eng.Good prog 184 z173:=gF (fn:=f184) fits q0e .nil (by kernel_rfl)
def F171:Eng.Fn NN:=mkF [(173,z135),(184,z173)] [] [.v (.int .u64)] f171 [.tmp 2] 8
def z170:Eng.Spec NN:=F171.spec qd9 Rkd 4000000
theorem z11u:Eng.Good prog 171 z170:=gF (fn:=f171) fits q0e (.cons qtr (.cons z11x .nil)) (by kernel_rfl)
def F152:Eng.Fn NN:=mkF [(170,z16z),(171,z170)] [] [.io 9 .str] f152 [] 11
def z16p:Eng.Spec NN:=Eng.qq3 NN 9
theorem qxi:Eng.Good prog 152 (F152.spec [.io 9 .str] [] 4000000):=gF (fn:=f152) fits q0e (.cons z11t (.cons z11u .nil)) (by kernel_rfl)
theorem z11n:Eng.Good prog 152 z16p:=Eng.qu3 qvq qxi (by kernel_rfl)
def F101:Eng.Fn NN:=mkF [(153,z16q),(152,z16p)] [(1,[0,2,3]),(3,[0,2,3,4,11,12,13]),(12,[2,3,7,31,32,33])] [.v (.sl (.str))] f101 [.cell 2 23,.tmp 3] 46
def z166:Eng.Spec NN:=F101.spec Pkq Rkw 4000000
theorem z116:Eng.Good prog 101 z166:=gF (fn:=f101) fits q0e (.cons z11o (.cons z11n .nil)) (by kernel_rfl)
def F56:Eng.Fn NN:=mkF [(49,sp49),(50,sp50),(98,sp98),(102,z12v),(91,sp91),(101,z166)] [(1,[0]),(4,[3,4,5,23,24,25]),(12,[3,5,8,9,39,40,41])] [.v (.sl (.str))] f56 [.tmp 2] 78
def sp56:Eng.Spec NN:=F56.spec Pkq Rk4 4000000
theorem qzn:Eng.Good prog 56 sp56:=gF (fn:=f56) fits q0e (.cons qzk (.cons qzl (.cons qu0 (.cons qtl (.cons qgy (.cons z116 .nil)))))) (by kernel_rfl)
def F55:Eng.Fn NN:=mkF [(56,sp56)] [(1,[0])] [.bw (.nm 0)] f55 [.tmp 1] 5
def sp55:Eng.Spec NN:=F55.spec qjj Rk4 4000000
theorem qtx:Eng.Good prog 55 sp55:=gF (fn:=f55) fits q0e (.cons qzn .nil) (by kernel_rfl)
def F100:Eng.Fn NN:=mkF [] [(1,[0]),(5,[0,3,13,14])] [.v (.sl (.int .i64))] f100 [.tmp 2] 32
def z165:Eng.Spec NN:=F100.spec Pke qm2 4000000
theorem z115:Eng.Good prog 100 z165:=gF (fn:=f100) fits q0e .nil (by kernel_rfl)
def F97:Eng.Fn NN:=mkF [] [(1,[0]),(3,[3,6,7,8])] [.v (.sl (.sl (.int .u8)))] f97 [.tmp 2] 17
def sp97:Eng.Spec NN:=F97.spec qwp Rk4 4000000
theorem z15i:Eng.Good prog 97 sp97:=gF (fn:=f97) fits q0e .nil (by kernel_rfl)
def F96:Eng.Fn NN:=mkF [] [] [.v (.int .u64),.v (.int .i64)] f96 [.tmp 4] 11
def sp96:Eng.Spec NN:=F96.spec Pkv qgd 4000000
theorem qzp:Eng.Good prog 96 sp96:=gF (fn:=f96) fits q0e .nil (by kernel_rfl)
def F94:Eng.Fn NN:=mkF [] [(3,[1,3,5])] [.v (.nm 6)] f94 [.tmp 2] 18
def sp94:Eng.Spec NN:=F94.spec [.v (.nm 6)] Rkd 4000000
theorem z15g:Eng.Good prog 94 sp94:=gF (fn:=f94) fits q0e .nil (by kernel_rfl)
def F149:Eng.Fn NN:=mkF [(155,z132)] [] [.v (.int .u64)] f149 [.tmp 2] 8
def z16n:Eng.Spec NN:=F149.spec qd9 Rkd 4000000
theorem z11l:Eng.Good prog 149 z16n:=gF (fn:=f149) fits q0e (.cons qtp .nil) (by kernel_rfl)
def F95:Eng.Fn NN:=mkF [(149,z16n),(96,sp96),(118,qnq),(92,sp92)] [(3,[0,1,4,5,12]),(8,[0,1,4,5,6,7,8,12,27,28,29])] [.v (.int .i64),.v (.sl (.int .u64))] f95 [.cell 4 115] 59
def sp95:Eng.Spec NN:=F95.spec Pk2h [.v (.nm 6)] 4000000
theorem z15h:Eng.Good prog 95 sp95:=gF (fn:=f95) fits q0e (.cons z11l (.cons qzp (.cons qc2 (.cons qow .nil)))) (by kernel_rfl)
def F93:Eng.Fn NN:=mkF [] [(1,[0]),(3,[0,4,10,11,12]),(7,[0,4,10,11,12]),(10,[4,7,29,30,31])] [.v (.sl (.int .i64))] f93 [.tmp 2,.tmp 3] 47
def sp93:Eng.Spec NN:=F93.spec Pke Rk1z 4000000
theorem z15f:Eng.Good prog 93 sp93:=gF (fn:=f93) fits q0e .nil (by kernel_rfl)
def F52:Eng.Fn NN:=mkF [(97,sp97),(98,sp98),(91,sp91),(92,sp92),(96,sp96),(94,sp94),(95,sp95),(93,sp93)] [(1,[0]),(6,[3,4,5,6,7,21,22,23])] [.v (.sl (.int .i64))] f52 [.tmp 2] 62
def sp52:Eng.Spec NN:=F52.spec Pke Rk4 4000000
theorem qtv:Eng.Good prog 52 sp52:=gF (fn:=f52) fits q0e (.cons z15i (.cons qu0 (.cons qgy (.cons qow (.cons qzp (.cons z15g (.cons z15h (.cons z15f .nil)))))))) (by kernel_rfl)
def F99:Eng.Fn NN:=mkF [(52,sp52),(91,sp91),(92,sp92)] [(1,[0,1,2]),(3,[2,7,12,13,14])] [.v (.int .u8),.v (.sl (.int .i64)),.v (.sl (.int .i64))] f99 [.tmp 6] 28
def sp99:Eng.Spec NN:=F99.spec Pk1w Rk4 4000000
theorem z15j:Eng.Good prog 99 sp99:=gF (fn:=f99) fits q0e (.cons qtv (.cons qgy (.cons qow .nil))) (by kernel_rfl)
def F54:Eng.Fn NN:=mkF [(100,z165),(99,sp99)] [(1,[0])] [.v (.sl (.int .i64))] f54 [.tmp 2] 42
def sp54:Eng.Spec NN:=F54.spec Pke Rk4 4000000
theorem qzm:Eng.Good prog 54 sp54:=gF (fn:=f54) fits q0e (.cons z115 (.cons z15j .nil)) (by kernel_rfl)
def F53:Eng.Fn NN:=mkF [(54,sp54)] [(1,[0])] [.bw (.nm 0)] f53 [.tmp 1] 5
def sp53:Eng.Spec NN:=F53.spec qjj Rk4 4000000
theorem qtw:Eng.Good prog 53 sp53:=gF (fn:=f53) fits q0e (.cons qzm .nil) (by kernel_rfl)
def F51:Eng.Fn NN:=mkF [(52,sp52)] [(1,[0])] [.bw (.nm 0)] f51 [.tmp 1] 5
def sp51:Eng.Spec NN:=F51.spec qjj Rk4 4000000
theorem qtu:Eng.Good prog 51 sp51:=gF (fn:=f51) fits q0e (.cons qtv .nil) (by kernel_rfl)
def F48:Eng.Fn NN:=mkF [(49,sp49),(50,sp50)] [(1,[0])] [.bw (.nm 0)] f48 [.tmp 1] 6
def sp48:Eng.Spec NN:=F48.spec qjj Rk4 4000000
theorem qtt:Eng.Good prog 48 sp48:=gF (fn:=f48) fits q0e (.cons qzk (.cons qzl .nil)) (by kernel_rfl)
def F38:Eng.Fn NN:=mkF [] [(11,[])] [.v (.int .i64),.v (.int .i64)] f38 [.tmp 4] 29
def sp38:Eng.Spec NN:=F38.spec Pkz Rkk 4000000
theorem qov:Eng.Good prog 38 sp38:=gF (fn:=f38) fits q0e .nil (by kernel_rfl)
def F34:Eng.Fn NN:=Eng.z18n (Eng.look tys) (qdf [(59,sp59),(57,sp57),(55,sp55),(53,sp53),(51,sp51),(48,sp48),(38,sp38)]) qra Go.Proofs.Tryz.f34
theorem z15n:Eng.InlOk prog 34 (Eng.qr3 F34):=Eng.z15o (fn:=f34) fits (by kernel_rfl) q0e (by kernel_rfl) (.cons qtz (.cons qty (.cons qtx (.cons qtw (.cons qtu (.cons qtt (.cons qov .nil))))))) (li:=[]) (by kernel_rfl) .nil (by kernel_rfl) (by kernel_rfl) (by kernel_rfl) (by kernel_rfl) (by kernel_rfl) (by kernel_rfl)
def F14:Eng.Fn NN:=⟨⟨(Eng.look tys),(qdf [(38,sp38),(48,sp48),(51,sp51),(53,sp53),(55,sp55),(57,sp57),(59,sp59)]),Eng.look [(1,[1]),(3,[1,3,4]),(9,[1,3,4,5])],Eng.q4s 0 [.v (.nm 0)],0,(qn5 [(34,Eng.qr3 F34)])⟩,Eng.qgt Go.Proofs.Tryz.f14,[.tmp 2],28⟩
def sp14:Eng.Spec NN:=F14.spec Pkx Rk2q 4000000
theorem qzg:Eng.Good prog 14 sp14:=Eng.qox (fn:=f14) fits (by kernel_rfl) q0e (by kernel_rfl) (.cons qov (.cons qtt (.cons qtu (.cons qtw (.cons qtx (.cons qty (.cons qtz .nil))))))) (by kernel_rfl) (.cons z15n .nil) (by kernel_rfl) (by kernel_rfl) (by kernel_rfl) (by kernel_rfl) (by kernel_rfl) (by kernel_rfl) (by kernel_rfl) (by kernel_rfl) (by kernel_rfl)
def F16:Eng.Fn NN:=mkF [(37,sp37),(36,sp36),(14,sp14)] [(4,[4,13,14,15])] [.v (.nm 0)] f16 [.tmp 2] 25
def sp16:Eng.Spec NN:=F16.spec Pkx Rkd 4000000
theorem z14o:Eng.Good prog 16 sp16:=gF (fn:=f16) fits q0e (.cons qzi (.cons z14x (.cons qzg .nil))) (by kernel_rfl)
def F33:Eng.Fn NN:=mkF [] [(4,[1,3]),(6,[1]),(7,[1,56,57,58]),(15,[1,56,57,58])] [.v (.nm 0)] f33 [.tmp 2] 92
def sp33:Eng.Spec NN:=F33.spec Pkx Rkk 4000000
theorem z14w:Eng.Good prog 33 sp33:=gF (fn:=f33) fits q0e .nil (by kernel_rfl)
def F11:Eng.Fn NN:=⟨⟨(Eng.look tys),(qdf [(33,sp33),(38,sp38),(48,sp48),(51,sp51),(53,sp53),(55,sp55),(57,sp57),(59,sp59)]),Eng.look [(1,[1,2]),(3,[1,2])],Eng.q4s 0 [.v (.nm 0),.v (.int .i64)],0,(qn5 [(34,Eng.qr3 F34)])⟩,Eng.qgt Go.Proofs.Tryz.f11,[.tmp 4,.tmp 5],29⟩
def sp11:Eng.Spec NN:=F11.spec qwd Rk23 4000000
theorem qtm:Eng.Good prog 11 sp11:=Eng.qox (fn:=f11) fits (by kernel_rfl) q0e (by kernel_rfl) (.cons z14w (.cons qov (.cons qtt (.cons qtu (.cons qtw (.cons qtx (.cons qty (.cons qtz .nil)))))))) (by kernel_rfl) (.cons z15n .nil) (by kernel_rfl) (by kernel_rfl) (by kernel_rfl) (by kernel_rfl) (by kernel_rfl) (by kernel_rfl) (by kernel_rfl) (by kernel_rfl) (by kernel_rfl)
def F13:Eng.Fn NN:=mkF [] [(4,[1,3]),(6,[1,3]),(7,[1,3,4]),(8,[1,3,4])] [.v (.nm 0)] f13 [.tmp 2] 99
def sp13:Eng.Spec NN:=F13.spec Pkx Rkk 4000000
theorem z14n:Eng.Good prog 13 sp13:=gF (fn:=f13) fits q0e .nil (by kernel_rfl)
def F9:Eng.Fn NN:=mkF [] [(3,[1,3,4])] [.v (.nm 0)] f9 [.tmp 2] 33
def sp9:Eng.Spec NN:=F9.spec Pkx Rkk 4000000
theorem z18m:Eng.Good prog 9 sp9:=gF (fn:=f9) fits q0e .nil (by kernel_rfl)
theorem F37_run (n:Nat)(a0:Cost):F37.run [.v (.nm 1)] Rkd n (a0,())=some ((a0.bytes,()),()):=by kernel_rfl
theorem F36_run (n:Nat)(a0 a1:Cost)(a2:Unit):F36.run Pk31 [.v (.nm 1)] n (a0,a1,a2,())=(F37.run Pk2z Rk6 4000000 (a1,())).bind fun r0=>bif decide ((0:Int)<=r0.fst.fst)then(F37.run Pk2z Rk6 4000000 (a0,())).bind fun r1=>bif decide (r1.fst.fst<(0:Int))then some ((a1,()),())else(F37.run Pk2z Rk6 4000000 (a1,())).bind fun r2=>(F37.run Pk2z Rk6 4000000 (a0,())).bind fun r3=>bif decide (r2.fst.fst<r3.fst.fst)then some ((a1,()),())else some ((a0,()),())else some ((a0,()),()):=by kernel_rfl
def F91c1 (n:Nat)(x0:Int):=F91.at qd9 Rk4 n 1 ⟨(.one (.int .u64 x0)::uU 18 []),[]⟩
def F91c2 (n:Nat)(x0:Int)(x1:List (Int)):=F91.at qd9 Rk4 n 2 ⟨(.one (.int .u64 x0)::uU 2 (.one (.own 0)::uU 15 [])),[(0,.row 5 (.int .u8) x1 [] false)]⟩
theorem F91_run (n:Nat)(a0:Int):F91.run qd9 Rk4 n (a0,())=F91c1 n (a0):=by kernel_rfl
theorem F91c1_eq (n x0:_):F91c1 (n+1) x0=F91c2 n (x0) ([]):=by kernel_rfl
theorem F91c2_eq (n x0 x1:_):F91c2 (n+1) x0 x1=bif decide ((128:Int)<=x0)then if x1.length+(1:Nat)<=lim then F91c2 n (x0/(2:Int)^min (Int.toNat (7:Int)) u64.bits) (x1++[bits BinOp.or u8 (u8.wrap x0) (128:Int)])else none else if x1.length+(1:Nat)<=lim then some ((x1++[u8.wrap x0],()),())else none:=by kernel_rfl
def F104c1 (n:Nat)(x0 x1:Int):=F104.at Pkv Rk4 n 1 ⟨(.one (.int .u64 x0)::.one (.int .i64 x1)::uU 27 []),[]⟩
def F104c3 (n:Nat)(x0 x1:Int):=F104.at Pkv Rk4 n 3 ⟨(.one (.int .u64 x0)::.one (.int .i64 x1)::uU 27 []),[]⟩
def F104c5 (n:Nat)(x0 x1 x2:Int)(x3:List (Int)):=F104.at Pkv Rk4 n 5 ⟨(.one (.int .u64 x0)::uU 4 (.one (.own 0)::uU 9 (.one (.int .i64 x1)::.one (.int .i64 x2)::uU 12 []))),[(0,.row 5 (.int .u8) x3 [] false)]⟩
theorem F104_run (n:Nat)(a0 a1:Int):F104.run Pkv Rk4 n (a0,a1,())=F104c1 n (a0) (a1):=by kernel_rfl
theorem F104c1_eq (n x0 x1:_):F104c1 (n+1) x0 x1=bif decide (x1<(1:Int))then some (([],()),())else bif decide ((8:Int)<x1)then some (([],()),())else F104c3 n (x0) (x1):=by kernel_rfl
theorem F104c3_eq (n x0 x1:_):F104c3 (n+1) x0 x1=if 0<=x1 then if x1<=(↑lim:Int)then F104c5 n (x0) (x1) ((0:Int)) (List.replicate x1.toNat (0:Int))else none else none:=by kernel_rfl
theorem F104c5_eq (n x0 x1 x2 x3:_):F104c5 (n+1) x0 x1 x2 x3=bif decide (x2<x1)then if 0<=i64.wrap ((8:Int)*x2)then if 0<=x2 then if x2<(↑x3.length:Int)then F104c5 n (x0) (x1) (i64.wrap (x2+(1:Int))) (x3.set x2.toNat (u8.wrap (x0/(2:Int)^min (i64.wrap ((8:Int)*x2)).toNat u64.bits)))else none else none else none else some ((x3,()),()):=by kernel_rfl
def F151c1 (n:Nat)(x0 x1:Int)(x2:List (Int))(x3 x4:Int):=F151.at Pk20 [] n 1 ⟨(.one (.int .u64 x0)::uU 1 (.one (.bptr 902000 0)::.one (.bptr 903000 0)::uU 1 (.one (.int .i64 x1)::uU 34 []))),[(2,.row 5 (.int .u8) x2 [] false),(901000,.whole (.int .i64) x3 []),(902000,.whole (.int .i64) x4 []),(903000,.cells [.own 2])]⟩
theorem F151_run (n:Nat)(a0 a1 a2:Int)(a3:List (Int)×Unit):F151.run Pk20 [] n (a0,a1,a2,a3,())=F151c1 n (a0) (a1) (a3.fst) (a1) (a2):=by kernel_rfl
theorem F151c1_eq (n x0 x1 x2 x3 x4:_):F151c1 (n+1) x0 x1 x2 x3 x4=bif decide ((0:Int)<x1)then if 0<=i64.wrap (x4.tdiv (8:Int))then if i64.wrap (x4.tdiv (8:Int))<(↑x2.length:Int)then if(0:Int)<=q9x (i64.wrap ((8:Int)-x4.tmod (8:Int))) x1 then if 0<=x4.tmod (8:Int)then if 0<=i64.wrap (x4.tdiv (8:Int))then if i64.wrap (x4.tdiv (8:Int))<(↑x2.length:Int)then if(0:Int)<=q9x (i64.wrap ((8:Int)-x4.tmod (8:Int))) x1 then F151c1 n (x0/(2:Int)^min (q9x (i64.wrap ((8:Int)-x4.tmod (8:Int))) x1).toNat u64.bits) (i64.wrap (x1-q9x (i64.wrap ((8:Int)-x4.tmod (8:Int))) x1)) (x2.set (i64.wrap (x4.tdiv (8:Int))).toNat (bits BinOp.or u8 (x2.getD (i64.wrap (x4.tdiv (8:Int))).toNat (0:Int)) (u8.wrap (u8.wrap (bits BinOp.and u64 x0 (u64.wrap (u64.wrap ((1:Int)*(2:Int)^min (q9x (i64.wrap ((8:Int)-x4.tmod (8:Int))) x1).toNat u64.bits)-(1:Int))))*(2:Int)^min (x4.tmod (8:Int)).toNat u8.bits)))) (x3) (i64.wrap (x4+q9x (i64.wrap ((8:Int)-x4.tmod (8:Int))) x1))else none else none else none else none else none else none else none else some ((),(x3,(x4,((x2,()),())))):=by kernel_rfl
theorem F150_run (n:Nat)(a0 a1:Int):F150.run Pkz Rkk n (a0,a1,())=bif decide ((0:Int)<=a0)then bif decide (a0<=(1048576:Int))then bif decide ((0:Int)<=a1)then some ((decide (a1<=(64:Int)),()),())else some ((false,()),())else some ((false,()),())else some ((false,()),()):=by kernel_rfl
theorem F118_run (n:Nat)(a0 a1:Int):F118.run Pkz Rkd n (a0,a1,())=(F150.run Pk9 Rkl 4000000 (a0,a1,())).bind fun r0=>bif !r0.fst.fst then some (((0:Int),()),())else some ((i64.wrap ((i64.wrap (i64.wrap (a0*a1)+(7:Int))).tdiv (8:Int)),()),()):=by kernel_rfl
def F98c1 (n:Nat)(x0:List (Int))(x1:Int):=F98.at qwn Rk4 n 1 ⟨(.one (.data (.sl (.int .u64)) x0 [])::uU 2 (.one (.bptr 0 0)::uU 29 [])),[(0,.whole (.int .i64) x1 [])]⟩
def F98c7 (n:Nat)(x0:List (Int))(x1 x2:Int)(x3 x4:Int)(x5:List (Int)):=F98.at qwn Rk4 n 7 ⟨(.one (.data (.sl (.int .u64)) x0 [])::uU 4 (.one (.bptr 0 0)::uU 1 (.one (.fn 151 [1,2,0])::uU 13 (.one (.int .i64 x1)::.one (.int .i64 x2)::uU 10 [])))),[(0,.cells [.own 3]),(1,.whole (.int .i64) x3 []),(2,.whole (.int .i64) x4 []),(3,.row 5 (.int .u8) x5 [] false)]⟩
theorem F98_run (n:Nat)(a0:List (Int))(a1:Int):F98.run qwn Rk4 n (a0,a1,())=F98c1 n (a0) (a1):=by kernel_rfl
theorem F98c1_eq (n x0 x1:_):F98c1 (n+1) x0 x1=(F150.run Pk9 Rkl 4000000 ((↑x0.length:Int),x1,())).bind fun r0=>bif !r0.fst.fst then some (([],()),())else(F118.run Pk9 Rk6 4000000 ((↑x0.length:Int),x1,())).bind fun r1=>if(0:Int)<=r1.fst.fst then if r1.fst.fst<=(↑lim:Int)then F98c7 n (x0) ((↑x0.length:Int)) ((0:Int)) (x1) ((0:Int)) (List.replicate (Int.toNat r1.fst.fst) (0:Int))else none else none:=by kernel_rfl
theorem F98c7_eq (n x0 x1 x2 x3 x4 x5:_):F98c7 (n+1) x0 x1 x2 x3 x4 x5=bif decide (x2<x1)then if 0<=x2 then if x2<(↑x0.length:Int)then(F151.run Pk1k [] 4000000 (x0.getD x2.toNat (0:Int),x3,x4,(x5,()),())).bind fun r2=>F98c7 n (x0) (x1) (i64.wrap (x2+(1:Int))) (r2.snd.fst) (r2.snd.snd.fst) (r2.snd.snd.snd.fst.fst)else none else none else some ((x5,()),()):=by kernel_rfl
def F60c1 (n:Nat)(x0:Vec):=F60.at Pkx Rk4 n 1 ⟨(uU 1 (.one (.bptr 0 0)::uU 68 [])),[(0,.whole (.nm 0) x0 [])]⟩
def F60c5 (n:Nat)(x0:List (Int))(x1 x2:Int)(x3:List (Int)):=F60.at Pkx Rk4 n 5 ⟨(uU 3 (.one (.own 0)::uU 17 (.one (.data (.sl (.int .i64)) x0 [])::.one (.int .i64 x1)::.one (.int .i64 x2)::uU 46 []))),[(0,.row 83 (.int .u64) x3 [] false)]⟩
def F60c13 (n:Nat)(x0:List (Int))(x1 x2:Int)(x3:List (Int)):=F60.at Pkx Rk4 n 13 ⟨(uU 6 (.one (.own 0)::uU 32 (.one (.data (.sl (.int .i64)) x0 [])::.one (.int .i64 x1)::.one (.int .i64 x2)::uU 28 []))),[(0,.row 5 (.int .u8) x3 [] false)]⟩
def F60c20 (n:Nat)(x0:List (List Int))(x1 x2:Int)(x3:List (Int)):=F60.at Pkx Rk4 n 20 ⟨(uU 9 (.one (.own 0)::uU 43 (.one (.data (.sl .str) x0 [])::.one (.int .i64 x1)::.one (.int .i64 x2)::uU 14 []))),[(0,.row 5 (.int .u8) x3 [] false)]⟩
theorem F60_run (n:Nat)(a0:Vec):F60.run Pkx Rk4 n (a0,())=F60c1 n (a0):=by kernel_rfl
theorem F60c1_eq (n x0:_):F60c1 (n+1) x0=bif decide (x0.f_Type=(1:Int))then if(↑x0.ints.length:Int)<=(↑lim:Int)then F60c5 n (x0.ints) ((↑x0.ints.length:Int)) ((0:Int)) (List.replicate (↑x0.ints.length:Int).toNat (0:Int))else none else bif decide (x0.f_Type=(2:Int))then F60c13 n (x0.ints) ((↑x0.ints.length:Int)) ((0:Int)) ([])else F60c20 n (x0.texts) ((↑x0.texts.length:Int)) ((0:Int)) ([]):=by kernel_rfl
theorem F60c5_eq (n x0 x1 x2 x3:_):F60c5 (n+1) x0 x1 x2 x3=bif decide (x2<x1)then if 0<=x2 then if x2<(↑x0.length:Int)then if 0<=x2 then if x2<(↑x3.length:Int)then F60c5 n (x0) (x1) (i64.wrap (x2+(1:Int))) (x3.set x2.toNat (u64.wrap (x0.getD x2.toNat (0:Int))))else none else none else none else none else(F98.run Pko Rk1 4000000 (x3,(1:Int),())).bind fun r0=>some ((r0.fst.fst,()),()):=by kernel_rfl
theorem F60c13_eq (n x0 x1 x2 x3:_):F60c13 (n+1) x0 x1 x2 x3=bif decide (x2<x1)then if 0<=x2 then if x2<(↑x0.length:Int)then(F104.run Pkj Rk1 4000000 (u64.wrap (x0.getD x2.toNat (0:Int)),(8:Int),())).bind fun r1=>if x3.length+List.length r1.fst.fst<=lim then F60c13 n (x0) (x1) (i64.wrap (x2+(1:Int))) (x3++r1.fst.fst)else none else none else none else some ((x3,()),()):=by kernel_rfl
theorem F60c20_eq (n x0 x1 x2 x3:_):F60c20 (n+1) x0 x1 x2 x3=bif decide (x2<x1)then if 0<=x2 then if x2<(↑x0.length:Int)then(F91.run Pka Rk1 4000000 (u64.wrap (↑(x0.getD x2.toNat []).length:Int),())).bind fun r2=>if x3.length+List.length r2.fst.fst<=lim then if(x3++r2.fst.fst).length+(x0.getD x2.toNat []).length<=lim then F60c20 n (x0) (x1) (i64.wrap (x2+(1:Int))) (x3++r2.fst.fst++x0.getD x2.toNat [])else none else none else none else none else some ((x3,()),()):=by kernel_rfl
def F59c1 (n:Nat)(x0:Vec):=F59.at qjj Rk4 n 1 ⟨[.one (.bptr 900000 0),U,U,U],[(900000,.whole (.nm 0) x0 [])]⟩
theorem F59_run (n:Nat)(a0:Vec):F59.run qjj Rk4 n (a0,())=F59c1 n (a0):=by kernel_rfl
theorem F59c1_eq (n x0:_):F59c1 (n+1) x0=(F60.run qe5 Rk1 4000000 (x0,())).bind fun r0=>some ((r0.fst.fst,()),(x0,())):=by kernel_rfl
def F156c2 (n:Nat)(x0 x1:List Int)(x2:Int):=F156.at Pk2g Rkd n 2 ⟨(.one (.str x0)::.one (.str x1)::uU 3 (.one (.int .i64 x2)::uU 22 [])),[]⟩
theorem F156_run (n:Nat)(a0 a1:List Int):F156.run Pk2g Rkd n (a0,a1,())=F156c2 n (a0) (a1) ((0:Int)):=by kernel_rfl
theorem F156c2_eq (n x0 x1 x2:_):F156c2 (n+1) x0 x1 x2=bif decide (x2<(↑x0.length:Int))then bif decide (x2<(↑x1.length:Int))then if 0<=x2 then if x2<(↑x0.length:Int)then if 0<=x2 then if x2<(↑x1.length:Int)then bif decide (x0.getD x2.toNat (0:Int)=x1.getD x2.toNat (0:Int))then F156c2 n (x0) (x1) (i64.wrap (x2+(1:Int)))else some ((x2,()),())else none else none else none else none else some ((x2,()),())else some ((x2,()),()):=by kernel_rfl
theorem F103_run (n:Nat)(a0:List (List Int))(a1:Int):F103.run Pk2l Rkd n (a0,a1,())=bif decide (a1.tmod (16:Int)=(0:Int))then some (((0:Int),()),())else if(0:Int)<=i64.wrap (a1-(1:Int))then if i64.wrap (a1-(1:Int))<(↑a0.length:Int)then if(0:Int)<=a1 then if a1<(↑a0.length:Int)then(F156.run qyl Rk6 4000000 (a0.getD (i64.wrap (a1-(1:Int))).toNat [],a0.getD a1.toNat [],())).bind fun r0=>some ((r0.fst.fst,()),())else none else none else none else none:=by kernel_rfl
def F58c1 (n:Nat)(x0:List (List Int)):=F58.at Pkq Rk4 n 1 ⟨(.one (.data (.sl .str) x0 [])::uU 36 []),[]⟩
def F58c3 (n:Nat)(x0 x1:List (List Int))(x2 x3:Int)(x4:List (Int)):=F58.at Pkq Rk4 n 3 ⟨(.one (.data (.sl .str) x0 [])::uU 2 (.one (.own 0)::uU 3 (.one (.data (.sl .str) x1 [])::.one (.int .i64 x2)::.one (.int .i64 x3)::uU 27 []))),[(0,.row 5 (.int .u8) x4 [] false)]⟩
theorem F58_run (n:Nat)(a0:List (List Int)):F58.run Pkq Rk4 n (a0,())=F58c1 n (a0):=by kernel_rfl
theorem F58c1_eq (n x0:_):F58c1 (n+1) x0=F58c3 n (x0) (x0) ((↑x0.length:Int)) ((0:Int)) ([]):=by kernel_rfl
theorem F58c3_eq (n x0 x1 x2 x3 x4:_):F58c3 (n+1) x0 x1 x2 x3 x4=bif decide (x3<x2)then if 0<=x3 then if x3<(↑x1.length:Int)then(F103.run Pk21 Rk6 4000000 (x0,x3,())).bind fun r0=>(F91.run Pka Rk1 4000000 (u64.wrap r0.fst.fst,())).bind fun r1=>if x4.length+List.length r1.fst.fst<=lim then(F91.run Pka Rk1 4000000 (u64.wrap (i64.wrap ((↑(x1.getD x3.toNat []).length:Int)-r0.fst.fst)),())).bind fun r2=>if(x4++r1.fst.fst).length+List.length r2.fst.fst<=lim then if(0:Int)<=r0.fst.fst then if r0.fst.fst<=(↑(x1.getD x3.toNat []).length:Int)then if(↑(x1.getD x3.toNat []).length:Int)<=(↑(x1.getD x3.toNat []).length:Int)then if(x4++r1.fst.fst++r2.fst.fst).length+(List.drop (Int.toNat r0.fst.fst) (List.take (↑(x1.getD x3.toNat []).length:Int).toNat (x1.getD x3.toNat []))).length<=lim then F58c3 n (x0) (x1) (x2) (i64.wrap (x3+(1:Int))) (x4++r1.fst.fst++r2.fst.fst++List.drop (Int.toNat r0.fst.fst) (List.take (↑(x1.getD x3.toNat []).length:Int).toNat (x1.getD x3.toNat [])))else none else none else none else none else none else none else none else none else some ((x4,()),()):=by kernel_rfl
def F57c1 (n:Nat)(x0:Vec):=F57.at qjj Rk4 n 1 ⟨[.one (.bptr 900000 0),U,U,U,U],[(900000,.whole (.nm 0) x0 [])]⟩
theorem F57_run (n:Nat)(a0:Vec):F57.run qjj Rk4 n (a0,())=F57c1 n (a0):=by kernel_rfl
theorem F57c1_eq (n x0:_):F57c1 (n+1) x0=(F58.run qgq Rk1 4000000 (x0.texts,())).bind fun r0=>some ((r0.fst.fst,()),(x0,())):=by kernel_rfl
theorem F92_run (n:Nat)(a0:Int):F92.run qwe qgd n (a0,())=some ((bits BinOp.xor u64 (u64.wrap (u64.wrap a0*(2:Int)^min (Int.toNat (1:Int)) u64.bits)) (u64.wrap (a0/(2:Int)^min (Int.toNat (63:Int)) i64.bits)),()),()):=by kernel_rfl
def F49c1 (n:Nat)(x0:List (Run)):=F49.at Pks Rk4 n 1 ⟨(.one (.data (.sl (.nm 5)) x0 [])::uU 34 []),[]⟩
def F49c4 (n:Nat)(x0:Int)(x1:List (Run))(x2 x3:Int)(x4:List (Int)):=F49.at Pks Rk4 n 4 ⟨(uU 3 (.one (.own 0)::.one (.int .i64 x0)::uU 6 (.one (.data (.sl (.nm 5)) x1 [])::.one (.int .i64 x2)::.one (.int .i64 x3)::uU 21 []))),[(0,.row 5 (.int .u8) x4 [] false)]⟩
theorem F49_run (n:Nat)(a0:List (Run)):F49.run Pks Rk4 n (a0,())=F49c1 n (a0):=by kernel_rfl
theorem F49c1_eq (n x0:_):F49c1 (n+1) x0=(F91.run Pka Rk1 4000000 (u64.wrap (↑x0.length:Int),())).bind fun r0=>F49c4 n ((0:Int)) (x0) ((↑x0.length:Int)) ((0:Int)) (r0.fst.fst):=by kernel_rfl
theorem F49c4_eq (n x0 x1 x2 x3 x4:_):F49c4 (n+1) x0 x1 x2 x3 x4=bif decide (x3<x2)then if 0<=x3 then if x3<(↑x1.length:Int)then(F92.run Pky Rkf 4000000 (i64.wrap ((x1.getD x3.toNat q0x).value-x0),())).bind fun r1=>(F91.run Pka Rk1 4000000 (r1.fst.fst,())).bind fun r2=>if x4.length+List.length r2.fst.fst<=lim then(F91.run Pka Rk1 4000000 (u64.wrap (x1.getD x3.toNat q0x).count,())).bind fun r3=>if(x4++r2.fst.fst).length+List.length r3.fst.fst<=lim then F49c4 n ((x1.getD x3.toNat q0x).value) (x1) (x2) (i64.wrap (x3+(1:Int))) (x4++r2.fst.fst++r3.fst.fst)else none else none else none else none else some ((x4,()),()):=by kernel_rfl
def F50c1 (n:Nat)(x0:List (Int)):=F50.at Pke qwh n 1 ⟨(.one (.data (.sl (.int .i64)) x0 [])::uU 40 []),[]⟩
def F50c3 (n:Nat)(x0 x1:List (Int))(x2 x3:Int)(x4:List (Run)):=F50.at Pke qwh n 3 ⟨(.one (.data (.sl (.int .i64)) x0 [])::uU 2 (.one (.own 0)::uU 2 (.one (.data (.sl (.int .i64)) x1 [])::.one (.int .i64 x2)::.one (.int .i64 x3)::uU 32 []))),[(0,.row 110 (.nm 5) x4 [] false)]⟩
def F50c7 (n:Nat)(x0:List (Int))(x1:Int)(x2:List (Int))(x3 x4:Int)(x5:List (Run)):=F50.at Pke qwh n 7 ⟨(.one (.data (.sl (.int .i64)) x0 [])::uU 2 (.one (.own 0)::uU 1 (.one (.int .i64 x1)::.one (.data (.sl (.int .i64)) x2 [])::.one (.int .i64 x3)::.one (.int .i64 x4)::uU 32 []))),[(0,.row 110 (.nm 5) x5 [] false)]⟩
theorem F50_run (n:Nat)(a0:List (Int)):F50.run Pke qwh n (a0,())=F50c1 n (a0):=by kernel_rfl
theorem F50c1_eq (n x0:_):F50c1 (n+1) x0=F50c3 n (x0) (x0) ((↑x0.length:Int)) ((0:Int)) ([]):=by kernel_rfl
theorem F50c3_eq (n x0 x1 x2 x3 x4:_):F50c3 (n+1) x0 x1 x2 x3 x4=bif decide (x3<x2)then if 0<=x3 then if x3<(↑x1.length:Int)then bif decide ((0:Int)<x3)then if 0<=i64.wrap (x3-(1:Int))then if i64.wrap (x3-(1:Int))<(↑x0.length:Int)then bif decide (x1.getD x3.toNat (0:Int)=x0.getD (i64.wrap (x3-(1:Int))).toNat (0:Int))then if 0<=i64.wrap ((↑x4.length:Int)-(1:Int))then if i64.wrap ((↑x4.length:Int)-(1:Int))<(↑x4.length:Int)then if 0<=i64.wrap ((↑x4.length:Int)-(1:Int))then if i64.wrap ((↑x4.length:Int)-(1:Int))<(↑x4.length:Int)then F50c3 n (x0) (x1) (x2) (i64.wrap (x3+(1:Int))) (x4.set (i64.wrap ((↑x4.length:Int)-(1:Int))).toNat {value:=(x4.getD (i64.wrap ((↑x4.length:Int)-(1:Int))).toNat q0x).value,count:=i64.wrap ((x4.getD (i64.wrap ((↑x4.length:Int)-(1:Int))).toNat q0x).count+(1:Int)):Run})else none else none else none else none else F50c7 n (x0) (x1.getD x3.toNat (0:Int)) (x1) (x2) (x3) (x4)else none else none else F50c7 n (x0) (x1.getD x3.toNat (0:Int)) (x1) (x2) (x3) (x4)else none else none else some ((x4,()),()):=by kernel_rfl
theorem F50c7_eq (n x0 x1 x2 x3 x4 x5:_):F50c7 (n+1) x0 x1 x2 x3 x4 x5=if x5.length+(1:Nat)<=lim then F50c3 n (x0) (x2) (x3) (i64.wrap (x4+(1:Int))) (x5++[{value:=x1,count:=(1:Int):Run}])else none:=by kernel_rfl
def F173c4 (n:Nat)(x0 x1:Int):=F173.at qd9 Rkd n 4 ⟨(.one (.int .u64 x0)::uU 1 (.one (.int .i64 x1)::uU 22 [])),[]⟩
def F173c7 (n:Nat)(x0 x1:Int):=F173.at qd9 Rkd n 7 ⟨(.one (.int .u64 x0)::uU 1 (.one (.int .i64 x1)::uU 22 [])),[]⟩
def F173c10 (n:Nat)(x0 x1:Int):=F173.at qd9 Rkd n 10 ⟨(.one (.int .u64 x0)::uU 1 (.one (.int .i64 x1)::uU 22 [])),[]⟩
theorem F173_run (n:Nat)(a0:Int):F173.run qd9 Rkd n (a0,())=bif decide ((4294967296:Int)<=a0)then F173c4 n (a0/(2:Int)^min (Int.toNat (32:Int)) u64.bits) ((32:Int))else F173c4 n (a0) ((0:Int)):=by kernel_rfl
theorem F173c4_eq (n x0 x1:_):F173c4 (n+1) x0 x1=bif decide ((65536:Int)<=x0)then F173c7 n (x0/(2:Int)^min (Int.toNat (16:Int)) u64.bits) (i64.wrap (x1+(16:Int)))else F173c7 n (x0) (x1):=by kernel_rfl
theorem F173c7_eq (n x0 x1:_):F173c7 (n+1) x0 x1=bif decide ((256:Int)<=x0)then F173c10 n (x0/(2:Int)^min (Int.toNat (8:Int)) u64.bits) (i64.wrap (x1+(8:Int)))else F173c10 n (x0) (x1):=by kernel_rfl
theorem F173c10_eq (n x0 x1:_):F173c10 (n+1) x0 x1=if(0:Int)<=u8.wrap x0 then if u8.wrap x0<(↑(256:Nat):Int)then some ((i64.wrap (x1+i64.wrap ([(0:Int),(1:Int),(2:Int),(2:Int),(3:Int),(3:Int),(3:Int),(3:Int),(4:Int),(4:Int),(4:Int),(4:Int),(4:Int),(4:Int),(4:Int),(4:Int),(5:Int),(5:Int),(5:Int),(5:Int),(5:Int),(5:Int),(5:Int),(5:Int),(5:Int),(5:Int),(5:Int),(5:Int),(5:Int),(5:Int),(5:Int),(5:Int),(6:Int),(6:Int),(6:Int),(6:Int),(6:Int),(6:Int),(6:Int),(6:Int),(6:Int),(6:Int),(6:Int),(6:Int),(6:Int),(6:Int),(6:Int),(6:Int),(6:Int),(6:Int),(6:Int),(6:Int),(6:Int),(6:Int),(6:Int),(6:Int),(6:Int),(6:Int),(6:Int),(6:Int),(6:Int),(6:Int),(6:Int),(6:Int),(7:Int),(7:Int),(7:Int),(7:Int),(7:Int),(7:Int),(7:Int),(7:Int),(7:Int),(7:Int),(7:Int),(7:Int),(7:Int),(7:Int),(7:Int),(7:Int),(7:Int),(7:Int),(7:Int),(7:Int),(7:Int),(7:Int),(7:Int),(7:Int),(7:Int),(7:Int),(7:Int),(7:Int),(7:Int),(7:Int),(7:Int),(7:Int),(7:Int),(7:Int),(7:Int),(7:Int),(7:Int),(7:Int),(7:Int),(7:Int),(7:Int),(7:Int),(7:Int),(7:Int),(7:Int),(7:Int),(7:Int),(7:Int),(7:Int),(7:Int),(7:Int),(7:Int),(7:Int),(7:Int),(7:Int),(7:Int),(7:Int),(7:Int),(7:Int),(7:Int),(7:Int),(7:Int),(7:Int),(7:Int),(8:Int),(8:Int),(8:Int),(8:Int),(8:Int),(8:Int),(8:Int),(8:Int),(8:Int),(8:Int),(8:Int),(8:Int),(8:Int),(8:Int),(8:Int),(8:Int),(8:Int),(8:Int),(8:Int),(8:Int),(8:Int),(8:Int),(8:Int),(8:Int),(8:Int),(8:Int),(8:Int),(8:Int),(8:Int),(8:Int),(8:Int),(8:Int),(8:Int),(8:Int),(8:Int),(8:Int),(8:Int),(8:Int),(8:Int),(8:Int),(8:Int),(8:Int),(8:Int),(8:Int),(8:Int),(8:Int),(8:Int),(8:Int),(8:Int),(8:Int),(8:Int),(8:Int),(8:Int),(8:Int),(8:Int),(8:Int),(8:Int),(8:Int),(8:Int),(8:Int),(8:Int),(8:Int),(8:Int),(8:Int),(8:Int),(8:Int),(8:Int),(8:Int),(8:Int),(8:Int),(8:Int),(8:Int),(8:Int),(8:Int),(8:Int),(8:Int),(8:Int),(8:Int),(8:Int),(8:Int),(8:Int),(8:Int),(8:Int),(8:Int),(8:Int),(8:Int),(8:Int),(8:Int),(8:Int),(8:Int),(8:Int),(8:Int),(8:Int),(8:Int),(8:Int),(8:Int),(8:Int),(8:Int),(8:Int),(8:Int),(8:Int),(8:Int),(8:Int),(8:Int),(8:Int),(8:Int),(8:Int),(8:Int),(8:Int),(8:Int),(8:Int),(8:Int),(8:Int),(8:Int),(8:Int),(8:Int),(8:Int),(8:Int),(8:Int),(8:Int),(8:Int),(8:Int),(8:Int),(8:Int),(8:Int),(8:Int),(8:Int),(8:Int)].getD (u8.wrap x0).toNat (0:Int))),()),())else none else none:=by kernel_rfl
theorem F155_run (n:Nat)(a0:Int):F155.run qd9 Rkd n (a0,())=(F173.run Pka Rk6 4000000 (a0,())).bind fun r0=>some ((r0.fst.fst,()),()):=by kernel_rfl
theorem F102_run (n:Nat)(a0:Int):F102.run qwe Rkd n (a0,())=bif decide (a0=(0:Int))then some (((0:Int),()),())else(F155.run Pka Rk6 4000000 (u64.wrap (i64.wrap (a0-(1:Int))),())).bind fun r0=>some ((r0.fst.fst,()),()):=by kernel_rfl
def F172c2 (n:Nat)(x0:List (List Int))(x1:List Int)(x2:Bool)(x3 x4:Int):=F172.at Pk2p Rkd n 2 ⟨(.one (.data (.sl .str) x0 [])::.one (.str x1)::.one (.bool x2)::uU 4 (.one (.int .i64 x3)::.one (.int .i64 x4)::uU 31 [])),[]⟩
theorem F172_run (n:Nat)(a0:List (List Int))(a1:List Int)(a2:Bool):F172.run Pk2p Rkd n (a0,a1,a2,())=F172c2 n (a0) (a1) (a2) ((0:Int)) ((↑a0.length:Int)):=by kernel_rfl
theorem F172c2_eq (n x0 x1 x2 x3 x4:_):F172c2 (n+1) x0 x1 x2 x3 x4=bif decide (x3<x4)then if 0<=i64.wrap ((i64.wrap (x3+x4)).tdiv (2:Int))then if i64.wrap ((i64.wrap (x3+x4)).tdiv (2:Int))<(↑x0.length:Int)then bif Eng.q0s (x0.getD (i64.wrap ((i64.wrap (x3+x4)).tdiv (2:Int))).toNat []) x1 then F172c2 n (x0) (x1) (x2) (i64.wrap (i64.wrap ((i64.wrap (x3+x4)).tdiv (2:Int))+(1:Int))) (x4)else bif x2 then if 0<=i64.wrap ((i64.wrap (x3+x4)).tdiv (2:Int))then if i64.wrap ((i64.wrap (x3+x4)).tdiv (2:Int))<(↑x0.length:Int)then bif decide (x0.getD (i64.wrap ((i64.wrap (x3+x4)).tdiv (2:Int))).toNat []=x1)then F172c2 n (x0) (x1) (x2) (i64.wrap (i64.wrap ((i64.wrap (x3+x4)).tdiv (2:Int))+(1:Int))) (x4)else F172c2 n (x0) (x1) (x2) (x3) (i64.wrap ((i64.wrap (x3+x4)).tdiv (2:Int)))else none else none else F172c2 n (x0) (x1) (x2) (x3) (i64.wrap ((i64.wrap (x3+x4)).tdiv (2:Int)))else none else none else some ((x3,()),()):=by kernel_rfl
theorem F154_run (n:Nat)(a0:List (List Int))(a1:List Int):F154.run Pk2j Rk2k n (a0,a1,())=(F172.run Pk2n Rk6 4000000 (a0,a1,false,())).bind fun r0=>bif decide (r0.fst.fst=(↑a0.length:Int))then some (((0:Int),(false,())),())else if(0:Int)<=r0.fst.fst then if r0.fst.fst<(↑a0.length:Int)then bif !decide (a0.getD (Int.toNat r0.fst.fst) []=a1)then some (((0:Int),(false,())),())else some ((r0.fst.fst,(true,())),())else none else none:=by kernel_rfl
theorem F153_run (n:Nat)(a0:List Int)(a1:List (List Int)×Unit):F153.run [.v .str,.bc [.o 9 .str]] Rkd n (a0,a1,())=(F154.run Pk2a Rk25 4000000 (a1.fst,a0,())).bind fun r0=>some ((r0.fst.fst,()),((a1.fst,()),())):=by kernel_rfl
def F101c1 (n:Nat)(x0:List (List Int))(x1:List (Int))(x2:List (List Int)):=F101.at Pkq Rkw n 1 ⟨(.one (.data (.sl .str) x0 [])::uU 1 (.one (.bptr 0 0)::.one (.own 1)::uU 42 [])),[(0,.cells [.own 2]),(1,.row 3 (.int .i64) x1 [] false),(2,.row 9 .str x2 [] false)]⟩
def F101c3 (n:Nat)(x0 x1:List (List Int))(x2 x3:Int)(x4:List (Int))(x5:List ((List Int)×(Bool)))(x6:List (List Int)):=F101.at Pkq Rkw n 3 ⟨(.one (.data (.sl .str) x0 [])::uU 1 (.one (.bptr 0 0)::.one (.own 1)::.one (.mp 2)::uU 6 (.one (.data (.sl .str) x1 [])::.one (.int .i64 x2)::.one (.int .i64 x3)::uU 32 []))),[(0,.cells [.own 3]),(1,.row 3 (.int .i64) x4 [] false),(2,.mapB .str .bool x5),(3,.row 9 .str x6 [] false)]⟩
def F101c12 (n:Nat)(x0:List (List Int))(x1 x2:Int)(x3:List (Int))(x4:List (List Int)):=F101.at Pkq Rkw n 12 ⟨(uU 2 (.one (.bptr 0 0)::.one (.own 1)::uU 3 (.one (.fn 153 [0])::uU 23 (.one (.data (.sl .str) x0 [])::.one (.int .i64 x1)::.one (.int .i64 x2)::uU 12 [])))),[(0,.cells [.own 2]),(1,.row 3 (.int .i64) x3 [] false),(2,.row 9 .str x4 [] false)]⟩
theorem F101_run (n:Nat)(a0:List (List Int)):F101.run Pkq Rkw n (a0,())=F101c1 n (a0) ([]) ([]):=by kernel_rfl
theorem F101c1_eq (n x0 x1 x2:_):F101c1 (n+1) x0 x1 x2=F101c3 n (x0) (x0) ((↑x0.length:Int)) ((0:Int)) (x1) ([]) (x2):=by kernel_rfl
theorem F101c3_eq (n x0 x1 x2 x3 x4 x5 x6:_):F101c3 (n+1) x0 x1 x2 x3 x4 x5 x6=bif decide (x3<x2)then if 0<=x3 then if x3<(↑x1.length:Int)then bif !orZ (q7b (fun a a_1=>decide (a=a_1)) x5 (x1.getD x3.toNat [])) false then if x6.length+(1:Nat)<=lim then F101c3 n (x0) (x1) (x2) (i64.wrap (x3+(1:Int))) (x4) (qp7 (fun a a_1=>decide (a=a_1)) x5 (x1.getD x3.toNat []) true) (x6++[x1.getD x3.toNat []])else none else F101c3 n (x0) (x1) (x2) (i64.wrap (x3+(1:Int))) (x4) (x5) (x6)else none else none else(match x6.length.blt (4611686018427387904:Nat)with
|true=>some (q9y x6)
|false=>none).bind fun r0=>
   F101c12 n (x0) ((↑x0.length:Int)) ((0:Int)) (x4) (r0):=by kernel_rfl
theorem F101c12_eq (n x0 x1 x2 x3 x4:_):F101c12 (n+1) x0 x1 x2 x3 x4=bif decide (x2<x1)then if 0<=x2 then if x2<(↑x0.length:Int)then(F153.run Pk2s Rk6 4000000 (x0.getD x2.toNat [],(x4,()),())).bind fun r1=>if x3.length+(1:Nat)<=lim then F101c12 n (x0) (x1) (i64.wrap (x2+(1:Int))) (x3++([r1.fst.fst]:List (Int))) (r1.snd.fst.fst)else none else none else none else some ((x4,(x3,())),()):=by kernel_rfl
def F56c1 (n:Nat)(x0:List (List Int)):=F56.at Pkq Rk4 n 1 ⟨(.one (.data (.sl .str) x0 [])::uU 77 []),[]⟩
def F56c4 (n:Nat)(x0 x1:Int)(x2:List (List Int))(x3 x4:List (Int)):=F56.at Pkq Rk4 n 4 ⟨(uU 3 (.one (.own 0)::.one (.own 1)::.one (.own 2)::uU 17 (.one (.own 0)::.one (.int .i64 x0)::.one (.int .i64 x1)::uU 52 []))),[(0,.row 9 .str x2 [] false),(1,.row 3 (.int .i64) x3 [] false),(2,.row 5 (.int .u8) x4 [] false)]⟩
def F56c12 (n:Nat)(x0 x1:Int)(x2:List (List Int))(x3 x4:List (Int))(x5 x6:List (Int)):=F56.at Pkq Rk4 n 12 ⟨(uU 3 (.one (.own 0)::uU 1 (.one (.own 1)::uU 2 (.one (.own 2)::.one (.own 3)::uU 29 (.one (.own 4)::.one (.int .i64 x0)::.one (.int .i64 x1)::uU 36 []))))),[(0,.row 9 .str x2 [] false),(1,.row 5 (.int .u8) x3 [] false),(2,.row 83 (.int .u64) x4 [] false),(3,.row 2 (.int .i64) x5 [] false),(4,.row 3 (.int .i64) x6 [] false)]⟩
theorem F56_run (n:Nat)(a0:List (List Int)):F56.run Pkq Rk4 n (a0,())=F56c1 n (a0):=by kernel_rfl
theorem F56c1_eq (n x0:_):F56c1 (n+1) x0=(F101.run qgq Rk1t 4000000 (x0,())).bind fun r0=>(F91.run Pka Rk1 4000000 (u64.wrap (↑(List.length r0.fst.fst):Int),())).bind fun r1=>F56c4 n ((↑(List.length r0.fst.fst):Int)) ((0:Int)) (r0.fst.fst) (r0.fst.snd.fst) (r1.fst.fst):=by kernel_rfl
theorem F56c4_eq (n x0 x1 x2 x3 x4:_):F56c4 (n+1) x0 x1 x2 x3 x4=bif decide (x1<x0)then if 0<=x1 then if x1<(↑x2.length:Int)then(F91.run Pka Rk1 4000000 (u64.wrap (↑(x2.getD x1.toNat []).length:Int),())).bind fun r2=>if x4.length+List.length r2.fst.fst<=lim then if(x4++r2.fst.fst).length+(x2.getD x1.toNat []).length<=lim then F56c4 n (x0) (i64.wrap (x1+(1:Int))) (x2) (x3) (x4++r2.fst.fst++x2.getD x1.toNat [])else none else none else none else none else F56c12 n ((↑x3.length:Int)) ((0:Int)) (x2) (x4) ([]) ([]) (x3):=by kernel_rfl
theorem F56c12_eq (n x0 x1 x2 x3 x4 x5 x6:_):F56c12 (n+1) x0 x1 x2 x3 x4 x5 x6=bif decide (x1<x0)then if 0<=x1 then if x1<(↑x6.length:Int)then if x4.length+(1:Nat)<=lim then if x5.length+(1:Nat)<=lim then F56c12 n (x0) (i64.wrap (x1+(1:Int))) (x2) (x3) (x4++[u64.wrap (x6.getD x1.toNat (0:Int))]) (x5++[x6.getD x1.toNat (0:Int)]) (x6)else none else none else none else none else(F102.run Pky Rk6 4000000 ((↑x2.length:Int),())).bind fun r3=>(F98.run Pko Rk1 4000000 (x4,r3.fst.fst,())).bind fun r4=>(F50.run Pkc qyo 4000000 (x5,())).bind fun r5=>(F49.run qji Rk1 4000000 (r5.fst.fst,())).bind fun r6=>bif decide ((↑(List.length r6.fst.fst):Int)<(↑(List.length r4.fst.fst):Int))then if x3.length+(1:Nat)<=lim then if(x3++[(1:Int)]).length+List.length r6.fst.fst<=lim then some ((x3++[(1:Int)]++r6.fst.fst,()),())else none else none else if x3.length+(1:Nat)<=lim then if(x3++[(0:Int)]).length+List.length r4.fst.fst<=lim then some ((x3++[(0:Int)]++r4.fst.fst,()),())else none else none:=by kernel_rfl
def F55c1 (n:Nat)(x0:Vec):=F55.at qjj Rk4 n 1 ⟨[.one (.bptr 900000 0),U,U,U,U],[(900000,.whole (.nm 0) x0 [])]⟩
theorem F55_run (n:Nat)(a0:Vec):F55.run qjj Rk4 n (a0,())=F55c1 n (a0):=by kernel_rfl
theorem F55c1_eq (n x0:_):F55c1 (n+1) x0=(F56.run qgq Rk1 4000000 (x0.texts,())).bind fun r0=>some ((r0.fst.fst,()),(x0,())):=by kernel_rfl
def F100c1 (n:Nat)(x0:List (Int)):=F100.at Pke qm2 n 1 ⟨(.one (.data (.sl (.int .i64)) x0 [])::uU 31 []),[]⟩
def F100c5 (n:Nat)(x0:List (Int))(x1 x2:Int)(x3:List (Int)):=F100.at Pke qm2 n 5 ⟨(.one (.data (.sl (.int .i64)) x0 [])::uU 2 (.one (.own 0)::uU 9 (.one (.int .i64 x1)::.one (.int .i64 x2)::uU 17 []))),[(0,.row 2 (.int .i64) x3 [] false)]⟩
theorem F100_run (n:Nat)(a0:List (Int)):F100.run Pke qm2 n (a0,())=F100c1 n (a0):=by kernel_rfl
theorem F100c1_eq (n x0:_):F100c1 (n+1) x0=bif decide ((↑x0.length:Int)<(2:Int))then some (([],()),())else if 0<=i64.wrap ((↑x0.length:Int)-(1:Int))then if i64.wrap ((↑x0.length:Int)-(1:Int))<=(↑lim:Int)then F100c5 n (x0) ((↑(List.replicate (i64.wrap ((↑x0.length:Int)-(1:Int))).toNat (0:Int)).length:Int)) ((0:Int)) (List.replicate (i64.wrap ((↑x0.length:Int)-(1:Int))).toNat (0:Int))else none else none:=by kernel_rfl
theorem F100c5_eq (n x0 x1 x2 x3:_):F100c5 (n+1) x0 x1 x2 x3=bif decide (x2<x1)then if 0<=i64.wrap (x2+(1:Int))then if i64.wrap (x2+(1:Int))<(↑x0.length:Int)then if 0<=x2 then if x2<(↑x0.length:Int)then if 0<=x2 then if x2<(↑x3.length:Int)then F100c5 n (x0) (x1) (i64.wrap (x2+(1:Int))) (x3.set x2.toNat (i64.wrap (x0.getD (i64.wrap (x2+(1:Int))).toNat (0:Int)-x0.getD x2.toNat (0:Int))))else none else none else none else none else none else none else some ((x3,()),()):=by kernel_rfl
def F97c1 (n:Nat)(x0:List (List (Int))):=F97.at qwp Rk4 n 1 ⟨(.one (.data (.sl (.sl (.int .u8))) x0 [])::uU 16 []),[]⟩
def F97c3 (n:Nat)(x0:List (List (Int)))(x1 x2:Int)(x3:List (Int)):=F97.at qwp Rk4 n 3 ⟨(uU 3 (.one (.own 0)::uU 2 (.one (.data (.sl (.sl (.int .u8))) x0 [])::.one (.int .i64 x1)::.one (.int .i64 x2)::uU 8 []))),[(0,.row 5 (.int .u8) x3 [] false)]⟩
theorem F97_run (n:Nat)(a0:List (List (Int))):F97.run qwp Rk4 n (a0,())=F97c1 n (a0):=by kernel_rfl
theorem F97c1_eq (n x0:_):F97c1 (n+1) x0=F97c3 n (x0) ((↑x0.length:Int)) ((0:Int)) ([]):=by kernel_rfl
theorem F97c3_eq (n x0 x1 x2 x3:_):F97c3 (n+1) x0 x1 x2 x3=bif decide (x2<x1)then if 0<=x2 then if x2<(↑x0.length:Int)then if x3.length+(x0.getD x2.toNat []).length<=lim then F97c3 n (x0) (x1) (i64.wrap (x2+(1:Int))) (x3++x0.getD x2.toNat [])else none else none else none else some ((x3,()),()):=by kernel_rfl
theorem F96_run (n:Nat)(a0 a1:Int):F96.run Pkv qgd n (a0,a1,())=bif decide ((64:Int)<=a1)then some (((0:Int),()),())else if(0:Int)<=u64.wrap a1 then some ((a0/(2:Int)^min (u64.wrap a1).toNat u64.bits,()),())else none:=by kernel_rfl
def F94c3 (n:Nat)(x0 x1:Int)(x2:List (Int)):=F94.at [.v (.nm 6)] Rkd n 3 ⟨(uU 1 (.one (.optr 0 0 0)::uU 1 (.one (.int .i64 x0)::uU 1 (.one (.int .i64 x1)::uU 12 [])))),[(0,.row 2000065 (.int .i64) x2 [] true)]⟩
theorem F94_run (n:Nat)(a0:List (Int)):F94.run [.v (.nm 6)] Rkd n (a0,())=F94c3 n ((0:Int)) ((0:Int)) (qs5 (0:Int) (65:Nat) a0):=by kernel_rfl
theorem F94c3_eq (n x0 x1 x2:_):F94c3 (n+1) x0 x1 x2=bif decide (x1<(65:Int))then if 0<=x1 then if x1<(↑(65:Nat):Int)then if 0<=x0 then if x0<(↑(65:Nat):Int)then bif decide (x2.getD x1.toNat (0:Int)<x2.getD x0.toNat (0:Int))then F94c3 n (x1) (i64.wrap (x1+(1:Int))) (x2)else F94c3 n (x0) (i64.wrap (x1+(1:Int))) (x2)else none else none else none else none else some ((x0,()),()):=by kernel_rfl
theorem F149_run (n:Nat)(a0:Int):F149.run qd9 Rkd n (a0,())=(F155.run Pka Rk6 4000000 (a0,())).bind fun r0=>some ((qzs (1:Int) (i64.wrap ((i64.wrap (r0.fst.fst+(6:Int))).tdiv (7:Int))),()),()):=by kernel_rfl
def F95c3 (n:Nat)(x0:Int)(x1:List (Int))(x2:Int)(x3 x4:List (Int)):=F95.at Pk2h [.v (.nm 6)] n 3 ⟨(.one (.int .i64 x0)::.one (.data (.sl (.int .u64)) x1 [])::uU 2 (.one (.optr 0 0 0)::.one (.optr 1 0 0)::uU 6 (.one (.int .i64 x2)::uU 46 []))),[(0,.row 2000065 (.int .i64) x3 [] true),(1,.row 2000065 (.int .i64) x4 [] true)]⟩
def F95c8 (n:Nat)(x0:Int)(x1:List (Int))(x2 x3:Int)(x4 x5:Int)(x6:List (Int))(x7 x8:Int)(x9 x10:List (Int)):=F95.at Pk2h [.v (.nm 6)] n 8 ⟨(.one (.int .i64 x0)::.one (.data (.sl (.int .u64)) x1 [])::uU 2 (.one (.optr 0 0 0)::.one (.optr 1 0 0)::.one (.int .i64 x2)::.one (.int .i64 x3)::.one (.int .i64 x4)::uU 3 (.one (.int .i64 x5)::uU 14 (.one (.data (.sl (.int .u64)) x6 [])::.one (.int .i64 x7)::.one (.int .i64 x8)::uU 29 [])))),[(0,.row 2000065 (.int .i64) x9 [] true),(1,.row 2000065 (.int .i64) x10 [] true)]⟩
theorem F95_run (n:Nat)(a0:Int)(a1:List (Int)):F95.run Pk2h [.v (.nm 6)] n (a0,a1,())=F95c3 n (a0) (a1) ((0:Int)) ([(0:Int),(0:Int),(0:Int),(0:Int),(0:Int),(0:Int),(0:Int),(0:Int),(0:Int),(0:Int),(0:Int),(0:Int),(0:Int),(0:Int),(0:Int),(0:Int),(0:Int),(0:Int),(0:Int),(0:Int),(0:Int),(0:Int),(0:Int),(0:Int),(0:Int),(0:Int),(0:Int),(0:Int),(0:Int),(0:Int),(0:Int),(0:Int),(0:Int),(0:Int),(0:Int),(0:Int),(0:Int),(0:Int),(0:Int),(0:Int),(0:Int),(0:Int),(0:Int),(0:Int),(0:Int),(0:Int),(0:Int),(0:Int),(0:Int),(0:Int),(0:Int),(0:Int),(0:Int),(0:Int),(0:Int),(0:Int),(0:Int),(0:Int),(0:Int),(0:Int),(0:Int),(0:Int),(0:Int),(0:Int),(0:Int)]) ([(0:Int),(0:Int),(0:Int),(0:Int),(0:Int),(0:Int),(0:Int),(0:Int),(0:Int),(0:Int),(0:Int),(0:Int),(0:Int),(0:Int),(0:Int),(0:Int),(0:Int),(0:Int),(0:Int),(0:Int),(0:Int),(0:Int),(0:Int),(0:Int),(0:Int),(0:Int),(0:Int),(0:Int),(0:Int),(0:Int),(0:Int),(0:Int),(0:Int),(0:Int),(0:Int),(0:Int),(0:Int),(0:Int),(0:Int),(0:Int),(0:Int),(0:Int),(0:Int),(0:Int),(0:Int),(0:Int),(0:Int),(0:Int),(0:Int),(0:Int),(0:Int),(0:Int),(0:Int),(0:Int),(0:Int),(0:Int),(0:Int),(0:Int),(0:Int),(0:Int),(0:Int),(0:Int),(0:Int),(0:Int),(0:Int)]):=by kernel_rfl
theorem F95c3_eq (n x0 x1 x2 x3 x4:_):F95c3 (n+1) x0 x1 x2 x3 x4=bif decide (x2<(65:Int))then(F92.run Pky Rkf 4000000 (x0,())).bind fun r0=>(F149.run Pka Rk6 4000000 (r0.fst.fst,())).bind fun r1=>(F149.run Pka Rk6 4000000 (u64.wrap x2,())).bind fun r2=>(F118.run Pk9 Rk6 4000000 ((↑x1.length:Int),x2,())).bind fun r3=>F95c8 n (x0) (x1) (x2) ((0:Int)) (i64.wrap (i64.wrap (r1.fst.fst+r2.fst.fst)+r3.fst.fst)) (x2) (x1) ((↑x1.length:Int)) ((0:Int)) (x3) (x4)else some ((qs5 (0:Int) (65:Nat) x4,()),()):=by kernel_rfl
theorem F95c8_eq (n x0 x1 x2 x3 x4 x5 x6 x7 x8 x9 x10:_):F95c8 (n+1) x0 x1 x2 x3 x4 x5 x6 x7 x8 x9 x10=bif decide (x8<x7)then if 0<=x8 then if x8<(↑x6.length:Int)then(F96.run Pkj Rkf 4000000 (x6.getD x8.toNat (0:Int),x2,())).bind fun r4=>bif decide ((0:Int)<r4.fst.fst)then(F149.run Pka Rk6 4000000 (u64.wrap x8,())).bind fun r5=>(F149.run Pka Rk6 4000000 (r4.fst.fst,())).bind fun r6=>F95c8 n (x0) (x1) (x2) (i64.wrap (x3+(1:Int))) (i64.wrap (x4+i64.wrap (r5.fst.fst+r6.fst.fst))) (x5) (x6) (x7) (i64.wrap (x8+(1:Int))) (x9) (x10)else F95c8 n (x0) (x1) (x2) (x3) (x4) (x5) (x6) (x7) (i64.wrap (x8+(1:Int))) (x9) (x10)else none else none else(F149.run Pka Rk6 4000000 (u64.wrap x3,())).bind fun r7=>if 0<=x2 then if x2<(↑(65:Nat):Int)then F95c3 n (x0) (x1) (i64.wrap (x5+(1:Int))) (x9) (x10.set x2.toNat (i64.wrap (x4+r7.fst.fst)))else none else none:=by kernel_rfl
def F93c1 (n:Nat)(x0:List (Int)):=F93.at Pke Rk1z n 1 ⟨(.one (.data (.sl (.int .i64)) x0 [])::uU 46 []),[]⟩
def F93c3 (n:Nat)(x0:List (Int))(x1:Int)(x2:List (Int))(x3 x4:Int):=F93.at Pke Rk1z n 3 ⟨(.one (.data (.sl (.int .i64)) x0 [])::uU 3 (.one (.int .i64 x1)::uU 5 (.one (.data (.sl (.int .i64)) x2 [])::.one (.int .i64 x3)::.one (.int .i64 x4)::uU 34 []))),[]⟩
def F93c7 (n:Nat)(x0:List (Int))(x1:Int)(x2:List (Int))(x3 x4:Int):=F93.at Pke Rk1z n 7 ⟨(.one (.data (.sl (.int .i64)) x0 [])::uU 3 (.one (.int .i64 x1)::uU 5 (.one (.data (.sl (.int .i64)) x2 [])::.one (.int .i64 x3)::.one (.int .i64 x4)::uU 34 []))),[]⟩
def F93c10 (n:Nat)(x0:Int)(x1:List (Int))(x2 x3:Int)(x4:List (Int)):=F93.at Pke Rk1z n 10 ⟨(uU 4 (.one (.int .i64 x0)::uU 2 (.one (.own 0)::uU 21 (.one (.data (.sl (.int .i64)) x1 [])::.one (.int .i64 x2)::.one (.int .i64 x3)::uU 15 [])))),[(0,.row 83 (.int .u64) x4 [] false)]⟩
theorem F93_run (n:Nat)(a0:List (Int)):F93.run Pke Rk1z n (a0,())=F93c1 n (a0):=by kernel_rfl
theorem F93c1_eq (n x0:_):F93c1 (n+1) x0=F93c3 n (x0) ((0:Int)) (x0) ((↑x0.length:Int)) ((0:Int)):=by kernel_rfl
theorem F93c3_eq (n x0 x1 x2 x3 x4:_):F93c3 (n+1) x0 x1 x2 x3 x4=bif decide (x4<x3)then if 0<=x4 then if x4<(↑x2.length:Int)then bif decide (x4=(0:Int))then F93c7 n (x0) (x2.getD x4.toNat (0:Int)) (x2) (x3) (x4)else bif decide (x2.getD x4.toNat (0:Int)<x1)then F93c7 n (x0) (x2.getD x4.toNat (0:Int)) (x2) (x3) (x4)else F93c7 n (x0) (x1) (x2) (x3) (x4)else none else none else if(↑x0.length:Int)<=(↑lim:Int)then F93c10 n (x1) (x0) ((↑x0.length:Int)) ((0:Int)) (List.replicate (↑x0.length:Int).toNat (0:Int))else none:=by kernel_rfl
theorem F93c7_eq (n x0 x1 x2 x3 x4:_):F93c7 (n+1) x0 x1 x2 x3 x4=F93c3 n (x0) (x1) (x2) (x3) (i64.wrap (x4+(1:Int))):=by kernel_rfl
theorem F93c10_eq (n x0 x1 x2 x3 x4:_):F93c10 (n+1) x0 x1 x2 x3 x4=bif decide (x3<x2)then if 0<=x3 then if x3<(↑x1.length:Int)then if 0<=x3 then if x3<(↑x4.length:Int)then F93c10 n (x0) (x1) (x2) (i64.wrap (x3+(1:Int))) (x4.set x3.toNat (u64.wrap (u64.wrap (x1.getD x3.toNat (0:Int))-u64.wrap x0)))else none else none else none else none else some ((x0,(x4,())),()):=by kernel_rfl
def F52c1 (n:Nat)(x0:List (Int)):=F52.at Pke Rk4 n 1 ⟨(.one (.data (.sl (.int .i64)) x0 [])::uU 61 []),[]⟩
def F52c6 (n:Nat)(x0 x1:Int)(x2 x3 x4:Int)(x5 x6:List (Int)):=F52.at Pke Rk4 n 6 ⟨(uU 3 (.one (.int .i64 x0)::.one (.own 0)::.one (.int .i64 x1)::.one (.own 1)::.one (.int .i64 x2)::uU 13 (.one (.own 0)::.one (.int .i64 x3)::.one (.int .i64 x4)::uU 38 []))),[(0,.row 83 (.int .u64) x5 [] false),(1,.row 5 (.int .u8) x6 [] false)]⟩
theorem F52_run (n:Nat)(a0:List (Int)):F52.run Pke Rk4 n (a0,())=F52c1 n (a0):=by kernel_rfl
theorem F52c1_eq (n x0:_):F52c1 (n+1) x0=(F93.run Pkc Rk2f 4000000 (x0,())).bind fun r0=>(F95.run Pk2i [RK.v (Ty.nm 6)] 4000000 (r0.fst.fst,r0.fst.snd.fst,())).bind fun r1=>(F94.run [PK.v (Ty.nm 6)] Rk6 4000000 (r1.fst.fst,())).bind fun r2=>F52c6 n (r0.fst.fst) (r2.fst.fst) ((0:Int)) ((↑(List.length r0.fst.snd.fst):Int)) ((0:Int)) (r0.fst.snd.fst) ([]):=by kernel_rfl
theorem F52c6_eq (n x0 x1 x2 x3 x4 x5 x6:_):F52c6 (n+1) x0 x1 x2 x3 x4 x5 x6=bif decide (x4<x3)then if 0<=x4 then if x4<(↑x5.length:Int)then(F96.run Pkj Rkf 4000000 (x5.getD x4.toNat (0:Int),x1,())).bind fun r3=>bif decide ((0:Int)<r3.fst.fst)then(F91.run Pka Rk1 4000000 (u64.wrap x4,())).bind fun r4=>(F91.run Pka Rk1 4000000 (r3.fst.fst,())).bind fun r5=>(F97.run qs0 Rk1 4000000 ([x6,r4.fst.fst,r5.fst.fst],())).bind fun r6=>F52c6 n (x0) (x1) (i64.wrap (x2+(1:Int))) (x3) (i64.wrap (x4+(1:Int))) (x5) (r6.fst.fst)else F52c6 n (x0) (x1) (x2) (x3) (i64.wrap (x4+(1:Int))) (x5) (x6)else none else none else(F92.run Pky Rkf 4000000 (x0,())).bind fun r7=>(F91.run Pka Rk1 4000000 (r7.fst.fst,())).bind fun r8=>(F91.run Pka Rk1 4000000 (u64.wrap x1,())).bind fun r9=>(F91.run Pka Rk1 4000000 (u64.wrap x2,())).bind fun r10=>(F97.run qs0 Rk1 4000000 ([r8.fst.fst,r9.fst.fst,r10.fst.fst],())).bind fun r11=>(F98.run Pko Rk1 4000000 (x5,x1,())).bind fun r12=>(F97.run qs0 Rk1 4000000 ([r11.fst.fst,r12.fst.fst,x6],())).bind fun r13=>some ((r13.fst.fst,()),()):=by kernel_rfl
def F99c1 (n:Nat)(x0:Int)(x1 x2:List (Int)):=F99.at Pk1w Rk4 n 1 ⟨(.one (.int .u8 x0)::.one (.data (.sl (.int .i64)) x1 [])::.one (.data (.sl (.int .i64)) x2 [])::uU 25 []),[]⟩
def F99c3 (n:Nat)(x0 x1:List (Int))(x2 x3:Int)(x4:List (Int)):=F99.at Pk1w Rk4 n 3 ⟨(uU 2 (.one (.data (.sl (.int .i64)) x0 [])::uU 4 (.one (.own 0)::uU 4 (.one (.data (.sl (.int .i64)) x1 [])::.one (.int .i64 x2)::.one (.int .i64 x3)::uU 13 [])))),[(0,.row 5 (.int .u8) x4 [] false)]⟩
theorem F99_run (n:Nat)(a0:Int)(a1 a2:List (Int)):F99.run Pk1w Rk4 n (a0,a1,a2,())=F99c1 n (a0) (a1) (a2):=by kernel_rfl
theorem F99c1_eq (n x0 x1 x2:_):F99c1 (n+1) x0 x1 x2=F99c3 n (x2) (x1) ((↑x1.length:Int)) ((0:Int)) ([x0]):=by kernel_rfl
theorem F99c3_eq (n x0 x1 x2 x3 x4:_):F99c3 (n+1) x0 x1 x2 x3 x4=bif decide (x3<x2)then if 0<=x3 then if x3<(↑x1.length:Int)then(F92.run Pky Rkf 4000000 (x1.getD x3.toNat (0:Int),())).bind fun r0=>(F91.run Pka Rk1 4000000 (r0.fst.fst,())).bind fun r1=>if x4.length+List.length r1.fst.fst<=lim then F99c3 n (x0) (x1) (x2) (i64.wrap (x3+(1:Int))) (x4++r1.fst.fst)else none else none else none else(F52.run Pkc Rk1 4000000 (x0,())).bind fun r2=>if x4.length+List.length r2.fst.fst<=lim then some ((x4++r2.fst.fst,()),())else none:=by kernel_rfl
def F54c1 (n:Nat)(x0:List (Int)):=F54.at Pke Rk4 n 1 ⟨(.one (.data (.sl (.int .i64)) x0 [])::uU 41 []),[]⟩
theorem F54_run (n:Nat)(a0:List (Int)):F54.run Pke Rk4 n (a0,())=F54c1 n (a0):=by kernel_rfl
theorem F54c1_eq (n x0:_):F54c1 (n+1) x0=bif decide ((65536:Int)<(↑x0.length:Int))then some (([],()),())else(F100.run Pkc qo2 4000000 (x0,())).bind fun r0=>if(0:Int)<=q9x (1:Int) (↑x0.length:Int)then if q9x (1:Int) (↑x0.length:Int)<=(↑x0.length:Int)then(F99.run Pk11 Rk1 4000000 ((1:Int),List.drop (Int.toNat (0:Int)) (List.take (q9x (1:Int) (↑x0.length:Int)).toNat x0),r0.fst.fst,())).bind fun r1=>bif decide ((↑x0.length:Int)<(2:Int))then some ((r1.fst.fst,()),())else if(0:Int)<(↑x0.length:Int)then if(0:Int)<(↑(List.length r0.fst.fst):Int)then(F100.run Pkc qo2 4000000 (r0.fst.fst,())).bind fun r2=>(F99.run Pk11 Rk1 4000000 ((2:Int),[x0.getD (Int.toNat (0:Int)) (0:Int),List.getD r0.fst.fst (Int.toNat (0:Int)) (0:Int)],r2.fst.fst,())).bind fun r3=>bif decide ((↑(List.length r3.fst.fst):Int)<(↑(List.length r1.fst.fst):Int))then some ((r3.fst.fst,()),())else some ((r1.fst.fst,()),())else none else none else none else none:=by kernel_rfl
def F53c1 (n:Nat)(x0:Vec):=F53.at qjj Rk4 n 1 ⟨[.one (.bptr 900000 0),U,U,U,U],[(900000,.whole (.nm 0) x0 [])]⟩
theorem F53_run (n:Nat)(a0:Vec):F53.run qjj Rk4 n (a0,())=F53c1 n (a0):=by kernel_rfl
theorem F53c1_eq (n x0:_):F53c1 (n+1) x0=(F54.run Pkc Rk1 4000000 (x0.ints,())).bind fun r0=>some ((r0.fst.fst,()),(x0,())):=by kernel_rfl
def F51c1 (n:Nat)(x0:Vec):=F51.at qjj Rk4 n 1 ⟨[.one (.bptr 900000 0),U,U,U,U],[(900000,.whole (.nm 0) x0 [])]⟩
theorem F51_run (n:Nat)(a0:Vec):F51.run qjj Rk4 n (a0,())=F51c1 n (a0):=by kernel_rfl
theorem F51c1_eq (n x0:_):F51c1 (n+1) x0=(F52.run Pkc Rk1 4000000 (x0.ints,())).bind fun r0=>some ((r0.fst.fst,()),(x0,())):=by kernel_rfl
def F48c1 (n:Nat)(x0:Vec):=F48.at qjj Rk4 n 1 ⟨(.one (.bptr 900000 0)::uU 5 []),[(900000,.whole (.nm 0) x0 [])]⟩
theorem F48_run (n:Nat)(a0:Vec):F48.run qjj Rk4 n (a0,())=F48c1 n (a0):=by kernel_rfl
theorem F48c1_eq (n x0:_):F48c1 (n+1) x0=(F50.run Pkc qyo 4000000 (x0.ints,())).bind fun r0=>(F49.run qji Rk1 4000000 (r0.fst.fst,())).bind fun r1=>some ((r1.fst.fst,()),(x0,())):=by kernel_rfl
def F38c11 (n:Nat) :=F38.at Pkz Rkk n 11 ⟨(uU 29 []),[]⟩
theorem F38_run (n:Nat)(a0 a1:Int):F38.run Pkz Rkk n (a0,a1,())=bif decide (a0=(0:Int))then bif decide ((1:Int)<=a1)then some ((decide (a1<=(3:Int)),()),())else some ((false,()),())else bif decide (a0=(1:Int))then bif decide (a0=(1:Int))then bif decide (a1=(1:Int))then some ((true,()),())else some ((decide (a1=(2:Int)),()),())else bif decide (a0=(4:Int))then bif decide (a0=(4:Int))then some ((decide (a1=(3:Int)),()),())else F38c11 n else bif decide (a0=(5:Int))then some ((decide (a1=(3:Int)),()),())else F38c11 n else bif decide (a0=(2:Int))then bif decide (a0=(2:Int))then bif decide (a1=(1:Int))then some ((true,()),())else some ((decide (a1=(2:Int)),()),())else bif decide (a0=(4:Int))then bif decide (a0=(4:Int))then some ((decide (a1=(3:Int)),()),())else F38c11 n else bif decide (a0=(5:Int))then some ((decide (a1=(3:Int)),()),())else F38c11 n else bif decide (a0=(3:Int))then bif decide (a1=(1:Int))then some ((true,()),())else some ((decide (a1=(2:Int)),()),())else bif decide (a0=(4:Int))then bif decide (a0=(4:Int))then some ((decide (a1=(3:Int)),()),())else F38c11 n else bif decide (a0=(5:Int))then some ((decide (a1=(3:Int)),()),())else F38c11 n :=by kernel_rfl
theorem F38c11_eq (n:Nat) :F38c11 (n+1) =some ((false,()),()):=by kernel_rfl
def F14c1 (n:Nat)(x0:Vec):=F14.at Pkx Rk2q n 1 ⟨(uU 1 (.one (.bptr 0 0)::uU 26 [])),[(0,.whole (.nm 0) x0 [])]⟩
def F14c3 (n:Nat)(x0:Int)(x1:Vec)(x2:List (Cost)):=F14.at Pkx Rk2q n 3 ⟨(uU 1 (.one (.bptr 0 0)::uU 1 (.one (.own 1)::.one (.int .i64 x0)::uU 23 []))),[(0,.whole (.nm 0) x1 []),(1,.row 38 (.nm 1) x2 [] false)]⟩
def F14c9 (n:Nat)(x0:Int)(x1:Vec)(x2:List (Cost))(x3:Cost):=F14.at Pkx Rk2q n 9 ⟨(uU 1 (.one (.bptr 0 0)::uU 1 (.one (.own 1)::.one (.int .i64 x0)::.one (.bptr 2 0)::uU 22 []))),[(0,.whole (.nm 0) x1 []),(1,.row 38 (.nm 1) x2 [] false),(2,.whole (.nm 1) x3 [])]⟩
theorem F14_run (n:Nat)(a0:Vec):F14.run Pkx Rk2q n (a0,())=F14c1 n (a0):=by kernel_rfl
theorem F14c1_eq (n x0:_):F14c1 (n+1) x0=F14c3 n ((0:Int)) (x0) ([]):=by kernel_rfl
theorem F14c3_eq (n x0 x1 x2:_):F14c3 (n+1) x0 x1 x2=bif decide (x0<=(5:Int))then(F38.run Pk9 Rkl 4000000 (x0,x1.f_Type,())).bind fun r0=>bif !r0.fst.fst then F14c9 n (x0) (x1) (x2) ({encoding:=x0,bytes:=(-1:Int):Cost})else bif decide (x0=(1:Int))then(F48.run qdk Rk1 4000000 (x1,())).bind fun r1=>F14c9 n (x0) (x1) (x2) ({encoding:=x0,bytes:=i64.wrap ((1:Int)+(↑(List.length r1.fst.fst):Int)):Cost})else bif decide (x0=(2:Int))then(F51.run qdk Rk1 4000000 (x1,())).bind fun r2=>F14c9 n (x0) (x1) (x2) ({encoding:=x0,bytes:=i64.wrap ((1:Int)+(↑(List.length r2.fst.fst):Int)):Cost})else bif decide (x0=(3:Int))then(F53.run qdk Rk1 4000000 (x1,())).bind fun r3=>F14c9 n (x0) (x1) (x2) ({encoding:=x0,bytes:=i64.wrap ((1:Int)+(↑(List.length r3.fst.fst):Int)):Cost})else bif decide (x0=(4:Int))then(F55.run qdk Rk1 4000000 (x1,())).bind fun r4=>F14c9 n (x0) (x1) (x2) ({encoding:=x0,bytes:=i64.wrap ((1:Int)+(↑(List.length r4.fst.fst):Int)):Cost})else bif decide (x0=(5:Int))then(F57.run qdk Rk1 4000000 (x1,())).bind fun r5=>F14c9 n (x0) (x1) (x2) ({encoding:=x0,bytes:=i64.wrap ((1:Int)+(↑(List.length r5.fst.fst):Int)):Cost})else(F59.run qdk Rk1 4000000 (x1,())).bind fun r6=>F14c9 n (x0) (x1) (x2) ({encoding:=x0,bytes:=i64.wrap ((1:Int)+(↑(List.length r6.fst.fst):Int)):Cost})else some ((x2,()),()):=by kernel_rfl
theorem F14c9_eq (n x0 x1 x2 x3:_):F14c9 (n+1) x0 x1 x2 x3=if x2.length+(1:Nat)<=lim then F14c3 n (i64.wrap (x0+(1:Int))) (x1) (x2++[x3])else none:=by kernel_rfl
def F16c4 (n:Nat)(x0:List (Cost))(x1 x2:Int)(x3:Cost):=F16.at Pkx Rkd n 4 ⟨(uU 4 (.one (.bptr 0 0)::uU 8 (.one (.data (.sl (.nm 1)) x0 [])::.one (.int .i64 x1)::.one (.int .i64 x2)::uU 9 []))),[(0,.whole (.nm 1) x3 [])]⟩
theorem F16_run (n:Nat)(a0:Vec):F16.run Pkx Rkd n (a0,())=(F14.run qe5 Rk2w 4000000 (a0,())).bind fun r0=>if(0:Int)<(↑(List.length r0.fst.fst):Int)then if(1:Int)<=(↑(List.length r0.fst.fst):Int)then if(↑(List.length r0.fst.fst):Int)<=(↑(List.length r0.fst.fst):Int)then F16c4 n (List.drop (Int.toNat (1:Int)) (List.take (↑(List.length r0.fst.fst):Int).toNat r0.fst.fst)) ((↑(List.drop (Int.toNat (1:Int)) (List.take (↑(List.length r0.fst.fst):Int).toNat r0.fst.fst)).length:Int)) ((0:Int)) (List.getD r0.fst.fst (Int.toNat (0:Int)) qdj)else none else none else none:=by kernel_rfl
theorem F16c4_eq (n x0 x1 x2 x3:_):F16c4 (n+1) x0 x1 x2 x3=bif decide (x2<x1)then if 0<=x2 then if x2<(↑x0.length:Int)then(F36.run Pk2o [RK.v (Ty.nm 1)] 4000000 (x3,x0.getD x2.toNat qdj,(),())).bind fun r1=>F16c4 n (x0) (x1) (i64.wrap (x2+(1:Int))) (r1.fst.fst)else none else none else some ((x3.encoding,()),()):=by kernel_rfl
def F33c4 (n:Nat)(x0:Int)(x1:Vec):=F33.at Pkx Rkk n 4 ⟨(uU 1 (.one (.bptr 0 0)::uU 1 (.one (.int .i64 x0)::uU 88 []))),[(0,.whole (.nm 0) x1 [])]⟩
def F33c6 (n:Nat)(x0:Vec):=F33.at Pkx Rkk n 6 ⟨(uU 1 (.one (.bptr 0 0)::uU 90 [])),[(0,.whole (.nm 0) x0 [])]⟩
def F33c7 (n:Nat)(x0:List (Bool))(x1 x2:Int)(x3:Vec):=F33.at Pkx Rkk n 7 ⟨(uU 1 (.one (.bptr 0 0)::uU 54 (.one (.data (.sl .bool) x0 [])::.one (.int .i64 x1)::.one (.int .i64 x2)::uU 33 []))),[(0,.whole (.nm 0) x3 [])]⟩
def F33c15 (n:Nat)(x0:List (Bool))(x1 x2:Int)(x3:Vec):=F33.at Pkx Rkk n 15 ⟨(uU 1 (.one (.bptr 0 0)::uU 54 (.one (.data (.sl .bool) x0 [])::.one (.int .i64 x1)::.one (.int .i64 x2)::uU 33 []))),[(0,.whole (.nm 0) x3 [])]⟩
theorem F33_run (n:Nat)(a0:Vec):F33.run Pkx Rkk n (a0,())=bif decide (a0.f_Type<(1:Int))then some ((false,()),())else bif decide ((3:Int)<a0.f_Type)then some ((false,()),())else bif decide ((65536:Int)<(↑a0.nulls.length:Int))then some ((false,()),())else F33c4 n ((↑a0.nulls.length:Int)) (a0):=by kernel_rfl
theorem F33c4_eq (n x0 x1:_):F33c4 (n+1) x0 x1=bif decide (x1.f_Type=(3:Int))then bif !decide ((↑x1.texts.length:Int)=x0)then some ((false,()),())else bif !decide ((↑x1.ints.length:Int)=(0:Int))then some ((false,()),())else bif !decide (x1.f_Type=(3:Int))then bif !decide ((↑x1.ints.length:Int)=x0)then some ((false,()),())else bif !decide ((↑x1.texts.length:Int)=(0:Int))then some ((false,()),())else F33c6 n (x1)else F33c6 n (x1)else bif !decide (x1.f_Type=(3:Int))then bif !decide ((↑x1.ints.length:Int)=x0)then some ((false,()),())else bif !decide ((↑x1.texts.length:Int)=(0:Int))then some ((false,()),())else F33c6 n (x1)else F33c6 n (x1):=by kernel_rfl
theorem F33c6_eq (n x0:_):F33c6 (n+1) x0=F33c7 n (x0.nulls) ((↑x0.nulls.length:Int)) ((0:Int)) (x0):=by kernel_rfl
theorem F33c7_eq (n x0 x1 x2 x3:_):F33c7 (n+1) x0 x1 x2 x3=bif decide (x2<x1)then if 0<=x2 then if x2<(↑x0.length:Int)then bif x0.getD x2.toNat false then some ((false,()),())else bif decide (x3.f_Type=(1:Int))then if 0<=x2 then if x2<(↑x3.ints.length:Int)then bif !decide (bits BinOp.andNot i64 (x3.ints.getD x2.toNat (0:Int)) (1:Int)=(0:Int))then some ((false,()),())else bif decide (x3.f_Type=(3:Int))then if 0<=x2 then if x2<(↑x3.texts.length:Int)then bif decide ((4096:Int)<(↑(x3.texts.getD x2.toNat []).length:Int))then some ((false,()),())else F33c15 n (x0) (x1) (x2) (x3)else none else none else F33c15 n (x0) (x1) (x2) (x3)else none else none else bif decide (x3.f_Type=(3:Int))then if 0<=x2 then if x2<(↑x3.texts.length:Int)then bif decide ((4096:Int)<(↑(x3.texts.getD x2.toNat []).length:Int))then some ((false,()),())else F33c15 n (x0) (x1) (x2) (x3)else none else none else F33c15 n (x0) (x1) (x2) (x3)else none else none else some ((true,()),()):=by kernel_rfl
theorem F33c15_eq (n x0 x1 x2 x3:_):F33c15 (n+1) x0 x1 x2 x3=F33c7 n (x0) (x1) (i64.wrap (x2+(1:Int))) (x3):=by kernel_rfl
def F11c1 (n:Nat)(x0:Int)(x1:Vec):=F11.at qwd Rk23 n 1 ⟨(uU 1 (.one (.int .i64 x0)::.one (.bptr 0 0)::uU 26 [])),[(0,.whole (.nm 0) x1 [])]⟩
def F11c3 (n:Nat)(x0:Int)(x1:Vec):=F11.at qwd Rk23 n 3 ⟨(uU 1 (.one (.int .i64 x0)::.one (.bptr 0 0)::uU 26 [])),[(0,.whole (.nm 0) x1 [])]⟩
theorem F11_run (n:Nat)(a0:Vec)(a1:Int):F11.run qwd Rk23 n (a0,a1,())=F11c1 n (a1) (a0):=by kernel_rfl
theorem F11c1_eq (n x0 x1:_):F11c1 (n+1) x0 x1=(F33.run qe5 Rkl 4000000 (x1,())).bind fun r0=>bif !r0.fst.fst then some (([],((1:Int),())),())else bif decide (x0<(0:Int))then some (([],((1:Int),())),())else bif decide ((5:Int)<x0)then some (([],((1:Int),())),())else F11c3 n (x0) (x1):=by kernel_rfl
theorem F11c3_eq (n x0 x1:_):F11c3 (n+1) x0 x1=(F38.run Pk9 Rkl 4000000 (x0,x1.f_Type,())).bind fun r1=>bif !r1.fst.fst then some (([],((7:Int),())),())else bif decide (x0=(1:Int))then(F48.run qdk Rk1 4000000 (x1,())).bind fun r2=>if(1:Nat)+List.length r2.fst.fst<=lim then some (([u8.wrap x0]++r2.fst.fst,((0:Int),())),())else none else bif decide (x0=(2:Int))then(F51.run qdk Rk1 4000000 (x1,())).bind fun r3=>if(1:Nat)+List.length r3.fst.fst<=lim then some (([u8.wrap x0]++r3.fst.fst,((0:Int),())),())else none else bif decide (x0=(3:Int))then(F53.run qdk Rk1 4000000 (x1,())).bind fun r4=>if(1:Nat)+List.length r4.fst.fst<=lim then some (([u8.wrap x0]++r4.fst.fst,((0:Int),())),())else none else bif decide (x0=(4:Int))then(F55.run qdk Rk1 4000000 (x1,())).bind fun r5=>if(1:Nat)+List.length r5.fst.fst<=lim then some (([u8.wrap x0]++r5.fst.fst,((0:Int),())),())else none else bif decide (x0=(5:Int))then(F57.run qdk Rk1 4000000 (x1,())).bind fun r6=>if(1:Nat)+List.length r6.fst.fst<=lim then some (([u8.wrap x0]++r6.fst.fst,((0:Int),())),())else none else(F59.run qdk Rk1 4000000 (x1,())).bind fun r7=>if(1:Nat)+List.length r7.fst.fst<=lim then some (([u8.wrap x0]++r7.fst.fst,((0:Int),())),())else none:=by kernel_rfl
def F13c4 (n:Nat)(x0:Int)(x1:Vec):=F13.at Pkx Rkk n 4 ⟨(uU 1 (.one (.bptr 0 0)::uU 1 (.one (.int .i64 x0)::uU 95 []))),[(0,.whole (.nm 0) x1 [])]⟩
def F13c6 (n:Nat)(x0:Int)(x1:Vec):=F13.at Pkx Rkk n 6 ⟨(uU 1 (.one (.bptr 0 0)::uU 1 (.one (.int .i64 x0)::uU 95 []))),[(0,.whole (.nm 0) x1 [])]⟩
def F13c7 (n:Nat)(x0 x1:Int)(x2:Vec):=F13.at Pkx Rkk n 7 ⟨(uU 1 (.one (.bptr 0 0)::uU 1 (.one (.int .i64 x0)::.one (.int .i64 x1)::uU 94 []))),[(0,.whole (.nm 0) x2 [])]⟩
def F13c8 (n:Nat)(x0 x1:Int)(x2:Vec):=F13.at Pkx Rkk n 8 ⟨(uU 1 (.one (.bptr 0 0)::uU 1 (.one (.int .i64 x0)::.one (.int .i64 x1)::uU 94 []))),[(0,.whole (.nm 0) x2 [])]⟩
theorem F13_run (n:Nat)(a0:Vec):F13.run Pkx Rkk n (a0,())=bif decide (a0.f_Type<(1:Int))then some ((false,()),())else bif decide ((3:Int)<a0.f_Type)then some ((false,()),())else bif decide ((65536:Int)<(↑a0.nulls.length:Int))then some ((false,()),())else F13c4 n ((↑a0.nulls.length:Int)) (a0):=by kernel_rfl
theorem F13c4_eq (n x0 x1:_):F13c4 (n+1) x0 x1=bif decide (x1.f_Type=(3:Int))then bif !decide ((↑x1.ints.length:Int)=(0:Int))then some ((false,()),())else bif !decide ((↑x1.texts.length:Int)=x0)then some ((false,()),())else bif !decide (x1.f_Type=(3:Int))then bif !decide ((↑x1.texts.length:Int)=(0:Int))then some ((false,()),())else bif !decide ((↑x1.ints.length:Int)=x0)then some ((false,()),())else F13c6 n (x0) (x1)else F13c6 n (x0) (x1)else bif !decide (x1.f_Type=(3:Int))then bif !decide ((↑x1.texts.length:Int)=(0:Int))then some ((false,()),())else bif !decide ((↑x1.ints.length:Int)=x0)then some ((false,()),())else F13c6 n (x0) (x1)else F13c6 n (x0) (x1):=by kernel_rfl
theorem F13c6_eq (n x0 x1:_):F13c6 (n+1) x0 x1=F13c7 n (x0) ((0:Int)) (x1):=by kernel_rfl
theorem F13c7_eq (n x0 x1 x2:_):F13c7 (n+1) x0 x1 x2=bif decide (x1<x0)then if 0<=x1 then if x1<(↑x2.nulls.length:Int)then bif x2.nulls.getD x1.toNat false then some ((false,()),())else bif decide (x2.f_Type=(1:Int))then if 0<=x1 then if x1<(↑x2.ints.length:Int)then bif !decide (x2.ints.getD x1.toNat (0:Int)=(0:Int))then if 0<=x1 then if x1<(↑x2.ints.length:Int)then bif !decide (x2.ints.getD x1.toNat (0:Int)=(1:Int))then some ((false,()),())else bif decide (x2.f_Type=(3:Int))then if 0<=x1 then if x1<(↑x2.texts.length:Int)then bif decide ((4096:Int)<(↑(x2.texts.getD x1.toNat []).length:Int))then some ((false,()),())else F13c8 n (x0) (x1) (x2)else none else none else F13c8 n (x0) (x1) (x2)else none else none else bif decide (x2.f_Type=(3:Int))then if 0<=x1 then if x1<(↑x2.texts.length:Int)then bif decide ((4096:Int)<(↑(x2.texts.getD x1.toNat []).length:Int))then some ((false,()),())else F13c8 n (x0) (x1) (x2)else none else none else F13c8 n (x0) (x1) (x2)else none else none else bif decide (x2.f_Type=(3:Int))then if 0<=x1 then if x1<(↑x2.texts.length:Int)then bif decide ((4096:Int)<(↑(x2.texts.getD x1.toNat []).length:Int))then some ((false,()),())else F13c8 n (x0) (x1) (x2)else none else none else F13c8 n (x0) (x1) (x2)else none else none else some ((true,()),()):=by kernel_rfl
theorem F13c8_eq (n x0 x1 x2:_):F13c8 (n+1) x0 x1 x2=F13c7 n (x0) (i64.wrap (x1+(1:Int))) (x2):=by kernel_rfl
def F9c3 (n:Nat)(x0 x1:Int)(x2:Vec):=F9.at Pkx Rkk n 3 ⟨(uU 1 (.one (.bptr 0 0)::uU 1 (.one (.int .i64 x0)::.one (.int .i64 x1)::uU 28 []))),[(0,.whole (.nm 0) x2 [])]⟩
theorem F9_run (n:Nat)(a0:Vec):F9.run Pkx Rkk n (a0,())=F9c3 n (i64.wrap (i64.wrap ((↑a0.ints.length:Int)+(↑a0.texts.length:Int))+(↑a0.nulls.length:Int))) ((0:Int)) (a0):=by kernel_rfl
theorem F9c3_eq (n x0 x1 x2:_):F9c3 (n+1) x0 x1 x2=bif decide (x1<(↑x2.texts.length:Int))then if 0<=x1 then if x1<(↑x2.texts.length:Int)then F9c3 n (i64.wrap (x0+(↑(x2.texts.getD x1.toNat []).length:Int))) (i64.wrap (x1+(1:Int))) (x2)else none else none else some ((decide (x0<=(10000:Int)),()),()):=by kernel_rfl
end
end Go.Proofs.Tryz
