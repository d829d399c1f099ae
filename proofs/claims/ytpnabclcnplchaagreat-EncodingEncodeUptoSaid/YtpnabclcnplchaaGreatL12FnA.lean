/- The functions of the program as the engine follows them (printed by a program of ours): their code, what is known of them, and the equations of their runs. -/
import Derived.Test.YtpnabclcnplchaaGreatL12Base
set_option linter.unusedVariables false
set_option maxRecDepth 20000
namespace Go.Proofs.Tryz
open Go.Eng
noncomputable def F37 : Eng.Fn NN := ⟨⟨(Eng.look tys), (lookS []), Eng.look [], Eng.pinIds 0 [.v (.nm 1)], 0, noInl⟩, Eng.bodyOf Go.Proofs.Tryz.f37, [.tmp 2], 5⟩
noncomputable def sp37 : Eng.Spec NN := F37.spec [.v (.nm 1)] [.v (.int .i64)] 4000000
theorem good37 : Eng.Good prog 37 sp37 := Eng.good_fn (fn := f37) fits (by kernel_rfl) mixed (by kernel_rfl) .nil (by kernel_rfl) (by kernel_rfl) (by kernel_rfl) (by kernel_rfl) (by kernel_rfl) (by kernel_rfl) (by kernel_rfl) (by kernel_rfl) (by kernel_rfl)
noncomputable def F36 : Eng.Fn NN := ⟨⟨(Eng.look tys), (lookS [(37, sp37)]), Eng.look [], Eng.pinIds 0 [.v (.nm 1), .v (.nm 1), .fv 37], 0, noInl⟩, Eng.bodyOf Go.Proofs.Tryz.f36, [.cell 6 38], 28⟩
noncomputable def sp36 : Eng.Spec NN := F36.spec [.v (.nm 1), .v (.nm 1), .fv 37] [.v (.nm 1)] 4000000
theorem good36 : Eng.Good prog 36 sp36 := Eng.good_fn (fn := f36) fits (by kernel_rfl) mixed (by kernel_rfl) (.cons good37 .nil) (by kernel_rfl) (by kernel_rfl) (by kernel_rfl) (by kernel_rfl) (by kernel_rfl) (by kernel_rfl) (by kernel_rfl) (by kernel_rfl) (by kernel_rfl)
noncomputable def F91 : Eng.Fn NN := ⟨⟨(Eng.look tys), (lookS []), Eng.look [(1, [0]), (2, [0, 3])], Eng.pinIds 0 [.v (.int .u64)], 0, noInl⟩, Eng.bodyOf Go.Proofs.Tryz.f91, [.tmp 2], 19⟩
noncomputable def sp91 : Eng.Spec NN := F91.spec [.v (.int .u64)] [.own 5 (.int .u8)] 4000000
theorem good91 : Eng.Good prog 91 sp91 := Eng.good_fn (fn := f91) fits (by kernel_rfl) mixed (by kernel_rfl) .nil (by kernel_rfl) (by kernel_rfl) (by kernel_rfl) (by kernel_rfl) (by kernel_rfl) (by kernel_rfl) (by kernel_rfl) (by kernel_rfl) (by kernel_rfl)
noncomputable def F104 : Eng.Fn NN := ⟨⟨(Eng.look tys), (lookS []), Eng.look [(1, [0, 1]), (3, [0, 1]), (5, [0, 5, 15, 16])], Eng.pinIds 0 [.v (.int .u64), .v (.int .i64)], 0, noInl⟩, Eng.bodyOf Go.Proofs.Tryz.f104, [.tmp 4], 29⟩
noncomputable def sp104 : Eng.Spec NN := F104.spec [.v (.int .u64), .v (.int .i64)] [.own 5 (.int .u8)] 4000000
theorem good104 : Eng.Good prog 104 sp104 := Eng.good_fn (fn := f104) fits (by kernel_rfl) mixed (by kernel_rfl) .nil (by kernel_rfl) (by kernel_rfl) (by kernel_rfl) (by kernel_rfl) (by kernel_rfl) (by kernel_rfl) (by kernel_rfl) (by kernel_rfl) (by kernel_rfl)
noncomputable def F151 : Eng.Fn NN := ⟨⟨(Eng.look tys), (lookS []), Eng.look [(1, [0, 2, 3, 5])], Eng.pinIds 0 [.v (.int .u64), .bw (.int .i64), .bw (.int .i64), .bc [.o 5 (.int .u8)]], 0, noInl⟩, Eng.bodyOf Go.Proofs.Tryz.f151, [], 40⟩
noncomputable def sp151 : Eng.Spec NN := F151.spec [.v (.int .u64), .bw (.int .i64), .bw (.int .i64), .bc [.o 5 (.int .u8)]] [] 4000000
theorem good151 : Eng.Good prog 151 sp151 := Eng.good_fn (fn := f151) fits (by kernel_rfl) mixed (by kernel_rfl) .nil (by kernel_rfl) (by kernel_rfl) (by kernel_rfl) (by kernel_rfl) (by kernel_rfl) (by kernel_rfl) (by kernel_rfl) (by kernel_rfl) (by kernel_rfl)
noncomputable def F150 : Eng.Fn NN := ⟨⟨(Eng.look tys), (lookS []), Eng.look [], Eng.pinIds 0 [.v (.int .i64), .v (.int .i64)], 0, noInl⟩, Eng.bodyOf Go.Proofs.Tryz.f150, [.tmp 4], 19⟩
noncomputable def sp150 : Eng.Spec NN := F150.spec [.v (.int .i64), .v (.int .i64)] [.v (.bool)] 4000000
theorem good150 : Eng.Good prog 150 sp150 := Eng.good_fn (fn := f150) fits (by kernel_rfl) mixed (by kernel_rfl) .nil (by kernel_rfl) (by kernel_rfl) (by kernel_rfl) (by kernel_rfl) (by kernel_rfl) (by kernel_rfl) (by kernel_rfl) (by kernel_rfl) (by kernel_rfl)
noncomputable def F118 : Eng.Fn NN := ⟨⟨(Eng.look tys), (lookS [(150, sp150)]), Eng.look [], Eng.pinIds 0 [.v (.int .i64), .v (.int .i64)], 0, noInl⟩, Eng.bodyOf Go.Proofs.Tryz.f118, [.tmp 4], 14⟩
noncomputable def sp118 : Eng.Spec NN := F118.spec [.v (.int .i64), .v (.int .i64)] [.v (.int .i64)] 4000000
theorem good118 : Eng.Good prog 118 sp118 := Eng.good_fn (fn := f118) fits (by kernel_rfl) mixed (by kernel_rfl) (.cons good150 .nil) (by kernel_rfl) (by kernel_rfl) (by kernel_rfl) (by kernel_rfl) (by kernel_rfl) (by kernel_rfl) (by kernel_rfl) (by kernel_rfl) (by kernel_rfl)
noncomputable def F98 : Eng.Fn NN := ⟨⟨(Eng.look tys), (lookS [(151, sp151), (118, sp118), (150, sp150)]), Eng.look [(1, [0, 3]), (7, [0, 5, 7, 21, 22])], Eng.pinIds 0 [.v (.sl (.int .u64)), .v (.int .i64)], 0, noInl⟩, Eng.bodyOf Go.Proofs.Tryz.f98, [.tmp 4], 33⟩
noncomputable def sp98 : Eng.Spec NN := F98.spec [.v (.sl (.int .u64)), .v (.int .i64)] [.own 5 (.int .u8)] 4000000
theorem good98 : Eng.Good prog 98 sp98 := Eng.good_fn (fn := f98) fits (by kernel_rfl) mixed (by kernel_rfl) (.cons good151 (.cons good118 (.cons good150 .nil))) (by kernel_rfl) (by kernel_rfl) (by kernel_rfl) (by kernel_rfl) (by kernel_rfl) (by kernel_rfl) (by kernel_rfl) (by kernel_rfl) (by kernel_rfl)
noncomputable def F60 : Eng.Fn NN := ⟨⟨(Eng.look tys), (lookS [(91, sp91), (104, sp104), (98, sp98)]), Eng.look [(1, [1]), (5, [3, 21, 22, 23]), (13, [6, 39, 40, 41]), (20, [9, 53, 54, 55])], Eng.pinIds 0 [.v (.nm 0)], 0, noInl⟩, Eng.bodyOf Go.Proofs.Tryz.f60, [.tmp 2], 70⟩
noncomputable def sp60 : Eng.Spec NN := F60.spec [.v (.nm 0)] [.own 5 (.int .u8)] 4000000
theorem good60 : Eng.Good prog 60 sp60 := Eng.good_fn (fn := f60) fits (by kernel_rfl) mixed (by kernel_rfl) (.cons good91 (.cons good104 (.cons good98 .nil))) (by kernel_rfl) (by kernel_rfl) (by kernel_rfl) (by kernel_rfl) (by kernel_rfl) (by kernel_rfl) (by kernel_rfl) (by kernel_rfl) (by kernel_rfl)
noncomputable def F59 : Eng.Fn NN := ⟨⟨(Eng.look tys), (lookS [(60, sp60)]), Eng.look [(1, [0])], Eng.pinIds 0 [.bw (.nm 0)], 0, noInl⟩, Eng.bodyOf Go.Proofs.Tryz.f59, [.tmp 1], 4⟩
noncomputable def sp59 : Eng.Spec NN := F59.spec [.bw (.nm 0)] [.own 5 (.int .u8)] 4000000
theorem good59 : Eng.Good prog 59 sp59 := Eng.good_fn (fn := f59) fits (by kernel_rfl) mixed (by kernel_rfl) (.cons good60 .nil) (by kernel_rfl) (by kernel_rfl) (by kernel_rfl) (by kernel_rfl) (by kernel_rfl) (by kernel_rfl) (by kernel_rfl) (by kernel_rfl) (by kernel_rfl)
noncomputable def F156 : Eng.Fn NN := ⟨⟨(Eng.look tys), (lookS []), Eng.look [(2, [0, 1, 5])], Eng.pinIds 0 [.v (.str), .v (.str)], 0, noInl⟩, Eng.bodyOf Go.Proofs.Tryz.f156, [.tmp 4], 28⟩
noncomputable def sp156 : Eng.Spec NN := F156.spec [.v (.str), .v (.str)] [.v (.int .i64)] 4000000
theorem good156 : Eng.Good prog 156 sp156 := Eng.good_fn (fn := f156) fits (by kernel_rfl) mixed (by kernel_rfl) .nil (by kernel_rfl) (by kernel_rfl) (by kernel_rfl) (by kernel_rfl) (by kernel_rfl) (by kernel_rfl) (by kernel_rfl) (by kernel_rfl) (by kernel_rfl)
noncomputable def F103 : Eng.Fn NN := ⟨⟨(Eng.look tys), (lookS [(156, sp156)]), Eng.look [], Eng.pinIds 0 [.v (.sl (.str)), .v (.int .i64)], 0, noInl⟩, Eng.bodyOf Go.Proofs.Tryz.f103, [.tmp 4], 18⟩
noncomputable def sp103 : Eng.Spec NN := F103.spec [.v (.sl (.str)), .v (.int .i64)] [.v (.int .i64)] 4000000
theorem good103 : Eng.Good prog 103 sp103 := Eng.good_fn (fn := f103) fits (by kernel_rfl) mixed (by kernel_rfl) (.cons good156 .nil) (by kernel_rfl) (by kernel_rfl) (by kernel_rfl) (by kernel_rfl) (by kernel_rfl) (by kernel_rfl) (by kernel_rfl) (by kernel_rfl) (by kernel_rfl)
noncomputable def F58 : Eng.Fn NN := ⟨⟨(Eng.look tys), (lookS [(91, sp91), (103, sp103)]), Eng.look [(1, [0]), (3, [0, 3, 7, 8, 9])], Eng.pinIds 0 [.v (.sl (.str))], 0, noInl⟩, Eng.bodyOf Go.Proofs.Tryz.f58, [.tmp 2], 37⟩
noncomputable def sp58 : Eng.Spec NN := F58.spec [.v (.sl (.str))] [.own 5 (.int .u8)] 4000000
theorem good58 : Eng.Good prog 58 sp58 := Eng.good_fn (fn := f58) fits (by kernel_rfl) mixed (by kernel_rfl) (.cons good91 (.cons good103 .nil)) (by kernel_rfl) (by kernel_rfl) (by kernel_rfl) (by kernel_rfl) (by kernel_rfl) (by kernel_rfl) (by kernel_rfl) (by kernel_rfl) (by kernel_rfl)
noncomputable def F57 : Eng.Fn NN := ⟨⟨(Eng.look tys), (lookS [(58, sp58)]), Eng.look [(1, [0])], Eng.pinIds 0 [.bw (.nm 0)], 0, noInl⟩, Eng.bodyOf Go.Proofs.Tryz.f57, [.tmp 1], 5⟩
noncomputable def sp57 : Eng.Spec NN := F57.spec [.bw (.nm 0)] [.own 5 (.int .u8)] 4000000
theorem good57 : Eng.Good prog 57 sp57 := Eng.good_fn (fn := f57) fits (by kernel_rfl) mixed (by kernel_rfl) (.cons good58 .nil) (by kernel_rfl) (by kernel_rfl) (by kernel_rfl) (by kernel_rfl) (by kernel_rfl) (by kernel_rfl) (by kernel_rfl) (by kernel_rfl) (by kernel_rfl)
noncomputable def F92 : Eng.Fn NN := ⟨⟨(Eng.look tys), (lookS []), Eng.look [], Eng.pinIds 0 [.v (.int .i64)], 0, noInl⟩, Eng.bodyOf Go.Proofs.Tryz.f92, [.tmp 2], 10⟩
noncomputable def sp92 : Eng.Spec NN := F92.spec [.v (.int .i64)] [.v (.int .u64)] 4000000
theorem good92 : Eng.Good prog 92 sp92 := Eng.good_fn (fn := f92) fits (by kernel_rfl) mixed (by kernel_rfl) .nil (by kernel_rfl) (by kernel_rfl) (by kernel_rfl) (by kernel_rfl) (by kernel_rfl) (by kernel_rfl) (by kernel_rfl) (by kernel_rfl) (by kernel_rfl)
noncomputable def F49 : Eng.Fn NN := ⟨⟨(Eng.look tys), (lookS [(91, sp91), (92, sp92)]), Eng.look [(1, [0]), (4, [3, 4, 11, 12, 13])], Eng.pinIds 0 [.v (.sl (.nm 5))], 0, noInl⟩, Eng.bodyOf Go.Proofs.Tryz.f49, [.tmp 2], 35⟩
noncomputable def sp49 : Eng.Spec NN := F49.spec [.v (.sl (.nm 5))] [.own 5 (.int .u8)] 4000000
theorem good49 : Eng.Good prog 49 sp49 := Eng.good_fn (fn := f49) fits (by kernel_rfl) mixed (by kernel_rfl) (.cons good91 (.cons good92 .nil)) (by kernel_rfl) (by kernel_rfl) (by kernel_rfl) (by kernel_rfl) (by kernel_rfl) (by kernel_rfl) (by kernel_rfl) (by kernel_rfl) (by kernel_rfl)
noncomputable def F50 : Eng.Fn NN := ⟨⟨(Eng.look tys), (lookS []), Eng.look [(1, [0]), (3, [0, 3, 6, 7, 8]), (7, [0, 3, 5, 6, 7, 8])], Eng.pinIds 0 [.v (.sl (.int .i64))], 0, noInl⟩, Eng.bodyOf Go.Proofs.Tryz.f50, [.tmp 2], 41⟩
noncomputable def sp50 : Eng.Spec NN := F50.spec [.v (.sl (.int .i64))] [.own 110 (.nm 5)] 4000000
theorem good50 : Eng.Good prog 50 sp50 := Eng.good_fn (fn := f50) fits (by kernel_rfl) mixed (by kernel_rfl) .nil (by kernel_rfl) (by kernel_rfl) (by kernel_rfl) (by kernel_rfl) (by kernel_rfl) (by kernel_rfl) (by kernel_rfl) (by kernel_rfl) (by kernel_rfl)
noncomputable def F173 : Eng.Fn NN := ⟨⟨(Eng.look tys), (lookS []), Eng.look [(4, [0, 2]), (7, [0, 2]), (10, [0, 2])], Eng.pinIds 0 [.v (.int .u64)], 0, noInl⟩, Eng.bodyOf Go.Proofs.Tryz.f173, [.tmp 2], 25⟩
noncomputable def sp173 : Eng.Spec NN := F173.spec [.v (.int .u64)] [.v (.int .i64)] 4000000
theorem good173 : Eng.Good prog 173 sp173 := Eng.good_fn (fn := f173) fits (by kernel_rfl) mixed (by kernel_rfl) .nil (by kernel_rfl) (by kernel_rfl) (by kernel_rfl) (by kernel_rfl) (by kernel_rfl) (by kernel_rfl) (by kernel_rfl) (by kernel_rfl) (by kernel_rfl)
noncomputable def F155 : Eng.Fn NN := ⟨⟨(Eng.look tys), (lookS [(173, sp173)]), Eng.look [], Eng.pinIds 0 [.v (.int .u64)], 0, noInl⟩, Eng.bodyOf Go.Proofs.Tryz.f155, [.tmp 2], 5⟩
noncomputable def sp155 : Eng.Spec NN := F155.spec [.v (.int .u64)] [.v (.int .i64)] 4000000
theorem good155 : Eng.Good prog 155 sp155 := Eng.good_fn (fn := f155) fits (by kernel_rfl) mixed (by kernel_rfl) (.cons good173 .nil) (by kernel_rfl) (by kernel_rfl) (by kernel_rfl) (by kernel_rfl) (by kernel_rfl) (by kernel_rfl) (by kernel_rfl) (by kernel_rfl) (by kernel_rfl)
noncomputable def F102 : Eng.Fn NN := ⟨⟨(Eng.look tys), (lookS [(155, sp155)]), Eng.look [], Eng.pinIds 0 [.v (.int .i64)], 0, noInl⟩, Eng.bodyOf Go.Proofs.Tryz.f102, [.tmp 2], 9⟩
noncomputable def sp102 : Eng.Spec NN := F102.spec [.v (.int .i64)] [.v (.int .i64)] 4000000
theorem good102 : Eng.Good prog 102 sp102 := Eng.good_fn (fn := f102) fits (by kernel_rfl) mixed (by kernel_rfl) (.cons good155 .nil) (by kernel_rfl) (by kernel_rfl) (by kernel_rfl) (by kernel_rfl) (by kernel_rfl) (by kernel_rfl) (by kernel_rfl) (by kernel_rfl) (by kernel_rfl)
noncomputable def F172 : Eng.Fn NN := ⟨⟨(Eng.look tys), (lookS []), Eng.look [(2, [0, 1, 2, 7, 8])], Eng.pinIds 0 [.v (.sl (.str)), .v (.str), .v (.bool)], 0, noInl⟩, Eng.bodyOf Go.Proofs.Tryz.f172, [.tmp 6], 40⟩
noncomputable def sp172 : Eng.Spec NN := F172.spec [.v (.sl (.str)), .v (.str), .v (.bool)] [.v (.int .i64)] 4000000
theorem good172 : Eng.Good prog 172 sp172 := Eng.good_fn (fn := f172) fits (by kernel_rfl) mixed (by kernel_rfl) .nil (by kernel_rfl) (by kernel_rfl) (by kernel_rfl) (by kernel_rfl) (by kernel_rfl) (by kernel_rfl) (by kernel_rfl) (by kernel_rfl) (by kernel_rfl)
noncomputable def F154 : Eng.Fn NN := ⟨⟨(Eng.look tys), (lookS [(172, sp172)]), Eng.look [], Eng.pinIds 0 [.v (.sl (.str)), .v (.str)], 0, noInl⟩, Eng.bodyOf Go.Proofs.Tryz.f154, [.tmp 4, .tmp 5], 23⟩
noncomputable def sp154 : Eng.Spec NN := F154.spec [.v (.sl (.str)), .v (.str)] [.v (.int .i64), .v (.bool)] 4000000
theorem good154 : Eng.Good prog 154 sp154 := Eng.good_fn (fn := f154) fits (by kernel_rfl) mixed (by kernel_rfl) (.cons good172 .nil) (by kernel_rfl) (by kernel_rfl) (by kernel_rfl) (by kernel_rfl) (by kernel_rfl) (by kernel_rfl) (by kernel_rfl) (by kernel_rfl) (by kernel_rfl)
noncomputable def F153 : Eng.Fn NN := ⟨⟨(Eng.look tys), (lookS [(154, sp154)]), Eng.look [], Eng.pinIds 0 [.v .str, .bc [.o 9 .str]], 0, noInl⟩, Eng.bodyOf Go.Proofs.Tryz.f153, [.tmp 3], 13⟩
noncomputable def sp153 : Eng.Spec NN := F153.spec [.v .str, .bc [.o 9 .str]] [.v (.int .i64)] 4000000
theorem good153 : Eng.Good prog 153 sp153 := Eng.good_fn (fn := f153) fits (by kernel_rfl) mixed (by kernel_rfl) (.cons good154 .nil) (by kernel_rfl) (by kernel_rfl) (by kernel_rfl) (by kernel_rfl) (by kernel_rfl) (by kernel_rfl) (by kernel_rfl) (by kernel_rfl) (by kernel_rfl)
noncomputable def F175 : Eng.Fn NN := ⟨⟨(Eng.look tys), (lookS []), Eng.look [(1, [0, 1, 2, 6]), (4, [0, 1, 2, 6, 7]), (6, [0, 1, 2, 6, 7])], Eng.pinIds 0 [.io 9 .str, .v (.int .i64), .v (.int .i64)], 0, noInl⟩, Eng.bodyOf Go.Proofs.Tryz.f175, [], 49⟩
noncomputable def sp175 : Eng.Spec NN := F175.spec [.io 9 .str, .v (.int .i64), .v (.int .i64)] [] 4000000
theorem good175 : Eng.Good prog 175 sp175 := Eng.good_fn (fn := f175) fits (by kernel_rfl) mixed (by kernel_rfl) .nil (by kernel_rfl) (by kernel_rfl) (by kernel_rfl) (by kernel_rfl) (by kernel_rfl) (by kernel_rfl) (by kernel_rfl) (by kernel_rfl) (by kernel_rfl)
noncomputable def F170 : Eng.Fn NN := ⟨⟨(Eng.look tys), (lookS [(175, sp175)]), Eng.look [(2, [0, 1, 2, 3, 8, 9]), (10, [0, 1, 2, 3, 8, 9, 10]), (15, [0, 1, 2, 3, 8, 9, 10, 11, 12]), (17, [0, 1, 2, 3, 8, 9, 10, 11]), (20, [0, 1, 2, 3, 10, 11])], Eng.pinIds 0 [.io 9 .str, .v (.int .i64), .v (.int .i64), .v (.int .i64)], 0, noInl⟩, Eng.bodyOf Go.Proofs.Tryz.f170, [], 134⟩
noncomputable def sp170 : Eng.Spec NN := F170.spec [.io 9 .str, .v (.int .i64), .v (.int .i64), .v (.int .i64)] [] 4000000
theorem good170 : Eng.Good prog 170 sp170 := Eng.good_fn (fn := f170) fits (by kernel_rfl) mixed (by kernel_rfl) (.cons good175 .nil) (by kernel_rfl) (by kernel_rfl) (by kernel_rfl) (by kernel_rfl) (by kernel_rfl) (by kernel_rfl) (by kernel_rfl) (by kernel_rfl) (by kernel_rfl)
noncomputable def F184 : Eng.Fn NN := ⟨⟨(Eng.look tys), (lookS []), Eng.look [(4, [0, 2]), (7, [0, 2])], Eng.pinIds 0 [.v (.int .u32)], 0, noInl⟩, Eng.bodyOf Go.Proofs.Tryz.f184, [.tmp 2], 19⟩
noncomputable def sp184 : Eng.Spec NN := F184.spec [.v (.int .u32)] [.v (.int .i64)] 4000000
theorem good184 : Eng.Good prog 184 sp184 := Eng.good_fn (fn := f184) fits (by kernel_rfl) mixed (by kernel_rfl) .nil (by kernel_rfl) (by kernel_rfl) (by kernel_rfl) (by kernel_rfl) (by kernel_rfl) (by kernel_rfl) (by kernel_rfl) (by kernel_rfl) (by kernel_rfl)
noncomputable def F171 : Eng.Fn NN := ⟨⟨(Eng.look tys), (lookS [(173, sp173), (184, sp184)]), Eng.look [], Eng.pinIds 0 [.v (.int .u64)], 0, noInl⟩, Eng.bodyOf Go.Proofs.Tryz.f171, [.tmp 2], 8⟩
noncomputable def sp171 : Eng.Spec NN := F171.spec [.v (.int .u64)] [.v (.int .i64)] 4000000
theorem good171 : Eng.Good prog 171 sp171 := Eng.good_fn (fn := f171) fits (by kernel_rfl) mixed (by kernel_rfl) (.cons good173 (.cons good184 .nil)) (by kernel_rfl) (by kernel_rfl) (by kernel_rfl) (by kernel_rfl) (by kernel_rfl) (by kernel_rfl) (by kernel_rfl) (by kernel_rfl) (by kernel_rfl)
noncomputable def F152 : Eng.Fn NN := ⟨⟨(Eng.look tys), (lookS [(170, sp170), (171, sp171)]), Eng.look [], Eng.pinIds 0 [.io 9 .str], 0, noInl⟩, Eng.bodyOf Go.Proofs.Tryz.f152, [], 11⟩
noncomputable def sp152 : Eng.Spec NN := Eng.sortSpec NN 9
theorem good152f : Eng.Good prog 152 (F152.spec [.io 9 .str] [] 4000000) := Eng.good_fn (fn := f152) fits (by kernel_rfl) mixed (by kernel_rfl) (.cons good170 (.cons good171 .nil)) (by kernel_rfl) (by kernel_rfl) (by kernel_rfl) (by kernel_rfl) (by kernel_rfl) (by kernel_rfl) (by kernel_rfl) (by kernel_rfl) (by kernel_rfl)
theorem good152 : Eng.Good prog 152 sp152 := Eng.good_sort sortCalls good152f (by kernel_rfl)
noncomputable def F101 : Eng.Fn NN := ⟨⟨(Eng.look tys), (lookS [(153, sp153), (152, sp152)]), Eng.look [(1, [0, 2, 3]), (3, [0, 2, 3, 4, 11, 12, 13]), (12, [2, 3, 7, 31, 32, 33])], Eng.pinIds 0 [.v (.sl (.str))], 0, noInl⟩, Eng.bodyOf Go.Proofs.Tryz.f101, [.cell 2 23, .tmp 3], 46⟩
noncomputable def sp101 : Eng.Spec NN := F101.spec [.v (.sl (.str))] [.own 9 (.str), .own 3 (.int .i64)] 4000000
theorem good101 : Eng.Good prog 101 sp101 := Eng.good_fn (fn := f101) fits (by kernel_rfl) mixed (by kernel_rfl) (.cons good153 (.cons good152 .nil)) (by kernel_rfl) (by kernel_rfl) (by kernel_rfl) (by kernel_rfl) (by kernel_rfl) (by kernel_rfl) (by kernel_rfl) (by kernel_rfl) (by kernel_rfl)
noncomputable def F56 : Eng.Fn NN := ⟨⟨(Eng.look tys), (lookS [(49, sp49), (50, sp50), (98, sp98), (102, sp102), (91, sp91), (101, sp101)]), Eng.look [(1, [0]), (4, [3, 4, 5, 23, 24, 25]), (12, [3, 5, 8, 9, 39, 40, 41])], Eng.pinIds 0 [.v (.sl (.str))], 0, noInl⟩, Eng.bodyOf Go.Proofs.Tryz.f56, [.tmp 2], 78⟩
noncomputable def sp56 : Eng.Spec NN := F56.spec [.v (.sl (.str))] [.own 5 (.int .u8)] 4000000
theorem good56 : Eng.Good prog 56 sp56 := Eng.good_fn (fn := f56) fits (by kernel_rfl) mixed (by kernel_rfl) (.cons good49 (.cons good50 (.cons good98 (.cons good102 (.cons good91 (.cons good101 .nil)))))) (by kernel_rfl) (by kernel_rfl) (by kernel_rfl) (by kernel_rfl) (by kernel_rfl) (by kernel_rfl) (by kernel_rfl) (by kernel_rfl) (by kernel_rfl)
noncomputable def F55 : Eng.Fn NN := ⟨⟨(Eng.look tys), (lookS [(56, sp56)]), Eng.look [(1, [0])], Eng.pinIds 0 [.bw (.nm 0)], 0, noInl⟩, Eng.bodyOf Go.Proofs.Tryz.f55, [.tmp 1], 5⟩
noncomputable def sp55 : Eng.Spec NN := F55.spec [.bw (.nm 0)] [.own 5 (.int .u8)] 4000000
theorem good55 : Eng.Good prog 55 sp55 := Eng.good_fn (fn := f55) fits (by kernel_rfl) mixed (by kernel_rfl) (.cons good56 .nil) (by kernel_rfl) (by kernel_rfl) (by kernel_rfl) (by kernel_rfl) (by kernel_rfl) (by kernel_rfl) (by kernel_rfl) (by kernel_rfl) (by kernel_rfl)
noncomputable def F100 : Eng.Fn NN := ⟨⟨(Eng.look tys), (lookS []), Eng.look [(1, [0]), (5, [0, 3, 13, 14])], Eng.pinIds 0 [.v (.sl (.int .i64))], 0, noInl⟩, Eng.bodyOf Go.Proofs.Tryz.f100, [.tmp 2], 32⟩
noncomputable def sp100 : Eng.Spec NN := F100.spec [.v (.sl (.int .i64))] [.own 2 (.int .i64)] 4000000
theorem good100 : Eng.Good prog 100 sp100 := Eng.good_fn (fn := f100) fits (by kernel_rfl) mixed (by kernel_rfl) .nil (by kernel_rfl) (by kernel_rfl) (by kernel_rfl) (by kernel_rfl) (by kernel_rfl) (by kernel_rfl) (by kernel_rfl) (by kernel_rfl) (by kernel_rfl)
noncomputable def F97 : Eng.Fn NN := ⟨⟨(Eng.look tys), (lookS []), Eng.look [(1, [0]), (3, [3, 6, 7, 8])], Eng.pinIds 0 [.v (.sl (.sl (.int .u8)))], 0, noInl⟩, Eng.bodyOf Go.Proofs.Tryz.f97, [.tmp 2], 17⟩
noncomputable def sp97 : Eng.Spec NN := F97.spec [.v (.sl (.sl (.int .u8)))] [.own 5 (.int .u8)] 4000000
theorem good97 : Eng.Good prog 97 sp97 := Eng.good_fn (fn := f97) fits (by kernel_rfl) mixed (by kernel_rfl) .nil (by kernel_rfl) (by kernel_rfl) (by kernel_rfl) (by kernel_rfl) (by kernel_rfl) (by kernel_rfl) (by kernel_rfl) (by kernel_rfl) (by kernel_rfl)
noncomputable def F96 : Eng.Fn NN := ⟨⟨(Eng.look tys), (lookS []), Eng.look [], Eng.pinIds 0 [.v (.int .u64), .v (.int .i64)], 0, noInl⟩, Eng.bodyOf Go.Proofs.Tryz.f96, [.tmp 4], 11⟩
noncomputable def sp96 : Eng.Spec NN := F96.spec [.v (.int .u64), .v (.int .i64)] [.v (.int .u64)] 4000000
theorem good96 : Eng.Good prog 96 sp96 := Eng.good_fn (fn := f96) fits (by kernel_rfl) mixed (by kernel_rfl) .nil (by kernel_rfl) (by kernel_rfl) (by kernel_rfl) (by kernel_rfl) (by kernel_rfl) (by kernel_rfl) (by kernel_rfl) (by kernel_rfl) (by kernel_rfl)
noncomputable def F94 : Eng.Fn NN := ⟨⟨(Eng.look tys), (lookS []), Eng.look [(3, [1, 3, 5])], Eng.pinIds 0 [.v (.nm 6)], 0, noInl⟩, Eng.bodyOf Go.Proofs.Tryz.f94, [.tmp 2], 18⟩
noncomputable def sp94 : Eng.Spec NN := F94.spec [.v (.nm 6)] [.v (.int .i64)] 4000000
theorem good94 : Eng.Good prog 94 sp94 := Eng.good_fn (fn := f94) fits (by kernel_rfl) mixed (by kernel_rfl) .nil (by kernel_rfl) (by kernel_rfl) (by kernel_rfl) (by kernel_rfl) (by kernel_rfl) (by kernel_rfl) (by kernel_rfl) (by kernel_rfl) (by kernel_rfl)
noncomputable def F149 : Eng.Fn NN := ⟨⟨(Eng.look tys), (lookS [(155, sp155)]), Eng.look [], Eng.pinIds 0 [.v (.int .u64)], 0, noInl⟩, Eng.bodyOf Go.Proofs.Tryz.f149, [.tmp 2], 8⟩
noncomputable def sp149 : Eng.Spec NN := F149.spec [.v (.int .u64)] [.v (.int .i64)] 4000000
theorem good149 : Eng.Good prog 149 sp149 := Eng.good_fn (fn := f149) fits (by kernel_rfl) mixed (by kernel_rfl) (.cons good155 .nil) (by kernel_rfl) (by kernel_rfl) (by kernel_rfl) (by kernel_rfl) (by kernel_rfl) (by kernel_rfl) (by kernel_rfl) (by kernel_rfl) (by kernel_rfl)
noncomputable def F95 : Eng.Fn NN := ⟨⟨(Eng.look tys), (lookS [(149, sp149), (96, sp96), (118, sp118), (92, sp92)]), Eng.look [(3, [0, 1, 4, 5, 12]), (8, [0, 1, 4, 5, 6, 7, 8, 12, 27, 28, 29])], Eng.pinIds 0 [.v (.int .i64), .v (.sl (.int .u64))], 0, noInl⟩, Eng.bodyOf Go.Proofs.Tryz.f95, [.cell 4 115], 59⟩
noncomputable def sp95 : Eng.Spec NN := F95.spec [.v (.int .i64), .v (.sl (.int .u64))] [.v (.nm 6)] 4000000
theorem good95 : Eng.Good prog 95 sp95 := Eng.good_fn (fn := f95) fits (by kernel_rfl) mixed (by kernel_rfl) (.cons good149 (.cons good96 (.cons good118 (.cons good92 .nil)))) (by kernel_rfl) (by kernel_rfl) (by kernel_rfl) (by kernel_rfl) (by kernel_rfl) (by kernel_rfl) (by kernel_rfl) (by kernel_rfl) (by kernel_rfl)
noncomputable def F93 : Eng.Fn NN := ⟨⟨(Eng.look tys), (lookS []), Eng.look [(1, [0]), (3, [0, 4, 10, 11, 12]), (7, [0, 4, 10, 11, 12]), (10, [4, 7, 29, 30, 31])], Eng.pinIds 0 [.v (.sl (.int .i64))], 0, noInl⟩, Eng.bodyOf Go.Proofs.Tryz.f93, [.tmp 2, .tmp 3], 47⟩
noncomputable def sp93 : Eng.Spec NN := F93.spec [.v (.sl (.int .i64))] [.v (.int .i64), .own 83 (.int .u64)] 4000000
theorem good93 : Eng.Good prog 93 sp93 := Eng.good_fn (fn := f93) fits (by kernel_rfl) mixed (by kernel_rfl) .nil (by kernel_rfl) (by kernel_rfl) (by kernel_rfl) (by kernel_rfl) (by kernel_rfl) (by kernel_rfl) (by kernel_rfl) (by kernel_rfl) (by kernel_rfl)
noncomputable def F52 : Eng.Fn NN := ⟨⟨(Eng.look tys), (lookS [(97, sp97), (98, sp98), (91, sp91), (92, sp92), (96, sp96), (94, sp94), (95, sp95), (93, sp93)]), Eng.look [(1, [0]), (6, [3, 4, 5, 6, 7, 21, 22, 23])], Eng.pinIds 0 [.v (.sl (.int .i64))], 0, noInl⟩, Eng.bodyOf Go.Proofs.Tryz.f52, [.tmp 2], 62⟩
noncomputable def sp52 : Eng.Spec NN := F52.spec [.v (.sl (.int .i64))] [.own 5 (.int .u8)] 4000000
theorem good52 : Eng.Good prog 52 sp52 := Eng.good_fn (fn := f52) fits (by kernel_rfl) mixed (by kernel_rfl) (.cons good97 (.cons good98 (.cons good91 (.cons good92 (.cons good96 (.cons good94 (.cons good95 (.cons good93 .nil)))))))) (by kernel_rfl) (by kernel_rfl) (by kernel_rfl) (by kernel_rfl) (by kernel_rfl) (by kernel_rfl) (by kernel_rfl) (by kernel_rfl) (by kernel_rfl)
noncomputable def F99 : Eng.Fn NN := ⟨⟨(Eng.look tys), (lookS [(52, sp52), (91, sp91), (92, sp92)]), Eng.look [(1, [0, 1, 2]), (3, [2, 7, 12, 13, 14])], Eng.pinIds 0 [.v (.int .u8), .v (.sl (.int .i64)), .v (.sl (.int .i64))], 0, noInl⟩, Eng.bodyOf Go.Proofs.Tryz.f99, [.tmp 6], 28⟩
noncomputable def sp99 : Eng.Spec NN := F99.spec [.v (.int .u8), .v (.sl (.int .i64)), .v (.sl (.int .i64))] [.own 5 (.int .u8)] 4000000
theorem good99 : Eng.Good prog 99 sp99 := Eng.good_fn (fn := f99) fits (by kernel_rfl) mixed (by kernel_rfl) (.cons good52 (.cons good91 (.cons good92 .nil))) (by kernel_rfl) (by kernel_rfl) (by kernel_rfl) (by kernel_rfl) (by kernel_rfl) (by kernel_rfl) (by kernel_rfl) (by kernel_rfl) (by kernel_rfl)
noncomputable def F54 : Eng.Fn NN := ⟨⟨(Eng.look tys), (lookS [(100, sp100), (99, sp99)]), Eng.look [(1, [0])], Eng.pinIds 0 [.v (.sl (.int .i64))], 0, noInl⟩, Eng.bodyOf Go.Proofs.Tryz.f54, [.tmp 2], 42⟩
noncomputable def sp54 : Eng.Spec NN := F54.spec [.v (.sl (.int .i64))] [.own 5 (.int .u8)] 4000000
theorem good54 : Eng.Good prog 54 sp54 := Eng.good_fn (fn := f54) fits (by kernel_rfl) mixed (by kernel_rfl) (.cons good100 (.cons good99 .nil)) (by kernel_rfl) (by kernel_rfl) (by kernel_rfl) (by kernel_rfl) (by kernel_rfl) (by kernel_rfl) (by kernel_rfl) (by kernel_rfl) (by kernel_rfl)
noncomputable def F53 : Eng.Fn NN := ⟨⟨(Eng.look tys), (lookS [(54, sp54)]), Eng.look [(1, [0])], Eng.pinIds 0 [.bw (.nm 0)], 0, noInl⟩, Eng.bodyOf Go.Proofs.Tryz.f53, [.tmp 1], 5⟩
noncomputable def sp53 : Eng.Spec NN := F53.spec [.bw (.nm 0)] [.own 5 (.int .u8)] 4000000
theorem good53 : Eng.Good prog 53 sp53 := Eng.good_fn (fn := f53) fits (by kernel_rfl) mixed (by kernel_rfl) (.cons good54 .nil) (by kernel_rfl) (by kernel_rfl) (by kernel_rfl) (by kernel_rfl) (by kernel_rfl) (by kernel_rfl) (by kernel_rfl) (by kernel_rfl) (by kernel_rfl)
noncomputable def F51 : Eng.Fn NN := ⟨⟨(Eng.look tys), (lookS [(52, sp52)]), Eng.look [(1, [0])], Eng.pinIds 0 [.bw (.nm 0)], 0, noInl⟩, Eng.bodyOf Go.Proofs.Tryz.f51, [.tmp 1], 5⟩
noncomputable def sp51 : Eng.Spec NN := F51.spec [.bw (.nm 0)] [.own 5 (.int .u8)] 4000000
theorem good51 : Eng.Good prog 51 sp51 := Eng.good_fn (fn := f51) fits (by kernel_rfl) mixed (by kernel_rfl) (.cons good52 .nil) (by kernel_rfl) (by kernel_rfl) (by kernel_rfl) (by kernel_rfl) (by kernel_rfl) (by kernel_rfl) (by kernel_rfl) (by kernel_rfl) (by kernel_rfl)
noncomputable def F48 : Eng.Fn NN := ⟨⟨(Eng.look tys), (lookS [(49, sp49), (50, sp50)]), Eng.look [(1, [0])], Eng.pinIds 0 [.bw (.nm 0)], 0, noInl⟩, Eng.bodyOf Go.Proofs.Tryz.f48, [.tmp 1], 6⟩
noncomputable def sp48 : Eng.Spec NN := F48.spec [.bw (.nm 0)] [.own 5 (.int .u8)] 4000000
theorem good48 : Eng.Good prog 48 sp48 := Eng.good_fn (fn := f48) fits (by kernel_rfl) mixed (by kernel_rfl) (.cons good49 (.cons good50 .nil)) (by kernel_rfl) (by kernel_rfl) (by kernel_rfl) (by kernel_rfl) (by kernel_rfl) (by kernel_rfl) (by kernel_rfl) (by kernel_rfl) (by kernel_rfl)
noncomputable def F38 : Eng.Fn NN := ⟨⟨(Eng.look tys), (lookS []), Eng.look [(11, [])], Eng.pinIds 0 [.v (.int .i64), .v (.int .i64)], 0, noInl⟩, Eng.bodyOf Go.Proofs.Tryz.f38, [.tmp 4], 29⟩
noncomputable def sp38 : Eng.Spec NN := F38.spec [.v (.int .i64), .v (.int .i64)] [.v (.bool)] 4000000
theorem good38 : Eng.Good prog 38 sp38 := Eng.good_fn (fn := f38) fits (by kernel_rfl) mixed (by kernel_rfl) .nil (by kernel_rfl) (by kernel_rfl) (by kernel_rfl) (by kernel_rfl) (by kernel_rfl) (by kernel_rfl) (by kernel_rfl) (by kernel_rfl) (by kernel_rfl)
noncomputable def F34 : Eng.Fn NN := Eng.inlFn (Eng.look tys) (lookS [(59, sp59), (57, sp57), (55, sp55), (53, sp53), (51, sp51), (48, sp48), (38, sp38)]) noInl Go.Proofs.Tryz.f34
theorem inl34 : Eng.InlOk prog 34 (Eng.inlOf F34) := Eng.inl_fn (fn := f34) fits (by kernel_rfl) mixed (by kernel_rfl) (.cons good59 (.cons good57 (.cons good55 (.cons good53 (.cons good51 (.cons good48 (.cons good38 .nil))))))) (li := []) (by kernel_rfl) .nil (by kernel_rfl) (by kernel_rfl) (by kernel_rfl) (by kernel_rfl) (by kernel_rfl) (by kernel_rfl)
noncomputable def F14 : Eng.Fn NN := ⟨⟨(Eng.look tys), (lookS [(38, sp38), (48, sp48), (51, sp51), (53, sp53), (55, sp55), (57, sp57), (59, sp59)]), Eng.look [(1, [1]), (3, [1, 3, 4]), (9, [1, 3, 4, 5])], Eng.pinIds 0 [.v (.nm 0)], 0, (lookI [(34, Eng.inlOf F34)])⟩, Eng.bodyOf Go.Proofs.Tryz.f14, [.tmp 2], 28⟩
noncomputable def sp14 : Eng.Spec NN := F14.spec [.v (.nm 0)] [.own 38 (.nm 1)] 4000000
theorem good14 : Eng.Good prog 14 sp14 := Eng.good_fnI (fn := f14) fits (by kernel_rfl) mixed (by kernel_rfl) (.cons good38 (.cons good48 (.cons good51 (.cons good53 (.cons good55 (.cons good57 (.cons good59 .nil))))))) (by kernel_rfl) (.cons inl34 .nil) (by kernel_rfl) (by kernel_rfl) (by kernel_rfl) (by kernel_rfl) (by kernel_rfl) (by kernel_rfl) (by kernel_rfl) (by kernel_rfl) (by kernel_rfl)
noncomputable def F16 : Eng.Fn NN := ⟨⟨(Eng.look tys), (lookS [(37, sp37), (36, sp36), (14, sp14)]), Eng.look [(4, [4, 13, 14, 15])], Eng.pinIds 0 [.v (.nm 0)], 0, noInl⟩, Eng.bodyOf Go.Proofs.Tryz.f16, [.tmp 2], 25⟩
noncomputable def sp16 : Eng.Spec NN := F16.spec [.v (.nm 0)] [.v (.int .i64)] 4000000
theorem good16 : Eng.Good prog 16 sp16 := Eng.good_fn (fn := f16) fits (by kernel_rfl) mixed (by kernel_rfl) (.cons good37 (.cons good36 (.cons good14 .nil))) (by kernel_rfl) (by kernel_rfl) (by kernel_rfl) (by kernel_rfl) (by kernel_rfl) (by kernel_rfl) (by kernel_rfl) (by kernel_rfl) (by kernel_rfl)
noncomputable def F33 : Eng.Fn NN := ⟨⟨(Eng.look tys), (lookS []), Eng.look [(4, [1, 3]), (6, [1]), (7, [1, 56, 57, 58]), (15, [1, 56, 57, 58])], Eng.pinIds 0 [.v (.nm 0)], 0, noInl⟩, Eng.bodyOf Go.Proofs.Tryz.f33, [.tmp 2], 92⟩
noncomputable def sp33 : Eng.Spec NN := F33.spec [.v (.nm 0)] [.v (.bool)] 4000000
theorem good33 : Eng.Good prog 33 sp33 := Eng.good_fn (fn := f33) fits (by kernel_rfl) mixed (by kernel_rfl) .nil (by kernel_rfl) (by kernel_rfl) (by kernel_rfl) (by kernel_rfl) (by kernel_rfl) (by kernel_rfl) (by kernel_rfl) (by kernel_rfl) (by kernel_rfl)
noncomputable def F11 : Eng.Fn NN := ⟨⟨(Eng.look tys), (lookS [(33, sp33), (38, sp38), (48, sp48), (51, sp51), (53, sp53), (55, sp55), (57, sp57), (59, sp59)]), Eng.look [(1, [1, 2]), (3, [1, 2])], Eng.pinIds 0 [.v (.nm 0), .v (.int .i64)], 0, (lookI [(34, Eng.inlOf F34)])⟩, Eng.bodyOf Go.Proofs.Tryz.f11, [.tmp 4, .tmp 5], 29⟩
noncomputable def sp11 : Eng.Spec NN := F11.spec [.v (.nm 0), .v (.int .i64)] [.own 5 (.int .u8), .v (.int .i64)] 4000000
theorem good11 : Eng.Good prog 11 sp11 := Eng.good_fnI (fn := f11) fits (by kernel_rfl) mixed (by kernel_rfl) (.cons good33 (.cons good38 (.cons good48 (.cons good51 (.cons good53 (.cons good55 (.cons good57 (.cons good59 .nil)))))))) (by kernel_rfl) (.cons inl34 .nil) (by kernel_rfl) (by kernel_rfl) (by kernel_rfl) (by kernel_rfl) (by kernel_rfl) (by kernel_rfl) (by kernel_rfl) (by kernel_rfl) (by kernel_rfl)
noncomputable def F13 : Eng.Fn NN := ⟨⟨(Eng.look tys), (lookS []), Eng.look [(4, [1, 3]), (6, [1, 3]), (7, [1, 3, 4]), (8, [1, 3, 4])], Eng.pinIds 0 [.v (.nm 0)], 0, noInl⟩, Eng.bodyOf Go.Proofs.Tryz.f13, [.tmp 2], 99⟩
noncomputable def sp13 : Eng.Spec NN := F13.spec [.v (.nm 0)] [.v (.bool)] 4000000
theorem good13 : Eng.Good prog 13 sp13 := Eng.good_fn (fn := f13) fits (by kernel_rfl) mixed (by kernel_rfl) .nil (by kernel_rfl) (by kernel_rfl) (by kernel_rfl) (by kernel_rfl) (by kernel_rfl) (by kernel_rfl) (by kernel_rfl) (by kernel_rfl) (by kernel_rfl)
noncomputable def F9 : Eng.Fn NN := ⟨⟨(Eng.look tys), (lookS []), Eng.look [(3, [1, 3, 4])], Eng.pinIds 0 [.v (.nm 0)], 0, noInl⟩, Eng.bodyOf Go.Proofs.Tryz.f9, [.tmp 2], 33⟩
noncomputable def sp9 : Eng.Spec NN := F9.spec [.v (.nm 0)] [.v (.bool)] 4000000
theorem good9 : Eng.Good prog 9 sp9 := Eng.good_fn (fn := f9) fits (by kernel_rfl) mixed (by kernel_rfl) .nil (by kernel_rfl) (by kernel_rfl) (by kernel_rfl) (by kernel_rfl) (by kernel_rfl) (by kernel_rfl) (by kernel_rfl) (by kernel_rfl) (by kernel_rfl)
theorem F37_run (n : Nat) (a0 : Cost) : F37.run [.v (.nm 1)] [.v (.int .i64)] n (a0, ()) =
 some ((a0.bytes, ()), ()) := by kernel_rfl
theorem F36_run (n : Nat) (a0 : Cost) (a1 : Cost) (a2 : Unit) : F36.run [.v (.nm 1), .v (.nm 1), .fv 37] [.v (.nm 1)] n (a0, a1, a2, ()) =
 (F37.run [PK.v (Ty.nm 1)] [RK.v (Ty.int .i64)] 4000000 (a1, ())).bind fun r0 =>
  bif decide ((0 : Int) ≤ r0.fst.fst) then
   (F37.run [PK.v (Ty.nm 1)] [RK.v (Ty.int .i64)] 4000000 (a0, ())).bind fun r1 =>
    bif decide (r1.fst.fst < (0 : Int)) then
     some ((a1, ()), ())
    else
     (F37.run [PK.v (Ty.nm 1)] [RK.v (Ty.int .i64)] 4000000 (a1, ())).bind fun r2 =>
      (F37.run [PK.v (Ty.nm 1)] [RK.v (Ty.int .i64)] 4000000 (a0, ())).bind fun r3 =>
       bif decide (r2.fst.fst < r3.fst.fst) then
        some ((a1, ()), ())
       else
        some ((a0, ()), ())
  else
   some ((a0, ()), ()) := by kernel_rfl
noncomputable def F91c1 (n : Nat) (x0 : Int) := F91.at [.v (.int .u64)] [.own 5 (.int .u8)] n 1 ⟨[.one (.int .u64 x0), U, U, U, U, U, U, U, U, U, U, U, U, U, U, U, U, U, U], []⟩
noncomputable def F91c2 (n : Nat) (x0 : Int) (x1 : List (Int)) := F91.at [.v (.int .u64)] [.own 5 (.int .u8)] n 2 ⟨[.one (.int .u64 x0), U, U, .one (.own 0), U, U, U, U, U, U, U, U, U, U, U, U, U, U, U], [(0, .row 5 (.int .u8) x1 [] false)]⟩
theorem F91_run (n : Nat) (a0 : Int) : F91.run [.v (.int .u64)] [.own 5 (.int .u8)] n (a0, ()) =
 F91c1 n (a0) := by kernel_rfl
theorem F91c1_eq (n x0 : _) : F91c1 (n + 1) x0 =
 F91c2 n (x0) ([]) := by kernel_rfl
theorem F91c2_eq (n x0 x1 : _) : F91c2 (n + 1) x0 x1 =
 bif decide ((128 : Int) ≤ x0) then
  if x1.length + (1 : Nat) ≤ lim then
   F91c2 n (x0 / (2 : Int) ^ min (Int.toNat (7 : Int)) IntKind.u64.bits) (x1 ++ [bits BinOp.or IntKind.u8 (IntKind.u8.wrap x0) (128 : Int)])
  else
   none
 else
  if x1.length + (1 : Nat) ≤ lim then
   some ((x1 ++ [IntKind.u8.wrap x0], ()), ())
  else
   none := by kernel_rfl
noncomputable def F104c1 (n : Nat) (x0 : Int) (x1 : Int) := F104.at [.v (.int .u64), .v (.int .i64)] [.own 5 (.int .u8)] n 1 ⟨[.one (.int .u64 x0), .one (.int .i64 x1), U, U, U, U, U, U, U, U, U, U, U, U, U, U, U, U, U, U, U, U, U, U, U, U, U, U, U], []⟩
noncomputable def F104c3 (n : Nat) (x0 : Int) (x1 : Int) := F104.at [.v (.int .u64), .v (.int .i64)] [.own 5 (.int .u8)] n 3 ⟨[.one (.int .u64 x0), .one (.int .i64 x1), U, U, U, U, U, U, U, U, U, U, U, U, U, U, U, U, U, U, U, U, U, U, U, U, U, U, U], []⟩
noncomputable def F104c5 (n : Nat) (x0 : Int) (x1 : Int) (x2 : Int) (x3 : List (Int)) := F104.at [.v (.int .u64), .v (.int .i64)] [.own 5 (.int .u8)] n 5 ⟨[.one (.int .u64 x0), U, U, U, U, .one (.own 0), U, U, U, U, U, U, U, U, U, .one (.int .i64 x1), .one (.int .i64 x2), U, U, U, U, U, U, U, U, U, U, U, U], [(0, .row 5 (.int .u8) x3 [] false)]⟩
theorem F104_run (n : Nat) (a0 : Int) (a1 : Int) : F104.run [.v (.int .u64), .v (.int .i64)] [.own 5 (.int .u8)] n (a0, a1, ()) =
 F104c1 n (a0) (a1) := by kernel_rfl
theorem F104c1_eq (n x0 x1 : _) : F104c1 (n + 1) x0 x1 =
 bif decide (x1 < (1 : Int)) then
  some (([], ()), ())
 else
  bif decide ((8 : Int) < x1) then
   some (([], ()), ())
  else
   F104c3 n (x0) (x1) := by kernel_rfl
theorem F104c3_eq (n x0 x1 : _) : F104c3 (n + 1) x0 x1 =
 if (0 : Int) ≤ x1 then
  if x1 ≤ (↑lim : Int) then
   F104c5 n (x0) (x1) ((0 : Int)) (List.replicate x1.toNat (0 : Int))
  else
   none
 else
  none := by kernel_rfl
theorem F104c5_eq (n x0 x1 x2 x3 : _) : F104c5 (n + 1) x0 x1 x2 x3 =
 bif decide (x2 < x1) then
  if (0 : Int) ≤ IntKind.i64.wrap ((8 : Int) * x2) then
   if (0 : Int) ≤ x2 then
    if x2 < (↑x3.length : Int) then
     F104c5 n (x0) (x1) (IntKind.i64.wrap (x2 + (1 : Int))) (x3.set x2.toNat (IntKind.u8.wrap (x0 / (2 : Int) ^ min (IntKind.i64.wrap ((8 : Int) * x2)).toNat IntKind.u64.bits)))
    else
     none
   else
    none
  else
   none
 else
  some ((x3, ()), ()) := by kernel_rfl
noncomputable def F151c1 (n : Nat) (x0 : Int) (x1 : Int) (x2 : List (Int)) (x3 : Int) (x4 : Int) := F151.at [.v (.int .u64), .bw (.int .i64), .bw (.int .i64), .bc [.o 5 (.int .u8)]] [] n 1 ⟨[.one (.int .u64 x0), U, .one (.bptr 902000 0), .one (.bptr 903000 0), U, .one (.int .i64 x1), U, U, U, U, U, U, U, U, U, U, U, U, U, U, U, U, U, U, U, U, U, U, U, U, U, U, U, U, U, U, U, U, U, U], [(2, .row 5 (.int .u8) x2 [] false), (901000, .whole (.int .i64) x3 []), (902000, .whole (.int .i64) x4 []), (903000, .cells [.own 2])]⟩
theorem F151_run (n : Nat) (a0 : Int) (a1 : Int) (a2 : Int) (a3 : List (Int) × Unit) : F151.run [.v (.int .u64), .bw (.int .i64), .bw (.int .i64), .bc [.o 5 (.int .u8)]] [] n (a0, a1, a2, a3, ()) =
 F151c1 n (a0) (a1) (a3.fst) (a1) (a2) := by kernel_rfl
theorem F151c1_eq (n x0 x1 x2 x3 x4 : _) : F151c1 (n + 1) x0 x1 x2 x3 x4 =
 bif decide ((0 : Int) < x1) then
  if (0 : Int) ≤ IntKind.i64.wrap (x4.tdiv (8 : Int)) then
   if IntKind.i64.wrap (x4.tdiv (8 : Int)) < (↑x2.length : Int) then
    if (0 : Int) ≤ imin (IntKind.i64.wrap ((8 : Int) - x4.tmod (8 : Int))) x1 then
     if (0 : Int) ≤ x4.tmod (8 : Int) then
      if (0 : Int) ≤ IntKind.i64.wrap (x4.tdiv (8 : Int)) then
       if IntKind.i64.wrap (x4.tdiv (8 : Int)) < (↑x2.length : Int) then
        if (0 : Int) ≤ imin (IntKind.i64.wrap ((8 : Int) - x4.tmod (8 : Int))) x1 then
         F151c1 n (x0 / (2 : Int) ^ min (imin (IntKind.i64.wrap ((8 : Int) - x4.tmod (8 : Int))) x1).toNat IntKind.u64.bits) (IntKind.i64.wrap (x1 - imin (IntKind.i64.wrap ((8 : Int) - x4.tmod (8 : Int))) x1)) (x2.set (IntKind.i64.wrap (x4.tdiv (8 : Int))).toNat (bits BinOp.or IntKind.u8 (x2.getD (IntKind.i64.wrap (x4.tdiv (8 : Int))).toNat (0 : Int)) (IntKind.u8.wrap (IntKind.u8.wrap (bits BinOp.and IntKind.u64 x0 (IntKind.u64.wrap (IntKind.u64.wrap ((1 : Int) * (2 : Int) ^ min (imin (IntKind.i64.wrap ((8 : Int) - x4.tmod (8 : Int))) x1).toNat IntKind.u64.bits) - (1 : Int)))) * (2 : Int) ^ min (x4.tmod (8 : Int)).toNat IntKind.u8.bits)))) (x3) (IntKind.i64.wrap (x4 + imin (IntKind.i64.wrap ((8 : Int) - x4.tmod (8 : Int))) x1))
        else
         none
       else
        none
      else
       none
     else
      none
    else
     none
   else
    none
  else
   none
 else
  some ((), (x3, (x4, ((x2, ()), ())))) := by kernel_rfl
theorem F150_run (n : Nat) (a0 : Int) (a1 : Int) : F150.run [.v (.int .i64), .v (.int .i64)] [.v (.bool)] n (a0, a1, ()) =
 bif decide ((0 : Int) ≤ a0) then
  bif decide (a0 ≤ (1048576 : Int)) then
   bif decide ((0 : Int) ≤ a1) then
    some ((decide (a1 ≤ (64 : Int)), ()), ())
   else
    some ((false, ()), ())
  else
   some ((false, ()), ())
 else
  some ((false, ()), ()) := by kernel_rfl
theorem F118_run (n : Nat) (a0 : Int) (a1 : Int) : F118.run [.v (.int .i64), .v (.int .i64)] [.v (.int .i64)] n (a0, a1, ()) =
 (F150.run [PK.v (Ty.int .i64), PK.v (Ty.int .i64)] [RK.v Ty.bool] 4000000 (a0, a1, ())).bind fun r0 =>
  bif !r0.fst.fst then
   some (((0 : Int), ()), ())
  else
   some ((IntKind.i64.wrap ((IntKind.i64.wrap (IntKind.i64.wrap (a0 * a1) + (7 : Int))).tdiv (8 : Int)), ()), ()) := by kernel_rfl
noncomputable def F98c1 (n : Nat) (x0 : List (Int)) (x1 : Int) := F98.at [.v (.sl (.int .u64)), .v (.int .i64)] [.own 5 (.int .u8)] n 1 ⟨[.one (.data (.sl (.int .u64)) x0 []), U, U, .one (.bptr 0 0), U, U, U, U, U, U, U, U, U, U, U, U, U, U, U, U, U, U, U, U, U, U, U, U, U, U, U, U, U], [(0, .whole (.int .i64) x1 [])]⟩
noncomputable def F98c7 (n : Nat) (x0 : List (Int)) (x1 : Int) (x2 : Int) (x3 : Int) (x4 : Int) (x5 : List (Int)) := F98.at [.v (.sl (.int .u64)), .v (.int .i64)] [.own 5 (.int .u8)] n 7 ⟨[.one (.data (.sl (.int .u64)) x0 []), U, U, U, U, .one (.bptr 0 0), U, .one (.fn 151 [1, 2, 0]), U, U, U, U, U, U, U, U, U, U, U, U, U, .one (.int .i64 x1), .one (.int .i64 x2), U, U, U, U, U, U, U, U, U, U], [(0, .cells [.own 3]), (1, .whole (.int .i64) x3 []), (2, .whole (.int .i64) x4 []), (3, .row 5 (.int .u8) x5 [] false)]⟩
theorem F98_run (n : Nat) (a0 : List (Int)) (a1 : Int) : F98.run [.v (.sl (.int .u64)), .v (.int .i64)] [.own 5 (.int .u8)] n (a0, a1, ()) =
 F98c1 n (a0) (a1) := by kernel_rfl
theorem F98c1_eq (n x0 x1 : _) : F98c1 (n + 1) x0 x1 =
 (F150.run [PK.v (Ty.int .i64), PK.v (Ty.int .i64)] [RK.v Ty.bool] 4000000 ((↑x0.length : Int), x1, ())).bind fun r0 =>
  bif !r0.fst.fst then
   some (([], ()), ())
  else
   (F118.run [PK.v (Ty.int .i64), PK.v (Ty.int .i64)] [RK.v (Ty.int .i64)] 4000000 ((↑x0.length : Int), x1, ())).bind fun r1 =>
    if (0 : Int) ≤ r1.fst.fst then
     if r1.fst.fst ≤ (↑lim : Int) then
      F98c7 n (x0) ((↑x0.length : Int)) ((0 : Int)) (x1) ((0 : Int)) (List.replicate (Int.toNat r1.fst.fst) (0 : Int))
     else
      none
    else
     none := by kernel_rfl
theorem F98c7_eq (n x0 x1 x2 x3 x4 x5 : _) : F98c7 (n + 1) x0 x1 x2 x3 x4 x5 =
 bif decide (x2 < x1) then
  if (0 : Int) ≤ x2 then
   if x2 < (↑x0.length : Int) then
    (F151.run [PK.v (Ty.int IntKind.u64), PK.bw (Ty.int .i64), PK.bw (Ty.int .i64), PK.bc [CK.o 5 (Ty.int IntKind.u8)]] [] 4000000 (x0.getD x2.toNat (0 : Int), x3, x4, (x5, ()), ())).bind fun r2 =>
     F98c7 n (x0) (x1) (IntKind.i64.wrap (x2 + (1 : Int))) (r2.snd.fst) (r2.snd.snd.fst) (r2.snd.snd.snd.fst.fst)
   else
    none
  else
   none
 else
  some ((x5, ()), ()) := by kernel_rfl
noncomputable def F60c1 (n : Nat) (x0 : Vec) := F60.at [.v (.nm 0)] [.own 5 (.int .u8)] n 1 ⟨[U, .one (.bptr 0 0), U, U, U, U, U, U, U, U, U, U, U, U, U, U, U, U, U, U, U, U, U, U, U, U, U, U, U, U, U, U, U, U, U, U, U, U, U, U, U, U, U, U, U, U, U, U, U, U, U, U, U, U, U, U, U, U, U, U, U, U, U, U, U, U, U, U, U, U], [(0, .whole (.nm 0) x0 [])]⟩
noncomputable def F60c5 (n : Nat) (x0 : List (Int)) (x1 : Int) (x2 : Int) (x3 : List (Int)) := F60.at [.v (.nm 0)] [.own 5 (.int .u8)] n 5 ⟨[U, U, U, .one (.own 0), U, U, U, U, U, U, U, U, U, U, U, U, U, U, U, U, U, .one (.data (.sl (.int .i64)) x0 []), .one (.int .i64 x1), .one (.int .i64 x2), U, U, U, U, U, U, U, U, U, U, U, U, U, U, U, U, U, U, U, U, U, U, U, U, U, U, U, U, U, U, U, U, U, U, U, U, U, U, U, U, U, U, U, U, U, U], [(0, .row 83 (.int .u64) x3 [] false)]⟩
noncomputable def F60c13 (n : Nat) (x0 : List (Int)) (x1 : Int) (x2 : Int) (x3 : List (Int)) := F60.at [.v (.nm 0)] [.own 5 (.int .u8)] n 13 ⟨[U, U, U, U, U, U, .one (.own 0), U, U, U, U, U, U, U, U, U, U, U, U, U, U, U, U, U, U, U, U, U, U, U, U, U, U, U, U, U, U, U, U, .one (.data (.sl (.int .i64)) x0 []), .one (.int .i64 x1), .one (.int .i64 x2), U, U, U, U, U, U, U, U, U, U, U, U, U, U, U, U, U, U, U, U, U, U, U, U, U, U, U, U], [(0, .row 5 (.int .u8) x3 [] false)]⟩
noncomputable def F60c20 (n : Nat) (x0 : List (List Int)) (x1 : Int) (x2 : Int) (x3 : List (Int)) := F60.at [.v (.nm 0)] [.own 5 (.int .u8)] n 20 ⟨[U, U, U, U, U, U, U, U, U, .one (.own 0), U, U, U, U, U, U, U, U, U, U, U, U, U, U, U, U, U, U, U, U, U, U, U, U, U, U, U, U, U, U, U, U, U, U, U, U, U, U, U, U, U, U, U, .one (.data (.sl .str) x0 []), .one (.int .i64 x1), .one (.int .i64 x2), U, U, U, U, U, U, U, U, U, U, U, U, U, U], [(0, .row 5 (.int .u8) x3 [] false)]⟩
theorem F60_run (n : Nat) (a0 : Vec) : F60.run [.v (.nm 0)] [.own 5 (.int .u8)] n (a0, ()) =
 F60c1 n (a0) := by kernel_rfl
theorem F60c1_eq (n x0 : _) : F60c1 (n + 1) x0 =
 bif decide (x0.f_Type = (1 : Int)) then
  if (↑x0.ints.length : Int) ≤ (↑lim : Int) then
   F60c5 n (x0.ints) ((↑x0.ints.length : Int)) ((0 : Int)) (List.replicate (↑x0.ints.length : Int).toNat (0 : Int))
  else
   none
 else
  bif decide (x0.f_Type = (2 : Int)) then
   F60c13 n (x0.ints) ((↑x0.ints.length : Int)) ((0 : Int)) ([])
  else
   F60c20 n (x0.texts) ((↑x0.texts.length : Int)) ((0 : Int)) ([]) := by kernel_rfl
theorem F60c5_eq (n x0 x1 x2 x3 : _) : F60c5 (n + 1) x0 x1 x2 x3 =
 bif decide (x2 < x1) then
  if (0 : Int) ≤ x2 then
   if x2 < (↑x0.length : Int) then
    if (0 : Int) ≤ x2 then
     if x2 < (↑x3.length : Int) then
      F60c5 n (x0) (x1) (IntKind.i64.wrap (x2 + (1 : Int))) (x3.set x2.toNat (IntKind.u64.wrap (x0.getD x2.toNat (0 : Int))))
     else
      none
    else
     none
   else
    none
  else
   none
 else
  (F98.run [PK.v (Ty.int IntKind.u64).sl, PK.v (Ty.int .i64)] [RK.own 5 (Ty.int IntKind.u8)] 4000000 (x3, (1 : Int), ())).bind fun r0 =>
   some ((r0.fst.fst, ()), ()) := by kernel_rfl
theorem F60c13_eq (n x0 x1 x2 x3 : _) : F60c13 (n + 1) x0 x1 x2 x3 =
 bif decide (x2 < x1) then
  if (0 : Int) ≤ x2 then
   if x2 < (↑x0.length : Int) then
    (F104.run [PK.v (Ty.int IntKind.u64), PK.v (Ty.int .i64)] [RK.own 5 (Ty.int IntKind.u8)] 4000000 (IntKind.u64.wrap (x0.getD x2.toNat (0 : Int)), (8 : Int), ())).bind fun r1 =>
     if x3.length + List.length r1.fst.fst ≤ lim then
      F60c13 n (x0) (x1) (IntKind.i64.wrap (x2 + (1 : Int))) (x3 ++ r1.fst.fst)
     else
      none
   else
    none
  else
   none
 else
  some ((x3, ()), ()) := by kernel_rfl
theorem F60c20_eq (n x0 x1 x2 x3 : _) : F60c20 (n + 1) x0 x1 x2 x3 =
 bif decide (x2 < x1) then
  if (0 : Int) ≤ x2 then
   if x2 < (↑x0.length : Int) then
    (F91.run [PK.v (Ty.int IntKind.u64)] [RK.own 5 (Ty.int IntKind.u8)] 4000000 (IntKind.u64.wrap (↑(x0.getD x2.toNat []).length : Int), ())).bind fun r2 =>
     if x3.length + List.length r2.fst.fst ≤ lim then
      if (x3 ++ r2.fst.fst).length + (x0.getD x2.toNat []).length ≤ lim then
       F60c20 n (x0) (x1) (IntKind.i64.wrap (x2 + (1 : Int))) (x3 ++ r2.fst.fst ++ x0.getD x2.toNat [])
      else
       none
     else
      none
   else
    none
  else
   none
 else
  some ((x3, ()), ()) := by kernel_rfl
noncomputable def F59c1 (n : Nat) (x0 : Vec) := F59.at [.bw (.nm 0)] [.own 5 (.int .u8)] n 1 ⟨[.one (.bptr 900000 0), U, U, U], [(900000, .whole (.nm 0) x0 [])]⟩
theorem F59_run (n : Nat) (a0 : Vec) : F59.run [.bw (.nm 0)] [.own 5 (.int .u8)] n (a0, ()) =
 F59c1 n (a0) := by kernel_rfl
theorem F59c1_eq (n x0 : _) : F59c1 (n + 1) x0 =
 (F60.run [PK.v (Ty.nm 0)] [RK.own 5 (Ty.int IntKind.u8)] 4000000 (x0, ())).bind fun r0 =>
  some ((r0.fst.fst, ()), (x0, ())) := by kernel_rfl
noncomputable def F156c2 (n : Nat) (x0 : List Int) (x1 : List Int) (x2 : Int) := F156.at [.v (.str), .v (.str)] [.v (.int .i64)] n 2 ⟨[.one (.str x0), .one (.str x1), U, U, U, .one (.int .i64 x2), U, U, U, U, U, U, U, U, U, U, U, U, U, U, U, U, U, U, U, U, U, U], []⟩
theorem F156_run (n : Nat) (a0 : List Int) (a1 : List Int) : F156.run [.v (.str), .v (.str)] [.v (.int .i64)] n (a0, a1, ()) =
 F156c2 n (a0) (a1) ((0 : Int)) := by kernel_rfl
theorem F156c2_eq (n x0 x1 x2 : _) : F156c2 (n + 1) x0 x1 x2 =
 bif decide (x2 < (↑x0.length : Int)) then
  bif decide (x2 < (↑x1.length : Int)) then
   if (0 : Int) ≤ x2 then
    if x2 < (↑x0.length : Int) then
     if (0 : Int) ≤ x2 then
      if x2 < (↑x1.length : Int) then
       bif decide (x0.getD x2.toNat (0 : Int) = x1.getD x2.toNat (0 : Int)) then
        F156c2 n (x0) (x1) (IntKind.i64.wrap (x2 + (1 : Int)))
       else
        some ((x2, ()), ())
      else
       none
     else
      none
    else
     none
   else
    none
  else
   some ((x2, ()), ())
 else
  some ((x2, ()), ()) := by kernel_rfl
theorem F103_run (n : Nat) (a0 : List (List Int)) (a1 : Int) : F103.run [.v (.sl (.str)), .v (.int .i64)] [.v (.int .i64)] n (a0, a1, ()) =
 bif decide (a1.tmod (16 : Int) = (0 : Int)) then
  some (((0 : Int), ()), ())
 else
  if (0 : Int) ≤ IntKind.i64.wrap (a1 - (1 : Int)) then
   if IntKind.i64.wrap (a1 - (1 : Int)) < (↑a0.length : Int) then
    if (0 : Int) ≤ a1 then
     if a1 < (↑a0.length : Int) then
      (F156.run [PK.v Ty.str, PK.v Ty.str] [RK.v (Ty.int .i64)] 4000000 (a0.getD (IntKind.i64.wrap (a1 - (1 : Int))).toNat [], a0.getD a1.toNat [], ())).bind fun r0 =>
       some ((r0.fst.fst, ()), ())
     else
      none
    else
     none
   else
    none
  else
   none := by kernel_rfl
noncomputable def F58c1 (n : Nat) (x0 : List (List Int)) := F58.at [.v (.sl (.str))] [.own 5 (.int .u8)] n 1 ⟨[.one (.data (.sl .str) x0 []), U, U, U, U, U, U, U, U, U, U, U, U, U, U, U, U, U, U, U, U, U, U, U, U, U, U, U, U, U, U, U, U, U, U, U, U], []⟩
noncomputable def F58c3 (n : Nat) (x0 : List (List Int)) (x1 : List (List Int)) (x2 : Int) (x3 : Int) (x4 : List (Int)) := F58.at [.v (.sl (.str))] [.own 5 (.int .u8)] n 3 ⟨[.one (.data (.sl .str) x0 []), U, U, .one (.own 0), U, U, U, .one (.data (.sl .str) x1 []), .one (.int .i64 x2), .one (.int .i64 x3), U, U, U, U, U, U, U, U, U, U, U, U, U, U, U, U, U, U, U, U, U, U, U, U, U, U, U], [(0, .row 5 (.int .u8) x4 [] false)]⟩
theorem F58_run (n : Nat) (a0 : List (List Int)) : F58.run [.v (.sl (.str))] [.own 5 (.int .u8)] n (a0, ()) =
 F58c1 n (a0) := by kernel_rfl
theorem F58c1_eq (n x0 : _) : F58c1 (n + 1) x0 =
 F58c3 n (x0) (x0) ((↑x0.length : Int)) ((0 : Int)) ([]) := by kernel_rfl
theorem F58c3_eq (n x0 x1 x2 x3 x4 : _) : F58c3 (n + 1) x0 x1 x2 x3 x4 =
 bif decide (x3 < x2) then
  if (0 : Int) ≤ x3 then
   if x3 < (↑x1.length : Int) then
    (F103.run [PK.v Ty.str.sl, PK.v (Ty.int .i64)] [RK.v (Ty.int .i64)] 4000000 (x0, x3, ())).bind fun r0 =>
     (F91.run [PK.v (Ty.int IntKind.u64)] [RK.own 5 (Ty.int IntKind.u8)] 4000000 (IntKind.u64.wrap r0.fst.fst, ())).bind fun r1 =>
      if x4.length + List.length r1.fst.fst ≤ lim then
       (F91.run [PK.v (Ty.int IntKind.u64)] [RK.own 5 (Ty.int IntKind.u8)] 4000000 (IntKind.u64.wrap (IntKind.i64.wrap ((↑(x1.getD x3.toNat []).length : Int) - r0.fst.fst)), ())).bind fun r2 =>
        if (x4 ++ r1.fst.fst).length + List.length r2.fst.fst ≤ lim then
         if (0 : Int) ≤ r0.fst.fst then
          if r0.fst.fst ≤ (↑(x1.getD x3.toNat []).length : Int) then
           if (↑(x1.getD x3.toNat []).length : Int) ≤ (↑(x1.getD x3.toNat []).length : Int) then
            if (x4 ++ r1.fst.fst ++ r2.fst.fst).length + (List.drop (Int.toNat r0.fst.fst) (List.take (↑(x1.getD x3.toNat []).length : Int).toNat (x1.getD x3.toNat []))).length ≤ lim then
             F58c3 n (x0) (x1) (x2) (IntKind.i64.wrap (x3 + (1 : Int))) (x4 ++ r1.fst.fst ++ r2.fst.fst ++ List.drop (Int.toNat r0.fst.fst) (List.take (↑(x1.getD x3.toNat []).length : Int).toNat (x1.getD x3.toNat [])))
            else
             none
           else
            none
          else
           none
         else
          none
        else
         none
      else
       none
   else
    none
  else
   none
 else
  some ((x4, ()), ()) := by kernel_rfl
noncomputable def F57c1 (n : Nat) (x0 : Vec) := F57.at [.bw (.nm 0)] [.own 5 (.int .u8)] n 1 ⟨[.one (.bptr 900000 0), U, U, U, U], [(900000, .whole (.nm 0) x0 [])]⟩
theorem F57_run (n : Nat) (a0 : Vec) : F57.run [.bw (.nm 0)] [.own 5 (.int .u8)] n (a0, ()) =
 F57c1 n (a0) := by kernel_rfl
theorem F57c1_eq (n x0 : _) : F57c1 (n + 1) x0 =
 (F58.run [PK.v Ty.str.sl] [RK.own 5 (Ty.int IntKind.u8)] 4000000 (x0.texts, ())).bind fun r0 =>
  some ((r0.fst.fst, ()), (x0, ())) := by kernel_rfl
theorem F92_run (n : Nat) (a0 : Int) : F92.run [.v (.int .i64)] [.v (.int .u64)] n (a0, ()) =
 some ((bits BinOp.xor IntKind.u64 (IntKind.u64.wrap (IntKind.u64.wrap a0 * (2 : Int) ^ min (Int.toNat (1 : Int)) IntKind.u64.bits)) (IntKind.u64.wrap (a0 / (2 : Int) ^ min (Int.toNat (63 : Int)) IntKind.i64.bits)), ()), ()) := by kernel_rfl
noncomputable def F49c1 (n : Nat) (x0 : List (Run)) := F49.at [.v (.sl (.nm 5))] [.own 5 (.int .u8)] n 1 ⟨[.one (.data (.sl (.nm 5)) x0 []), U, U, U, U, U, U, U, U, U, U, U, U, U, U, U, U, U, U, U, U, U, U, U, U, U, U, U, U, U, U, U, U, U, U], []⟩
noncomputable def F49c4 (n : Nat) (x0 : Int) (x1 : List (Run)) (x2 : Int) (x3 : Int) (x4 : List (Int)) := F49.at [.v (.sl (.nm 5))] [.own 5 (.int .u8)] n 4 ⟨[U, U, U, .one (.own 0), .one (.int .i64 x0), U, U, U, U, U, U, .one (.data (.sl (.nm 5)) x1 []), .one (.int .i64 x2), .one (.int .i64 x3), U, U, U, U, U, U, U, U, U, U, U, U, U, U, U, U, U, U, U, U, U], [(0, .row 5 (.int .u8) x4 [] false)]⟩
theorem F49_run (n : Nat) (a0 : List (Run)) : F49.run [.v (.sl (.nm 5))] [.own 5 (.int .u8)] n (a0, ()) =
 F49c1 n (a0) := by kernel_rfl
theorem F49c1_eq (n x0 : _) : F49c1 (n + 1) x0 =
 (F91.run [PK.v (Ty.int IntKind.u64)] [RK.own 5 (Ty.int IntKind.u8)] 4000000 (IntKind.u64.wrap (↑x0.length : Int), ())).bind fun r0 =>
  F49c4 n ((0 : Int)) (x0) ((↑x0.length : Int)) ((0 : Int)) (r0.fst.fst) := by kernel_rfl
theorem F49c4_eq (n x0 x1 x2 x3 x4 : _) : F49c4 (n + 1) x0 x1 x2 x3 x4 =
 bif decide (x3 < x2) then
  if (0 : Int) ≤ x3 then
   if x3 < (↑x1.length : Int) then
    (F92.run [PK.v (Ty.int .i64)] [RK.v (Ty.int IntKind.u64)] 4000000 (IntKind.i64.wrap ((x1.getD x3.toNat zRun).value - x0), ())).bind fun r1 =>
     (F91.run [PK.v (Ty.int IntKind.u64)] [RK.own 5 (Ty.int IntKind.u8)] 4000000 (r1.fst.fst, ())).bind fun r2 =>
      if x4.length + List.length r2.fst.fst ≤ lim then
       (F91.run [PK.v (Ty.int IntKind.u64)] [RK.own 5 (Ty.int IntKind.u8)] 4000000 (IntKind.u64.wrap (x1.getD x3.toNat zRun).count, ())).bind fun r3 =>
        if (x4 ++ r2.fst.fst).length + List.length r3.fst.fst ≤ lim then
         F49c4 n ((x1.getD x3.toNat zRun).value) (x1) (x2) (IntKind.i64.wrap (x3 + (1 : Int))) (x4 ++ r2.fst.fst ++ r3.fst.fst)
        else
         none
      else
       none
   else
    none
  else
   none
 else
  some ((x4, ()), ()) := by kernel_rfl
noncomputable def F50c1 (n : Nat) (x0 : List (Int)) := F50.at [.v (.sl (.int .i64))] [.own 110 (.nm 5)] n 1 ⟨[.one (.data (.sl (.int .i64)) x0 []), U, U, U, U, U, U, U, U, U, U, U, U, U, U, U, U, U, U, U, U, U, U, U, U, U, U, U, U, U, U, U, U, U, U, U, U, U, U, U, U], []⟩
noncomputable def F50c3 (n : Nat) (x0 : List (Int)) (x1 : List (Int)) (x2 : Int) (x3 : Int) (x4 : List (Run)) := F50.at [.v (.sl (.int .i64))] [.own 110 (.nm 5)] n 3 ⟨[.one (.data (.sl (.int .i64)) x0 []), U, U, .one (.own 0), U, U, .one (.data (.sl (.int .i64)) x1 []), .one (.int .i64 x2), .one (.int .i64 x3), U, U, U, U, U, U, U, U, U, U, U, U, U, U, U, U, U, U, U, U, U, U, U, U, U, U, U, U, U, U, U, U], [(0, .row 110 (.nm 5) x4 [] false)]⟩
noncomputable def F50c7 (n : Nat) (x0 : List (Int)) (x1 : Int) (x2 : List (Int)) (x3 : Int) (x4 : Int) (x5 : List (Run)) := F50.at [.v (.sl (.int .i64))] [.own 110 (.nm 5)] n 7 ⟨[.one (.data (.sl (.int .i64)) x0 []), U, U, .one (.own 0), U, .one (.int .i64 x1), .one (.data (.sl (.int .i64)) x2 []), .one (.int .i64 x3), .one (.int .i64 x4), U, U, U, U, U, U, U, U, U, U, U, U, U, U, U, U, U, U, U, U, U, U, U, U, U, U, U, U, U, U, U, U], [(0, .row 110 (.nm 5) x5 [] false)]⟩
theorem F50_run (n : Nat) (a0 : List (Int)) : F50.run [.v (.sl (.int .i64))] [.own 110 (.nm 5)] n (a0, ()) =
 F50c1 n (a0) := by kernel_rfl
theorem F50c1_eq (n x0 : _) : F50c1 (n + 1) x0 =
 F50c3 n (x0) (x0) ((↑x0.length : Int)) ((0 : Int)) ([]) := by kernel_rfl
theorem F50c3_eq (n x0 x1 x2 x3 x4 : _) : F50c3 (n + 1) x0 x1 x2 x3 x4 =
 bif decide (x3 < x2) then
  if (0 : Int) ≤ x3 then
   if x3 < (↑x1.length : Int) then
    bif decide ((0 : Int) < x3) then
     if (0 : Int) ≤ IntKind.i64.wrap (x3 - (1 : Int)) then
      if IntKind.i64.wrap (x3 - (1 : Int)) < (↑x0.length : Int) then
       bif decide (x1.getD x3.toNat (0 : Int) = x0.getD (IntKind.i64.wrap (x3 - (1 : Int))).toNat (0 : Int)) then
        if (0 : Int) ≤ IntKind.i64.wrap ((↑x4.length : Int) - (1 : Int)) then
         if IntKind.i64.wrap ((↑x4.length : Int) - (1 : Int)) < (↑x4.length : Int) then
          if (0 : Int) ≤ IntKind.i64.wrap ((↑x4.length : Int) - (1 : Int)) then
           if IntKind.i64.wrap ((↑x4.length : Int) - (1 : Int)) < (↑x4.length : Int) then
            F50c3 n (x0) (x1) (x2) (IntKind.i64.wrap (x3 + (1 : Int))) (x4.set (IntKind.i64.wrap ((↑x4.length : Int) - (1 : Int))).toNat { value := (x4.getD (IntKind.i64.wrap ((↑x4.length : Int) - (1 : Int))).toNat zRun).value, count := IntKind.i64.wrap ((x4.getD (IntKind.i64.wrap ((↑x4.length : Int) - (1 : Int))).toNat zRun).count + (1 : Int)) : Run })
           else
            none
          else
           none
         else
          none
        else
         none
       else
        F50c7 n (x0) (x1.getD x3.toNat (0 : Int)) (x1) (x2) (x3) (x4)
      else
       none
     else
      none
    else
     F50c7 n (x0) (x1.getD x3.toNat (0 : Int)) (x1) (x2) (x3) (x4)
   else
    none
  else
   none
 else
  some ((x4, ()), ()) := by kernel_rfl
theorem F50c7_eq (n x0 x1 x2 x3 x4 x5 : _) : F50c7 (n + 1) x0 x1 x2 x3 x4 x5 =
 if x5.length + (1 : Nat) ≤ lim then
  F50c3 n (x0) (x2) (x3) (IntKind.i64.wrap (x4 + (1 : Int))) (x5 ++ [{ value := x1, count := (1 : Int) : Run }])
 else
  none := by kernel_rfl
noncomputable def F173c4 (n : Nat) (x0 : Int) (x1 : Int) := F173.at [.v (.int .u64)] [.v (.int .i64)] n 4 ⟨[.one (.int .u64 x0), U, .one (.int .i64 x1), U, U, U, U, U, U, U, U, U, U, U, U, U, U, U, U, U, U, U, U, U, U], []⟩
noncomputable def F173c7 (n : Nat) (x0 : Int) (x1 : Int) := F173.at [.v (.int .u64)] [.v (.int .i64)] n 7 ⟨[.one (.int .u64 x0), U, .one (.int .i64 x1), U, U, U, U, U, U, U, U, U, U, U, U, U, U, U, U, U, U, U, U, U, U], []⟩
noncomputable def F173c10 (n : Nat) (x0 : Int) (x1 : Int) := F173.at [.v (.int .u64)] [.v (.int .i64)] n 10 ⟨[.one (.int .u64 x0), U, .one (.int .i64 x1), U, U, U, U, U, U, U, U, U, U, U, U, U, U, U, U, U, U, U, U, U, U], []⟩
theorem F173_run (n : Nat) (a0 : Int) : F173.run [.v (.int .u64)] [.v (.int .i64)] n (a0, ()) =
 bif decide ((4294967296 : Int) ≤ a0) then
  F173c4 n (a0 / (2 : Int) ^ min (Int.toNat (32 : Int)) IntKind.u64.bits) ((32 : Int))
 else
  F173c4 n (a0) ((0 : Int)) := by kernel_rfl
theorem F173c4_eq (n x0 x1 : _) : F173c4 (n + 1) x0 x1 =
 bif decide ((65536 : Int) ≤ x0) then
  F173c7 n (x0 / (2 : Int) ^ min (Int.toNat (16 : Int)) IntKind.u64.bits) (IntKind.i64.wrap (x1 + (16 : Int)))
 else
  F173c7 n (x0) (x1) := by kernel_rfl
theorem F173c7_eq (n x0 x1 : _) : F173c7 (n + 1) x0 x1 =
 bif decide ((256 : Int) ≤ x0) then
  F173c10 n (x0 / (2 : Int) ^ min (Int.toNat (8 : Int)) IntKind.u64.bits) (IntKind.i64.wrap (x1 + (8 : Int)))
 else
  F173c10 n (x0) (x1) := by kernel_rfl
theorem F173c10_eq (n x0 x1 : _) : F173c10 (n + 1) x0 x1 =
 if (0 : Int) ≤ IntKind.u8.wrap x0 then
  if IntKind.u8.wrap x0 < (↑(256 : Nat) : Int) then
   some ((IntKind.i64.wrap (x1 + IntKind.i64.wrap ([(0 : Int), (1 : Int), (2 : Int), (2 : Int), (3 : Int), (3 : Int), (3 : Int), (3 : Int), (4 : Int), (4 : Int), (4 : Int), (4 : Int), (4 : Int), (4 : Int), (4 : Int), (4 : Int), (5 : Int), (5 : Int), (5 : Int), (5 : Int), (5 : Int), (5 : Int), (5 : Int), (5 : Int), (5 : Int), (5 : Int), (5 : Int), (5 : Int), (5 : Int), (5 : Int), (5 : Int), (5 : Int), (6 : Int), (6 : Int), (6 : Int), (6 : Int), (6 : Int), (6 : Int), (6 : Int), (6 : Int), (6 : Int), (6 : Int), (6 : Int), (6 : Int), (6 : Int), (6 : Int), (6 : Int), (6 : Int), (6 : Int), (6 : Int), (6 : Int), (6 : Int), (6 : Int), (6 : Int), (6 : Int), (6 : Int), (6 : Int), (6 : Int), (6 : Int), (6 : Int), (6 : Int), (6 : Int), (6 : Int), (6 : Int), (7 : Int), (7 : Int), (7 : Int), (7 : Int), (7 : Int), (7 : Int), (7 : Int), (7 : Int), (7 : Int), (7 : Int), (7 : Int), (7 : Int), (7 : Int), (7 : Int), (7 : Int), (7 : Int), (7 : Int), (7 : Int), (7 : Int), (7 : Int), (7 : Int), (7 : Int), (7 : Int), (7 : Int), (7 : Int), (7 : Int), (7 : Int), (7 : Int), (7 : Int), (7 : Int), (7 : Int), (7 : Int), (7 : Int), (7 : Int), (7 : Int), (7 : Int), (7 : Int), (7 : Int), (7 : Int), (7 : Int), (7 : Int), (7 : Int), (7 : Int), (7 : Int), (7 : Int), (7 : Int), (7 : Int), (7 : Int), (7 : Int), (7 : Int), (7 : Int), (7 : Int), (7 : Int), (7 : Int), (7 : Int), (7 : Int), (7 : Int), (7 : Int), (7 : Int), (7 : Int), (7 : Int), (7 : Int), (7 : Int), (7 : Int), (8 : Int), (8 : Int), (8 : Int), (8 : Int), (8 : Int), (8 : Int), (8 : Int), (8 : Int), (8 : Int), (8 : Int), (8 : Int), (8 : Int), (8 : Int), (8 : Int), (8 : Int), (8 : Int), (8 : Int), (8 : Int), (8 : Int), (8 : Int), (8 : Int), (8 : Int), (8 : Int), (8 : Int), (8 : Int), (8 : Int), (8 : Int), (8 : Int), (8 : Int), (8 : Int), (8 : Int), (8 : Int), (8 : Int), (8 : Int), (8 : Int), (8 : Int), (8 : Int), (8 : Int), (8 : Int), (8 : Int), (8 : Int), (8 : Int), (8 : Int), (8 : Int), (8 : Int), (8 : Int), (8 : Int), (8 : Int), (8 : Int), (8 : Int), (8 : Int), (8 : Int), (8 : Int), (8 : Int), (8 : Int), (8 : Int), (8 : Int), (8 : Int), (8 : Int), (8 : Int), (8 : Int), (8 : Int), (8 : Int), (8 : Int), (8 : Int), (8 : Int), (8 : Int), (8 : Int), (8 : Int), (8 : Int), (8 : Int), (8 : Int), (8 : Int), (8 : Int), (8 : Int), (8 : Int), (8 : Int), (8 : Int), (8 : Int), (8 : Int), (8 : Int), (8 : Int), (8 : Int), (8 : Int), (8 : Int), (8 : Int), (8 : Int), (8 : Int), (8 : Int), (8 : Int), (8 : Int), (8 : Int), (8 : Int), (8 : Int), (8 : Int), (8 : Int), (8 : Int), (8 : Int), (8 : Int), (8 : Int), (8 : Int), (8 : Int), (8 : Int), (8 : Int), (8 : Int), (8 : Int), (8 : Int), (8 : Int), (8 : Int), (8 : Int), (8 : Int), (8 : Int), (8 : Int), (8 : Int), (8 : Int), (8 : Int), (8 : Int), (8 : Int), (8 : Int), (8 : Int), (8 : Int), (8 : Int), (8 : Int), (8 : Int), (8 : Int), (8 : Int), (8 : Int), (8 : Int)].getD (IntKind.u8.wrap x0).toNat (0 : Int))), ()), ())
  else
   none
 else
  none := by kernel_rfl
theorem F155_run (n : Nat) (a0 : Int) : F155.run [.v (.int .u64)] [.v (.int .i64)] n (a0, ()) =
 (F173.run [PK.v (Ty.int IntKind.u64)] [RK.v (Ty.int .i64)] 4000000 (a0, ())).bind fun r0 =>
  some ((r0.fst.fst, ()), ()) := by kernel_rfl
theorem F102_run (n : Nat) (a0 : Int) : F102.run [.v (.int .i64)] [.v (.int .i64)] n (a0, ()) =
 bif decide (a0 = (0 : Int)) then
  some (((0 : Int), ()), ())
 else
  (F155.run [PK.v (Ty.int IntKind.u64)] [RK.v (Ty.int .i64)] 4000000 (IntKind.u64.wrap (IntKind.i64.wrap (a0 - (1 : Int))), ())).bind fun r0 =>
   some ((r0.fst.fst, ()), ()) := by kernel_rfl
noncomputable def F172c2 (n : Nat) (x0 : List (List Int)) (x1 : List Int) (x2 : Bool) (x3 : Int) (x4 : Int) := F172.at [.v (.sl (.str)), .v (.str), .v (.bool)] [.v (.int .i64)] n 2 ⟨[.one (.data (.sl .str) x0 []), .one (.str x1), .one (.bool x2), U, U, U, U, .one (.int .i64 x3), .one (.int .i64 x4), U, U, U, U, U, U, U, U, U, U, U, U, U, U, U, U, U, U, U, U, U, U, U, U, U, U, U, U, U, U, U], []⟩
theorem F172_run (n : Nat) (a0 : List (List Int)) (a1 : List Int) (a2 : Bool) : F172.run [.v (.sl (.str)), .v (.str), .v (.bool)] [.v (.int .i64)] n (a0, a1, a2, ()) =
 F172c2 n (a0) (a1) (a2) ((0 : Int)) ((↑a0.length : Int)) := by kernel_rfl
theorem F172c2_eq (n x0 x1 x2 x3 x4 : _) : F172c2 (n + 1) x0 x1 x2 x3 x4 =
 bif decide (x3 < x4) then
  if (0 : Int) ≤ IntKind.i64.wrap ((IntKind.i64.wrap (x3 + x4)).tdiv (2 : Int)) then
   if IntKind.i64.wrap ((IntKind.i64.wrap (x3 + x4)).tdiv (2 : Int)) < (↑x0.length : Int) then
    bif Eng.strLt (x0.getD (IntKind.i64.wrap ((IntKind.i64.wrap (x3 + x4)).tdiv (2 : Int))).toNat []) x1 then
     F172c2 n (x0) (x1) (x2) (IntKind.i64.wrap (IntKind.i64.wrap ((IntKind.i64.wrap (x3 + x4)).tdiv (2 : Int)) + (1 : Int))) (x4)
    else
     bif x2 then
      if (0 : Int) ≤ IntKind.i64.wrap ((IntKind.i64.wrap (x3 + x4)).tdiv (2 : Int)) then
       if IntKind.i64.wrap ((IntKind.i64.wrap (x3 + x4)).tdiv (2 : Int)) < (↑x0.length : Int) then
        bif decide (x0.getD (IntKind.i64.wrap ((IntKind.i64.wrap (x3 + x4)).tdiv (2 : Int))).toNat [] = x1) then
         F172c2 n (x0) (x1) (x2) (IntKind.i64.wrap (IntKind.i64.wrap ((IntKind.i64.wrap (x3 + x4)).tdiv (2 : Int)) + (1 : Int))) (x4)
        else
         F172c2 n (x0) (x1) (x2) (x3) (IntKind.i64.wrap ((IntKind.i64.wrap (x3 + x4)).tdiv (2 : Int)))
       else
        none
      else
       none
     else
      F172c2 n (x0) (x1) (x2) (x3) (IntKind.i64.wrap ((IntKind.i64.wrap (x3 + x4)).tdiv (2 : Int)))
   else
    none
  else
   none
 else
  some ((x3, ()), ()) := by kernel_rfl
theorem F154_run (n : Nat) (a0 : List (List Int)) (a1 : List Int) : F154.run [.v (.sl (.str)), .v (.str)] [.v (.int .i64), .v (.bool)] n (a0, a1, ()) =
 (F172.run [PK.v Ty.str.sl, PK.v Ty.str, PK.v Ty.bool] [RK.v (Ty.int .i64)] 4000000 (a0, a1, false, ())).bind fun r0 =>
  bif decide (r0.fst.fst = (↑a0.length : Int)) then
   some (((0 : Int), (false, ())), ())
  else
   if (0 : Int) ≤ r0.fst.fst then
    if r0.fst.fst < (↑a0.length : Int) then
     bif !decide (a0.getD (Int.toNat r0.fst.fst) [] = a1) then
      some (((0 : Int), (false, ())), ())
     else
      some ((r0.fst.fst, (true, ())), ())
    else
     none
   else
    none := by kernel_rfl
theorem F153_run (n : Nat) (a0 : List Int) (a1 : List (List Int) × Unit) : F153.run [.v .str, .bc [.o 9 .str]] [.v (.int .i64)] n (a0, a1, ()) =
 (F154.run [PK.v Ty.str.sl, PK.v Ty.str] [RK.v (Ty.int .i64), RK.v Ty.bool] 4000000 (a1.fst, a0, ())).bind fun r0 =>
  some ((r0.fst.fst, ()), ((a1.fst, ()), ())) := by kernel_rfl
noncomputable def F101c1 (n : Nat) (x0 : List (List Int)) (x1 : List (Int)) (x2 : List (List Int)) := F101.at [.v (.sl (.str))] [.own 9 (.str), .own 3 (.int .i64)] n 1 ⟨[.one (.data (.sl .str) x0 []), U, .one (.bptr 0 0), .one (.own 1), U, U, U, U, U, U, U, U, U, U, U, U, U, U, U, U, U, U, U, U, U, U, U, U, U, U, U, U, U, U, U, U, U, U, U, U, U, U, U, U, U, U], [(0, .cells [.own 2]), (1, .row 3 (.int .i64) x1 [] false), (2, .row 9 .str x2 [] false)]⟩
noncomputable def F101c3 (n : Nat) (x0 : List (List Int)) (x1 : List (List Int)) (x2 : Int) (x3 : Int) (x4 : List (Int)) (x5 : List ((List Int) × (Bool))) (x6 : List (List Int)) := F101.at [.v (.sl (.str))] [.own 9 (.str), .own 3 (.int .i64)] n 3 ⟨[.one (.data (.sl .str) x0 []), U, .one (.bptr 0 0), .one (.own 1), .one (.mp 2), U, U, U, U, U, U, .one (.data (.sl .str) x1 []), .one (.int .i64 x2), .one (.int .i64 x3), U, U, U, U, U, U, U, U, U, U, U, U, U, U, U, U, U, U, U, U, U, U, U, U, U, U, U, U, U, U, U, U], [(0, .cells [.own 3]), (1, .row 3 (.int .i64) x4 [] false), (2, .mapB .str .bool x5), (3, .row 9 .str x6 [] false)]⟩
noncomputable def F101c12 (n : Nat) (x0 : List (List Int)) (x1 : Int) (x2 : Int) (x3 : List (Int)) (x4 : List (List Int)) := F101.at [.v (.sl (.str))] [.own 9 (.str), .own 3 (.int .i64)] n 12 ⟨[U, U, .one (.bptr 0 0), .one (.own 1), U, U, U, .one (.fn 153 [0]), U, U, U, U, U, U, U, U, U, U, U, U, U, U, U, U, U, U, U, U, U, U, U, .one (.data (.sl .str) x0 []), .one (.int .i64 x1), .one (.int .i64 x2), U, U, U, U, U, U, U, U, U, U, U, U], [(0, .cells [.own 2]), (1, .row 3 (.int .i64) x3 [] false), (2, .row 9 .str x4 [] false)]⟩
theorem F101_run (n : Nat) (a0 : List (List Int)) : F101.run [.v (.sl (.str))] [.own 9 (.str), .own 3 (.int .i64)] n (a0, ()) =
 F101c1 n (a0) ([]) ([]) := by kernel_rfl
theorem F101c1_eq (n x0 x1 x2 : _) : F101c1 (n + 1) x0 x1 x2 =
 F101c3 n (x0) (x0) ((↑x0.length : Int)) ((0 : Int)) (x1) ([]) (x2) := by kernel_rfl
theorem F101c3_eq (n x0 x1 x2 x3 x4 x5 x6 : _) : F101c3 (n + 1) x0 x1 x2 x3 x4 x5 x6 =
 bif decide (x3 < x2) then
  if (0 : Int) ≤ x3 then
   if x3 < (↑x1.length : Int) then
    bif !orZ (mfind (fun a a_1 => decide (a = a_1)) x5 (x1.getD x3.toNat [])) false then
     if x6.length + (1 : Nat) ≤ lim then
      F101c3 n (x0) (x1) (x2) (IntKind.i64.wrap (x3 + (1 : Int))) (x4) (mset (fun a a_1 => decide (a = a_1)) x5 (x1.getD x3.toNat []) true) (x6 ++ [x1.getD x3.toNat []])
     else
      none
    else
     F101c3 n (x0) (x1) (x2) (IntKind.i64.wrap (x3 + (1 : Int))) (x4) (x5) (x6)
   else
    none
  else
   none
 else
  (match x6.length.blt (4611686018427387904 : Nat) with
| true => some (isort x6)
| false => none).bind fun r0 =>
   F101c12 n (x0) ((↑x0.length : Int)) ((0 : Int)) (x4) (r0) := by kernel_rfl
theorem F101c12_eq (n x0 x1 x2 x3 x4 : _) : F101c12 (n + 1) x0 x1 x2 x3 x4 =
 bif decide (x2 < x1) then
  if (0 : Int) ≤ x2 then
   if x2 < (↑x0.length : Int) then
    (F153.run [PK.v Ty.str, PK.bc [CK.o 9 Ty.str]] [RK.v (Ty.int .i64)] 4000000 (x0.getD x2.toNat [], (x4, ()), ())).bind fun r1 =>
     if x3.length + (1 : Nat) ≤ lim then
      F101c12 n (x0) (x1) (IntKind.i64.wrap (x2 + (1 : Int))) (x3 ++ ([r1.fst.fst] : List (Int))) (r1.snd.fst.fst)
     else
      none
   else
    none
  else
   none
 else
  some ((x4, (x3, ())), ()) := by kernel_rfl
noncomputable def F56c1 (n : Nat) (x0 : List (List Int)) := F56.at [.v (.sl (.str))] [.own 5 (.int .u8)] n 1 ⟨[.one (.data (.sl .str) x0 []), U, U, U, U, U, U, U, U, U, U, U, U, U, U, U, U, U, U, U, U, U, U, U, U, U, U, U, U, U, U, U, U, U, U, U, U, U, U, U, U, U, U, U, U, U, U, U, U, U, U, U, U, U, U, U, U, U, U, U, U, U, U, U, U, U, U, U, U, U, U, U, U, U, U, U, U, U], []⟩
noncomputable def F56c4 (n : Nat) (x0 : Int) (x1 : Int) (x2 : List (List Int)) (x3 : List (Int)) (x4 : List (Int)) := F56.at [.v (.sl (.str))] [.own 5 (.int .u8)] n 4 ⟨[U, U, U, .one (.own 0), .one (.own 1), .one (.own 2), U, U, U, U, U, U, U, U, U, U, U, U, U, U, U, U, U, .one (.own 0), .one (.int .i64 x0), .one (.int .i64 x1), U, U, U, U, U, U, U, U, U, U, U, U, U, U, U, U, U, U, U, U, U, U, U, U, U, U, U, U, U, U, U, U, U, U, U, U, U, U, U, U, U, U, U, U, U, U, U, U, U, U, U, U], [(0, .row 9 .str x2 [] false), (1, .row 3 (.int .i64) x3 [] false), (2, .row 5 (.int .u8) x4 [] false)]⟩
noncomputable def F56c12 (n : Nat) (x0 : Int) (x1 : Int) (x2 : List (List Int)) (x3 : List (Int)) (x4 : List (Int)) (x5 : List (Int)) (x6 : List (Int)) := F56.at [.v (.sl (.str))] [.own 5 (.int .u8)] n 12 ⟨[U, U, U, .one (.own 0), U, .one (.own 1), U, U, .one (.own 2), .one (.own 3), U, U, U, U, U, U, U, U, U, U, U, U, U, U, U, U, U, U, U, U, U, U, U, U, U, U, U, U, U, .one (.own 4), .one (.int .i64 x0), .one (.int .i64 x1), U, U, U, U, U, U, U, U, U, U, U, U, U, U, U, U, U, U, U, U, U, U, U, U, U, U, U, U, U, U, U, U, U, U, U, U], [(0, .row 9 .str x2 [] false), (1, .row 5 (.int .u8) x3 [] false), (2, .row 83 (.int .u64) x4 [] false), (3, .row 2 (.int .i64) x5 [] false), (4, .row 3 (.int .i64) x6 [] false)]⟩
theorem F56_run (n : Nat) (a0 : List (List Int)) : F56.run [.v (.sl (.str))] [.own 5 (.int .u8)] n (a0, ()) =
 F56c1 n (a0) := by kernel_rfl
theorem F56c1_eq (n x0 : _) : F56c1 (n + 1) x0 =
 (F101.run [PK.v Ty.str.sl] [RK.own 9 Ty.str, RK.own 3 (Ty.int .i64)] 4000000 (x0, ())).bind fun r0 =>
  (F91.run [PK.v (Ty.int IntKind.u64)] [RK.own 5 (Ty.int IntKind.u8)] 4000000 (IntKind.u64.wrap (↑(List.length r0.fst.fst) : Int), ())).bind fun r1 =>
   F56c4 n ((↑(List.length r0.fst.fst) : Int)) ((0 : Int)) (r0.fst.fst) (r0.fst.snd.fst) (r1.fst.fst) := by kernel_rfl
theorem F56c4_eq (n x0 x1 x2 x3 x4 : _) : F56c4 (n + 1) x0 x1 x2 x3 x4 =
 bif decide (x1 < x0) then
  if (0 : Int) ≤ x1 then
   if x1 < (↑x2.length : Int) then
    (F91.run [PK.v (Ty.int IntKind.u64)] [RK.own 5 (Ty.int IntKind.u8)] 4000000 (IntKind.u64.wrap (↑(x2.getD x1.toNat []).length : Int), ())).bind fun r2 =>
     if x4.length + List.length r2.fst.fst ≤ lim then
      if (x4 ++ r2.fst.fst).length + (x2.getD x1.toNat []).length ≤ lim then
       F56c4 n (x0) (IntKind.i64.wrap (x1 + (1 : Int))) (x2) (x3) (x4 ++ r2.fst.fst ++ x2.getD x1.toNat [])
      else
       none
     else
      none
   else
    none
  else
   none
 else
  F56c12 n ((↑x3.length : Int)) ((0 : Int)) (x2) (x4) ([]) ([]) (x3) := by kernel_rfl
theorem F56c12_eq (n x0 x1 x2 x3 x4 x5 x6 : _) : F56c12 (n + 1) x0 x1 x2 x3 x4 x5 x6 =
 bif decide (x1 < x0) then
  if (0 : Int) ≤ x1 then
   if x1 < (↑x6.length : Int) then
    if x4.length + (1 : Nat) ≤ lim then
     if x5.length + (1 : Nat) ≤ lim then
      F56c12 n (x0) (IntKind.i64.wrap (x1 + (1 : Int))) (x2) (x3) (x4 ++ [IntKind.u64.wrap (x6.getD x1.toNat (0 : Int))]) (x5 ++ [x6.getD x1.toNat (0 : Int)]) (x6)
     else
      none
    else
     none
   else
    none
  else
   none
 else
  (F102.run [PK.v (Ty.int .i64)] [RK.v (Ty.int .i64)] 4000000 ((↑x2.length : Int), ())).bind fun r3 =>
   (F98.run [PK.v (Ty.int IntKind.u64).sl, PK.v (Ty.int .i64)] [RK.own 5 (Ty.int IntKind.u8)] 4000000 (x4, r3.fst.fst, ())).bind fun r4 =>
    (F50.run [PK.v (Ty.int .i64).sl] [RK.own 110 (Ty.nm 5)] 4000000 (x5, ())).bind fun r5 =>
     (F49.run [PK.v (Ty.nm 5).sl] [RK.own 5 (Ty.int IntKind.u8)] 4000000 (r5.fst.fst, ())).bind fun r6 =>
      bif decide ((↑(List.length r6.fst.fst) : Int) < (↑(List.length r4.fst.fst) : Int)) then
       if x3.length + (1 : Nat) ≤ lim then
        if (x3 ++ [(1 : Int)]).length + List.length r6.fst.fst ≤ lim then
         some ((x3 ++ [(1 : Int)] ++ r6.fst.fst, ()), ())
        else
         none
       else
        none
      else
       if x3.length + (1 : Nat) ≤ lim then
        if (x3 ++ [(0 : Int)]).length + List.length r4.fst.fst ≤ lim then
         some ((x3 ++ [(0 : Int)] ++ r4.fst.fst, ()), ())
        else
         none
       else
        none := by kernel_rfl
noncomputable def F55c1 (n : Nat) (x0 : Vec) := F55.at [.bw (.nm 0)] [.own 5 (.int .u8)] n 1 ⟨[.one (.bptr 900000 0), U, U, U, U], [(900000, .whole (.nm 0) x0 [])]⟩
theorem F55_run (n : Nat) (a0 : Vec) : F55.run [.bw (.nm 0)] [.own 5 (.int .u8)] n (a0, ()) =
 F55c1 n (a0) := by kernel_rfl
theorem F55c1_eq (n x0 : _) : F55c1 (n + 1) x0 =
 (F56.run [PK.v Ty.str.sl] [RK.own 5 (Ty.int IntKind.u8)] 4000000 (x0.texts, ())).bind fun r0 =>
  some ((r0.fst.fst, ()), (x0, ())) := by kernel_rfl
noncomputable def F100c1 (n : Nat) (x0 : List (Int)) := F100.at [.v (.sl (.int .i64))] [.own 2 (.int .i64)] n 1 ⟨[.one (.data (.sl (.int .i64)) x0 []), U, U, U, U, U, U, U, U, U, U, U, U, U, U, U, U, U, U, U, U, U, U, U, U, U, U, U, U, U, U, U], []⟩
noncomputable def F100c5 (n : Nat) (x0 : List (Int)) (x1 : Int) (x2 : Int) (x3 : List (Int)) := F100.at [.v (.sl (.int .i64))] [.own 2 (.int .i64)] n 5 ⟨[.one (.data (.sl (.int .i64)) x0 []), U, U, .one (.own 0), U, U, U, U, U, U, U, U, U, .one (.int .i64 x1), .one (.int .i64 x2), U, U, U, U, U, U, U, U, U, U, U, U, U, U, U, U, U], [(0, .row 2 (.int .i64) x3 [] false)]⟩
theorem F100_run (n : Nat) (a0 : List (Int)) : F100.run [.v (.sl (.int .i64))] [.own 2 (.int .i64)] n (a0, ()) =
 F100c1 n (a0) := by kernel_rfl
theorem F100c1_eq (n x0 : _) : F100c1 (n + 1) x0 =
 bif decide ((↑x0.length : Int) < (2 : Int)) then
  some (([], ()), ())
 else
  if (0 : Int) ≤ IntKind.i64.wrap ((↑x0.length : Int) - (1 : Int)) then
   if IntKind.i64.wrap ((↑x0.length : Int) - (1 : Int)) ≤ (↑lim : Int) then
    F100c5 n (x0) ((↑(List.replicate (IntKind.i64.wrap ((↑x0.length : Int) - (1 : Int))).toNat (0 : Int)).length : Int)) ((0 : Int)) (List.replicate (IntKind.i64.wrap ((↑x0.length : Int) - (1 : Int))).toNat (0 : Int))
   else
    none
  else
   none := by kernel_rfl
theorem F100c5_eq (n x0 x1 x2 x3 : _) : F100c5 (n + 1) x0 x1 x2 x3 =
 bif decide (x2 < x1) then
  if (0 : Int) ≤ IntKind.i64.wrap (x2 + (1 : Int)) then
   if IntKind.i64.wrap (x2 + (1 : Int)) < (↑x0.length : Int) then
    if (0 : Int) ≤ x2 then
     if x2 < (↑x0.length : Int) then
      if (0 : Int) ≤ x2 then
       if x2 < (↑x3.length : Int) then
        F100c5 n (x0) (x1) (IntKind.i64.wrap (x2 + (1 : Int))) (x3.set x2.toNat (IntKind.i64.wrap (x0.getD (IntKind.i64.wrap (x2 + (1 : Int))).toNat (0 : Int) - x0.getD x2.toNat (0 : Int))))
       else
        none
      else
       none
     else
      none
    else
     none
   else
    none
  else
   none
 else
  some ((x3, ()), ()) := by kernel_rfl
noncomputable def F97c1 (n : Nat) (x0 : List (List (Int))) := F97.at [.v (.sl (.sl (.int .u8)))] [.own 5 (.int .u8)] n 1 ⟨[.one (.data (.sl (.sl (.int .u8))) x0 []), U, U, U, U, U, U, U, U, U, U, U, U, U, U, U, U], []⟩
noncomputable def F97c3 (n : Nat) (x0 : List (List (Int))) (x1 : Int) (x2 : Int) (x3 : List (Int)) := F97.at [.v (.sl (.sl (.int .u8)))] [.own 5 (.int .u8)] n 3 ⟨[U, U, U, .one (.own 0), U, U, .one (.data (.sl (.sl (.int .u8))) x0 []), .one (.int .i64 x1), .one (.int .i64 x2), U, U, U, U, U, U, U, U], [(0, .row 5 (.int .u8) x3 [] false)]⟩
theorem F97_run (n : Nat) (a0 : List (List (Int))) : F97.run [.v (.sl (.sl (.int .u8)))] [.own 5 (.int .u8)] n (a0, ()) =
 F97c1 n (a0) := by kernel_rfl
theorem F97c1_eq (n x0 : _) : F97c1 (n + 1) x0 =
 F97c3 n (x0) ((↑x0.length : Int)) ((0 : Int)) ([]) := by kernel_rfl
theorem F97c3_eq (n x0 x1 x2 x3 : _) : F97c3 (n + 1) x0 x1 x2 x3 =
 bif decide (x2 < x1) then
  if (0 : Int) ≤ x2 then
   if x2 < (↑x0.length : Int) then
    if x3.length + (x0.getD x2.toNat []).length ≤ lim then
     F97c3 n (x0) (x1) (IntKind.i64.wrap (x2 + (1 : Int))) (x3 ++ x0.getD x2.toNat [])
    else
     none
   else
    none
  else
   none
 else
  some ((x3, ()), ()) := by kernel_rfl
theorem F96_run (n : Nat) (a0 : Int) (a1 : Int) : F96.run [.v (.int .u64), .v (.int .i64)] [.v (.int .u64)] n (a0, a1, ()) =
 bif decide ((64 : Int) ≤ a1) then
  some (((0 : Int), ()), ())
 else
  if (0 : Int) ≤ IntKind.u64.wrap a1 then
   some ((a0 / (2 : Int) ^ min (IntKind.u64.wrap a1).toNat IntKind.u64.bits, ()), ())
  else
   none := by kernel_rfl
noncomputable def F94c3 (n : Nat) (x0 : Int) (x1 : Int) (x2 : List (Int)) := F94.at [.v (.nm 6)] [.v (.int .i64)] n 3 ⟨[U, .one (.optr 0 0 0), U, .one (.int .i64 x0), U, .one (.int .i64 x1), U, U, U, U, U, U, U, U, U, U, U, U], [(0, .row 2000065 (.int .i64) x2 [] true)]⟩
theorem F94_run (n : Nat) (a0 : List (Int)) : F94.run [.v (.nm 6)] [.v (.int .i64)] n (a0, ()) =
 F94c3 n ((0 : Int)) ((0 : Int)) (padL (0 : Int) (65 : Nat) a0) := by kernel_rfl
theorem F94c3_eq (n x0 x1 x2 : _) : F94c3 (n + 1) x0 x1 x2 =
 bif decide (x1 < (65 : Int)) then
  if (0 : Int) ≤ x1 then
   if x1 < (↑(65 : Nat) : Int) then
    if (0 : Int) ≤ x0 then
     if x0 < (↑(65 : Nat) : Int) then
      bif decide (x2.getD x1.toNat (0 : Int) < x2.getD x0.toNat (0 : Int)) then
       F94c3 n (x1) (IntKind.i64.wrap (x1 + (1 : Int))) (x2)
      else
       F94c3 n (x0) (IntKind.i64.wrap (x1 + (1 : Int))) (x2)
     else
      none
    else
     none
   else
    none
  else
   none
 else
  some ((x0, ()), ()) := by kernel_rfl
theorem F149_run (n : Nat) (a0 : Int) : F149.run [.v (.int .u64)] [.v (.int .i64)] n (a0, ()) =
 (F155.run [PK.v (Ty.int IntKind.u64)] [RK.v (Ty.int .i64)] 4000000 (a0, ())).bind fun r0 =>
  some ((imax (1 : Int) (IntKind.i64.wrap ((IntKind.i64.wrap (r0.fst.fst + (6 : Int))).tdiv (7 : Int))), ()), ()) := by kernel_rfl
noncomputable def F95c3 (n : Nat) (x0 : Int) (x1 : List (Int)) (x2 : Int) (x3 : List (Int)) (x4 : List (Int)) := F95.at [.v (.int .i64), .v (.sl (.int .u64))] [.v (.nm 6)] n 3 ⟨[.one (.int .i64 x0), .one (.data (.sl (.int .u64)) x1 []), U, U, .one (.optr 0 0 0), .one (.optr 1 0 0), U, U, U, U, U, U, .one (.int .i64 x2), U, U, U, U, U, U, U, U, U, U, U, U, U, U, U, U, U, U, U, U, U, U, U, U, U, U, U, U, U, U, U, U, U, U, U, U, U, U, U, U, U, U, U, U, U, U], [(0, .row 2000065 (.int .i64) x3 [] true), (1, .row 2000065 (.int .i64) x4 [] true)]⟩
noncomputable def F95c8 (n : Nat) (x0 : Int) (x1 : List (Int)) (x2 : Int) (x3 : Int) (x4 : Int) (x5 : Int) (x6 : List (Int)) (x7 : Int) (x8 : Int) (x9 : List (Int)) (x10 : List (Int)) := F95.at [.v (.int .i64), .v (.sl (.int .u64))] [.v (.nm 6)] n 8 ⟨[.one (.int .i64 x0), .one (.data (.sl (.int .u64)) x1 []), U, U, .one (.optr 0 0 0), .one (.optr 1 0 0), .one (.int .i64 x2), .one (.int .i64 x3), .one (.int .i64 x4), U, U, U, .one (.int .i64 x5), U, U, U, U, U, U, U, U, U, U, U, U, U, U, .one (.data (.sl (.int .u64)) x6 []), .one (.int .i64 x7), .one (.int .i64 x8), U, U, U, U, U, U, U, U, U, U, U, U, U, U, U, U, U, U, U, U, U, U, U, U, U, U, U, U, U], [(0, .row 2000065 (.int .i64) x9 [] true), (1, .row 2000065 (.int .i64) x10 [] true)]⟩
theorem F95_run (n : Nat) (a0 : Int) (a1 : List (Int)) : F95.run [.v (.int .i64), .v (.sl (.int .u64))] [.v (.nm 6)] n (a0, a1, ()) =
 F95c3 n (a0) (a1) ((0 : Int)) ([(0 : Int), (0 : Int), (0 : Int), (0 : Int), (0 : Int), (0 : Int), (0 : Int), (0 : Int), (0 : Int), (0 : Int), (0 : Int), (0 : Int), (0 : Int), (0 : Int), (0 : Int), (0 : Int), (0 : Int), (0 : Int), (0 : Int), (0 : Int), (0 : Int), (0 : Int), (0 : Int), (0 : Int), (0 : Int), (0 : Int), (0 : Int), (0 : Int), (0 : Int), (0 : Int), (0 : Int), (0 : Int), (0 : Int), (0 : Int), (0 : Int), (0 : Int), (0 : Int), (0 : Int), (0 : Int), (0 : Int), (0 : Int), (0 : Int), (0 : Int), (0 : Int), (0 : Int), (0 : Int), (0 : Int), (0 : Int), (0 : Int), (0 : Int), (0 : Int), (0 : Int), (0 : Int), (0 : Int), (0 : Int), (0 : Int), (0 : Int), (0 : Int), (0 : Int), (0 : Int), (0 : Int), (0 : Int), (0 : Int), (0 : Int), (0 : Int)]) ([(0 : Int), (0 : Int), (0 : Int), (0 : Int), (0 : Int), (0 : Int), (0 : Int), (0 : Int), (0 : Int), (0 : Int), (0 : Int), (0 : Int), (0 : Int), (0 : Int), (0 : Int), (0 : Int), (0 : Int), (0 : Int), (0 : Int), (0 : Int), (0 : Int), (0 : Int), (0 : Int), (0 : Int), (0 : Int), (0 : Int), (0 : Int), (0 : Int), (0 : Int), (0 : Int), (0 : Int), (0 : Int), (0 : Int), (0 : Int), (0 : Int), (0 : Int), (0 : Int), (0 : Int), (0 : Int), (0 : Int), (0 : Int), (0 : Int), (0 : Int), (0 : Int), (0 : Int), (0 : Int), (0 : Int), (0 : Int), (0 : Int), (0 : Int), (0 : Int), (0 : Int), (0 : Int), (0 : Int), (0 : Int), (0 : Int), (0 : Int), (0 : Int), (0 : Int), (0 : Int), (0 : Int), (0 : Int), (0 : Int), (0 : Int), (0 : Int)]) := by kernel_rfl
theorem F95c3_eq (n x0 x1 x2 x3 x4 : _) : F95c3 (n + 1) x0 x1 x2 x3 x4 =
 bif decide (x2 < (65 : Int)) then
  (F92.run [PK.v (Ty.int .i64)] [RK.v (Ty.int IntKind.u64)] 4000000 (x0, ())).bind fun r0 =>
   (F149.run [PK.v (Ty.int IntKind.u64)] [RK.v (Ty.int .i64)] 4000000 (r0.fst.fst, ())).bind fun r1 =>
    (F149.run [PK.v (Ty.int IntKind.u64)] [RK.v (Ty.int .i64)] 4000000 (IntKind.u64.wrap x2, ())).bind fun r2 =>
     (F118.run [PK.v (Ty.int .i64), PK.v (Ty.int .i64)] [RK.v (Ty.int .i64)] 4000000 ((↑x1.length : Int), x2, ())).bind fun r3 =>
      F95c8 n (x0) (x1) (x2) ((0 : Int)) (IntKind.i64.wrap (IntKind.i64.wrap (r1.fst.fst + r2.fst.fst) + r3.fst.fst)) (x2) (x1) ((↑x1.length : Int)) ((0 : Int)) (x3) (x4)
 else
  some ((padL (0 : Int) (65 : Nat) x4, ()), ()) := by kernel_rfl
theorem F95c8_eq (n x0 x1 x2 x3 x4 x5 x6 x7 x8 x9 x10 : _) : F95c8 (n + 1) x0 x1 x2 x3 x4 x5 x6 x7 x8 x9 x10 =
 bif decide (x8 < x7) then
  if (0 : Int) ≤ x8 then
   if x8 < (↑x6.length : Int) then
    (F96.run [PK.v (Ty.int IntKind.u64), PK.v (Ty.int .i64)] [RK.v (Ty.int IntKind.u64)] 4000000 (x6.getD x8.toNat (0 : Int), x2, ())).bind fun r4 =>
     bif decide ((0 : Int) < r4.fst.fst) then
      (F149.run [PK.v (Ty.int IntKind.u64)] [RK.v (Ty.int .i64)] 4000000 (IntKind.u64.wrap x8, ())).bind fun r5 =>
       (F149.run [PK.v (Ty.int IntKind.u64)] [RK.v (Ty.int .i64)] 4000000 (r4.fst.fst, ())).bind fun r6 =>
        F95c8 n (x0) (x1) (x2) (IntKind.i64.wrap (x3 + (1 : Int))) (IntKind.i64.wrap (x4 + IntKind.i64.wrap (r5.fst.fst + r6.fst.fst))) (x5) (x6) (x7) (IntKind.i64.wrap (x8 + (1 : Int))) (x9) (x10)
     else
      F95c8 n (x0) (x1) (x2) (x3) (x4) (x5) (x6) (x7) (IntKind.i64.wrap (x8 + (1 : Int))) (x9) (x10)
   else
    none
  else
   none
 else
  (F149.run [PK.v (Ty.int IntKind.u64)] [RK.v (Ty.int .i64)] 4000000 (IntKind.u64.wrap x3, ())).bind fun r7 =>
   if (0 : Int) ≤ x2 then
    if x2 < (↑(65 : Nat) : Int) then
     F95c3 n (x0) (x1) (IntKind.i64.wrap (x5 + (1 : Int))) (x9) (x10.set x2.toNat (IntKind.i64.wrap (x4 + r7.fst.fst)))
    else
     none
   else
    none := by kernel_rfl
noncomputable def F93c1 (n : Nat) (x0 : List (Int)) := F93.at [.v (.sl (.int .i64))] [.v (.int .i64), .own 83 (.int .u64)] n 1 ⟨[.one (.data (.sl (.int .i64)) x0 []), U, U, U, U, U, U, U, U, U, U, U, U, U, U, U, U, U, U, U, U, U, U, U, U, U, U, U, U, U, U, U, U, U, U, U, U, U, U, U, U, U, U, U, U, U, U], []⟩
noncomputable def F93c3 (n : Nat) (x0 : List (Int)) (x1 : Int) (x2 : List (Int)) (x3 : Int) (x4 : Int) := F93.at [.v (.sl (.int .i64))] [.v (.int .i64), .own 83 (.int .u64)] n 3 ⟨[.one (.data (.sl (.int .i64)) x0 []), U, U, U, .one (.int .i64 x1), U, U, U, U, U, .one (.data (.sl (.int .i64)) x2 []), .one (.int .i64 x3), .one (.int .i64 x4), U, U, U, U, U, U, U, U, U, U, U, U, U, U, U, U, U, U, U, U, U, U, U, U, U, U, U, U, U, U, U, U, U, U], []⟩
noncomputable def F93c7 (n : Nat) (x0 : List (Int)) (x1 : Int) (x2 : List (Int)) (x3 : Int) (x4 : Int) := F93.at [.v (.sl (.int .i64))] [.v (.int .i64), .own 83 (.int .u64)] n 7 ⟨[.one (.data (.sl (.int .i64)) x0 []), U, U, U, .one (.int .i64 x1), U, U, U, U, U, .one (.data (.sl (.int .i64)) x2 []), .one (.int .i64 x3), .one (.int .i64 x4), U, U, U, U, U, U, U, U, U, U, U, U, U, U, U, U, U, U, U, U, U, U, U, U, U, U, U, U, U, U, U, U, U, U], []⟩
noncomputable def F93c10 (n : Nat) (x0 : Int) (x1 : List (Int)) (x2 : Int) (x3 : Int) (x4 : List (Int)) := F93.at [.v (.sl (.int .i64))] [.v (.int .i64), .own 83 (.int .u64)] n 10 ⟨[U, U, U, U, .one (.int .i64 x0), U, U, .one (.own 0), U, U, U, U, U, U, U, U, U, U, U, U, U, U, U, U, U, U, U, U, U, .one (.data (.sl (.int .i64)) x1 []), .one (.int .i64 x2), .one (.int .i64 x3), U, U, U, U, U, U, U, U, U, U, U, U, U, U, U], [(0, .row 83 (.int .u64) x4 [] false)]⟩
theorem F93_run (n : Nat) (a0 : List (Int)) : F93.run [.v (.sl (.int .i64))] [.v (.int .i64), .own 83 (.int .u64)] n (a0, ()) =
 F93c1 n (a0) := by kernel_rfl
theorem F93c1_eq (n x0 : _) : F93c1 (n + 1) x0 =
 F93c3 n (x0) ((0 : Int)) (x0) ((↑x0.length : Int)) ((0 : Int)) := by kernel_rfl
theorem F93c3_eq (n x0 x1 x2 x3 x4 : _) : F93c3 (n + 1) x0 x1 x2 x3 x4 =
 bif decide (x4 < x3) then
  if (0 : Int) ≤ x4 then
   if x4 < (↑x2.length : Int) then
    bif decide (x4 = (0 : Int)) then
     F93c7 n (x0) (x2.getD x4.toNat (0 : Int)) (x2) (x3) (x4)
    else
     bif decide (x2.getD x4.toNat (0 : Int) < x1) then
      F93c7 n (x0) (x2.getD x4.toNat (0 : Int)) (x2) (x3) (x4)
     else
      F93c7 n (x0) (x1) (x2) (x3) (x4)
   else
    none
  else
   none
 else
  if (↑x0.length : Int) ≤ (↑lim : Int) then
   F93c10 n (x1) (x0) ((↑x0.length : Int)) ((0 : Int)) (List.replicate (↑x0.length : Int).toNat (0 : Int))
  else
   none := by kernel_rfl
theorem F93c7_eq (n x0 x1 x2 x3 x4 : _) : F93c7 (n + 1) x0 x1 x2 x3 x4 =
 F93c3 n (x0) (x1) (x2) (x3) (IntKind.i64.wrap (x4 + (1 : Int))) := by kernel_rfl
theorem F93c10_eq (n x0 x1 x2 x3 x4 : _) : F93c10 (n + 1) x0 x1 x2 x3 x4 =
 bif decide (x3 < x2) then
  if (0 : Int) ≤ x3 then
   if x3 < (↑x1.length : Int) then
    if (0 : Int) ≤ x3 then
     if x3 < (↑x4.length : Int) then
      F93c10 n (x0) (x1) (x2) (IntKind.i64.wrap (x3 + (1 : Int))) (x4.set x3.toNat (IntKind.u64.wrap (IntKind.u64.wrap (x1.getD x3.toNat (0 : Int)) - IntKind.u64.wrap x0)))
     else
      none
    else
     none
   else
    none
  else
   none
 else
  some ((x0, (x4, ())), ()) := by kernel_rfl
noncomputable def F52c1 (n : Nat) (x0 : List (Int)) := F52.at [.v (.sl (.int .i64))] [.own 5 (.int .u8)] n 1 ⟨[.one (.data (.sl (.int .i64)) x0 []), U, U, U, U, U, U, U, U, U, U, U, U, U, U, U, U, U, U, U, U, U, U, U, U, U, U, U, U, U, U, U, U, U, U, U, U, U, U, U, U, U, U, U, U, U, U, U, U, U, U, U, U, U, U, U, U, U, U, U, U, U], []⟩
noncomputable def F52c6 (n : Nat) (x0 : Int) (x1 : Int) (x2 : Int) (x3 : Int) (x4 : Int) (x5 : List (Int)) (x6 : List (Int)) := F52.at [.v (.sl (.int .i64))] [.own 5 (.int .u8)] n 6 ⟨[U, U, U, .one (.int .i64 x0), .one (.own 0), .one (.int .i64 x1), .one (.own 1), .one (.int .i64 x2), U, U, U, U, U, U, U, U, U, U, U, U, U, .one (.own 0), .one (.int .i64 x3), .one (.int .i64 x4), U, U, U, U, U, U, U, U, U, U, U, U, U, U, U, U, U, U, U, U, U, U, U, U, U, U, U, U, U, U, U, U, U, U, U, U, U, U], [(0, .row 83 (.int .u64) x5 [] false), (1, .row 5 (.int .u8) x6 [] false)]⟩
theorem F52_run (n : Nat) (a0 : List (Int)) : F52.run [.v (.sl (.int .i64))] [.own 5 (.int .u8)] n (a0, ()) =
 F52c1 n (a0) := by kernel_rfl
theorem F52c1_eq (n x0 : _) : F52c1 (n + 1) x0 =
 (F93.run [PK.v (Ty.int .i64).sl] [RK.v (Ty.int .i64), RK.own 83 (Ty.int IntKind.u64)] 4000000 (x0, ())).bind fun r0 =>
  (F95.run [PK.v (Ty.int .i64), PK.v (Ty.int IntKind.u64).sl] [RK.v (Ty.nm 6)] 4000000 (r0.fst.fst, r0.fst.snd.fst, ())).bind fun r1 =>
   (F94.run [PK.v (Ty.nm 6)] [RK.v (Ty.int .i64)] 4000000 (r1.fst.fst, ())).bind fun r2 =>
    F52c6 n (r0.fst.fst) (r2.fst.fst) ((0 : Int)) ((↑(List.length r0.fst.snd.fst) : Int)) ((0 : Int)) (r0.fst.snd.fst) ([]) := by kernel_rfl
theorem F52c6_eq (n x0 x1 x2 x3 x4 x5 x6 : _) : F52c6 (n + 1) x0 x1 x2 x3 x4 x5 x6 =
 bif decide (x4 < x3) then
  if (0 : Int) ≤ x4 then
   if x4 < (↑x5.length : Int) then
    (F96.run [PK.v (Ty.int IntKind.u64), PK.v (Ty.int .i64)] [RK.v (Ty.int IntKind.u64)] 4000000 (x5.getD x4.toNat (0 : Int), x1, ())).bind fun r3 =>
     bif decide ((0 : Int) < r3.fst.fst) then
      (F91.run [PK.v (Ty.int IntKind.u64)] [RK.own 5 (Ty.int IntKind.u8)] 4000000 (IntKind.u64.wrap x4, ())).bind fun r4 =>
       (F91.run [PK.v (Ty.int IntKind.u64)] [RK.own 5 (Ty.int IntKind.u8)] 4000000 (r3.fst.fst, ())).bind fun r5 =>
        (F97.run [PK.v (Ty.int IntKind.u8).sl.sl] [RK.own 5 (Ty.int IntKind.u8)] 4000000 ([x6, r4.fst.fst, r5.fst.fst], ())).bind fun r6 =>
         F52c6 n (x0) (x1) (IntKind.i64.wrap (x2 + (1 : Int))) (x3) (IntKind.i64.wrap (x4 + (1 : Int))) (x5) (r6.fst.fst)
     else
      F52c6 n (x0) (x1) (x2) (x3) (IntKind.i64.wrap (x4 + (1 : Int))) (x5) (x6)
   else
    none
  else
   none
 else
  (F92.run [PK.v (Ty.int .i64)] [RK.v (Ty.int IntKind.u64)] 4000000 (x0, ())).bind fun r7 =>
   (F91.run [PK.v (Ty.int IntKind.u64)] [RK.own 5 (Ty.int IntKind.u8)] 4000000 (r7.fst.fst, ())).bind fun r8 =>
    (F91.run [PK.v (Ty.int IntKind.u64)] [RK.own 5 (Ty.int IntKind.u8)] 4000000 (IntKind.u64.wrap x1, ())).bind fun r9 =>
     (F91.run [PK.v (Ty.int IntKind.u64)] [RK.own 5 (Ty.int IntKind.u8)] 4000000 (IntKind.u64.wrap x2, ())).bind fun r10 =>
      (F97.run [PK.v (Ty.int IntKind.u8).sl.sl] [RK.own 5 (Ty.int IntKind.u8)] 4000000 ([r8.fst.fst, r9.fst.fst, r10.fst.fst], ())).bind fun r11 =>
       (F98.run [PK.v (Ty.int IntKind.u64).sl, PK.v (Ty.int .i64)] [RK.own 5 (Ty.int IntKind.u8)] 4000000 (x5, x1, ())).bind fun r12 =>
        (F97.run [PK.v (Ty.int IntKind.u8).sl.sl] [RK.own 5 (Ty.int IntKind.u8)] 4000000 ([r11.fst.fst, r12.fst.fst, x6], ())).bind fun r13 =>
         some ((r13.fst.fst, ()), ()) := by kernel_rfl
noncomputable def F99c1 (n : Nat) (x0 : Int) (x1 : List (Int)) (x2 : List (Int)) := F99.at [.v (.int .u8), .v (.sl (.int .i64)), .v (.sl (.int .i64))] [.own 5 (.int .u8)] n 1 ⟨[.one (.int .u8 x0), .one (.data (.sl (.int .i64)) x1 []), .one (.data (.sl (.int .i64)) x2 []), U, U, U, U, U, U, U, U, U, U, U, U, U, U, U, U, U, U, U, U, U, U, U, U, U], []⟩
noncomputable def F99c3 (n : Nat) (x0 : List (Int)) (x1 : List (Int)) (x2 : Int) (x3 : Int) (x4 : List (Int)) := F99.at [.v (.int .u8), .v (.sl (.int .i64)), .v (.sl (.int .i64))] [.own 5 (.int .u8)] n 3 ⟨[U, U, .one (.data (.sl (.int .i64)) x0 []), U, U, U, U, .one (.own 0), U, U, U, U, .one (.data (.sl (.int .i64)) x1 []), .one (.int .i64 x2), .one (.int .i64 x3), U, U, U, U, U, U, U, U, U, U, U, U, U], [(0, .row 5 (.int .u8) x4 [] false)]⟩
theorem F99_run (n : Nat) (a0 : Int) (a1 : List (Int)) (a2 : List (Int)) : F99.run [.v (.int .u8), .v (.sl (.int .i64)), .v (.sl (.int .i64))] [.own 5 (.int .u8)] n (a0, a1, a2, ()) =
 F99c1 n (a0) (a1) (a2) := by kernel_rfl
theorem F99c1_eq (n x0 x1 x2 : _) : F99c1 (n + 1) x0 x1 x2 =
 F99c3 n (x2) (x1) ((↑x1.length : Int)) ((0 : Int)) ([x0]) := by kernel_rfl
theorem F99c3_eq (n x0 x1 x2 x3 x4 : _) : F99c3 (n + 1) x0 x1 x2 x3 x4 =
 bif decide (x3 < x2) then
  if (0 : Int) ≤ x3 then
   if x3 < (↑x1.length : Int) then
    (F92.run [PK.v (Ty.int .i64)] [RK.v (Ty.int IntKind.u64)] 4000000 (x1.getD x3.toNat (0 : Int), ())).bind fun r0 =>
     (F91.run [PK.v (Ty.int IntKind.u64)] [RK.own 5 (Ty.int IntKind.u8)] 4000000 (r0.fst.fst, ())).bind fun r1 =>
      if x4.length + List.length r1.fst.fst ≤ lim then
       F99c3 n (x0) (x1) (x2) (IntKind.i64.wrap (x3 + (1 : Int))) (x4 ++ r1.fst.fst)
      else
       none
   else
    none
  else
   none
 else
  (F52.run [PK.v (Ty.int .i64).sl] [RK.own 5 (Ty.int IntKind.u8)] 4000000 (x0, ())).bind fun r2 =>
   if x4.length + List.length r2.fst.fst ≤ lim then
    some ((x4 ++ r2.fst.fst, ()), ())
   else
    none := by kernel_rfl
noncomputable def F54c1 (n : Nat) (x0 : List (Int)) := F54.at [.v (.sl (.int .i64))] [.own 5 (.int .u8)] n 1 ⟨[.one (.data (.sl (.int .i64)) x0 []), U, U, U, U, U, U, U, U, U, U, U, U, U, U, U, U, U, U, U, U, U, U, U, U, U, U, U, U, U, U, U, U, U, U, U, U, U, U, U, U, U], []⟩
theorem F54_run (n : Nat) (a0 : List (Int)) : F54.run [.v (.sl (.int .i64))] [.own 5 (.int .u8)] n (a0, ()) =
 F54c1 n (a0) := by kernel_rfl
theorem F54c1_eq (n x0 : _) : F54c1 (n + 1) x0 =
 bif decide ((65536 : Int) < (↑x0.length : Int)) then
  some (([], ()), ())
 else
  (F100.run [PK.v (Ty.int .i64).sl] [RK.own 2 (Ty.int .i64)] 4000000 (x0, ())).bind fun r0 =>
   if (0 : Int) ≤ imin (1 : Int) (↑x0.length : Int) then
    if imin (1 : Int) (↑x0.length : Int) ≤ (↑x0.length : Int) then
     (F99.run [PK.v (Ty.int IntKind.u8), PK.v (Ty.int .i64).sl, PK.v (Ty.int .i64).sl] [RK.own 5 (Ty.int IntKind.u8)] 4000000 ((1 : Int), List.drop (Int.toNat (0 : Int)) (List.take (imin (1 : Int) (↑x0.length : Int)).toNat x0), r0.fst.fst, ())).bind fun r1 =>
      bif decide ((↑x0.length : Int) < (2 : Int)) then
       some ((r1.fst.fst, ()), ())
      else
       if (0 : Int) < (↑x0.length : Int) then
        if (0 : Int) < (↑(List.length r0.fst.fst) : Int) then
         (F100.run [PK.v (Ty.int .i64).sl] [RK.own 2 (Ty.int .i64)] 4000000 (r0.fst.fst, ())).bind fun r2 =>
          (F99.run [PK.v (Ty.int IntKind.u8), PK.v (Ty.int .i64).sl, PK.v (Ty.int .i64).sl] [RK.own 5 (Ty.int IntKind.u8)] 4000000 ((2 : Int), [x0.getD (Int.toNat (0 : Int)) (0 : Int), List.getD r0.fst.fst (Int.toNat (0 : Int)) (0 : Int)], r2.fst.fst, ())).bind fun r3 =>
           bif decide ((↑(List.length r3.fst.fst) : Int) < (↑(List.length r1.fst.fst) : Int)) then
            some ((r3.fst.fst, ()), ())
           else
            some ((r1.fst.fst, ()), ())
        else
         none
       else
        none
    else
     none
   else
    none := by kernel_rfl
noncomputable def F53c1 (n : Nat) (x0 : Vec) := F53.at [.bw (.nm 0)] [.own 5 (.int .u8)] n 1 ⟨[.one (.bptr 900000 0), U, U, U, U], [(900000, .whole (.nm 0) x0 [])]⟩
theorem F53_run (n : Nat) (a0 : Vec) : F53.run [.bw (.nm 0)] [.own 5 (.int .u8)] n (a0, ()) =
 F53c1 n (a0) := by kernel_rfl
theorem F53c1_eq (n x0 : _) : F53c1 (n + 1) x0 =
 (F54.run [PK.v (Ty.int .i64).sl] [RK.own 5 (Ty.int IntKind.u8)] 4000000 (x0.ints, ())).bind fun r0 =>
  some ((r0.fst.fst, ()), (x0, ())) := by kernel_rfl
noncomputable def F51c1 (n : Nat) (x0 : Vec) := F51.at [.bw (.nm 0)] [.own 5 (.int .u8)] n 1 ⟨[.one (.bptr 900000 0), U, U, U, U], [(900000, .whole (.nm 0) x0 [])]⟩
theorem F51_run (n : Nat) (a0 : Vec) : F51.run [.bw (.nm 0)] [.own 5 (.int .u8)] n (a0, ()) =
 F51c1 n (a0) := by kernel_rfl
theorem F51c1_eq (n x0 : _) : F51c1 (n + 1) x0 =
 (F52.run [PK.v (Ty.int .i64).sl] [RK.own 5 (Ty.int IntKind.u8)] 4000000 (x0.ints, ())).bind fun r0 =>
  some ((r0.fst.fst, ()), (x0, ())) := by kernel_rfl
noncomputable def F48c1 (n : Nat) (x0 : Vec) := F48.at [.bw (.nm 0)] [.own 5 (.int .u8)] n 1 ⟨[.one (.bptr 900000 0), U, U, U, U, U], [(900000, .whole (.nm 0) x0 [])]⟩
theorem F48_run (n : Nat) (a0 : Vec) : F48.run [.bw (.nm 0)] [.own 5 (.int .u8)] n (a0, ()) =
 F48c1 n (a0) := by kernel_rfl
theorem F48c1_eq (n x0 : _) : F48c1 (n + 1) x0 =
 (F50.run [PK.v (Ty.int .i64).sl] [RK.own 110 (Ty.nm 5)] 4000000 (x0.ints, ())).bind fun r0 =>
  (F49.run [PK.v (Ty.nm 5).sl] [RK.own 5 (Ty.int IntKind.u8)] 4000000 (r0.fst.fst, ())).bind fun r1 =>
   some ((r1.fst.fst, ()), (x0, ())) := by kernel_rfl
noncomputable def F38c11 (n : Nat)  := F38.at [.v (.int .i64), .v (.int .i64)] [.v (.bool)] n 11 ⟨[U, U, U, U, U, U, U, U, U, U, U, U, U, U, U, U, U, U, U, U, U, U, U, U, U, U, U, U, U], []⟩
theorem F38_run (n : Nat) (a0 : Int) (a1 : Int) : F38.run [.v (.int .i64), .v (.int .i64)] [.v (.bool)] n (a0, a1, ()) =
 bif decide (a0 = (0 : Int)) then
  bif decide ((1 : Int) ≤ a1) then
   some ((decide (a1 ≤ (3 : Int)), ()), ())
  else
   some ((false, ()), ())
 else
  bif decide (a0 = (1 : Int)) then
   bif decide (a0 = (1 : Int)) then
    bif decide (a1 = (1 : Int)) then
     some ((true, ()), ())
    else
     some ((decide (a1 = (2 : Int)), ()), ())
   else
    bif decide (a0 = (4 : Int)) then
     bif decide (a0 = (4 : Int)) then
      some ((decide (a1 = (3 : Int)), ()), ())
     else
      F38c11 n
    else
     bif decide (a0 = (5 : Int)) then
      some ((decide (a1 = (3 : Int)), ()), ())
     else
      F38c11 n
  else
   bif decide (a0 = (2 : Int)) then
    bif decide (a0 = (2 : Int)) then
     bif decide (a1 = (1 : Int)) then
      some ((true, ()), ())
     else
      some ((decide (a1 = (2 : Int)), ()), ())
    else
     bif decide (a0 = (4 : Int)) then
      bif decide (a0 = (4 : Int)) then
       some ((decide (a1 = (3 : Int)), ()), ())
      else
       F38c11 n
     else
      bif decide (a0 = (5 : Int)) then
       some ((decide (a1 = (3 : Int)), ()), ())
      else
       F38c11 n
   else
    bif decide (a0 = (3 : Int)) then
     bif decide (a1 = (1 : Int)) then
      some ((true, ()), ())
     else
      some ((decide (a1 = (2 : Int)), ()), ())
    else
     bif decide (a0 = (4 : Int)) then
      bif decide (a0 = (4 : Int)) then
       some ((decide (a1 = (3 : Int)), ()), ())
      else
       F38c11 n
     else
      bif decide (a0 = (5 : Int)) then
       some ((decide (a1 = (3 : Int)), ()), ())
      else
       F38c11 n  := by kernel_rfl
noncomputable def F14c1 (n : Nat) (x0 : Vec) := F14.at [.v (.nm 0)] [.own 38 (.nm 1)] n 1 ⟨[U, .one (.bptr 0 0), U, U, U, U, U, U, U, U, U, U, U, U, U, U, U, U, U, U, U, U, U, U, U, U, U, U], [(0, .whole (.nm 0) x0 [])]⟩
noncomputable def F14c3 (n : Nat) (x0 : Int) (x1 : Vec) (x2 : List (Cost)) := F14.at [.v (.nm 0)] [.own 38 (.nm 1)] n 3 ⟨[U, .one (.bptr 0 0), U, .one (.own 1), .one (.int .i64 x0), U, U, U, U, U, U, U, U, U, U, U, U, U, U, U, U, U, U, U, U, U, U, U], [(0, .whole (.nm 0) x1 []), (1, .row 38 (.nm 1) x2 [] false)]⟩
noncomputable def F14c9 (n : Nat) (x0 : Int) (x1 : Vec) (x2 : List (Cost)) (x3 : Cost) := F14.at [.v (.nm 0)] [.own 38 (.nm 1)] n 9 ⟨[U, .one (.bptr 0 0), U, .one (.own 1), .one (.int .i64 x0), .one (.bptr 2 0), U, U, U, U, U, U, U, U, U, U, U, U, U, U, U, U, U, U, U, U, U, U], [(0, .whole (.nm 0) x1 []), (1, .row 38 (.nm 1) x2 [] false), (2, .whole (.nm 1) x3 [])]⟩
theorem F14_run (n : Nat) (a0 : Vec) : F14.run [.v (.nm 0)] [.own 38 (.nm 1)] n (a0, ()) =
 F14c1 n (a0) := by kernel_rfl
theorem F14c1_eq (n x0 : _) : F14c1 (n + 1) x0 =
 F14c3 n ((0 : Int)) (x0) ([]) := by kernel_rfl
theorem F14c3_eq (n x0 x1 x2 : _) : F14c3 (n + 1) x0 x1 x2 =
 bif decide (x0 ≤ (5 : Int)) then
  (F38.run [PK.v (Ty.int .i64), PK.v (Ty.int .i64)] [RK.v Ty.bool] 4000000 (x0, x1.f_Type, ())).bind fun r0 =>
   bif !r0.fst.fst then
    F14c9 n (x0) (x1) (x2) ({ encoding := x0, bytes := (-1 : Int) : Cost })
   else
    bif decide (x0 = (1 : Int)) then
     (F48.run [PK.bw (Ty.nm 0)] [RK.own 5 (Ty.int IntKind.u8)] 4000000 (x1, ())).bind fun r1 =>
      F14c9 n (x0) (x1) (x2) ({ encoding := x0, bytes := IntKind.i64.wrap ((1 : Int) + (↑(List.length r1.fst.fst) : Int)) : Cost })
    else
     bif decide (x0 = (2 : Int)) then
      (F51.run [PK.bw (Ty.nm 0)] [RK.own 5 (Ty.int IntKind.u8)] 4000000 (x1, ())).bind fun r2 =>
       F14c9 n (x0) (x1) (x2) ({ encoding := x0, bytes := IntKind.i64.wrap ((1 : Int) + (↑(List.length r2.fst.fst) : Int)) : Cost })
     else
      bif decide (x0 = (3 : Int)) then
       (F53.run [PK.bw (Ty.nm 0)] [RK.own 5 (Ty.int IntKind.u8)] 4000000 (x1, ())).bind fun r3 =>
        F14c9 n (x0) (x1) (x2) ({ encoding := x0, bytes := IntKind.i64.wrap ((1 : Int) + (↑(List.length r3.fst.fst) : Int)) : Cost })
      else
       bif decide (x0 = (4 : Int)) then
        (F55.run [PK.bw (Ty.nm 0)] [RK.own 5 (Ty.int IntKind.u8)] 4000000 (x1, ())).bind fun r4 =>
         F14c9 n (x0) (x1) (x2) ({ encoding := x0, bytes := IntKind.i64.wrap ((1 : Int) + (↑(List.length r4.fst.fst) : Int)) : Cost })
       else
        bif decide (x0 = (5 : Int)) then
         (F57.run [PK.bw (Ty.nm 0)] [RK.own 5 (Ty.int IntKind.u8)] 4000000 (x1, ())).bind fun r5 =>
          F14c9 n (x0) (x1) (x2) ({ encoding := x0, bytes := IntKind.i64.wrap ((1 : Int) + (↑(List.length r5.fst.fst) : Int)) : Cost })
        else
         (F59.run [PK.bw (Ty.nm 0)] [RK.own 5 (Ty.int IntKind.u8)] 4000000 (x1, ())).bind fun r6 =>
          F14c9 n (x0) (x1) (x2) ({ encoding := x0, bytes := IntKind.i64.wrap ((1 : Int) + (↑(List.length r6.fst.fst) : Int)) : Cost })
 else
  some ((x2, ()), ()) := by kernel_rfl
theorem F14c9_eq (n x0 x1 x2 x3 : _) : F14c9 (n + 1) x0 x1 x2 x3 =
 if x2.length + (1 : Nat) ≤ lim then
  F14c3 n (IntKind.i64.wrap (x0 + (1 : Int))) (x1) (x2 ++ [x3])
 else
  none := by kernel_rfl
noncomputable def F16c4 (n : Nat) (x0 : List (Cost)) (x1 : Int) (x2 : Int) (x3 : Cost) := F16.at [.v (.nm 0)] [.v (.int .i64)] n 4 ⟨[U, U, U, U, .one (.bptr 0 0), U, U, U, U, U, U, U, U, .one (.data (.sl (.nm 1)) x0 []), .one (.int .i64 x1), .one (.int .i64 x2), U, U, U, U, U, U, U, U, U], [(0, .whole (.nm 1) x3 [])]⟩
theorem F16_run (n : Nat) (a0 : Vec) : F16.run [.v (.nm 0)] [.v (.int .i64)] n (a0, ()) =
 (F14.run [PK.v (Ty.nm 0)] [RK.own 38 (Ty.nm 1)] 4000000 (a0, ())).bind fun r0 =>
  if (0 : Int) < (↑(List.length r0.fst.fst) : Int) then
   if (1 : Int) ≤ (↑(List.length r0.fst.fst) : Int) then
    if (↑(List.length r0.fst.fst) : Int) ≤ (↑(List.length r0.fst.fst) : Int) then
     F16c4 n (List.drop (Int.toNat (1 : Int)) (List.take (↑(List.length r0.fst.fst) : Int).toNat r0.fst.fst)) ((↑(List.drop (Int.toNat (1 : Int)) (List.take (↑(List.length r0.fst.fst) : Int).toNat r0.fst.fst)).length : Int)) ((0 : Int)) (List.getD r0.fst.fst (Int.toNat (0 : Int)) zCost)
    else
     none
   else
    none
  else
   none := by kernel_rfl
theorem F16c4_eq (n x0 x1 x2 x3 : _) : F16c4 (n + 1) x0 x1 x2 x3 =
 bif decide (x2 < x1) then
  if (0 : Int) ≤ x2 then
   if x2 < (↑x0.length : Int) then
    (F36.run [PK.v (Ty.nm 1), PK.v (Ty.nm 1), PK.fv 37] [RK.v (Ty.nm 1)] 4000000 (x3, x0.getD x2.toNat zCost, (), ())).bind fun r1 =>
     F16c4 n (x0) (x1) (IntKind.i64.wrap (x2 + (1 : Int))) (r1.fst.fst)
   else
    none
  else
   none
 else
  some ((x3.encoding, ()), ()) := by kernel_rfl
noncomputable def F33c4 (n : Nat) (x0 : Int) (x1 : Vec) := F33.at [.v (.nm 0)] [.v (.bool)] n 4 ⟨[U, .one (.bptr 0 0), U, .one (.int .i64 x0), U, U, U, U, U, U, U, U, U, U, U, U, U, U, U, U, U, U, U, U, U, U, U, U, U, U, U, U, U, U, U, U, U, U, U, U, U, U, U, U, U, U, U, U, U, U, U, U, U, U, U, U, U, U, U, U, U, U, U, U, U, U, U, U, U, U, U, U, U, U, U, U, U, U, U, U, U, U, U, U, U, U, U, U, U, U, U, U], [(0, .whole (.nm 0) x1 [])]⟩
noncomputable def F33c6 (n : Nat) (x0 : Vec) := F33.at [.v (.nm 0)] [.v (.bool)] n 6 ⟨[U, .one (.bptr 0 0), U, U, U, U, U, U, U, U, U, U, U, U, U, U, U, U, U, U, U, U, U, U, U, U, U, U, U, U, U, U, U, U, U, U, U, U, U, U, U, U, U, U, U, U, U, U, U, U, U, U, U, U, U, U, U, U, U, U, U, U, U, U, U, U, U, U, U, U, U, U, U, U, U, U, U, U, U, U, U, U, U, U, U, U, U, U, U, U, U, U], [(0, .whole (.nm 0) x0 [])]⟩
noncomputable def F33c7 (n : Nat) (x0 : List (Bool)) (x1 : Int) (x2 : Int) (x3 : Vec) := F33.at [.v (.nm 0)] [.v (.bool)] n 7 ⟨[U, .one (.bptr 0 0), U, U, U, U, U, U, U, U, U, U, U, U, U, U, U, U, U, U, U, U, U, U, U, U, U, U, U, U, U, U, U, U, U, U, U, U, U, U, U, U, U, U, U, U, U, U, U, U, U, U, U, U, U, U, .one (.data (.sl .bool) x0 []), .one (.int .i64 x1), .one (.int .i64 x2), U, U, U, U, U, U, U, U, U, U, U, U, U, U, U, U, U, U, U, U, U, U, U, U, U, U, U, U, U, U, U, U, U], [(0, .whole (.nm 0) x3 [])]⟩
noncomputable def F33c15 (n : Nat) (x0 : List (Bool)) (x1 : Int) (x2 : Int) (x3 : Vec) := F33.at [.v (.nm 0)] [.v (.bool)] n 15 ⟨[U, .one (.bptr 0 0), U, U, U, U, U, U, U, U, U, U, U, U, U, U, U, U, U, U, U, U, U, U, U, U, U, U, U, U, U, U, U, U, U, U, U, U, U, U, U, U, U, U, U, U, U, U, U, U, U, U, U, U, U, U, .one (.data (.sl .bool) x0 []), .one (.int .i64 x1), .one (.int .i64 x2), U, U, U, U, U, U, U, U, U, U, U, U, U, U, U, U, U, U, U, U, U, U, U, U, U, U, U, U, U, U, U, U, U], [(0, .whole (.nm 0) x3 [])]⟩
theorem F33_run (n : Nat) (a0 : Vec) : F33.run [.v (.nm 0)] [.v (.bool)] n (a0, ()) =
 bif decide (a0.f_Type < (1 : Int)) then
  some ((false, ()), ())
 else
  bif decide ((3 : Int) < a0.f_Type) then
   some ((false, ()), ())
  else
   bif decide ((65536 : Int) < (↑a0.nulls.length : Int)) then
    some ((false, ()), ())
   else
    F33c4 n ((↑a0.nulls.length : Int)) (a0) := by kernel_rfl
theorem F33c4_eq (n x0 x1 : _) : F33c4 (n + 1) x0 x1 =
 bif decide (x1.f_Type = (3 : Int)) then
  bif !decide ((↑x1.texts.length : Int) = x0) then
   some ((false, ()), ())
  else
   bif !decide ((↑x1.ints.length : Int) = (0 : Int)) then
    some ((false, ()), ())
   else
    bif !decide (x1.f_Type = (3 : Int)) then
     bif !decide ((↑x1.ints.length : Int) = x0) then
      some ((false, ()), ())
     else
      bif !decide ((↑x1.texts.length : Int) = (0 : Int)) then
       some ((false, ()), ())
      else
       F33c6 n (x1)
    else
     F33c6 n (x1)
 else
  bif !decide (x1.f_Type = (3 : Int)) then
   bif !decide ((↑x1.ints.length : Int) = x0) then
    some ((false, ()), ())
   else
    bif !decide ((↑x1.texts.length : Int) = (0 : Int)) then
     some ((false, ()), ())
    else
     F33c6 n (x1)
  else
   F33c6 n (x1) := by kernel_rfl
theorem F33c6_eq (n x0 : _) : F33c6 (n + 1) x0 =
 F33c7 n (x0.nulls) ((↑x0.nulls.length : Int)) ((0 : Int)) (x0) := by kernel_rfl
theorem F33c7_eq (n x0 x1 x2 x3 : _) : F33c7 (n + 1) x0 x1 x2 x3 =
 bif decide (x2 < x1) then
  if (0 : Int) ≤ x2 then
   if x2 < (↑x0.length : Int) then
    bif x0.getD x2.toNat false then
     some ((false, ()), ())
    else
     bif decide (x3.f_Type = (1 : Int)) then
      if (0 : Int) ≤ x2 then
       if x2 < (↑x3.ints.length : Int) then
        bif !decide (bits BinOp.andNot IntKind.i64 (x3.ints.getD x2.toNat (0 : Int)) (1 : Int) = (0 : Int)) then
         some ((false, ()), ())
        else
         bif decide (x3.f_Type = (3 : Int)) then
          if (0 : Int) ≤ x2 then
           if x2 < (↑x3.texts.length : Int) then
            bif decide ((4096 : Int) < (↑(x3.texts.getD x2.toNat []).length : Int)) then
             some ((false, ()), ())
            else
             F33c15 n (x0) (x1) (x2) (x3)
           else
            none
          else
           none
         else
          F33c15 n (x0) (x1) (x2) (x3)
       else
        none
      else
       none
     else
      bif decide (x3.f_Type = (3 : Int)) then
       if (0 : Int) ≤ x2 then
        if x2 < (↑x3.texts.length : Int) then
         bif decide ((4096 : Int) < (↑(x3.texts.getD x2.toNat []).length : Int)) then
          some ((false, ()), ())
         else
          F33c15 n (x0) (x1) (x2) (x3)
        else
         none
       else
        none
      else
       F33c15 n (x0) (x1) (x2) (x3)
   else
    none
  else
   none
 else
  some ((true, ()), ()) := by kernel_rfl
theorem F33c15_eq (n x0 x1 x2 x3 : _) : F33c15 (n + 1) x0 x1 x2 x3 =
 F33c7 n (x0) (x1) (IntKind.i64.wrap (x2 + (1 : Int))) (x3) := by kernel_rfl
noncomputable def F11c1 (n : Nat) (x0 : Int) (x1 : Vec) := F11.at [.v (.nm 0), .v (.int .i64)] [.own 5 (.int .u8), .v (.int .i64)] n 1 ⟨[U, .one (.int .i64 x0), .one (.bptr 0 0), U, U, U, U, U, U, U, U, U, U, U, U, U, U, U, U, U, U, U, U, U, U, U, U, U, U], [(0, .whole (.nm 0) x1 [])]⟩
noncomputable def F11c3 (n : Nat) (x0 : Int) (x1 : Vec) := F11.at [.v (.nm 0), .v (.int .i64)] [.own 5 (.int .u8), .v (.int .i64)] n 3 ⟨[U, .one (.int .i64 x0), .one (.bptr 0 0), U, U, U, U, U, U, U, U, U, U, U, U, U, U, U, U, U, U, U, U, U, U, U, U, U, U], [(0, .whole (.nm 0) x1 [])]⟩
theorem F11_run (n : Nat) (a0 : Vec) (a1 : Int) : F11.run [.v (.nm 0), .v (.int .i64)] [.own 5 (.int .u8), .v (.int .i64)] n (a0, a1, ()) =
 F11c1 n (a1) (a0) := by kernel_rfl
theorem F11c1_eq (n x0 x1 : _) : F11c1 (n + 1) x0 x1 =
 (F33.run [PK.v (Ty.nm 0)] [RK.v Ty.bool] 4000000 (x1, ())).bind fun r0 =>
  bif !r0.fst.fst then
   some (([], ((1 : Int), ())), ())
  else
   bif decide (x0 < (0 : Int)) then
    some (([], ((1 : Int), ())), ())
   else
    bif decide ((5 : Int) < x0) then
     some (([], ((1 : Int), ())), ())
    else
     F11c3 n (x0) (x1) := by kernel_rfl
theorem F11c3_eq (n x0 x1 : _) : F11c3 (n + 1) x0 x1 =
 (F38.run [PK.v (Ty.int .i64), PK.v (Ty.int .i64)] [RK.v Ty.bool] 4000000 (x0, x1.f_Type, ())).bind fun r1 =>
  bif !r1.fst.fst then
   some (([], ((7 : Int), ())), ())
  else
   bif decide (x0 = (1 : Int)) then
    (F48.run [PK.bw (Ty.nm 0)] [RK.own 5 (Ty.int IntKind.u8)] 4000000 (x1, ())).bind fun r2 =>
     if (1 : Nat) + List.length r2.fst.fst ≤ lim then
      some (([IntKind.u8.wrap x0] ++ r2.fst.fst, ((0 : Int), ())), ())
     else
      none
   else
    bif decide (x0 = (2 : Int)) then
     (F51.run [PK.bw (Ty.nm 0)] [RK.own 5 (Ty.int IntKind.u8)] 4000000 (x1, ())).bind fun r3 =>
      if (1 : Nat) + List.length r3.fst.fst ≤ lim then
       some (([IntKind.u8.wrap x0] ++ r3.fst.fst, ((0 : Int), ())), ())
      else
       none
    else
     bif decide (x0 = (3 : Int)) then
      (F53.run [PK.bw (Ty.nm 0)] [RK.own 5 (Ty.int IntKind.u8)] 4000000 (x1, ())).bind fun r4 =>
       if (1 : Nat) + List.length r4.fst.fst ≤ lim then
        some (([IntKind.u8.wrap x0] ++ r4.fst.fst, ((0 : Int), ())), ())
       else
        none
     else
      bif decide (x0 = (4 : Int)) then
       (F55.run [PK.bw (Ty.nm 0)] [RK.own 5 (Ty.int IntKind.u8)] 4000000 (x1, ())).bind fun r5 =>
        if (1 : Nat) + List.length r5.fst.fst ≤ lim then
         some (([IntKind.u8.wrap x0] ++ r5.fst.fst, ((0 : Int), ())), ())
        else
         none
      else
       bif decide (x0 = (5 : Int)) then
        (F57.run [PK.bw (Ty.nm 0)] [RK.own 5 (Ty.int IntKind.u8)] 4000000 (x1, ())).bind fun r6 =>
         if (1 : Nat) + List.length r6.fst.fst ≤ lim then
          some (([IntKind.u8.wrap x0] ++ r6.fst.fst, ((0 : Int), ())), ())
         else
          none
       else
        (F59.run [PK.bw (Ty.nm 0)] [RK.own 5 (Ty.int IntKind.u8)] 4000000 (x1, ())).bind fun r7 =>
         if (1 : Nat) + List.length r7.fst.fst ≤ lim then
          some (([IntKind.u8.wrap x0] ++ r7.fst.fst, ((0 : Int), ())), ())
         else
          none := by kernel_rfl
noncomputable def F13c4 (n : Nat) (x0 : Int) (x1 : Vec) := F13.at [.v (.nm 0)] [.v (.bool)] n 4 ⟨[U, .one (.bptr 0 0), U, .one (.int .i64 x0), U, U, U, U, U, U, U, U, U, U, U, U, U, U, U, U, U, U, U, U, U, U, U, U, U, U, U, U, U, U, U, U, U, U, U, U, U, U, U, U, U, U, U, U, U, U, U, U, U, U, U, U, U, U, U, U, U, U, U, U, U, U, U, U, U, U, U, U, U, U, U, U, U, U, U, U, U, U, U, U, U, U, U, U, U, U, U, U, U, U, U, U, U, U, U], [(0, .whole (.nm 0) x1 [])]⟩
noncomputable def F13c6 (n : Nat) (x0 : Int) (x1 : Vec) := F13.at [.v (.nm 0)] [.v (.bool)] n 6 ⟨[U, .one (.bptr 0 0), U, .one (.int .i64 x0), U, U, U, U, U, U, U, U, U, U, U, U, U, U, U, U, U, U, U, U, U, U, U, U, U, U, U, U, U, U, U, U, U, U, U, U, U, U, U, U, U, U, U, U, U, U, U, U, U, U, U, U, U, U, U, U, U, U, U, U, U, U, U, U, U, U, U, U, U, U, U, U, U, U, U, U, U, U, U, U, U, U, U, U, U, U, U, U, U, U, U, U, U, U, U], [(0, .whole (.nm 0) x1 [])]⟩
noncomputable def F13c7 (n : Nat) (x0 : Int) (x1 : Int) (x2 : Vec) := F13.at [.v (.nm 0)] [.v (.bool)] n 7 ⟨[U, .one (.bptr 0 0), U, .one (.int .i64 x0), .one (.int .i64 x1), U, U, U, U, U, U, U, U, U, U, U, U, U, U, U, U, U, U, U, U, U, U, U, U, U, U, U, U, U, U, U, U, U, U, U, U, U, U, U, U, U, U, U, U, U, U, U, U, U, U, U, U, U, U, U, U, U, U, U, U, U, U, U, U, U, U, U, U, U, U, U, U, U, U, U, U, U, U, U, U, U, U, U, U, U, U, U, U, U, U, U, U, U, U], [(0, .whole (.nm 0) x2 [])]⟩
noncomputable def F13c8 (n : Nat) (x0 : Int) (x1 : Int) (x2 : Vec) := F13.at [.v (.nm 0)] [.v (.bool)] n 8 ⟨[U, .one (.bptr 0 0), U, .one (.int .i64 x0), .one (.int .i64 x1), U, U, U, U, U, U, U, U, U, U, U, U, U, U, U, U, U, U, U, U, U, U, U, U, U, U, U, U, U, U, U, U, U, U, U, U, U, U, U, U, U, U, U, U, U, U, U, U, U, U, U, U, U, U, U, U, U, U, U, U, U, U, U, U, U, U, U, U, U, U, U, U, U, U, U, U, U, U, U, U, U, U, U, U, U, U, U, U, U, U, U, U, U, U], [(0, .whole (.nm 0) x2 [])]⟩
theorem F13_run (n : Nat) (a0 : Vec) : F13.run [.v (.nm 0)] [.v (.bool)] n (a0, ()) =
 bif decide (a0.f_Type < (1 : Int)) then
  some ((false, ()), ())
 else
  bif decide ((3 : Int) < a0.f_Type) then
   some ((false, ()), ())
  else
   bif decide ((65536 : Int) < (↑a0.nulls.length : Int)) then
    some ((false, ()), ())
   else
    F13c4 n ((↑a0.nulls.length : Int)) (a0) := by kernel_rfl
theorem F13c4_eq (n x0 x1 : _) : F13c4 (n + 1) x0 x1 =
 bif decide (x1.f_Type = (3 : Int)) then
  bif !decide ((↑x1.ints.length : Int) = (0 : Int)) then
   some ((false, ()), ())
  else
   bif !decide ((↑x1.texts.length : Int) = x0) then
    some ((false, ()), ())
   else
    bif !decide (x1.f_Type = (3 : Int)) then
     bif !decide ((↑x1.texts.length : Int) = (0 : Int)) then
      some ((false, ()), ())
     else
      bif !decide ((↑x1.ints.length : Int) = x0) then
       some ((false, ()), ())
      else
       F13c6 n (x0) (x1)
    else
     F13c6 n (x0) (x1)
 else
  bif !decide (x1.f_Type = (3 : Int)) then
   bif !decide ((↑x1.texts.length : Int) = (0 : Int)) then
    some ((false, ()), ())
   else
    bif !decide ((↑x1.ints.length : Int) = x0) then
     some ((false, ()), ())
    else
     F13c6 n (x0) (x1)
  else
   F13c6 n (x0) (x1) := by kernel_rfl
theorem F13c6_eq (n x0 x1 : _) : F13c6 (n + 1) x0 x1 =
 F13c7 n (x0) ((0 : Int)) (x1) := by kernel_rfl
theorem F13c7_eq (n x0 x1 x2 : _) : F13c7 (n + 1) x0 x1 x2 =
 bif decide (x1 < x0) then
  if (0 : Int) ≤ x1 then
   if x1 < (↑x2.nulls.length : Int) then
    bif x2.nulls.getD x1.toNat false then
     some ((false, ()), ())
    else
     bif decide (x2.f_Type = (1 : Int)) then
      if (0 : Int) ≤ x1 then
       if x1 < (↑x2.ints.length : Int) then
        bif !decide (x2.ints.getD x1.toNat (0 : Int) = (0 : Int)) then
         if (0 : Int) ≤ x1 then
          if x1 < (↑x2.ints.length : Int) then
           bif !decide (x2.ints.getD x1.toNat (0 : Int) = (1 : Int)) then
            some ((false, ()), ())
           else
            bif decide (x2.f_Type = (3 : Int)) then
             if (0 : Int) ≤ x1 then
              if x1 < (↑x2.texts.length : Int) then
               bif decide ((4096 : Int) < (↑(x2.texts.getD x1.toNat []).length : Int)) then
                some ((false, ()), ())
               else
                F13c8 n (x0) (x1) (x2)
              else
               none
             else
              none
            else
             F13c8 n (x0) (x1) (x2)
          else
           none
         else
          none
        else
         bif decide (x2.f_Type = (3 : Int)) then
          if (0 : Int) ≤ x1 then
           if x1 < (↑x2.texts.length : Int) then
            bif decide ((4096 : Int) < (↑(x2.texts.getD x1.toNat []).length : Int)) then
             some ((false, ()), ())
            else
             F13c8 n (x0) (x1) (x2)
           else
            none
          else
           none
         else
          F13c8 n (x0) (x1) (x2)
       else
        none
      else
       none
     else
      bif decide (x2.f_Type = (3 : Int)) then
       if (0 : Int) ≤ x1 then
        if x1 < (↑x2.texts.length : Int) then
         bif decide ((4096 : Int) < (↑(x2.texts.getD x1.toNat []).length : Int)) then
          some ((false, ()), ())
         else
          F13c8 n (x0) (x1) (x2)
        else
         none
       else
        none
      else
       F13c8 n (x0) (x1) (x2)
   else
    none
  else
   none
 else
  some ((true, ()), ()) := by kernel_rfl
theorem F13c8_eq (n x0 x1 x2 : _) : F13c8 (n + 1) x0 x1 x2 =
 F13c7 n (x0) (IntKind.i64.wrap (x1 + (1 : Int))) (x2) := by kernel_rfl
noncomputable def F9c3 (n : Nat) (x0 : Int) (x1 : Int) (x2 : Vec) := F9.at [.v (.nm 0)] [.v (.bool)] n 3 ⟨[U, .one (.bptr 0 0), U, .one (.int .i64 x0), .one (.int .i64 x1), U, U, U, U, U, U, U, U, U, U, U, U, U, U, U, U, U, U, U, U, U, U, U, U, U, U, U, U], [(0, .whole (.nm 0) x2 [])]⟩
theorem F9_run (n : Nat) (a0 : Vec) : F9.run [.v (.nm 0)] [.v (.bool)] n (a0, ()) =
 F9c3 n (IntKind.i64.wrap (IntKind.i64.wrap ((↑a0.ints.length : Int) + (↑a0.texts.length : Int)) + (↑a0.nulls.length : Int))) ((0 : Int)) (a0) := by kernel_rfl
theorem F9c3_eq (n x0 x1 x2 : _) : F9c3 (n + 1) x0 x1 x2 =
 bif decide (x1 < (↑x2.texts.length : Int)) then
  if (0 : Int) ≤ x1 then
   if x1 < (↑x2.texts.length : Int) then
    F9c3 n (IntKind.i64.wrap (x0 + (↑(x2.texts.getD x1.toNat []).length : Int))) (IntKind.i64.wrap (x1 + (1 : Int))) (x2)
   else
    none
  else
   none
 else
  some ((decide (x0 ≤ (10000 : Int)), ()), ()) := by kernel_rfl
end Go.Proofs.Tryz
