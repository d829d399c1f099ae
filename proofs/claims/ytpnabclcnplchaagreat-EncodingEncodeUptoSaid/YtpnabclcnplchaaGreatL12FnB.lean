/- The functions of the program as the engine follows them (printed by a program of ours): their code, what is known of them, and the equations of their runs. -/
import Derived.Test.YtpnabclcnplchaaGreatL12FnA
set_option linter.unusedVariables false
set_option maxRecDepth 20000
namespace Go.Proofs.Tryz
open Go.Eng
noncomputable def F108 : Eng.Fn NN := ⟨⟨(Eng.look tys), (lookS []), Eng.look [(1, [0]), (2, [0, 3])], Eng.pinIds 0 [.v (.int .u64)], 0, noInl⟩, Eng.bodyOf Go.Proofs.Tryz.f108, [.tmp 2], 20⟩
noncomputable def sp108 : Eng.Spec NN := F108.spec [.v (.int .u64)] [.own 5 (.int .u8)] 4000000
theorem good108 : Eng.Good prog 108 sp108 := Eng.good_fn (fn := f108) fits (by kernel_rfl) mixed (by kernel_rfl) .nil (by kernel_rfl) (by kernel_rfl) (by kernel_rfl) (by kernel_rfl) (by kernel_rfl) (by kernel_rfl) (by kernel_rfl) (by kernel_rfl) (by kernel_rfl)
noncomputable def F164 : Eng.Fn NN := ⟨⟨(Eng.look tys), (lookS []), Eng.look [(2, [0, 1, 5])], Eng.pinIds 0 [.v (.str), .v (.str)], 0, noInl⟩, Eng.bodyOf Go.Proofs.Tryz.f164, [.tmp 4], 28⟩
noncomputable def sp164 : Eng.Spec NN := F164.spec [.v (.str), .v (.str)] [.v (.int .i64)] 4000000
theorem good164 : Eng.Good prog 164 sp164 := Eng.good_fn (fn := f164) fits (by kernel_rfl) mixed (by kernel_rfl) .nil (by kernel_rfl) (by kernel_rfl) (by kernel_rfl) (by kernel_rfl) (by kernel_rfl) (by kernel_rfl) (by kernel_rfl) (by kernel_rfl) (by kernel_rfl)
noncomputable def F117 : Eng.Fn NN := ⟨⟨(Eng.look tys), (lookS [(164, sp164)]), Eng.look [], Eng.pinIds 0 [.v (.sl (.str)), .v (.int .i64)], 0, noInl⟩, Eng.bodyOf Go.Proofs.Tryz.f117, [.tmp 4], 18⟩
noncomputable def sp117 : Eng.Spec NN := F117.spec [.v (.sl (.str)), .v (.int .i64)] [.v (.int .i64)] 4000000
theorem good117 : Eng.Good prog 117 sp117 := Eng.good_fn (fn := f117) fits (by kernel_rfl) mixed (by kernel_rfl) (.cons good164 .nil) (by kernel_rfl) (by kernel_rfl) (by kernel_rfl) (by kernel_rfl) (by kernel_rfl) (by kernel_rfl) (by kernel_rfl) (by kernel_rfl) (by kernel_rfl)
noncomputable def F67 : Eng.Fn NN := ⟨⟨(Eng.look tys), (lookS [(108, sp108), (117, sp117)]), Eng.look [(1, [0]), (3, [0, 3, 4]), (9, [0, 3, 4, 6])], Eng.pinIds 0 [.v (.sl (.str))], 0, noInl⟩, Eng.bodyOf Go.Proofs.Tryz.f67, [.tmp 2], 52⟩
noncomputable def sp67 : Eng.Spec NN := F67.spec [.v (.sl (.str))] [.own 5 (.int .u8)] 400000000
theorem good67 : Eng.Good prog 67 sp67 := Eng.good_fn (fn := f67) fits (by kernel_rfl) mixed (by kernel_rfl) (.cons good108 (.cons good117 .nil)) (by kernel_rfl) (by kernel_rfl) (by kernel_rfl) (by kernel_rfl) (by kernel_rfl) (by kernel_rfl) (by kernel_rfl) (by kernel_rfl) (by kernel_rfl)
noncomputable def F110 : Eng.Fn NN := ⟨⟨(Eng.look tys), (lookS []), Eng.look [(1, [0]), (3, [0, 3, 4]), (6, [0, 3, 4, 5])], Eng.pinIds 0 [.v (.sl (.sl (.int .u8)))], 0, noInl⟩, Eng.bodyOf Go.Proofs.Tryz.f110, [.tmp 2], 32⟩
noncomputable def sp110 : Eng.Spec NN := F110.spec [.v (.sl (.sl (.int .u8)))] [.own 5 (.int .u8)] 400000000
theorem good110 : Eng.Good prog 110 sp110 := Eng.good_fn (fn := f110) fits (by kernel_rfl) mixed (by kernel_rfl) .nil (by kernel_rfl) (by kernel_rfl) (by kernel_rfl) (by kernel_rfl) (by kernel_rfl) (by kernel_rfl) (by kernel_rfl) (by kernel_rfl) (by kernel_rfl)
noncomputable def F109 : Eng.Fn NN := ⟨⟨(Eng.look tys), (lookS []), Eng.look [], Eng.pinIds 0 [.v (.int .i64)], 0, noInl⟩, Eng.bodyOf Go.Proofs.Tryz.f109, [.tmp 2], 14⟩
noncomputable def sp109 : Eng.Spec NN := F109.spec [.v (.int .i64)] [.v (.int .u64)] 4000000
theorem good109 : Eng.Good prog 109 sp109 := Eng.good_fn (fn := f109) fits (by kernel_rfl) mixed (by kernel_rfl) .nil (by kernel_rfl) (by kernel_rfl) (by kernel_rfl) (by kernel_rfl) (by kernel_rfl) (by kernel_rfl) (by kernel_rfl) (by kernel_rfl) (by kernel_rfl)
noncomputable def F62 : Eng.Fn NN := ⟨⟨(Eng.look tys), (lookS [(110, sp110), (108, sp108), (109, sp109)]), Eng.look [(1, [0]), (4, [0, 3, 4, 5])], Eng.pinIds 0 [.v (.sl (.nm 5))], 0, noInl⟩, Eng.bodyOf Go.Proofs.Tryz.f62, [.tmp 2], 46⟩
noncomputable def sp62 : Eng.Spec NN := F62.spec [.v (.sl (.nm 5))] [.own 5 (.int .u8)] 4000000
theorem good62 : Eng.Good prog 62 sp62 := Eng.good_fn (fn := f62) fits (by kernel_rfl) mixed (by kernel_rfl) (.cons good110 (.cons good108 (.cons good109 .nil))) (by kernel_rfl) (by kernel_rfl) (by kernel_rfl) (by kernel_rfl) (by kernel_rfl) (by kernel_rfl) (by kernel_rfl) (by kernel_rfl) (by kernel_rfl)
noncomputable def F63 : Eng.Fn NN := ⟨⟨(Eng.look tys), (lookS []), Eng.look [(1, [0]), (3, [0, 3, 4]), (4, [0, 3, 4])], Eng.pinIds 0 [.v (.sl (.int .i64))], 0, noInl⟩, Eng.bodyOf Go.Proofs.Tryz.f63, [.tmp 2], 47⟩
noncomputable def sp63 : Eng.Spec NN := F63.spec [.v (.sl (.int .i64))] [.own 110 (.nm 5)] 4000000
theorem good63 : Eng.Good prog 63 sp63 := Eng.good_fn (fn := f63) fits (by kernel_rfl) mixed (by kernel_rfl) .nil (by kernel_rfl) (by kernel_rfl) (by kernel_rfl) (by kernel_rfl) (by kernel_rfl) (by kernel_rfl) (by kernel_rfl) (by kernel_rfl) (by kernel_rfl)
noncomputable def F157 : Eng.Fn NN := ⟨⟨(Eng.look tys), (lookS []), Eng.look [], Eng.pinIds 0 [.v (.int .i64), .v (.int .i64)], 0, noInl⟩, Eng.bodyOf Go.Proofs.Tryz.f157, [.tmp 4], 19⟩
noncomputable def sp157 : Eng.Spec NN := F157.spec [.v (.int .i64), .v (.int .i64)] [.v (.bool)] 4000000
theorem good157 : Eng.Good prog 157 sp157 := Eng.good_fn (fn := f157) fits (by kernel_rfl) mixed (by kernel_rfl) .nil (by kernel_rfl) (by kernel_rfl) (by kernel_rfl) (by kernel_rfl) (by kernel_rfl) (by kernel_rfl) (by kernel_rfl) (by kernel_rfl) (by kernel_rfl)
noncomputable def F136 : Eng.Fn NN := ⟨⟨(Eng.look tys), (lookS [(157, sp157)]), Eng.look [], Eng.pinIds 0 [.v (.int .i64), .v (.int .i64)], 0, noInl⟩, Eng.bodyOf Go.Proofs.Tryz.f136, [.tmp 4], 14⟩
noncomputable def sp136 : Eng.Spec NN := F136.spec [.v (.int .i64), .v (.int .i64)] [.v (.int .i64)] 4000000
theorem good136 : Eng.Good prog 136 sp136 := Eng.good_fn (fn := f136) fits (by kernel_rfl) mixed (by kernel_rfl) (.cons good157 .nil) (by kernel_rfl) (by kernel_rfl) (by kernel_rfl) (by kernel_rfl) (by kernel_rfl) (by kernel_rfl) (by kernel_rfl) (by kernel_rfl) (by kernel_rfl)
noncomputable def F105 : Eng.Fn NN := ⟨⟨(Eng.look tys), (lookS [(136, sp136), (157, sp157)]), Eng.look [(1, [0, 1]), (5, [0, 1, 5, 6]), (8, [0, 1, 5, 6, 7])], Eng.pinIds 0 [.v (.sl (.int .u64)), .v (.int .i64)], 0, noInl⟩, Eng.bodyOf Go.Proofs.Tryz.f105, [.tmp 4], 58⟩
noncomputable def sp105 : Eng.Spec NN := F105.spec [.v (.sl (.int .u64)), .v (.int .i64)] [.own 5 (.int .u8)] 4000000
theorem good105 : Eng.Good prog 105 sp105 := Eng.good_fn (fn := f105) fits (by kernel_rfl) mixed (by kernel_rfl) (.cons good136 (.cons good157 .nil)) (by kernel_rfl) (by kernel_rfl) (by kernel_rfl) (by kernel_rfl) (by kernel_rfl) (by kernel_rfl) (by kernel_rfl) (by kernel_rfl) (by kernel_rfl)
noncomputable def F163 : Eng.Fn NN := ⟨⟨(Eng.look tys), (lookS []), Eng.look [(2, [0, 3])], Eng.pinIds 0 [.v (.int .u64)], 0, noInl⟩, Eng.bodyOf Go.Proofs.Tryz.f163, [.tmp 2], 11⟩
noncomputable def sp163 : Eng.Spec NN := F163.spec [.v (.int .u64)] [.v (.int .i64)] 4000000
theorem good163 : Eng.Good prog 163 sp163 := Eng.good_fn (fn := f163) fits (by kernel_rfl) mixed (by kernel_rfl) .nil (by kernel_rfl) (by kernel_rfl) (by kernel_rfl) (by kernel_rfl) (by kernel_rfl) (by kernel_rfl) (by kernel_rfl) (by kernel_rfl) (by kernel_rfl)
noncomputable def F116 : Eng.Fn NN := ⟨⟨(Eng.look tys), (lookS [(163, sp163)]), Eng.look [], Eng.pinIds 0 [.v (.int .i64)], 0, noInl⟩, Eng.bodyOf Go.Proofs.Tryz.f116, [.tmp 2], 9⟩
noncomputable def sp116 : Eng.Spec NN := F116.spec [.v (.int .i64)] [.v (.int .i64)] 4000000
theorem good116 : Eng.Good prog 116 sp116 := Eng.good_fn (fn := f116) fits (by kernel_rfl) mixed (by kernel_rfl) (.cons good163 .nil) (by kernel_rfl) (by kernel_rfl) (by kernel_rfl) (by kernel_rfl) (by kernel_rfl) (by kernel_rfl) (by kernel_rfl) (by kernel_rfl) (by kernel_rfl)
noncomputable def F115 : Eng.Fn NN := ⟨⟨(Eng.look tys), (lookS [(110, sp110), (108, sp108)]), Eng.look [(1, [0])], Eng.pinIds 0 [.v (.str)], 0, noInl⟩, Eng.bodyOf Go.Proofs.Tryz.f115, [.tmp 2], 11⟩
noncomputable def sp115 : Eng.Spec NN := F115.spec [.v (.str)] [.own 5 (.int .u8)] 4000000
theorem good115 : Eng.Good prog 115 sp115 := Eng.good_fn (fn := f115) fits (by kernel_rfl) mixed (by kernel_rfl) (.cons good110 (.cons good108 .nil)) (by kernel_rfl) (by kernel_rfl) (by kernel_rfl) (by kernel_rfl) (by kernel_rfl) (by kernel_rfl) (by kernel_rfl) (by kernel_rfl) (by kernel_rfl)
noncomputable def F162 : Eng.Fn NN := ⟨⟨(Eng.look tys), (lookS []), Eng.look [(2, [0, 1, 6])], Eng.pinIds 0 [.v (.sl (.str)), .v (.str)], 0, noInl⟩, Eng.bodyOf Go.Proofs.Tryz.f162, [.tmp 4, .tmp 5], 20⟩
noncomputable def sp162 : Eng.Spec NN := F162.spec [.v (.sl (.str)), .v (.str)] [.v (.int .i64), .v (.bool)] 4000000
theorem good162 : Eng.Good prog 162 sp162 := Eng.good_fn (fn := f162) fits (by kernel_rfl) mixed (by kernel_rfl) .nil (by kernel_rfl) (by kernel_rfl) (by kernel_rfl) (by kernel_rfl) (by kernel_rfl) (by kernel_rfl) (by kernel_rfl) (by kernel_rfl) (by kernel_rfl)
noncomputable def F114 : Eng.Fn NN := ⟨⟨(Eng.look tys), (lookS [(162, sp162)]), Eng.look [(1, [0]), (3, [0, 4, 5]), (6, [0, 4, 5, 6]), (8, [0, 4, 5, 6]), (9, [0, 4, 5, 6]), (11, [0, 4, 5, 6, 7]), (17, [0, 4, 8, 9])], Eng.pinIds 0 [.v (.sl (.str))], 0, noInl⟩, Eng.bodyOf Go.Proofs.Tryz.f114, [.tmp 2, .tmp 3], 97⟩
noncomputable def sp114 : Eng.Spec NN := F114.spec [.v (.sl (.str))] [.own 9 (.str), .own 3 (.int .i64)] 1000000000
theorem good114 : Eng.Good prog 114 sp114 := Eng.good_fn (fn := f114) fits (by kernel_rfl) mixed (by kernel_rfl) (.cons good162 .nil) (by kernel_rfl) (by kernel_rfl) (by kernel_rfl) (by kernel_rfl) (by kernel_rfl) (by kernel_rfl) (by kernel_rfl) (by kernel_rfl) (by kernel_rfl)
noncomputable def F66 : Eng.Fn NN := ⟨⟨(Eng.look tys), (lookS [(110, sp110), (62, sp62), (63, sp63), (105, sp105), (116, sp116), (115, sp115), (108, sp108), (114, sp114)]), Eng.look [(1, [0]), (4, [3, 4, 5, 6]), (10, [3, 4, 5, 7, 8, 9])], Eng.pinIds 0 [.v (.sl (.str))], 0, noInl⟩, Eng.bodyOf Go.Proofs.Tryz.f66, [.tmp 2], 88⟩
noncomputable def sp66 : Eng.Spec NN := F66.spec [.v (.sl (.str))] [.own 5 (.int .u8)] 4000000
theorem good66 : Eng.Good prog 66 sp66 := Eng.good_fn (fn := f66) fits (by kernel_rfl) mixed (by kernel_rfl) (.cons good110 (.cons good62 (.cons good63 (.cons good105 (.cons good116 (.cons good115 (.cons good108 (.cons good114 .nil)))))))) (by kernel_rfl) (by kernel_rfl) (by kernel_rfl) (by kernel_rfl) (by kernel_rfl) (by kernel_rfl) (by kernel_rfl) (by kernel_rfl) (by kernel_rfl)
noncomputable def F160 : Eng.Fn NN := ⟨⟨(Eng.look tys), (lookS []), Eng.look [], Eng.pinIds 0 [.v (.int .u64), .v (.int .i64)], 0, noInl⟩, Eng.bodyOf Go.Proofs.Tryz.f160, [.tmp 4], 11⟩
noncomputable def sp160 : Eng.Spec NN := F160.spec [.v (.int .u64), .v (.int .i64)] [.v (.int .u64)] 4000000
theorem good160 : Eng.Good prog 160 sp160 := Eng.good_fn (fn := f160) fits (by kernel_rfl) mixed (by kernel_rfl) .nil (by kernel_rfl) (by kernel_rfl) (by kernel_rfl) (by kernel_rfl) (by kernel_rfl) (by kernel_rfl) (by kernel_rfl) (by kernel_rfl) (by kernel_rfl)
noncomputable def F159 : Eng.Fn NN := ⟨⟨(Eng.look tys), (lookS []), Eng.look [], Eng.pinIds 0 [.v (.int .u64), .v (.int .i64)], 0, noInl⟩, Eng.bodyOf Go.Proofs.Tryz.f159, [.tmp 4], 14⟩
noncomputable def sp159 : Eng.Spec NN := F159.spec [.v (.int .u64), .v (.int .i64)] [.v (.int .u64)] 4000000
theorem good159 : Eng.Good prog 159 sp159 := Eng.good_fn (fn := f159) fits (by kernel_rfl) mixed (by kernel_rfl) .nil (by kernel_rfl) (by kernel_rfl) (by kernel_rfl) (by kernel_rfl) (by kernel_rfl) (by kernel_rfl) (by kernel_rfl) (by kernel_rfl) (by kernel_rfl)
noncomputable def F158 : Eng.Fn NN := ⟨⟨(Eng.look tys), (lookS []), Eng.look [(3, [0, 3, 4]), (4, [0, 3, 4])], Eng.pinIds 0 [.v (.sl (.int .i64))], 0, noInl⟩, Eng.bodyOf Go.Proofs.Tryz.f158, [.tmp 2], 26⟩
noncomputable def sp158 : Eng.Spec NN := F158.spec [.v (.sl (.int .i64))] [.v (.int .i64)] 4000000
theorem good158 : Eng.Good prog 158 sp158 := Eng.good_fn (fn := f158) fits (by kernel_rfl) mixed (by kernel_rfl) .nil (by kernel_rfl) (by kernel_rfl) (by kernel_rfl) (by kernel_rfl) (by kernel_rfl) (by kernel_rfl) (by kernel_rfl) (by kernel_rfl) (by kernel_rfl)
noncomputable def F112 : Eng.Fn NN := ⟨⟨(Eng.look tys), (lookS [(105, sp105), (108, sp108), (109, sp109), (160, sp160), (159, sp159), (158, sp158)]), Eng.look [(1, [0, 1]), (6, [0, 1, 5, 6, 7, 8, 9])], Eng.pinIds 0 [.v (.sl (.int .i64)), .v (.int .i64)], 0, noInl⟩, Eng.bodyOf Go.Proofs.Tryz.f112, [.tmp 4], 73⟩
noncomputable def sp112 : Eng.Spec NN := F112.spec [.v (.sl (.int .i64)), .v (.int .i64)] [.own 5 (.int .u8)] 4000000
theorem good112 : Eng.Good prog 112 sp112 := Eng.good_fn (fn := f112) fits (by kernel_rfl) mixed (by kernel_rfl) (.cons good105 (.cons good108 (.cons good109 (.cons good160 (.cons good159 (.cons good158 .nil)))))) (by kernel_rfl) (by kernel_rfl) (by kernel_rfl) (by kernel_rfl) (by kernel_rfl) (by kernel_rfl) (by kernel_rfl) (by kernel_rfl) (by kernel_rfl)
noncomputable def F111 : Eng.Fn NN := ⟨⟨(Eng.look tys), (lookS [(158, sp158), (112, sp112)]), Eng.look [(3, [0, 4, 5, 6])], Eng.pinIds 0 [.v (.sl (.int .i64))], 0, noInl⟩, Eng.bodyOf Go.Proofs.Tryz.f111, [.tmp 2, .tmp 3], 27⟩
noncomputable def sp111 : Eng.Spec NN := F111.spec [.v (.sl (.int .i64))] [.v (.int .i64), .v (.int .i64)] 4000000
theorem good111 : Eng.Good prog 111 sp111 := Eng.good_fn (fn := f111) fits (by kernel_rfl) mixed (by kernel_rfl) (.cons good158 (.cons good112 .nil)) (by kernel_rfl) (by kernel_rfl) (by kernel_rfl) (by kernel_rfl) (by kernel_rfl) (by kernel_rfl) (by kernel_rfl) (by kernel_rfl) (by kernel_rfl)
noncomputable def F64 : Eng.Fn NN := ⟨⟨(Eng.look tys), (lookS [(112, sp112), (111, sp111)]), Eng.look [(1, [0])], Eng.pinIds 0 [.v (.sl (.int .i64))], 0, noInl⟩, Eng.bodyOf Go.Proofs.Tryz.f64, [.tmp 2], 13⟩
noncomputable def sp64 : Eng.Spec NN := F64.spec [.v (.sl (.int .i64))] [.own 5 (.int .u8)] 4000000
theorem good64 : Eng.Good prog 64 sp64 := Eng.good_fn (fn := f64) fits (by kernel_rfl) mixed (by kernel_rfl) (.cons good112 (.cons good111 .nil)) (by kernel_rfl) (by kernel_rfl) (by kernel_rfl) (by kernel_rfl) (by kernel_rfl) (by kernel_rfl) (by kernel_rfl) (by kernel_rfl) (by kernel_rfl)
noncomputable def F161 : Eng.Fn NN := ⟨⟨(Eng.look tys), (lookS []), Eng.look [(1, [0]), (3, [0, 3, 4])], Eng.pinIds 0 [.v (.sl (.int .i64))], 0, noInl⟩, Eng.bodyOf Go.Proofs.Tryz.f161, [.tmp 2], 25⟩
noncomputable def sp161 : Eng.Spec NN := F161.spec [.v (.sl (.int .i64))] [.own 2 (.int .i64)] 4000000
theorem good161 : Eng.Good prog 161 sp161 := Eng.good_fn (fn := f161) fits (by kernel_rfl) mixed (by kernel_rfl) .nil (by kernel_rfl) (by kernel_rfl) (by kernel_rfl) (by kernel_rfl) (by kernel_rfl) (by kernel_rfl) (by kernel_rfl) (by kernel_rfl) (by kernel_rfl)
noncomputable def F113 : Eng.Fn NN := ⟨⟨(Eng.look tys), (lookS [(64, sp64), (161, sp161), (108, sp108), (109, sp109)]), Eng.look [(1, [0, 1]), (4, [1, 5, 6, 7]), (6, [1, 5, 6, 7])], Eng.pinIds 0 [.v (.sl (.int .i64)), .v (.int .i64)], 0, noInl⟩, Eng.bodyOf Go.Proofs.Tryz.f113, [.tmp 4], 35⟩
noncomputable def sp113 : Eng.Spec NN := F113.spec [.v (.sl (.int .i64)), .v (.int .i64)] [.own 5 (.int .u8)] 4000000
theorem good113 : Eng.Good prog 113 sp113 := Eng.good_fn (fn := f113) fits (by kernel_rfl) mixed (by kernel_rfl) (.cons good64 (.cons good161 (.cons good108 (.cons good109 .nil)))) (by kernel_rfl) (by kernel_rfl) (by kernel_rfl) (by kernel_rfl) (by kernel_rfl) (by kernel_rfl) (by kernel_rfl) (by kernel_rfl) (by kernel_rfl)
noncomputable def F65 : Eng.Fn NN := ⟨⟨(Eng.look tys), (lookS [(113, sp113)]), Eng.look [(1, [0])], Eng.pinIds 0 [.v (.sl (.int .i64))], 0, noInl⟩, Eng.bodyOf Go.Proofs.Tryz.f65, [.tmp 2], 23⟩
noncomputable def sp65 : Eng.Spec NN := F65.spec [.v (.sl (.int .i64))] [.own 5 (.int .u8)] 4000000
theorem good65 : Eng.Good prog 65 sp65 := Eng.good_fn (fn := f65) fits (by kernel_rfl) mixed (by kernel_rfl) (.cons good113 .nil) (by kernel_rfl) (by kernel_rfl) (by kernel_rfl) (by kernel_rfl) (by kernel_rfl) (by kernel_rfl) (by kernel_rfl) (by kernel_rfl) (by kernel_rfl)
noncomputable def F107 : Eng.Fn NN := ⟨⟨(Eng.look tys), (lookS []), Eng.look [(1, [0, 1]), (3, [0, 1]), (5, [0, 1, 5, 6])], Eng.pinIds 0 [.v (.int .u64), .v (.int .i64)], 0, noInl⟩, Eng.bodyOf Go.Proofs.Tryz.f107, [.tmp 4], 27⟩
noncomputable def sp107 : Eng.Spec NN := F107.spec [.v (.int .u64), .v (.int .i64)] [.own 5 (.int .u8)] 4000000
theorem good107 : Eng.Good prog 107 sp107 := Eng.good_fn (fn := f107) fits (by kernel_rfl) mixed (by kernel_rfl) .nil (by kernel_rfl) (by kernel_rfl) (by kernel_rfl) (by kernel_rfl) (by kernel_rfl) (by kernel_rfl) (by kernel_rfl) (by kernel_rfl) (by kernel_rfl)
noncomputable def F106 : Eng.Fn NN := ⟨⟨(Eng.look tys), (lookS []), Eng.look [(1, [0]), (3, [0, 3, 4])], Eng.pinIds 0 [.v (.sl (.int .i64))], 0, noInl⟩, Eng.bodyOf Go.Proofs.Tryz.f106, [.tmp 2], 20⟩
noncomputable def sp106 : Eng.Spec NN := F106.spec [.v (.sl (.int .i64))] [.own 83 (.int .u64)] 4000000
theorem good106 : Eng.Good prog 106 sp106 := Eng.good_fn (fn := f106) fits (by kernel_rfl) mixed (by kernel_rfl) .nil (by kernel_rfl) (by kernel_rfl) (by kernel_rfl) (by kernel_rfl) (by kernel_rfl) (by kernel_rfl) (by kernel_rfl) (by kernel_rfl) (by kernel_rfl)
noncomputable def F61 : Eng.Fn NN := ⟨⟨(Eng.look tys), (lookS [(108, sp108), (107, sp107), (105, sp105), (106, sp106)]), Eng.look [(1, [1]), (5, [1, 3, 4]), (9, [1, 3, 5])], Eng.pinIds 0 [.v (.nm 0)], 0, noInl⟩, Eng.bodyOf Go.Proofs.Tryz.f61, [.tmp 2], 54⟩
noncomputable def sp61 : Eng.Spec NN := F61.spec [.v (.nm 0)] [.own 5 (.int .u8)] 4000000
theorem good61 : Eng.Good prog 61 sp61 := Eng.good_fn (fn := f61) fits (by kernel_rfl) mixed (by kernel_rfl) (.cons good108 (.cons good107 (.cons good105 (.cons good106 .nil)))) (by kernel_rfl) (by kernel_rfl) (by kernel_rfl) (by kernel_rfl) (by kernel_rfl) (by kernel_rfl) (by kernel_rfl) (by kernel_rfl) (by kernel_rfl)
noncomputable def F35 : Eng.Fn NN := ⟨⟨(Eng.look tys), (lookS [(67, sp67), (66, sp66), (65, sp65), (64, sp64), (62, sp62), (63, sp63), (61, sp61)]), Eng.look [(1, [1, 2])], Eng.pinIds 0 [.v (.nm 0), .v (.int .i64)], 0, noInl⟩, Eng.bodyOf Go.Proofs.Tryz.f35, [.tmp 4], 50⟩
noncomputable def sp35 : Eng.Spec NN := F35.spec [.v (.nm 0), .v (.int .i64)] [.own 5 (.int .u8)] 4000000
theorem good35 : Eng.Good prog 35 sp35 := Eng.good_fn (fn := f35) fits (by kernel_rfl) mixed (by kernel_rfl) (.cons good67 (.cons good66 (.cons good65 (.cons good64 (.cons good62 (.cons good63 (.cons good61 .nil))))))) (by kernel_rfl) (by kernel_rfl) (by kernel_rfl) (by kernel_rfl) (by kernel_rfl) (by kernel_rfl) (by kernel_rfl) (by kernel_rfl) (by kernel_rfl)
noncomputable def F25 : Eng.Fn NN := ⟨⟨(Eng.look tys), (lookS []), Eng.look [(11, [])], Eng.pinIds 0 [.v (.int .i64), .v (.int .i64)], 0, noInl⟩, Eng.bodyOf Go.Proofs.Tryz.f25, [.tmp 4], 23⟩
noncomputable def sp25 : Eng.Spec NN := F25.spec [.v (.int .i64), .v (.int .i64)] [.v (.bool)] 4000000
theorem good25 : Eng.Good prog 25 sp25 := Eng.good_fn (fn := f25) fits (by kernel_rfl) mixed (by kernel_rfl) .nil (by kernel_rfl) (by kernel_rfl) (by kernel_rfl) (by kernel_rfl) (by kernel_rfl) (by kernel_rfl) (by kernel_rfl) (by kernel_rfl) (by kernel_rfl)
noncomputable def F15 : Eng.Fn NN := ⟨⟨(Eng.look tys), (lookS [(35, sp35), (25, sp25)]), Eng.look [(1, [1]), (3, [1, 3, 4]), (8, [1, 3, 4, 5])], Eng.pinIds 0 [.v (.nm 0)], 0, noInl⟩, Eng.bodyOf Go.Proofs.Tryz.f15, [.tmp 2], 25⟩
noncomputable def sp15 : Eng.Spec NN := F15.spec [.v (.nm 0)] [.own 38 (.nm 1)] 4000000
theorem good15 : Eng.Good prog 15 sp15 := Eng.good_fn (fn := f15) fits (by kernel_rfl) mixed (by kernel_rfl) (.cons good35 (.cons good25 .nil)) (by kernel_rfl) (by kernel_rfl) (by kernel_rfl) (by kernel_rfl) (by kernel_rfl) (by kernel_rfl) (by kernel_rfl) (by kernel_rfl) (by kernel_rfl)
noncomputable def F17 : Eng.Fn NN := ⟨⟨(Eng.look tys), (lookS [(15, sp15)]), Eng.look [(4, [3, 4, 5]), (5, [3, 4, 5])], Eng.pinIds 0 [.v (.nm 0)], 0, noInl⟩, Eng.bodyOf Go.Proofs.Tryz.f17, [.tmp 2], 35⟩
noncomputable def sp17 : Eng.Spec NN := F17.spec [.v (.nm 0)] [.v (.int .i64)] 4000000
theorem good17 : Eng.Good prog 17 sp17 := Eng.good_fn (fn := f17) fits (by kernel_rfl) mixed (by kernel_rfl) (.cons good15 .nil) (by kernel_rfl) (by kernel_rfl) (by kernel_rfl) (by kernel_rfl) (by kernel_rfl) (by kernel_rfl) (by kernel_rfl) (by kernel_rfl) (by kernel_rfl)
noncomputable def F12 : Eng.Fn NN := ⟨⟨(Eng.look tys), (lookS [(35, sp35), (25, sp25), (13, sp13)]), Eng.look [(1, [1, 2]), (3, [1, 2])], Eng.pinIds 0 [.v (.nm 0), .v (.int .i64)], 0, noInl⟩, Eng.bodyOf Go.Proofs.Tryz.f12, [.tmp 4, .tmp 5], 25⟩
noncomputable def sp12 : Eng.Spec NN := F12.spec [.v (.nm 0), .v (.int .i64)] [.own 5 (.int .u8), .v (.int .i64)] 4000000
theorem good12 : Eng.Good prog 12 sp12 := Eng.good_fn (fn := f12) fits (by kernel_rfl) mixed (by kernel_rfl) (.cons good35 (.cons good25 (.cons good13 .nil))) (by kernel_rfl) (by kernel_rfl) (by kernel_rfl) (by kernel_rfl) (by kernel_rfl) (by kernel_rfl) (by kernel_rfl) (by kernel_rfl) (by kernel_rfl)
noncomputable def F108c1 (n : Nat) (x0 : Int) := F108.at [.v (.int .u64)] [.own 5 (.int .u8)] n 1 ⟨[.one (.int .u64 x0), U, U, U, U, U, U, U, U, U, U, U, U, U, U, U, U, U, U, U], []⟩
noncomputable def F108c2 (n : Nat) (x0 : Int) (x1 : List (Int)) := F108.at [.v (.int .u64)] [.own 5 (.int .u8)] n 2 ⟨[.one (.int .u64 x0), U, U, .one (.own 0), U, U, U, U, U, U, U, U, U, U, U, U, U, U, U, U], [(0, .row 5 (.int .u8) x1 [] false)]⟩
theorem F108_run (n : Nat) (a0 : Int) : F108.run [.v (.int .u64)] [.own 5 (.int .u8)] n (a0, ()) =
 F108c1 n (a0) := by kernel_rfl
theorem F108c1_eq (n x0 : _) : F108c1 (n + 1) x0 =
 F108c2 n (x0) ([]) := by kernel_rfl
theorem F108c2_eq (n x0 x1 : _) : F108c2 (n + 1) x0 x1 =
 bif decide ((127 : Int) < x0) then
  if x1.length + (1 : Nat) ≤ lim then
   F108c2 n (IntKind.u64.wrap (x0.tdiv (128 : Int))) (x1 ++ [IntKind.u8.wrap (IntKind.u64.wrap ((128 : Int) + x0.tmod (128 : Int)))])
  else
   none
 else
  if x1.length + (1 : Nat) ≤ lim then
   some ((x1 ++ [IntKind.u8.wrap x0], ()), ())
  else
   none := by kernel_rfl
noncomputable def F164c2 (n : Nat) (x0 : List Int) (x1 : List Int) (x2 : Int) := F164.at [.v (.str), .v (.str)] [.v (.int .i64)] n 2 ⟨[.one (.str x0), .one (.str x1), U, U, U, .one (.int .i64 x2), U, U, U, U, U, U, U, U, U, U, U, U, U, U, U, U, U, U, U, U, U, U], []⟩
theorem F164_run (n : Nat) (a0 : List Int) (a1 : List Int) : F164.run [.v (.str), .v (.str)] [.v (.int .i64)] n (a0, a1, ()) =
 F164c2 n (a0) (a1) ((0 : Int)) := by kernel_rfl
theorem F164c2_eq (n x0 x1 x2 : _) : F164c2 (n + 1) x0 x1 x2 =
 bif decide (x2 < (↑x0.length : Int)) then
  bif decide (x2 < (↑x1.length : Int)) then
   if (0 : Int) ≤ x2 then
    if x2 < (↑x0.length : Int) then
     if (0 : Int) ≤ x2 then
      if x2 < (↑x1.length : Int) then
       bif decide (x0.getD x2.toNat (0 : Int) = x1.getD x2.toNat (0 : Int)) then
        F164c2 n (x0) (x1) (IntKind.i64.wrap (x2 + (1 : Int)))
       else
        some ((x2, ()), ())
      else
       none
     else
      none
    else
     none
   else
    none
  else
   some ((x2, ()), ())
 else
  some ((x2, ()), ()) := by kernel_rfl
theorem F117_run (n : Nat) (a0 : List (List Int)) (a1 : Int) : F117.run [.v (.sl (.str)), .v (.int .i64)] [.v (.int .i64)] n (a0, a1, ()) =
 bif decide (a1.tmod (16 : Int) = (0 : Int)) then
  some (((0 : Int), ()), ())
 else
  if (0 : Int) ≤ IntKind.i64.wrap (a1 - (1 : Int)) then
   if IntKind.i64.wrap (a1 - (1 : Int)) < (↑a0.length : Int) then
    if (0 : Int) ≤ a1 then
     if a1 < (↑a0.length : Int) then
      (F164.run [PK.v Ty.str, PK.v Ty.str] [RK.v (Ty.int .i64)] 4000000 (a0.getD (IntKind.i64.wrap (a1 - (1 : Int))).toNat [], a0.getD a1.toNat [], ())).bind fun r0 =>
       some ((r0.fst.fst, ()), ())
     else
      none
    else
     none
   else
    none
  else
   none := by kernel_rfl
noncomputable def F67c1 (n : Nat) (x0 : List (List Int)) := F67.at [.v (.sl (.str))] [.own 5 (.int .u8)] n 1 ⟨[.one (.data (.sl .str) x0 []), U, U, U, U, U, U, U, U, U, U, U, U, U, U, U, U, U, U, U, U, U, U, U, U, U, U, U, U, U, U, U, U, U, U, U, U, U, U, U, U, U, U, U, U, U, U, U, U, U, U, U], []⟩
noncomputable def F67c3 (n : Nat) (x0 : List (List Int)) (x1 : Int) (x2 : List (Int)) := F67.at [.v (.sl (.str))] [.own 5 (.int .u8)] n 3 ⟨[.one (.data (.sl .str) x0 []), U, U, .one (.own 0), .one (.int .i64 x1), U, U, U, U, U, U, U, U, U, U, U, U, U, U, U, U, U, U, U, U, U, U, U, U, U, U, U, U, U, U, U, U, U, U, U, U, U, U, U, U, U, U, U, U, U, U, U], [(0, .row 5 (.int .u8) x2 [] false)]⟩
noncomputable def F67c9 (n : Nat) (x0 : List (List Int)) (x1 : Int) (x2 : Int) (x3 : List (Int)) := F67.at [.v (.sl (.str))] [.own 5 (.int .u8)] n 9 ⟨[.one (.data (.sl .str) x0 []), U, U, .one (.own 0), .one (.int .i64 x1), U, .one (.int .i64 x2), U, U, U, U, U, U, U, U, U, U, U, U, U, U, U, U, U, U, U, U, U, U, U, U, U, U, U, U, U, U, U, U, U, U, U, U, U, U, U, U, U, U, U, U, U], [(0, .row 5 (.int .u8) x3 [] false)]⟩
theorem F67_run (n : Nat) (a0 : List (List Int)) : F67.run [.v (.sl (.str))] [.own 5 (.int .u8)] n (a0, ()) =
 F67c1 n (a0) := by kernel_rfl
theorem F67c1_eq (n x0 : _) : F67c1 (n + 1) x0 =
 F67c3 n (x0) ((0 : Int)) ([]) := by kernel_rfl
theorem F67c3_eq (n x0 x1 x2 : _) : F67c3 (n + 1) x0 x1 x2 =
 bif decide (x1 < (↑x0.length : Int)) then
  (F117.run [PK.v Ty.str.sl, PK.v (Ty.int .i64)] [RK.v (Ty.int .i64)] 4000000 (x0, x1, ())).bind fun r0 =>
   (F108.run [PK.v (Ty.int IntKind.u64)] [RK.own 5 (Ty.int IntKind.u8)] 4000000 (IntKind.u64.wrap r0.fst.fst, ())).bind fun r1 =>
    if x2.length + List.length r1.fst.fst ≤ lim then
     if (0 : Int) ≤ x1 then
      if x1 < (↑x0.length : Int) then
       (F108.run [PK.v (Ty.int IntKind.u64)] [RK.own 5 (Ty.int IntKind.u8)] 4000000 (IntKind.u64.wrap (IntKind.i64.wrap ((↑(x0.getD x1.toNat []).length : Int) - r0.fst.fst)), ())).bind fun r2 =>
        if (x2 ++ r1.fst.fst).length + List.length r2.fst.fst ≤ lim then
         F67c9 n (x0) (x1) (r0.fst.fst) (x2 ++ r1.fst.fst ++ r2.fst.fst)
        else
         none
      else
       none
     else
      none
    else
     none
 else
  some ((x2, ()), ()) := by kernel_rfl
theorem F67c9_eq (n x0 x1 x2 x3 : _) : F67c9 (n + 1) x0 x1 x2 x3 =
 if (0 : Int) ≤ x1 then
  if x1 < (↑x0.length : Int) then
   bif decide (x2 < (↑(x0.getD x1.toNat []).length : Int)) then
    if (0 : Int) ≤ x1 then
     if x1 < (↑x0.length : Int) then
      if (0 : Int) ≤ x2 then
       if x2 < (↑(x0.getD x1.toNat []).length : Int) then
        if x3.length + (1 : Nat) ≤ lim then
         F67c9 n (x0) (x1) (IntKind.i64.wrap (x2 + (1 : Int))) (x3 ++ [(x0.getD x1.toNat []).getD x2.toNat (0 : Int)])
        else
         none
       else
        none
      else
       none
     else
      none
    else
     none
   else
    F67c3 n (x0) (IntKind.i64.wrap (x1 + (1 : Int))) (x3)
  else
   none
 else
  none := by kernel_rfl
noncomputable def F110c1 (n : Nat) (x0 : List (List (Int))) := F110.at [.v (.sl (.sl (.int .u8)))] [.own 5 (.int .u8)] n 1 ⟨[.one (.data (.sl (.sl (.int .u8))) x0 []), U, U, U, U, U, U, U, U, U, U, U, U, U, U, U, U, U, U, U, U, U, U, U, U, U, U, U, U, U, U, U], []⟩
noncomputable def F110c3 (n : Nat) (x0 : List (List (Int))) (x1 : Int) (x2 : List (Int)) := F110.at [.v (.sl (.sl (.int .u8)))] [.own 5 (.int .u8)] n 3 ⟨[.one (.data (.sl (.sl (.int .u8))) x0 []), U, U, .one (.own 0), .one (.int .i64 x1), U, U, U, U, U, U, U, U, U, U, U, U, U, U, U, U, U, U, U, U, U, U, U, U, U, U, U], [(0, .row 5 (.int .u8) x2 [] false)]⟩
noncomputable def F110c6 (n : Nat) (x0 : List (List (Int))) (x1 : Int) (x2 : Int) (x3 : List (Int)) := F110.at [.v (.sl (.sl (.int .u8)))] [.own 5 (.int .u8)] n 6 ⟨[.one (.data (.sl (.sl (.int .u8))) x0 []), U, U, .one (.own 0), .one (.int .i64 x1), .one (.int .i64 x2), U, U, U, U, U, U, U, U, U, U, U, U, U, U, U, U, U, U, U, U, U, U, U, U, U, U], [(0, .row 5 (.int .u8) x3 [] false)]⟩
theorem F110_run (n : Nat) (a0 : List (List (Int))) : F110.run [.v (.sl (.sl (.int .u8)))] [.own 5 (.int .u8)] n (a0, ()) =
 F110c1 n (a0) := by kernel_rfl
theorem F110c1_eq (n x0 : _) : F110c1 (n + 1) x0 =
 F110c3 n (x0) ((0 : Int)) ([]) := by kernel_rfl
theorem F110c3_eq (n x0 x1 x2 : _) : F110c3 (n + 1) x0 x1 x2 =
 bif decide (x1 < (↑x0.length : Int)) then
  F110c6 n (x0) (x1) ((0 : Int)) (x2)
 else
  some ((x2, ()), ()) := by kernel_rfl
theorem F110c6_eq (n x0 x1 x2 x3 : _) : F110c6 (n + 1) x0 x1 x2 x3 =
 if (0 : Int) ≤ x1 then
  if x1 < (↑x0.length : Int) then
   bif decide (x2 < (↑(x0.getD x1.toNat []).length : Int)) then
    if (0 : Int) ≤ x1 then
     if x1 < (↑x0.length : Int) then
      if (0 : Int) ≤ x2 then
       if x2 < (↑(x0.getD x1.toNat []).length : Int) then
        if x3.length + (1 : Nat) ≤ lim then
         F110c6 n (x0) (x1) (IntKind.i64.wrap (x2 + (1 : Int))) (x3 ++ [(x0.getD x1.toNat []).getD x2.toNat (0 : Int)])
        else
         none
       else
        none
      else
       none
     else
      none
    else
     none
   else
    F110c3 n (x0) (IntKind.i64.wrap (x1 + (1 : Int))) (x3)
  else
   none
 else
  none := by kernel_rfl
theorem F109_run (n : Nat) (a0 : Int) : F109.run [.v (.int .i64)] [.v (.int .u64)] n (a0, ()) =
 bif decide ((0 : Int) ≤ a0) then
  some ((IntKind.u64.wrap ((2 : Int) * IntKind.u64.wrap a0), ()), ())
 else
  some ((IntKind.u64.wrap (IntKind.u64.wrap ((2 : Int) * IntKind.u64.wrap (IntKind.i64.wrap ((0 : Int) - IntKind.i64.wrap (a0 + (1 : Int))))) + (1 : Int)), ()), ()) := by kernel_rfl
noncomputable def F62c1 (n : Nat) (x0 : List (Run)) := F62.at [.v (.sl (.nm 5))] [.own 5 (.int .u8)] n 1 ⟨[.one (.data (.sl (.nm 5)) x0 []), U, U, U, U, U, U, U, U, U, U, U, U, U, U, U, U, U, U, U, U, U, U, U, U, U, U, U, U, U, U, U, U, U, U, U, U, U, U, U, U, U, U, U, U, U], []⟩
noncomputable def F62c4 (n : Nat) (x0 : List (Run)) (x1 : Int) (x2 : Int) (x3 : List (List (Int))) := F62.at [.v (.sl (.nm 5))] [.own 5 (.int .u8)] n 4 ⟨[.one (.data (.sl (.nm 5)) x0 []), U, U, .one (.own 0), .one (.int .i64 x1), .one (.int .i64 x2), U, U, U, U, U, U, U, U, U, U, U, U, U, U, U, U, U, U, U, U, U, U, U, U, U, U, U, U, U, U, U, U, U, U, U, U, U, U, U, U], [(0, .row 29 (.sl (.int .u8)) x3 [] false)]⟩
theorem F62_run (n : Nat) (a0 : List (Run)) : F62.run [.v (.sl (.nm 5))] [.own 5 (.int .u8)] n (a0, ()) =
 F62c1 n (a0) := by kernel_rfl
theorem F62c1_eq (n x0 : _) : F62c1 (n + 1) x0 =
 (F108.run [PK.v (Ty.int IntKind.u64)] [RK.own 5 (Ty.int IntKind.u8)] 4000000 (IntKind.u64.wrap (↑x0.length : Int), ())).bind fun r0 =>
  F62c4 n (x0) ((0 : Int)) ((0 : Int)) ([r0.fst.fst]) := by kernel_rfl
theorem F62c4_eq (n x0 x1 x2 x3 : _) : F62c4 (n + 1) x0 x1 x2 x3 =
 bif decide (x2 < (↑x0.length : Int)) then
  if (0 : Int) ≤ x2 then
   if x2 < (↑x0.length : Int) then
    (F109.run [PK.v (Ty.int .i64)] [RK.v (Ty.int IntKind.u64)] 4000000 (IntKind.i64.wrap ((x0.getD x2.toNat zRun).value - x1), ())).bind fun r1 =>
     (F108.run [PK.v (Ty.int IntKind.u64)] [RK.own 5 (Ty.int IntKind.u8)] 4000000 (r1.fst.fst, ())).bind fun r2 =>
      if x3.length + (1 : Nat) ≤ lim then
       if (0 : Int) ≤ x2 then
        if x2 < (↑x0.length : Int) then
         (F108.run [PK.v (Ty.int IntKind.u64)] [RK.own 5 (Ty.int IntKind.u8)] 4000000 (IntKind.u64.wrap (x0.getD x2.toNat zRun).count, ())).bind fun r3 =>
          if (x3 ++ ([r2.fst.fst] : List (List (Int)))).length + (1 : Nat) ≤ lim then
           if (0 : Int) ≤ x2 then
            if x2 < (↑x0.length : Int) then
             F62c4 n (x0) ((x0.getD x2.toNat zRun).value) (IntKind.i64.wrap (x2 + (1 : Int))) (x3 ++ ([r2.fst.fst] : List (List (Int))) ++ [r3.fst.fst])
            else
             none
           else
            none
          else
           none
        else
         none
       else
        none
      else
       none
   else
    none
  else
   none
 else
  (F110.run [PK.v (Ty.int IntKind.u8).sl.sl] [RK.own 5 (Ty.int IntKind.u8)] (400000000 : Nat) (x3, ())).bind fun r4 =>
   some ((r4.fst.fst, ()), ()) := by kernel_rfl
noncomputable def F63c1 (n : Nat) (x0 : List (Int)) := F63.at [.v (.sl (.int .i64))] [.own 110 (.nm 5)] n 1 ⟨[.one (.data (.sl (.int .i64)) x0 []), U, U, U, U, U, U, U, U, U, U, U, U, U, U, U, U, U, U, U, U, U, U, U, U, U, U, U, U, U, U, U, U, U, U, U, U, U, U, U, U, U, U, U, U, U, U], []⟩
noncomputable def F63c3 (n : Nat) (x0 : List (Int)) (x1 : Int) (x2 : List (Run)) := F63.at [.v (.sl (.int .i64))] [.own 110 (.nm 5)] n 3 ⟨[.one (.data (.sl (.int .i64)) x0 []), U, U, .one (.own 0), .one (.int .i64 x1), U, U, U, U, U, U, U, U, U, U, U, U, U, U, U, U, U, U, U, U, U, U, U, U, U, U, U, U, U, U, U, U, U, U, U, U, U, U, U, U, U, U], [(0, .row 110 (.nm 5) x2 [] false)]⟩
noncomputable def F63c4 (n : Nat) (x0 : List (Int)) (x1 : Int) (x2 : List (Run)) := F63.at [.v (.sl (.int .i64))] [.own 110 (.nm 5)] n 4 ⟨[.one (.data (.sl (.int .i64)) x0 []), U, U, .one (.own 0), .one (.int .i64 x1), U, U, U, U, U, U, U, U, U, U, U, U, U, U, U, U, U, U, U, U, U, U, U, U, U, U, U, U, U, U, U, U, U, U, U, U, U, U, U, U, U, U], [(0, .row 110 (.nm 5) x2 [] false)]⟩
theorem F63_run (n : Nat) (a0 : List (Int)) : F63.run [.v (.sl (.int .i64))] [.own 110 (.nm 5)] n (a0, ()) =
 F63c1 n (a0) := by kernel_rfl
theorem F63c1_eq (n x0 : _) : F63c1 (n + 1) x0 =
 F63c3 n (x0) ((0 : Int)) ([]) := by kernel_rfl
theorem F63c3_eq (n x0 x1 x2 : _) : F63c3 (n + 1) x0 x1 x2 =
 bif decide (x1 < (↑x0.length : Int)) then
  bif decide ((0 : Int) < (↑x2.length : Int)) then
   if (0 : Int) ≤ IntKind.i64.wrap ((↑x2.length : Int) - (1 : Int)) then
    if IntKind.i64.wrap ((↑x2.length : Int) - (1 : Int)) < (↑x2.length : Int) then
     if (0 : Int) ≤ x1 then
      if x1 < (↑x0.length : Int) then
       bif decide ((x2.getD (IntKind.i64.wrap ((↑x2.length : Int) - (1 : Int))).toNat zRun).value = x0.getD x1.toNat (0 : Int)) then
        if (0 : Int) ≤ IntKind.i64.wrap ((↑x2.length : Int) - (1 : Int)) then
         if IntKind.i64.wrap ((↑x2.length : Int) - (1 : Int)) < (↑x2.length : Int) then
          if (0 : Int) ≤ IntKind.i64.wrap ((↑x2.length : Int) - (1 : Int)) then
           if IntKind.i64.wrap ((↑x2.length : Int) - (1 : Int)) < (↑x2.length : Int) then
            F63c4 n (x0) (x1) (x2.set (IntKind.i64.wrap ((↑x2.length : Int) - (1 : Int))).toNat { value := (x2.getD (IntKind.i64.wrap ((↑x2.length : Int) - (1 : Int))).toNat zRun).value, count := IntKind.i64.wrap ((x2.getD (IntKind.i64.wrap ((↑x2.length : Int) - (1 : Int))).toNat zRun).count + (1 : Int)) : Run })
           else
            none
          else
           none
         else
          none
        else
         none
       else
        if (0 : Int) ≤ x1 then
         if x1 < (↑x0.length : Int) then
          if x2.length + (1 : Nat) ≤ lim then
           F63c4 n (x0) (x1) (x2 ++ [{ value := x0.getD x1.toNat (0 : Int), count := (1 : Int) : Run }])
          else
           none
         else
          none
        else
         none
      else
       none
     else
      none
    else
     none
   else
    none
  else
   if (0 : Int) ≤ x1 then
    if x1 < (↑x0.length : Int) then
     if x2.length + (1 : Nat) ≤ lim then
      F63c4 n (x0) (x1) (x2 ++ [{ value := x0.getD x1.toNat (0 : Int), count := (1 : Int) : Run }])
     else
      none
    else
     none
   else
    none
 else
  some ((x2, ()), ()) := by kernel_rfl
theorem F63c4_eq (n x0 x1 x2 : _) : F63c4 (n + 1) x0 x1 x2 =
 F63c3 n (x0) (IntKind.i64.wrap (x1 + (1 : Int))) (x2) := by kernel_rfl
theorem F157_run (n : Nat) (a0 : Int) (a1 : Int) : F157.run [.v (.int .i64), .v (.int .i64)] [.v (.bool)] n (a0, a1, ()) =
 bif decide ((0 : Int) ≤ a0) then
  bif decide (a0 ≤ (1048576 : Int)) then
   bif decide ((0 : Int) ≤ a1) then
    some ((decide (a1 ≤ (64 : Int)), ()), ())
   else
    some ((false, ()), ())
  else
   some ((false, ()), ())
 else
  some ((false, ()), ()) := by kernel_rfl
theorem F136_run (n : Nat) (a0 : Int) (a1 : Int) : F136.run [.v (.int .i64), .v (.int .i64)] [.v (.int .i64)] n (a0, a1, ()) =
 (F157.run [PK.v (Ty.int .i64), PK.v (Ty.int .i64)] [RK.v Ty.bool] 4000000 (a0, a1, ())).bind fun r0 =>
  bif !r0.fst.fst then
   some (((0 : Int), ()), ())
  else
   some ((IntKind.i64.wrap ((IntKind.i64.wrap (IntKind.i64.wrap (a0 * a1) + (7 : Int))).tdiv (8 : Int)), ()), ()) := by kernel_rfl
noncomputable def F105c1 (n : Nat) (x0 : List (Int)) (x1 : Int) := F105.at [.v (.sl (.int .u64)), .v (.int .i64)] [.own 5 (.int .u8)] n 1 ⟨[.one (.data (.sl (.int .u64)) x0 []), .one (.int .i64 x1), U, U, U, U, U, U, U, U, U, U, U, U, U, U, U, U, U, U, U, U, U, U, U, U, U, U, U, U, U, U, U, U, U, U, U, U, U, U, U, U, U, U, U, U, U, U, U, U, U, U, U, U, U, U, U, U], []⟩
noncomputable def F105c5 (n : Nat) (x0 : List (Int)) (x1 : Int) (x2 : Int) (x3 : List (Int)) := F105.at [.v (.sl (.int .u64)), .v (.int .i64)] [.own 5 (.int .u8)] n 5 ⟨[.one (.data (.sl (.int .u64)) x0 []), .one (.int .i64 x1), U, U, U, .one (.own 0), .one (.int .i64 x2), U, U, U, U, U, U, U, U, U, U, U, U, U, U, U, U, U, U, U, U, U, U, U, U, U, U, U, U, U, U, U, U, U, U, U, U, U, U, U, U, U, U, U, U, U, U, U, U, U, U, U], [(0, .row 5 (.int .u8) x3 [] false)]⟩
noncomputable def F105c8 (n : Nat) (x0 : List (Int)) (x1 : Int) (x2 : Int) (x3 : Int) (x4 : List (Int)) := F105.at [.v (.sl (.int .u64)), .v (.int .i64)] [.own 5 (.int .u8)] n 8 ⟨[.one (.data (.sl (.int .u64)) x0 []), .one (.int .i64 x1), U, U, U, .one (.own 0), .one (.int .i64 x2), .one (.int .i64 x3), U, U, U, U, U, U, U, U, U, U, U, U, U, U, U, U, U, U, U, U, U, U, U, U, U, U, U, U, U, U, U, U, U, U, U, U, U, U, U, U, U, U, U, U, U, U, U, U, U, U], [(0, .row 5 (.int .u8) x4 [] false)]⟩
theorem F105_run (n : Nat) (a0 : List (Int)) (a1 : Int) : F105.run [.v (.sl (.int .u64)), .v (.int .i64)] [.own 5 (.int .u8)] n (a0, a1, ()) =
 F105c1 n (a0) (a1) := by kernel_rfl
theorem F105c1_eq (n x0 x1 : _) : F105c1 (n + 1) x0 x1 =
 (F157.run [PK.v (Ty.int .i64), PK.v (Ty.int .i64)] [RK.v Ty.bool] 4000000 ((↑x0.length : Int), x1, ())).bind fun r0 =>
  bif !r0.fst.fst then
   some (([], ()), ())
  else
   (F136.run [PK.v (Ty.int .i64), PK.v (Ty.int .i64)] [RK.v (Ty.int .i64)] 4000000 ((↑x0.length : Int), x1, ())).bind fun r1 =>
    if (0 : Int) ≤ r1.fst.fst then
     if r1.fst.fst ≤ (↑lim : Int) then
      F105c5 n (x0) (x1) ((0 : Int)) (List.replicate (Int.toNat r1.fst.fst) (0 : Int))
     else
      none
    else
     none := by kernel_rfl
theorem F105c5_eq (n x0 x1 x2 x3 : _) : F105c5 (n + 1) x0 x1 x2 x3 =
 bif decide (x2 < (↑x0.length : Int)) then
  F105c8 n (x0) (x1) (x2) ((0 : Int)) (x3)
 else
  some ((x3, ()), ()) := by kernel_rfl
theorem F105c8_eq (n x0 x1 x2 x3 x4 : _) : F105c8 (n + 1) x0 x1 x2 x3 x4 =
 bif decide (x3 < x1) then
  if (0 : Int) ≤ IntKind.i64.wrap ((IntKind.i64.wrap (IntKind.i64.wrap (x2 * x1) + x3)).tdiv (8 : Int)) then
   if IntKind.i64.wrap ((IntKind.i64.wrap (IntKind.i64.wrap (x2 * x1) + x3)).tdiv (8 : Int)) < (↑x4.length : Int) then
    if (0 : Int) ≤ x2 then
     if x2 < (↑x0.length : Int) then
      if (0 : Int) ≤ IntKind.u64.wrap x3 then
       if (0 : Int) ≤ IntKind.u64.wrap ((IntKind.i64.wrap (IntKind.i64.wrap (x2 * x1) + x3)).tmod (8 : Int)) then
        if (0 : Int) ≤ IntKind.i64.wrap ((IntKind.i64.wrap (IntKind.i64.wrap (x2 * x1) + x3)).tdiv (8 : Int)) then
         if IntKind.i64.wrap ((IntKind.i64.wrap (IntKind.i64.wrap (x2 * x1) + x3)).tdiv (8 : Int)) < (↑x4.length : Int) then
          F105c8 n (x0) (x1) (x2) (IntKind.i64.wrap (x3 + (1 : Int))) (x4.set (IntKind.i64.wrap ((IntKind.i64.wrap (IntKind.i64.wrap (x2 * x1) + x3)).tdiv (8 : Int))).toNat (bits BinOp.or IntKind.u8 (x4.getD (IntKind.i64.wrap ((IntKind.i64.wrap (IntKind.i64.wrap (x2 * x1) + x3)).tdiv (8 : Int))).toNat (0 : Int)) (IntKind.u8.wrap (IntKind.u8.wrap (bits BinOp.and IntKind.u64 (x0.getD x2.toNat (0 : Int) / (2 : Int) ^ min (IntKind.u64.wrap x3).toNat IntKind.u64.bits) (1 : Int)) * (2 : Int) ^ min (IntKind.u64.wrap ((IntKind.i64.wrap (IntKind.i64.wrap (x2 * x1) + x3)).tmod (8 : Int))).toNat IntKind.u8.bits))))
         else
          none
        else
         none
       else
        none
      else
       none
     else
      none
    else
     none
   else
    none
  else
   none
 else
  F105c5 n (x0) (x1) (IntKind.i64.wrap (x2 + (1 : Int))) (x4) := by kernel_rfl
noncomputable def F163c2 (n : Nat) (x0 : Int) (x1 : Int) := F163.at [.v (.int .u64)] [.v (.int .i64)] n 2 ⟨[.one (.int .u64 x0), U, U, .one (.int .i64 x1), U, U, U, U, U, U, U], []⟩
theorem F163_run (n : Nat) (a0 : Int) : F163.run [.v (.int .u64)] [.v (.int .i64)] n (a0, ()) =
 F163c2 n (a0) ((0 : Int)) := by kernel_rfl
theorem F163c2_eq (n x0 x1 : _) : F163c2 (n + 1) x0 x1 =
 bif decide ((0 : Int) < x0) then
  F163c2 n (IntKind.u64.wrap (x0.tdiv (2 : Int))) (IntKind.i64.wrap (x1 + (1 : Int)))
 else
  some ((x1, ()), ()) := by kernel_rfl
theorem F116_run (n : Nat) (a0 : Int) : F116.run [.v (.int .i64)] [.v (.int .i64)] n (a0, ()) =
 bif decide (a0 = (0 : Int)) then
  some (((0 : Int), ()), ())
 else
  (F163.run [PK.v (Ty.int IntKind.u64)] [RK.v (Ty.int .i64)] 4000000 (IntKind.u64.wrap (IntKind.i64.wrap (a0 - (1 : Int))), ())).bind fun r0 =>
   some ((r0.fst.fst, ()), ()) := by kernel_rfl
noncomputable def F115c1 (n : Nat) (x0 : List Int) := F115.at [.v (.str)] [.own 5 (.int .u8)] n 1 ⟨[.one (.str x0), U, U, U, U, U, U, U, U, U, U], []⟩
theorem F115_run (n : Nat) (a0 : List Int) : F115.run [.v (.str)] [.own 5 (.int .u8)] n (a0, ()) =
 F115c1 n (a0) := by kernel_rfl
theorem F115c1_eq (n x0 : _) : F115c1 (n + 1) x0 =
 (F108.run [PK.v (Ty.int IntKind.u64)] [RK.own 5 (Ty.int IntKind.u8)] 4000000 (IntKind.u64.wrap (↑x0.length : Int), ())).bind fun r0 =>
  if x0.length ≤ lim then
   (F110.run [PK.v (Ty.int IntKind.u8).sl.sl] [RK.own 5 (Ty.int IntKind.u8)] (400000000 : Nat) ([r0.fst.fst, x0], ())).bind fun r1 =>
    some ((r1.fst.fst, ()), ())
  else
   none := by kernel_rfl
noncomputable def F162c2 (n : Nat) (x0 : List (List Int)) (x1 : List Int) (x2 : Int) := F162.at [.v (.sl (.str)), .v (.str)] [.v (.int .i64), .v (.bool)] n 2 ⟨[.one (.data (.sl .str) x0 []), .one (.str x1), U, U, U, U, .one (.int .i64 x2), U, U, U, U, U, U, U, U, U, U, U, U, U], []⟩
theorem F162_run (n : Nat) (a0 : List (List Int)) (a1 : List Int) : F162.run [.v (.sl (.str)), .v (.str)] [.v (.int .i64), .v (.bool)] n (a0, a1, ()) =
 F162c2 n (a0) (a1) ((0 : Int)) := by kernel_rfl
theorem F162c2_eq (n x0 x1 x2 : _) : F162c2 (n + 1) x0 x1 x2 =
 bif decide (x2 < (↑x0.length : Int)) then
  if (0 : Int) ≤ x2 then
   if x2 < (↑x0.length : Int) then
    bif decide (x0.getD x2.toNat [] = x1) then
     some ((x2, (true, ())), ())
    else
     F162c2 n (x0) (x1) (IntKind.i64.wrap (x2 + (1 : Int)))
   else
    none
  else
   none
 else
  some (((0 : Int), (false, ())), ()) := by kernel_rfl
noncomputable def F114c1 (n : Nat) (x0 : List (List Int)) := F114.at [.v (.sl (.str))] [.own 9 (.str), .own 3 (.int .i64)] n 1 ⟨[.one (.data (.sl .str) x0 []), U, U, U, U, U, U, U, U, U, U, U, U, U, U, U, U, U, U, U, U, U, U, U, U, U, U, U, U, U, U, U, U, U, U, U, U, U, U, U, U, U, U, U, U, U, U, U, U, U, U, U, U, U, U, U, U, U, U, U, U, U, U, U, U, U, U, U, U, U, U, U, U, U, U, U, U, U, U, U, U, U, U, U, U, U, U, U, U, U, U, U, U, U, U, U, U], []⟩
noncomputable def F114c3 (n : Nat) (x0 : List (List Int)) (x1 : Int) (x2 : List (List Int)) := F114.at [.v (.sl (.str))] [.own 9 (.str), .own 3 (.int .i64)] n 3 ⟨[.one (.data (.sl .str) x0 []), U, U, U, .one (.own 0), .one (.int .i64 x1), U, U, U, U, U, U, U, U, U, U, U, U, U, U, U, U, U, U, U, U, U, U, U, U, U, U, U, U, U, U, U, U, U, U, U, U, U, U, U, U, U, U, U, U, U, U, U, U, U, U, U, U, U, U, U, U, U, U, U, U, U, U, U, U, U, U, U, U, U, U, U, U, U, U, U, U, U, U, U, U, U, U, U, U, U, U, U, U, U, U, U], [(0, .row 9 .str x2 [] false)]⟩
noncomputable def F114c6 (n : Nat) (x0 : List (List Int)) (x1 : Int) (x2 : Int) (x3 : List (List Int)) := F114.at [.v (.sl (.str))] [.own 9 (.str), .own 3 (.int .i64)] n 6 ⟨[.one (.data (.sl .str) x0 []), U, U, U, .one (.own 0), .one (.int .i64 x1), .one (.int .i64 x2), U, U, U, U, U, U, U, U, U, U, U, U, U, U, U, U, U, U, U, U, U, U, U, U, U, U, U, U, U, U, U, U, U, U, U, U, U, U, U, U, U, U, U, U, U, U, U, U, U, U, U, U, U, U, U, U, U, U, U, U, U, U, U, U, U, U, U, U, U, U, U, U, U, U, U, U, U, U, U, U, U, U, U, U, U, U, U, U, U, U], [(0, .row 9 .str x3 [] false)]⟩
noncomputable def F114c17 (n : Nat) (x0 : List (List Int)) (x1 : Int) (x2 : List (List Int)) (x3 : List (Int)) := F114.at [.v (.sl (.str))] [.own 9 (.str), .own 3 (.int .i64)] n 17 ⟨[.one (.data (.sl .str) x0 []), U, U, U, .one (.own 0), U, U, U, .one (.own 1), .one (.int .i64 x1), U, U, U, U, U, U, U, U, U, U, U, U, U, U, U, U, U, U, U, U, U, U, U, U, U, U, U, U, U, U, U, U, U, U, U, U, U, U, U, U, U, U, U, U, U, U, U, U, U, U, U, U, U, U, U, U, U, U, U, U, U, U, U, U, U, U, U, U, U, U, U, U, U, U, U, U, U, U, U, U, U, U, U, U, U, U, U], [(0, .row 9 .str x2 [] false), (1, .row 3 (.int .i64) x3 [] false)]⟩
noncomputable def F114c8 (n : Nat) (x0 : List (List Int)) (x1 : Int) (x2 : Int) (x3 : List (List Int)) := F114.at [.v (.sl (.str))] [.own 9 (.str), .own 3 (.int .i64)] n 8 ⟨[.one (.data (.sl .str) x0 []), U, U, U, .one (.own 0), .one (.int .i64 x1), .one (.int .i64 x2), U, U, U, U, U, U, U, U, U, U, U, U, U, U, U, U, U, U, U, U, U, U, U, U, U, U, U, U, U, U, U, U, U, U, U, U, U, U, U, U, U, U, U, U, U, U, U, U, U, U, U, U, U, U, U, U, U, U, U, U, U, U, U, U, U, U, U, U, U, U, U, U, U, U, U, U, U, U, U, U, U, U, U, U, U, U, U, U, U, U], [(0, .row 9 .str x3 [] false)]⟩
noncomputable def F114c9 (n : Nat) (x0 : List (List Int)) (x1 : Int) (x2 : Int) (x3 : List (List Int)) := F114.at [.v (.sl (.str))] [.own 9 (.str), .own 3 (.int .i64)] n 9 ⟨[.one (.data (.sl .str) x0 []), U, U, U, .one (.own 0), .one (.int .i64 x1), .one (.int .i64 x2), U, U, U, U, U, U, U, U, U, U, U, U, U, U, U, U, U, U, U, U, U, U, U, U, U, U, U, U, U, U, U, U, U, U, U, U, U, U, U, U, U, U, U, U, U, U, U, U, U, U, U, U, U, U, U, U, U, U, U, U, U, U, U, U, U, U, U, U, U, U, U, U, U, U, U, U, U, U, U, U, U, U, U, U, U, U, U, U, U, U], [(0, .row 9 .str x3 [] false)]⟩
noncomputable def F114c11 (n : Nat) (x0 : List (List Int)) (x1 : Int) (x2 : Int) (x3 : Int) (x4 : List (List Int)) := F114.at [.v (.sl (.str))] [.own 9 (.str), .own 3 (.int .i64)] n 11 ⟨[.one (.data (.sl .str) x0 []), U, U, U, .one (.own 0), .one (.int .i64 x1), .one (.int .i64 x2), .one (.int .i64 x3), U, U, U, U, U, U, U, U, U, U, U, U, U, U, U, U, U, U, U, U, U, U, U, U, U, U, U, U, U, U, U, U, U, U, U, U, U, U, U, U, U, U, U, U, U, U, U, U, U, U, U, U, U, U, U, U, U, U, U, U, U, U, U, U, U, U, U, U, U, U, U, U, U, U, U, U, U, U, U, U, U, U, U, U, U, U, U, U, U], [(0, .row 9 .str x4 [] false)]⟩
theorem F114_run (n : Nat) (a0 : List (List Int)) : F114.run [.v (.sl (.str))] [.own 9 (.str), .own 3 (.int .i64)] n (a0, ()) =
 F114c1 n (a0) := by kernel_rfl
theorem F114c1_eq (n x0 : _) : F114c1 (n + 1) x0 =
 F114c3 n (x0) ((0 : Int)) ([]) := by kernel_rfl
theorem F114c3_eq (n x0 x1 x2 : _) : F114c3 (n + 1) x0 x1 x2 =
 bif decide (x1 < (↑x0.length : Int)) then
  F114c6 n (x0) (x1) ((↑x2.length : Int)) (x2)
 else
  F114c17 n (x0) ((0 : Int)) (x2) ([]) := by kernel_rfl
theorem F114c6_eq (n x0 x1 x2 x3 : _) : F114c6 (n + 1) x0 x1 x2 x3 =
 bif decide ((0 : Int) < x2) then
  if (0 : Int) ≤ IntKind.i64.wrap (x2 - (1 : Int)) then
   if IntKind.i64.wrap (x2 - (1 : Int)) < (↑x3.length : Int) then
    if (0 : Int) ≤ x1 then
     if x1 < (↑x0.length : Int) then
      bif Eng.strLt (x0.getD x1.toNat []) (x3.getD (IntKind.i64.wrap (x2 - (1 : Int))).toNat []) then
       F114c6 n (x0) (x1) (IntKind.i64.wrap (x2 - (1 : Int))) (x3)
      else
       F114c8 n (x0) (x1) (x2) (x3)
     else
      none
    else
     none
   else
    none
  else
   none
 else
  F114c8 n (x0) (x1) (x2) (x3) := by kernel_rfl
theorem F114c17_eq (n x0 x1 x2 x3 : _) : F114c17 (n + 1) x0 x1 x2 x3 =
 bif decide (x1 < (↑x0.length : Int)) then
  if (0 : Int) ≤ x1 then
   if x1 < (↑x0.length : Int) then
    (F162.run [PK.v Ty.str.sl, PK.v Ty.str] [RK.v (Ty.int .i64), RK.v Ty.bool] 4000000 (x2, x0.getD x1.toNat [], ())).bind fun r0 =>
     if x3.length + (1 : Nat) ≤ lim then
      F114c17 n (x0) (IntKind.i64.wrap (x1 + (1 : Int))) (x2) (x3 ++ ([r0.fst.fst] : List (Int)))
     else
      none
   else
    none
  else
   none
 else
  some ((x2, (x3, ())), ()) := by kernel_rfl
theorem F114c8_eq (n x0 x1 x2 x3 : _) : F114c8 (n + 1) x0 x1 x2 x3 =
 bif decide ((0 : Int) < x2) then
  if (0 : Int) ≤ IntKind.i64.wrap (x2 - (1 : Int)) then
   if IntKind.i64.wrap (x2 - (1 : Int)) < (↑x3.length : Int) then
    if (0 : Int) ≤ x1 then
     if x1 < (↑x0.length : Int) then
      bif decide (x3.getD (IntKind.i64.wrap (x2 - (1 : Int))).toNat [] = x0.getD x1.toNat []) then
       F114c3 n (x0) (IntKind.i64.wrap (x1 + (1 : Int))) (x3)
      else
       F114c9 n (x0) (x1) (x2) (x3)
     else
      none
    else
     none
   else
    none
  else
   none
 else
  F114c9 n (x0) (x1) (x2) (x3) := by kernel_rfl
theorem F114c9_eq (n x0 x1 x2 x3 : _) : F114c9 (n + 1) x0 x1 x2 x3 =
 if x3.length + (1 : Nat) ≤ lim then
  F114c11 n (x0) (x1) (x2) (IntKind.i64.wrap ((↑(x3 ++ [[]]).length : Int) - (1 : Int))) (x3 ++ [[]])
 else
  none := by kernel_rfl
theorem F114c11_eq (n x0 x1 x2 x3 x4 : _) : F114c11 (n + 1) x0 x1 x2 x3 x4 =
 bif decide (x2 < x3) then
  if (0 : Int) ≤ IntKind.i64.wrap (x3 - (1 : Int)) then
   if IntKind.i64.wrap (x3 - (1 : Int)) < (↑x4.length : Int) then
    if (0 : Int) ≤ x3 then
     if x3 < (↑x4.length : Int) then
      F114c11 n (x0) (x1) (x2) (IntKind.i64.wrap (x3 - (1 : Int))) (x4.set x3.toNat (x4.getD (IntKind.i64.wrap (x3 - (1 : Int))).toNat []))
     else
      none
    else
     none
   else
    none
  else
   none
 else
  if (0 : Int) ≤ x1 then
   if x1 < (↑x0.length : Int) then
    if (0 : Int) ≤ x2 then
     if x2 < (↑x4.length : Int) then
      F114c3 n (x0) (IntKind.i64.wrap (x1 + (1 : Int))) (x4.set x2.toNat (x0.getD x1.toNat []))
     else
      none
    else
     none
   else
    none
  else
   none := by kernel_rfl
noncomputable def F66c1 (n : Nat) (x0 : List (List Int)) := F66.at [.v (.sl (.str))] [.own 5 (.int .u8)] n 1 ⟨[.one (.data (.sl .str) x0 []), U, U, U, U, U, U, U, U, U, U, U, U, U, U, U, U, U, U, U, U, U, U, U, U, U, U, U, U, U, U, U, U, U, U, U, U, U, U, U, U, U, U, U, U, U, U, U, U, U, U, U, U, U, U, U, U, U, U, U, U, U, U, U, U, U, U, U, U, U, U, U, U, U, U, U, U, U, U, U, U, U, U, U, U, U, U, U], []⟩
noncomputable def F66c4 (n : Nat) (x0 : Int) (x1 : List (List Int)) (x2 : List (Int)) (x3 : List (List (Int))) := F66.at [.v (.sl (.str))] [.own 5 (.int .u8)] n 4 ⟨[U, U, U, .one (.own 0), .one (.own 1), .one (.own 2), .one (.int .i64 x0), U, U, U, U, U, U, U, U, U, U, U, U, U, U, U, U, U, U, U, U, U, U, U, U, U, U, U, U, U, U, U, U, U, U, U, U, U, U, U, U, U, U, U, U, U, U, U, U, U, U, U, U, U, U, U, U, U, U, U, U, U, U, U, U, U, U, U, U, U, U, U, U, U, U, U, U, U, U, U, U, U], [(0, .row 9 .str x1 [] false), (1, .row 3 (.int .i64) x2 [] false), (2, .row 29 (.sl (.int .u8)) x3 [] false)]⟩
noncomputable def F66c10 (n : Nat) (x0 : Int) (x1 : List (List Int)) (x2 : List (Int)) (x3 : List (List (Int))) (x4 : List (Int)) (x5 : List (Int)) := F66.at [.v (.sl (.str))] [.own 5 (.int .u8)] n 10 ⟨[U, U, U, .one (.own 0), .one (.own 1), .one (.own 2), U, .one (.own 3), .one (.own 4), .one (.int .i64 x0), U, U, U, U, U, U, U, U, U, U, U, U, U, U, U, U, U, U, U, U, U, U, U, U, U, U, U, U, U, U, U, U, U, U, U, U, U, U, U, U, U, U, U, U, U, U, U, U, U, U, U, U, U, U, U, U, U, U, U, U, U, U, U, U, U, U, U, U, U, U, U, U, U, U, U, U, U, U], [(0, .row 9 .str x1 [] false), (1, .row 3 (.int .i64) x2 [] false), (2, .row 29 (.sl (.int .u8)) x3 [] false), (3, .row 83 (.int .u64) x4 [] false), (4, .row 2 (.int .i64) x5 [] false)]⟩
theorem F66_run (n : Nat) (a0 : List (List Int)) : F66.run [.v (.sl (.str))] [.own 5 (.int .u8)] n (a0, ()) =
 F66c1 n (a0) := by kernel_rfl
theorem F66c1_eq (n x0 : _) : F66c1 (n + 1) x0 =
 (F114.run [PK.v Ty.str.sl] [RK.own 9 Ty.str, RK.own 3 (Ty.int .i64)] (1000000000 : Nat) (x0, ())).bind fun r0 =>
  (F108.run [PK.v (Ty.int IntKind.u64)] [RK.own 5 (Ty.int IntKind.u8)] 4000000 (IntKind.u64.wrap (↑(List.length r0.fst.fst) : Int), ())).bind fun r1 =>
   F66c4 n ((0 : Int)) (r0.fst.fst) (r0.fst.snd.fst) ([r1.fst.fst]) := by kernel_rfl
theorem F66c4_eq (n x0 x1 x2 x3 : _) : F66c4 (n + 1) x0 x1 x2 x3 =
 bif decide (x0 < (↑x1.length : Int)) then
  if (0 : Int) ≤ x0 then
   if x0 < (↑x1.length : Int) then
    (F115.run [PK.v Ty.str] [RK.own 5 (Ty.int IntKind.u8)] 4000000 (x1.getD x0.toNat [], ())).bind fun r2 =>
     if x3.length + (1 : Nat) ≤ lim then
      F66c4 n (IntKind.i64.wrap (x0 + (1 : Int))) (x1) (x2) (x3 ++ ([r2.fst.fst] : List (List (Int))))
     else
      none
   else
    none
  else
   none
 else
  F66c10 n ((0 : Int)) (x1) (x2) (x3) ([]) ([]) := by kernel_rfl
theorem F66c10_eq (n x0 x1 x2 x3 x4 x5 : _) : F66c10 (n + 1) x0 x1 x2 x3 x4 x5 =
 bif decide (x0 < (↑x2.length : Int)) then
  if (0 : Int) ≤ x0 then
   if x0 < (↑x2.length : Int) then
    if x4.length + (1 : Nat) ≤ lim then
     if (0 : Int) ≤ x0 then
      if x0 < (↑x2.length : Int) then
       if x5.length + (1 : Nat) ≤ lim then
        F66c10 n (IntKind.i64.wrap (x0 + (1 : Int))) (x1) (x2) (x3) (x4 ++ [IntKind.u64.wrap (x2.getD x0.toNat (0 : Int))]) (x5 ++ [x2.getD x0.toNat (0 : Int)])
       else
        none
      else
       none
     else
      none
    else
     none
   else
    none
  else
   none
 else
  (F116.run [PK.v (Ty.int .i64)] [RK.v (Ty.int .i64)] 4000000 ((↑x1.length : Int), ())).bind fun r3 =>
   (F105.run [PK.v (Ty.int IntKind.u64).sl, PK.v (Ty.int .i64)] [RK.own 5 (Ty.int IntKind.u8)] 4000000 (x4, r3.fst.fst, ())).bind fun r4 =>
    (F63.run [PK.v (Ty.int .i64).sl] [RK.own 110 (Ty.nm 5)] 4000000 (x5, ())).bind fun r5 =>
     (F62.run [PK.v (Ty.nm 5).sl] [RK.own 5 (Ty.int IntKind.u8)] 4000000 (r5.fst.fst, ())).bind fun r6 =>
      bif decide ((↑(List.length r6.fst.fst) : Int) < (↑(List.length r4.fst.fst) : Int)) then
       if x3.length + (1 : Nat) ≤ lim then
        if (x3 ++ [[(1 : Int)]]).length + (1 : Nat) ≤ lim then
         (F110.run [PK.v (Ty.int IntKind.u8).sl.sl] [RK.own 5 (Ty.int IntKind.u8)] (400000000 : Nat) (x3 ++ [[(1 : Int)]] ++ [r6.fst.fst], ())).bind fun r7 =>
          some ((r7.fst.fst, ()), ())
        else
         none
       else
        none
      else
       if x3.length + (1 : Nat) ≤ lim then
        if (x3 ++ [[(0 : Int)]]).length + (1 : Nat) ≤ lim then
         (F110.run [PK.v (Ty.int IntKind.u8).sl.sl] [RK.own 5 (Ty.int IntKind.u8)] (400000000 : Nat) (x3 ++ [[(0 : Int)]] ++ [r4.fst.fst], ())).bind fun r8 =>
          some ((r8.fst.fst, ()), ())
        else
         none
       else
        none := by kernel_rfl
theorem F160_run (n : Nat) (a0 : Int) (a1 : Int) : F160.run [.v (.int .u64), .v (.int .i64)] [.v (.int .u64)] n (a0, a1, ()) =
 bif decide (a1 = (64 : Int)) then
  some (((0 : Int), ()), ())
 else
  if (0 : Int) ≤ IntKind.u64.wrap a1 then
   some ((a0 / (2 : Int) ^ min (IntKind.u64.wrap a1).toNat IntKind.u64.bits, ()), ())
  else
   none := by kernel_rfl
theorem F159_run (n : Nat) (a0 : Int) (a1 : Int) : F159.run [.v (.int .u64), .v (.int .i64)] [.v (.int .u64)] n (a0, a1, ()) =
 bif decide (a1 = (64 : Int)) then
  some ((a0, ()), ())
 else
  if (0 : Int) ≤ IntKind.u64.wrap a1 then
   some ((bits BinOp.and IntKind.u64 a0 (IntKind.u64.wrap (IntKind.u64.wrap ((1 : Int) * (2 : Int) ^ min (IntKind.u64.wrap a1).toNat IntKind.u64.bits) - (1 : Int))), ()), ())
  else
   none := by kernel_rfl
noncomputable def F158c3 (n : Nat) (x0 : List (Int)) (x1 : Int) (x2 : Int) := F158.at [.v (.sl (.int .i64))] [.v (.int .i64)] n 3 ⟨[.one (.data (.sl (.int .i64)) x0 []), U, U, .one (.int .i64 x1), .one (.int .i64 x2), U, U, U, U, U, U, U, U, U, U, U, U, U, U, U, U, U, U, U, U, U], []⟩
noncomputable def F158c4 (n : Nat) (x0 : List (Int)) (x1 : Int) (x2 : Int) := F158.at [.v (.sl (.int .i64))] [.v (.int .i64)] n 4 ⟨[.one (.data (.sl (.int .i64)) x0 []), U, U, .one (.int .i64 x1), .one (.int .i64 x2), U, U, U, U, U, U, U, U, U, U, U, U, U, U, U, U, U, U, U, U, U], []⟩
theorem F158_run (n : Nat) (a0 : List (Int)) : F158.run [.v (.sl (.int .i64))] [.v (.int .i64)] n (a0, ()) =
 F158c3 n (a0) ((0 : Int)) ((0 : Int)) := by kernel_rfl
theorem F158c3_eq (n x0 x1 x2 : _) : F158c3 (n + 1) x0 x1 x2 =
 bif decide (x2 < (↑x0.length : Int)) then
  bif decide (x2 = (0 : Int)) then
   if (0 : Int) ≤ x2 then
    if x2 < (↑x0.length : Int) then
     F158c4 n (x0) (x0.getD x2.toNat (0 : Int)) (x2)
    else
     none
   else
    none
  else
   if (0 : Int) ≤ x2 then
    if x2 < (↑x0.length : Int) then
     bif decide (x0.getD x2.toNat (0 : Int) < x1) then
      if (0 : Int) ≤ x2 then
       if x2 < (↑x0.length : Int) then
        F158c4 n (x0) (x0.getD x2.toNat (0 : Int)) (x2)
       else
        none
      else
       none
     else
      F158c4 n (x0) (x1) (x2)
    else
     none
   else
    none
 else
  some ((x1, ()), ()) := by kernel_rfl
theorem F158c4_eq (n x0 x1 x2 : _) : F158c4 (n + 1) x0 x1 x2 =
 F158c3 n (x0) (x1) (IntKind.i64.wrap (x2 + (1 : Int))) := by kernel_rfl
noncomputable def F112c1 (n : Nat) (x0 : List (Int)) (x1 : Int) := F112.at [.v (.sl (.int .i64)), .v (.int .i64)] [.own 5 (.int .u8)] n 1 ⟨[.one (.data (.sl (.int .i64)) x0 []), .one (.int .i64 x1), U, U, U, U, U, U, U, U, U, U, U, U, U, U, U, U, U, U, U, U, U, U, U, U, U, U, U, U, U, U, U, U, U, U, U, U, U, U, U, U, U, U, U, U, U, U, U, U, U, U, U, U, U, U, U, U, U, U, U, U, U, U, U, U, U, U, U, U, U, U, U], []⟩
noncomputable def F112c6 (n : Nat) (x0 : List (Int)) (x1 : Int) (x2 : Int) (x3 : Int) (x4 : Int) (x5 : List (Int)) (x6 : List (Int)) := F112.at [.v (.sl (.int .i64)), .v (.int .i64)] [.own 5 (.int .u8)] n 6 ⟨[.one (.data (.sl (.int .i64)) x0 []), .one (.int .i64 x1), U, U, U, .one (.int .i64 x2), .one (.int .i64 x3), .one (.own 0), .one (.own 1), .one (.int .i64 x4), U, U, U, U, U, U, U, U, U, U, U, U, U, U, U, U, U, U, U, U, U, U, U, U, U, U, U, U, U, U, U, U, U, U, U, U, U, U, U, U, U, U, U, U, U, U, U, U, U, U, U, U, U, U, U, U, U, U, U, U, U, U, U], [(0, .row 83 (.int .u64) x5 [] false), (1, .row 5 (.int .u8) x6 [] false)]⟩
theorem F112_run (n : Nat) (a0 : List (Int)) (a1 : Int) : F112.run [.v (.sl (.int .i64)), .v (.int .i64)] [.own 5 (.int .u8)] n (a0, a1, ()) =
 F112c1 n (a0) (a1) := by kernel_rfl
theorem F112c1_eq (n x0 x1 : _) : F112c1 (n + 1) x0 x1 =
 (F158.run [PK.v (Ty.int .i64).sl] [RK.v (Ty.int .i64)] 4000000 (x0, ())).bind fun r0 =>
  F112c6 n (x0) (x1) (r0.fst.fst) ((0 : Int)) ((0 : Int)) ([]) ([]) := by kernel_rfl
theorem F112c6_eq (n x0 x1 x2 x3 x4 x5 x6 : _) : F112c6 (n + 1) x0 x1 x2 x3 x4 x5 x6 =
 bif decide (x4 < (↑x0.length : Int)) then
  if (0 : Int) ≤ x4 then
   if x4 < (↑x0.length : Int) then
    (F159.run [PK.v (Ty.int IntKind.u64), PK.v (Ty.int .i64)] [RK.v (Ty.int IntKind.u64)] 4000000 (IntKind.u64.wrap (IntKind.u64.wrap (x0.getD x4.toNat (0 : Int)) - IntKind.u64.wrap x2), x1, ())).bind fun r1 =>
     if x5.length + (1 : Nat) ≤ lim then
      (F160.run [PK.v (Ty.int IntKind.u64), PK.v (Ty.int .i64)] [RK.v (Ty.int IntKind.u64)] 4000000 (IntKind.u64.wrap (IntKind.u64.wrap (x0.getD x4.toNat (0 : Int)) - IntKind.u64.wrap x2), x1, ())).bind fun r2 =>
       bif !decide (r2.fst.fst = (0 : Int)) then
        (F108.run [PK.v (Ty.int IntKind.u64)] [RK.own 5 (Ty.int IntKind.u8)] 4000000 (IntKind.u64.wrap x4, ())).bind fun r3 =>
         if x6.length + List.length r3.fst.fst ≤ lim then
          (F108.run [PK.v (Ty.int IntKind.u64)] [RK.own 5 (Ty.int IntKind.u8)] 4000000 (r2.fst.fst, ())).bind fun r4 =>
           if (x6 ++ r3.fst.fst).length + List.length r4.fst.fst ≤ lim then
            F112c6 n (x0) (x1) (x2) (IntKind.i64.wrap (x3 + (1 : Int))) (IntKind.i64.wrap (x4 + (1 : Int))) (x5 ++ ([r1.fst.fst] : List (Int))) (x6 ++ r3.fst.fst ++ r4.fst.fst)
           else
            none
         else
          none
       else
        F112c6 n (x0) (x1) (x2) (x3) (IntKind.i64.wrap (x4 + (1 : Int))) (x5 ++ ([r1.fst.fst] : List (Int))) (x6)
     else
      none
   else
    none
  else
   none
 else
  (F109.run [PK.v (Ty.int .i64)] [RK.v (Ty.int IntKind.u64)] 4000000 (x2, ())).bind fun r5 =>
   (F108.run [PK.v (Ty.int IntKind.u64)] [RK.own 5 (Ty.int IntKind.u8)] 4000000 (r5.fst.fst, ())).bind fun r6 =>
    (F108.run [PK.v (Ty.int IntKind.u64)] [RK.own 5 (Ty.int IntKind.u8)] 4000000 (IntKind.u64.wrap x1, ())).bind fun r7 =>
     if List.length r6.fst.fst + List.length r7.fst.fst ≤ lim then
      (F108.run [PK.v (Ty.int IntKind.u64)] [RK.own 5 (Ty.int IntKind.u8)] 4000000 (IntKind.u64.wrap x3, ())).bind fun r8 =>
       if (r6.fst.fst ++ r7.fst.fst).length + List.length r8.fst.fst ≤ lim then
        (F105.run [PK.v (Ty.int IntKind.u64).sl, PK.v (Ty.int .i64)] [RK.own 5 (Ty.int IntKind.u8)] 4000000 (x5, x1, ())).bind fun r9 =>
         if (r6.fst.fst ++ r7.fst.fst ++ r8.fst.fst).length + List.length r9.fst.fst ≤ lim then
          if (r6.fst.fst ++ r7.fst.fst ++ r8.fst.fst ++ r9.fst.fst).length + x6.length ≤ lim then
           some ((r6.fst.fst ++ r7.fst.fst ++ r8.fst.fst ++ r9.fst.fst ++ x6, ()), ())
          else
           none
         else
          none
       else
        none
     else
      none := by kernel_rfl
noncomputable def F111c3 (n : Nat) (x0 : List (Int)) (x1 : Int) (x2 : Int) (x3 : Int) := F111.at [.v (.sl (.int .i64))] [.v (.int .i64), .v (.int .i64)] n 3 ⟨[.one (.data (.sl (.int .i64)) x0 []), U, U, U, .one (.int .i64 x1), .one (.int .i64 x2), .one (.int .i64 x3), U, U, U, U, U, U, U, U, U, U, U, U, U, U, U, U, U, U, U, U], []⟩
theorem F111_run (n : Nat) (a0 : List (Int)) : F111.run [.v (.sl (.int .i64))] [.v (.int .i64), .v (.int .i64)] n (a0, ()) =
 (F112.run [PK.v (Ty.int .i64).sl, PK.v (Ty.int .i64)] [RK.own 5 (Ty.int IntKind.u8)] 4000000 (a0, (0 : Int), ())).bind fun r0 =>
  F111c3 n (a0) ((0 : Int)) ((↑(List.length r0.fst.fst) : Int)) ((1 : Int)) := by kernel_rfl
theorem F111c3_eq (n x0 x1 x2 x3 : _) : F111c3 (n + 1) x0 x1 x2 x3 =
 bif decide (x3 ≤ (64 : Int)) then
  (F112.run [PK.v (Ty.int .i64).sl, PK.v (Ty.int .i64)] [RK.own 5 (Ty.int IntKind.u8)] 4000000 (x0, x3, ())).bind fun r1 =>
   bif decide ((↑(List.length r1.fst.fst) : Int) < x2) then
    F111c3 n (x0) (x3) ((↑(List.length r1.fst.fst) : Int)) (IntKind.i64.wrap (x3 + (1 : Int)))
   else
    F111c3 n (x0) (x1) (x2) (IntKind.i64.wrap (x3 + (1 : Int)))
 else
  (F158.run [PK.v (Ty.int .i64).sl] [RK.v (Ty.int .i64)] 4000000 (x0, ())).bind fun r2 =>
   some ((r2.fst.fst, (x1, ())), ()) := by kernel_rfl
noncomputable def F64c1 (n : Nat) (x0 : List (Int)) := F64.at [.v (.sl (.int .i64))] [.own 5 (.int .u8)] n 1 ⟨[.one (.data (.sl (.int .i64)) x0 []), U, U, U, U, U, U, U, U, U, U, U, U], []⟩
theorem F64_run (n : Nat) (a0 : List (Int)) : F64.run [.v (.sl (.int .i64))] [.own 5 (.int .u8)] n (a0, ()) =
 F64c1 n (a0) := by kernel_rfl
theorem F64c1_eq (n x0 : _) : F64c1 (n + 1) x0 =
 (F111.run [PK.v (Ty.int .i64).sl] [RK.v (Ty.int .i64), RK.v (Ty.int .i64)] 4000000 (x0, ())).bind fun r0 =>
  (F112.run [PK.v (Ty.int .i64).sl, PK.v (Ty.int .i64)] [RK.own 5 (Ty.int IntKind.u8)] 4000000 (x0, r0.fst.snd.fst, ())).bind fun r1 =>
   some ((r1.fst.fst, ()), ()) := by kernel_rfl
noncomputable def F161c1 (n : Nat) (x0 : List (Int)) := F161.at [.v (.sl (.int .i64))] [.own 2 (.int .i64)] n 1 ⟨[.one (.data (.sl (.int .i64)) x0 []), U, U, U, U, U, U, U, U, U, U, U, U, U, U, U, U, U, U, U, U, U, U, U, U], []⟩
noncomputable def F161c3 (n : Nat) (x0 : List (Int)) (x1 : Int) (x2 : List (Int)) := F161.at [.v (.sl (.int .i64))] [.own 2 (.int .i64)] n 3 ⟨[.one (.data (.sl (.int .i64)) x0 []), U, U, .one (.own 0), .one (.int .i64 x1), U, U, U, U, U, U, U, U, U, U, U, U, U, U, U, U, U, U, U, U], [(0, .row 2 (.int .i64) x2 [] false)]⟩
theorem F161_run (n : Nat) (a0 : List (Int)) : F161.run [.v (.sl (.int .i64))] [.own 2 (.int .i64)] n (a0, ()) =
 F161c1 n (a0) := by kernel_rfl
theorem F161c1_eq (n x0 : _) : F161c1 (n + 1) x0 =
 F161c3 n (x0) ((1 : Int)) ([]) := by kernel_rfl
theorem F161c3_eq (n x0 x1 x2 : _) : F161c3 (n + 1) x0 x1 x2 =
 bif decide (x1 < (↑x0.length : Int)) then
  if (0 : Int) ≤ x1 then
   if x1 < (↑x0.length : Int) then
    if (0 : Int) ≤ IntKind.i64.wrap (x1 - (1 : Int)) then
     if IntKind.i64.wrap (x1 - (1 : Int)) < (↑x0.length : Int) then
      if x2.length + (1 : Nat) ≤ lim then
       F161c3 n (x0) (IntKind.i64.wrap (x1 + (1 : Int))) (x2 ++ [IntKind.i64.wrap (x0.getD x1.toNat (0 : Int) - x0.getD (IntKind.i64.wrap (x1 - (1 : Int))).toNat (0 : Int))])
      else
       none
     else
      none
    else
     none
   else
    none
  else
   none
 else
  some ((x2, ()), ()) := by kernel_rfl
noncomputable def F113c1 (n : Nat) (x0 : List (Int)) (x1 : Int) := F113.at [.v (.sl (.int .i64)), .v (.int .i64)] [.own 5 (.int .u8)] n 1 ⟨[.one (.data (.sl (.int .i64)) x0 []), .one (.int .i64 x1), U, U, U, U, U, U, U, U, U, U, U, U, U, U, U, U, U, U, U, U, U, U, U, U, U, U, U, U, U, U, U, U, U], []⟩
noncomputable def F113c4 (n : Nat) (x0 : Int) (x1 : List (Int)) (x2 : Int) (x3 : List (Int)) := F113.at [.v (.sl (.int .i64)), .v (.int .i64)] [.own 5 (.int .u8)] n 4 ⟨[U, .one (.int .i64 x0), U, U, U, .one (.own 0), .one (.data (.sl (.int .i64)) x1 []), .one (.int .i64 x2), U, U, U, U, U, U, U, U, U, U, U, U, U, U, U, U, U, U, U, U, U, U, U, U, U, U, U], [(0, .row 5 (.int .u8) x3 [] false)]⟩
noncomputable def F113c6 (n : Nat) (x0 : Int) (x1 : List (Int)) (x2 : Int) (x3 : List (Int)) := F113.at [.v (.sl (.int .i64)), .v (.int .i64)] [.own 5 (.int .u8)] n 6 ⟨[U, .one (.int .i64 x0), U, U, U, .one (.own 0), .one (.data (.sl (.int .i64)) x1 []), .one (.int .i64 x2), U, U, U, U, U, U, U, U, U, U, U, U, U, U, U, U, U, U, U, U, U, U, U, U, U, U, U], [(0, .row 5 (.int .u8) x3 [] false)]⟩
noncomputable def F113c4' (n : Nat) (x0 : Int) (x1 : Int) (x2 : List (Int)) (x3 : List (Int)) := F113.at [.v (.sl (.int .i64)), .v (.int .i64)] [.own 5 (.int .u8)] n 4 ⟨[U, .one (.int .i64 x0), U, U, U, .one (.own 0), .one (.own 1), .one (.int .i64 x1), U, U, U, U, U, U, U, U, U, U, U, U, U, U, U, U, U, U, U, U, U, U, U, U, U, U, U], [(0, .row 5 (.int .u8) x2 [] false), (1, .row 2 (.int .i64) x3 [] false)]⟩
noncomputable def F113c6' (n : Nat) (x0 : Int) (x1 : Int) (x2 : List (Int)) (x3 : List (Int)) := F113.at [.v (.sl (.int .i64)), .v (.int .i64)] [.own 5 (.int .u8)] n 6 ⟨[U, .one (.int .i64 x0), U, U, U, .one (.own 0), .one (.own 1), .one (.int .i64 x1), U, U, U, U, U, U, U, U, U, U, U, U, U, U, U, U, U, U, U, U, U, U, U, U, U, U, U], [(0, .row 5 (.int .u8) x2 [] false), (1, .row 2 (.int .i64) x3 [] false)]⟩
theorem F113_run (n : Nat) (a0 : List (Int)) (a1 : Int) : F113.run [.v (.sl (.int .i64)), .v (.int .i64)] [.own 5 (.int .u8)] n (a0, a1, ()) =
 F113c1 n (a0) (a1) := by kernel_rfl
theorem F113c1_eq (n x0 x1 : _) : F113c1 (n + 1) x0 x1 =
 F113c4 n (x1) (x0) ((0 : Int)) ([IntKind.u8.wrap x1]) := by kernel_rfl
theorem F113c4_eq (n x0 x1 x2 x3 : _) : F113c4 (n + 1) x0 x1 x2 x3 =
 bif decide (x2 < x0) then
  bif decide ((0 : Int) < (↑x1.length : Int)) then
   F113c6 n (x0) (x1) (x2) (x3)
  else
   (F64.run [PK.v (Ty.int .i64).sl] [RK.own 5 (Ty.int IntKind.u8)] 4000000 (x1, ())).bind fun r0 =>
    if x3.length + List.length r0.fst.fst ≤ lim then
     some ((x3 ++ r0.fst.fst, ()), ())
    else
     none
 else
  (F64.run [PK.v (Ty.int .i64).sl] [RK.own 5 (Ty.int IntKind.u8)] 4000000 (x1, ())).bind fun r1 =>
   if x3.length + List.length r1.fst.fst ≤ lim then
    some ((x3 ++ r1.fst.fst, ()), ())
   else
    none := by kernel_rfl
theorem F113c6_eq (n x0 x1 x2 x3 : _) : F113c6 (n + 1) x0 x1 x2 x3 =
 if (0 : Int) < (↑x1.length : Int) then
  (F109.run [PK.v (Ty.int .i64)] [RK.v (Ty.int IntKind.u64)] 4000000 (x1.getD (Int.toNat (0 : Int)) (0 : Int), ())).bind fun r2 =>
   (F108.run [PK.v (Ty.int IntKind.u64)] [RK.own 5 (Ty.int IntKind.u8)] 4000000 (r2.fst.fst, ())).bind fun r3 =>
    if x3.length + List.length r3.fst.fst ≤ lim then
     (F161.run [PK.v (Ty.int .i64).sl] [RK.own 2 (Ty.int .i64)] 4000000 (x1, ())).bind fun r4 =>
      F113c4' n (x0) (IntKind.i64.wrap (x2 + (1 : Int))) (x3 ++ r3.fst.fst) (r4.fst.fst)
    else
     none
 else
  none := by kernel_rfl
theorem F113c4'_eq (n x0 x1 x2 x3 : _) : F113c4' (n + 1) x0 x1 x2 x3 =
 bif decide (x1 < x0) then
  bif decide ((0 : Int) < (↑x3.length : Int)) then
   F113c6' n (x0) (x1) (x2) (x3)
  else
   (F64.run [PK.v (Ty.int .i64).sl] [RK.own 5 (Ty.int IntKind.u8)] 4000000 (x3, ())).bind fun r5 =>
    if x2.length + List.length r5.fst.fst ≤ lim then
     some ((x2 ++ r5.fst.fst, ()), ())
    else
     none
 else
  (F64.run [PK.v (Ty.int .i64).sl] [RK.own 5 (Ty.int IntKind.u8)] 4000000 (x3, ())).bind fun r6 =>
   if x2.length + List.length r6.fst.fst ≤ lim then
    some ((x2 ++ r6.fst.fst, ()), ())
   else
    none := by kernel_rfl
theorem F113c6'_eq (n x0 x1 x2 x3 : _) : F113c6' (n + 1) x0 x1 x2 x3 =
 if (0 : Int) < (↑x3.length : Int) then
  (F109.run [PK.v (Ty.int .i64)] [RK.v (Ty.int IntKind.u64)] 4000000 (x3.getD (Int.toNat (0 : Int)) (0 : Int), ())).bind fun r7 =>
   (F108.run [PK.v (Ty.int IntKind.u64)] [RK.own 5 (Ty.int IntKind.u8)] 4000000 (r7.fst.fst, ())).bind fun r8 =>
    if x2.length + List.length r8.fst.fst ≤ lim then
     (F161.run [PK.v (Ty.int .i64).sl] [RK.own 2 (Ty.int .i64)] 4000000 (x3, ())).bind fun r9 =>
      F113c4' n (x0) (IntKind.i64.wrap (x1 + (1 : Int))) (x2 ++ r8.fst.fst) (r9.fst.fst)
    else
     none
 else
  none := by kernel_rfl
noncomputable def F65c1 (n : Nat) (x0 : List (Int)) := F65.at [.v (.sl (.int .i64))] [.own 5 (.int .u8)] n 1 ⟨[.one (.data (.sl (.int .i64)) x0 []), U, U, U, U, U, U, U, U, U, U, U, U, U, U, U, U, U, U, U, U, U, U], []⟩
theorem F65_run (n : Nat) (a0 : List (Int)) : F65.run [.v (.sl (.int .i64))] [.own 5 (.int .u8)] n (a0, ()) =
 F65c1 n (a0) := by kernel_rfl
theorem F65c1_eq (n x0 : _) : F65c1 (n + 1) x0 =
 bif decide ((65536 : Int) < (↑x0.length : Int)) then
  some (([], ()), ())
 else
  (F113.run [PK.v (Ty.int .i64).sl, PK.v (Ty.int .i64)] [RK.own 5 (Ty.int IntKind.u8)] 4000000 (x0, (1 : Int), ())).bind fun r0 =>
   bif decide ((↑x0.length : Int) < (2 : Int)) then
    some ((r0.fst.fst, ()), ())
   else
    (F113.run [PK.v (Ty.int .i64).sl, PK.v (Ty.int .i64)] [RK.own 5 (Ty.int IntKind.u8)] 4000000 (x0, (2 : Int), ())).bind fun r1 =>
     bif decide ((↑(List.length r1.fst.fst) : Int) < (↑(List.length r0.fst.fst) : Int)) then
      some ((r1.fst.fst, ()), ())
     else
      some ((r0.fst.fst, ()), ()) := by kernel_rfl
noncomputable def F107c1 (n : Nat) (x0 : Int) (x1 : Int) := F107.at [.v (.int .u64), .v (.int .i64)] [.own 5 (.int .u8)] n 1 ⟨[.one (.int .u64 x0), .one (.int .i64 x1), U, U, U, U, U, U, U, U, U, U, U, U, U, U, U, U, U, U, U, U, U, U, U, U, U], []⟩
noncomputable def F107c3 (n : Nat) (x0 : Int) (x1 : Int) := F107.at [.v (.int .u64), .v (.int .i64)] [.own 5 (.int .u8)] n 3 ⟨[.one (.int .u64 x0), .one (.int .i64 x1), U, U, U, U, U, U, U, U, U, U, U, U, U, U, U, U, U, U, U, U, U, U, U, U, U], []⟩
noncomputable def F107c5 (n : Nat) (x0 : Int) (x1 : Int) (x2 : Int) (x3 : List (Int)) := F107.at [.v (.int .u64), .v (.int .i64)] [.own 5 (.int .u8)] n 5 ⟨[.one (.int .u64 x0), .one (.int .i64 x1), U, U, U, .one (.own 0), .one (.int .i64 x2), U, U, U, U, U, U, U, U, U, U, U, U, U, U, U, U, U, U, U, U], [(0, .row 5 (.int .u8) x3 [] false)]⟩
theorem F107_run (n : Nat) (a0 : Int) (a1 : Int) : F107.run [.v (.int .u64), .v (.int .i64)] [.own 5 (.int .u8)] n (a0, a1, ()) =
 F107c1 n (a0) (a1) := by kernel_rfl
theorem F107c1_eq (n x0 x1 : _) : F107c1 (n + 1) x0 x1 =
 bif decide (x1 < (1 : Int)) then
  some (([], ()), ())
 else
  bif decide ((8 : Int) < x1) then
   some (([], ()), ())
  else
   F107c3 n (x0) (x1) := by kernel_rfl
theorem F107c3_eq (n x0 x1 : _) : F107c3 (n + 1) x0 x1 =
 F107c5 n (x0) (x1) ((0 : Int)) ([]) := by kernel_rfl
theorem F107c5_eq (n x0 x1 x2 x3 : _) : F107c5 (n + 1) x0 x1 x2 x3 =
 bif decide (x2 < x1) then
  if x3.length + (1 : Nat) ≤ lim then
   F107c5 n (IntKind.u64.wrap (x0.tdiv (256 : Int))) (x1) (IntKind.i64.wrap (x2 + (1 : Int))) (x3 ++ [IntKind.u8.wrap (x0.tmod (256 : Int))])
  else
   none
 else
  some ((x3, ()), ()) := by kernel_rfl
noncomputable def F106c1 (n : Nat) (x0 : List (Int)) := F106.at [.v (.sl (.int .i64))] [.own 83 (.int .u64)] n 1 ⟨[.one (.data (.sl (.int .i64)) x0 []), U, U, U, U, U, U, U, U, U, U, U, U, U, U, U, U, U, U, U], []⟩
noncomputable def F106c3 (n : Nat) (x0 : List (Int)) (x1 : Int) (x2 : List (Int)) := F106.at [.v (.sl (.int .i64))] [.own 83 (.int .u64)] n 3 ⟨[.one (.data (.sl (.int .i64)) x0 []), U, U, .one (.own 0), .one (.int .i64 x1), U, U, U, U, U, U, U, U, U, U, U, U, U, U, U], [(0, .row 83 (.int .u64) x2 [] false)]⟩
theorem F106_run (n : Nat) (a0 : List (Int)) : F106.run [.v (.sl (.int .i64))] [.own 83 (.int .u64)] n (a0, ()) =
 F106c1 n (a0) := by kernel_rfl
theorem F106c1_eq (n x0 : _) : F106c1 (n + 1) x0 =
 F106c3 n (x0) ((0 : Int)) ([]) := by kernel_rfl
theorem F106c3_eq (n x0 x1 x2 : _) : F106c3 (n + 1) x0 x1 x2 =
 bif decide (x1 < (↑x0.length : Int)) then
  if (0 : Int) ≤ x1 then
   if x1 < (↑x0.length : Int) then
    if x2.length + (1 : Nat) ≤ lim then
     F106c3 n (x0) (IntKind.i64.wrap (x1 + (1 : Int))) (x2 ++ [IntKind.u64.wrap (x0.getD x1.toNat (0 : Int))])
    else
     none
   else
    none
  else
   none
 else
  some ((x2, ()), ()) := by kernel_rfl
noncomputable def F61c1 (n : Nat) (x0 : Vec) := F61.at [.v (.nm 0)] [.own 5 (.int .u8)] n 1 ⟨[U, .one (.bptr 0 0), U, U, U, U, U, U, U, U, U, U, U, U, U, U, U, U, U, U, U, U, U, U, U, U, U, U, U, U, U, U, U, U, U, U, U, U, U, U, U, U, U, U, U, U, U, U, U, U, U, U, U, U], [(0, .whole (.nm 0) x0 [])]⟩
noncomputable def F61c5 (n : Nat) (x0 : Int) (x1 : Vec) (x2 : List (Int)) := F61.at [.v (.nm 0)] [.own 5 (.int .u8)] n 5 ⟨[U, .one (.bptr 0 0), U, .one (.own 1), .one (.int .i64 x0), U, U, U, U, U, U, U, U, U, U, U, U, U, U, U, U, U, U, U, U, U, U, U, U, U, U, U, U, U, U, U, U, U, U, U, U, U, U, U, U, U, U, U, U, U, U, U, U, U], [(0, .whole (.nm 0) x1 []), (1, .row 5 (.int .u8) x2 [] false)]⟩
noncomputable def F61c9 (n : Nat) (x0 : Int) (x1 : Vec) (x2 : List (Int)) := F61.at [.v (.nm 0)] [.own 5 (.int .u8)] n 9 ⟨[U, .one (.bptr 0 0), U, .one (.own 1), U, .one (.int .i64 x0), U, U, U, U, U, U, U, U, U, U, U, U, U, U, U, U, U, U, U, U, U, U, U, U, U, U, U, U, U, U, U, U, U, U, U, U, U, U, U, U, U, U, U, U, U, U, U, U], [(0, .whole (.nm 0) x1 []), (1, .row 5 (.int .u8) x2 [] false)]⟩
theorem F61_run (n : Nat) (a0 : Vec) : F61.run [.v (.nm 0)] [.own 5 (.int .u8)] n (a0, ()) =
 F61c1 n (a0) := by kernel_rfl
theorem F61c1_eq (n x0 : _) : F61c1 (n + 1) x0 =
 bif decide (x0.f_Type = (1 : Int)) then
  (F106.run [PK.v (Ty.int .i64).sl] [RK.own 83 (Ty.int IntKind.u64)] 4000000 (x0.ints, ())).bind fun r0 =>
   (F105.run [PK.v (Ty.int IntKind.u64).sl, PK.v (Ty.int .i64)] [RK.own 5 (Ty.int IntKind.u8)] 4000000 (r0.fst.fst, (1 : Int), ())).bind fun r1 =>
    some ((r1.fst.fst, ()), ())
 else
  F61c5 n ((0 : Int)) (x0) ([]) := by kernel_rfl
theorem F61c5_eq (n x0 x1 x2 : _) : F61c5 (n + 1) x0 x1 x2 =
 bif decide (x0 < (↑x1.ints.length : Int)) then
  if (0 : Int) ≤ x0 then
   if x0 < (↑x1.ints.length : Int) then
    (F107.run [PK.v (Ty.int IntKind.u64), PK.v (Ty.int .i64)] [RK.own 5 (Ty.int IntKind.u8)] 4000000 (IntKind.u64.wrap (x1.ints.getD x0.toNat (0 : Int)), (8 : Int), ())).bind fun r2 =>
     if x2.length + List.length r2.fst.fst ≤ lim then
      F61c5 n (IntKind.i64.wrap (x0 + (1 : Int))) (x1) (x2 ++ r2.fst.fst)
     else
      none
   else
    none
  else
   none
 else
  F61c9 n ((0 : Int)) (x1) (x2) := by kernel_rfl
theorem F61c9_eq (n x0 x1 x2 : _) : F61c9 (n + 1) x0 x1 x2 =
 bif decide (x0 < (↑x1.texts.length : Int)) then
  if (0 : Int) ≤ x0 then
   if x0 < (↑x1.texts.length : Int) then
    (F108.run [PK.v (Ty.int IntKind.u64)] [RK.own 5 (Ty.int IntKind.u8)] 4000000 (IntKind.u64.wrap (↑(x1.texts.getD x0.toNat []).length : Int), ())).bind fun r3 =>
     if x2.length + List.length r3.fst.fst ≤ lim then
      if (0 : Int) ≤ x0 then
       if x0 < (↑x1.texts.length : Int) then
        if (x2 ++ r3.fst.fst).length + (x1.texts.getD x0.toNat []).length ≤ lim then
         F61c9 n (IntKind.i64.wrap (x0 + (1 : Int))) (x1) (x2 ++ r3.fst.fst ++ x1.texts.getD x0.toNat [])
        else
         none
       else
        none
      else
       none
     else
      none
   else
    none
  else
   none
 else
  some ((x2, ()), ()) := by kernel_rfl
noncomputable def F35c1 (n : Nat) (x0 : Int) (x1 : Vec) := F35.at [.v (.nm 0), .v (.int .i64)] [.own 5 (.int .u8)] n 1 ⟨[U, .one (.int .i64 x0), .one (.bptr 0 0), U, U, U, U, U, U, U, U, U, U, U, U, U, U, U, U, U, U, U, U, U, U, U, U, U, U, U, U, U, U, U, U, U, U, U, U, U, U, U, U, U, U, U, U, U, U, U], [(0, .whole (.nm 0) x1 [])]⟩
theorem F35_run (n : Nat) (a0 : Vec) (a1 : Int) : F35.run [.v (.nm 0), .v (.int .i64)] [.own 5 (.int .u8)] n (a0, a1, ()) =
 F35c1 n (a1) (a0) := by kernel_rfl
theorem F35c1_eq (n x0 x1 : _) : F35c1 (n + 1) x0 x1 =
 bif decide (x0 = (0 : Int)) then
  (F61.run [PK.v (Ty.nm 0)] [RK.own 5 (Ty.int IntKind.u8)] 4000000 (x1, ())).bind fun r0 =>
   if (1 : Nat) + List.length r0.fst.fst ≤ lim then
    some (([IntKind.u8.wrap x0] ++ r0.fst.fst, ()), ())
   else
    none
 else
  bif decide (x0 = (1 : Int)) then
   (F63.run [PK.v (Ty.int .i64).sl] [RK.own 110 (Ty.nm 5)] 4000000 (x1.ints, ())).bind fun r1 =>
    (F62.run [PK.v (Ty.nm 5).sl] [RK.own 5 (Ty.int IntKind.u8)] 4000000 (r1.fst.fst, ())).bind fun r2 =>
     if (1 : Nat) + List.length r2.fst.fst ≤ lim then
      some (([IntKind.u8.wrap x0] ++ r2.fst.fst, ()), ())
     else
      none
  else
   bif decide (x0 = (2 : Int)) then
    (F64.run [PK.v (Ty.int .i64).sl] [RK.own 5 (Ty.int IntKind.u8)] 4000000 (x1.ints, ())).bind fun r3 =>
     if (1 : Nat) + List.length r3.fst.fst ≤ lim then
      some (([IntKind.u8.wrap x0] ++ r3.fst.fst, ()), ())
     else
      none
   else
    bif decide (x0 = (3 : Int)) then
     (F65.run [PK.v (Ty.int .i64).sl] [RK.own 5 (Ty.int IntKind.u8)] 4000000 (x1.ints, ())).bind fun r4 =>
      if (1 : Nat) + List.length r4.fst.fst ≤ lim then
       some (([IntKind.u8.wrap x0] ++ r4.fst.fst, ()), ())
      else
       none
    else
     bif decide (x0 = (4 : Int)) then
      (F66.run [PK.v Ty.str.sl] [RK.own 5 (Ty.int IntKind.u8)] 4000000 (x1.texts, ())).bind fun r5 =>
       if (1 : Nat) + List.length r5.fst.fst ≤ lim then
        some (([IntKind.u8.wrap x0] ++ r5.fst.fst, ()), ())
       else
        none
     else
      (F67.run [PK.v Ty.str.sl] [RK.own 5 (Ty.int IntKind.u8)] (400000000 : Nat) (x1.texts, ())).bind fun r6 =>
       if (1 : Nat) + List.length r6.fst.fst ≤ lim then
        some (([IntKind.u8.wrap x0] ++ r6.fst.fst, ()), ())
       else
        none := by kernel_rfl
noncomputable def F25c11 (n : Nat)  := F25.at [.v (.int .i64), .v (.int .i64)] [.v (.bool)] n 11 ⟨[U, U, U, U, U, U, U, U, U, U, U, U, U, U, U, U, U, U, U, U, U, U, U], []⟩
theorem F25_run (n : Nat) (a0 : Int) (a1 : Int) : F25.run [.v (.int .i64), .v (.int .i64)] [.v (.bool)] n (a0, a1, ()) =
 bif decide (a1 = (0 : Int)) then
  some ((true, ()), ())
 else
  bif decide (a1 = (1 : Int)) then
   bif decide (a1 = (1 : Int)) then
    bif decide (a0 = (1 : Int)) then
     some ((true, ()), ())
    else
     some ((decide (a0 = (2 : Int)), ()), ())
   else
    bif decide (a1 = (4 : Int)) then
     bif decide (a1 = (4 : Int)) then
      some ((decide (a0 = (3 : Int)), ()), ())
     else
      F25c11 n
    else
     bif decide (a1 = (5 : Int)) then
      some ((decide (a0 = (3 : Int)), ()), ())
     else
      F25c11 n
  else
   bif decide (a1 = (2 : Int)) then
    bif decide (a1 = (2 : Int)) then
     bif decide (a0 = (1 : Int)) then
      some ((true, ()), ())
     else
      some ((decide (a0 = (2 : Int)), ()), ())
    else
     bif decide (a1 = (4 : Int)) then
      bif decide (a1 = (4 : Int)) then
       some ((decide (a0 = (3 : Int)), ()), ())
      else
       F25c11 n
     else
      bif decide (a1 = (5 : Int)) then
       some ((decide (a0 = (3 : Int)), ()), ())
      else
       F25c11 n
   else
    bif decide (a1 = (3 : Int)) then
     bif decide (a0 = (1 : Int)) then
      some ((true, ()), ())
     else
      some ((decide (a0 = (2 : Int)), ()), ())
    else
     bif decide (a1 = (4 : Int)) then
      bif decide (a1 = (4 : Int)) then
       some ((decide (a0 = (3 : Int)), ()), ())
      else
       F25c11 n
     else
      bif decide (a1 = (5 : Int)) then
       some ((decide (a0 = (3 : Int)), ()), ())
      else
       F25c11 n  := by kernel_rfl
noncomputable def F15c1 (n : Nat) (x0 : Vec) := F15.at [.v (.nm 0)] [.own 38 (.nm 1)] n 1 ⟨[U, .one (.bptr 0 0), U, U, U, U, U, U, U, U, U, U, U, U, U, U, U, U, U, U, U, U, U, U, U], [(0, .whole (.nm 0) x0 [])]⟩
noncomputable def F15c3 (n : Nat) (x0 : Int) (x1 : Vec) (x2 : List (Cost)) := F15.at [.v (.nm 0)] [.own 38 (.nm 1)] n 3 ⟨[U, .one (.bptr 0 0), U, .one (.own 1), .one (.int .i64 x0), U, U, U, U, U, U, U, U, U, U, U, U, U, U, U, U, U, U, U, U], [(0, .whole (.nm 0) x1 []), (1, .row 38 (.nm 1) x2 [] false)]⟩
noncomputable def F15c8 (n : Nat) (x0 : Int) (x1 : Int) (x2 : Vec) (x3 : List (Cost)) := F15.at [.v (.nm 0)] [.own 38 (.nm 1)] n 8 ⟨[U, .one (.bptr 0 0), U, .one (.own 1), .one (.int .i64 x0), .one (.int .i64 x1), U, U, U, U, U, U, U, U, U, U, U, U, U, U, U, U, U, U, U], [(0, .whole (.nm 0) x2 []), (1, .row 38 (.nm 1) x3 [] false)]⟩
theorem F15_run (n : Nat) (a0 : Vec) : F15.run [.v (.nm 0)] [.own 38 (.nm 1)] n (a0, ()) =
 F15c1 n (a0) := by kernel_rfl
theorem F15c1_eq (n x0 : _) : F15c1 (n + 1) x0 =
 F15c3 n ((0 : Int)) (x0) ([]) := by kernel_rfl
theorem F15c3_eq (n x0 x1 x2 : _) : F15c3 (n + 1) x0 x1 x2 =
 bif decide (x0 ≤ (5 : Int)) then
  (F25.run [PK.v (Ty.int .i64), PK.v (Ty.int .i64)] [RK.v Ty.bool] 4000000 (x1.f_Type, x0, ())).bind fun r0 =>
   bif r0.fst.fst then
    (F35.run [PK.v (Ty.nm 0), PK.v (Ty.int .i64)] [RK.own 5 (Ty.int IntKind.u8)] 4000000 (x1, x0, ())).bind fun r1 =>
     F15c8 n (x0) ((↑(List.length r1.fst.fst) : Int)) (x1) (x2)
   else
    F15c8 n (x0) ((-1 : Int)) (x1) (x2)
 else
  some ((x2, ()), ()) := by kernel_rfl
theorem F15c8_eq (n x0 x1 x2 x3 : _) : F15c8 (n + 1) x0 x1 x2 x3 =
 if x3.length + (1 : Nat) ≤ lim then
  F15c3 n (IntKind.i64.wrap (x0 + (1 : Int))) (x2) (x3 ++ [{ encoding := x0, bytes := x1 : Cost }])
 else
  none := by kernel_rfl
noncomputable def F17c4 (n : Nat) (x0 : Int) (x1 : Int) (x2 : List (Cost)) := F17.at [.v (.nm 0)] [.v (.int .i64)] n 4 ⟨[U, U, U, .one (.own 0), .one (.int .i64 x0), .one (.int .i64 x1), U, U, U, U, U, U, U, U, U, U, U, U, U, U, U, U, U, U, U, U, U, U, U, U, U, U, U, U, U], [(0, .row 38 (.nm 1) x2 [] false)]⟩
noncomputable def F17c5 (n : Nat) (x0 : Int) (x1 : Int) (x2 : List (Cost)) := F17.at [.v (.nm 0)] [.v (.int .i64)] n 5 ⟨[U, U, U, .one (.own 0), .one (.int .i64 x0), .one (.int .i64 x1), U, U, U, U, U, U, U, U, U, U, U, U, U, U, U, U, U, U, U, U, U, U, U, U, U, U, U, U, U], [(0, .row 38 (.nm 1) x2 [] false)]⟩
theorem F17_run (n : Nat) (a0 : Vec) : F17.run [.v (.nm 0)] [.v (.int .i64)] n (a0, ()) =
 (F15.run [PK.v (Ty.nm 0)] [RK.own 38 (Ty.nm 1)] 4000000 (a0, ())).bind fun r0 =>
  F17c4 n ((0 : Int)) ((1 : Int)) (r0.fst.fst) := by kernel_rfl
theorem F17c4_eq (n x0 x1 x2 : _) : F17c4 (n + 1) x0 x1 x2 =
 bif decide (x1 < (↑x2.length : Int)) then
  if (0 : Int) ≤ x1 then
   if x1 < (↑x2.length : Int) then
    bif decide ((0 : Int) ≤ (x2.getD x1.toNat zCost).bytes) then
     if (0 : Int) ≤ x1 then
      if x1 < (↑x2.length : Int) then
       if (0 : Int) ≤ x0 then
        if x0 < (↑x2.length : Int) then
         bif decide ((x2.getD x1.toNat zCost).bytes < (x2.getD x0.toNat zCost).bytes) then
          F17c5 n (x1) (x1) (x2)
         else
          F17c5 n (x0) (x1) (x2)
        else
         none
       else
        none
      else
       none
     else
      none
    else
     F17c5 n (x0) (x1) (x2)
   else
    none
  else
   none
 else
  some ((x0, ()), ()) := by kernel_rfl
theorem F17c5_eq (n x0 x1 x2 : _) : F17c5 (n + 1) x0 x1 x2 =
 F17c4 n (x0) (IntKind.i64.wrap (x1 + (1 : Int))) (x2) := by kernel_rfl
noncomputable def F12c1 (n : Nat) (x0 : Int) (x1 : Vec) := F12.at [.v (.nm 0), .v (.int .i64)] [.own 5 (.int .u8), .v (.int .i64)] n 1 ⟨[U, .one (.int .i64 x0), .one (.bptr 0 0), U, U, U, U, U, U, U, U, U, U, U, U, U, U, U, U, U, U, U, U, U, U], [(0, .whole (.nm 0) x1 [])]⟩
noncomputable def F12c3 (n : Nat) (x0 : Int) (x1 : Vec) := F12.at [.v (.nm 0), .v (.int .i64)] [.own 5 (.int .u8), .v (.int .i64)] n 3 ⟨[U, .one (.int .i64 x0), .one (.bptr 0 0), U, U, U, U, U, U, U, U, U, U, U, U, U, U, U, U, U, U, U, U, U, U], [(0, .whole (.nm 0) x1 [])]⟩
theorem F12_run (n : Nat) (a0 : Vec) (a1 : Int) : F12.run [.v (.nm 0), .v (.int .i64)] [.own 5 (.int .u8), .v (.int .i64)] n (a0, a1, ()) =
 F12c1 n (a1) (a0) := by kernel_rfl
theorem F12c1_eq (n x0 x1 : _) : F12c1 (n + 1) x0 x1 =
 (F13.run [PK.v (Ty.nm 0)] [RK.v Ty.bool] 4000000 (x1, ())).bind fun r0 =>
  bif !r0.fst.fst then
   some (([], ((1 : Int), ())), ())
  else
   bif decide (x0 < (0 : Int)) then
    some (([], ((1 : Int), ())), ())
   else
    bif decide ((5 : Int) < x0) then
     some (([], ((1 : Int), ())), ())
    else
     F12c3 n (x0) (x1) := by kernel_rfl
theorem F12c3_eq (n x0 x1 : _) : F12c3 (n + 1) x0 x1 =
 (F25.run [PK.v (Ty.int .i64), PK.v (Ty.int .i64)] [RK.v Ty.bool] 4000000 (x1.f_Type, x0, ())).bind fun r1 =>
  bif !r1.fst.fst then
   some (([], ((7 : Int), ())), ())
  else
   (F35.run [PK.v (Ty.nm 0), PK.v (Ty.int .i64)] [RK.own 5 (Ty.int IntKind.u8)] 4000000 (x1, x0, ())).bind fun r2 =>
    some ((r2.fst.fst, ((0 : Int), ())), ()) := by kernel_rfl
end Go.Proofs.Tryz
