/- The functions of the program as the engine follows them (printed by a program of ours): their code, what is known of them, and the equations of their runs. -/
import Derived.Test.YtenjolapmchcmaaGreatDoorL36Lib
set_option linter.unusedVariables false
set_option maxRecDepth 20000
namespace Go.Proofs.Tryz
open Go.Eng
noncomputable def F15 : Eng.Fn NN := ⟨⟨(Eng.look tys), (lookS []), Eng.look [], Eng.pinIds 0 [.v (.nm 0)], 0, noInl, noThr⟩, Eng.bodyOf Go.Proofs.Tryz.f15, [.tmp 2], 11⟩
noncomputable def sp15 : Eng.Spec NN := F15.spec [.v (.nm 0)] [.v (.bool)] 4000000
theorem good15 : Eng.Good prog 15 sp15 := Eng.good_fn (fn := f15) fits (by kernel_rfl) mixed (by kernel_rfl) .nil (by kernel_rfl) (by kernel_rfl) (by kernel_rfl) (by kernel_rfl) (by kernel_rfl) (by kernel_rfl) (by kernel_rfl) (by kernel_rfl) (by kernel_rfl)
noncomputable def F32 : Eng.Fn NN := ⟨⟨(Eng.look tys), (lookS []), Eng.look [], Eng.pinIds 0 [.v (.bool)], 0, noInl, noThr⟩, Eng.bodyOf Go.Proofs.Tryz.f32, [.cell 2 23], 6⟩
noncomputable def sp32 : Eng.Spec NN := F32.spec [.v (.bool)] [.v (.nm 0)] 4000000
theorem good32 : Eng.Good prog 32 sp32 := Eng.good_fn (fn := f32) fits (by kernel_rfl) mixed (by kernel_rfl) .nil (by kernel_rfl) (by kernel_rfl) (by kernel_rfl) (by kernel_rfl) (by kernel_rfl) (by kernel_rfl) (by kernel_rfl) (by kernel_rfl) (by kernel_rfl)
noncomputable def F49 : Eng.Fn NN := ⟨⟨(Eng.look tys), (lookS []), Eng.look [], Eng.pinIds 0 [.v (.bool), .v (.bool)], 0, noInl, noThr⟩, Eng.bodyOf Go.Proofs.Tryz.f49, [.tmp 4], 9⟩
noncomputable def sp49 : Eng.Spec NN := F49.spec [.v (.bool), .v (.bool)] [.v (.int .i64)] 4000000
theorem good49 : Eng.Good prog 49 sp49 := Eng.good_fn (fn := f49) fits (by kernel_rfl) mixed (by kernel_rfl) .nil (by kernel_rfl) (by kernel_rfl) (by kernel_rfl) (by kernel_rfl) (by kernel_rfl) (by kernel_rfl) (by kernel_rfl) (by kernel_rfl) (by kernel_rfl)
noncomputable def sp50 : Eng.Spec NN := Eng.specOf [PK.v Ty.str, PK.v Ty.str] [RK.v (Ty.int .i64)] 0 (fun x => some ((Eng.cmpS x.1 x.2.1, ()), ()))
theorem good50 : Eng.Good prog 50 sp50 := Eng.good_cmp (fn := f50) (by kernel_rfl) (c := Eng.bodyOf f50) (by kernel_rfl) (by kernel_rfl) cmpCalls
noncomputable def F31 : Eng.Fn NN := ⟨⟨(Eng.look tys), (lookS [(49, sp49), (50, sp50)]), Eng.look [(8, [2, 3])], Eng.pinIds 0 [.v (.nm 0), .v (.nm 0)], 0, noInl, noThr⟩, Eng.bodyOf Go.Proofs.Tryz.f31, [.tmp 4], 40⟩
noncomputable def sp31 : Eng.Spec NN := F31.spec [.v (.nm 0), .v (.nm 0)] [.v (.int .i64)] 4000000
theorem good31 : Eng.Good prog 31 sp31 := Eng.good_fn (fn := f31) fits (by kernel_rfl) mixed (by kernel_rfl) (.cons good49 (.cons good50 .nil)) (by kernel_rfl) (by kernel_rfl) (by kernel_rfl) (by kernel_rfl) (by kernel_rfl) (by kernel_rfl) (by kernel_rfl) (by kernel_rfl) (by kernel_rfl)
noncomputable def F16 : Eng.Fn NN := ⟨⟨(Eng.look tys), (lookS [(32, sp32), (31, sp31)]), Eng.look [(3, [0, 4, 5, 6]), (18, [6, 8])], Eng.pinIds 0 [.v (.int .i64), .v (.nm 0), .v (.nm 0)], 0, noInl, noThr⟩, Eng.bodyOf Go.Proofs.Tryz.f16, [.cell 6 23], 58⟩
noncomputable def sp16 : Eng.Spec NN := F16.spec [.v (.int .i64), .v (.nm 0), .v (.nm 0)] [.v (.nm 0)] 4000000
theorem good16 : Eng.Good prog 16 sp16 := Eng.good_fn (fn := f16) fits (by kernel_rfl) mixed (by kernel_rfl) (.cons good32 (.cons good31 .nil)) (by kernel_rfl) (by kernel_rfl) (by kernel_rfl) (by kernel_rfl) (by kernel_rfl) (by kernel_rfl) (by kernel_rfl) (by kernel_rfl) (by kernel_rfl)
noncomputable def F14 : Eng.Fn NN := ⟨⟨(Eng.look tys), (lookS []), Eng.look [], Eng.pinIds 0 [.v (.sl (.nm 0)), .v (.int .i64)], 0, noInl, noThr⟩, Eng.bodyOf Go.Proofs.Tryz.f14, [.cell 4 23], 18⟩
noncomputable def sp14 : Eng.Spec NN := F14.spec [.v (.sl (.nm 0)), .v (.int .i64)] [.v (.nm 0)] 4000000
theorem good14 : Eng.Good prog 14 sp14 := Eng.good_fn (fn := f14) fits (by kernel_rfl) mixed (by kernel_rfl) .nil (by kernel_rfl) (by kernel_rfl) (by kernel_rfl) (by kernel_rfl) (by kernel_rfl) (by kernel_rfl) (by kernel_rfl) (by kernel_rfl) (by kernel_rfl)
noncomputable def F7 : Eng.Fn NN := ⟨⟨(Eng.look tys), (lookS [(15, sp15), (16, sp16), (14, sp14)]), Eng.look [], Eng.pinIds 0 [.v (.nm 1), .v (.sl (.nm 0))], 0, noInl, noThr⟩, Eng.bodyOf Go.Proofs.Tryz.f7, [.tmp 4], 40⟩
noncomputable def sp7 : Eng.Spec NN := F7.spec [.v (.nm 1), .v (.sl (.nm 0))] [.v (.bool)] 4000000
theorem good7 : Eng.Good prog 7 sp7 := Eng.good_fn (fn := f7) fits (by kernel_rfl) mixed (by kernel_rfl) (.cons good15 (.cons good16 (.cons good14 .nil))) (by kernel_rfl) (by kernel_rfl) (by kernel_rfl) (by kernel_rfl) (by kernel_rfl) (by kernel_rfl) (by kernel_rfl) (by kernel_rfl) (by kernel_rfl)
noncomputable def F83 : Eng.Fn NN := ⟨⟨(Eng.look tys), (lookS []), Eng.look [], Eng.pinIds 0 [.v (.str), .v (.str)], 0, noInl, noThr⟩, Eng.bodyOf Go.Proofs.Tryz.f83, [.tmp 4], 18⟩
noncomputable def sp83 : Eng.Spec NN := F83.spec [.v (.str), .v (.str)] [.v (.bool)] 4000000
theorem good83 : Eng.Good prog 83 sp83 := Eng.good_fn (fn := f83) fits (by kernel_rfl) mixed (by kernel_rfl) .nil (by kernel_rfl) (by kernel_rfl) (by kernel_rfl) (by kernel_rfl) (by kernel_rfl) (by kernel_rfl) (by kernel_rfl) (by kernel_rfl) (by kernel_rfl)
noncomputable def F73 : Eng.Fn NN := ⟨⟨(Eng.look tys), (lookS [(83, sp83)]), Eng.look [], Eng.pinIds 0 [.v (.str), .v (.str)], 0, noInl, noThr⟩, Eng.bodyOf Go.Proofs.Tryz.f73, [.tmp 4], 8⟩
noncomputable def sp73 : Eng.Spec NN := F73.spec [.v (.str), .v (.str)] [.v (.bool)] 4000000
theorem good73 : Eng.Good prog 73 sp73 := Eng.good_fn (fn := f73) fits (by kernel_rfl) mixed (by kernel_rfl) (.cons good83 .nil) (by kernel_rfl) (by kernel_rfl) (by kernel_rfl) (by kernel_rfl) (by kernel_rfl) (by kernel_rfl) (by kernel_rfl) (by kernel_rfl) (by kernel_rfl)
noncomputable def F69 : Eng.Fn NN := ⟨⟨(Eng.look tys), (lookS []), Eng.look [], Eng.pinIds 0 [.v (.int .i64)], 0, noInl, noThr⟩, Eng.bodyOf Go.Proofs.Tryz.f69, [.cell 2 23], 5⟩
noncomputable def sp69 : Eng.Spec NN := F69.spec [.v (.int .i64)] [.v (.nm 0)] 4000000
theorem good69 : Eng.Good prog 69 sp69 := Eng.good_fn (fn := f69) fits (by kernel_rfl) mixed (by kernel_rfl) .nil (by kernel_rfl) (by kernel_rfl) (by kernel_rfl) (by kernel_rfl) (by kernel_rfl) (by kernel_rfl) (by kernel_rfl) (by kernel_rfl) (by kernel_rfl)
noncomputable def F70 : Eng.Fn NN := ⟨⟨(Eng.look tys), (lookS []), Eng.look [], Eng.pinIds 0 [.v (.str)], 0, noInl, noThr⟩, Eng.bodyOf Go.Proofs.Tryz.f70, [.cell 2 23], 5⟩
noncomputable def sp70 : Eng.Spec NN := F70.spec [.v (.str)] [.v (.nm 0)] 4000000
theorem good70 : Eng.Good prog 70 sp70 := Eng.good_fn (fn := f70) fits (by kernel_rfl) mixed (by kernel_rfl) .nil (by kernel_rfl) (by kernel_rfl) (by kernel_rfl) (by kernel_rfl) (by kernel_rfl) (by kernel_rfl) (by kernel_rfl) (by kernel_rfl) (by kernel_rfl)
noncomputable def F72 : Eng.Fn NN := ⟨⟨(Eng.look tys), (lookS []), Eng.look [(6, [0, 1, 7])], Eng.pinIds 0 [.v (.str), .v (.int .i64), .v (.int .i64)], 0, noInl, noThr⟩, Eng.bodyOf Go.Proofs.Tryz.f72, [.tmp 6], 33⟩
noncomputable def sp72 : Eng.Spec NN := F72.spec [.v (.str), .v (.int .i64), .v (.int .i64)] [.v (.str)] 4000000
theorem good72 : Eng.Good prog 72 sp72 := Eng.good_fn (fn := f72) fits (by kernel_rfl) mixed (by kernel_rfl) .nil (by kernel_rfl) (by kernel_rfl) (by kernel_rfl) (by kernel_rfl) (by kernel_rfl) (by kernel_rfl) (by kernel_rfl) (by kernel_rfl) (by kernel_rfl)
noncomputable def F71 : Eng.Fn NN := ⟨⟨(Eng.look tys), (lookS []), Eng.look [(3, [1, 2, 3, 9, 14, 15, 16]), (7, [1, 2, 3, 9, 14, 15, 16])], Eng.pinIds 0 [.v (.str), .v (.int .u8), .v (.int .u8), .v (.int .i64)], 0, noInl, noThr⟩, Eng.bodyOf Go.Proofs.Tryz.f71, [.tmp 8], 40⟩
noncomputable def sp71 : Eng.Spec NN := F71.spec [.v (.str), .v (.int .u8), .v (.int .u8), .v (.int .i64)] [.v (.str)] 4000000
theorem good71 : Eng.Good prog 71 sp71 := Eng.good_fn (fn := f71) fits (by kernel_rfl) mixed (by kernel_rfl) .nil (by kernel_rfl) (by kernel_rfl) (by kernel_rfl) (by kernel_rfl) (by kernel_rfl) (by kernel_rfl) (by kernel_rfl) (by kernel_rfl) (by kernel_rfl)
noncomputable def F68 : Eng.Fn NN := ⟨⟨(Eng.look tys), (lookS []), Eng.look [], Eng.pinIds 0 [.v (.int .i64), .bw (.sl (.nm 0))], 0, noInl, noThr⟩, Eng.bodyOf Go.Proofs.Tryz.f68, [.tmp 3], 9⟩
noncomputable def sp68 : Eng.Spec NN := F68.spec [.v (.int .i64), .bw (.sl (.nm 0))] [.v (.int .i64)] 4000000
theorem good68 : Eng.Good prog 68 sp68 := Eng.good_fn (fn := f68) fits (by kernel_rfl) mixed (by kernel_rfl) .nil (by kernel_rfl) (by kernel_rfl) (by kernel_rfl) (by kernel_rfl) (by kernel_rfl) (by kernel_rfl) (by kernel_rfl) (by kernel_rfl) (by kernel_rfl)
noncomputable def F67 : Eng.Fn NN := ⟨⟨(Eng.look tys), (lookS []), Eng.look [], Eng.pinIds 0 [.v (.int .i64), .bw (.sl (.nm 0))], 0, noInl, noThr⟩, Eng.bodyOf Go.Proofs.Tryz.f67, [.tmp 3], 9⟩
noncomputable def sp67 : Eng.Spec NN := F67.spec [.v (.int .i64), .bw (.sl (.nm 0))] [.v (.str)] 4000000
theorem good67 : Eng.Good prog 67 sp67 := Eng.good_fn (fn := f67) fits (by kernel_rfl) mixed (by kernel_rfl) .nil (by kernel_rfl) (by kernel_rfl) (by kernel_rfl) (by kernel_rfl) (by kernel_rfl) (by kernel_rfl) (by kernel_rfl) (by kernel_rfl) (by kernel_rfl)
noncomputable def F48 : Eng.Fn NN := ⟨⟨(Eng.look tys), (lookS [(73, sp73), (69, sp69), (70, sp70), (72, sp72), (71, sp71), (68, sp68), (67, sp67)]), Eng.look [], Eng.pinIds 0 [.v (.str), .v (.sl (.nm 0))], 0, noInl, noThr⟩, Eng.bodyOf Go.Proofs.Tryz.f48, [.cell 4 23], 66⟩
noncomputable def sp48 : Eng.Spec NN := F48.spec [.v (.str), .v (.sl (.nm 0))] [.v (.nm 0)] 4000000
theorem good48 : Eng.Good prog 48 sp48 := Eng.good_fn (fn := f48) fits (by kernel_rfl) mixed (by kernel_rfl) (.cons good73 (.cons good69 (.cons good70 (.cons good72 (.cons good71 (.cons good68 (.cons good67 .nil))))))) (by kernel_rfl) (by kernel_rfl) (by kernel_rfl) (by kernel_rfl) (by kernel_rfl) (by kernel_rfl) (by kernel_rfl) (by kernel_rfl) (by kernel_rfl)
noncomputable def F47 : Eng.Fn NN := ⟨⟨(Eng.look tys), (lookS []), Eng.look [(1, [0]), (10, []), (12, [])], Eng.pinIds 0 [.v (.str)], 0, noInl, noThr⟩, Eng.bodyOf Go.Proofs.Tryz.f47, [.tmp 2, .tmp 3], 24⟩
noncomputable def sp47 : Eng.Spec NN := F47.spec [.v (.str)] [.own 3 (.int .i64), .v (.int .i64)] 4000000
theorem good47 : Eng.Good prog 47 sp47 := Eng.good_fn (fn := f47) fits (by kernel_rfl) mixed (by kernel_rfl) .nil (by kernel_rfl) (by kernel_rfl) (by kernel_rfl) (by kernel_rfl) (by kernel_rfl) (by kernel_rfl) (by kernel_rfl) (by kernel_rfl) (by kernel_rfl)
noncomputable def F46 : Eng.Fn NN := ⟨⟨(Eng.look tys), (lookS [(31, sp31)]), Eng.look [(3, [1, 4, 5, 9, 10, 11]), (7, [1, 4, 5, 9, 10, 11])], Eng.pinIds 0 [.v (.sl (.nm 0)), .v (.int .i64)], 0, noInl, noThr⟩, Eng.bodyOf Go.Proofs.Tryz.f46, [.cell 4 23], 33⟩
noncomputable def sp46 : Eng.Spec NN := F46.spec [.v (.sl (.nm 0)), .v (.int .i64)] [.v (.nm 0)] 4000000
theorem good46 : Eng.Good prog 46 sp46 := Eng.good_fn (fn := f46) fits (by kernel_rfl) mixed (by kernel_rfl) (.cons good31 .nil) (by kernel_rfl) (by kernel_rfl) (by kernel_rfl) (by kernel_rfl) (by kernel_rfl) (by kernel_rfl) (by kernel_rfl) (by kernel_rfl) (by kernel_rfl)
noncomputable def F45 : Eng.Fn NN := ⟨⟨(Eng.look tys), (lookS []), Eng.look [], Eng.pinIds 0 [.v (.str), .v (.int .i64)], 0, noInl, noThr⟩, Eng.bodyOf Go.Proofs.Tryz.f45, [.tmp 4, .tmp 5], 17⟩
noncomputable def sp45 : Eng.Spec NN := F45.spec [.v (.str), .v (.int .i64)] [.v (.bool), .v (.bool)] 4000000
theorem good45 : Eng.Good prog 45 sp45 := Eng.good_fn (fn := f45) fits (by kernel_rfl) mixed (by kernel_rfl) .nil (by kernel_rfl) (by kernel_rfl) (by kernel_rfl) (by kernel_rfl) (by kernel_rfl) (by kernel_rfl) (by kernel_rfl) (by kernel_rfl) (by kernel_rfl)
noncomputable def F30 : Eng.Fn NN := ⟨⟨(Eng.look tys), (lookS [(48, sp48), (47, sp47), (46, sp46), (16, sp16), (45, sp45)]), Eng.look [(15, [4, 48, 49, 50]), (24, [0, 1, 4, 9]), (25, [0, 1, 4, 9, 75, 76, 77])], Eng.pinIds 0 [.v (.str), .v (.sl (.nm 0))], 0, noInl, noThr⟩, Eng.bodyOf Go.Proofs.Tryz.f30, [.cell 4 23], 94⟩
noncomputable def sp30 : Eng.Spec NN := F30.spec [.v (.str), .v (.sl (.nm 0))] [.v (.nm 0)] 4000000
theorem good30 : Eng.Good prog 30 sp30 := Eng.good_fn (fn := f30) fits (by kernel_rfl) mixed (by kernel_rfl) (.cons good48 (.cons good47 (.cons good46 (.cons good16 (.cons good45 .nil))))) (by kernel_rfl) (by kernel_rfl) (by kernel_rfl) (by kernel_rfl) (by kernel_rfl) (by kernel_rfl) (by kernel_rfl) (by kernel_rfl) (by kernel_rfl)
noncomputable def F64 : Eng.Fn NN := ⟨⟨(Eng.look tys), (lookS [(32, sp32)]), Eng.look [(3, [0, 4, 5, 8, 9, 10])], Eng.pinIds 0 [.v (.int .i64), .v (.sl (.nm 0))], 0, noInl, noThr⟩, Eng.bodyOf Go.Proofs.Tryz.f64, [.cell 4 23], 30⟩
noncomputable def sp64 : Eng.Spec NN := F64.spec [.v (.int .i64), .v (.sl (.nm 0))] [.v (.nm 0)] 4000000
theorem good64 : Eng.Good prog 64 sp64 := Eng.good_fn (fn := f64) fits (by kernel_rfl) mixed (by kernel_rfl) (.cons good32 .nil) (by kernel_rfl) (by kernel_rfl) (by kernel_rfl) (by kernel_rfl) (by kernel_rfl) (by kernel_rfl) (by kernel_rfl) (by kernel_rfl) (by kernel_rfl)
noncomputable def F41 : Eng.Fn NN := ⟨⟨(Eng.look tys), (lookS [(64, sp64)]), Eng.look [], Eng.pinIds 0 [.v (.sl (.nm 0))], 0, noInl, noThr⟩, Eng.bodyOf Go.Proofs.Tryz.f41, [.cell 2 23], 5⟩
noncomputable def sp41 : Eng.Spec NN := F41.spec [.v (.sl (.nm 0))] [.v (.nm 0)] 4000000
theorem good41 : Eng.Good prog 41 sp41 := Eng.good_fn (fn := f41) fits (by kernel_rfl) mixed (by kernel_rfl) (.cons good64 .nil) (by kernel_rfl) (by kernel_rfl) (by kernel_rfl) (by kernel_rfl) (by kernel_rfl) (by kernel_rfl) (by kernel_rfl) (by kernel_rfl) (by kernel_rfl)
noncomputable def F29 : Eng.Fn NN := ⟨⟨(Eng.look tys), (lookS [(41, sp41), (16, sp16)]), Eng.look [(1, [0, 2]), (3, [0, 2, 3, 7, 8, 9])], Eng.pinIds 0 [.v (.sl (.nm 0))], 0, noInl, noThr⟩, Eng.bodyOf Go.Proofs.Tryz.f29, [.cell 2 23], 24⟩
noncomputable def sp29 : Eng.Spec NN := F29.spec [.v (.sl (.nm 0))] [.v (.nm 0)] 4000000
theorem good29 : Eng.Good prog 29 sp29 := Eng.good_fn (fn := f29) fits (by kernel_rfl) mixed (by kernel_rfl) (.cons good41 (.cons good16 .nil)) (by kernel_rfl) (by kernel_rfl) (by kernel_rfl) (by kernel_rfl) (by kernel_rfl) (by kernel_rfl) (by kernel_rfl) (by kernel_rfl) (by kernel_rfl)
noncomputable def F39 : Eng.Fn NN := ⟨⟨(Eng.look tys), (lookS []), Eng.look [], Eng.pinIds 0 [.v (.int .i64)], 0, noInl, noThr⟩, Eng.bodyOf Go.Proofs.Tryz.f39, [.cell 2 23], 5⟩
noncomputable def sp39 : Eng.Spec NN := F39.spec [.v (.int .i64)] [.v (.nm 0)] 4000000
theorem good39 : Eng.Good prog 39 sp39 := Eng.good_fn (fn := f39) fits (by kernel_rfl) mixed (by kernel_rfl) .nil (by kernel_rfl) (by kernel_rfl) (by kernel_rfl) (by kernel_rfl) (by kernel_rfl) (by kernel_rfl) (by kernel_rfl) (by kernel_rfl) (by kernel_rfl)
noncomputable def F82 : Eng.Fn NN := ⟨⟨(Eng.look tys), (lookS []), Eng.look [], Eng.pinIds 0 [.v (.int .u64), .v (.int .u64)], 0, noInl, noThr⟩, Eng.bodyOf Go.Proofs.Tryz.f82, [.tmp 4, .tmp 5], 51⟩
noncomputable def sp82 : Eng.Spec NN := F82.spec [.v (.int .u64), .v (.int .u64)] [.v (.int .u64), .v (.int .u64)] 4000000
theorem good82 : Eng.Good prog 82 sp82 := Eng.good_fn (fn := f82) fits (by kernel_rfl) mixed (by kernel_rfl) .nil (by kernel_rfl) (by kernel_rfl) (by kernel_rfl) (by kernel_rfl) (by kernel_rfl) (by kernel_rfl) (by kernel_rfl) (by kernel_rfl) (by kernel_rfl)
noncomputable def F66 : Eng.Fn NN := ⟨⟨(Eng.look tys), (lookS [(82, sp82)]), Eng.look [(4, [0, 1, 6, 7]), (6, [0, 1, 6, 7])], Eng.pinIds 0 [.v (.int .i64), .v (.int .i64)], 0, noInl, noThr⟩, Eng.bodyOf Go.Proofs.Tryz.f66, [.tmp 4, .tmp 5], 44⟩
noncomputable def sp66 : Eng.Spec NN := F66.spec [.v (.int .i64), .v (.int .i64)] [.v (.int .i64), .v (.bool)] 4000000
theorem good66 : Eng.Good prog 66 sp66 := Eng.good_fn (fn := f66) fits (by kernel_rfl) mixed (by kernel_rfl) (.cons good82 .nil) (by kernel_rfl) (by kernel_rfl) (by kernel_rfl) (by kernel_rfl) (by kernel_rfl) (by kernel_rfl) (by kernel_rfl) (by kernel_rfl) (by kernel_rfl)
noncomputable def F44 : Eng.Fn NN := ⟨⟨(Eng.look tys), (lookS [(39, sp39), (66, sp66)]), Eng.look [(3, [0, 4, 5, 6]), (27, [6])], Eng.pinIds 0 [.v (.int .i64), .v (.nm 0), .v (.nm 0)], 0, noInl, noThr⟩, Eng.bodyOf Go.Proofs.Tryz.f44, [.cell 6 23], 94⟩
noncomputable def sp44 : Eng.Spec NN := F44.spec [.v (.int .i64), .v (.nm 0), .v (.nm 0)] [.v (.nm 0)] 4000000
theorem good44 : Eng.Good prog 44 sp44 := Eng.good_fn (fn := f44) fits (by kernel_rfl) mixed (by kernel_rfl) (.cons good39 (.cons good66 .nil)) (by kernel_rfl) (by kernel_rfl) (by kernel_rfl) (by kernel_rfl) (by kernel_rfl) (by kernel_rfl) (by kernel_rfl) (by kernel_rfl) (by kernel_rfl)
noncomputable def F27 : Eng.Fn NN := ⟨⟨(Eng.look tys), (lookS []), Eng.look [], Eng.pinIds 0 [.v (.bool)], 0, noInl, noThr⟩, Eng.bodyOf Go.Proofs.Tryz.f27, [.cell 2 23], 6⟩
noncomputable def sp27 : Eng.Spec NN := F27.spec [.v (.bool)] [.v (.nm 0)] 4000000
theorem good27 : Eng.Good prog 27 sp27 := Eng.good_fn (fn := f27) fits (by kernel_rfl) mixed (by kernel_rfl) .nil (by kernel_rfl) (by kernel_rfl) (by kernel_rfl) (by kernel_rfl) (by kernel_rfl) (by kernel_rfl) (by kernel_rfl) (by kernel_rfl) (by kernel_rfl)
noncomputable def F86 : Eng.Fn NN := ⟨⟨(Eng.look tys), (lookS []), Eng.look [(1, [0, 1])], Eng.pinIds 0 [.v (.str), .v (.int .u8)], 0, noInl, noThr⟩, Eng.bodyOf Go.Proofs.Tryz.f86, [.tmp 4], 17⟩
noncomputable def sp86 : Eng.Spec NN := F86.spec [.v (.str), .v (.int .u8)] [.v (.str)] 4000000
theorem good86 : Eng.Good prog 86 sp86 := Eng.good_fn (fn := f86) fits (by kernel_rfl) mixed (by kernel_rfl) .nil (by kernel_rfl) (by kernel_rfl) (by kernel_rfl) (by kernel_rfl) (by kernel_rfl) (by kernel_rfl) (by kernel_rfl) (by kernel_rfl) (by kernel_rfl)
noncomputable def F87 : Eng.Fn NN := ⟨⟨(Eng.look tys), (lookS []), Eng.look [(1, [0, 1]), (2, [0, 1])], Eng.pinIds 0 [.v (.str), .v (.int .u8)], 0, noInl, noThr⟩, Eng.bodyOf Go.Proofs.Tryz.f87, [.tmp 4], 23⟩
noncomputable def sp87 : Eng.Spec NN := F87.spec [.v (.str), .v (.int .u8)] [.v (.str)] 4000000
theorem good87 : Eng.Good prog 87 sp87 := Eng.good_fn (fn := f87) fits (by kernel_rfl) mixed (by kernel_rfl) .nil (by kernel_rfl) (by kernel_rfl) (by kernel_rfl) (by kernel_rfl) (by kernel_rfl) (by kernel_rfl) (by kernel_rfl) (by kernel_rfl) (by kernel_rfl)
noncomputable def F81 : Eng.Fn NN := ⟨⟨(Eng.look tys), (lookS [(86, sp86), (87, sp87)]), Eng.look [(3, [0, 1]), (5, [0, 1])], Eng.pinIds 0 [.v (.str), .v (.str)], 0, noInl, noThr⟩, Eng.bodyOf Go.Proofs.Tryz.f81, [.tmp 4], 43⟩
noncomputable def sp81 : Eng.Spec NN := F81.spec [.v (.str), .v (.str)] [.v (.str)] 4000000
theorem good81 : Eng.Good prog 81 sp81 := Eng.good_fn (fn := f81) fits (by kernel_rfl) mixed (by kernel_rfl) (.cons good86 (.cons good87 .nil)) (by kernel_rfl) (by kernel_rfl) (by kernel_rfl) (by kernel_rfl) (by kernel_rfl) (by kernel_rfl) (by kernel_rfl) (by kernel_rfl) (by kernel_rfl)
noncomputable def F65 : Eng.Fn NN := ⟨⟨(Eng.look tys), (lookS [(81, sp81)]), Eng.look [(3, [0, 1, 5, 6, 7, 8]), (11, [0, 1, 7, 8]), (13, [0, 1, 5, 6])], Eng.pinIds 0 [.v (.str), .v (.str)], 0, noInl, noThr⟩, Eng.bodyOf Go.Proofs.Tryz.f65, [.tmp 4], 69⟩
noncomputable def sp65 : Eng.Spec NN := F65.spec [.v (.str), .v (.str)] [.v (.bool)] 40000000
theorem good65 : Eng.Good prog 65 sp65 := Eng.good_fn (fn := f65) fits (by kernel_rfl) mixed (by kernel_rfl) (.cons good81 .nil) (by kernel_rfl) (by kernel_rfl) (by kernel_rfl) (by kernel_rfl) (by kernel_rfl) (by kernel_rfl) (by kernel_rfl) (by kernel_rfl) (by kernel_rfl)
noncomputable def F43 : Eng.Fn NN := ⟨⟨(Eng.look tys), (lookS [(27, sp27), (65, sp65)]), Eng.look [(3, [2, 3, 4])], Eng.pinIds 0 [.v (.nm 0), .v (.nm 0)], 0, noInl, noThr⟩, Eng.bodyOf Go.Proofs.Tryz.f43, [.cell 4 23], 20⟩
noncomputable def sp43 : Eng.Spec NN := F43.spec [.v (.nm 0), .v (.nm 0)] [.v (.nm 0)] 4000000
theorem good43 : Eng.Good prog 43 sp43 := Eng.good_fn (fn := f43) fits (by kernel_rfl) mixed (by kernel_rfl) (.cons good27 (.cons good65 .nil)) (by kernel_rfl) (by kernel_rfl) (by kernel_rfl) (by kernel_rfl) (by kernel_rfl) (by kernel_rfl) (by kernel_rfl) (by kernel_rfl) (by kernel_rfl)
noncomputable def F42 : Eng.Fn NN := ⟨⟨(Eng.look tys), (lookS []), Eng.look [(3, [2, 3, 4])], Eng.pinIds 0 [.v (.nm 0), .v (.nm 0)], 0, noInl, noThr⟩, Eng.bodyOf Go.Proofs.Tryz.f42, [.cell 4 23], 30⟩
noncomputable def sp42 : Eng.Spec NN := F42.spec [.v (.nm 0), .v (.nm 0)] [.v (.nm 0)] 4000000
theorem good42 : Eng.Good prog 42 sp42 := Eng.good_fn (fn := f42) fits (by kernel_rfl) mixed (by kernel_rfl) .nil (by kernel_rfl) (by kernel_rfl) (by kernel_rfl) (by kernel_rfl) (by kernel_rfl) (by kernel_rfl) (by kernel_rfl) (by kernel_rfl) (by kernel_rfl)
noncomputable def F40 : Eng.Fn NN := ⟨⟨(Eng.look tys), (lookS [(64, sp64)]), Eng.look [], Eng.pinIds 0 [.v (.sl (.nm 0))], 0, noInl, noThr⟩, Eng.bodyOf Go.Proofs.Tryz.f40, [.cell 2 23], 5⟩
noncomputable def sp40 : Eng.Spec NN := F40.spec [.v (.sl (.nm 0))] [.v (.nm 0)] 4000000
theorem good40 : Eng.Good prog 40 sp40 := Eng.good_fn (fn := f40) fits (by kernel_rfl) mixed (by kernel_rfl) (.cons good64 .nil) (by kernel_rfl) (by kernel_rfl) (by kernel_rfl) (by kernel_rfl) (by kernel_rfl) (by kernel_rfl) (by kernel_rfl) (by kernel_rfl) (by kernel_rfl)
noncomputable def F28 : Eng.Fn NN := ⟨⟨(Eng.look tys), (lookS [(16, sp16), (44, sp44), (43, sp43), (42, sp42), (41, sp41), (40, sp40)]), Eng.look [(16, [0, 4, 5, 6])], Eng.pinIds 0 [.v (.int .i64), .v (.nm 0), .v (.nm 0)], 0, noInl, noThr⟩, Eng.bodyOf Go.Proofs.Tryz.f28, [.cell 6 23], 44⟩
noncomputable def sp28 : Eng.Spec NN := F28.spec [.v (.int .i64), .v (.nm 0), .v (.nm 0)] [.v (.nm 0)] 4000000
theorem good28 : Eng.Good prog 28 sp28 := Eng.good_fn (fn := f28) fits (by kernel_rfl) mixed (by kernel_rfl) (.cons good16 (.cons good44 (.cons good43 (.cons good42 (.cons good41 (.cons good40 .nil)))))) (by kernel_rfl) (by kernel_rfl) (by kernel_rfl) (by kernel_rfl) (by kernel_rfl) (by kernel_rfl) (by kernel_rfl) (by kernel_rfl) (by kernel_rfl)
noncomputable def F26 : Eng.Fn NN := ⟨⟨(Eng.look tys), (lookS [(39, sp39)]), Eng.look [], Eng.pinIds 0 [.v (.nm 0)], 0, noInl, noThr⟩, Eng.bodyOf Go.Proofs.Tryz.f26, [.cell 2 23], 16⟩
noncomputable def sp26 : Eng.Spec NN := F26.spec [.v (.nm 0)] [.v (.nm 0)] 4000000
theorem good26 : Eng.Good prog 26 sp26 := Eng.good_fn (fn := f26) fits (by kernel_rfl) mixed (by kernel_rfl) (.cons good39 .nil) (by kernel_rfl) (by kernel_rfl) (by kernel_rfl) (by kernel_rfl) (by kernel_rfl) (by kernel_rfl) (by kernel_rfl) (by kernel_rfl) (by kernel_rfl)
noncomputable def F25 : Eng.Fn NN := ⟨⟨(Eng.look tys), (lookS [(32, sp32)]), Eng.look [], Eng.pinIds 0 [.v (.nm 0)], 0, noInl, noThr⟩, Eng.bodyOf Go.Proofs.Tryz.f25, [.cell 2 23], 11⟩
noncomputable def sp25 : Eng.Spec NN := F25.spec [.v (.nm 0)] [.v (.nm 0)] 4000000
theorem good25 : Eng.Good prog 25 sp25 := Eng.good_fn (fn := f25) fits (by kernel_rfl) mixed (by kernel_rfl) (.cons good32 .nil) (by kernel_rfl) (by kernel_rfl) (by kernel_rfl) (by kernel_rfl) (by kernel_rfl) (by kernel_rfl) (by kernel_rfl) (by kernel_rfl) (by kernel_rfl)
abbrev G13 := HIn NN.ρ [.v (.nm 2), .v (.sl (.nm 0))] → Option (HRes NN.ρ [.v (.nm 0)] × HOut NN.ρ [.v (.nm 2), .v (.sl (.nm 0))])
noncomputable def F9 (g13 : G13) : Eng.Fn NN := ⟨⟨(Eng.look tys), (lookS [(15, sp15), (13, (Eng.specOf [.v (.nm 2), .v (.sl (.nm 0))] [.v (.nm 0)] 0 g13))]), Eng.look [], Eng.pinIds 0 [.v (.nm 2), .v (.sl (.nm 0))], 0, noInl, noThr⟩, Eng.bodyOf Go.Proofs.Tryz.f9, [.tmp 4], 9⟩
noncomputable def sp9 (g : G13) : Eng.Spec NN := (F9 g).spec [.v (.nm 2), .v (.sl (.nm 0))] [.v (.bool)] 4000000
theorem goodm9 (g : G13) (hg : Eng.Good prog 13 (Eng.specOf [.v (.nm 2), .v (.sl (.nm 0))] [.v (.nm 0)] 0 g)) : Eng.Good prog 9 (sp9 g) := Eng.good_fn (fn := f9) fits (by kernel_rfl) mixed (by kernel_rfl) (.cons good15 (.cons hg .nil)) (by kernel_rfl) (by kernel_rfl) (by kernel_rfl) (by kernel_rfl) (by kernel_rfl) (by kernel_rfl) (by kernel_rfl) (by kernel_rfl) (by kernel_rfl)
noncomputable def F23 (g13 : G13) : Eng.Fn NN := ⟨⟨(Eng.look tys), (lookS [(13, (Eng.specOf [.v (.nm 2), .v (.sl (.nm 0))] [.v (.nm 0)] 0 g13)), (9, (sp9 g13))]), Eng.look [(6, [0, 1, 4, 5, 6])], Eng.pinIds 0 [.v (.sl (.nm 2)), .v (.sl (.nm 0))], 0, noInl, noThr⟩, Eng.bodyOf Go.Proofs.Tryz.f23, [.cell 4 23], 43⟩
noncomputable def sp23 (g : G13) : Eng.Spec NN := (F23 g).spec [.v (.sl (.nm 2)), .v (.sl (.nm 0))] [.v (.nm 0)] 4000000
theorem goodm23 (g : G13) (hg : Eng.Good prog 13 (Eng.specOf [.v (.nm 2), .v (.sl (.nm 0))] [.v (.nm 0)] 0 g)) : Eng.Good prog 23 (sp23 g) := Eng.good_fn (fn := f23) fits (by kernel_rfl) mixed (by kernel_rfl) (.cons hg (.cons (goodm9 g hg) .nil)) (by kernel_rfl) (by kernel_rfl) (by kernel_rfl) (by kernel_rfl) (by kernel_rfl) (by kernel_rfl) (by kernel_rfl) (by kernel_rfl) (by kernel_rfl)
noncomputable def F24 (g13 : G13) : Eng.Fn NN := ⟨⟨(Eng.look tys), (lookS [(13, (Eng.specOf [.v (.nm 2), .v (.sl (.nm 0))] [.v (.nm 0)] 0 g13))]), Eng.look [(1, [0, 1]), (3, [1, 5, 8, 9, 10])], Eng.pinIds 0 [.v (.sl (.nm 2)), .v (.sl (.nm 0))], 0, noInl, noThr⟩, Eng.bodyOf Go.Proofs.Tryz.f24, [.tmp 4], 22⟩
noncomputable def sp24 (g : G13) : Eng.Spec NN := (F24 g).spec [.v (.sl (.nm 2)), .v (.sl (.nm 0))] [.own 23 (.nm 0)] 4000000
theorem goodm24 (g : G13) (hg : Eng.Good prog 13 (Eng.specOf [.v (.nm 2), .v (.sl (.nm 0))] [.v (.nm 0)] 0 g)) : Eng.Good prog 24 (sp24 g) := Eng.good_fn (fn := f24) fits (by kernel_rfl) mixed (by kernel_rfl) (.cons hg .nil) (by kernel_rfl) (by kernel_rfl) (by kernel_rfl) (by kernel_rfl) (by kernel_rfl) (by kernel_rfl) (by kernel_rfl) (by kernel_rfl) (by kernel_rfl)
noncomputable def F13 (g13 : G13) : Eng.Fn NN := ⟨⟨(Eng.look tys), (lookS [(30, sp30), (29, sp29), (28, sp28), (27, sp27), (26, sp26), (25, sp25), (24, (sp24 g13)), (23, (sp23 g13)), (14, sp14)]), Eng.look [(10, [4])], Eng.pinIds 0 [.v (.nm 2), .v (.sl (.nm 0))], 0, noInl, noThr⟩, Eng.bodyOf Go.Proofs.Tryz.f13, [.cell 4 23], 77⟩
noncomputable def r13 (k : Nat) : G13 := Nat.rec (motive := fun _ => G13) (fun _ => none) (fun _ g => (F13 g).run [.v (.nm 2), .v (.sl (.nm 0))] [.v (.nm 0)] 4000000) k
theorem r13_succ (k : Nat) (x : HIn NN.ρ [.v (.nm 2), .v (.sl (.nm 0))]) : r13 (k + 1) x = (F13 (r13 k)).run [.v (.nm 2), .v (.sl (.nm 0))] [.v (.nm 0)] 4000000 x := rfl
noncomputable def R13 : G13 := r13 100000
noncomputable def sp13 : Eng.Spec NN := Eng.specOf [.v (.nm 2), .v (.sl (.nm 0))] [.v (.nm 0)] 0 R13
theorem goodm13 (g : G13) (hg : Eng.Good prog 13 (Eng.specOf [.v (.nm 2), .v (.sl (.nm 0))] [.v (.nm 0)] 0 g)) : Eng.Good prog 13 ((F13 g).spec [.v (.nm 2), .v (.sl (.nm 0))] [.v (.nm 0)] 4000000) := Eng.good_fn (fn := f13) fits (by kernel_rfl) mixed (by kernel_rfl) (.cons good30 (.cons good29 (.cons good28 (.cons good27 (.cons good26 (.cons good25 (.cons (goodm24 g hg) (.cons (goodm23 g hg) (.cons good14 .nil))))))))) (by kernel_rfl) (by kernel_rfl) (by kernel_rfl) (by kernel_rfl) (by kernel_rfl) (by kernel_rfl) (by kernel_rfl) (by kernel_rfl) (by kernel_rfl)
theorem goodr13 : ∀ k, Eng.Good prog 13 (Eng.specOf [.v (.nm 2), .v (.sl (.nm 0))] [.v (.nm 0)] 0 (r13 k))
 | 0 => Eng.good_none (fn := f13) (by kernel_rfl) (c := Eng.bodyOf f13) (by kernel_rfl) (by kernel_rfl) _ _ _
 | k + 1 => Eng.good_rec (goodm13 (r13 k) (goodr13 k)) (r13_succ k)
theorem good13 : Eng.Good prog 13 sp13 := goodr13 100000
theorem good9 : Eng.Good prog 9 (sp9 R13) := goodm9 R13 good13
noncomputable def sp22 : Eng.Spec NN := Eng.shrinkSpec NN 3 Go.Lib.compact
theorem good22 : Eng.Good prog 22 sp22 := shrink22
noncomputable def F53 : Eng.Fn NN := ⟨⟨(Eng.look tys), (lookS []), Eng.look [(1, [0, 1, 2, 6]), (4, [0, 1, 2, 6, 7]), (6, [0, 1, 2, 6, 7])], Eng.pinIds 0 [.io 3 (.int .i64), .v (.int .i64), .v (.int .i64)], 0, noInl, noThr⟩, Eng.bodyOf Go.Proofs.Tryz.f53, [], 49⟩
noncomputable def sp53 : Eng.Spec NN := F53.spec [.io 3 (.int .i64), .v (.int .i64), .v (.int .i64)] [] 4000000
theorem good53 : Eng.Good prog 53 sp53 := Eng.good_fn (fn := f53) fits (by kernel_rfl) mixed (by kernel_rfl) .nil (by kernel_rfl) (by kernel_rfl) (by kernel_rfl) (by kernel_rfl) (by kernel_rfl) (by kernel_rfl) (by kernel_rfl) (by kernel_rfl) (by kernel_rfl)
noncomputable def F37 : Eng.Fn NN := ⟨⟨(Eng.look tys), (lookS [(53, sp53)]), Eng.look [(2, [0, 1, 2, 3, 8, 9]), (10, [0, 1, 2, 3, 8, 9, 10]), (15, [0, 1, 2, 3, 8, 9, 10, 11, 12]), (17, [0, 1, 2, 3, 8, 9, 10, 11]), (20, [0, 1, 2, 3, 10, 11])], Eng.pinIds 0 [.io 3 (.int .i64), .v (.int .i64), .v (.int .i64), .v (.int .i64)], 0, noInl, noThr⟩, Eng.bodyOf Go.Proofs.Tryz.f37, [], 134⟩
noncomputable def sp37 : Eng.Spec NN := F37.spec [.io 3 (.int .i64), .v (.int .i64), .v (.int .i64), .v (.int .i64)] [] 4000000
theorem good37 : Eng.Good prog 37 sp37 := Eng.good_fn (fn := f37) fits (by kernel_rfl) mixed (by kernel_rfl) (.cons good53 .nil) (by kernel_rfl) (by kernel_rfl) (by kernel_rfl) (by kernel_rfl) (by kernel_rfl) (by kernel_rfl) (by kernel_rfl) (by kernel_rfl) (by kernel_rfl)
noncomputable def F63 : Eng.Fn NN := ⟨⟨(Eng.look tys), (lookS []), Eng.look [(4, [0, 2]), (7, [0, 2]), (10, [0, 2])], Eng.pinIds 0 [.v (.int .u64)], 0, noInl, noThr⟩, Eng.bodyOf Go.Proofs.Tryz.f63, [.tmp 2], 25⟩
noncomputable def sp63 : Eng.Spec NN := F63.spec [.v (.int .u64)] [.v (.int .i64)] 4000000
theorem good63 : Eng.Good prog 63 sp63 := Eng.good_fn (fn := f63) fits (by kernel_rfl) mixed (by kernel_rfl) .nil (by kernel_rfl) (by kernel_rfl) (by kernel_rfl) (by kernel_rfl) (by kernel_rfl) (by kernel_rfl) (by kernel_rfl) (by kernel_rfl) (by kernel_rfl)
noncomputable def F62 : Eng.Fn NN := ⟨⟨(Eng.look tys), (lookS []), Eng.look [(4, [0, 2]), (7, [0, 2])], Eng.pinIds 0 [.v (.int .u32)], 0, noInl, noThr⟩, Eng.bodyOf Go.Proofs.Tryz.f62, [.tmp 2], 19⟩
noncomputable def sp62 : Eng.Spec NN := F62.spec [.v (.int .u32)] [.v (.int .i64)] 4000000
theorem good62 : Eng.Good prog 62 sp62 := Eng.good_fn (fn := f62) fits (by kernel_rfl) mixed (by kernel_rfl) .nil (by kernel_rfl) (by kernel_rfl) (by kernel_rfl) (by kernel_rfl) (by kernel_rfl) (by kernel_rfl) (by kernel_rfl) (by kernel_rfl) (by kernel_rfl)
noncomputable def F38 : Eng.Fn NN := ⟨⟨(Eng.look tys), (lookS [(63, sp63), (62, sp62)]), Eng.look [], Eng.pinIds 0 [.v (.int .u64)], 0, noInl, noThr⟩, Eng.bodyOf Go.Proofs.Tryz.f38, [.tmp 2], 8⟩
noncomputable def sp38 : Eng.Spec NN := F38.spec [.v (.int .u64)] [.v (.int .i64)] 4000000
theorem good38 : Eng.Good prog 38 sp38 := Eng.good_fn (fn := f38) fits (by kernel_rfl) mixed (by kernel_rfl) (.cons good63 (.cons good62 .nil)) (by kernel_rfl) (by kernel_rfl) (by kernel_rfl) (by kernel_rfl) (by kernel_rfl) (by kernel_rfl) (by kernel_rfl) (by kernel_rfl) (by kernel_rfl)
noncomputable def F21 : Eng.Fn NN := ⟨⟨(Eng.look tys), (lookS [(37, sp37), (38, sp38)]), Eng.look [], Eng.pinIds 0 [.io 3 (.int .i64)], 0, noInl, noThr⟩, Eng.bodyOf Go.Proofs.Tryz.f21, [], 11⟩
noncomputable def sp21 : Eng.Spec NN := Eng.sortSpecI NN 3
theorem good21f : Eng.Good prog 21 (F21.spec [.io 3 (.int .i64)] [] 4000000) := Eng.good_fn (fn := f21) fits (by kernel_rfl) mixed (by kernel_rfl) (.cons good37 (.cons good38 .nil)) (by kernel_rfl) (by kernel_rfl) (by kernel_rfl) (by kernel_rfl) (by kernel_rfl) (by kernel_rfl) (by kernel_rfl) (by kernel_rfl) (by kernel_rfl)
theorem good21 : Eng.Good prog 21 sp21 := Eng.good_sortI sortCalls good21f (by kernel_rfl)
noncomputable def sp52 : Eng.Spec NN := Eng.growSpec NN 35 (.nm 2)
theorem good52 : Eng.Good prog 52 sp52 := grow52
noncomputable def F36 : Eng.Fn NN := ⟨⟨(Eng.look tys), (lookS [(52, sp52)]), Eng.look [(1, [0]), (3, [0, 3, 9, 10, 11]), (11, [6, 25, 26, 27])], Eng.pinIds 0 [.v (.sl (.sl (.nm 2)))], 0, noInl, noThr⟩, Eng.bodyOf Go.Proofs.Tryz.f36, [.tmp 2], 36⟩
noncomputable def sp36 : Eng.Spec NN := F36.spec [.v (.sl (.sl (.nm 2)))] [.own 35 (.nm 2)] 4000000
theorem good36 : Eng.Good prog 36 sp36 := Eng.good_fn (fn := f36) fits (by kernel_rfl) mixed (by kernel_rfl) (.cons good52 .nil) (by kernel_rfl) (by kernel_rfl) (by kernel_rfl) (by kernel_rfl) (by kernel_rfl) (by kernel_rfl) (by kernel_rfl) (by kernel_rfl) (by kernel_rfl)
noncomputable def F20 : Eng.Fn NN := ⟨⟨(Eng.look tys), (lookS [(36, sp36)]), Eng.look [(1, [1]), (3, [3, 13, 14, 15])], Eng.pinIds 0 [.v (.nm 2)], 0, noInl, noThr⟩, Eng.bodyOf Go.Proofs.Tryz.f20, [.tmp 2], 26⟩
noncomputable def sp20 : Eng.Spec NN := F20.spec [.v (.nm 2)] [.own 35 (.nm 2)] 4000000
theorem good20 : Eng.Good prog 20 sp20 := Eng.good_fn (fn := f20) fits (by kernel_rfl) mixed (by kernel_rfl) (.cons good36 .nil) (by kernel_rfl) (by kernel_rfl) (by kernel_rfl) (by kernel_rfl) (by kernel_rfl) (by kernel_rfl) (by kernel_rfl) (by kernel_rfl) (by kernel_rfl)
abbrev G12 := HIn NN.ρ [.v (.nm 2)] → Option (HRes NN.ρ [.own 3 (.int .i64)] × HOut NN.ρ [.v (.nm 2)])
noncomputable def F12 (g12 : G12) : Eng.Fn NN := ⟨⟨(Eng.look tys), (lookS [(22, sp22), (21, sp21), (12, (Eng.specOf [.v (.nm 2)] [.own 3 (.int .i64)] 0 g12)), (20, sp20)]), Eng.look [(1, [1]), (4, [1, 3]), (5, [3, 15, 16, 17])], Eng.pinIds 0 [.v (.nm 2)], 0, noInl, noThr⟩, Eng.bodyOf Go.Proofs.Tryz.f12, [.tmp 2], 30⟩
noncomputable def r12 (k : Nat) : G12 := Nat.rec (motive := fun _ => G12) (fun _ => none) (fun _ g => (F12 g).run [.v (.nm 2)] [.own 3 (.int .i64)] 4000000) k
theorem r12_succ (k : Nat) (x : HIn NN.ρ [.v (.nm 2)]) : r12 (k + 1) x = (F12 (r12 k)).run [.v (.nm 2)] [.own 3 (.int .i64)] 4000000 x := rfl
noncomputable def R12 : G12 := r12 100000
noncomputable def sp12 : Eng.Spec NN := Eng.specOf [.v (.nm 2)] [.own 3 (.int .i64)] 0 R12
theorem goodm12 (g : G12) (hg : Eng.Good prog 12 (Eng.specOf [.v (.nm 2)] [.own 3 (.int .i64)] 0 g)) : Eng.Good prog 12 ((F12 g).spec [.v (.nm 2)] [.own 3 (.int .i64)] 4000000) := Eng.good_fn (fn := f12) fits (by kernel_rfl) mixed (by kernel_rfl) (.cons good22 (.cons good21 (.cons hg (.cons good20 .nil)))) (by kernel_rfl) (by kernel_rfl) (by kernel_rfl) (by kernel_rfl) (by kernel_rfl) (by kernel_rfl) (by kernel_rfl) (by kernel_rfl) (by kernel_rfl)
theorem goodr12 : ∀ k, Eng.Good prog 12 (Eng.specOf [.v (.nm 2)] [.own 3 (.int .i64)] 0 (r12 k))
 | 0 => Eng.good_none (fn := f12) (by kernel_rfl) (c := Eng.bodyOf f12) (by kernel_rfl) (by kernel_rfl) _ _ _
 | k + 1 => Eng.good_rec (goodm12 (r12 k) (goodr12 k)) (r12_succ k)
theorem good12 : Eng.Good prog 12 sp12 := goodr12 100000
noncomputable def F10 : Eng.Fn NN := ⟨⟨(Eng.look tys), (lookS []), Eng.look [], Eng.pinIds 0 [.v (.int .i64)], 0, noInl, noThr⟩, Eng.bodyOf Go.Proofs.Tryz.f10, [.cell 2 35], 5⟩
noncomputable def sp10 : Eng.Spec NN := F10.spec [.v (.int .i64)] [.v (.nm 2)] 4000000
theorem good10 : Eng.Good prog 10 sp10 := Eng.good_fn (fn := f10) fits (by kernel_rfl) mixed (by kernel_rfl) .nil (by kernel_rfl) (by kernel_rfl) (by kernel_rfl) (by kernel_rfl) (by kernel_rfl) (by kernel_rfl) (by kernel_rfl) (by kernel_rfl) (by kernel_rfl)
noncomputable def F11 : Eng.Fn NN := ⟨⟨(Eng.look tys), (lookS []), Eng.look [], Eng.pinIds 0 [.v (.int .i64)], 0, noInl, noThr⟩, Eng.bodyOf Go.Proofs.Tryz.f11, [.cell 2 35], 6⟩
noncomputable def sp11 : Eng.Spec NN := F11.spec [.v (.int .i64)] [.v (.nm 2)] 4000000
theorem good11 : Eng.Good prog 11 sp11 := Eng.good_fn (fn := f11) fits (by kernel_rfl) mixed (by kernel_rfl) .nil (by kernel_rfl) (by kernel_rfl) (by kernel_rfl) (by kernel_rfl) (by kernel_rfl) (by kernel_rfl) (by kernel_rfl) (by kernel_rfl) (by kernel_rfl)
noncomputable def F18 : Eng.Fn NN := ⟨⟨(Eng.look tys), (lookS []), Eng.look [], Eng.pinIds 0 [.v (.nm 0)], 0, noInl, noThr⟩, Eng.bodyOf Go.Proofs.Tryz.f18, [.tmp 2], 11⟩
noncomputable def sp18 : Eng.Spec NN := F18.spec [.v (.nm 0)] [.v (.bool)] 4000000
theorem good18 : Eng.Good prog 18 sp18 := Eng.good_fn (fn := f18) fits (by kernel_rfl) mixed (by kernel_rfl) .nil (by kernel_rfl) (by kernel_rfl) (by kernel_rfl) (by kernel_rfl) (by kernel_rfl) (by kernel_rfl) (by kernel_rfl) (by kernel_rfl) (by kernel_rfl)
noncomputable def F33 : Eng.Fn NN := ⟨⟨(Eng.look tys), (lookS []), Eng.look [], Eng.pinIds 0 [.v (.bool)], 0, noInl, noThr⟩, Eng.bodyOf Go.Proofs.Tryz.f33, [.cell 2 23], 6⟩
noncomputable def sp33 : Eng.Spec NN := F33.spec [.v (.bool)] [.v (.nm 0)] 4000000
theorem good33 : Eng.Good prog 33 sp33 := Eng.good_fn (fn := f33) fits (by kernel_rfl) mixed (by kernel_rfl) .nil (by kernel_rfl) (by kernel_rfl) (by kernel_rfl) (by kernel_rfl) (by kernel_rfl) (by kernel_rfl) (by kernel_rfl) (by kernel_rfl) (by kernel_rfl)
noncomputable def F34 : Eng.Fn NN := ⟨⟨(Eng.look tys), (lookS []), Eng.look [], Eng.pinIds 0 [.v (.int .i64), .v (.int .i64)], 0, noInl, noThr⟩, Eng.bodyOf Go.Proofs.Tryz.f34, [.tmp 4], 30⟩
noncomputable def sp34 : Eng.Spec NN := F34.spec [.v (.int .i64), .v (.int .i64)] [.v (.bool)] 4000000
theorem good34 : Eng.Good prog 34 sp34 := Eng.good_fn (fn := f34) fits (by kernel_rfl) mixed (by kernel_rfl) .nil (by kernel_rfl) (by kernel_rfl) (by kernel_rfl) (by kernel_rfl) (by kernel_rfl) (by kernel_rfl) (by kernel_rfl) (by kernel_rfl) (by kernel_rfl)
noncomputable def F51 : Eng.Fn NN := ⟨⟨(Eng.look tys), (lookS []), Eng.look [], Eng.pinIds 0 [.v (.bool), .v (.bool)], 0, noInl, noThr⟩, Eng.bodyOf Go.Proofs.Tryz.f51, [.tmp 4], 7⟩
noncomputable def sp51 : Eng.Spec NN := F51.spec [.v (.bool), .v (.bool)] [.v (.int .i64)] 4000000
theorem good51 : Eng.Good prog 51 sp51 := Eng.good_fn (fn := f51) fits (by kernel_rfl) mixed (by kernel_rfl) .nil (by kernel_rfl) (by kernel_rfl) (by kernel_rfl) (by kernel_rfl) (by kernel_rfl) (by kernel_rfl) (by kernel_rfl) (by kernel_rfl) (by kernel_rfl)
noncomputable def F35 : Eng.Fn NN := ⟨⟨(Eng.look tys), (lookS [(51, sp51)]), Eng.look [], Eng.pinIds 0 [.v (.nm 0), .v (.nm 0)], 0, noInl, noThr⟩, Eng.bodyOf Go.Proofs.Tryz.f35, [.tmp 4], 41⟩
noncomputable def sp35 : Eng.Spec NN := F35.spec [.v (.nm 0), .v (.nm 0)] [.v (.int .i64)] 4000000
theorem good35 : Eng.Good prog 35 sp35 := Eng.good_fn (fn := f35) fits (by kernel_rfl) mixed (by kernel_rfl) (.cons good51 .nil) (by kernel_rfl) (by kernel_rfl) (by kernel_rfl) (by kernel_rfl) (by kernel_rfl) (by kernel_rfl) (by kernel_rfl) (by kernel_rfl) (by kernel_rfl)
noncomputable def F19 : Eng.Fn NN := ⟨⟨(Eng.look tys), (lookS [(33, sp33), (34, sp34), (35, sp35)]), Eng.look [(3, [0, 4, 5, 6])], Eng.pinIds 0 [.v (.int .i64), .v (.nm 0), .v (.nm 0)], 0, noInl, noThr⟩, Eng.bodyOf Go.Proofs.Tryz.f19, [.cell 6 23], 32⟩
noncomputable def sp19 : Eng.Spec NN := F19.spec [.v (.int .i64), .v (.nm 0), .v (.nm 0)] [.v (.nm 0)] 4000000
theorem good19 : Eng.Good prog 19 sp19 := Eng.good_fn (fn := f19) fits (by kernel_rfl) mixed (by kernel_rfl) (.cons good33 (.cons good34 (.cons good35 .nil))) (by kernel_rfl) (by kernel_rfl) (by kernel_rfl) (by kernel_rfl) (by kernel_rfl) (by kernel_rfl) (by kernel_rfl) (by kernel_rfl) (by kernel_rfl)
noncomputable def F17 : Eng.Fn NN := ⟨⟨(Eng.look tys), (lookS []), Eng.look [], Eng.pinIds 0 [.v (.sl (.nm 0)), .v (.int .i64)], 0, noInl, noThr⟩, Eng.bodyOf Go.Proofs.Tryz.f17, [.cell 4 23], 18⟩
noncomputable def sp17 : Eng.Spec NN := F17.spec [.v (.sl (.nm 0)), .v (.int .i64)] [.v (.nm 0)] 4000000
theorem good17 : Eng.Good prog 17 sp17 := Eng.good_fn (fn := f17) fits (by kernel_rfl) mixed (by kernel_rfl) .nil (by kernel_rfl) (by kernel_rfl) (by kernel_rfl) (by kernel_rfl) (by kernel_rfl) (by kernel_rfl) (by kernel_rfl) (by kernel_rfl) (by kernel_rfl)
noncomputable def F8 : Eng.Fn NN := ⟨⟨(Eng.look tys), (lookS [(18, sp18), (19, sp19), (17, sp17)]), Eng.look [], Eng.pinIds 0 [.v (.nm 1), .v (.sl (.nm 0))], 0, noInl, noThr⟩, Eng.bodyOf Go.Proofs.Tryz.f8, [.tmp 4], 29⟩
noncomputable def sp8 : Eng.Spec NN := F8.spec [.v (.nm 1), .v (.sl (.nm 0))] [.v (.bool)] 4000000
theorem good8 : Eng.Good prog 8 sp8 := Eng.good_fn (fn := f8) fits (by kernel_rfl) mixed (by kernel_rfl) (.cons good18 (.cons good19 (.cons good17 .nil))) (by kernel_rfl) (by kernel_rfl) (by kernel_rfl) (by kernel_rfl) (by kernel_rfl) (by kernel_rfl) (by kernel_rfl) (by kernel_rfl) (by kernel_rfl)
noncomputable def F5 : Eng.Fn NN := ⟨⟨(Eng.look tys), (lookS []), Eng.look [], Eng.pinIds 0 [.v (.nm 0)], 0, noInl, noThr⟩, Eng.bodyOf Go.Proofs.Tryz.f5, [.tmp 2], 46⟩
noncomputable def sp5 : Eng.Spec NN := F5.spec [.v (.nm 0)] [.v (.bool)] 4000000
theorem good5 : Eng.Good prog 5 sp5 := Eng.good_fn (fn := f5) fits (by kernel_rfl) mixed (by kernel_rfl) .nil (by kernel_rfl) (by kernel_rfl) (by kernel_rfl) (by kernel_rfl) (by kernel_rfl) (by kernel_rfl) (by kernel_rfl) (by kernel_rfl) (by kernel_rfl)
noncomputable def F4 : Eng.Fn NN := ⟨⟨(Eng.look tys), (lookS [(5, sp5)]), Eng.look [(2, [0, 3])], Eng.pinIds 0 [.v (.sl (.nm 0))], 0, noInl, noThr⟩, Eng.bodyOf Go.Proofs.Tryz.f4, [.tmp 2], 16⟩
noncomputable def sp4 : Eng.Spec NN := F4.spec [.v (.sl (.nm 0))] [.v (.bool)] 4000000
theorem good4 : Eng.Good prog 4 sp4 := Eng.good_fn (fn := f4) fits (by kernel_rfl) mixed (by kernel_rfl) (.cons good5 .nil) (by kernel_rfl) (by kernel_rfl) (by kernel_rfl) (by kernel_rfl) (by kernel_rfl) (by kernel_rfl) (by kernel_rfl) (by kernel_rfl) (by kernel_rfl)
end Go.Proofs.Tryz
