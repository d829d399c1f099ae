/- The functions of the program as the engine follows them (printed by a program of ours): their code, what is known of them, and the equations of their runs. -/
import Derived.Test.YtlkllggdiakpbaaGreatDoorL42Base
set_option linter.unusedVariables false
set_option maxRecDepth 20000
namespace Go.Proofs.Tryz
open Go.Eng
noncomputable def F117 : Eng.Fn NN := ⟨⟨(Eng.look tys), (lookS []), Eng.look [], Eng.pinIds 0 [.v (.bool), .v (.bool)], 0⟩, Eng.bodyOf Go.Proofs.Tryz.f117, [.tmp 4], 9⟩
noncomputable def sp117 : Eng.Spec NN := F117.spec [.v (.bool), .v (.bool)] [.v (.int .i64)] 4000000
theorem good117 : Eng.Good prog 117 sp117 := Eng.good_fn (fn := f117) fits (by kernel_rfl) mixed (by kernel_rfl) .nil (by kernel_rfl) (by kernel_rfl) (by kernel_rfl) (by kernel_rfl) (by kernel_rfl) (by kernel_rfl) (by kernel_rfl) (by kernel_rfl) (by kernel_rfl)
noncomputable def sp142 : Eng.Spec NN := Eng.specOf [PK.v Ty.str, PK.v Ty.str] [RK.v (Ty.int .i64)] 0 (fun x => some ((Eng.cmpS x.1 x.2.1, ()), ()))
theorem good142 : Eng.Good prog 142 sp142 := Eng.good_cmp (fn := f142) (by kernel_rfl) (c := Eng.bodyOf f142) (by kernel_rfl) (by kernel_rfl) cmpCalls
noncomputable def F118 : Eng.Fn NN := ⟨⟨(Eng.look tys), (lookS [(142, sp142)]), Eng.look [], Eng.pinIds 0 [.v (.str), .v (.str)], 0⟩, Eng.bodyOf Go.Proofs.Tryz.f118, [.tmp 4], 8⟩
noncomputable def sp118 : Eng.Spec NN := F118.spec [.v (.str), .v (.str)] [.v (.int .i64)] 4000000
theorem good118 : Eng.Good prog 118 sp118 := Eng.good_fn (fn := f118) fits (by kernel_rfl) mixed (by kernel_rfl) (.cons good142 .nil) (by kernel_rfl) (by kernel_rfl) (by kernel_rfl) (by kernel_rfl) (by kernel_rfl) (by kernel_rfl) (by kernel_rfl) (by kernel_rfl) (by kernel_rfl)
noncomputable def F81 : Eng.Fn NN := ⟨⟨(Eng.look tys), (lookS [(117, sp117), (118, sp118)]), Eng.look [(8, [2, 3])], Eng.pinIds 0 [.v (.nm 0), .v (.nm 0)], 0⟩, Eng.bodyOf Go.Proofs.Tryz.f81, [.tmp 4], 40⟩
noncomputable def sp81 : Eng.Spec NN := F81.spec [.v (.nm 0), .v (.nm 0)] [.v (.int .i64)] 4000000
theorem good81 : Eng.Good prog 81 sp81 := Eng.good_fn (fn := f81) fits (by kernel_rfl) mixed (by kernel_rfl) (.cons good117 (.cons good118 .nil)) (by kernel_rfl) (by kernel_rfl) (by kernel_rfl) (by kernel_rfl) (by kernel_rfl) (by kernel_rfl) (by kernel_rfl) (by kernel_rfl) (by kernel_rfl)
noncomputable def F44 : Eng.Fn NN := ⟨⟨(Eng.look tys), (lookS [(81, sp81)]), Eng.look [], Eng.pinIds 0 [.v (.nm 0), .v (.nm 0)], 0⟩, Eng.bodyOf Go.Proofs.Tryz.f44, [.tmp 4], 9⟩
noncomputable def sp44 : Eng.Spec NN := F44.spec [.v (.nm 0), .v (.nm 0)] [.v (.bool)] 4000000
theorem good44 : Eng.Good prog 44 sp44 := Eng.good_fn (fn := f44) fits (by kernel_rfl) mixed (by kernel_rfl) (.cons good81 .nil) (by kernel_rfl) (by kernel_rfl) (by kernel_rfl) (by kernel_rfl) (by kernel_rfl) (by kernel_rfl) (by kernel_rfl) (by kernel_rfl) (by kernel_rfl)
noncomputable def F40 : Eng.Fn NN := ⟨⟨(Eng.look tys), (lookS []), Eng.look [(3, [1, 2, 4])], Eng.pinIds 0 [.v (.nm 3), .v (.int .i64)], 0⟩, Eng.bodyOf Go.Proofs.Tryz.f40, [.cell 4 23], 39⟩
noncomputable def sp40 : Eng.Spec NN := F40.spec [.v (.nm 3), .v (.int .i64)] [.v (.nm 0)] 4000000
theorem good40 : Eng.Good prog 40 sp40 := Eng.good_fn (fn := f40) fits (by kernel_rfl) mixed (by kernel_rfl) .nil (by kernel_rfl) (by kernel_rfl) (by kernel_rfl) (by kernel_rfl) (by kernel_rfl) (by kernel_rfl) (by kernel_rfl) (by kernel_rfl) (by kernel_rfl)
noncomputable def F22 : Eng.Fn NN := ⟨⟨(Eng.look tys), (lookS [(44, sp44), (40, sp40)]), Eng.look [(3, [0, 1, 2, 3]), (4, [0, 1, 2, 3, 24, 25])], Eng.pinIds 0 [.v (.sl (.nm 3)), .v (.int .i64), .v (.sl (.nm 3)), .v (.int .i64)], 0⟩, Eng.bodyOf Go.Proofs.Tryz.f22, [.tmp 8], 63⟩
noncomputable def sp22 : Eng.Spec NN := F22.spec [.v (.sl (.nm 3)), .v (.int .i64), .v (.sl (.nm 3)), .v (.int .i64)] [.v (.bool)] 4000000
theorem good22 : Eng.Good prog 22 sp22 := Eng.good_fn (fn := f22) fits (by kernel_rfl) mixed (by kernel_rfl) (.cons good44 (.cons good40 .nil)) (by kernel_rfl) (by kernel_rfl) (by kernel_rfl) (by kernel_rfl) (by kernel_rfl) (by kernel_rfl) (by kernel_rfl) (by kernel_rfl) (by kernel_rfl)
noncomputable def F30 : Eng.Fn NN := ⟨⟨(Eng.look tys), (lookS []), Eng.look [(1, [0])], Eng.pinIds 0 [], 0⟩, Eng.bodyOf Go.Proofs.Tryz.f30, [.cell 0 31], 7⟩
noncomputable def sp30 : Eng.Spec NN := F30.spec [] [.ag 2 [.o 40 (.nm 3), .c (.int .i64), .c (.bool), .o 3 (.int .i64)]] 4000000
theorem good30 : Eng.Good prog 30 sp30 := Eng.good_fn (fn := f30) fits (by kernel_rfl) mixed (by kernel_rfl) .nil (by kernel_rfl) (by kernel_rfl) (by kernel_rfl) (by kernel_rfl) (by kernel_rfl) (by kernel_rfl) (by kernel_rfl) (by kernel_rfl) (by kernel_rfl)
noncomputable def F77 : Eng.Fn NN := ⟨⟨(Eng.look tys), (lookS []), Eng.look [], Eng.pinIds 0 [.v (.int .u64)], 0⟩, Eng.bodyOf Go.Proofs.Tryz.f77, [.tmp 2], 17⟩
noncomputable def sp77 : Eng.Spec NN := F77.spec [.v (.int .u64)] [.v (.int .u64)] 4000000
theorem good77 : Eng.Good prog 77 sp77 := Eng.good_fn (fn := f77) fits (by kernel_rfl) mixed (by kernel_rfl) .nil (by kernel_rfl) (by kernel_rfl) (by kernel_rfl) (by kernel_rfl) (by kernel_rfl) (by kernel_rfl) (by kernel_rfl) (by kernel_rfl) (by kernel_rfl)
noncomputable def F78 : Eng.Fn NN := ⟨⟨(Eng.look tys), (lookS [(77, sp77)]), Eng.look [(3, [1, 5, 6]), (9, [1, 5, 6, 7, 8, 32])], Eng.pinIds 0 [.v (.int .u64), .v (.sl (.int .u8))], 0⟩, Eng.bodyOf Go.Proofs.Tryz.f78, [.tmp 4], 51⟩
noncomputable def sp78 : Eng.Spec NN := F78.spec [.v (.int .u64), .v (.sl (.int .u8))] [.v (.int .u64)] 4000000
theorem good78 : Eng.Good prog 78 sp78 := Eng.good_fn (fn := f78) fits (by kernel_rfl) mixed (by kernel_rfl) (.cons good77 .nil) (by kernel_rfl) (by kernel_rfl) (by kernel_rfl) (by kernel_rfl) (by kernel_rfl) (by kernel_rfl) (by kernel_rfl) (by kernel_rfl) (by kernel_rfl)
noncomputable def F41 : Eng.Fn NN := ⟨⟨(Eng.look tys), (lookS [(78, sp78), (77, sp77)]), Eng.look [(3, [5, 10, 11, 12]), (14, [5, 10, 11, 12])], Eng.pinIds 0 [.v (.int .u64), .v (.sl (.nm 0))], 0⟩, Eng.bodyOf Go.Proofs.Tryz.f41, [.tmp 4], 54⟩
noncomputable def sp41 : Eng.Spec NN := F41.spec [.v (.int .u64), .v (.sl (.nm 0))] [.v (.int .u64)] 4000000
theorem good41 : Eng.Good prog 41 sp41 := Eng.good_fn (fn := f41) fits (by kernel_rfl) mixed (by kernel_rfl) (.cons good78 (.cons good77 .nil)) (by kernel_rfl) (by kernel_rfl) (by kernel_rfl) (by kernel_rfl) (by kernel_rfl) (by kernel_rfl) (by kernel_rfl) (by kernel_rfl) (by kernel_rfl)
noncomputable def F20 : Eng.Fn NN := ⟨⟨(Eng.look tys), (lookS [(41, sp41), (40, sp40)]), Eng.look [(1, [0, 1, 2]), (4, [0, 1, 7, 8, 19, 20, 21]), (7, [0, 1, 7, 8, 9, 10, 19, 20, 21, 26, 27, 28])], Eng.pinIds 0 [.v (.int .u64), .v (.sl (.nm 3)), .v (.sl (.int .i64))], 0⟩, Eng.bodyOf Go.Proofs.Tryz.f20, [.tmp 6], 48⟩
noncomputable def sp20 : Eng.Spec NN := F20.spec [.v (.int .u64), .v (.sl (.nm 3)), .v (.sl (.int .i64))] [.own 46 (.int .u64)] 4000000
theorem good20 : Eng.Good prog 20 sp20 := Eng.good_fn (fn := f20) fits (by kernel_rfl) mixed (by kernel_rfl) (.cons good41 (.cons good40 .nil)) (by kernel_rfl) (by kernel_rfl) (by kernel_rfl) (by kernel_rfl) (by kernel_rfl) (by kernel_rfl) (by kernel_rfl) (by kernel_rfl) (by kernel_rfl)
noncomputable def F87 : Eng.Fn NN := ⟨⟨(Eng.look tys), (lookS []), Eng.look [(1, [2, 3, 4]), (8, [2, 4])], Eng.pinIds 0 [.ag 3 AGV, .v (.nm 0)], 0⟩, Eng.bodyOf Go.Proofs.Tryz.f87, [.cell 4 40], 35⟩
noncomputable def sp87 : Eng.Spec NN := F87.spec [.ag 3 AGV, .v (.nm 0)] [.ag 3 AGV] 4000000
theorem good87 : Eng.Good prog 87 sp87 := Eng.good_fn (fn := f87) fits (by kernel_rfl) mixed (by kernel_rfl) .nil (by kernel_rfl) (by kernel_rfl) (by kernel_rfl) (by kernel_rfl) (by kernel_rfl) (by kernel_rfl) (by kernel_rfl) (by kernel_rfl) (by kernel_rfl)
noncomputable def F86 : Eng.Fn NN := ⟨⟨(Eng.look tys), (lookS []), Eng.look [], Eng.pinIds 0 [.v (.nm 0), .v (.int .i64)], 0⟩, Eng.bodyOf Go.Proofs.Tryz.f86, [.tmp 4], 14⟩
noncomputable def sp86 : Eng.Spec NN := F86.spec [.v (.nm 0), .v (.int .i64)] [.v (.bool)] 4000000
theorem good86 : Eng.Good prog 86 sp86 := Eng.good_fn (fn := f86) fits (by kernel_rfl) mixed (by kernel_rfl) .nil (by kernel_rfl) (by kernel_rfl) (by kernel_rfl) (by kernel_rfl) (by kernel_rfl) (by kernel_rfl) (by kernel_rfl) (by kernel_rfl) (by kernel_rfl)
noncomputable def F85 : Eng.Fn NN := ⟨⟨(Eng.look tys), (lookS []), Eng.look [], Eng.pinIds 0 [.v (.int .i64)], 0⟩, Eng.bodyOf Go.Proofs.Tryz.f85, [.tmp 2], 9⟩
noncomputable def sp85 : Eng.Spec NN := F85.spec [.v (.int .i64)] [.v (.bool)] 4000000
theorem good85 : Eng.Good prog 85 sp85 := Eng.good_fn (fn := f85) fits (by kernel_rfl) mixed (by kernel_rfl) .nil (by kernel_rfl) (by kernel_rfl) (by kernel_rfl) (by kernel_rfl) (by kernel_rfl) (by kernel_rfl) (by kernel_rfl) (by kernel_rfl) (by kernel_rfl)
noncomputable def F51 : Eng.Fn NN := ⟨⟨(Eng.look tys), (lookS [(87, sp87), (86, sp86), (85, sp85)]), Eng.look [(1, [0, 2, 4, 6]), (3, [0, 2, 4, 6]), (5, [0, 2, 4, 6]), (7, [4, 6, 7, 19, 20])], Eng.pinIds 0 [.v (.int .i64), .v (.nm 0), .v (.int .i64)], 0⟩, Eng.bodyOf Go.Proofs.Tryz.f51, [.cell 6 40], 27⟩
noncomputable def sp51 : Eng.Spec NN := F51.spec [.v (.int .i64), .v (.nm 0), .v (.int .i64)] [.ag 3 AGV] 4000000
theorem good51 : Eng.Good prog 51 sp51 := Eng.good_fn (fn := f51) fits (by kernel_rfl) mixed (by kernel_rfl) (.cons good87 (.cons good86 (.cons good85 .nil))) (by kernel_rfl) (by kernel_rfl) (by kernel_rfl) (by kernel_rfl) (by kernel_rfl) (by kernel_rfl) (by kernel_rfl) (by kernel_rfl) (by kernel_rfl)
noncomputable def F62 : Eng.Fn NN := ⟨⟨(Eng.look tys), (lookS [(51, sp51)]), Eng.look [(1, [0, 1, 4])], Eng.pinIds 0 [.v (.int .i64), .v (.int .i64)], 0⟩, Eng.bodyOf Go.Proofs.Tryz.f62, [.cell 4 40], 9⟩
noncomputable def sp62 : Eng.Spec NN := F62.spec [.v (.int .i64), .v (.int .i64)] [.ag 3 AGV] 4000000
theorem good62 : Eng.Good prog 62 sp62 := Eng.good_fn (fn := f62) fits (by kernel_rfl) mixed (by kernel_rfl) (.cons good51 .nil) (by kernel_rfl) (by kernel_rfl) (by kernel_rfl) (by kernel_rfl) (by kernel_rfl) (by kernel_rfl) (by kernel_rfl) (by kernel_rfl) (by kernel_rfl)
noncomputable def F90 : Eng.Fn NN := ⟨⟨(Eng.look tys), (lookS [(87, sp87), (86, sp86), (85, sp85)]), Eng.look [(1, [0, 1, 4]), (5, [0, 4, 6, 15, 16, 17])], Eng.pinIds 0 [.v (.int .i64), .v (.sl (.nm 0))], 0⟩, Eng.bodyOf Go.Proofs.Tryz.f90, [.cell 4 40, .tmp 5], 31⟩
noncomputable def sp90 : Eng.Spec NN := F90.spec [.v (.int .i64), .v (.sl (.nm 0))] [.ag 3 AGV, .v (.int .i64)] 4000000
theorem good90 : Eng.Good prog 90 sp90 := Eng.good_fn (fn := f90) fits (by kernel_rfl) mixed (by kernel_rfl) (.cons good87 (.cons good86 (.cons good85 .nil))) (by kernel_rfl) (by kernel_rfl) (by kernel_rfl) (by kernel_rfl) (by kernel_rfl) (by kernel_rfl) (by kernel_rfl) (by kernel_rfl) (by kernel_rfl)
noncomputable def F172 : Eng.Fn NN := ⟨⟨(Eng.look tys), (lookS []), Eng.look [], Eng.pinIds 0 [.v (.str), .v (.str)], 0⟩, Eng.bodyOf Go.Proofs.Tryz.f172, [.tmp 4], 18⟩
noncomputable def sp172 : Eng.Spec NN := F172.spec [.v (.str), .v (.str)] [.v (.bool)] 4000000
theorem good172 : Eng.Good prog 172 sp172 := Eng.good_fn (fn := f172) fits (by kernel_rfl) mixed (by kernel_rfl) .nil (by kernel_rfl) (by kernel_rfl) (by kernel_rfl) (by kernel_rfl) (by kernel_rfl) (by kernel_rfl) (by kernel_rfl) (by kernel_rfl) (by kernel_rfl)
noncomputable def F162 : Eng.Fn NN := ⟨⟨(Eng.look tys), (lookS [(172, sp172)]), Eng.look [], Eng.pinIds 0 [.v (.str), .v (.str)], 0⟩, Eng.bodyOf Go.Proofs.Tryz.f162, [.tmp 4], 8⟩
noncomputable def sp162 : Eng.Spec NN := F162.spec [.v (.str), .v (.str)] [.v (.bool)] 4000000
theorem good162 : Eng.Good prog 162 sp162 := Eng.good_fn (fn := f162) fits (by kernel_rfl) mixed (by kernel_rfl) (.cons good172 .nil) (by kernel_rfl) (by kernel_rfl) (by kernel_rfl) (by kernel_rfl) (by kernel_rfl) (by kernel_rfl) (by kernel_rfl) (by kernel_rfl) (by kernel_rfl)
noncomputable def F158 : Eng.Fn NN := ⟨⟨(Eng.look tys), (lookS []), Eng.look [], Eng.pinIds 0 [.v (.int .i64)], 0⟩, Eng.bodyOf Go.Proofs.Tryz.f158, [.cell 2 23], 5⟩
noncomputable def sp158 : Eng.Spec NN := F158.spec [.v (.int .i64)] [.v (.nm 0)] 4000000
theorem good158 : Eng.Good prog 158 sp158 := Eng.good_fn (fn := f158) fits (by kernel_rfl) mixed (by kernel_rfl) .nil (by kernel_rfl) (by kernel_rfl) (by kernel_rfl) (by kernel_rfl) (by kernel_rfl) (by kernel_rfl) (by kernel_rfl) (by kernel_rfl) (by kernel_rfl)
noncomputable def F159 : Eng.Fn NN := ⟨⟨(Eng.look tys), (lookS []), Eng.look [], Eng.pinIds 0 [.v (.str)], 0⟩, Eng.bodyOf Go.Proofs.Tryz.f159, [.cell 2 23], 5⟩
noncomputable def sp159 : Eng.Spec NN := F159.spec [.v (.str)] [.v (.nm 0)] 4000000
theorem good159 : Eng.Good prog 159 sp159 := Eng.good_fn (fn := f159) fits (by kernel_rfl) mixed (by kernel_rfl) .nil (by kernel_rfl) (by kernel_rfl) (by kernel_rfl) (by kernel_rfl) (by kernel_rfl) (by kernel_rfl) (by kernel_rfl) (by kernel_rfl) (by kernel_rfl)
noncomputable def F161 : Eng.Fn NN := ⟨⟨(Eng.look tys), (lookS []), Eng.look [(6, [0, 1, 7])], Eng.pinIds 0 [.v (.str), .v (.int .i64), .v (.int .i64)], 0⟩, Eng.bodyOf Go.Proofs.Tryz.f161, [.tmp 6], 33⟩
noncomputable def sp161 : Eng.Spec NN := F161.spec [.v (.str), .v (.int .i64), .v (.int .i64)] [.v (.str)] 4000000
theorem good161 : Eng.Good prog 161 sp161 := Eng.good_fn (fn := f161) fits (by kernel_rfl) mixed (by kernel_rfl) .nil (by kernel_rfl) (by kernel_rfl) (by kernel_rfl) (by kernel_rfl) (by kernel_rfl) (by kernel_rfl) (by kernel_rfl) (by kernel_rfl) (by kernel_rfl)
noncomputable def F160 : Eng.Fn NN := ⟨⟨(Eng.look tys), (lookS []), Eng.look [(3, [1, 2, 3, 9, 14, 15, 16]), (7, [1, 2, 3, 9, 14, 15, 16])], Eng.pinIds 0 [.v (.str), .v (.int .u8), .v (.int .u8), .v (.int .i64)], 0⟩, Eng.bodyOf Go.Proofs.Tryz.f160, [.tmp 8], 40⟩
noncomputable def sp160 : Eng.Spec NN := F160.spec [.v (.str), .v (.int .u8), .v (.int .u8), .v (.int .i64)] [.v (.str)] 4000000
theorem good160 : Eng.Good prog 160 sp160 := Eng.good_fn (fn := f160) fits (by kernel_rfl) mixed (by kernel_rfl) .nil (by kernel_rfl) (by kernel_rfl) (by kernel_rfl) (by kernel_rfl) (by kernel_rfl) (by kernel_rfl) (by kernel_rfl) (by kernel_rfl) (by kernel_rfl)
noncomputable def F157 : Eng.Fn NN := ⟨⟨(Eng.look tys), (lookS []), Eng.look [], Eng.pinIds 0 [.v (.int .i64), .bw (.sl (.nm 0))], 0⟩, Eng.bodyOf Go.Proofs.Tryz.f157, [.tmp 3], 9⟩
noncomputable def sp157 : Eng.Spec NN := F157.spec [.v (.int .i64), .bw (.sl (.nm 0))] [.v (.int .i64)] 4000000
theorem good157 : Eng.Good prog 157 sp157 := Eng.good_fn (fn := f157) fits (by kernel_rfl) mixed (by kernel_rfl) .nil (by kernel_rfl) (by kernel_rfl) (by kernel_rfl) (by kernel_rfl) (by kernel_rfl) (by kernel_rfl) (by kernel_rfl) (by kernel_rfl) (by kernel_rfl)
noncomputable def F156 : Eng.Fn NN := ⟨⟨(Eng.look tys), (lookS []), Eng.look [], Eng.pinIds 0 [.v (.int .i64), .bw (.sl (.nm 0))], 0⟩, Eng.bodyOf Go.Proofs.Tryz.f156, [.tmp 3], 9⟩
noncomputable def sp156 : Eng.Spec NN := F156.spec [.v (.int .i64), .bw (.sl (.nm 0))] [.v (.str)] 4000000
theorem good156 : Eng.Good prog 156 sp156 := Eng.good_fn (fn := f156) fits (by kernel_rfl) mixed (by kernel_rfl) .nil (by kernel_rfl) (by kernel_rfl) (by kernel_rfl) (by kernel_rfl) (by kernel_rfl) (by kernel_rfl) (by kernel_rfl) (by kernel_rfl) (by kernel_rfl)
noncomputable def F135 : Eng.Fn NN := ⟨⟨(Eng.look tys), (lookS [(162, sp162), (158, sp158), (159, sp159), (161, sp161), (160, sp160), (157, sp157), (156, sp156)]), Eng.look [], Eng.pinIds 0 [.v (.str), .v (.sl (.nm 0))], 0⟩, Eng.bodyOf Go.Proofs.Tryz.f135, [.cell 4 23], 66⟩
noncomputable def sp135 : Eng.Spec NN := F135.spec [.v (.str), .v (.sl (.nm 0))] [.v (.nm 0)] 4000000
theorem good135 : Eng.Good prog 135 sp135 := Eng.good_fn (fn := f135) fits (by kernel_rfl) mixed (by kernel_rfl) (.cons good162 (.cons good158 (.cons good159 (.cons good161 (.cons good160 (.cons good157 (.cons good156 .nil))))))) (by kernel_rfl) (by kernel_rfl) (by kernel_rfl) (by kernel_rfl) (by kernel_rfl) (by kernel_rfl) (by kernel_rfl) (by kernel_rfl) (by kernel_rfl)
noncomputable def F134 : Eng.Fn NN := ⟨⟨(Eng.look tys), (lookS []), Eng.look [(1, [0]), (10, []), (12, [])], Eng.pinIds 0 [.v (.str)], 0⟩, Eng.bodyOf Go.Proofs.Tryz.f134, [.tmp 2, .tmp 3], 24⟩
noncomputable def sp134 : Eng.Spec NN := F134.spec [.v (.str)] [.own 3 (.int .i64), .v (.int .i64)] 4000000
theorem good134 : Eng.Good prog 134 sp134 := Eng.good_fn (fn := f134) fits (by kernel_rfl) mixed (by kernel_rfl) .nil (by kernel_rfl) (by kernel_rfl) (by kernel_rfl) (by kernel_rfl) (by kernel_rfl) (by kernel_rfl) (by kernel_rfl) (by kernel_rfl) (by kernel_rfl)
noncomputable def F133 : Eng.Fn NN := ⟨⟨(Eng.look tys), (lookS [(81, sp81)]), Eng.look [(3, [1, 4, 5, 9, 10, 11]), (7, [1, 4, 5, 9, 10, 11])], Eng.pinIds 0 [.v (.sl (.nm 0)), .v (.int .i64)], 0⟩, Eng.bodyOf Go.Proofs.Tryz.f133, [.cell 4 23], 33⟩
noncomputable def sp133 : Eng.Spec NN := F133.spec [.v (.sl (.nm 0)), .v (.int .i64)] [.v (.nm 0)] 4000000
theorem good133 : Eng.Good prog 133 sp133 := Eng.good_fn (fn := f133) fits (by kernel_rfl) mixed (by kernel_rfl) (.cons good81 .nil) (by kernel_rfl) (by kernel_rfl) (by kernel_rfl) (by kernel_rfl) (by kernel_rfl) (by kernel_rfl) (by kernel_rfl) (by kernel_rfl) (by kernel_rfl)
noncomputable def F155 : Eng.Fn NN := ⟨⟨(Eng.look tys), (lookS []), Eng.look [], Eng.pinIds 0 [.v (.bool)], 0⟩, Eng.bodyOf Go.Proofs.Tryz.f155, [.cell 2 23], 6⟩
noncomputable def sp155 : Eng.Spec NN := F155.spec [.v (.bool)] [.v (.nm 0)] 4000000
theorem good155 : Eng.Good prog 155 sp155 := Eng.good_fn (fn := f155) fits (by kernel_rfl) mixed (by kernel_rfl) .nil (by kernel_rfl) (by kernel_rfl) (by kernel_rfl) (by kernel_rfl) (by kernel_rfl) (by kernel_rfl) (by kernel_rfl) (by kernel_rfl) (by kernel_rfl)
noncomputable def F132 : Eng.Fn NN := ⟨⟨(Eng.look tys), (lookS [(155, sp155), (81, sp81)]), Eng.look [(3, [0, 4, 5, 6]), (18, [6, 8])], Eng.pinIds 0 [.v (.int .i64), .v (.nm 0), .v (.nm 0)], 0⟩, Eng.bodyOf Go.Proofs.Tryz.f132, [.cell 6 23], 58⟩
noncomputable def sp132 : Eng.Spec NN := F132.spec [.v (.int .i64), .v (.nm 0), .v (.nm 0)] [.v (.nm 0)] 4000000
theorem good132 : Eng.Good prog 132 sp132 := Eng.good_fn (fn := f132) fits (by kernel_rfl) mixed (by kernel_rfl) (.cons good155 (.cons good81 .nil)) (by kernel_rfl) (by kernel_rfl) (by kernel_rfl) (by kernel_rfl) (by kernel_rfl) (by kernel_rfl) (by kernel_rfl) (by kernel_rfl) (by kernel_rfl)
noncomputable def F131 : Eng.Fn NN := ⟨⟨(Eng.look tys), (lookS []), Eng.look [], Eng.pinIds 0 [.v (.str), .v (.int .i64)], 0⟩, Eng.bodyOf Go.Proofs.Tryz.f131, [.tmp 4, .tmp 5], 17⟩
noncomputable def sp131 : Eng.Spec NN := F131.spec [.v (.str), .v (.int .i64)] [.v (.bool), .v (.bool)] 4000000
theorem good131 : Eng.Good prog 131 sp131 := Eng.good_fn (fn := f131) fits (by kernel_rfl) mixed (by kernel_rfl) .nil (by kernel_rfl) (by kernel_rfl) (by kernel_rfl) (by kernel_rfl) (by kernel_rfl) (by kernel_rfl) (by kernel_rfl) (by kernel_rfl) (by kernel_rfl)
noncomputable def F103 : Eng.Fn NN := ⟨⟨(Eng.look tys), (lookS [(135, sp135), (134, sp134), (133, sp133), (132, sp132), (131, sp131)]), Eng.look [(15, [4, 48, 49, 50]), (24, [0, 1, 4, 9]), (25, [0, 1, 4, 9, 75, 76, 77])], Eng.pinIds 0 [.v (.str), .v (.sl (.nm 0))], 0⟩, Eng.bodyOf Go.Proofs.Tryz.f103, [.cell 4 23], 94⟩
noncomputable def sp103 : Eng.Spec NN := F103.spec [.v (.str), .v (.sl (.nm 0))] [.v (.nm 0)] 4000000
theorem good103 : Eng.Good prog 103 sp103 := Eng.good_fn (fn := f103) fits (by kernel_rfl) mixed (by kernel_rfl) (.cons good135 (.cons good134 (.cons good133 (.cons good132 (.cons good131 .nil))))) (by kernel_rfl) (by kernel_rfl) (by kernel_rfl) (by kernel_rfl) (by kernel_rfl) (by kernel_rfl) (by kernel_rfl) (by kernel_rfl) (by kernel_rfl)
noncomputable def F102 : Eng.Fn NN := ⟨⟨(Eng.look tys), (lookS [(103, sp103), (40, sp40)]), Eng.look [(3, [0, 2, 4, 5, 11, 12, 13])], Eng.pinIds 0 [.v (.int .i64), .rp (.sl (.nm 3)), .rp (.nm 1)], 0⟩, Eng.bodyOf Go.Proofs.Tryz.f102, [.cell 4 23], 29⟩
noncomputable def sp102 : Eng.Spec NN := F102.spec [.v (.int .i64), .rp (.sl (.nm 3)), .rp (.nm 1)] [.v (.nm 0)] 4000000
theorem good102 : Eng.Good prog 102 sp102 := Eng.good_fn (fn := f102) fits (by kernel_rfl) mixed (by kernel_rfl) (.cons good103 (.cons good40 .nil)) (by kernel_rfl) (by kernel_rfl) (by kernel_rfl) (by kernel_rfl) (by kernel_rfl) (by kernel_rfl) (by kernel_rfl) (by kernel_rfl) (by kernel_rfl)
noncomputable def F103000054 : Eng.Fn NN := ⟨⟨(Eng.look tys), (lookS [(62, sp62), (90, sp90), (102, sp102)]), Eng.look [(3, [0, 1, 2, 6, 7, 14, 15])], Eng.pinIds 0 [.v (.int .i64), .v (.int .i64), .fn 102 [3, 4], .bc [.c (.sl (.nm 3))], .bw (.nm 1)], 2⟩, Eng.bodyOf Go.Proofs.Tryz.f54, [.cell 6 40], 37⟩
noncomputable def sp103000054 : Eng.Spec NN := F103000054.spec [.v (.int .i64), .v (.int .i64), .fn 102 [3, 4], .bc [.c (.sl (.nm 3))], .bw (.nm 1)] [.v (.nm 3)] 4000000
theorem good103000054 : Eng.Good prog 54 sp103000054 := Eng.good_fn (fn := f54) fits (by kernel_rfl) mixed (by kernel_rfl) (.cons good62 (.cons good90 (.cons good102 .nil))) (by kernel_rfl) (by kernel_rfl) (by kernel_rfl) (by kernel_rfl) (by kernel_rfl) (by kernel_rfl) (by kernel_rfl) (by kernel_rfl) (by kernel_rfl)
noncomputable def F101 : Eng.Fn NN := ⟨⟨(Eng.look tys), (lookS []), Eng.look [], Eng.pinIds 0 [.v (.int .i64), .rp (.sl (.nm 0))], 0⟩, Eng.bodyOf Go.Proofs.Tryz.f101, [.cell 3 23], 8⟩
noncomputable def sp101 : Eng.Spec NN := F101.spec [.v (.int .i64), .rp (.sl (.nm 0))] [.v (.nm 0)] 4000000
theorem good101 : Eng.Good prog 101 sp101 := Eng.good_fn (fn := f101) fits (by kernel_rfl) mixed (by kernel_rfl) .nil (by kernel_rfl) (by kernel_rfl) (by kernel_rfl) (by kernel_rfl) (by kernel_rfl) (by kernel_rfl) (by kernel_rfl) (by kernel_rfl) (by kernel_rfl)
noncomputable def F102000054 : Eng.Fn NN := ⟨⟨(Eng.look tys), (lookS [(62, sp62), (90, sp90), (101, sp101)]), Eng.look [(3, [0, 1, 2, 6, 7, 14, 15])], Eng.pinIds 0 [.v (.int .i64), .v (.int .i64), .fn 101 [3], .bc [.c (.sl (.nm 0))]], 1⟩, Eng.bodyOf Go.Proofs.Tryz.f54, [.cell 6 40], 37⟩
noncomputable def sp102000054 : Eng.Spec NN := F102000054.spec [.v (.int .i64), .v (.int .i64), .fn 101 [3], .bc [.c (.sl (.nm 0))]] [.v (.nm 3)] 4000000
theorem good102000054 : Eng.Good prog 54 sp102000054 := Eng.good_fn (fn := f54) fits (by kernel_rfl) mixed (by kernel_rfl) (.cons good62 (.cons good90 (.cons good101 .nil))) (by kernel_rfl) (by kernel_rfl) (by kernel_rfl) (by kernel_rfl) (by kernel_rfl) (by kernel_rfl) (by kernel_rfl) (by kernel_rfl) (by kernel_rfl)
noncomputable def F38 : Eng.Fn NN := ⟨⟨(Eng.look tys), (lookS []), Eng.look [(3, [1, 2])], Eng.pinIds 0 [.v (.nm 3), .v (.int .i64)], 0⟩, Eng.bodyOf Go.Proofs.Tryz.f38, [.tmp 4], 20⟩
noncomputable def sp38 : Eng.Spec NN := F38.spec [.v (.nm 3), .v (.int .i64)] [.v (.int .i64)] 4000000
theorem good38 : Eng.Good prog 38 sp38 := Eng.good_fn (fn := f38) fits (by kernel_rfl) mixed (by kernel_rfl) .nil (by kernel_rfl) (by kernel_rfl) (by kernel_rfl) (by kernel_rfl) (by kernel_rfl) (by kernel_rfl) (by kernel_rfl) (by kernel_rfl) (by kernel_rfl)
noncomputable def F99 : Eng.Fn NN := ⟨⟨(Eng.look tys), (lookS []), Eng.look [(3, [1, 3, 4, 10, 11, 12])], Eng.pinIds 0 [.v (.sl (.int .i64)), .rp (.nm 4)], 0⟩, Eng.bodyOf Go.Proofs.Tryz.f99, [.cell 3 60], 30⟩
noncomputable def sp99 : Eng.Spec NN := F99.spec [.v (.sl (.int .i64)), .rp (.nm 4)] [.v (.nm 4)] 4000000
theorem good99 : Eng.Good prog 99 sp99 := Eng.good_fn (fn := f99) fits (by kernel_rfl) mixed (by kernel_rfl) .nil (by kernel_rfl) (by kernel_rfl) (by kernel_rfl) (by kernel_rfl) (by kernel_rfl) (by kernel_rfl) (by kernel_rfl) (by kernel_rfl) (by kernel_rfl)
noncomputable def F50 : Eng.Fn NN := ⟨⟨(Eng.look tys), (lookS []), Eng.look [(1, [0]), (3, [0, 3, 4])], Eng.pinIds 0 [.v (.int .i64)], 0⟩, Eng.bodyOf Go.Proofs.Tryz.f50, [.tmp 2], 15⟩
noncomputable def sp50 : Eng.Spec NN := F50.spec [.v (.int .i64)] [.own 3 (.int .i64)] 4000000
theorem good50 : Eng.Good prog 50 sp50 := Eng.good_fn (fn := f50) fits (by kernel_rfl) mixed (by kernel_rfl) .nil (by kernel_rfl) (by kernel_rfl) (by kernel_rfl) (by kernel_rfl) (by kernel_rfl) (by kernel_rfl) (by kernel_rfl) (by kernel_rfl) (by kernel_rfl)
noncomputable def F93 : Eng.Fn NN := ⟨⟨(Eng.look tys), (lookS [(38, sp38), (62, sp62)]), Eng.look [(1, [2, 3, 4, 6]), (3, [2, 3, 4, 6, 7, 17, 18]), (10, [2, 3, 4, 6, 7, 17, 18])], Eng.pinIds 0 [.v (.nm 3), .v (.nm 3), .v (.int .i64)], 0⟩, Eng.bodyOf Go.Proofs.Tryz.f93, [.cell 6 40], 64⟩
noncomputable def sp93 : Eng.Spec NN := F93.spec [.v (.nm 3), .v (.nm 3), .v (.int .i64)] [.ag 3 AGV] 4000000
theorem good93 : Eng.Good prog 93 sp93 := Eng.good_fn (fn := f93) fits (by kernel_rfl) mixed (by kernel_rfl) (.cons good38 (.cons good62 .nil)) (by kernel_rfl) (by kernel_rfl) (by kernel_rfl) (by kernel_rfl) (by kernel_rfl) (by kernel_rfl) (by kernel_rfl) (by kernel_rfl) (by kernel_rfl)
noncomputable def F144 : Eng.Fn NN := ⟨⟨(Eng.look tys), (lookS []), Eng.look [], Eng.pinIds 0 [.v (.int .i64), .v (.int .i64)], 0⟩, Eng.bodyOf Go.Proofs.Tryz.f144, [.tmp 4], 28⟩
noncomputable def sp144 : Eng.Spec NN := F144.spec [.v (.int .i64), .v (.int .i64)] [.v (.bool)] 4000000
theorem good144 : Eng.Good prog 144 sp144 := Eng.good_fn (fn := f144) fits (by kernel_rfl) mixed (by kernel_rfl) .nil (by kernel_rfl) (by kernel_rfl) (by kernel_rfl) (by kernel_rfl) (by kernel_rfl) (by kernel_rfl) (by kernel_rfl) (by kernel_rfl) (by kernel_rfl)
noncomputable def F167 : Eng.Fn NN := ⟨⟨(Eng.look tys), (lookS []), Eng.look [], Eng.pinIds 0 [.v (.int .i64)], 0⟩, Eng.bodyOf Go.Proofs.Tryz.f167, [.tmp 2], 6⟩
noncomputable def sp167 : Eng.Spec NN := F167.spec [.v (.int .i64)] [.v (.bool)] 4000000
theorem good167 : Eng.Good prog 167 sp167 := Eng.good_fn (fn := f167) fits (by kernel_rfl) mixed (by kernel_rfl) .nil (by kernel_rfl) (by kernel_rfl) (by kernel_rfl) (by kernel_rfl) (by kernel_rfl) (by kernel_rfl) (by kernel_rfl) (by kernel_rfl) (by kernel_rfl)
noncomputable def F146 : Eng.Fn NN := ⟨⟨(Eng.look tys), (lookS [(167, sp167)]), Eng.look [], Eng.pinIds 0 [.v (.int .i64), .v (.int .i64)], 0⟩, Eng.bodyOf Go.Proofs.Tryz.f146, [.tmp 4], 20⟩
noncomputable def sp146 : Eng.Spec NN := F146.spec [.v (.int .i64), .v (.int .i64)] [.v (.int .i64)] 4000000
theorem good146 : Eng.Good prog 146 sp146 := Eng.good_fn (fn := f146) fits (by kernel_rfl) mixed (by kernel_rfl) (.cons good167 .nil) (by kernel_rfl) (by kernel_rfl) (by kernel_rfl) (by kernel_rfl) (by kernel_rfl) (by kernel_rfl) (by kernel_rfl) (by kernel_rfl) (by kernel_rfl)
noncomputable def F126 : Eng.Fn NN := ⟨⟨(Eng.look tys), (lookS []), Eng.look [], Eng.pinIds 0 [.v (.int .i64), .rp (.nm 3), .rp (.nm 3)], 0⟩, Eng.bodyOf Go.Proofs.Tryz.f126, [.tmp 4], 17⟩
noncomputable def sp126 : Eng.Spec NN := F126.spec [.v (.int .i64), .rp (.nm 3), .rp (.nm 3)] [.v (.bool)] 4000000
theorem good126 : Eng.Good prog 126 sp126 := Eng.good_fn (fn := f126) fits (by kernel_rfl) mixed (by kernel_rfl) .nil (by kernel_rfl) (by kernel_rfl) (by kernel_rfl) (by kernel_rfl) (by kernel_rfl) (by kernel_rfl) (by kernel_rfl) (by kernel_rfl) (by kernel_rfl)
noncomputable def F127000128 : Eng.Fn NN := ⟨⟨(Eng.look tys), (lookS [(144, sp144), (146, sp146), (62, sp62), (126, sp126)]), Eng.look [(3, [0, 1, 2, 3, 8, 9, 15, 16])], Eng.pinIds 0 [.v (.sl (.int .i64)), .v (.sl (.int .i64)), .fn 126 [4, 5], .v (.int .i64), .bw (.nm 3), .bw (.nm 3)], 2⟩, Eng.bodyOf Go.Proofs.Tryz.f128, [.cell 8 40], 43⟩
noncomputable def sp127000128 : Eng.Spec NN := F127000128.spec [.v (.sl (.int .i64)), .v (.sl (.int .i64)), .fn 126 [4, 5], .v (.int .i64), .bw (.nm 3), .bw (.nm 3)] [.v (.nm 3)] 4000000
theorem good127000128 : Eng.Good prog 128 sp127000128 := Eng.good_fn (fn := f128) fits (by kernel_rfl) mixed (by kernel_rfl) (.cons good144 (.cons good146 (.cons good62 (.cons good126 .nil)))) (by kernel_rfl) (by kernel_rfl) (by kernel_rfl) (by kernel_rfl) (by kernel_rfl) (by kernel_rfl) (by kernel_rfl) (by kernel_rfl) (by kernel_rfl)
noncomputable def F166 : Eng.Fn NN := ⟨⟨(Eng.look tys), (lookS []), Eng.look [], Eng.pinIds 0 [.v (.str)], 0⟩, Eng.bodyOf Go.Proofs.Tryz.f166, [.tmp 2], 6⟩
noncomputable def sp166 : Eng.Spec NN := F166.spec [.v (.str)] [.v (.bool)] 4000000
theorem good166 : Eng.Good prog 166 sp166 := Eng.good_fn (fn := f166) fits (by kernel_rfl) mixed (by kernel_rfl) .nil (by kernel_rfl) (by kernel_rfl) (by kernel_rfl) (by kernel_rfl) (by kernel_rfl) (by kernel_rfl) (by kernel_rfl) (by kernel_rfl) (by kernel_rfl)
noncomputable def F145 : Eng.Fn NN := ⟨⟨(Eng.look tys), (lookS [(166, sp166)]), Eng.look [], Eng.pinIds 0 [.v (.str), .v (.str)], 0⟩, Eng.bodyOf Go.Proofs.Tryz.f145, [.tmp 4], 20⟩
noncomputable def sp145 : Eng.Spec NN := F145.spec [.v (.str), .v (.str)] [.v (.int .i64)] 4000000
theorem good145 : Eng.Good prog 145 sp145 := Eng.good_fn (fn := f145) fits (by kernel_rfl) mixed (by kernel_rfl) (.cons good166 .nil) (by kernel_rfl) (by kernel_rfl) (by kernel_rfl) (by kernel_rfl) (by kernel_rfl) (by kernel_rfl) (by kernel_rfl) (by kernel_rfl) (by kernel_rfl)
noncomputable def F127000127 : Eng.Fn NN := ⟨⟨(Eng.look tys), (lookS [(144, sp144), (145, sp145), (62, sp62), (126, sp126)]), Eng.look [(3, [0, 1, 2, 3, 8, 9, 15, 16])], Eng.pinIds 0 [.v (.sl .str), .v (.sl .str), .fn 126 [4, 5], .v (.int .i64), .bw (.nm 3), .bw (.nm 3)], 2⟩, Eng.bodyOf Go.Proofs.Tryz.f127, [.cell 8 40], 43⟩
noncomputable def sp127000127 : Eng.Spec NN := F127000127.spec [.v (.sl .str), .v (.sl .str), .fn 126 [4, 5], .v (.int .i64), .bw (.nm 3), .bw (.nm 3)] [.v (.nm 3)] 4000000
theorem good127000127 : Eng.Good prog 127 sp127000127 := Eng.good_fn (fn := f127) fits (by kernel_rfl) mixed (by kernel_rfl) (.cons good144 (.cons good145 (.cons good62 (.cons good126 .nil)))) (by kernel_rfl) (by kernel_rfl) (by kernel_rfl) (by kernel_rfl) (by kernel_rfl) (by kernel_rfl) (by kernel_rfl) (by kernel_rfl) (by kernel_rfl)
noncomputable def F92 : Eng.Fn NN := ⟨⟨(Eng.look tys), (lookS [(127000128, sp127000128), (127000127, sp127000127), (126, sp126), (62, sp62)]), Eng.look [(3, [0, 4, 5, 6])], Eng.pinIds 0 [.v (.int .i64), .v (.nm 3), .v (.nm 3)], 0⟩, Eng.bodyOf Go.Proofs.Tryz.f92, [.cell 6 40], 40⟩
noncomputable def sp92 : Eng.Spec NN := F92.spec [.v (.int .i64), .v (.nm 3), .v (.nm 3)] [.v (.nm 3)] 4000000
theorem good92 : Eng.Good prog 92 sp92 := Eng.good_fn (fn := f92) fits (by kernel_rfl) mixed (by kernel_rfl) (.consI 127000128 good127000128 (.consI 127000127 good127000127 (.cons good126 (.cons good62 .nil)))) (by kernel_rfl) (by kernel_rfl) (by kernel_rfl) (by kernel_rfl) (by kernel_rfl) (by kernel_rfl) (by kernel_rfl) (by kernel_rfl) (by kernel_rfl)
noncomputable def F58 : Eng.Fn NN := ⟨⟨(Eng.look tys), (lookS []), Eng.look [(3, [2, 3, 16, 17, 18])], Eng.pinIds 0 [.v (.nm 3)], 0⟩, Eng.bodyOf Go.Proofs.Tryz.f58, [.cell 2 40], 30⟩
noncomputable def sp58 : Eng.Spec NN := F58.spec [.v (.nm 3)] [.v (.nm 3)] 4000000
theorem good58 : Eng.Good prog 58 sp58 := Eng.good_fn (fn := f58) fits (by kernel_rfl) mixed (by kernel_rfl) .nil (by kernel_rfl) (by kernel_rfl) (by kernel_rfl) (by kernel_rfl) (by kernel_rfl) (by kernel_rfl) (by kernel_rfl) (by kernel_rfl) (by kernel_rfl)
noncomputable def F148 : Eng.Fn NN := ⟨⟨(Eng.look tys), (lookS []), Eng.look [(1, [0, 1])], Eng.pinIds 0 [.v (.str), .v (.int .u8)], 0⟩, Eng.bodyOf Go.Proofs.Tryz.f148, [.tmp 4], 17⟩
noncomputable def sp148 : Eng.Spec NN := F148.spec [.v (.str), .v (.int .u8)] [.v (.str)] 4000000
theorem good148 : Eng.Good prog 148 sp148 := Eng.good_fn (fn := f148) fits (by kernel_rfl) mixed (by kernel_rfl) .nil (by kernel_rfl) (by kernel_rfl) (by kernel_rfl) (by kernel_rfl) (by kernel_rfl) (by kernel_rfl) (by kernel_rfl) (by kernel_rfl) (by kernel_rfl)
noncomputable def F149 : Eng.Fn NN := ⟨⟨(Eng.look tys), (lookS []), Eng.look [(1, [0, 1]), (2, [0, 1])], Eng.pinIds 0 [.v (.str), .v (.int .u8)], 0⟩, Eng.bodyOf Go.Proofs.Tryz.f149, [.tmp 4], 23⟩
noncomputable def sp149 : Eng.Spec NN := F149.spec [.v (.str), .v (.int .u8)] [.v (.str)] 4000000
theorem good149 : Eng.Good prog 149 sp149 := Eng.good_fn (fn := f149) fits (by kernel_rfl) mixed (by kernel_rfl) .nil (by kernel_rfl) (by kernel_rfl) (by kernel_rfl) (by kernel_rfl) (by kernel_rfl) (by kernel_rfl) (by kernel_rfl) (by kernel_rfl) (by kernel_rfl)
noncomputable def F130 : Eng.Fn NN := ⟨⟨(Eng.look tys), (lookS [(148, sp148), (149, sp149)]), Eng.look [(3, [0, 1]), (5, [0, 1])], Eng.pinIds 0 [.v (.str), .v (.str)], 0⟩, Eng.bodyOf Go.Proofs.Tryz.f130, [.tmp 4], 43⟩
noncomputable def sp130 : Eng.Spec NN := F130.spec [.v (.str), .v (.str)] [.v (.str)] 4000000
theorem good130 : Eng.Good prog 130 sp130 := Eng.good_fn (fn := f130) fits (by kernel_rfl) mixed (by kernel_rfl) (.cons good148 (.cons good149 .nil)) (by kernel_rfl) (by kernel_rfl) (by kernel_rfl) (by kernel_rfl) (by kernel_rfl) (by kernel_rfl) (by kernel_rfl) (by kernel_rfl) (by kernel_rfl)
noncomputable def F98 : Eng.Fn NN := ⟨⟨(Eng.look tys), (lookS [(130, sp130)]), Eng.look [(3, [0, 1, 5, 6, 7, 8]), (11, [0, 1, 7, 8]), (13, [0, 1, 5, 6])], Eng.pinIds 0 [.v (.str), .v (.str)], 0⟩, Eng.bodyOf Go.Proofs.Tryz.f98, [.tmp 4], 69⟩
noncomputable def sp98 : Eng.Spec NN := F98.spec [.v (.str), .v (.str)] [.v (.bool)] 40000000
theorem good98 : Eng.Good prog 98 sp98 := Eng.good_fn (fn := f98) fits (by kernel_rfl) mixed (by kernel_rfl) (.cons good130 .nil) (by kernel_rfl) (by kernel_rfl) (by kernel_rfl) (by kernel_rfl) (by kernel_rfl) (by kernel_rfl) (by kernel_rfl) (by kernel_rfl) (by kernel_rfl)
noncomputable def F91 : Eng.Fn NN := ⟨⟨(Eng.look tys), (lookS []), Eng.look [], Eng.pinIds 0 [.v (.int .i64)], 0⟩, Eng.bodyOf Go.Proofs.Tryz.f91, [.cell 2 23], 5⟩
noncomputable def sp91 : Eng.Spec NN := F91.spec [.v (.int .i64)] [.v (.nm 0)] 4000000
theorem good91 : Eng.Good prog 91 sp91 := Eng.good_fn (fn := f91) fits (by kernel_rfl) mixed (by kernel_rfl) .nil (by kernel_rfl) (by kernel_rfl) (by kernel_rfl) (by kernel_rfl) (by kernel_rfl) (by kernel_rfl) (by kernel_rfl) (by kernel_rfl) (by kernel_rfl)
noncomputable def F147 : Eng.Fn NN := ⟨⟨(Eng.look tys), (lookS []), Eng.look [], Eng.pinIds 0 [.v (.int .u64), .v (.int .u64)], 0⟩, Eng.bodyOf Go.Proofs.Tryz.f147, [.tmp 4, .tmp 5], 51⟩
noncomputable def sp147 : Eng.Spec NN := F147.spec [.v (.int .u64), .v (.int .u64)] [.v (.int .u64), .v (.int .u64)] 4000000
theorem good147 : Eng.Good prog 147 sp147 := Eng.good_fn (fn := f147) fits (by kernel_rfl) mixed (by kernel_rfl) .nil (by kernel_rfl) (by kernel_rfl) (by kernel_rfl) (by kernel_rfl) (by kernel_rfl) (by kernel_rfl) (by kernel_rfl) (by kernel_rfl) (by kernel_rfl)
noncomputable def F129 : Eng.Fn NN := ⟨⟨(Eng.look tys), (lookS [(147, sp147)]), Eng.look [(4, [0, 1, 6, 7]), (6, [0, 1, 6, 7])], Eng.pinIds 0 [.v (.int .i64), .v (.int .i64)], 0⟩, Eng.bodyOf Go.Proofs.Tryz.f129, [.tmp 4, .tmp 5], 44⟩
noncomputable def sp129 : Eng.Spec NN := F129.spec [.v (.int .i64), .v (.int .i64)] [.v (.int .i64), .v (.bool)] 4000000
theorem good129 : Eng.Good prog 129 sp129 := Eng.good_fn (fn := f129) fits (by kernel_rfl) mixed (by kernel_rfl) (.cons good147 .nil) (by kernel_rfl) (by kernel_rfl) (by kernel_rfl) (by kernel_rfl) (by kernel_rfl) (by kernel_rfl) (by kernel_rfl) (by kernel_rfl) (by kernel_rfl)
noncomputable def F95 : Eng.Fn NN := ⟨⟨(Eng.look tys), (lookS [(91, sp91), (129, sp129)]), Eng.look [(3, [0, 4, 5, 6]), (27, [6])], Eng.pinIds 0 [.v (.int .i64), .v (.nm 0), .v (.nm 0)], 0⟩, Eng.bodyOf Go.Proofs.Tryz.f95, [.cell 6 23], 94⟩
noncomputable def sp95 : Eng.Spec NN := F95.spec [.v (.int .i64), .v (.nm 0), .v (.nm 0)] [.v (.nm 0)] 4000000
theorem good95 : Eng.Good prog 95 sp95 := Eng.good_fn (fn := f95) fits (by kernel_rfl) mixed (by kernel_rfl) (.cons good91 (.cons good129 .nil)) (by kernel_rfl) (by kernel_rfl) (by kernel_rfl) (by kernel_rfl) (by kernel_rfl) (by kernel_rfl) (by kernel_rfl) (by kernel_rfl) (by kernel_rfl)
noncomputable def F94 : Eng.Fn NN := ⟨⟨(Eng.look tys), (lookS [(95, sp95), (40, sp40)]), Eng.look [], Eng.pinIds 0 [.v (.int .i64), .rp (.int .i64), .rp (.nm 3), .rp (.nm 3)], 0⟩, Eng.bodyOf Go.Proofs.Tryz.f94, [.cell 5 23], 14⟩
noncomputable def sp94 : Eng.Spec NN := F94.spec [.v (.int .i64), .rp (.int .i64), .rp (.nm 3), .rp (.nm 3)] [.v (.nm 0)] 4000000
theorem good94 : Eng.Good prog 94 sp94 := Eng.good_fn (fn := f94) fits (by kernel_rfl) mixed (by kernel_rfl) (.cons good95 (.cons good40 .nil)) (by kernel_rfl) (by kernel_rfl) (by kernel_rfl) (by kernel_rfl) (by kernel_rfl) (by kernel_rfl) (by kernel_rfl) (by kernel_rfl) (by kernel_rfl)
noncomputable def F95000054 : Eng.Fn NN := ⟨⟨(Eng.look tys), (lookS [(62, sp62), (90, sp90), (94, sp94)]), Eng.look [(3, [0, 1, 2, 6, 7, 14, 15])], Eng.pinIds 0 [.v (.int .i64), .v (.int .i64), .fn 94 [3, 4, 5], .bw (.int .i64), .bc AGW, .bc AGW], 3⟩, Eng.bodyOf Go.Proofs.Tryz.f54, [.cell 6 40], 37⟩
noncomputable def sp95000054 : Eng.Spec NN := F95000054.spec [.v (.int .i64), .v (.int .i64), .fn 94 [3, 4, 5], .bw (.int .i64), .bc AGW, .bc AGW] [.v (.nm 3)] 4000000
theorem good95000054 : Eng.Good prog 54 sp95000054 := Eng.good_fn (fn := f54) fits (by kernel_rfl) mixed (by kernel_rfl) (.cons good62 (.cons good90 (.cons good94 .nil))) (by kernel_rfl) (by kernel_rfl) (by kernel_rfl) (by kernel_rfl) (by kernel_rfl) (by kernel_rfl) (by kernel_rfl) (by kernel_rfl) (by kernel_rfl)
noncomputable def F97 : Eng.Fn NN := ⟨⟨(Eng.look tys), (lookS []), Eng.look [(3, [2, 3, 4])], Eng.pinIds 0 [.v (.nm 0), .v (.nm 0)], 0⟩, Eng.bodyOf Go.Proofs.Tryz.f97, [.cell 4 23], 30⟩
noncomputable def sp97 : Eng.Spec NN := F97.spec [.v (.nm 0), .v (.nm 0)] [.v (.nm 0)] 4000000
theorem good97 : Eng.Good prog 97 sp97 := Eng.good_fn (fn := f97) fits (by kernel_rfl) mixed (by kernel_rfl) .nil (by kernel_rfl) (by kernel_rfl) (by kernel_rfl) (by kernel_rfl) (by kernel_rfl) (by kernel_rfl) (by kernel_rfl) (by kernel_rfl) (by kernel_rfl)
noncomputable def F96 : Eng.Fn NN := ⟨⟨(Eng.look tys), (lookS [(97, sp97), (40, sp40)]), Eng.look [], Eng.pinIds 0 [.v (.int .i64), .rp (.nm 3), .rp (.nm 3)], 0⟩, Eng.bodyOf Go.Proofs.Tryz.f96, [.cell 4 23], 12⟩
noncomputable def sp96 : Eng.Spec NN := F96.spec [.v (.int .i64), .rp (.nm 3), .rp (.nm 3)] [.v (.nm 0)] 4000000
theorem good96 : Eng.Good prog 96 sp96 := Eng.good_fn (fn := f96) fits (by kernel_rfl) mixed (by kernel_rfl) (.cons good97 (.cons good40 .nil)) (by kernel_rfl) (by kernel_rfl) (by kernel_rfl) (by kernel_rfl) (by kernel_rfl) (by kernel_rfl) (by kernel_rfl) (by kernel_rfl) (by kernel_rfl)
noncomputable def F97000054 : Eng.Fn NN := ⟨⟨(Eng.look tys), (lookS [(62, sp62), (90, sp90), (96, sp96)]), Eng.look [(3, [0, 1, 2, 6, 7, 14, 15])], Eng.pinIds 0 [.v (.int .i64), .v (.int .i64), .fn 96 [3, 4], .bc AGW, .bc AGW], 2⟩, Eng.bodyOf Go.Proofs.Tryz.f54, [.cell 6 40], 37⟩
noncomputable def sp97000054 : Eng.Spec NN := F97000054.spec [.v (.int .i64), .v (.int .i64), .fn 96 [3, 4], .bc AGW, .bc AGW] [.v (.nm 3)] 4000000
theorem good97000054 : Eng.Good prog 54 sp97000054 := Eng.good_fn (fn := f54) fits (by kernel_rfl) mixed (by kernel_rfl) (.cons good62 (.cons good90 (.cons good96 .nil))) (by kernel_rfl) (by kernel_rfl) (by kernel_rfl) (by kernel_rfl) (by kernel_rfl) (by kernel_rfl) (by kernel_rfl) (by kernel_rfl) (by kernel_rfl)
noncomputable def F56 : Eng.Fn NN := ⟨⟨(Eng.look tys), (lookS [(91, sp91)]), Eng.look [], Eng.pinIds 0 [.v (.nm 0)], 0⟩, Eng.bodyOf Go.Proofs.Tryz.f56, [.cell 2 23], 16⟩
noncomputable def sp56 : Eng.Spec NN := F56.spec [.v (.nm 0)] [.v (.nm 0)] 4000000
theorem good56 : Eng.Good prog 56 sp56 := Eng.good_fn (fn := f56) fits (by kernel_rfl) mixed (by kernel_rfl) (.cons good91 .nil) (by kernel_rfl) (by kernel_rfl) (by kernel_rfl) (by kernel_rfl) (by kernel_rfl) (by kernel_rfl) (by kernel_rfl) (by kernel_rfl) (by kernel_rfl)
noncomputable def F55 : Eng.Fn NN := ⟨⟨(Eng.look tys), (lookS [(56, sp56), (40, sp40)]), Eng.look [], Eng.pinIds 0 [.v (.int .i64), .rp (.nm 3)], 0⟩, Eng.bodyOf Go.Proofs.Tryz.f55, [.cell 3 23], 8⟩
noncomputable def sp55 : Eng.Spec NN := F55.spec [.v (.int .i64), .rp (.nm 3)] [.v (.nm 0)] 4000000
theorem good55 : Eng.Good prog 55 sp55 := Eng.good_fn (fn := f55) fits (by kernel_rfl) mixed (by kernel_rfl) (.cons good56 (.cons good40 .nil)) (by kernel_rfl) (by kernel_rfl) (by kernel_rfl) (by kernel_rfl) (by kernel_rfl) (by kernel_rfl) (by kernel_rfl) (by kernel_rfl) (by kernel_rfl)
noncomputable def F56000054 : Eng.Fn NN := ⟨⟨(Eng.look tys), (lookS [(62, sp62), (90, sp90), (55, sp55)]), Eng.look [(3, [0, 1, 2, 6, 7, 14, 15])], Eng.pinIds 0 [.v (.int .i64), .v (.int .i64), .fn 55 [3], .bc AGW], 1⟩, Eng.bodyOf Go.Proofs.Tryz.f54, [.cell 6 40], 37⟩
noncomputable def sp56000054 : Eng.Spec NN := F56000054.spec [.v (.int .i64), .v (.int .i64), .fn 55 [3], .bc AGW] [.v (.nm 3)] 4000000
theorem good56000054 : Eng.Good prog 54 sp56000054 := Eng.good_fn (fn := f54) fits (by kernel_rfl) mixed (by kernel_rfl) (.cons good62 (.cons good90 (.cons good55 .nil))) (by kernel_rfl) (by kernel_rfl) (by kernel_rfl) (by kernel_rfl) (by kernel_rfl) (by kernel_rfl) (by kernel_rfl) (by kernel_rfl) (by kernel_rfl)
noncomputable def F53 : Eng.Fn NN := ⟨⟨(Eng.look tys), (lookS [(38, sp38), (62, sp62)]), Eng.look [(3, [1, 2, 3, 12, 13])], Eng.pinIds 0 [.v (.nm 3)], 0⟩, Eng.bodyOf Go.Proofs.Tryz.f53, [.cell 2 40], 33⟩
noncomputable def sp53 : Eng.Spec NN := F53.spec [.v (.nm 3)] [.v (.nm 3)] 4000000
theorem good53 : Eng.Good prog 53 sp53 := Eng.good_fn (fn := f53) fits (by kernel_rfl) mixed (by kernel_rfl) (.cons good38 (.cons good62 .nil)) (by kernel_rfl) (by kernel_rfl) (by kernel_rfl) (by kernel_rfl) (by kernel_rfl) (by kernel_rfl) (by kernel_rfl) (by kernel_rfl) (by kernel_rfl)
noncomputable def F89 : Eng.Fn NN := ⟨⟨(Eng.look tys), (lookS []), Eng.look [(1, [0, 1]), (3, [0, 5, 11, 12, 13]), (7, [0, 5, 11, 12, 13])], Eng.pinIds 0 [.v (.sl (.str)), .v (.sl (.int .i64))], 0⟩, Eng.bodyOf Go.Proofs.Tryz.f89, [.tmp 4], 35⟩
noncomputable def sp89 : Eng.Spec NN := F89.spec [.v (.sl (.str)), .v (.sl (.int .i64))] [.own 9 (.str)] 4000000
theorem good89 : Eng.Good prog 89 sp89 := Eng.good_fn (fn := f89) fits (by kernel_rfl) mixed (by kernel_rfl) .nil (by kernel_rfl) (by kernel_rfl) (by kernel_rfl) (by kernel_rfl) (by kernel_rfl) (by kernel_rfl) (by kernel_rfl) (by kernel_rfl) (by kernel_rfl)
noncomputable def F88 : Eng.Fn NN := ⟨⟨(Eng.look tys), (lookS []), Eng.look [(1, [0, 1]), (3, [0, 5, 11, 12, 13]), (7, [0, 5, 11, 12, 13])], Eng.pinIds 0 [.v (.sl (.int .i64)), .v (.sl (.int .i64))], 0⟩, Eng.bodyOf Go.Proofs.Tryz.f88, [.tmp 4], 35⟩
noncomputable def sp88 : Eng.Spec NN := F88.spec [.v (.sl (.int .i64)), .v (.sl (.int .i64))] [.own 2 (.int .i64)] 4000000
theorem good88 : Eng.Good prog 88 sp88 := Eng.good_fn (fn := f88) fits (by kernel_rfl) mixed (by kernel_rfl) .nil (by kernel_rfl) (by kernel_rfl) (by kernel_rfl) (by kernel_rfl) (by kernel_rfl) (by kernel_rfl) (by kernel_rfl) (by kernel_rfl) (by kernel_rfl)
noncomputable def F52 : Eng.Fn NN := ⟨⟨(Eng.look tys), (lookS [(89, sp89), (88, sp88)]), Eng.look [(3, [1, 2, 4, 5, 14, 15, 16]), (13, [4, 5])], Eng.pinIds 0 [.v (.nm 3), .v (.sl (.int .i64))], 0⟩, Eng.bodyOf Go.Proofs.Tryz.f52, [.cell 4 40], 60⟩
noncomputable def sp52 : Eng.Spec NN := F52.spec [.v (.nm 3), .v (.sl (.int .i64))] [.v (.nm 3)] 4000000
theorem good52 : Eng.Good prog 52 sp52 := Eng.good_fn (fn := f52) fits (by kernel_rfl) mixed (by kernel_rfl) (.cons good89 (.cons good88 .nil)) (by kernel_rfl) (by kernel_rfl) (by kernel_rfl) (by kernel_rfl) (by kernel_rfl) (by kernel_rfl) (by kernel_rfl) (by kernel_rfl) (by kernel_rfl)
abbrev G33 := HIn NN.ρ [.v (.nm 4), .v (.nm 1)] → Option (HRes NN.ρ [.v (.nm 3)] × HOut NN.ρ [.v (.nm 4), .v (.nm 1)])
noncomputable def F57 (g33 : G33) : Eng.Fn NN := ⟨⟨(Eng.look tys), (lookS [(98, sp98), (40, sp40), (62, sp62), (95000054, sp95000054), (97000054, sp97000054), (94, sp94), (96, sp96), (93, sp93), (92, sp92), (33, (Eng.specOf [.v (.nm 4), .v (.nm 1)] [.v (.nm 3)] 0 g33))]), Eng.look [(17, [4, 5, 6, 9, 69, 70]), (21, [4, 5, 6, 9, 10, 11, 12, 69, 70]), (24, [4, 5, 6, 9, 69, 70])], Eng.pinIds 0 [.v (.nm 4), .v (.nm 1)], 0⟩, Eng.bodyOf Go.Proofs.Tryz.f57, [.cell 4 40], 102⟩
noncomputable def sp57 (g : G33) : Eng.Spec NN := (F57 g).spec [.v (.nm 4), .v (.nm 1)] [.v (.nm 3)] 4000000
theorem goodm57 (g : G33) (hg : Eng.Good prog 33 (Eng.specOf [.v (.nm 4), .v (.nm 1)] [.v (.nm 3)] 0 g)) : Eng.Good prog 57 (sp57 g) := Eng.good_fn (fn := f57) fits (by kernel_rfl) mixed (by kernel_rfl) (.cons good98 (.cons good40 (.cons good62 (.consI 95000054 good95000054 (.consI 97000054 good97000054 (.cons good94 (.cons good96 (.cons good93 (.cons good92 (.cons hg .nil)))))))))) (by kernel_rfl) (by kernel_rfl) (by kernel_rfl) (by kernel_rfl) (by kernel_rfl) (by kernel_rfl) (by kernel_rfl) (by kernel_rfl) (by kernel_rfl)
noncomputable def F59 (g33 : G33) : Eng.Fn NN := ⟨⟨(Eng.look tys), (lookS [(93, sp93), (92, sp92), (33, (Eng.specOf [.v (.nm 4), .v (.nm 1)] [.v (.nm 3)] 0 g33)), (51, sp51)]), Eng.look [(4, [2, 4, 5, 6, 22, 23, 24])], Eng.pinIds 0 [.v (.nm 4), .v (.nm 1)], 0⟩, Eng.bodyOf Go.Proofs.Tryz.f59, [.cell 4 40], 37⟩
noncomputable def sp59 (g : G33) : Eng.Spec NN := (F59 g).spec [.v (.nm 4), .v (.nm 1)] [.v (.nm 3)] 4000000
theorem goodm59 (g : G33) (hg : Eng.Good prog 33 (Eng.specOf [.v (.nm 4), .v (.nm 1)] [.v (.nm 3)] 0 g)) : Eng.Good prog 59 (sp59 g) := Eng.good_fn (fn := f59) fits (by kernel_rfl) mixed (by kernel_rfl) (.cons good93 (.cons good92 (.cons hg (.cons good51 .nil)))) (by kernel_rfl) (by kernel_rfl) (by kernel_rfl) (by kernel_rfl) (by kernel_rfl) (by kernel_rfl) (by kernel_rfl) (by kernel_rfl) (by kernel_rfl)
noncomputable def F100 (g33 : G33) : Eng.Fn NN := ⟨⟨(Eng.look tys), (lookS [(40, sp40), (33, (Eng.specOf [.v (.nm 4), .v (.nm 1)] [.v (.nm 3)] 0 g33)), (99, sp99)]), Eng.look [(3, [3, 6, 14, 15, 16])], Eng.pinIds 0 [.v (.sl (.int .i64)), .v (.nm 1), .bc [.f 99 [4]], .bc [.o 23 (.nm 0)], .bw (.nm 4)], 1⟩, Eng.bodyOf Go.Proofs.Tryz.f100, [], 28⟩
noncomputable def sp100 (g : G33) : Eng.Spec NN := (F100 g).spec [.v (.sl (.int .i64)), .v (.nm 1), .bc [.f 99 [4]], .bc [.o 23 (.nm 0)], .bw (.nm 4)] [] 4000000
theorem goodm100 (g : G33) (hg : Eng.Good prog 33 (Eng.specOf [.v (.nm 4), .v (.nm 1)] [.v (.nm 3)] 0 g)) : Eng.Good prog 100 (sp100 g) := Eng.good_fn (fn := f100) fits (by kernel_rfl) mixed (by kernel_rfl) (.cons good40 (.cons hg (.cons good99 .nil))) (by kernel_rfl) (by kernel_rfl) (by kernel_rfl) (by kernel_rfl) (by kernel_rfl) (by kernel_rfl) (by kernel_rfl) (by kernel_rfl) (by kernel_rfl)
noncomputable def F60 (g33 : G33) : Eng.Fn NN := ⟨⟨(Eng.look tys), (lookS [(102000054, sp102000054), (101, sp101), (38, sp38), (33, (Eng.specOf [.v (.nm 4), .v (.nm 1)] [.v (.nm 3)] 0 g33)), (100, (sp100 g33)), (99, sp99), (50, sp50)]), Eng.look [(6, [3, 4, 5, 6, 7, 8, 9]), (11, [3, 4, 5, 7, 8, 9, 10, 11, 12, 39, 40, 41]), (21, [3, 4, 5])], Eng.pinIds 0 [.v (.nm 4), .v (.nm 1)], 0⟩, Eng.bodyOf Go.Proofs.Tryz.f60, [.cell 4 40], 81⟩
noncomputable def sp60 (g : G33) : Eng.Spec NN := (F60 g).spec [.v (.nm 4), .v (.nm 1)] [.v (.nm 3)] 4000000
theorem goodm60 (g : G33) (hg : Eng.Good prog 33 (Eng.specOf [.v (.nm 4), .v (.nm 1)] [.v (.nm 3)] 0 g)) : Eng.Good prog 60 (sp60 g) := Eng.good_fn (fn := f60) fits (by kernel_rfl) mixed (by kernel_rfl) (.consI 102000054 good102000054 (.cons good101 (.cons good38 (.cons hg (.cons (goodm100 g hg) (.cons good99 (.cons good50 .nil))))))) (by kernel_rfl) (by kernel_rfl) (by kernel_rfl) (by kernel_rfl) (by kernel_rfl) (by kernel_rfl) (by kernel_rfl) (by kernel_rfl) (by kernel_rfl)
noncomputable def F61 (g33 : G33) : Eng.Fn NN := ⟨⟨(Eng.look tys), (lookS [(103000054, sp103000054), (102, sp102), (33, (Eng.specOf [.v (.nm 4), .v (.nm 1)] [.v (.nm 3)] 0 g33))]), Eng.look [(3, [2, 3, 4, 5, 9, 10, 11])], Eng.pinIds 0 [.v (.nm 4), .v (.nm 1)], 0⟩, Eng.bodyOf Go.Proofs.Tryz.f61, [.cell 4 40], 29⟩
noncomputable def sp61 (g : G33) : Eng.Spec NN := (F61 g).spec [.v (.nm 4), .v (.nm 1)] [.v (.nm 3)] 4000000
theorem goodm61 (g : G33) (hg : Eng.Good prog 33 (Eng.specOf [.v (.nm 4), .v (.nm 1)] [.v (.nm 3)] 0 g)) : Eng.Good prog 61 (sp61 g) := Eng.good_fn (fn := f61) fits (by kernel_rfl) mixed (by kernel_rfl) (.consI 103000054 good103000054 (.cons good102 (.cons hg .nil))) (by kernel_rfl) (by kernel_rfl) (by kernel_rfl) (by kernel_rfl) (by kernel_rfl) (by kernel_rfl) (by kernel_rfl) (by kernel_rfl) (by kernel_rfl)
noncomputable def F33 (g33 : G33) : Eng.Fn NN := ⟨⟨(Eng.look tys), (lookS [(62, sp62), (61, (sp61 g33)), (60, (sp60 g33)), (59, (sp59 g33)), (58, sp58), (33, (Eng.specOf [.v (.nm 4), .v (.nm 1)] [.v (.nm 3)] 0 g33)), (57, (sp57 g33)), (56000054, sp56000054), (55, sp55), (53, sp53), (52, sp52), (51, sp51)]), Eng.look [], Eng.pinIds 0 [.v (.nm 4), .v (.nm 1)], 0⟩, Eng.bodyOf Go.Proofs.Tryz.f33, [.cell 4 40], 97⟩
noncomputable def r33 (k : Nat) : G33 := Nat.rec (motive := fun _ => G33) (fun _ => none) (fun _ g => (F33 g).run [.v (.nm 4), .v (.nm 1)] [.v (.nm 3)] 4000000) k
theorem r33_succ (k : Nat) (x : HIn NN.ρ [.v (.nm 4), .v (.nm 1)]) : r33 (k + 1) x = (F33 (r33 k)).run [.v (.nm 4), .v (.nm 1)] [.v (.nm 3)] 4000000 x := rfl
noncomputable def R33 : G33 := r33 100000
noncomputable def sp33 : Eng.Spec NN := Eng.specOf [.v (.nm 4), .v (.nm 1)] [.v (.nm 3)] 0 R33
theorem goodm33 (g : G33) (hg : Eng.Good prog 33 (Eng.specOf [.v (.nm 4), .v (.nm 1)] [.v (.nm 3)] 0 g)) : Eng.Good prog 33 ((F33 g).spec [.v (.nm 4), .v (.nm 1)] [.v (.nm 3)] 4000000) := Eng.good_fn (fn := f33) fits (by kernel_rfl) mixed (by kernel_rfl) (.cons good62 (.cons (goodm61 g hg) (.cons (goodm60 g hg) (.cons (goodm59 g hg) (.cons good58 (.cons hg (.cons (goodm57 g hg) (.consI 56000054 good56000054 (.cons good55 (.cons good53 (.cons good52 (.cons good51 .nil)))))))))))) (by kernel_rfl) (by kernel_rfl) (by kernel_rfl) (by kernel_rfl) (by kernel_rfl) (by kernel_rfl) (by kernel_rfl) (by kernel_rfl) (by kernel_rfl)
theorem goodr33 : ∀ k, Eng.Good prog 33 (Eng.specOf [.v (.nm 4), .v (.nm 1)] [.v (.nm 3)] 0 (r33 k))
 | 0 => Eng.good_none (fn := f33) (by kernel_rfl) (c := Eng.bodyOf f33) (by kernel_rfl) (by kernel_rfl) _ _ _
 | k + 1 => Eng.good_rec (goodm33 (r33 k) (goodr33 k)) (r33_succ k)
theorem good33 : Eng.Good prog 33 sp33 := goodr33 100000
noncomputable def F32 : Eng.Fn NN := ⟨⟨(Eng.look tys), (lookS [(50, sp50)]), Eng.look [], Eng.pinIds 0 [.v (.nm 2)], 0⟩, Eng.bodyOf Go.Proofs.Tryz.f32, [.tmp 2], 10⟩
noncomputable def sp32 : Eng.Spec NN := F32.spec [.v (.nm 2)] [.v (.sl (.int .i64))] 4000000
theorem good32 : Eng.Good prog 32 sp32 := Eng.good_fn (fn := f32) fits (by kernel_rfl) mixed (by kernel_rfl) (.cons good50 .nil) (by kernel_rfl) (by kernel_rfl) (by kernel_rfl) (by kernel_rfl) (by kernel_rfl) (by kernel_rfl) (by kernel_rfl) (by kernel_rfl) (by kernel_rfl)
noncomputable def F17 : Eng.Fn NN := ⟨⟨(Eng.look tys), (lookS [(33, sp33), (32, sp32)]), Eng.look [(4, [4, 5, 6, 18, 19, 20])], Eng.pinIds 0 [.v (.sl (.nm 1)), .v (.nm 2)], 0⟩, Eng.bodyOf Go.Proofs.Tryz.f17, [.cell 4 31], 34⟩
noncomputable def sp17 : Eng.Spec NN := F17.spec [.v (.sl (.nm 1)), .v (.nm 2)] [.v (.nm 2)] 4000000
theorem good17 : Eng.Good prog 17 sp17 := Eng.good_fn (fn := f17) fits (by kernel_rfl) mixed (by kernel_rfl) (.cons good33 (.cons good32 .nil)) (by kernel_rfl) (by kernel_rfl) (by kernel_rfl) (by kernel_rfl) (by kernel_rfl) (by kernel_rfl) (by kernel_rfl) (by kernel_rfl) (by kernel_rfl)
noncomputable def F31 : Eng.Fn NN := ⟨⟨(Eng.look tys), (lookS []), Eng.look [], Eng.pinIds 0 [], 0⟩, Eng.bodyOf Go.Proofs.Tryz.f31, [.cell 0 27], 2⟩
noncomputable def sp31 : Eng.Spec NN := F31.spec [] [.v (.nm 1)] 4000000
theorem good31 : Eng.Good prog 31 sp31 := Eng.good_fn (fn := f31) fits (by kernel_rfl) mixed (by kernel_rfl) .nil (by kernel_rfl) (by kernel_rfl) (by kernel_rfl) (by kernel_rfl) (by kernel_rfl) (by kernel_rfl) (by kernel_rfl) (by kernel_rfl) (by kernel_rfl)
noncomputable def F15 : Eng.Fn NN := ⟨⟨(Eng.look tys), (lookS [(38, sp38), (33, sp33), (32, sp32)]), Eng.look [(5, [4, 6, 7, 23, 24, 25])], Eng.pinIds 0 [.v (.nm 1), .v (.nm 2)], 0⟩, Eng.bodyOf Go.Proofs.Tryz.f15, [.cell 4 31], 42⟩
noncomputable def sp15 : Eng.Spec NN := F15.spec [.v (.nm 1), .v (.nm 2)] [.v (.nm 2)] 4000000
theorem good15 : Eng.Good prog 15 sp15 := Eng.good_fn (fn := f15) fits (by kernel_rfl) mixed (by kernel_rfl) (.cons good38 (.cons good33 (.cons good32 .nil))) (by kernel_rfl) (by kernel_rfl) (by kernel_rfl) (by kernel_rfl) (by kernel_rfl) (by kernel_rfl) (by kernel_rfl) (by kernel_rfl) (by kernel_rfl)
noncomputable def F29 : Eng.Fn NN := ⟨⟨(Eng.look tys), (lookS [(31, sp31)]), Eng.look [], Eng.pinIds 0 [.v (.int .i64), .v (.int .i64), .v (.int .i64)], 0⟩, Eng.bodyOf Go.Proofs.Tryz.f29, [.cell 6 27], 15⟩
noncomputable def sp29 : Eng.Spec NN := F29.spec [.v (.int .i64), .v (.int .i64), .v (.int .i64)] [.v (.nm 1)] 4000000
theorem good29 : Eng.Good prog 29 sp29 := Eng.good_fn (fn := f29) fits (by kernel_rfl) mixed (by kernel_rfl) (.cons good31 .nil) (by kernel_rfl) (by kernel_rfl) (by kernel_rfl) (by kernel_rfl) (by kernel_rfl) (by kernel_rfl) (by kernel_rfl) (by kernel_rfl) (by kernel_rfl)
noncomputable def F12 : Eng.Fn NN := ⟨⟨(Eng.look tys), (lookS [(33, sp33), (32, sp32)]), Eng.look [], Eng.pinIds 0 [.v (.nm 1), .v (.nm 2)], 0⟩, Eng.bodyOf Go.Proofs.Tryz.f12, [.cell 4 40], 12⟩
noncomputable def sp12 : Eng.Spec NN := F12.spec [.v (.nm 1), .v (.nm 2)] [.v (.nm 3)] 4000000
theorem good12 : Eng.Good prog 12 sp12 := Eng.good_fn (fn := f12) fits (by kernel_rfl) mixed (by kernel_rfl) (.cons good33 (.cons good32 .nil)) (by kernel_rfl) (by kernel_rfl) (by kernel_rfl) (by kernel_rfl) (by kernel_rfl) (by kernel_rfl) (by kernel_rfl) (by kernel_rfl) (by kernel_rfl)
noncomputable def F11 : Eng.Fn NN := ⟨⟨(Eng.look tys), (lookS []), Eng.look [(3, [2, 3]), (4, [2, 3, 5]), (9, [2, 3, 6]), (14, [2, 3, 7])], Eng.pinIds 0 [.v (.nm 3), .v (.nm 3)], 0⟩, Eng.bodyOf Go.Proofs.Tryz.f11, [.tmp 4], 94⟩
noncomputable def sp11 : Eng.Spec NN := F11.spec [.v (.nm 3), .v (.nm 3)] [.v (.bool)] 4000000
noncomputable def F37 : Eng.Fn NN := ⟨⟨(Eng.look tys), (lookS []), Eng.look [(4, [0, 1, 5])], Eng.pinIds 0 [.v (.sl (.int .i64)), .v (.sl (.int .i64))], 0⟩, Eng.bodyOf Go.Proofs.Tryz.f37, [.tmp 4], 26⟩
noncomputable def sp37 : Eng.Spec NN := F37.spec [.v (.sl (.int .i64)), .v (.sl (.int .i64))] [.v (.bool)] 4000000
noncomputable def F14 : Eng.Fn NN := ⟨⟨(Eng.look tys), (lookS [(11, sp11), (37, sp37)]), Eng.look [(3, [2, 3]), (4, [2, 3, 5])], Eng.pinIds 0 [.v (.nm 2), .v (.nm 2)], 0⟩, Eng.bodyOf Go.Proofs.Tryz.f14, [.tmp 4], 54⟩
noncomputable def sp14 : Eng.Spec NN := F14.spec [.v (.nm 2), .v (.nm 2)] [.v (.bool)] 4000000
noncomputable def F76 : Eng.Fn NN := ⟨⟨(Eng.look tys), (lookS []), Eng.look [], Eng.pinIds 0 [.v (.nm 0)], 0⟩, Eng.bodyOf Go.Proofs.Tryz.f76, [.tmp 2], 11⟩
noncomputable def sp76 : Eng.Spec NN := F76.spec [.v (.nm 0)] [.v (.bool)] 4000000
noncomputable def F141 : Eng.Fn NN := ⟨⟨(Eng.look tys), (lookS []), Eng.look [(3, [0, 1, 2, 7, 8]), (4, [0, 1, 2, 7, 8])], Eng.pinIds 0 [.v (.str), .v (.int .i64), .v (.int .i64)], 0⟩, Eng.bodyOf Go.Proofs.Tryz.f141, [.tmp 6], 65⟩
noncomputable def sp141 : Eng.Spec NN := F141.spec [.v (.str), .v (.int .i64), .v (.int .i64)] [.v (.str)] 4000000
noncomputable def F140 : Eng.Fn NN := ⟨⟨(Eng.look tys), (lookS []), Eng.look [(3, [1, 2, 7, 8]), (4, [1, 2, 7, 8])], Eng.pinIds 0 [.v (.str), .v (.int .u8), .v (.int .i64)], 0⟩, Eng.bodyOf Go.Proofs.Tryz.f140, [.tmp 6], 45⟩
noncomputable def sp140 : Eng.Spec NN := F140.spec [.v (.str), .v (.int .u8), .v (.int .i64)] [.v (.str)] 4000000
noncomputable def F115 : Eng.Fn NN := ⟨⟨(Eng.look tys), (lookS [(141, sp141), (140, sp140)]), Eng.look [(20, [4, 7])], Eng.pinIds 0 [.v (.str), .v (.sl (.nm 0))], 0⟩, Eng.bodyOf Go.Proofs.Tryz.f115, [.cell 4 23], 99⟩
noncomputable def sp115 : Eng.Spec NN := F115.spec [.v (.str), .v (.sl (.nm 0))] [.v (.nm 0)] 4000000
noncomputable def F114 : Eng.Fn NN := ⟨⟨(Eng.look tys), (lookS []), Eng.look [(1, [0]), (14, [])], Eng.pinIds 0 [.v (.str)], 0⟩, Eng.bodyOf Go.Proofs.Tryz.f114, [.tmp 2, .tmp 3, .tmp 4], 23⟩
noncomputable def sp114 : Eng.Spec NN := F114.spec [.v (.str)] [.own 3 (.int .i64), .v (.int .i64), .v (.bool)] 4000000
noncomputable def F164 : Eng.Fn NN := ⟨⟨(Eng.look tys), (lookS []), Eng.look [], Eng.pinIds 0 [.v (.bool), .v (.bool)], 0⟩, Eng.bodyOf Go.Proofs.Tryz.f164, [.tmp 4], 7⟩
noncomputable def sp164 : Eng.Spec NN := F164.spec [.v (.bool), .v (.bool)] [.v (.int .i64)] 4000000
noncomputable def F139 : Eng.Fn NN := ⟨⟨(Eng.look tys), (lookS [(164, sp164)]), Eng.look [], Eng.pinIds 0 [.v (.nm 0), .v (.nm 0)], 0⟩, Eng.bodyOf Go.Proofs.Tryz.f139, [.tmp 4], 41⟩
noncomputable def sp139 : Eng.Spec NN := F139.spec [.v (.nm 0), .v (.nm 0)] [.v (.int .i64)] 4000000
noncomputable def F113 : Eng.Fn NN := ⟨⟨(Eng.look tys), (lookS [(139, sp139)]), Eng.look [(3, [0, 1, 4, 5, 6]), (4, [0, 1, 4, 5, 6])], Eng.pinIds 0 [.v (.sl (.nm 0)), .v (.bool)], 0⟩, Eng.bodyOf Go.Proofs.Tryz.f113, [.cell 4 23], 52⟩
noncomputable def sp113 : Eng.Spec NN := F113.spec [.v (.sl (.nm 0)), .v (.bool)] [.v (.nm 0)] 4000000
noncomputable def F104 : Eng.Fn NN := ⟨⟨(Eng.look tys), (lookS []), Eng.look [], Eng.pinIds 0 [.v (.bool)], 0⟩, Eng.bodyOf Go.Proofs.Tryz.f104, [.cell 2 23], 6⟩
noncomputable def sp104 : Eng.Spec NN := F104.spec [.v (.bool)] [.v (.nm 0)] 4000000
noncomputable def F138 : Eng.Fn NN := ⟨⟨(Eng.look tys), (lookS []), Eng.look [], Eng.pinIds 0 [.v (.int .i64), .v (.int .i64)], 0⟩, Eng.bodyOf Go.Proofs.Tryz.f138, [.tmp 4], 30⟩
noncomputable def sp138 : Eng.Spec NN := F138.spec [.v (.int .i64), .v (.int .i64)] [.v (.bool)] 4000000
noncomputable def F111 : Eng.Fn NN := ⟨⟨(Eng.look tys), (lookS [(104, sp104), (138, sp138), (139, sp139)]), Eng.look [(3, [0, 4, 5, 6])], Eng.pinIds 0 [.v (.int .i64), .v (.nm 0), .v (.nm 0)], 0⟩, Eng.bodyOf Go.Proofs.Tryz.f111, [.cell 6 23], 32⟩
noncomputable def sp111 : Eng.Spec NN := F111.spec [.v (.int .i64), .v (.nm 0), .v (.nm 0)] [.v (.nm 0)] 4000000
noncomputable def F112 : Eng.Fn NN := ⟨⟨(Eng.look tys), (lookS []), Eng.look [], Eng.pinIds 0 [.v (.str), .v (.int .i64)], 0⟩, Eng.bodyOf Go.Proofs.Tryz.f112, [.tmp 4], 27⟩
noncomputable def sp112 : Eng.Spec NN := F112.spec [.v (.str), .v (.int .i64)] [.v (.bool)] 4000000
noncomputable def F72 : Eng.Fn NN := ⟨⟨(Eng.look tys), (lookS [(115, sp115), (114, sp114), (113, sp113), (111, sp111), (112, sp112)]), Eng.look [(12, [1, 4, 5]), (20, [0, 1, 4, 6]), (21, [0, 1, 4, 6, 9])], Eng.pinIds 0 [.v (.str), .v (.sl (.nm 0))], 0⟩, Eng.bodyOf Go.Proofs.Tryz.f72, [.cell 4 23], 91⟩
noncomputable def sp72 : Eng.Spec NN := F72.spec [.v (.str), .v (.sl (.nm 0))] [.v (.nm 0)] 4000000
noncomputable def F71 : Eng.Fn NN := ⟨⟨(Eng.look tys), (lookS [(76, sp76)]), Eng.look [(2, [0, 2, 3])], Eng.pinIds 0 [.v (.sl (.nm 0))], 0⟩, Eng.bodyOf Go.Proofs.Tryz.f71, [.cell 2 23], 32⟩
noncomputable def sp71 : Eng.Spec NN := F71.spec [.v (.sl (.nm 0))] [.v (.nm 0)] 4000000
noncomputable def F136 : Eng.Fn NN := ⟨⟨(Eng.look tys), (lookS []), Eng.look [], Eng.pinIds 0 [.v (.nm 0)], 0⟩, Eng.bodyOf Go.Proofs.Tryz.f136, [.tmp 2], 11⟩
noncomputable def sp136 : Eng.Spec NN := F136.spec [.v (.nm 0)] [.v (.bool)] 4000000
noncomputable def F107 : Eng.Fn NN := ⟨⟨(Eng.look tys), (lookS [(104, sp104), (136, sp136), (76, sp76)]), Eng.look [(3, [0, 2, 3, 4])], Eng.pinIds 0 [.v (.sl (.nm 0))], 0⟩, Eng.bodyOf Go.Proofs.Tryz.f107, [.cell 2 23], 26⟩
noncomputable def sp107 : Eng.Spec NN := F107.spec [.v (.sl (.nm 0))] [.v (.nm 0)] 4000000
noncomputable def F70 : Eng.Fn NN := ⟨⟨(Eng.look tys), (lookS [(107, sp107), (111, sp111)]), Eng.look [(3, [0, 2, 3, 4])], Eng.pinIds 0 [.v (.sl (.nm 0))], 0⟩, Eng.bodyOf Go.Proofs.Tryz.f70, [.cell 2 23], 24⟩
noncomputable def sp70 : Eng.Spec NN := F70.spec [.v (.sl (.nm 0))] [.v (.nm 0)] 4000000
noncomputable def F69 : Eng.Fn NN := ⟨⟨(Eng.look tys), (lookS []), Eng.look [], Eng.pinIds 0 [.v (.bool)], 0⟩, Eng.bodyOf Go.Proofs.Tryz.f69, [.cell 2 23], 6⟩
noncomputable def sp69 : Eng.Spec NN := F69.spec [.v (.bool)] [.v (.nm 0)] 4000000
noncomputable def F110 : Eng.Fn NN := ⟨⟨(Eng.look tys), (lookS []), Eng.look [(4, [0, 1, 5, 6]), (9, [0, 1, 5, 6, 8]), (14, [0, 1, 5, 6, 7, 9])], Eng.pinIds 0 [.v (.str), .v (.str)], 0⟩, Eng.bodyOf Go.Proofs.Tryz.f110, [.tmp 4], 74⟩
noncomputable def sp110 : Eng.Spec NN := F110.spec [.v (.str), .v (.str)] [.v (.bool)] 40000000
noncomputable def F109 : Eng.Fn NN := ⟨⟨(Eng.look tys), (lookS []), Eng.look [(3, [2, 3, 4])], Eng.pinIds 0 [.v (.nm 0), .v (.nm 0)], 0⟩, Eng.bodyOf Go.Proofs.Tryz.f109, [.cell 4 23], 30⟩
noncomputable def sp109 : Eng.Spec NN := F109.spec [.v (.nm 0), .v (.nm 0)] [.v (.nm 0)] 4000000
noncomputable def F105 : Eng.Fn NN := ⟨⟨(Eng.look tys), (lookS []), Eng.look [], Eng.pinIds 0 [.v (.int .i64)], 0⟩, Eng.bodyOf Go.Proofs.Tryz.f105, [.cell 2 23], 5⟩
noncomputable def sp105 : Eng.Spec NN := F105.spec [.v (.int .i64)] [.v (.nm 0)] 4000000
noncomputable def F163 : Eng.Fn NN := ⟨⟨(Eng.look tys), (lookS []), Eng.look [(3, [0, 1])], Eng.pinIds 0 [.v (.int .i64), .v (.int .i64)], 0⟩, Eng.bodyOf Go.Proofs.Tryz.f163, [.tmp 4, .tmp 5], 34⟩
noncomputable def sp163 : Eng.Spec NN := F163.spec [.v (.int .i64), .v (.int .i64)] [.v (.int .i64), .v (.bool)] 4000000
noncomputable def F137 : Eng.Fn NN := ⟨⟨(Eng.look tys), (lookS [(163, sp163)]), Eng.look [(11, [1, 2])], Eng.pinIds 0 [.v (.int .i64), .v (.int .i64), .v (.int .i64)], 0⟩, Eng.bodyOf Go.Proofs.Tryz.f137, [.tmp 6, .tmp 7], 88⟩
noncomputable def sp137 : Eng.Spec NN := F137.spec [.v (.int .i64), .v (.int .i64), .v (.int .i64)] [.v (.int .i64), .v (.bool)] 4000000
noncomputable def F108 : Eng.Fn NN := ⟨⟨(Eng.look tys), (lookS [(105, sp105), (137, sp137)]), Eng.look [(3, [0, 4, 5, 6])], Eng.pinIds 0 [.v (.int .i64), .v (.nm 0), .v (.nm 0)], 0⟩, Eng.bodyOf Go.Proofs.Tryz.f108, [.cell 6 23], 32⟩
noncomputable def sp108 : Eng.Spec NN := F108.spec [.v (.int .i64), .v (.nm 0), .v (.nm 0)] [.v (.nm 0)] 4000000
noncomputable def F106 : Eng.Fn NN := ⟨⟨(Eng.look tys), (lookS [(104, sp104), (76, sp76), (136, sp136)]), Eng.look [(3, [0, 2, 3, 4])], Eng.pinIds 0 [.v (.sl (.nm 0))], 0⟩, Eng.bodyOf Go.Proofs.Tryz.f106, [.cell 2 23], 26⟩
noncomputable def sp106 : Eng.Spec NN := F106.spec [.v (.sl (.nm 0))] [.v (.nm 0)] 4000000
noncomputable def F68 : Eng.Fn NN := ⟨⟨(Eng.look tys), (lookS [(111, sp111), (69, sp69), (110, sp110), (109, sp109), (108, sp108), (107, sp107), (106, sp106)]), Eng.look [(17, [4, 5, 6]), (18, [0, 4, 5, 6])], Eng.pinIds 0 [.v (.int .i64), .v (.nm 0), .v (.nm 0)], 0⟩, Eng.bodyOf Go.Proofs.Tryz.f68, [.cell 6 23], 56⟩
noncomputable def sp68 : Eng.Spec NN := F68.spec [.v (.int .i64), .v (.nm 0), .v (.nm 0)] [.v (.nm 0)] 4000000
noncomputable def F67 : Eng.Fn NN := ⟨⟨(Eng.look tys), (lookS [(105, sp105)]), Eng.look [], Eng.pinIds 0 [.v (.nm 0)], 0⟩, Eng.bodyOf Go.Proofs.Tryz.f67, [.cell 2 23], 16⟩
noncomputable def sp67 : Eng.Spec NN := F67.spec [.v (.nm 0)] [.v (.nm 0)] 4000000
noncomputable def F66 : Eng.Fn NN := ⟨⟨(Eng.look tys), (lookS [(104, sp104)]), Eng.look [], Eng.pinIds 0 [.v (.nm 0)], 0⟩, Eng.bodyOf Go.Proofs.Tryz.f66, [.cell 2 23], 11⟩
noncomputable def sp66 : Eng.Spec NN := F66.spec [.v (.nm 0)] [.v (.nm 0)] 4000000
noncomputable def F64 : Eng.Fn NN := ⟨⟨(Eng.look tys), (lookS []), Eng.look [], Eng.pinIds 0 [.v (.sl (.nm 0)), .v (.int .i64)], 0⟩, Eng.bodyOf Go.Proofs.Tryz.f64, [.cell 4 23], 18⟩
noncomputable def sp64 : Eng.Spec NN := F64.spec [.v (.sl (.nm 0)), .v (.int .i64)] [.v (.nm 0)] 4000000
abbrev G35 := HIn NN.ρ [.v (.nm 1), .v (.sl (.nm 0))] → Option (HRes NN.ρ [.v (.nm 0)] × HOut NN.ρ [.v (.nm 1), .v (.sl (.nm 0))])
noncomputable def F65 (g35 : G35) : Eng.Fn NN := ⟨⟨(Eng.look tys), (lookS [(35, (Eng.specOf [.v (.nm 1), .v (.sl (.nm 0))] [.v (.nm 0)] 0 g35))]), Eng.look [(1, [0, 1]), (3, [0, 1, 5, 6])], Eng.pinIds 0 [.v (.sl (.nm 1)), .v (.sl (.nm 0))], 0⟩, Eng.bodyOf Go.Proofs.Tryz.f65, [.tmp 4], 23⟩
noncomputable def sp65 (g : G35) : Eng.Spec NN := (F65 g).spec [.v (.sl (.nm 1)), .v (.sl (.nm 0))] [.own 23 (.nm 0)] 4000000
noncomputable def F35 (g35 : G35) : Eng.Fn NN := ⟨⟨(Eng.look tys), (lookS [(72, sp72), (71, sp71), (70, sp70), (69, sp69), (68, sp68), (67, sp67), (66, sp66), (65, (sp65 g35)), (64, sp64)]), Eng.look [(9, [1, 2, 4])], Eng.pinIds 0 [.v (.nm 1), .v (.sl (.nm 0))], 0⟩, Eng.bodyOf Go.Proofs.Tryz.f35, [.cell 4 23], 74⟩
noncomputable def r35 (k : Nat) : G35 := Nat.rec (motive := fun _ => G35) (fun _ => none) (fun _ g => (F35 g).run [.v (.nm 1), .v (.sl (.nm 0))] [.v (.nm 0)] 4000000) k
noncomputable def R35 : G35 := r35 100000
noncomputable def sp35 : Eng.Spec NN := Eng.specOf [.v (.nm 1), .v (.sl (.nm 0))] [.v (.nm 0)] 0 R35
noncomputable def F39 : Eng.Fn NN := ⟨⟨(Eng.look tys), (lookS [(76, sp76), (35, sp35)]), Eng.look [], Eng.pinIds 0 [.v (.nm 1), .v (.sl (.nm 0))], 0⟩, Eng.bodyOf Go.Proofs.Tryz.f39, [.tmp 4], 9⟩
noncomputable def sp39 : Eng.Spec NN := F39.spec [.v (.nm 1), .v (.sl (.nm 0))] [.v (.bool)] 4000000
noncomputable def F46 : Eng.Fn NN := ⟨⟨(Eng.look tys), (lookS []), Eng.look [(3, [1, 2, 4])], Eng.pinIds 0 [.v (.nm 3), .v (.int .i64)], 0⟩, Eng.bodyOf Go.Proofs.Tryz.f46, [.cell 4 23], 39⟩
noncomputable def sp46 : Eng.Spec NN := F46.spec [.v (.nm 3), .v (.int .i64)] [.v (.nm 0)] 4000000
theorem good46 : Eng.Good prog 46 sp46 := Eng.good_fn (fn := f46) fits (by kernel_rfl) mixed (by kernel_rfl) .nil (by kernel_rfl) (by kernel_rfl) (by kernel_rfl) (by kernel_rfl) (by kernel_rfl) (by kernel_rfl) (by kernel_rfl) (by kernel_rfl) (by kernel_rfl)
noncomputable def F63 : Eng.Fn NN := ⟨⟨(Eng.look tys), (lookS [(46, sp46)]), Eng.look [(1, [1, 2]), (3, [1, 2, 5, 6])], Eng.pinIds 0 [.v (.nm 2), .v (.int .i64)], 0⟩, Eng.bodyOf Go.Proofs.Tryz.f63, [.tmp 4], 25⟩
noncomputable def sp63 : Eng.Spec NN := F63.spec [.v (.nm 2), .v (.int .i64)] [.own 23 (.nm 0)] 4000000
noncomputable def F34 : Eng.Fn NN := ⟨⟨(Eng.look tys), (lookS [(63, sp63)]), Eng.look [(1, [1]), (4, [1, 3, 4]), (9, [1, 3, 5])], Eng.pinIds 0 [.v (.nm 2)], 0⟩, Eng.bodyOf Go.Proofs.Tryz.f34, [.tmp 2], 39⟩
noncomputable def sp34 : Eng.Spec NN := F34.spec [.v (.nm 2)] [.own 66 (.sl (.nm 0))] 4000000
noncomputable def F19 : Eng.Fn NN := ⟨⟨(Eng.look tys), (lookS []), Eng.look [(5, [1, 3, 4])], Eng.pinIds 0 [.v (.nm 2)], 0⟩, Eng.bodyOf Go.Proofs.Tryz.f19, [.tmp 2], 21⟩
noncomputable def sp19 : Eng.Spec NN := F19.spec [.v (.nm 2)] [.v (.sl (.int .i64))] 4000000
theorem good19 : Eng.Good prog 19 sp19 := Eng.good_fn (fn := f19) fits (by kernel_rfl) mixed (by kernel_rfl) .nil (by kernel_rfl) (by kernel_rfl) (by kernel_rfl) (by kernel_rfl) (by kernel_rfl) (by kernel_rfl) (by kernel_rfl) (by kernel_rfl) (by kernel_rfl)
noncomputable def F16 : Eng.Fn NN := ⟨⟨(Eng.look tys), (lookS [(39, sp39), (34, sp34), (19, sp19)]), Eng.look [(4, [2, 3, 4, 5, 6, 7, 8])], Eng.pinIds 0 [.v (.nm 1), .v (.nm 2)], 0⟩, Eng.bodyOf Go.Proofs.Tryz.f16, [.cell 4 31], 38⟩
noncomputable def sp16 : Eng.Spec NN := F16.spec [.v (.nm 1), .v (.nm 2)] [.v (.nm 2)] 4000000
noncomputable def F75 : Eng.Fn NN := ⟨⟨(Eng.look tys), (lookS []), Eng.look [(1, [2, 3, 4]), (4, [2, 3, 4])], Eng.pinIds 0 [.ag 3 AGV, .v (.nm 0)], 0⟩, Eng.bodyOf Go.Proofs.Tryz.f75, [.cell 4 40], 39⟩
noncomputable def sp75 : Eng.Spec NN := F75.spec [.ag 3 AGV, .v (.nm 0)] [.ag 3 AGV] 4000000
noncomputable def F74 : Eng.Fn NN := ⟨⟨(Eng.look tys), (lookS []), Eng.look [], Eng.pinIds 0 [.v (.nm 0), .v (.int .i64)], 0⟩, Eng.bodyOf Go.Proofs.Tryz.f74, [.tmp 4], 14⟩
noncomputable def sp74 : Eng.Spec NN := F74.spec [.v (.nm 0), .v (.int .i64)] [.v (.bool)] 4000000
noncomputable def F73 : Eng.Fn NN := ⟨⟨(Eng.look tys), (lookS []), Eng.look [], Eng.pinIds 0 [.v (.int .i64)], 0⟩, Eng.bodyOf Go.Proofs.Tryz.f73, [.tmp 2], 9⟩
noncomputable def sp73 : Eng.Spec NN := F73.spec [.v (.int .i64)] [.v (.bool)] 4000000
theorem good73 : Eng.Good prog 73 sp73 := Eng.good_fn (fn := f73) fits (by kernel_rfl) mixed (by kernel_rfl) .nil (by kernel_rfl) (by kernel_rfl) (by kernel_rfl) (by kernel_rfl) (by kernel_rfl) (by kernel_rfl) (by kernel_rfl) (by kernel_rfl) (by kernel_rfl)
noncomputable def F36 : Eng.Fn NN := ⟨⟨(Eng.look tys), (lookS [(75, sp75), (74, sp74), (73, sp73)]), Eng.look [(1, [0, 1, 4]), (5, [0, 1, 4, 6, 7])], Eng.pinIds 0 [.v (.int .i64), .v (.sl (.nm 0))], 0⟩, Eng.bodyOf Go.Proofs.Tryz.f36, [.cell 4 40, .tmp 5], 35⟩
noncomputable def sp36 : Eng.Spec NN := F36.spec [.v (.int .i64), .v (.sl (.nm 0))] [.ag 3 AGV, .v (.int .i64)] 4000000
noncomputable def F13 : Eng.Fn NN := ⟨⟨(Eng.look tys), (lookS [(36, sp36), (35, sp35), (34, sp34)]), Eng.look [(4, [2, 4, 5, 6, 7])], Eng.pinIds 0 [.v (.nm 1), .v (.nm 2)], 0⟩, Eng.bodyOf Go.Proofs.Tryz.f13, [.cell 4 40], 35⟩
noncomputable def sp13 : Eng.Spec NN := F13.spec [.v (.nm 1), .v (.nm 2)] [.v (.nm 3)] 4000000
noncomputable def F143 : Eng.Fn NN := ⟨⟨(Eng.look tys), (lookS []), Eng.look [(3, [0, 4, 5]), (7, [0, 4, 5])], Eng.pinIds 0 [.v (.sl (.int .i64))], 0⟩, Eng.bodyOf Go.Proofs.Tryz.f143, [.tmp 2, .tmp 3], 39⟩
noncomputable def sp143 : Eng.Spec NN := F143.spec [.v (.sl (.int .i64))] [.v (.int .i64), .v (.bool)] 4000000
noncomputable def F125 : Eng.Fn NN := ⟨⟨(Eng.look tys), (lookS [(114, sp114), (143, sp143), (112, sp112)]), Eng.look [(8, [1, 6, 7]), (9, [1, 6, 7, 9])], Eng.pinIds 0 [.v (.str), .v (.sl (.int .i64))], 0⟩, Eng.bodyOf Go.Proofs.Tryz.f125, [.tmp 4, .tmp 5], 59⟩
noncomputable def sp125 : Eng.Spec NN := F125.spec [.v (.str), .v (.sl (.int .i64))] [.v (.int .i64), .v (.bool)] 4000000
noncomputable def F121 : Eng.Fn NN := ⟨⟨(Eng.look tys), (lookS []), Eng.look [], Eng.pinIds 0 [.v (.int .i64), .v (.int .i64)], 0⟩, Eng.bodyOf Go.Proofs.Tryz.f121, [.tmp 4], 12⟩
noncomputable def sp121 : Eng.Spec NN := F121.spec [.v (.int .i64), .v (.int .i64)] [.v (.bool)] 4000000
noncomputable def F123 : Eng.Fn NN := ⟨⟨(Eng.look tys), (lookS [(121, sp121)]), Eng.look [(3, [0, 4, 5]), (7, [0, 4, 5])], Eng.pinIds 0 [.v (.sl (.int .i64))], 0⟩, Eng.bodyOf Go.Proofs.Tryz.f123, [.tmp 2, .tmp 3], 26⟩
noncomputable def sp123 : Eng.Spec NN := F123.spec [.v (.sl (.int .i64))] [.v (.int .i64), .v (.bool)] 4000000
noncomputable def F124 : Eng.Fn NN := ⟨⟨(Eng.look tys), (lookS [(123, sp123), (121, sp121)]), Eng.look [(5, [0, 4, 5]), (10, [0, 4, 5])], Eng.pinIds 0 [.v (.sl (.int .i64))], 0⟩, Eng.bodyOf Go.Proofs.Tryz.f124, [.tmp 2, .tmp 3], 42⟩
noncomputable def sp124 : Eng.Spec NN := F124.spec [.v (.sl (.int .i64))] [.v (.int .i64), .v (.bool)] 4000000
noncomputable def F122 : Eng.Fn NN := ⟨⟨(Eng.look tys), (lookS [(121, sp121), (123, sp123)]), Eng.look [(6, [0, 1]), (15, [1, 8, 9])], Eng.pinIds 0 [.v (.int .i64), .v (.sl (.int .i64))], 0⟩, Eng.bodyOf Go.Proofs.Tryz.f122, [.tmp 4, .tmp 5], 58⟩
noncomputable def sp122 : Eng.Spec NN := F122.spec [.v (.int .i64), .v (.sl (.int .i64))] [.v (.int .i64), .v (.bool)] 4000000
noncomputable def F120 : Eng.Fn NN := ⟨⟨(Eng.look tys), (lookS []), Eng.look [], Eng.pinIds 0 [.v (.nm 0)], 0⟩, Eng.bodyOf Go.Proofs.Tryz.f120, [.tmp 2], 46⟩
noncomputable def sp120 : Eng.Spec NN := F120.spec [.v (.nm 0)] [.v (.bool)] 4000000
noncomputable def F119 : Eng.Fn NN := ⟨⟨(Eng.look tys), (lookS []), Eng.look [(3, [1])], Eng.pinIds 0 [.v (.nm 1)], 0⟩, Eng.bodyOf Go.Proofs.Tryz.f119, [.tmp 2], 73⟩
noncomputable def sp119 : Eng.Spec NN := F119.spec [.v (.nm 1)] [.v (.bool)] 4000000
abbrev G84 := HIn NN.ρ [.v (.nm 1), .v (.sl (.int .i64))] → Option (HRes NN.ρ [.v (.int .i64), .v (.bool)] × HOut NN.ρ [.v (.nm 1), .v (.sl (.int .i64))])
noncomputable def F84 (g84 : G84) : Eng.Fn NN := ⟨⟨(Eng.look tys), (lookS [(125, sp125), (124, sp124), (123, sp123), (122, sp122), (121, sp121), (120, sp120), (84, (Eng.specOf [.v (.nm 1), .v (.sl (.int .i64))] [.v (.int .i64), .v (.bool)] 0 g84)), (119, sp119)]), Eng.look [(5, [1, 2, 6, 7]), (10, [1, 2, 6, 7, 8]), (17, [1, 2])], Eng.pinIds 0 [.v (.nm 1), .v (.sl (.int .i64))], 0⟩, Eng.bodyOf Go.Proofs.Tryz.f84, [.tmp 4, .tmp 5], 147⟩
noncomputable def r84 (k : Nat) : G84 := Nat.rec (motive := fun _ => G84) (fun _ => none) (fun _ g => (F84 g).run [.v (.nm 1), .v (.sl (.int .i64))] [.v (.int .i64), .v (.bool)] 4000000) k
noncomputable def R84 : G84 := r84 100000
noncomputable def sp84 : Eng.Spec NN := Eng.specOf [.v (.nm 1), .v (.sl (.int .i64))] [.v (.int .i64), .v (.bool)] 0 R84
abbrev G83 := HIn NN.ρ [.v (.nm 1)] → Option (HRes NN.ρ [.v (.int .i64)] × HOut NN.ρ [.v (.nm 1)])
noncomputable def F83 (g83 : G83) : Eng.Fn NN := ⟨⟨(Eng.look tys), (lookS [(83, (Eng.specOf [.v (.nm 1)] [.v (.int .i64)] 0 g83))]), Eng.look [(3, [1, 3, 4]), (7, [1, 3, 5]), (11, [1, 3, 6])], Eng.pinIds 0 [.v (.nm 1)], 0⟩, Eng.bodyOf Go.Proofs.Tryz.f83, [.tmp 2], 55⟩
noncomputable def r83 (k : Nat) : G83 := Nat.rec (motive := fun _ => G83) (fun _ => none) (fun _ g => (F83 g).run [.v (.nm 1)] [.v (.int .i64)] 4000000) k
noncomputable def R83 : G83 := r83 100000
noncomputable def sp83 : Eng.Spec NN := Eng.specOf [.v (.nm 1)] [.v (.int .i64)] 0 R83
noncomputable def F49 : Eng.Fn NN := ⟨⟨(Eng.look tys), (lookS [(84, sp84), (83, sp83)]), Eng.look [], Eng.pinIds 0 [.v (.nm 1), .v (.sl (.int .i64))], 0⟩, Eng.bodyOf Go.Proofs.Tryz.f49, [.tmp 4], 23⟩
noncomputable def sp49 : Eng.Spec NN := F49.spec [.v (.nm 1), .v (.sl (.int .i64))] [.v (.bool)] 4000000
noncomputable def F27 : Eng.Fn NN := ⟨⟨(Eng.look tys), (lookS [(49, sp49)]), Eng.look [], Eng.pinIds 0 [.v (.nm 1), .v (.sl (.int .i64))], 0⟩, Eng.bodyOf Go.Proofs.Tryz.f27, [.tmp 4], 8⟩
noncomputable def sp27 : Eng.Spec NN := F27.spec [.v (.nm 1), .v (.sl (.int .i64))] [.v (.bool)] 4000000
noncomputable def F28 : Eng.Fn NN := ⟨⟨(Eng.look tys), (lookS []), Eng.look [(1, [1]), (3, [1, 3, 4])], Eng.pinIds 0 [.v (.nm 2)], 0⟩, Eng.bodyOf Go.Proofs.Tryz.f28, [.tmp 2], 22⟩
noncomputable def sp28 : Eng.Spec NN := F28.spec [.v (.nm 2)] [.own 3 (.int .i64)] 4000000
abbrev G26 := HIn NN.ρ [.v (.nm 1)] → Option (HRes NN.ρ [.v (.int .i64)] × HOut NN.ρ [.v (.nm 1)])
noncomputable def F26 (g26 : G26) : Eng.Fn NN := ⟨⟨(Eng.look tys), (lookS [(26, (Eng.specOf [.v (.nm 1)] [.v (.int .i64)] 0 g26))]), Eng.look [(3, [1, 3, 4]), (7, [1, 3, 5]), (11, [1, 3, 6])], Eng.pinIds 0 [.v (.nm 1)], 0⟩, Eng.bodyOf Go.Proofs.Tryz.f26, [.tmp 2], 54⟩
noncomputable def r26 (k : Nat) : G26 := Nat.rec (motive := fun _ => G26) (fun _ => none) (fun _ g => (F26 g).run [.v (.nm 1)] [.v (.int .i64)] 4000000) k
noncomputable def R26 : G26 := r26 100000
noncomputable def sp26 : Eng.Spec NN := Eng.specOf [.v (.nm 1)] [.v (.int .i64)] 0 R26
noncomputable def F9 : Eng.Fn NN := ⟨⟨(Eng.look tys), (lookS [(27, sp27), (28, sp28), (26, sp26)]), Eng.look [], Eng.pinIds 0 [.v (.nm 1), .v (.nm 2)], 0⟩, Eng.bodyOf Go.Proofs.Tryz.f9, [.tmp 4], 14⟩
noncomputable def sp9 : Eng.Spec NN := F9.spec [.v (.nm 1), .v (.nm 2)] [.v (.bool)] 4000000
noncomputable def F82 : Eng.Fn NN := ⟨⟨(Eng.look tys), (lookS []), Eng.look [], Eng.pinIds 0 [.v (.nm 3), .v (.int .i64)], 0⟩, Eng.bodyOf Go.Proofs.Tryz.f82, [.tmp 4], 77⟩
noncomputable def sp82 : Eng.Spec NN := F82.spec [.v (.nm 3), .v (.int .i64)] [.v (.bool)] 4000000
theorem good82 : Eng.Good prog 82 sp82 := Eng.good_fn (fn := f82) fits (by kernel_rfl) mixed (by kernel_rfl) .nil (by kernel_rfl) (by kernel_rfl) (by kernel_rfl) (by kernel_rfl) (by kernel_rfl) (by kernel_rfl) (by kernel_rfl) (by kernel_rfl) (by kernel_rfl)
noncomputable def F48 : Eng.Fn NN := ⟨⟨(Eng.look tys), (lookS [(82, sp82), (73, sp73)]), Eng.look [(6, [1, 3, 4]), (8, [1, 3, 4]), (10, [1]), (11, [1, 5])], Eng.pinIds 0 [.v (.nm 3)], 0⟩, Eng.bodyOf Go.Proofs.Tryz.f48, [.tmp 2], 50⟩
noncomputable def sp48 : Eng.Spec NN := F48.spec [.v (.nm 3)] [.v (.bool)] 4000000
theorem good48 : Eng.Good prog 48 sp48 := Eng.good_fn (fn := f48) fits (by kernel_rfl) mixed (by kernel_rfl) (.cons good82 (.cons good73 .nil)) (by kernel_rfl) (by kernel_rfl) (by kernel_rfl) (by kernel_rfl) (by kernel_rfl) (by kernel_rfl) (by kernel_rfl) (by kernel_rfl) (by kernel_rfl)
noncomputable def F25 : Eng.Fn NN := ⟨⟨(Eng.look tys), (lookS [(48, sp48)]), Eng.look [(3, [1]), (4, [1, 3]), (9, [1, 4]), (10, [1, 4])], Eng.pinIds 0 [.v (.nm 2)], 0⟩, Eng.bodyOf Go.Proofs.Tryz.f25, [.tmp 2], 85⟩
noncomputable def sp25 : Eng.Spec NN := F25.spec [.v (.nm 2)] [.v (.bool)] 4000000
theorem good25 : Eng.Good prog 25 sp25 := Eng.good_fn (fn := f25) fits (by kernel_rfl) mixed (by kernel_rfl) (.cons good48 .nil) (by kernel_rfl) (by kernel_rfl) (by kernel_rfl) (by kernel_rfl) (by kernel_rfl) (by kernel_rfl) (by kernel_rfl) (by kernel_rfl) (by kernel_rfl)
noncomputable def F8 : Eng.Fn NN := ⟨⟨(Eng.look tys), (lookS [(25, sp25)]), Eng.look [], Eng.pinIds 0 [.v (.nm 2)], 0⟩, Eng.bodyOf Go.Proofs.Tryz.f8, [.tmp 2], 16⟩
noncomputable def sp8 : Eng.Spec NN := F8.spec [.v (.nm 2)] [.v (.bool)] 4000000
theorem good8 : Eng.Good prog 8 sp8 := Eng.good_fn (fn := f8) fits (by kernel_rfl) mixed (by kernel_rfl) (.cons good25 .nil) (by kernel_rfl) (by kernel_rfl) (by kernel_rfl) (by kernel_rfl) (by kernel_rfl) (by kernel_rfl) (by kernel_rfl) (by kernel_rfl) (by kernel_rfl)
noncomputable def F18 : Eng.Fn NN := ⟨⟨(Eng.look tys), (lookS [(13, sp13), (19, sp19)]), Eng.look [(3, [0, 3, 4, 5, 6])], Eng.pinIds 0 [.v (.sl (.nm 1)), .v (.nm 2)], 0⟩, Eng.bodyOf Go.Proofs.Tryz.f18, [.cell 4 31], 29⟩
noncomputable def sp18 : Eng.Spec NN := F18.spec [.v (.sl (.nm 1)), .v (.nm 2)] [.v (.nm 2)] 4000000
end Go.Proofs.Tryz
