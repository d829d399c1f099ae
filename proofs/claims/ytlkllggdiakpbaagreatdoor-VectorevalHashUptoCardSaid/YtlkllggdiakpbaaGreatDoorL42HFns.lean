/- The functions of the program as the engine follows them (printed by a program of ours): their code, what is known of them, and the equations of their runs. -/
import Derived.Test.YtlkllggdiakpbaaGreatDoorL42Fns
import Derived.Test.YtlkllggdiakpbaaGreatDoorL42Ex
set_option linter.unusedVariables false
set_option maxRecDepth 20000
namespace Go.Proofs.Tryz
open Go.Eng
noncomputable def F45 : Eng.Fn NN := ⟨⟨(Eng.look tys), (lookS []), Eng.look [(2, [0, 1, 5])], Eng.pinIds 0 [.v (.sl (.nm 3)), .v (.int .i64)], 0⟩, Eng.bodyOf Go.Proofs.Tryz.f45, [.tmp 4], 22⟩
noncomputable def sp45 : Eng.Spec NN := F45.spec [.v (.sl (.nm 3)), .v (.int .i64)] [.v (.bool)] 4000000
theorem good45 : Eng.Good prog 45 sp45 := Eng.good_fn (fn := f45) fits (by kernel_rfl) mixed (by kernel_rfl) .nil (by kernel_rfl) (by kernel_rfl) (by kernel_rfl) (by kernel_rfl) (by kernel_rfl) (by kernel_rfl) (by kernel_rfl) (by kernel_rfl) (by kernel_rfl)
noncomputable def F23 : Eng.Fn NN := ⟨⟨(Eng.look tys), (lookS [(46, sp46), (45, sp45)]), Eng.look [(3, [0, 1, 2, 3]), (4, [0, 1, 2, 3, 9]), (6, [0, 1, 2, 3, 9])], Eng.pinIds 0 [.v (.sl (.nm 3)), .v (.int .i64), .v (.sl (.nm 3)), .v (.int .i64)], 0⟩, Eng.bodyOf Go.Proofs.Tryz.f23, [.tmp 8], 52⟩
noncomputable def sp23 : Eng.Spec NN := F23.spec [.v (.sl (.nm 3)), .v (.int .i64), .v (.sl (.nm 3)), .v (.int .i64)] [.v (.bool)] 4000000
theorem good23 : Eng.Good prog 23 sp23 := Eng.good_fn (fn := f23) fits (by kernel_rfl) mixed (by kernel_rfl) (.cons good46 (.cons good45 .nil)) (by kernel_rfl) (by kernel_rfl) (by kernel_rfl) (by kernel_rfl) (by kernel_rfl) (by kernel_rfl) (by kernel_rfl) (by kernel_rfl) (by kernel_rfl)
noncomputable def F79 : Eng.Fn NN := ⟨⟨(Eng.look tys), (lookS []), Eng.look [], Eng.pinIds 0 [.v (.int .u64)], 0⟩, Eng.bodyOf Go.Proofs.Tryz.f79, [.tmp 2], 19⟩
noncomputable def sp79 : Eng.Spec NN := F79.spec [.v (.int .u64)] [.v (.int .u64)] 4000000
theorem good79 : Eng.Good prog 79 sp79 := Eng.good_fn (fn := f79) fits (by kernel_rfl) mixed (by kernel_rfl) .nil (by kernel_rfl) (by kernel_rfl) (by kernel_rfl) (by kernel_rfl) (by kernel_rfl) (by kernel_rfl) (by kernel_rfl) (by kernel_rfl) (by kernel_rfl)
noncomputable def F116 : Eng.Fn NN := ⟨⟨(Eng.look tys), (lookS []), Eng.look [(3, [0, 1, 5, 6])], Eng.pinIds 0 [.v (.sl (.int .u8)), .v (.int .i64)], 0⟩, Eng.bodyOf Go.Proofs.Tryz.f116, [.tmp 4], 29⟩
noncomputable def sp116 : Eng.Spec NN := F116.spec [.v (.sl (.int .u8)), .v (.int .i64)] [.v (.int .u64)] 4000000
theorem good116 : Eng.Good prog 116 sp116 := Eng.good_fn (fn := f116) fits (by kernel_rfl) mixed (by kernel_rfl) .nil (by kernel_rfl) (by kernel_rfl) (by kernel_rfl) (by kernel_rfl) (by kernel_rfl) (by kernel_rfl) (by kernel_rfl) (by kernel_rfl) (by kernel_rfl)
noncomputable def F80 : Eng.Fn NN := ⟨⟨(Eng.look tys), (lookS [(79, sp79), (116, sp116)]), Eng.look [(3, [1, 5, 6])], Eng.pinIds 0 [.v (.int .u64), .v (.sl (.int .u8))], 0⟩, Eng.bodyOf Go.Proofs.Tryz.f80, [.tmp 4], 26⟩
noncomputable def sp80 : Eng.Spec NN := F80.spec [.v (.int .u64), .v (.sl (.int .u8))] [.v (.int .u64)] 4000000
theorem good80 : Eng.Good prog 80 sp80 := Eng.good_fn (fn := f80) fits (by kernel_rfl) mixed (by kernel_rfl) (.cons good79 (.cons good116 .nil)) (by kernel_rfl) (by kernel_rfl) (by kernel_rfl) (by kernel_rfl) (by kernel_rfl) (by kernel_rfl) (by kernel_rfl) (by kernel_rfl) (by kernel_rfl)
noncomputable def F42 : Eng.Fn NN := ⟨⟨(Eng.look tys), (lookS [(80, sp80), (79, sp79)]), Eng.look [(3, [1, 5, 6]), (4, [1, 5, 6])], Eng.pinIds 0 [.v (.int .u64), .v (.sl (.nm 0))], 0⟩, Eng.bodyOf Go.Proofs.Tryz.f42, [.tmp 4], 57⟩
noncomputable def sp42 : Eng.Spec NN := F42.spec [.v (.int .u64), .v (.sl (.nm 0))] [.v (.int .u64)] 4000000
theorem good42 : Eng.Good prog 42 sp42 := Eng.good_fn (fn := f42) fits (by kernel_rfl) mixed (by kernel_rfl) (.cons good80 (.cons good79 .nil)) (by kernel_rfl) (by kernel_rfl) (by kernel_rfl) (by kernel_rfl) (by kernel_rfl) (by kernel_rfl) (by kernel_rfl) (by kernel_rfl) (by kernel_rfl)
noncomputable def F43 : Eng.Fn NN := ⟨⟨(Eng.look tys), (lookS [(46, sp46)]), Eng.look [(1, [0, 1]), (3, [0, 1, 5, 6])], Eng.pinIds 0 [.v (.sl (.nm 3)), .v (.int .i64)], 0⟩, Eng.bodyOf Go.Proofs.Tryz.f43, [.tmp 4], 23⟩
noncomputable def sp43 : Eng.Spec NN := F43.spec [.v (.sl (.nm 3)), .v (.int .i64)] [.own 23 (.nm 0)] 4000000
theorem good43 : Eng.Good prog 43 sp43 := Eng.good_fn (fn := f43) fits (by kernel_rfl) mixed (by kernel_rfl) (.cons good46 .nil) (by kernel_rfl) (by kernel_rfl) (by kernel_rfl) (by kernel_rfl) (by kernel_rfl) (by kernel_rfl) (by kernel_rfl) (by kernel_rfl) (by kernel_rfl)
noncomputable def F21 : Eng.Fn NN := ⟨⟨(Eng.look tys), (lookS [(42, sp42), (43, sp43)]), Eng.look [(1, [0, 1, 2]), (3, [0, 1, 2, 7, 8])], Eng.pinIds 0 [.v (.int .u64), .v (.sl (.nm 3)), .v (.sl (.int .i64))], 0⟩, Eng.bodyOf Go.Proofs.Tryz.f21, [.tmp 6], 27⟩
noncomputable def sp21 : Eng.Spec NN := F21.spec [.v (.int .u64), .v (.sl (.nm 3)), .v (.sl (.int .i64))] [.own 46 (.int .u64)] 4000000
theorem good21 : Eng.Good prog 21 sp21 := Eng.good_fn (fn := f21) fits (by kernel_rfl) mixed (by kernel_rfl) (.cons good42 (.cons good43 .nil)) (by kernel_rfl) (by kernel_rfl) (by kernel_rfl) (by kernel_rfl) (by kernel_rfl) (by kernel_rfl) (by kernel_rfl) (by kernel_rfl) (by kernel_rfl)
end Go.Proofs.Tryz
