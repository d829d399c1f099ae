/- The functions of the program as the engine follows them (printed by a program of ours): their code, what is known of them, and the equations of their runs. -/
import Derived.Test.YtkbeapecncddkaaL10Base
set_option linter.unusedVariables false
set_option maxRecDepth 20000
namespace Go.Proofs.Try
open Go.Eng
noncomputable def F39 : Eng.Fn NN := ⟨⟨(Eng.look tys), (lookS []), Eng.look [(2, [0, 3])], Eng.pinIds 0 [.v (.int .u64)]⟩, Eng.bodyOf Go.Proofs.Try.f39, [.tmp 2], 19⟩
noncomputable def sp39 : Eng.Spec NN := F39.spec [.v (.int .u64)] [.own 5 (.int .u8)] 4000000
theorem good39 : Eng.Good prog 39 sp39 := Eng.good_fn (fn := f39) fits (by kernel_rfl) mixed (by kernel_rfl) .nil (by kernel_rfl) (by kernel_rfl) (by kernel_rfl) (by kernel_rfl) (by kernel_rfl) (by kernel_rfl) (by kernel_rfl) (by kernel_rfl) (by kernel_rfl)
noncomputable def F60 : Eng.Fn NN := ⟨⟨(Eng.look tys), (lookS []), Eng.look [], Eng.pinIds 0 [.v (.int .i64)]⟩, Eng.bodyOf Go.Proofs.Try.f60, [.tmp 2], 10⟩
noncomputable def sp60 : Eng.Spec NN := F60.spec [.v (.int .i64)] [.v (.int .u64)] 4000000
theorem good60 : Eng.Good prog 60 sp60 := Eng.good_fn (fn := f60) fits (by kernel_rfl) mixed (by kernel_rfl) .nil (by kernel_rfl) (by kernel_rfl) (by kernel_rfl) (by kernel_rfl) (by kernel_rfl) (by kernel_rfl) (by kernel_rfl) (by kernel_rfl) (by kernel_rfl)
noncomputable def F42 : Eng.Fn NN := ⟨⟨(Eng.look tys), (lookS [(39, sp39), (60, sp60)]), Eng.look [(4, [3, 4, 11, 12, 13])], Eng.pinIds 0 [.v (.sl (.nm 1))]⟩, Eng.bodyOf Go.Proofs.Try.f42, [.tmp 2], 35⟩
noncomputable def sp42 : Eng.Spec NN := F42.spec [.v (.sl (.nm 1))] [.own 5 (.int .u8)] 4000000
theorem good42 : Eng.Good prog 42 sp42 := Eng.good_fn (fn := f42) fits (by kernel_rfl) mixed (by kernel_rfl) (.cons good39 (.cons good60 .nil)) (by kernel_rfl) (by kernel_rfl) (by kernel_rfl) (by kernel_rfl) (by kernel_rfl) (by kernel_rfl) (by kernel_rfl) (by kernel_rfl) (by kernel_rfl)
noncomputable def F43 : Eng.Fn NN := ⟨⟨(Eng.look tys), (lookS []), Eng.look [(3, [0, 3, 6, 7, 8]), (7, [0, 3, 5, 6, 7, 8])], Eng.pinIds 0 [.v (.sl (.int .i64))]⟩, Eng.bodyOf Go.Proofs.Try.f43, [.tmp 2], 41⟩
noncomputable def sp43 : Eng.Spec NN := F43.spec [.v (.sl (.int .i64))] [.own 82 (.nm 1)] 4000000
theorem good43 : Eng.Good prog 43 sp43 := Eng.good_fn (fn := f43) fits (by kernel_rfl) mixed (by kernel_rfl) .nil (by kernel_rfl) (by kernel_rfl) (by kernel_rfl) (by kernel_rfl) (by kernel_rfl) (by kernel_rfl) (by kernel_rfl) (by kernel_rfl) (by kernel_rfl)
noncomputable def F58 : Eng.Fn NN := ⟨⟨(Eng.look tys), (lookS []), Eng.look [(1, [0, 2, 3, 5])], Eng.pinIds 0 [.v (.int .u64), .bw (.int .i64), .bw (.int .i64), .bc [.o 5 (.int .u8)]]⟩, Eng.bodyOf Go.Proofs.Try.f58, [], 40⟩
noncomputable def sp58 : Eng.Spec NN := F58.spec [.v (.int .u64), .bw (.int .i64), .bw (.int .i64), .bc [.o 5 (.int .u8)]] [] 4000000
theorem good58 : Eng.Good prog 58 sp58 := Eng.good_fn (fn := f58) fits (by kernel_rfl) mixed (by kernel_rfl) .nil (by kernel_rfl) (by kernel_rfl) (by kernel_rfl) (by kernel_rfl) (by kernel_rfl) (by kernel_rfl) (by kernel_rfl) (by kernel_rfl) (by kernel_rfl)
noncomputable def F56 : Eng.Fn NN := ⟨⟨(Eng.look tys), (lookS []), Eng.look [], Eng.pinIds 0 [.v (.int .i64), .v (.int .i64)]⟩, Eng.bodyOf Go.Proofs.Try.f56, [.tmp 4], 19⟩
noncomputable def sp56 : Eng.Spec NN := F56.spec [.v (.int .i64), .v (.int .i64)] [.v .bool] 4000000
theorem good56 : Eng.Good prog 56 sp56 := Eng.good_fn (fn := f56) fits (by kernel_rfl) mixed (by kernel_rfl) .nil (by kernel_rfl) (by kernel_rfl) (by kernel_rfl) (by kernel_rfl) (by kernel_rfl) (by kernel_rfl) (by kernel_rfl) (by kernel_rfl) (by kernel_rfl)
noncomputable def F57 : Eng.Fn NN := ⟨⟨(Eng.look tys), (lookS [(56, sp56)]), Eng.look [], Eng.pinIds 0 [.v (.int .i64), .v (.int .i64)]⟩, Eng.bodyOf Go.Proofs.Try.f57, [.tmp 4], 14⟩
noncomputable def sp57 : Eng.Spec NN := F57.spec [.v (.int .i64), .v (.int .i64)] [.v (.int .i64)] 4000000
theorem good57 : Eng.Good prog 57 sp57 := Eng.good_fn (fn := f57) fits (by kernel_rfl) mixed (by kernel_rfl) (.cons good56 .nil) (by kernel_rfl) (by kernel_rfl) (by kernel_rfl) (by kernel_rfl) (by kernel_rfl) (by kernel_rfl) (by kernel_rfl) (by kernel_rfl) (by kernel_rfl)
noncomputable def F40 : Eng.Fn NN := ⟨⟨(Eng.look tys), (lookS [(58, sp58), (57, sp57), (56, sp56)]), Eng.look [(7, [0, 5, 7, 21, 22])], Eng.pinIds 0 [.v (.sl (.int .u64)), .v (.int .i64)]⟩, Eng.bodyOf Go.Proofs.Try.f40, [.tmp 4], 33⟩
noncomputable def sp40 : Eng.Spec NN := F40.spec [.v (.sl (.int .u64)), .v (.int .i64)] [.own 5 (.int .u8)] 4000000
theorem good40 : Eng.Good prog 40 sp40 := Eng.good_fn (fn := f40) fits (by kernel_rfl) mixed (by kernel_rfl) (.cons good58 (.cons good57 (.cons good56 .nil))) (by kernel_rfl) (by kernel_rfl) (by kernel_rfl) (by kernel_rfl) (by kernel_rfl) (by kernel_rfl) (by kernel_rfl) (by kernel_rfl) (by kernel_rfl)
noncomputable def F79 : Eng.Fn NN := ⟨⟨(Eng.look tys), (lookS []), Eng.look [(4, [0, 2]), (7, [0, 2]), (10, [0, 2])], Eng.pinIds 0 [.v (.int .u64)]⟩, Eng.bodyOf Go.Proofs.Try.f79, [.tmp 2], 25⟩
noncomputable def sp79 : Eng.Spec NN := F79.spec [.v (.int .u64)] [.v (.int .i64)] 4000000
theorem good79 : Eng.Good prog 79 sp79 := Eng.good_fn (fn := f79) fits (by kernel_rfl) mixed (by kernel_rfl) .nil (by kernel_rfl) (by kernel_rfl) (by kernel_rfl) (by kernel_rfl) (by kernel_rfl) (by kernel_rfl) (by kernel_rfl) (by kernel_rfl) (by kernel_rfl)
noncomputable def F59 : Eng.Fn NN := ⟨⟨(Eng.look tys), (lookS [(79, sp79)]), Eng.look [], Eng.pinIds 0 [.v (.int .u64)]⟩, Eng.bodyOf Go.Proofs.Try.f59, [.tmp 2], 5⟩
noncomputable def sp59 : Eng.Spec NN := F59.spec [.v (.int .u64)] [.v (.int .i64)] 4000000
theorem good59 : Eng.Good prog 59 sp59 := Eng.good_fn (fn := f59) fits (by kernel_rfl) mixed (by kernel_rfl) (.cons good79 .nil) (by kernel_rfl) (by kernel_rfl) (by kernel_rfl) (by kernel_rfl) (by kernel_rfl) (by kernel_rfl) (by kernel_rfl) (by kernel_rfl) (by kernel_rfl)
noncomputable def F41 : Eng.Fn NN := ⟨⟨(Eng.look tys), (lookS [(59, sp59)]), Eng.look [], Eng.pinIds 0 [.v (.int .i64)]⟩, Eng.bodyOf Go.Proofs.Try.f41, [.tmp 2], 9⟩
noncomputable def sp41 : Eng.Spec NN := F41.spec [.v (.int .i64)] [.v (.int .i64)] 4000000
theorem good41 : Eng.Good prog 41 sp41 := Eng.good_fn (fn := f41) fits (by kernel_rfl) mixed (by kernel_rfl) (.cons good59 .nil) (by kernel_rfl) (by kernel_rfl) (by kernel_rfl) (by kernel_rfl) (by kernel_rfl) (by kernel_rfl) (by kernel_rfl) (by kernel_rfl) (by kernel_rfl)
noncomputable def F28 : Eng.Fn NN := ⟨⟨(Eng.look tys), (lookS []), Eng.look [(2, [0, 1, 2, 7, 8])], Eng.pinIds 0 [.v (.sl .str), .v .str, .v .bool]⟩, Eng.bodyOf Go.Proofs.Try.f28, [.tmp 6], 40⟩
noncomputable def sp28 : Eng.Spec NN := F28.spec [.v (.sl .str), .v .str, .v .bool] [.v (.int .i64)] 4000000
theorem good28 : Eng.Good prog 28 sp28 := Eng.good_fn (fn := f28) fits (by kernel_rfl) mixed (by kernel_rfl) .nil (by kernel_rfl) (by kernel_rfl) (by kernel_rfl) (by kernel_rfl) (by kernel_rfl) (by kernel_rfl) (by kernel_rfl) (by kernel_rfl) (by kernel_rfl)
noncomputable def F14 : Eng.Fn NN := ⟨⟨(Eng.look tys), (lookS [(28, sp28)]), Eng.look [], Eng.pinIds 0 [.v (.sl .str), .v .str]⟩, Eng.bodyOf Go.Proofs.Try.f14, [.tmp 4, .tmp 5], 23⟩
noncomputable def sp14 : Eng.Spec NN := F14.spec [.v (.sl .str), .v .str] [.v (.int .i64), .v .bool] 4000000
theorem good14 : Eng.Good prog 14 sp14 := Eng.good_fn (fn := f14) fits (by kernel_rfl) mixed (by kernel_rfl) (.cons good28 .nil) (by kernel_rfl) (by kernel_rfl) (by kernel_rfl) (by kernel_rfl) (by kernel_rfl) (by kernel_rfl) (by kernel_rfl) (by kernel_rfl) (by kernel_rfl)
noncomputable def F27 : Eng.Fn NN := ⟨⟨(Eng.look tys), (lookS [(14, sp14)]), Eng.look [], Eng.pinIds 0 [.v .str, .bc [.o 9 .str]]⟩, Eng.bodyOf Go.Proofs.Try.f27, [.tmp 3], 13⟩
noncomputable def sp27 : Eng.Spec NN := F27.spec [.v .str, .bc [.o 9 .str]] [.v (.int .i64)] 4000000
theorem good27 : Eng.Good prog 27 sp27 := Eng.good_fn (fn := f27) fits (by kernel_rfl) mixed (by kernel_rfl) (.cons good14 .nil) (by kernel_rfl) (by kernel_rfl) (by kernel_rfl) (by kernel_rfl) (by kernel_rfl) (by kernel_rfl) (by kernel_rfl) (by kernel_rfl) (by kernel_rfl)
noncomputable def F92 : Eng.Fn NN := ⟨⟨(Eng.look tys), (lookS []), Eng.look [], Eng.pinIds 0 [.v .str]⟩, Eng.bodyOf Go.Proofs.Try.f92, [.tmp 2], 6⟩
noncomputable def sp92 : Eng.Spec NN := F92.spec [.v .str] [.v .bool] 4000000
theorem good92 : Eng.Good prog 92 sp92 := Eng.good_fn (fn := f92) fits (by kernel_rfl) mixed (by kernel_rfl) .nil (by kernel_rfl) (by kernel_rfl) (by kernel_rfl) (by kernel_rfl) (by kernel_rfl) (by kernel_rfl) (by kernel_rfl) (by kernel_rfl) (by kernel_rfl)
noncomputable def F75 : Eng.Fn NN := ⟨⟨(Eng.look tys), (lookS [(92, sp92)]), Eng.look [], Eng.pinIds 0 [.v .str, .v .str]⟩, Eng.bodyOf Go.Proofs.Try.f75, [.tmp 4], 17⟩
noncomputable def sp75 : Eng.Spec NN := F75.spec [.v .str, .v .str] [.v .bool] 4000000
theorem good75 : Eng.Good prog 75 sp75 := Eng.good_fn (fn := f75) fits (by kernel_rfl) mixed (by kernel_rfl) (.cons good92 .nil) (by kernel_rfl) (by kernel_rfl) (by kernel_rfl) (by kernel_rfl) (by kernel_rfl) (by kernel_rfl) (by kernel_rfl) (by kernel_rfl) (by kernel_rfl)
noncomputable def F69 : Eng.Fn NN := ⟨⟨(Eng.look tys), (lookS [(75, sp75)]), Eng.look [(1, [0, 1, 2, 6]), (4, [0, 1, 2, 6, 7]), (6, [0, 1, 2, 6, 7])], Eng.pinIds 0 [.io 9 .str, .v (.int .i64), .v (.int .i64)]⟩, Eng.bodyOf Go.Proofs.Try.f69, [], 49⟩
noncomputable def sp69 : Eng.Spec NN := F69.spec [.io 9 .str, .v (.int .i64), .v (.int .i64)] [] 4000000
theorem good69 : Eng.Good prog 69 sp69 := Eng.good_fn (fn := f69) fits (by kernel_rfl) mixed (by kernel_rfl) (.cons good75 .nil) (by kernel_rfl) (by kernel_rfl) (by kernel_rfl) (by kernel_rfl) (by kernel_rfl) (by kernel_rfl) (by kernel_rfl) (by kernel_rfl) (by kernel_rfl)
noncomputable def F49 : Eng.Fn NN := ⟨⟨(Eng.look tys), (lookS [(69, sp69)]), Eng.look [(2, [0, 1, 2, 3, 8, 9]), (10, [0, 1, 2, 3, 8, 9, 10]), (15, [0, 1, 2, 3, 8, 9, 10, 11, 12]), (17, [0, 1, 2, 3, 8, 9, 10, 11]), (20, [0, 1, 2, 3, 10, 11])], Eng.pinIds 0 [.io 9 .str, .v (.int .i64), .v (.int .i64), .v (.int .i64)]⟩, Eng.bodyOf Go.Proofs.Try.f49, [], 134⟩
noncomputable def sp49 : Eng.Spec NN := F49.spec [.io 9 .str, .v (.int .i64), .v (.int .i64), .v (.int .i64)] [] 4000000
theorem good49 : Eng.Good prog 49 sp49 := Eng.good_fn (fn := f49) fits (by kernel_rfl) mixed (by kernel_rfl) (.cons good69 .nil) (by kernel_rfl) (by kernel_rfl) (by kernel_rfl) (by kernel_rfl) (by kernel_rfl) (by kernel_rfl) (by kernel_rfl) (by kernel_rfl) (by kernel_rfl)
noncomputable def F78 : Eng.Fn NN := ⟨⟨(Eng.look tys), (lookS []), Eng.look [(4, [0, 2]), (7, [0, 2])], Eng.pinIds 0 [.v (.int .u32)]⟩, Eng.bodyOf Go.Proofs.Try.f78, [.tmp 2], 19⟩
noncomputable def sp78 : Eng.Spec NN := F78.spec [.v (.int .u32)] [.v (.int .i64)] 4000000
theorem good78 : Eng.Good prog 78 sp78 := Eng.good_fn (fn := f78) fits (by kernel_rfl) mixed (by kernel_rfl) .nil (by kernel_rfl) (by kernel_rfl) (by kernel_rfl) (by kernel_rfl) (by kernel_rfl) (by kernel_rfl) (by kernel_rfl) (by kernel_rfl) (by kernel_rfl)
noncomputable def F50 : Eng.Fn NN := ⟨⟨(Eng.look tys), (lookS [(79, sp79), (78, sp78)]), Eng.look [], Eng.pinIds 0 [.v (.int .u64)]⟩, Eng.bodyOf Go.Proofs.Try.f50, [.tmp 2], 8⟩
noncomputable def sp50 : Eng.Spec NN := F50.spec [.v (.int .u64)] [.v (.int .i64)] 4000000
theorem good50 : Eng.Good prog 50 sp50 := Eng.good_fn (fn := f50) fits (by kernel_rfl) mixed (by kernel_rfl) (.cons good79 (.cons good78 .nil)) (by kernel_rfl) (by kernel_rfl) (by kernel_rfl) (by kernel_rfl) (by kernel_rfl) (by kernel_rfl) (by kernel_rfl) (by kernel_rfl) (by kernel_rfl)
noncomputable def F26 : Eng.Fn NN := ⟨⟨(Eng.look tys), (lookS [(49, sp49), (50, sp50)]), Eng.look [], Eng.pinIds 0 [.io 9 .str]⟩, Eng.bodyOf Go.Proofs.Try.f26, [], 11⟩
noncomputable def sp26 : Eng.Spec NN := Eng.sortSpec NN 9
theorem good26f : Eng.Good prog 26 (F26.spec [.io 9 .str] [] 4000000) := Eng.good_fn (fn := f26) fits (by kernel_rfl) mixed (by kernel_rfl) (.cons good49 (.cons good50 .nil)) (by kernel_rfl) (by kernel_rfl) (by kernel_rfl) (by kernel_rfl) (by kernel_rfl) (by kernel_rfl) (by kernel_rfl) (by kernel_rfl) (by kernel_rfl)
theorem good26 : Eng.Good prog 26 sp26 := Eng.good_sort sortCalls good26f (by kernel_rfl)
noncomputable def F10 : Eng.Fn NN := ⟨⟨(Eng.look tys), (lookS [(27, sp27), (26, sp26)]), Eng.look [(3, [0, 2, 3, 4, 11, 12, 13]), (12, [2, 3, 7, 31, 32, 33])], Eng.pinIds 0 [.v (.sl .str)]⟩, Eng.bodyOf Go.Proofs.Try.f10, [.cell 2 22, .tmp 3], 46⟩
noncomputable def sp10 : Eng.Spec NN := F10.spec [.v (.sl .str)] [.own 9 .str, .own 3 (.int .i64)] 4000000
theorem good10 : Eng.Good prog 10 sp10 := Eng.good_fn (fn := f10) fits (by kernel_rfl) mixed (by kernel_rfl) (.cons good27 (.cons good26 .nil)) (by kernel_rfl) (by kernel_rfl) (by kernel_rfl) (by kernel_rfl) (by kernel_rfl) (by kernel_rfl) (by kernel_rfl) (by kernel_rfl) (by kernel_rfl)
noncomputable def F22 : Eng.Fn NN := ⟨⟨(Eng.look tys), (lookS [(42, sp42), (43, sp43), (40, sp40), (41, sp41), (39, sp39), (10, sp10)]), Eng.look [(4, [3, 4, 5, 23, 24, 25]), (12, [3, 5, 8, 9, 39, 40, 41])], Eng.pinIds 0 [.v (.sl .str)]⟩, Eng.bodyOf Go.Proofs.Try.f22, [.tmp 2], 78⟩
noncomputable def sp22 : Eng.Spec NN := F22.spec [.v (.sl .str)] [.own 5 (.int .u8)] 4000000
theorem good22 : Eng.Good prog 22 sp22 := Eng.good_fn (fn := f22) fits (by kernel_rfl) mixed (by kernel_rfl) (.cons good42 (.cons good43 (.cons good40 (.cons good41 (.cons good39 (.cons good10 .nil)))))) (by kernel_rfl) (by kernel_rfl) (by kernel_rfl) (by kernel_rfl) (by kernel_rfl) (by kernel_rfl) (by kernel_rfl) (by kernel_rfl) (by kernel_rfl)
noncomputable def F17 : Eng.Fn NN := ⟨⟨(Eng.look tys), (lookS [(28, sp28)]), Eng.look [], Eng.pinIds 0 [.v (.sl .str), .v (.int .i64), .v .str]⟩, Eng.bodyOf Go.Proofs.Try.f17, [.tmp 6, .tmp 7], 37⟩
noncomputable def sp17 : Eng.Spec NN := F17.spec [.v (.sl .str), .v (.int .i64), .v .str] [.v (.int .i64), .v (.int .i64)] 4000000
theorem good17 : Eng.Good prog 17 sp17 := Eng.good_fn (fn := f17) fits (by kernel_rfl) mixed (by kernel_rfl) (.cons good28 .nil) (by kernel_rfl) (by kernel_rfl) (by kernel_rfl) (by kernel_rfl) (by kernel_rfl) (by kernel_rfl) (by kernel_rfl) (by kernel_rfl) (by kernel_rfl)
noncomputable def F9 : Eng.Fn NN := ⟨⟨(Eng.look tys), (lookS [(22, sp22), (17, sp17), (10, sp10)]), Eng.look [], Eng.pinIds 0 []⟩, Eng.bodyOf Go.Proofs.Try.f9, [.tmp 0], 49⟩
noncomputable def sp9 : Eng.Spec NN := F9.spec [] [.v .bool] 4000000
theorem good9 : Eng.Good prog 9 sp9 := Eng.good_fn (fn := f9) fits (by kernel_rfl) mixed (by kernel_rfl) (.cons good22 (.cons good17 (.cons good10 .nil))) (by kernel_rfl) (by kernel_rfl) (by kernel_rfl) (by kernel_rfl) (by kernel_rfl) (by kernel_rfl) (by kernel_rfl) (by kernel_rfl) (by kernel_rfl)
noncomputable def F15 : Eng.Fn NN := ⟨⟨(Eng.look tys), (lookS []), Eng.look [(2, [0, 1, 6])], Eng.pinIds 0 [.v (.sl .str), .v .str]⟩, Eng.bodyOf Go.Proofs.Try.f15, [.tmp 4, .tmp 5], 20⟩
noncomputable def sp15 : Eng.Spec NN := F15.spec [.v (.sl .str), .v .str] [.v (.int .i64), .v .bool] 4000000
theorem good15 : Eng.Good prog 15 sp15 := Eng.good_fn (fn := f15) fits (by kernel_rfl) mixed (by kernel_rfl) .nil (by kernel_rfl) (by kernel_rfl) (by kernel_rfl) (by kernel_rfl) (by kernel_rfl) (by kernel_rfl) (by kernel_rfl) (by kernel_rfl) (by kernel_rfl)
noncomputable def F13 : Eng.Fn NN := ⟨⟨(Eng.look tys), (lookS []), Eng.look [(4, [0, 1, 5])], Eng.pinIds 0 [.v (.sl (.int .i64)), .v (.sl (.int .i64))]⟩, Eng.bodyOf Go.Proofs.Try.f13, [.tmp 4], 26⟩
noncomputable def sp13 : Eng.Spec NN := F13.spec [.v (.sl (.int .i64)), .v (.sl (.int .i64))] [.v .bool] 4000000
theorem good13 : Eng.Good prog 13 sp13 := Eng.good_fn (fn := f13) fits (by kernel_rfl) mixed (by kernel_rfl) .nil (by kernel_rfl) (by kernel_rfl) (by kernel_rfl) (by kernel_rfl) (by kernel_rfl) (by kernel_rfl) (by kernel_rfl) (by kernel_rfl) (by kernel_rfl)
noncomputable def F12 : Eng.Fn NN := ⟨⟨(Eng.look tys), (lookS []), Eng.look [(4, [0, 1, 5])], Eng.pinIds 0 [.v (.sl .str), .v (.sl .str)]⟩, Eng.bodyOf Go.Proofs.Try.f12, [.tmp 4], 26⟩
noncomputable def sp12 : Eng.Spec NN := F12.spec [.v (.sl .str), .v (.sl .str)] [.v .bool] 4000000
theorem good12 : Eng.Good prog 12 sp12 := Eng.good_fn (fn := f12) fits (by kernel_rfl) mixed (by kernel_rfl) .nil (by kernel_rfl) (by kernel_rfl) (by kernel_rfl) (by kernel_rfl) (by kernel_rfl) (by kernel_rfl) (by kernel_rfl) (by kernel_rfl) (by kernel_rfl)
noncomputable def F11 : Eng.Fn NN := ⟨⟨(Eng.look tys), (lookS [(15, sp15)]), Eng.look [(3, [0, 4, 5]), (6, [0, 4, 5, 6]), (8, [0, 4, 5, 6]), (9, [0, 4, 5, 6]), (11, [0, 4, 5, 6, 7]), (17, [0, 4, 8, 9])], Eng.pinIds 0 [.v (.sl .str)]⟩, Eng.bodyOf Go.Proofs.Try.f11, [.tmp 2, .tmp 3], 97⟩
noncomputable def sp11 : Eng.Spec NN := F11.spec [.v (.sl .str)] [.own 9 .str, .own 3 (.int .i64)] 4000000
theorem good11 : Eng.Good prog 11 sp11 := Eng.good_fn (fn := f11) fits (by kernel_rfl) mixed (by kernel_rfl) (.cons good15 .nil) (by kernel_rfl) (by kernel_rfl) (by kernel_rfl) (by kernel_rfl) (by kernel_rfl) (by kernel_rfl) (by kernel_rfl) (by kernel_rfl) (by kernel_rfl)
noncomputable def F8 : Eng.Fn NN := ⟨⟨(Eng.look tys), (lookS []), Eng.look [(2, [0, 3])], Eng.pinIds 0 [.v (.sl .str)]⟩, Eng.bodyOf Go.Proofs.Try.f8, [.tmp 2], 19⟩
noncomputable def sp8 : Eng.Spec NN := F8.spec [.v (.sl .str)] [.v .bool] 4000000
theorem good8 : Eng.Good prog 8 sp8 := Eng.good_fn (fn := f8) fits (by kernel_rfl) mixed (by kernel_rfl) .nil (by kernel_rfl) (by kernel_rfl) (by kernel_rfl) (by kernel_rfl) (by kernel_rfl) (by kernel_rfl) (by kernel_rfl) (by kernel_rfl) (by kernel_rfl)
noncomputable def F3 : Eng.Fn NN := ⟨⟨(Eng.look tys), (lookS [(9, sp9), (15, sp15), (14, sp14), (13, sp13), (12, sp12), (11, sp11), (10, sp10), (8, sp8)]), Eng.look [(3, [0, 1]), (7, [1, 7])], Eng.pinIds 0 [.v (.sl .str), .v .str]⟩, Eng.bodyOf Go.Proofs.Try.f3, [.tmp 4], 65⟩
noncomputable def sp3 : Eng.Spec NN := F3.spec [.v (.sl .str), .v .str] [.v .bool] 4000000
theorem good3 : Eng.Good prog 3 sp3 := Eng.good_fn (fn := f3) fits (by kernel_rfl) mixed (by kernel_rfl) (.cons good9 (.cons good15 (.cons good14 (.cons good13 (.cons good12 (.cons good11 (.cons good10 (.cons good8 .nil)))))))) (by kernel_rfl) (by kernel_rfl) (by kernel_rfl) (by kernel_rfl) (by kernel_rfl) (by kernel_rfl) (by kernel_rfl) (by kernel_rfl) (by kernel_rfl)
noncomputable def F19 : Eng.Fn NN := ⟨⟨(Eng.look tys), (lookS []), Eng.look [], Eng.pinIds 0 [.v (.nm 0)]⟩, Eng.bodyOf Go.Proofs.Try.f19, [.tmp 2], 11⟩
noncomputable def sp19 : Eng.Spec NN := F19.spec [.v (.nm 0)] [.v .bool] 4000000
theorem good19 : Eng.Good prog 19 sp19 := Eng.good_fn (fn := f19) fits (by kernel_rfl) mixed (by kernel_rfl) .nil (by kernel_rfl) (by kernel_rfl) (by kernel_rfl) (by kernel_rfl) (by kernel_rfl) (by kernel_rfl) (by kernel_rfl) (by kernel_rfl) (by kernel_rfl)
noncomputable def F29 : Eng.Fn NN := ⟨⟨(Eng.look tys), (lookS []), Eng.look [], Eng.pinIds 0 [.v .bool]⟩, Eng.bodyOf Go.Proofs.Try.f29, [.cell 2 37], 6⟩
noncomputable def sp29 : Eng.Spec NN := F29.spec [.v .bool] [.v (.nm 0)] 4000000
theorem good29 : Eng.Good prog 29 sp29 := Eng.good_fn (fn := f29) fits (by kernel_rfl) mixed (by kernel_rfl) .nil (by kernel_rfl) (by kernel_rfl) (by kernel_rfl) (by kernel_rfl) (by kernel_rfl) (by kernel_rfl) (by kernel_rfl) (by kernel_rfl) (by kernel_rfl)
noncomputable def F30 : Eng.Fn NN := ⟨⟨(Eng.look tys), (lookS []), Eng.look [], Eng.pinIds 0 [.v (.int .i64), .v (.int .i64)]⟩, Eng.bodyOf Go.Proofs.Try.f30, [.tmp 4], 30⟩
noncomputable def sp30 : Eng.Spec NN := F30.spec [.v (.int .i64), .v (.int .i64)] [.v .bool] 4000000
theorem good30 : Eng.Good prog 30 sp30 := Eng.good_fn (fn := f30) fits (by kernel_rfl) mixed (by kernel_rfl) .nil (by kernel_rfl) (by kernel_rfl) (by kernel_rfl) (by kernel_rfl) (by kernel_rfl) (by kernel_rfl) (by kernel_rfl) (by kernel_rfl) (by kernel_rfl)
noncomputable def F51 : Eng.Fn NN := ⟨⟨(Eng.look tys), (lookS []), Eng.look [], Eng.pinIds 0 [.v .bool, .v .bool]⟩, Eng.bodyOf Go.Proofs.Try.f51, [.tmp 4], 7⟩
noncomputable def sp51 : Eng.Spec NN := F51.spec [.v .bool, .v .bool] [.v (.int .i64)] 4000000
theorem good51 : Eng.Good prog 51 sp51 := Eng.good_fn (fn := f51) fits (by kernel_rfl) mixed (by kernel_rfl) .nil (by kernel_rfl) (by kernel_rfl) (by kernel_rfl) (by kernel_rfl) (by kernel_rfl) (by kernel_rfl) (by kernel_rfl) (by kernel_rfl) (by kernel_rfl)
noncomputable def F31 : Eng.Fn NN := ⟨⟨(Eng.look tys), (lookS [(51, sp51)]), Eng.look [], Eng.pinIds 0 [.v (.nm 0), .v (.nm 0)]⟩, Eng.bodyOf Go.Proofs.Try.f31, [.tmp 4], 41⟩
noncomputable def sp31 : Eng.Spec NN := F31.spec [.v (.nm 0), .v (.nm 0)] [.v (.int .i64)] 4000000
theorem good31 : Eng.Good prog 31 sp31 := Eng.good_fn (fn := f31) fits (by kernel_rfl) mixed (by kernel_rfl) (.cons good51 .nil) (by kernel_rfl) (by kernel_rfl) (by kernel_rfl) (by kernel_rfl) (by kernel_rfl) (by kernel_rfl) (by kernel_rfl) (by kernel_rfl) (by kernel_rfl)
noncomputable def F20 : Eng.Fn NN := ⟨⟨(Eng.look tys), (lookS [(29, sp29), (30, sp30), (31, sp31)]), Eng.look [(3, [0, 4, 5, 6])], Eng.pinIds 0 [.v (.int .i64), .v (.nm 0), .v (.nm 0)]⟩, Eng.bodyOf Go.Proofs.Try.f20, [.cell 6 37], 32⟩
noncomputable def sp20 : Eng.Spec NN := F20.spec [.v (.int .i64), .v (.nm 0), .v (.nm 0)] [.v (.nm 0)] 4000000
theorem good20 : Eng.Good prog 20 sp20 := Eng.good_fn (fn := f20) fits (by kernel_rfl) mixed (by kernel_rfl) (.cons good29 (.cons good30 (.cons good31 .nil))) (by kernel_rfl) (by kernel_rfl) (by kernel_rfl) (by kernel_rfl) (by kernel_rfl) (by kernel_rfl) (by kernel_rfl) (by kernel_rfl) (by kernel_rfl)
noncomputable def F18 : Eng.Fn NN := ⟨⟨(Eng.look tys), (lookS []), Eng.look [(3, [0, 1, 2, 8, 9, 10]), (7, [0, 1, 2, 8, 9, 10])], Eng.pinIds 0 [.v (.sl .str), .v (.int .i64), .v .str]⟩, Eng.bodyOf Go.Proofs.Try.f18, [.tmp 6, .tmp 7], 54⟩
noncomputable def sp18 : Eng.Spec NN := F18.spec [.v (.sl .str), .v (.int .i64), .v .str] [.v (.int .i64), .v (.int .i64)] 4000000
theorem good18 : Eng.Good prog 18 sp18 := Eng.good_fn (fn := f18) fits (by kernel_rfl) mixed (by kernel_rfl) .nil (by kernel_rfl) (by kernel_rfl) (by kernel_rfl) (by kernel_rfl) (by kernel_rfl) (by kernel_rfl) (by kernel_rfl) (by kernel_rfl) (by kernel_rfl)
noncomputable def F16 : Eng.Fn NN := ⟨⟨(Eng.look tys), (lookS []), Eng.look [(2, [0, 3])], Eng.pinIds 0 [.v (.sl .str)]⟩, Eng.bodyOf Go.Proofs.Try.f16, [.tmp 2], 20⟩
noncomputable def sp16 : Eng.Spec NN := F16.spec [.v (.sl .str)] [.v .bool] 4000000
theorem good16 : Eng.Good prog 16 sp16 := Eng.good_fn (fn := f16) fits (by kernel_rfl) mixed (by kernel_rfl) .nil (by kernel_rfl) (by kernel_rfl) (by kernel_rfl) (by kernel_rfl) (by kernel_rfl) (by kernel_rfl) (by kernel_rfl) (by kernel_rfl) (by kernel_rfl)
noncomputable def F4 : Eng.Fn NN := ⟨⟨(Eng.look tys), (lookS [(9, sp9), (19, sp19), (20, sp20), (18, sp18), (17, sp17), (16, sp16), (8, sp8)]), Eng.look [(3, [0, 1, 2]), (7, [0, 1, 2, 7, 8]), (8, [0, 1, 2, 7, 8, 11]), (10, [0, 1, 2, 7, 8, 11]), (13, [])], Eng.pinIds 0 [.v (.sl .str), .v (.int .i64), .v .str]⟩, Eng.bodyOf Go.Proofs.Try.f4, [.tmp 6], 88⟩
noncomputable def sp4 : Eng.Spec NN := F4.spec [.v (.sl .str), .v (.int .i64), .v .str] [.v .bool] 4000000
theorem good4 : Eng.Good prog 4 sp4 := Eng.good_fn (fn := f4) fits (by kernel_rfl) mixed (by kernel_rfl) (.cons good9 (.cons good19 (.cons good20 (.cons good18 (.cons good17 (.cons good16 (.cons good8 .nil))))))) (by kernel_rfl) (by kernel_rfl) (by kernel_rfl) (by kernel_rfl) (by kernel_rfl) (by kernel_rfl) (by kernel_rfl) (by kernel_rfl) (by kernel_rfl)
noncomputable def F23 : Eng.Fn NN := ⟨⟨(Eng.look tys), (lookS [(22, sp22)]), Eng.look [], Eng.pinIds 0 [.v (.sl .str)]⟩, Eng.bodyOf Go.Proofs.Try.f23, [.tmp 2], 6⟩
noncomputable def sp23 : Eng.Spec NN := F23.spec [.v (.sl .str)] [.v (.int .i64)] 4000000
theorem good23 : Eng.Good prog 23 sp23 := Eng.good_fn (fn := f23) fits (by kernel_rfl) mixed (by kernel_rfl) (.cons good22 .nil) (by kernel_rfl) (by kernel_rfl) (by kernel_rfl) (by kernel_rfl) (by kernel_rfl) (by kernel_rfl) (by kernel_rfl) (by kernel_rfl) (by kernel_rfl)
noncomputable def F38 : Eng.Fn NN := ⟨⟨(Eng.look tys), (lookS []), Eng.look [(3, [0, 3, 4]), (6, [0, 3, 4, 5])], Eng.pinIds 0 [.v (.sl (.sl (.int .u8)))]⟩, Eng.bodyOf Go.Proofs.Try.f38, [.tmp 2], 32⟩
noncomputable def sp38 : Eng.Spec NN := F38.spec [.v (.sl (.sl (.int .u8)))] [.own 5 (.int .u8)] 4000000
theorem good38 : Eng.Good prog 38 sp38 := Eng.good_fn (fn := f38) fits (by kernel_rfl) mixed (by kernel_rfl) .nil (by kernel_rfl) (by kernel_rfl) (by kernel_rfl) (by kernel_rfl) (by kernel_rfl) (by kernel_rfl) (by kernel_rfl) (by kernel_rfl) (by kernel_rfl)
noncomputable def F32 : Eng.Fn NN := ⟨⟨(Eng.look tys), (lookS []), Eng.look [(2, [0, 3])], Eng.pinIds 0 [.v (.int .u64)]⟩, Eng.bodyOf Go.Proofs.Try.f32, [.tmp 2], 20⟩
noncomputable def sp32 : Eng.Spec NN := F32.spec [.v (.int .u64)] [.own 5 (.int .u8)] 4000000
theorem good32 : Eng.Good prog 32 sp32 := Eng.good_fn (fn := f32) fits (by kernel_rfl) mixed (by kernel_rfl) .nil (by kernel_rfl) (by kernel_rfl) (by kernel_rfl) (by kernel_rfl) (by kernel_rfl) (by kernel_rfl) (by kernel_rfl) (by kernel_rfl) (by kernel_rfl)
noncomputable def F55 : Eng.Fn NN := ⟨⟨(Eng.look tys), (lookS []), Eng.look [], Eng.pinIds 0 [.v (.int .i64)]⟩, Eng.bodyOf Go.Proofs.Try.f55, [.tmp 2], 14⟩
noncomputable def sp55 : Eng.Spec NN := F55.spec [.v (.int .i64)] [.v (.int .u64)] 4000000
theorem good55 : Eng.Good prog 55 sp55 := Eng.good_fn (fn := f55) fits (by kernel_rfl) mixed (by kernel_rfl) .nil (by kernel_rfl) (by kernel_rfl) (by kernel_rfl) (by kernel_rfl) (by kernel_rfl) (by kernel_rfl) (by kernel_rfl) (by kernel_rfl) (by kernel_rfl)
noncomputable def F36 : Eng.Fn NN := ⟨⟨(Eng.look tys), (lookS [(38, sp38), (32, sp32), (55, sp55)]), Eng.look [(4, [0, 3, 4, 5])], Eng.pinIds 0 [.v (.sl (.nm 1))]⟩, Eng.bodyOf Go.Proofs.Try.f36, [.tmp 2], 46⟩
noncomputable def sp36 : Eng.Spec NN := F36.spec [.v (.sl (.nm 1))] [.own 5 (.int .u8)] 4000000
theorem good36 : Eng.Good prog 36 sp36 := Eng.good_fn (fn := f36) fits (by kernel_rfl) mixed (by kernel_rfl) (.cons good38 (.cons good32 (.cons good55 .nil))) (by kernel_rfl) (by kernel_rfl) (by kernel_rfl) (by kernel_rfl) (by kernel_rfl) (by kernel_rfl) (by kernel_rfl) (by kernel_rfl) (by kernel_rfl)
noncomputable def F37 : Eng.Fn NN := ⟨⟨(Eng.look tys), (lookS []), Eng.look [(3, [0, 3, 4]), (4, [0, 3, 4])], Eng.pinIds 0 [.v (.sl (.int .i64))]⟩, Eng.bodyOf Go.Proofs.Try.f37, [.tmp 2], 47⟩
noncomputable def sp37 : Eng.Spec NN := F37.spec [.v (.sl (.int .i64))] [.own 82 (.nm 1)] 4000000
theorem good37 : Eng.Good prog 37 sp37 := Eng.good_fn (fn := f37) fits (by kernel_rfl) mixed (by kernel_rfl) .nil (by kernel_rfl) (by kernel_rfl) (by kernel_rfl) (by kernel_rfl) (by kernel_rfl) (by kernel_rfl) (by kernel_rfl) (by kernel_rfl) (by kernel_rfl)
noncomputable def F52 : Eng.Fn NN := ⟨⟨(Eng.look tys), (lookS []), Eng.look [], Eng.pinIds 0 [.v (.int .i64), .v (.int .i64)]⟩, Eng.bodyOf Go.Proofs.Try.f52, [.tmp 4], 19⟩
noncomputable def sp52 : Eng.Spec NN := F52.spec [.v (.int .i64), .v (.int .i64)] [.v .bool] 4000000
theorem good52 : Eng.Good prog 52 sp52 := Eng.good_fn (fn := f52) fits (by kernel_rfl) mixed (by kernel_rfl) .nil (by kernel_rfl) (by kernel_rfl) (by kernel_rfl) (by kernel_rfl) (by kernel_rfl) (by kernel_rfl) (by kernel_rfl) (by kernel_rfl) (by kernel_rfl)
noncomputable def F53 : Eng.Fn NN := ⟨⟨(Eng.look tys), (lookS [(52, sp52)]), Eng.look [], Eng.pinIds 0 [.v (.int .i64), .v (.int .i64)]⟩, Eng.bodyOf Go.Proofs.Try.f53, [.tmp 4], 14⟩
noncomputable def sp53 : Eng.Spec NN := F53.spec [.v (.int .i64), .v (.int .i64)] [.v (.int .i64)] 4000000
theorem good53 : Eng.Good prog 53 sp53 := Eng.good_fn (fn := f53) fits (by kernel_rfl) mixed (by kernel_rfl) (.cons good52 .nil) (by kernel_rfl) (by kernel_rfl) (by kernel_rfl) (by kernel_rfl) (by kernel_rfl) (by kernel_rfl) (by kernel_rfl) (by kernel_rfl) (by kernel_rfl)
noncomputable def F34 : Eng.Fn NN := ⟨⟨(Eng.look tys), (lookS [(53, sp53), (52, sp52)]), Eng.look [(5, [0, 1, 5, 6]), (8, [0, 1, 5, 6, 7])], Eng.pinIds 0 [.v (.sl (.int .u64)), .v (.int .i64)]⟩, Eng.bodyOf Go.Proofs.Try.f34, [.tmp 4], 58⟩
noncomputable def sp34 : Eng.Spec NN := F34.spec [.v (.sl (.int .u64)), .v (.int .i64)] [.own 5 (.int .u8)] 4000000
theorem good34 : Eng.Good prog 34 sp34 := Eng.good_fn (fn := f34) fits (by kernel_rfl) mixed (by kernel_rfl) (.cons good53 (.cons good52 .nil)) (by kernel_rfl) (by kernel_rfl) (by kernel_rfl) (by kernel_rfl) (by kernel_rfl) (by kernel_rfl) (by kernel_rfl) (by kernel_rfl) (by kernel_rfl)
noncomputable def F54 : Eng.Fn NN := ⟨⟨(Eng.look tys), (lookS []), Eng.look [(2, [0, 3])], Eng.pinIds 0 [.v (.int .u64)]⟩, Eng.bodyOf Go.Proofs.Try.f54, [.tmp 2], 11⟩
noncomputable def sp54 : Eng.Spec NN := F54.spec [.v (.int .u64)] [.v (.int .i64)] 4000000
theorem good54 : Eng.Good prog 54 sp54 := Eng.good_fn (fn := f54) fits (by kernel_rfl) mixed (by kernel_rfl) .nil (by kernel_rfl) (by kernel_rfl) (by kernel_rfl) (by kernel_rfl) (by kernel_rfl) (by kernel_rfl) (by kernel_rfl) (by kernel_rfl) (by kernel_rfl)
noncomputable def F35 : Eng.Fn NN := ⟨⟨(Eng.look tys), (lookS [(54, sp54)]), Eng.look [], Eng.pinIds 0 [.v (.int .i64)]⟩, Eng.bodyOf Go.Proofs.Try.f35, [.tmp 2], 9⟩
noncomputable def sp35 : Eng.Spec NN := F35.spec [.v (.int .i64)] [.v (.int .i64)] 4000000
theorem good35 : Eng.Good prog 35 sp35 := Eng.good_fn (fn := f35) fits (by kernel_rfl) mixed (by kernel_rfl) (.cons good54 .nil) (by kernel_rfl) (by kernel_rfl) (by kernel_rfl) (by kernel_rfl) (by kernel_rfl) (by kernel_rfl) (by kernel_rfl) (by kernel_rfl) (by kernel_rfl)
noncomputable def F33 : Eng.Fn NN := ⟨⟨(Eng.look tys), (lookS [(38, sp38), (32, sp32)]), Eng.look [], Eng.pinIds 0 [.v .str]⟩, Eng.bodyOf Go.Proofs.Try.f33, [.tmp 2], 11⟩
noncomputable def sp33 : Eng.Spec NN := F33.spec [.v .str] [.own 5 (.int .u8)] 4000000
theorem good33 : Eng.Good prog 33 sp33 := Eng.good_fn (fn := f33) fits (by kernel_rfl) mixed (by kernel_rfl) (.cons good38 (.cons good32 .nil)) (by kernel_rfl) (by kernel_rfl) (by kernel_rfl) (by kernel_rfl) (by kernel_rfl) (by kernel_rfl) (by kernel_rfl) (by kernel_rfl) (by kernel_rfl)
noncomputable def F21 : Eng.Fn NN := ⟨⟨(Eng.look tys), (lookS [(38, sp38), (36, sp36), (37, sp37), (34, sp34), (35, sp35), (33, sp33), (32, sp32), (11, sp11)]), Eng.look [(4, [3, 4, 5, 6]), (10, [3, 4, 5, 7, 8, 9])], Eng.pinIds 0 [.v (.sl .str)]⟩, Eng.bodyOf Go.Proofs.Try.f21, [.tmp 2], 88⟩
noncomputable def sp21 : Eng.Spec NN := F21.spec [.v (.sl .str)] [.own 5 (.int .u8)] 4000000
theorem good21 : Eng.Good prog 21 sp21 := Eng.good_fn (fn := f21) fits (by kernel_rfl) mixed (by kernel_rfl) (.cons good38 (.cons good36 (.cons good37 (.cons good34 (.cons good35 (.cons good33 (.cons good32 (.cons good11 .nil)))))))) (by kernel_rfl) (by kernel_rfl) (by kernel_rfl) (by kernel_rfl) (by kernel_rfl) (by kernel_rfl) (by kernel_rfl) (by kernel_rfl) (by kernel_rfl)
noncomputable def F5 : Eng.Fn NN := ⟨⟨(Eng.look tys), (lookS [(9, sp9), (23, sp23), (22, sp22), (21, sp21), (8, sp8)]), Eng.look [], Eng.pinIds 0 [.v (.sl .str)]⟩, Eng.bodyOf Go.Proofs.Try.f5, [.tmp 2], 26⟩
noncomputable def sp5 : Eng.Spec NN := F5.spec [.v (.sl .str)] [.v .bool] 4000000
theorem good5 : Eng.Good prog 5 sp5 := Eng.good_fn (fn := f5) fits (by kernel_rfl) mixed (by kernel_rfl) (.cons good9 (.cons good23 (.cons good22 (.cons good21 (.cons good8 .nil))))) (by kernel_rfl) (by kernel_rfl) (by kernel_rfl) (by kernel_rfl) (by kernel_rfl) (by kernel_rfl) (by kernel_rfl) (by kernel_rfl) (by kernel_rfl)
noncomputable def F86 : Eng.Fn NN := ⟨⟨(Eng.look tys), (lookS []), Eng.look [(3, [0, 3, 4]), (7, [0, 3, 4])], Eng.pinIds 0 [.v (.sl (.nm 1))]⟩, Eng.bodyOf Go.Proofs.Try.f86, [.tmp 2], 51⟩
noncomputable def sp86 : Eng.Spec NN := F86.spec [.v (.sl (.nm 1))] [.v .bool] 4000000
theorem good86 : Eng.Good prog 86 sp86 := Eng.good_fn (fn := f86) fits (by kernel_rfl) mixed (by kernel_rfl) .nil (by kernel_rfl) (by kernel_rfl) (by kernel_rfl) (by kernel_rfl) (by kernel_rfl) (by kernel_rfl) (by kernel_rfl) (by kernel_rfl) (by kernel_rfl)
noncomputable def F68 : Eng.Fn NN := ⟨⟨(Eng.look tys), (lookS [(86, sp86)]), Eng.look [(1, [0]), (5, [0, 4, 5]), (8, [0, 4, 5, 6])], Eng.pinIds 0 [.v (.sl (.nm 1))]⟩, Eng.bodyOf Go.Proofs.Try.f68, [.tmp 2, .tmp 3], 34⟩
noncomputable def sp68 : Eng.Spec NN := F68.spec [.v (.sl (.nm 1))] [.own 2 (.int .i64), .v (.int .i64)] 4000000
theorem good68 : Eng.Good prog 68 sp68 := Eng.good_fn (fn := f68) fits (by kernel_rfl) mixed (by kernel_rfl) (.cons good86 .nil) (by kernel_rfl) (by kernel_rfl) (by kernel_rfl) (by kernel_rfl) (by kernel_rfl) (by kernel_rfl) (by kernel_rfl) (by kernel_rfl) (by kernel_rfl)
noncomputable def F85 : Eng.Fn NN := ⟨⟨(Eng.look tys), (lookS []), Eng.look [], Eng.pinIds 0 [.v (.int .u64)]⟩, Eng.bodyOf Go.Proofs.Try.f85, [.tmp 2], 14⟩
noncomputable def sp85 : Eng.Spec NN := F85.spec [.v (.int .u64)] [.v (.int .i64)] 4000000
theorem good85 : Eng.Good prog 85 sp85 := Eng.good_fn (fn := f85) fits (by kernel_rfl) mixed (by kernel_rfl) .nil (by kernel_rfl) (by kernel_rfl) (by kernel_rfl) (by kernel_rfl) (by kernel_rfl) (by kernel_rfl) (by kernel_rfl) (by kernel_rfl) (by kernel_rfl)
noncomputable def F65 : Eng.Fn NN := ⟨⟨(Eng.look tys), (lookS []), Eng.look [(3, [0, 1]), (6, [0, 1, 7, 8, 9]), (11, [0, 1, 7, 8, 9, 10])], Eng.pinIds 0 [.v (.sl (.int .u8)), .v (.int .i64)]⟩, Eng.bodyOf Go.Proofs.Try.f65, [.tmp 4, .tmp 5, .tmp 6], 63⟩
noncomputable def sp65 : Eng.Spec NN := F65.spec [.v (.sl (.int .u8)), .v (.int .i64)] [.v (.int .u64), .v (.int .i64), .v (.int .i64)] 4000000
theorem good65 : Eng.Good prog 65 sp65 := Eng.good_fn (fn := f65) fits (by kernel_rfl) mixed (by kernel_rfl) .nil (by kernel_rfl) (by kernel_rfl) (by kernel_rfl) (by kernel_rfl) (by kernel_rfl) (by kernel_rfl) (by kernel_rfl) (by kernel_rfl) (by kernel_rfl)
noncomputable def F67 : Eng.Fn NN := ⟨⟨(Eng.look tys), (lookS [(85, sp85), (65, sp65)]), Eng.look [(1, [0, 1]), (10, [0, 7, 8, 10, 11, 12, 13]), (17, [0, 7, 10, 11, 12, 13, 14, 15]), (22, [0, 7, 10, 11, 12, 13, 14, 17, 18])], Eng.pinIds 0 [.v (.sl (.int .u8)), .v (.int .i64)]⟩, Eng.bodyOf Go.Proofs.Try.f67, [.tmp 4, .tmp 5, .tmp 6], 88⟩
noncomputable def sp67 : Eng.Spec NN := F67.spec [.v (.sl (.int .u8)), .v (.int .i64)] [.own 82 (.nm 1), .v (.int .i64), .v (.int .i64)] 4000000
theorem good67 : Eng.Good prog 67 sp67 := Eng.good_fn (fn := f67) fits (by kernel_rfl) mixed (by kernel_rfl) (.cons good85 (.cons good65 .nil)) (by kernel_rfl) (by kernel_rfl) (by kernel_rfl) (by kernel_rfl) (by kernel_rfl) (by kernel_rfl) (by kernel_rfl) (by kernel_rfl) (by kernel_rfl)
noncomputable def F83 : Eng.Fn NN := ⟨⟨(Eng.look tys), (lookS []), Eng.look [], Eng.pinIds 0 [.v (.sl (.int .u8)), .v (.int .i64)]⟩, Eng.bodyOf Go.Proofs.Try.f83, [.tmp 4], 16⟩
noncomputable def sp83 : Eng.Spec NN := F83.spec [.v (.sl (.int .u8)), .v (.int .i64)] [.v (.int .u64)] 4000000
theorem good83 : Eng.Good prog 83 sp83 := Eng.good_fn (fn := f83) fits (by kernel_rfl) mixed (by kernel_rfl) .nil (by kernel_rfl) (by kernel_rfl) (by kernel_rfl) (by kernel_rfl) (by kernel_rfl) (by kernel_rfl) (by kernel_rfl) (by kernel_rfl) (by kernel_rfl)
noncomputable def F84 : Eng.Fn NN := ⟨⟨(Eng.look tys), (lookS [(83, sp83)]), Eng.look [(3, [0, 1, 2, 7, 8])], Eng.pinIds 0 [.v (.sl (.int .u8)), .v (.int .i64), .v (.int .i64)]⟩, Eng.bodyOf Go.Proofs.Try.f84, [.tmp 6], 27⟩
noncomputable def sp84 : Eng.Spec NN := F84.spec [.v (.sl (.int .u8)), .v (.int .i64), .v (.int .i64)] [.v (.int .u64)] 4000000
theorem good84 : Eng.Good prog 84 sp84 := Eng.good_fn (fn := f84) fits (by kernel_rfl) mixed (by kernel_rfl) (.cons good83 .nil) (by kernel_rfl) (by kernel_rfl) (by kernel_rfl) (by kernel_rfl) (by kernel_rfl) (by kernel_rfl) (by kernel_rfl) (by kernel_rfl) (by kernel_rfl)
noncomputable def F66 : Eng.Fn NN := ⟨⟨(Eng.look tys), (lookS [(84, sp84), (83, sp83), (53, sp53), (52, sp52)]), Eng.look [(1, [0, 1, 2]), (8, [0, 1, 2, 8]), (14, [0, 1, 2, 9, 10])], Eng.pinIds 0 [.v (.sl (.int .u8)), .v (.int .i64), .v (.int .i64)]⟩, Eng.bodyOf Go.Proofs.Try.f66, [.tmp 6, .tmp 7], 54⟩
noncomputable def sp66 : Eng.Spec NN := F66.spec [.v (.sl (.int .u8)), .v (.int .i64), .v (.int .i64)] [.own 58 (.int .u64), .v (.int .i64)] 4000000
theorem good66 : Eng.Good prog 66 sp66 := Eng.good_fn (fn := f66) fits (by kernel_rfl) mixed (by kernel_rfl) (.cons good84 (.cons good83 (.cons good53 (.cons good52 .nil)))) (by kernel_rfl) (by kernel_rfl) (by kernel_rfl) (by kernel_rfl) (by kernel_rfl) (by kernel_rfl) (by kernel_rfl) (by kernel_rfl) (by kernel_rfl)
noncomputable def F48 : Eng.Fn NN := ⟨⟨(Eng.look tys), (lookS [(68, sp68), (67, sp67), (66, sp66), (35, sp35), (53, sp53)]), Eng.look [(1, [0, 1, 2, 3]), (19, [15, 17, 19, 20])], Eng.pinIds 0 [.v (.sl (.int .u8)), .v (.int .i64), .v (.int .i64), .v (.int .i64)]⟩, Eng.bodyOf Go.Proofs.Try.f48, [.tmp 8, .tmp 9, .tmp 10], 103⟩
noncomputable def sp48 : Eng.Spec NN := F48.spec [.v (.sl (.int .u8)), .v (.int .i64), .v (.int .i64), .v (.int .i64)] [.own 58 (.int .u64), .v (.int .i64), .v (.int .i64)] 4000000
theorem good48 : Eng.Good prog 48 sp48 := Eng.good_fn (fn := f48) fits (by kernel_rfl) mixed (by kernel_rfl) (.cons good68 (.cons good67 (.cons good66 (.cons good35 (.cons good53 .nil))))) (by kernel_rfl) (by kernel_rfl) (by kernel_rfl) (by kernel_rfl) (by kernel_rfl) (by kernel_rfl) (by kernel_rfl) (by kernel_rfl) (by kernel_rfl)
noncomputable def F47 : Eng.Fn NN := ⟨⟨(Eng.look tys), (lookS [(65, sp65)]), Eng.look [(1, [0, 1, 2]), (8, [0, 9, 10, 12, 13]), (20, [0, 9, 12, 13, 14, 15, 17])], Eng.pinIds 0 [.v (.sl (.int .u8)), .v (.int .i64), .v (.int .i64)]⟩, Eng.bodyOf Go.Proofs.Try.f47, [.tmp 6, .tmp 7, .tmp 8], 86⟩
noncomputable def sp47 : Eng.Spec NN := F47.spec [.v (.sl (.int .u8)), .v (.int .i64), .v (.int .i64)] [.own 9 .str, .v (.int .i64), .v (.int .i64)] 4000000
theorem good47 : Eng.Good prog 47 sp47 := Eng.good_fn (fn := f47) fits (by kernel_rfl) mixed (by kernel_rfl) (.cons good65 .nil) (by kernel_rfl) (by kernel_rfl) (by kernel_rfl) (by kernel_rfl) (by kernel_rfl) (by kernel_rfl) (by kernel_rfl) (by kernel_rfl) (by kernel_rfl)
noncomputable def F25 : Eng.Fn NN := ⟨⟨(Eng.look tys), (lookS [(21, sp21), (48, sp48), (47, sp47)]), Eng.look [(1, [0, 1, 2]), (3, [0, 1, 2]), (11, [0, 1, 9, 12, 13, 15, 16])], Eng.pinIds 0 [.v (.sl (.int .u8)), .v (.int .i64), .v (.int .i64)]⟩, Eng.bodyOf Go.Proofs.Try.f25, [.tmp 6, .tmp 7, .tmp 8], 92⟩
noncomputable def sp25 : Eng.Spec NN := F25.spec [.v (.sl (.int .u8)), .v (.int .i64), .v (.int .i64)] [.own 9 .str, .v (.int .i64), .v (.int .i64)] 4000000
theorem good25 : Eng.Good prog 25 sp25 := Eng.good_fn (fn := f25) fits (by kernel_rfl) mixed (by kernel_rfl) (.cons good21 (.cons good48 (.cons good47 .nil))) (by kernel_rfl) (by kernel_rfl) (by kernel_rfl) (by kernel_rfl) (by kernel_rfl) (by kernel_rfl) (by kernel_rfl) (by kernel_rfl) (by kernel_rfl)
noncomputable def F82 : Eng.Fn NN := ⟨⟨(Eng.look tys), (lookS []), Eng.look [(3, [0, 3, 6, 7, 8]), (7, [0, 3, 5, 6, 7, 8])], Eng.pinIds 0 [.v (.sl (.nm 1))]⟩, Eng.bodyOf Go.Proofs.Try.f82, [.tmp 2], 43⟩
noncomputable def sp82 : Eng.Spec NN := F82.spec [.v (.sl (.nm 1))] [.v .bool] 4000000
theorem good82 : Eng.Good prog 82 sp82 := Eng.good_fn (fn := f82) fits (by kernel_rfl) mixed (by kernel_rfl) .nil (by kernel_rfl) (by kernel_rfl) (by kernel_rfl) (by kernel_rfl) (by kernel_rfl) (by kernel_rfl) (by kernel_rfl) (by kernel_rfl) (by kernel_rfl)
noncomputable def F64 : Eng.Fn NN := ⟨⟨(Eng.look tys), (lookS [(82, sp82)]), Eng.look [(1, [0]), (5, [4, 10, 11, 12]), (8, [4, 6, 10, 11, 12, 17, 18])], Eng.pinIds 0 [.v (.sl (.nm 1))]⟩, Eng.bodyOf Go.Proofs.Try.f64, [.tmp 2, .tmp 3], 28⟩
noncomputable def sp64 : Eng.Spec NN := F64.spec [.v (.sl (.nm 1))] [.own 2 (.int .i64), .v (.int .i64)] 4000000
theorem good64 : Eng.Good prog 64 sp64 := Eng.good_fn (fn := f64) fits (by kernel_rfl) mixed (by kernel_rfl) (.cons good82 .nil) (by kernel_rfl) (by kernel_rfl) (by kernel_rfl) (by kernel_rfl) (by kernel_rfl) (by kernel_rfl) (by kernel_rfl) (by kernel_rfl) (by kernel_rfl)
noncomputable def F81 : Eng.Fn NN := ⟨⟨(Eng.look tys), (lookS []), Eng.look [], Eng.pinIds 0 [.v (.int .u64)]⟩, Eng.bodyOf Go.Proofs.Try.f81, [.tmp 2], 11⟩
noncomputable def sp81 : Eng.Spec NN := F81.spec [.v (.int .u64)] [.v (.int .i64)] 4000000
theorem good81 : Eng.Good prog 81 sp81 := Eng.good_fn (fn := f81) fits (by kernel_rfl) mixed (by kernel_rfl) .nil (by kernel_rfl) (by kernel_rfl) (by kernel_rfl) (by kernel_rfl) (by kernel_rfl) (by kernel_rfl) (by kernel_rfl) (by kernel_rfl) (by kernel_rfl)
noncomputable def F61 : Eng.Fn NN := ⟨⟨(Eng.look tys), (lookS []), Eng.look [(3, [0, 1]), (5, [0, 1, 7, 18]), (12, [0, 1, 7, 8, 9, 18]), (16, [1, 7, 8])], Eng.pinIds 0 [.v (.sl (.int .u8)), .v (.int .i64)]⟩, Eng.bodyOf Go.Proofs.Try.f61, [.tmp 4, .tmp 5, .tmp 6], 61⟩
noncomputable def sp61 : Eng.Spec NN := F61.spec [.v (.sl (.int .u8)), .v (.int .i64)] [.v (.int .u64), .v (.int .i64), .v (.int .i64)] 4000000
theorem good61 : Eng.Good prog 61 sp61 := Eng.good_fn (fn := f61) fits (by kernel_rfl) mixed (by kernel_rfl) .nil (by kernel_rfl) (by kernel_rfl) (by kernel_rfl) (by kernel_rfl) (by kernel_rfl) (by kernel_rfl) (by kernel_rfl) (by kernel_rfl) (by kernel_rfl)
noncomputable def F63 : Eng.Fn NN := ⟨⟨(Eng.look tys), (lookS [(81, sp81), (61, sp61)]), Eng.look [(1, [0, 1]), (9, [0, 8, 9, 10, 11, 12, 29, 30]), (16, [0, 8, 10, 11, 12, 14, 29, 30]), (20, [0, 8, 9, 10, 11, 12, 14, 15, 29, 30]), (24, [8, 9, 10])], Eng.pinIds 0 [.v (.sl (.int .u8)), .v (.int .i64)]⟩, Eng.bodyOf Go.Proofs.Try.f63, [.tmp 4, .tmp 5, .tmp 6], 85⟩
noncomputable def sp63 : Eng.Spec NN := F63.spec [.v (.sl (.int .u8)), .v (.int .i64)] [.own 82 (.nm 1), .v (.int .i64), .v (.int .i64)] 4000000
theorem good63 : Eng.Good prog 63 sp63 := Eng.good_fn (fn := f63) fits (by kernel_rfl) mixed (by kernel_rfl) (.cons good81 (.cons good61 .nil)) (by kernel_rfl) (by kernel_rfl) (by kernel_rfl) (by kernel_rfl) (by kernel_rfl) (by kernel_rfl) (by kernel_rfl) (by kernel_rfl) (by kernel_rfl)
noncomputable def F46 : Eng.Fn NN := ⟨⟨(Eng.look tys), (lookS [(64, sp64), (63, sp63)]), Eng.look [(1, [0, 1, 2]), (11, [10, 13, 38, 39, 40])], Eng.pinIds 0 [.v (.sl (.int .u8)), .v (.int .i64), .v (.int .i64)]⟩, Eng.bodyOf Go.Proofs.Try.f46, [.tmp 6, .tmp 7, .tmp 8], 52⟩
noncomputable def sp46 : Eng.Spec NN := F46.spec [.v (.sl (.int .u8)), .v (.int .i64), .v (.int .i64)] [.own 58 (.int .u64), .v (.int .i64), .v (.int .i64)] 4000000
theorem good46 : Eng.Good prog 46 sp46 := Eng.good_fn (fn := f46) fits (by kernel_rfl) mixed (by kernel_rfl) (.cons good64 (.cons good63 .nil)) (by kernel_rfl) (by kernel_rfl) (by kernel_rfl) (by kernel_rfl) (by kernel_rfl) (by kernel_rfl) (by kernel_rfl) (by kernel_rfl) (by kernel_rfl)
noncomputable def F80 : Eng.Fn NN := ⟨⟨(Eng.look tys), (lookS []), Eng.look [(3, [0, 1, 2, 7, 8])], Eng.pinIds 0 [.v (.sl (.int .u8)), .v (.int .i64), .v (.int .i64)]⟩, Eng.bodyOf Go.Proofs.Try.f80, [.tmp 6], 44⟩
noncomputable def sp80 : Eng.Spec NN := F80.spec [.v (.sl (.int .u8)), .v (.int .i64), .v (.int .i64)] [.v (.int .u64)] 4000000
theorem good80 : Eng.Good prog 80 sp80 := Eng.good_fn (fn := f80) fits (by kernel_rfl) mixed (by kernel_rfl) .nil (by kernel_rfl) (by kernel_rfl) (by kernel_rfl) (by kernel_rfl) (by kernel_rfl) (by kernel_rfl) (by kernel_rfl) (by kernel_rfl) (by kernel_rfl)
noncomputable def F62 : Eng.Fn NN := ⟨⟨(Eng.look tys), (lookS [(80, sp80), (56, sp56), (57, sp57)]), Eng.look [(1, [0, 1, 2]), (11, [0, 1, 2]), (13, [0, 2, 10, 48, 49])], Eng.pinIds 0 [.v (.sl (.int .u8)), .v (.int .i64), .v (.int .i64)]⟩, Eng.bodyOf Go.Proofs.Try.f62, [.tmp 6, .tmp 7], 63⟩
noncomputable def sp62 : Eng.Spec NN := F62.spec [.v (.sl (.int .u8)), .v (.int .i64), .v (.int .i64)] [.own 58 (.int .u64), .v (.int .i64)] 4000000
theorem good62 : Eng.Good prog 62 sp62 := Eng.good_fn (fn := f62) fits (by kernel_rfl) mixed (by kernel_rfl) (.cons good80 (.cons good56 (.cons good57 .nil))) (by kernel_rfl) (by kernel_rfl) (by kernel_rfl) (by kernel_rfl) (by kernel_rfl) (by kernel_rfl) (by kernel_rfl) (by kernel_rfl) (by kernel_rfl)
noncomputable def F45 : Eng.Fn NN := ⟨⟨(Eng.look tys), (lookS [(62, sp62), (41, sp41), (57, sp57)]), Eng.look [(1, [0, 1, 2, 3])], Eng.pinIds 0 [.v (.sl (.int .u8)), .v (.int .i64), .v (.int .i64), .v (.int .i64)]⟩, Eng.bodyOf Go.Proofs.Try.f45, [.tmp 8, .tmp 9, .tmp 10], 42⟩
noncomputable def sp45 : Eng.Spec NN := F45.spec [.v (.sl (.int .u8)), .v (.int .i64), .v (.int .i64), .v (.int .i64)] [.own 58 (.int .u64), .v (.int .i64), .v (.int .i64)] 4000000
theorem good45 : Eng.Good prog 45 sp45 := Eng.good_fn (fn := f45) fits (by kernel_rfl) mixed (by kernel_rfl) (.cons good62 (.cons good41 (.cons good57 .nil))) (by kernel_rfl) (by kernel_rfl) (by kernel_rfl) (by kernel_rfl) (by kernel_rfl) (by kernel_rfl) (by kernel_rfl) (by kernel_rfl) (by kernel_rfl)
noncomputable def F44 : Eng.Fn NN := ⟨⟨(Eng.look tys), (lookS [(61, sp61)]), Eng.look [(1, [0, 1, 2]), (8, [0, 1, 11, 32, 33]), (21, [0, 1, 11, 16, 32, 33])], Eng.pinIds 0 [.v (.sl (.int .u8)), .v (.int .i64), .v (.int .i64)]⟩, Eng.bodyOf Go.Proofs.Try.f44, [.tmp 6, .tmp 7, .tmp 8], 85⟩
noncomputable def sp44 : Eng.Spec NN := F44.spec [.v (.sl (.int .u8)), .v (.int .i64), .v (.int .i64)] [.own 9 .str, .v (.int .i64), .v (.int .i64)] 4000000
theorem good44 : Eng.Good prog 44 sp44 := Eng.good_fn (fn := f44) fits (by kernel_rfl) mixed (by kernel_rfl) (.cons good61 .nil) (by kernel_rfl) (by kernel_rfl) (by kernel_rfl) (by kernel_rfl) (by kernel_rfl) (by kernel_rfl) (by kernel_rfl) (by kernel_rfl) (by kernel_rfl)
noncomputable def F24 : Eng.Fn NN := ⟨⟨(Eng.look tys), (lookS [(22, sp22), (46, sp46), (45, sp45), (44, sp44)]), Eng.look [(1, [0, 1, 2]), (3, [0, 1, 2]), (15, [0, 1, 9, 10, 11, 12]), (19, [0, 1, 9, 10, 13, 78, 79, 80])], Eng.pinIds 0 [.v (.sl (.int .u8)), .v (.int .i64), .v (.int .i64)]⟩, Eng.bodyOf Go.Proofs.Try.f24, [.tmp 6, .tmp 7, .tmp 8], 108⟩
noncomputable def sp24 : Eng.Spec NN := F24.spec [.v (.sl (.int .u8)), .v (.int .i64), .v (.int .i64)] [.own 9 .str, .v (.int .i64), .v (.int .i64)] 4000000
theorem good24 : Eng.Good prog 24 sp24 := Eng.good_fn (fn := f24) fits (by kernel_rfl) mixed (by kernel_rfl) (.cons good22 (.cons good46 (.cons good45 (.cons good44 .nil)))) (by kernel_rfl) (by kernel_rfl) (by kernel_rfl) (by kernel_rfl) (by kernel_rfl) (by kernel_rfl) (by kernel_rfl) (by kernel_rfl) (by kernel_rfl)
noncomputable def F6 : Eng.Fn NN := ⟨⟨(Eng.look tys), (lookS [(9, sp9), (12, sp12), (25, sp25), (24, sp24)]), Eng.look [(3, [0, 1, 2])], Eng.pinIds 0 [.v (.sl (.int .u8)), .v (.int .i64), .v (.int .i64)]⟩, Eng.bodyOf Go.Proofs.Try.f6, [.tmp 6], 57⟩
noncomputable def sp6 : Eng.Spec NN := F6.spec [.v (.sl (.int .u8)), .v (.int .i64), .v (.int .i64)] [.v .bool] 4000000
theorem good6 : Eng.Good prog 6 sp6 := Eng.good_fn (fn := f6) fits (by kernel_rfl) mixed (by kernel_rfl) (.cons good9 (.cons good12 (.cons good25 (.cons good24 .nil)))) (by kernel_rfl) (by kernel_rfl) (by kernel_rfl) (by kernel_rfl) (by kernel_rfl) (by kernel_rfl) (by kernel_rfl) (by kernel_rfl) (by kernel_rfl)
noncomputable def F7 : Eng.Fn NN := ⟨⟨(Eng.look tys), (lookS [(9, sp9), (14, sp14), (16, sp16), (10, sp10), (12, sp12), (24, sp24), (22, sp22), (8, sp8)]), Eng.look [(11, [0]), (14, [0, 12, 13]), (15, [0, 12, 13, 14]), (19, [0, 12, 13, 14])], Eng.pinIds 0 [.v (.sl .str), .v (.sl (.int .u8)), .v (.sl (.int .u8))]⟩, Eng.bodyOf Go.Proofs.Try.f7, [.tmp 6], 128⟩
noncomputable def sp7 : Eng.Spec NN := F7.spec [.v (.sl .str), .v (.sl (.int .u8)), .v (.sl (.int .u8))] [.v .bool] 4000000
theorem good7 : Eng.Good prog 7 sp7 := Eng.good_fn (fn := f7) fits (by kernel_rfl) mixed (by kernel_rfl) (.cons good9 (.cons good14 (.cons good16 (.cons good10 (.cons good12 (.cons good24 (.cons good22 (.cons good8 .nil)))))))) (by kernel_rfl) (by kernel_rfl) (by kernel_rfl) (by kernel_rfl) (by kernel_rfl) (by kernel_rfl) (by kernel_rfl) (by kernel_rfl) (by kernel_rfl)

end Go.Proofs.Try
