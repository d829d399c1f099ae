/- The functions of the program as the engine follows them (printed by a program of ours): their code, what is known of them, and the equations of their runs. -/
import Derived.Test.YtgfklnmckakclaaGreatDoorL40Base
set_option linter.unusedVariables false
set_option maxRecDepth 20000
namespace Go.Proofs.Tryz
open Go.Eng
noncomputable def F83 : Eng.Fn NN := ⟨⟨(Eng.look tys), (lookS []), Eng.look [], Eng.pinIds 0 [.v (.nm 0)]⟩, Eng.bodyOf Go.Proofs.Tryz.f83, [.cell 2 27], 7⟩
noncomputable def sp83 : Eng.Spec NN := F83.spec [.v (.nm 0)] [.v (.nm 1)] 4000000
theorem good83 : Eng.Good prog 83 sp83 := Eng.good_fn (fn := f83) fits (by kernel_rfl) mixed (by kernel_rfl) .nil (by kernel_rfl) (by kernel_rfl) (by kernel_rfl) (by kernel_rfl) (by kernel_rfl) (by kernel_rfl) (by kernel_rfl) (by kernel_rfl) (by kernel_rfl)
noncomputable def F52 : Eng.Fn NN := ⟨⟨(Eng.look tys), (lookS [(83, sp83)]), Eng.look [], Eng.pinIds 0 [.v (.bool)]⟩, Eng.bodyOf Go.Proofs.Tryz.f52, [.cell 2 27], 9⟩
noncomputable def sp52 : Eng.Spec NN := F52.spec [.v (.bool)] [.v (.nm 1)] 4000000
theorem good52 : Eng.Good prog 52 sp52 := Eng.good_fn (fn := f52) fits (by kernel_rfl) mixed (by kernel_rfl) (.cons good83 .nil) (by kernel_rfl) (by kernel_rfl) (by kernel_rfl) (by kernel_rfl) (by kernel_rfl) (by kernel_rfl) (by kernel_rfl) (by kernel_rfl) (by kernel_rfl)
noncomputable def F50 : Eng.Fn NN := ⟨⟨(Eng.look tys), (lookS [(52, sp52)]), Eng.look [], Eng.pinIds 0 [.v (.nm 1), .v (.bool)]⟩, Eng.bodyOf Go.Proofs.Tryz.f50, [.tmp 4], 16⟩
noncomputable def sp50 : Eng.Spec NN := F50.spec [.v (.nm 1), .v (.bool)] [.v (.bool)] 4000000
theorem good50 : Eng.Good prog 50 sp50 := Eng.good_fn (fn := f50) fits (by kernel_rfl) mixed (by kernel_rfl) (.cons good52 .nil) (by kernel_rfl) (by kernel_rfl) (by kernel_rfl) (by kernel_rfl) (by kernel_rfl) (by kernel_rfl) (by kernel_rfl) (by kernel_rfl) (by kernel_rfl)
abbrev G24 := HIn NN.ρ [.v (.nm 1)] → Option (HRes NN.ρ [.own 27 (.nm 1)] × HOut NN.ρ [.v (.nm 1)])
noncomputable def F24 (g24 : G24) : Eng.Fn NN := ⟨⟨(Eng.look tys), (lookS [(24, (Eng.specOf [.v (.nm 1)] [.own 27 (.nm 1)] g24)), (50, sp50)]), Eng.look [(1, [1])], Eng.pinIds 0 [.v (.nm 1)]⟩, Eng.bodyOf Go.Proofs.Tryz.f24, [.tmp 2], 28⟩
noncomputable def r24 (k : Nat) : G24 := Nat.rec (motive := fun _ => G24) (fun _ => none) (fun _ g => (F24 g).run [.v (.nm 1)] [.own 27 (.nm 1)] 4000000) k
theorem r24_succ (k : Nat) (x : HIn NN.ρ [.v (.nm 1)]) : r24 (k + 1) x = (F24 (r24 k)).run [.v (.nm 1)] [.own 27 (.nm 1)] 4000000 x := rfl
noncomputable def R24 : G24 := r24 100000
noncomputable def sp24 : Eng.Spec NN := Eng.specOf [.v (.nm 1)] [.own 27 (.nm 1)] R24
theorem goodm24 (g : G24) (hg : Eng.Good prog 24 (Eng.specOf [.v (.nm 1)] [.own 27 (.nm 1)] g)) : Eng.Good prog 24 ((F24 g).spec [.v (.nm 1)] [.own 27 (.nm 1)] 4000000) := Eng.good_fn (fn := f24) fits (by kernel_rfl) mixed (by kernel_rfl) (.cons hg (.cons good50 .nil)) (by kernel_rfl) (by kernel_rfl) (by kernel_rfl) (by kernel_rfl) (by kernel_rfl) (by kernel_rfl) (by kernel_rfl) (by kernel_rfl) (by kernel_rfl)
theorem goodr24 : ∀ k, Eng.Good prog 24 (Eng.specOf [.v (.nm 1)] [.own 27 (.nm 1)] (r24 k))
  | 0 => Eng.good_none (fn := f24) (by kernel_rfl) (c := Eng.bodyOf f24) (by kernel_rfl) (by kernel_rfl) _ _
  | k + 1 => Eng.good_rec (goodm24 (r24 k) (goodr24 k)) (r24_succ k)
theorem good24 : Eng.Good prog 24 sp24 := goodr24 100000
noncomputable def F79 : Eng.Fn NN := ⟨⟨(Eng.look tys), (lookS []), Eng.look [], Eng.pinIds 0 [.v (.int .i64), .v (.nm 5), .v (.nm 5)]⟩, Eng.bodyOf Go.Proofs.Tryz.f79, [.cell 6 69], 57⟩
noncomputable def sp79 : Eng.Spec NN := F79.spec [.v (.int .i64), .v (.nm 5), .v (.nm 5)] [.v (.nm 5)] 4000000
theorem good79 : Eng.Good prog 79 sp79 := Eng.good_fn (fn := f79) fits (by kernel_rfl) mixed (by kernel_rfl) .nil (by kernel_rfl) (by kernel_rfl) (by kernel_rfl) (by kernel_rfl) (by kernel_rfl) (by kernel_rfl) (by kernel_rfl) (by kernel_rfl) (by kernel_rfl)
noncomputable def F106 : Eng.Fn NN := ⟨⟨(Eng.look tys), (lookS []), Eng.look [(2, [0, 1, 7, 8])], Eng.pinIds 0 [.v (.sl (.int .i64)), .v (.int .i64)]⟩, Eng.bodyOf Go.Proofs.Tryz.f106, [.tmp 4], 19⟩
noncomputable def sp106 : Eng.Spec NN := F106.spec [.v (.sl (.int .i64)), .v (.int .i64)] [.v (.int .i64)] 4000000
theorem good106 : Eng.Good prog 106 sp106 := Eng.good_fn (fn := f106) fits (by kernel_rfl) mixed (by kernel_rfl) .nil (by kernel_rfl) (by kernel_rfl) (by kernel_rfl) (by kernel_rfl) (by kernel_rfl) (by kernel_rfl) (by kernel_rfl) (by kernel_rfl) (by kernel_rfl)
noncomputable def F78 : Eng.Fn NN := ⟨⟨(Eng.look tys), (lookS [(106, sp106)]), Eng.look [], Eng.pinIds 0 [.v (.sl (.int .i64)), .v (.int .i64)]⟩, Eng.bodyOf Go.Proofs.Tryz.f78, [.tmp 4], 9⟩
noncomputable def sp78 : Eng.Spec NN := F78.spec [.v (.sl (.int .i64)), .v (.int .i64)] [.v (.bool)] 4000000
theorem good78 : Eng.Good prog 78 sp78 := Eng.good_fn (fn := f78) fits (by kernel_rfl) mixed (by kernel_rfl) (.cons good106 .nil) (by kernel_rfl) (by kernel_rfl) (by kernel_rfl) (by kernel_rfl) (by kernel_rfl) (by kernel_rfl) (by kernel_rfl) (by kernel_rfl) (by kernel_rfl)
abbrev G46 := HIn NN.ρ [.v (.nm 1), .v (.sl (.int .i64))] → Option (HRes NN.ρ [.v (.nm 5)] × HOut NN.ρ [.v (.nm 1), .v (.sl (.int .i64))])
noncomputable def F46 (g46 : G46) : Eng.Fn NN := ⟨⟨(Eng.look tys), (lookS [(79, sp79), (78, sp78), (50, sp50), (46, (Eng.specOf [.v (.nm 1), .v (.sl (.int .i64))] [.v (.nm 5)] g46))]), Eng.look [(1, [1, 2, 4]), (4, [1, 2, 4, 5, 18, 19, 20]), (8, [1, 2, 4, 5]), (23, [4, 8])], Eng.pinIds 0 [.v (.nm 1), .v (.sl (.int .i64))]⟩, Eng.bodyOf Go.Proofs.Tryz.f46, [.cell 4 69], 99⟩
noncomputable def r46 (k : Nat) : G46 := Nat.rec (motive := fun _ => G46) (fun _ => none) (fun _ g => (F46 g).run [.v (.nm 1), .v (.sl (.int .i64))] [.v (.nm 5)] 4000000) k
theorem r46_succ (k : Nat) (x : HIn NN.ρ [.v (.nm 1), .v (.sl (.int .i64))]) : r46 (k + 1) x = (F46 (r46 k)).run [.v (.nm 1), .v (.sl (.int .i64))] [.v (.nm 5)] 4000000 x := rfl
noncomputable def R46 : G46 := r46 100000
noncomputable def sp46 : Eng.Spec NN := Eng.specOf [.v (.nm 1), .v (.sl (.int .i64))] [.v (.nm 5)] R46
theorem goodm46 (g : G46) (hg : Eng.Good prog 46 (Eng.specOf [.v (.nm 1), .v (.sl (.int .i64))] [.v (.nm 5)] g)) : Eng.Good prog 46 ((F46 g).spec [.v (.nm 1), .v (.sl (.int .i64))] [.v (.nm 5)] 4000000) := Eng.good_fn (fn := f46) fits (by kernel_rfl) mixed (by kernel_rfl) (.cons good79 (.cons good78 (.cons good50 (.cons hg .nil)))) (by kernel_rfl) (by kernel_rfl) (by kernel_rfl) (by kernel_rfl) (by kernel_rfl) (by kernel_rfl) (by kernel_rfl) (by kernel_rfl) (by kernel_rfl)
theorem goodr46 : ∀ k, Eng.Good prog 46 (Eng.specOf [.v (.nm 1), .v (.sl (.int .i64))] [.v (.nm 5)] (r46 k))
  | 0 => Eng.good_none (fn := f46) (by kernel_rfl) (c := Eng.bodyOf f46) (by kernel_rfl) (by kernel_rfl) _ _
  | k + 1 => Eng.good_rec (goodm46 (r46 k) (goodr46 k)) (r46_succ k)
theorem good46 : Eng.Good prog 46 sp46 := goodr46 100000
noncomputable def F20 : Eng.Fn NN := ⟨⟨(Eng.look tys), (lookS [(46, sp46)]), Eng.look [], Eng.pinIds 0 [.v (.nm 1), .v (.sl (.int .i64))]⟩, Eng.bodyOf Go.Proofs.Tryz.f20, [.tmp 4], 9⟩
noncomputable def sp20 : Eng.Spec NN := F20.spec [.v (.nm 1), .v (.sl (.int .i64))] [.v (.bool)] 4000000
theorem good20 : Eng.Good prog 20 sp20 := Eng.good_fn (fn := f20) fits (by kernel_rfl) mixed (by kernel_rfl) (.cons good46 .nil) (by kernel_rfl) (by kernel_rfl) (by kernel_rfl) (by kernel_rfl) (by kernel_rfl) (by kernel_rfl) (by kernel_rfl) (by kernel_rfl) (by kernel_rfl)
abbrev G13 := HIn NN.ρ [.v (.nm 1), .v (.nm 1)] → Option (HRes NN.ρ [.v (.bool)] × HOut NN.ρ [.v (.nm 1), .v (.nm 1)])
noncomputable def F42 (g13 : G13) : Eng.Fn NN := ⟨⟨(Eng.look tys), (lookS [(13, (Eng.specOf [.v (.nm 1), .v (.nm 1)] [.v (.bool)] g13))]), Eng.look [(4, [0, 1, 5]), (6, [0, 1, 5])], Eng.pinIds 0 [.v (.sl (.nm 1)), .v (.sl (.nm 1))]⟩, Eng.bodyOf Go.Proofs.Tryz.f42, [.tmp 4], 33⟩
noncomputable def sp42 (g : G13) : Eng.Spec NN := (F42 g).spec [.v (.sl (.nm 1)), .v (.sl (.nm 1))] [.v (.bool)] 4000000
theorem goodm42 (g : G13) (hg : Eng.Good prog 13 (Eng.specOf [.v (.nm 1), .v (.nm 1)] [.v (.bool)] g)) : Eng.Good prog 42 (sp42 g) := Eng.good_fn (fn := f42) fits (by kernel_rfl) mixed (by kernel_rfl) (.cons hg .nil) (by kernel_rfl) (by kernel_rfl) (by kernel_rfl) (by kernel_rfl) (by kernel_rfl) (by kernel_rfl) (by kernel_rfl) (by kernel_rfl) (by kernel_rfl)
noncomputable def F13 (g13 : G13) : Eng.Fn NN := ⟨⟨(Eng.look tys), (lookS [(42, (sp42 g13)), (13, (Eng.specOf [.v (.nm 1), .v (.nm 1)] [.v (.bool)] g13))]), Eng.look [(3, [2, 3]), (4, [2, 3, 5]), (6, [2, 3, 5]), (8, [2, 3])], Eng.pinIds 0 [.v (.nm 1), .v (.nm 1)]⟩, Eng.bodyOf Go.Proofs.Tryz.f13, [.tmp 4], 124⟩
noncomputable def r13 (k : Nat) : G13 := Nat.rec (motive := fun _ => G13) (fun _ => none) (fun _ g => (F13 g).run [.v (.nm 1), .v (.nm 1)] [.v (.bool)] 4000000) k
theorem r13_succ (k : Nat) (x : HIn NN.ρ [.v (.nm 1), .v (.nm 1)]) : r13 (k + 1) x = (F13 (r13 k)).run [.v (.nm 1), .v (.nm 1)] [.v (.bool)] 4000000 x := rfl
noncomputable def R13 : G13 := r13 100000
noncomputable def sp13 : Eng.Spec NN := Eng.specOf [.v (.nm 1), .v (.nm 1)] [.v (.bool)] R13
theorem goodm13 (g : G13) (hg : Eng.Good prog 13 (Eng.specOf [.v (.nm 1), .v (.nm 1)] [.v (.bool)] g)) : Eng.Good prog 13 ((F13 g).spec [.v (.nm 1), .v (.nm 1)] [.v (.bool)] 4000000) := Eng.good_fn (fn := f13) fits (by kernel_rfl) mixed (by kernel_rfl) (.cons (goodm42 g hg) (.cons hg .nil)) (by kernel_rfl) (by kernel_rfl) (by kernel_rfl) (by kernel_rfl) (by kernel_rfl) (by kernel_rfl) (by kernel_rfl) (by kernel_rfl) (by kernel_rfl)
theorem goodr13 : ∀ k, Eng.Good prog 13 (Eng.specOf [.v (.nm 1), .v (.nm 1)] [.v (.bool)] (r13 k))
  | 0 => Eng.good_none (fn := f13) (by kernel_rfl) (c := Eng.bodyOf f13) (by kernel_rfl) (by kernel_rfl) _ _
  | k + 1 => Eng.good_rec (goodm13 (r13 k) (goodr13 k)) (r13_succ k)
theorem good13 : Eng.Good prog 13 sp13 := goodr13 100000
theorem good42 : Eng.Good prog 42 (sp42 R13) := goodm42 R13 good13
noncomputable def F41 : Eng.Fn NN := ⟨⟨(Eng.look tys), (lookS []), Eng.look [], Eng.pinIds 0 [.v (.int .i64), .v (.int .i64)]⟩, Eng.bodyOf Go.Proofs.Tryz.f41, [.cell 4 27], 8⟩
noncomputable def sp41 : Eng.Spec NN := F41.spec [.v (.int .i64), .v (.int .i64)] [.v (.nm 1)] 4000000
theorem good41 : Eng.Good prog 41 sp41 := Eng.good_fn (fn := f41) fits (by kernel_rfl) mixed (by kernel_rfl) .nil (by kernel_rfl) (by kernel_rfl) (by kernel_rfl) (by kernel_rfl) (by kernel_rfl) (by kernel_rfl) (by kernel_rfl) (by kernel_rfl) (by kernel_rfl)
noncomputable def F39 : Eng.Fn NN := ⟨⟨(Eng.look tys), (lookS []), Eng.look [], Eng.pinIds 0 [.v (.int .i64), .v (.int .i64), .v (.nm 1), .v (.nm 1)]⟩, Eng.bodyOf Go.Proofs.Tryz.f39, [.cell 8 27], 15⟩
noncomputable def sp39 : Eng.Spec NN := F39.spec [.v (.int .i64), .v (.int .i64), .v (.nm 1), .v (.nm 1)] [.v (.nm 1)] 4000000
theorem good39 : Eng.Good prog 39 sp39 := Eng.good_fn (fn := f39) fits (by kernel_rfl) mixed (by kernel_rfl) .nil (by kernel_rfl) (by kernel_rfl) (by kernel_rfl) (by kernel_rfl) (by kernel_rfl) (by kernel_rfl) (by kernel_rfl) (by kernel_rfl) (by kernel_rfl)
noncomputable def F40 : Eng.Fn NN := ⟨⟨(Eng.look tys), (lookS []), Eng.look [], Eng.pinIds 0 [.v (.int .i64)]⟩, Eng.bodyOf Go.Proofs.Tryz.f40, [.cell 2 27], 6⟩
noncomputable def sp40 : Eng.Spec NN := F40.spec [.v (.int .i64)] [.v (.nm 1)] 4000000
theorem good40 : Eng.Good prog 40 sp40 := Eng.good_fn (fn := f40) fits (by kernel_rfl) mixed (by kernel_rfl) .nil (by kernel_rfl) (by kernel_rfl) (by kernel_rfl) (by kernel_rfl) (by kernel_rfl) (by kernel_rfl) (by kernel_rfl) (by kernel_rfl) (by kernel_rfl)
noncomputable def F17 : Eng.Fn NN := ⟨⟨(Eng.look tys), (lookS []), Eng.look [(1, [0, 1, 4, 5]), (2, [1, 4, 5, 10, 11, 12]), (8, [1, 4, 5, 7, 10, 11, 12]), (9, [1, 4, 5, 10, 11, 12])], Eng.pinIds 0 [.v (.sl (.nm 1)), .v (.int .i64)]⟩, Eng.bodyOf Go.Proofs.Tryz.f17, [.tmp 4, .tmp 5], 85⟩
noncomputable def sp17 : Eng.Spec NN := F17.spec [.v (.sl (.nm 1)), .v (.int .i64)] [.own 37 (.nm 2), .own 27 (.nm 1)] 4000000
theorem good17 : Eng.Good prog 17 sp17 := Eng.good_fn (fn := f17) fits (by kernel_rfl) mixed (by kernel_rfl) .nil (by kernel_rfl) (by kernel_rfl) (by kernel_rfl) (by kernel_rfl) (by kernel_rfl) (by kernel_rfl) (by kernel_rfl) (by kernel_rfl) (by kernel_rfl)
noncomputable def F57 : Eng.Fn NN := ⟨⟨(Eng.look tys), (lookS []), Eng.look [], Eng.pinIds 0 [.v (.int .i64)]⟩, Eng.bodyOf Go.Proofs.Tryz.f57, [.tmp 2], 13⟩
noncomputable def sp57 : Eng.Spec NN := F57.spec [.v (.int .i64)] [.v (.int .i64)] 4000000
theorem good57 : Eng.Good prog 57 sp57 := Eng.good_fn (fn := f57) fits (by kernel_rfl) mixed (by kernel_rfl) .nil (by kernel_rfl) (by kernel_rfl) (by kernel_rfl) (by kernel_rfl) (by kernel_rfl) (by kernel_rfl) (by kernel_rfl) (by kernel_rfl) (by kernel_rfl)
noncomputable def F56 : Eng.Fn NN := ⟨⟨(Eng.look tys), (lookS []), Eng.look [], Eng.pinIds 0 [.v (.nm 1)]⟩, Eng.bodyOf Go.Proofs.Tryz.f56, [.tmp 2], 6⟩
noncomputable def sp56 : Eng.Spec NN := F56.spec [.v (.nm 1)] [.v (.bool)] 4000000
theorem good56 : Eng.Good prog 56 sp56 := Eng.good_fn (fn := f56) fits (by kernel_rfl) mixed (by kernel_rfl) .nil (by kernel_rfl) (by kernel_rfl) (by kernel_rfl) (by kernel_rfl) (by kernel_rfl) (by kernel_rfl) (by kernel_rfl) (by kernel_rfl) (by kernel_rfl)
noncomputable def F55 : Eng.Fn NN := ⟨⟨(Eng.look tys), (lookS []), Eng.look [], Eng.pinIds 0 [.v (.int .i64)]⟩, Eng.bodyOf Go.Proofs.Tryz.f55, [.tmp 2], 9⟩
noncomputable def sp55 : Eng.Spec NN := F55.spec [.v (.int .i64)] [.v (.bool)] 4000000
theorem good55 : Eng.Good prog 55 sp55 := Eng.good_fn (fn := f55) fits (by kernel_rfl) mixed (by kernel_rfl) .nil (by kernel_rfl) (by kernel_rfl) (by kernel_rfl) (by kernel_rfl) (by kernel_rfl) (by kernel_rfl) (by kernel_rfl) (by kernel_rfl) (by kernel_rfl)
abbrev G28 := HIn NN.ρ [.v (.nm 1)] → Option (HRes NN.ρ [.v (.nm 3), .v (.bool)] × HOut NN.ρ [.v (.nm 1)])
noncomputable def F28 (g28 : G28) : Eng.Fn NN := ⟨⟨(Eng.look tys), (lookS [(57, sp57), (56, sp56), (55, sp55), (28, (Eng.specOf [.v (.nm 1)] [.v (.nm 3), .v (.bool)] g28))]), Eng.look [(7, [2, 4]), (11, [1, 2]), (16, [2])], Eng.pinIds 0 [.v (.nm 1)]⟩, Eng.bodyOf Go.Proofs.Tryz.f28, [.cell 2 50, .tmp 3], 99⟩
noncomputable def r28 (k : Nat) : G28 := Nat.rec (motive := fun _ => G28) (fun _ => none) (fun _ g => (F28 g).run [.v (.nm 1)] [.v (.nm 3), .v (.bool)] 4000000) k
theorem r28_succ (k : Nat) (x : HIn NN.ρ [.v (.nm 1)]) : r28 (k + 1) x = (F28 (r28 k)).run [.v (.nm 1)] [.v (.nm 3), .v (.bool)] 4000000 x := rfl
noncomputable def R28 : G28 := r28 100000
noncomputable def sp28 : Eng.Spec NN := Eng.specOf [.v (.nm 1)] [.v (.nm 3), .v (.bool)] R28
theorem goodm28 (g : G28) (hg : Eng.Good prog 28 (Eng.specOf [.v (.nm 1)] [.v (.nm 3), .v (.bool)] g)) : Eng.Good prog 28 ((F28 g).spec [.v (.nm 1)] [.v (.nm 3), .v (.bool)] 4000000) := Eng.good_fn (fn := f28) fits (by kernel_rfl) mixed (by kernel_rfl) (.cons good57 (.cons good56 (.cons good55 (.cons hg .nil)))) (by kernel_rfl) (by kernel_rfl) (by kernel_rfl) (by kernel_rfl) (by kernel_rfl) (by kernel_rfl) (by kernel_rfl) (by kernel_rfl) (by kernel_rfl)
theorem goodr28 : ∀ k, Eng.Good prog 28 (Eng.specOf [.v (.nm 1)] [.v (.nm 3), .v (.bool)] (r28 k))
  | 0 => Eng.good_none (fn := f28) (by kernel_rfl) (c := Eng.bodyOf f28) (by kernel_rfl) (by kernel_rfl) _ _
  | k + 1 => Eng.good_rec (goodm28 (r28 k) (goodr28 k)) (r28_succ k)
theorem good28 : Eng.Good prog 28 sp28 := goodr28 100000
noncomputable def F105 : Eng.Fn NN := ⟨⟨(Eng.look tys), (lookS []), Eng.look [(1, [0])], Eng.pinIds 0 [.v (.sl (.nm 1))]⟩, Eng.bodyOf Go.Proofs.Tryz.f105, [.tmp 2], 8⟩
noncomputable def sp105 : Eng.Spec NN := F105.spec [.v (.sl (.nm 1))] [.own 27 (.nm 1)] 4000000
theorem good105 : Eng.Good prog 105 sp105 := Eng.good_fn (fn := f105) fits (by kernel_rfl) mixed (by kernel_rfl) .nil (by kernel_rfl) (by kernel_rfl) (by kernel_rfl) (by kernel_rfl) (by kernel_rfl) (by kernel_rfl) (by kernel_rfl) (by kernel_rfl) (by kernel_rfl)
noncomputable def F74 : Eng.Fn NN := ⟨⟨(Eng.look tys), (lookS [(105, sp105), (50, sp50), (56, sp56)]), Eng.look [(4, [1, 2]), (12, [1, 2, 4, 46, 47, 48])], Eng.pinIds 0 [.v (.nm 1)]⟩, Eng.bodyOf Go.Proofs.Tryz.f74, [.cell 2 27], 76⟩
noncomputable def sp74 : Eng.Spec NN := F74.spec [.v (.nm 1)] [.v (.nm 1)] 4000000
theorem good74 : Eng.Good prog 74 sp74 := Eng.good_fn (fn := f74) fits (by kernel_rfl) mixed (by kernel_rfl) (.cons good105 (.cons good50 (.cons good56 .nil))) (by kernel_rfl) (by kernel_rfl) (by kernel_rfl) (by kernel_rfl) (by kernel_rfl) (by kernel_rfl) (by kernel_rfl) (by kernel_rfl) (by kernel_rfl)
noncomputable def F73 : Eng.Fn NN := ⟨⟨(Eng.look tys), (lookS [(50, sp50), (52, sp52)]), Eng.look [(8, [2, 4])], Eng.pinIds 0 [.v (.nm 1), .v (.bool)]⟩, Eng.bodyOf Go.Proofs.Tryz.f73, [.cell 4 27], 49⟩
noncomputable def sp73 : Eng.Spec NN := F73.spec [.v (.nm 1), .v (.bool)] [.v (.nm 1)] 4000000
theorem good73 : Eng.Good prog 73 sp73 := Eng.good_fn (fn := f73) fits (by kernel_rfl) mixed (by kernel_rfl) (.cons good50 (.cons good52 .nil)) (by kernel_rfl) (by kernel_rfl) (by kernel_rfl) (by kernel_rfl) (by kernel_rfl) (by kernel_rfl) (by kernel_rfl) (by kernel_rfl) (by kernel_rfl)
noncomputable def F125 : Eng.Fn NN := ⟨⟨(Eng.look tys), (lookS []), Eng.look [], Eng.pinIds 0 [.v (.bool)]⟩, Eng.bodyOf Go.Proofs.Tryz.f125, [.cell 2 23], 6⟩
noncomputable def sp125 : Eng.Spec NN := F125.spec [.v (.bool)] [.v (.nm 0)] 4000000
theorem good125 : Eng.Good prog 125 sp125 := Eng.good_fn (fn := f125) fits (by kernel_rfl) mixed (by kernel_rfl) .nil (by kernel_rfl) (by kernel_rfl) (by kernel_rfl) (by kernel_rfl) (by kernel_rfl) (by kernel_rfl) (by kernel_rfl) (by kernel_rfl) (by kernel_rfl)
noncomputable def F138 : Eng.Fn NN := ⟨⟨(Eng.look tys), (lookS [(125, sp125)]), Eng.look [(3, [0, 4, 5, 8, 9, 10])], Eng.pinIds 0 [.v (.int .i64), .v (.sl (.nm 0))]⟩, Eng.bodyOf Go.Proofs.Tryz.f138, [.cell 4 23], 30⟩
noncomputable def sp138 : Eng.Spec NN := F138.spec [.v (.int .i64), .v (.sl (.nm 0))] [.v (.nm 0)] 4000000
theorem good138 : Eng.Good prog 138 sp138 := Eng.good_fn (fn := f138) fits (by kernel_rfl) mixed (by kernel_rfl) (.cons good125 .nil) (by kernel_rfl) (by kernel_rfl) (by kernel_rfl) (by kernel_rfl) (by kernel_rfl) (by kernel_rfl) (by kernel_rfl) (by kernel_rfl) (by kernel_rfl)
noncomputable def F128 : Eng.Fn NN := ⟨⟨(Eng.look tys), (lookS [(138, sp138)]), Eng.look [], Eng.pinIds 0 [.v (.sl (.nm 0))]⟩, Eng.bodyOf Go.Proofs.Tryz.f128, [.cell 2 23], 5⟩
noncomputable def sp128 : Eng.Spec NN := F128.spec [.v (.sl (.nm 0))] [.v (.nm 0)] 4000000
theorem good128 : Eng.Good prog 128 sp128 := Eng.good_fn (fn := f128) fits (by kernel_rfl) mixed (by kernel_rfl) (.cons good138 .nil) (by kernel_rfl) (by kernel_rfl) (by kernel_rfl) (by kernel_rfl) (by kernel_rfl) (by kernel_rfl) (by kernel_rfl) (by kernel_rfl) (by kernel_rfl)
noncomputable def F151 : Eng.Fn NN := ⟨⟨(Eng.look tys), (lookS []), Eng.look [], Eng.pinIds 0 [.v (.bool), .v (.bool)]⟩, Eng.bodyOf Go.Proofs.Tryz.f151, [.tmp 4], 9⟩
noncomputable def sp151 : Eng.Spec NN := F151.spec [.v (.bool), .v (.bool)] [.v (.int .i64)] 4000000
theorem good151 : Eng.Good prog 151 sp151 := Eng.good_fn (fn := f151) fits (by kernel_rfl) mixed (by kernel_rfl) .nil (by kernel_rfl) (by kernel_rfl) (by kernel_rfl) (by kernel_rfl) (by kernel_rfl) (by kernel_rfl) (by kernel_rfl) (by kernel_rfl) (by kernel_rfl)
noncomputable def F141 : Eng.Fn NN := ⟨⟨(Eng.look tys), (lookS [(151, sp151)]), Eng.look [(8, [2, 3])], Eng.pinIds 0 [.v (.nm 0), .v (.nm 0)]⟩, Eng.bodyOf Go.Proofs.Tryz.f141, [.tmp 4], 40⟩
noncomputable def sp141 : Eng.Spec NN := F141.spec [.v (.nm 0), .v (.nm 0)] [.v (.int .i64)] 4000000
theorem good141 : Eng.Good prog 141 sp141 := Eng.good_fn (fn := f141) fits (by kernel_rfl) mixed (by kernel_rfl) (.cons good151 .nil) (by kernel_rfl) (by kernel_rfl) (by kernel_rfl) (by kernel_rfl) (by kernel_rfl) (by kernel_rfl) (by kernel_rfl) (by kernel_rfl) (by kernel_rfl)
noncomputable def F132 : Eng.Fn NN := ⟨⟨(Eng.look tys), (lookS [(125, sp125), (141, sp141)]), Eng.look [(3, [0, 4, 5, 6]), (18, [6, 8])], Eng.pinIds 0 [.v (.int .i64), .v (.nm 0), .v (.nm 0)]⟩, Eng.bodyOf Go.Proofs.Tryz.f132, [.cell 6 23], 58⟩
noncomputable def sp132 : Eng.Spec NN := F132.spec [.v (.int .i64), .v (.nm 0), .v (.nm 0)] [.v (.nm 0)] 4000000
theorem good132 : Eng.Good prog 132 sp132 := Eng.good_fn (fn := f132) fits (by kernel_rfl) mixed (by kernel_rfl) (.cons good125 (.cons good141 .nil)) (by kernel_rfl) (by kernel_rfl) (by kernel_rfl) (by kernel_rfl) (by kernel_rfl) (by kernel_rfl) (by kernel_rfl) (by kernel_rfl) (by kernel_rfl)
noncomputable def F121 : Eng.Fn NN := ⟨⟨(Eng.look tys), (lookS [(128, sp128), (132, sp132)]), Eng.look [(1, [0, 2]), (3, [0, 2, 3, 7, 8, 9])], Eng.pinIds 0 [.v (.sl (.nm 0))]⟩, Eng.bodyOf Go.Proofs.Tryz.f121, [.cell 2 23], 24⟩
noncomputable def sp121 : Eng.Spec NN := F121.spec [.v (.sl (.nm 0))] [.v (.nm 0)] 4000000
theorem good121 : Eng.Good prog 121 sp121 := Eng.good_fn (fn := f121) fits (by kernel_rfl) mixed (by kernel_rfl) (.cons good128 (.cons good132 .nil)) (by kernel_rfl) (by kernel_rfl) (by kernel_rfl) (by kernel_rfl) (by kernel_rfl) (by kernel_rfl) (by kernel_rfl) (by kernel_rfl) (by kernel_rfl)
noncomputable def F126 : Eng.Fn NN := ⟨⟨(Eng.look tys), (lookS []), Eng.look [], Eng.pinIds 0 [.v (.int .i64)]⟩, Eng.bodyOf Go.Proofs.Tryz.f126, [.cell 2 23], 5⟩
noncomputable def sp126 : Eng.Spec NN := F126.spec [.v (.int .i64)] [.v (.nm 0)] 4000000
theorem good126 : Eng.Good prog 126 sp126 := Eng.good_fn (fn := f126) fits (by kernel_rfl) mixed (by kernel_rfl) .nil (by kernel_rfl) (by kernel_rfl) (by kernel_rfl) (by kernel_rfl) (by kernel_rfl) (by kernel_rfl) (by kernel_rfl) (by kernel_rfl) (by kernel_rfl)
noncomputable def F150 : Eng.Fn NN := ⟨⟨(Eng.look tys), (lookS []), Eng.look [], Eng.pinIds 0 [.v (.int .u64), .v (.int .u64)]⟩, Eng.bodyOf Go.Proofs.Tryz.f150, [.tmp 4, .tmp 5], 51⟩
noncomputable def sp150 : Eng.Spec NN := F150.spec [.v (.int .u64), .v (.int .u64)] [.v (.int .u64), .v (.int .u64)] 4000000
theorem good150 : Eng.Good prog 150 sp150 := Eng.good_fn (fn := f150) fits (by kernel_rfl) mixed (by kernel_rfl) .nil (by kernel_rfl) (by kernel_rfl) (by kernel_rfl) (by kernel_rfl) (by kernel_rfl) (by kernel_rfl) (by kernel_rfl) (by kernel_rfl) (by kernel_rfl)
noncomputable def F140 : Eng.Fn NN := ⟨⟨(Eng.look tys), (lookS [(150, sp150)]), Eng.look [(4, [0, 1, 6, 7]), (6, [0, 1, 6, 7])], Eng.pinIds 0 [.v (.int .i64), .v (.int .i64)]⟩, Eng.bodyOf Go.Proofs.Tryz.f140, [.tmp 4, .tmp 5], 44⟩
noncomputable def sp140 : Eng.Spec NN := F140.spec [.v (.int .i64), .v (.int .i64)] [.v (.int .i64), .v (.bool)] 4000000
theorem good140 : Eng.Good prog 140 sp140 := Eng.good_fn (fn := f140) fits (by kernel_rfl) mixed (by kernel_rfl) (.cons good150 .nil) (by kernel_rfl) (by kernel_rfl) (by kernel_rfl) (by kernel_rfl) (by kernel_rfl) (by kernel_rfl) (by kernel_rfl) (by kernel_rfl) (by kernel_rfl)
noncomputable def F131 : Eng.Fn NN := ⟨⟨(Eng.look tys), (lookS [(126, sp126), (140, sp140)]), Eng.look [(3, [0, 4, 5, 6]), (27, [6])], Eng.pinIds 0 [.v (.int .i64), .v (.nm 0), .v (.nm 0)]⟩, Eng.bodyOf Go.Proofs.Tryz.f131, [.cell 6 23], 94⟩
noncomputable def sp131 : Eng.Spec NN := F131.spec [.v (.int .i64), .v (.nm 0), .v (.nm 0)] [.v (.nm 0)] 4000000
theorem good131 : Eng.Good prog 131 sp131 := Eng.good_fn (fn := f131) fits (by kernel_rfl) mixed (by kernel_rfl) (.cons good126 (.cons good140 .nil)) (by kernel_rfl) (by kernel_rfl) (by kernel_rfl) (by kernel_rfl) (by kernel_rfl) (by kernel_rfl) (by kernel_rfl) (by kernel_rfl) (by kernel_rfl)
noncomputable def F129 : Eng.Fn NN := ⟨⟨(Eng.look tys), (lookS []), Eng.look [(3, [2, 3, 4])], Eng.pinIds 0 [.v (.nm 0), .v (.nm 0)]⟩, Eng.bodyOf Go.Proofs.Tryz.f129, [.cell 4 23], 30⟩
noncomputable def sp129 : Eng.Spec NN := F129.spec [.v (.nm 0), .v (.nm 0)] [.v (.nm 0)] 4000000
theorem good129 : Eng.Good prog 129 sp129 := Eng.good_fn (fn := f129) fits (by kernel_rfl) mixed (by kernel_rfl) .nil (by kernel_rfl) (by kernel_rfl) (by kernel_rfl) (by kernel_rfl) (by kernel_rfl) (by kernel_rfl) (by kernel_rfl) (by kernel_rfl) (by kernel_rfl)
noncomputable def F127 : Eng.Fn NN := ⟨⟨(Eng.look tys), (lookS [(138, sp138)]), Eng.look [], Eng.pinIds 0 [.v (.sl (.nm 0))]⟩, Eng.bodyOf Go.Proofs.Tryz.f127, [.cell 2 23], 5⟩
noncomputable def sp127 : Eng.Spec NN := F127.spec [.v (.sl (.nm 0))] [.v (.nm 0)] 4000000
theorem good127 : Eng.Good prog 127 sp127 := Eng.good_fn (fn := f127) fits (by kernel_rfl) mixed (by kernel_rfl) (.cons good138 .nil) (by kernel_rfl) (by kernel_rfl) (by kernel_rfl) (by kernel_rfl) (by kernel_rfl) (by kernel_rfl) (by kernel_rfl) (by kernel_rfl) (by kernel_rfl)
noncomputable def F120 : Eng.Fn NN := ⟨⟨(Eng.look tys), (lookS [(132, sp132), (131, sp131), (129, sp129), (128, sp128), (127, sp127)]), Eng.look [(16, [0, 4, 5, 6])], Eng.pinIds 0 [.v (.int .i64), .v (.nm 0), .v (.nm 0)]⟩, Eng.bodyOf Go.Proofs.Tryz.f120, [.cell 6 23], 44⟩
noncomputable def sp120 : Eng.Spec NN := F120.spec [.v (.int .i64), .v (.nm 0), .v (.nm 0)] [.v (.nm 0)] 4000000
theorem good120 : Eng.Good prog 120 sp120 := Eng.good_fn (fn := f120) fits (by kernel_rfl) mixed (by kernel_rfl) (.cons good132 (.cons good131 (.cons good129 (.cons good128 (.cons good127 .nil))))) (by kernel_rfl) (by kernel_rfl) (by kernel_rfl) (by kernel_rfl) (by kernel_rfl) (by kernel_rfl) (by kernel_rfl) (by kernel_rfl) (by kernel_rfl)
noncomputable def F119 : Eng.Fn NN := ⟨⟨(Eng.look tys), (lookS []), Eng.look [], Eng.pinIds 0 [.v (.bool)]⟩, Eng.bodyOf Go.Proofs.Tryz.f119, [.cell 2 23], 6⟩
noncomputable def sp119 : Eng.Spec NN := F119.spec [.v (.bool)] [.v (.nm 0)] 4000000
theorem good119 : Eng.Good prog 119 sp119 := Eng.good_fn (fn := f119) fits (by kernel_rfl) mixed (by kernel_rfl) .nil (by kernel_rfl) (by kernel_rfl) (by kernel_rfl) (by kernel_rfl) (by kernel_rfl) (by kernel_rfl) (by kernel_rfl) (by kernel_rfl) (by kernel_rfl)
noncomputable def F118 : Eng.Fn NN := ⟨⟨(Eng.look tys), (lookS [(126, sp126)]), Eng.look [], Eng.pinIds 0 [.v (.nm 0)]⟩, Eng.bodyOf Go.Proofs.Tryz.f118, [.cell 2 23], 16⟩
noncomputable def sp118 : Eng.Spec NN := F118.spec [.v (.nm 0)] [.v (.nm 0)] 4000000
theorem good118 : Eng.Good prog 118 sp118 := Eng.good_fn (fn := f118) fits (by kernel_rfl) mixed (by kernel_rfl) (.cons good126 .nil) (by kernel_rfl) (by kernel_rfl) (by kernel_rfl) (by kernel_rfl) (by kernel_rfl) (by kernel_rfl) (by kernel_rfl) (by kernel_rfl) (by kernel_rfl)
noncomputable def F117 : Eng.Fn NN := ⟨⟨(Eng.look tys), (lookS [(125, sp125)]), Eng.look [], Eng.pinIds 0 [.v (.nm 0)]⟩, Eng.bodyOf Go.Proofs.Tryz.f117, [.cell 2 23], 11⟩
noncomputable def sp117 : Eng.Spec NN := F117.spec [.v (.nm 0)] [.v (.nm 0)] 4000000
theorem good117 : Eng.Good prog 117 sp117 := Eng.good_fn (fn := f117) fits (by kernel_rfl) mixed (by kernel_rfl) (.cons good125 .nil) (by kernel_rfl) (by kernel_rfl) (by kernel_rfl) (by kernel_rfl) (by kernel_rfl) (by kernel_rfl) (by kernel_rfl) (by kernel_rfl) (by kernel_rfl)
noncomputable def F137 : Eng.Fn NN := ⟨⟨(Eng.look tys), (lookS []), Eng.look [], Eng.pinIds 0 [.v (.nm 0)]⟩, Eng.bodyOf Go.Proofs.Tryz.f137, [.tmp 2], 11⟩
noncomputable def sp137 : Eng.Spec NN := F137.spec [.v (.nm 0)] [.v (.bool)] 4000000
theorem good137 : Eng.Good prog 137 sp137 := Eng.good_fn (fn := f137) fits (by kernel_rfl) mixed (by kernel_rfl) .nil (by kernel_rfl) (by kernel_rfl) (by kernel_rfl) (by kernel_rfl) (by kernel_rfl) (by kernel_rfl) (by kernel_rfl) (by kernel_rfl) (by kernel_rfl)
noncomputable def F114 : Eng.Fn NN := ⟨⟨(Eng.look tys), (lookS []), Eng.look [], Eng.pinIds 0 [.v (.sl (.nm 0)), .v (.int .i64)]⟩, Eng.bodyOf Go.Proofs.Tryz.f114, [.cell 4 23], 18⟩
noncomputable def sp114 : Eng.Spec NN := F114.spec [.v (.sl (.nm 0)), .v (.int .i64)] [.v (.nm 0)] 4000000
theorem good114 : Eng.Good prog 114 sp114 := Eng.good_fn (fn := f114) fits (by kernel_rfl) mixed (by kernel_rfl) .nil (by kernel_rfl) (by kernel_rfl) (by kernel_rfl) (by kernel_rfl) (by kernel_rfl) (by kernel_rfl) (by kernel_rfl) (by kernel_rfl) (by kernel_rfl)
abbrev G104 := HIn NN.ρ [.v (.nm 1), .v (.sl (.nm 0))] → Option (HRes NN.ρ [.v (.nm 0)] × HOut NN.ρ [.v (.nm 1), .v (.sl (.nm 0))])
noncomputable def F124 (g104 : G104) : Eng.Fn NN := ⟨⟨(Eng.look tys), (lookS [(137, sp137), (104, (Eng.specOf [.v (.nm 1), .v (.sl (.nm 0))] [.v (.nm 0)] g104))]), Eng.look [], Eng.pinIds 0 [.v (.nm 1), .v (.sl (.nm 0))]⟩, Eng.bodyOf Go.Proofs.Tryz.f124, [.tmp 4], 9⟩
noncomputable def sp124 (g : G104) : Eng.Spec NN := (F124 g).spec [.v (.nm 1), .v (.sl (.nm 0))] [.v (.bool)] 4000000
theorem goodm124 (g : G104) (hg : Eng.Good prog 104 (Eng.specOf [.v (.nm 1), .v (.sl (.nm 0))] [.v (.nm 0)] g)) : Eng.Good prog 124 (sp124 g) := Eng.good_fn (fn := f124) fits (by kernel_rfl) mixed (by kernel_rfl) (.cons good137 (.cons hg .nil)) (by kernel_rfl) (by kernel_rfl) (by kernel_rfl) (by kernel_rfl) (by kernel_rfl) (by kernel_rfl) (by kernel_rfl) (by kernel_rfl) (by kernel_rfl)
noncomputable def F115 (g104 : G104) : Eng.Fn NN := ⟨⟨(Eng.look tys), (lookS [(104, (Eng.specOf [.v (.nm 1), .v (.sl (.nm 0))] [.v (.nm 0)] g104)), (124, (sp124 g104))]), Eng.look [(6, [0, 1, 4, 5, 6])], Eng.pinIds 0 [.v (.sl (.nm 1)), .v (.sl (.nm 0))]⟩, Eng.bodyOf Go.Proofs.Tryz.f115, [.cell 4 23], 43⟩
noncomputable def sp115 (g : G104) : Eng.Spec NN := (F115 g).spec [.v (.sl (.nm 1)), .v (.sl (.nm 0))] [.v (.nm 0)] 4000000
theorem goodm115 (g : G104) (hg : Eng.Good prog 104 (Eng.specOf [.v (.nm 1), .v (.sl (.nm 0))] [.v (.nm 0)] g)) : Eng.Good prog 115 (sp115 g) := Eng.good_fn (fn := f115) fits (by kernel_rfl) mixed (by kernel_rfl) (.cons hg (.cons (goodm124 g hg) .nil)) (by kernel_rfl) (by kernel_rfl) (by kernel_rfl) (by kernel_rfl) (by kernel_rfl) (by kernel_rfl) (by kernel_rfl) (by kernel_rfl) (by kernel_rfl)
noncomputable def F116 (g104 : G104) : Eng.Fn NN := ⟨⟨(Eng.look tys), (lookS [(104, (Eng.specOf [.v (.nm 1), .v (.sl (.nm 0))] [.v (.nm 0)] g104))]), Eng.look [(1, [0, 1]), (3, [1, 5, 8, 9, 10])], Eng.pinIds 0 [.v (.sl (.nm 1)), .v (.sl (.nm 0))]⟩, Eng.bodyOf Go.Proofs.Tryz.f116, [.tmp 4], 22⟩
noncomputable def sp116 (g : G104) : Eng.Spec NN := (F116 g).spec [.v (.sl (.nm 1)), .v (.sl (.nm 0))] [.own 23 (.nm 0)] 4000000
theorem goodm116 (g : G104) (hg : Eng.Good prog 104 (Eng.specOf [.v (.nm 1), .v (.sl (.nm 0))] [.v (.nm 0)] g)) : Eng.Good prog 116 (sp116 g) := Eng.good_fn (fn := f116) fits (by kernel_rfl) mixed (by kernel_rfl) (.cons hg .nil) (by kernel_rfl) (by kernel_rfl) (by kernel_rfl) (by kernel_rfl) (by kernel_rfl) (by kernel_rfl) (by kernel_rfl) (by kernel_rfl) (by kernel_rfl)
noncomputable def F104 (g104 : G104) : Eng.Fn NN := ⟨⟨(Eng.look tys), (lookS [(121, sp121), (120, sp120), (119, sp119), (118, sp118), (117, sp117), (116, (sp116 g104)), (115, (sp115 g104)), (114, sp114)]), Eng.look [(10, [4])], Eng.pinIds 0 [.v (.nm 1), .v (.sl (.nm 0))]⟩, Eng.bodyOf Go.Proofs.Tryz.f104, [.cell 4 23], 77⟩
noncomputable def r104 (k : Nat) : G104 := Nat.rec (motive := fun _ => G104) (fun _ => none) (fun _ g => (F104 g).run [.v (.nm 1), .v (.sl (.nm 0))] [.v (.nm 0)] 4000000) k
theorem r104_succ (k : Nat) (x : HIn NN.ρ [.v (.nm 1), .v (.sl (.nm 0))]) : r104 (k + 1) x = (F104 (r104 k)).run [.v (.nm 1), .v (.sl (.nm 0))] [.v (.nm 0)] 4000000 x := rfl
noncomputable def R104 : G104 := r104 100000
noncomputable def sp104 : Eng.Spec NN := Eng.specOf [.v (.nm 1), .v (.sl (.nm 0))] [.v (.nm 0)] R104
theorem goodm104 (g : G104) (hg : Eng.Good prog 104 (Eng.specOf [.v (.nm 1), .v (.sl (.nm 0))] [.v (.nm 0)] g)) : Eng.Good prog 104 ((F104 g).spec [.v (.nm 1), .v (.sl (.nm 0))] [.v (.nm 0)] 4000000) := Eng.good_fn (fn := f104) fits (by kernel_rfl) mixed (by kernel_rfl) (.cons good121 (.cons good120 (.cons good119 (.cons good118 (.cons good117 (.cons (goodm116 g hg) (.cons (goodm115 g hg) (.cons good114 .nil)))))))) (by kernel_rfl) (by kernel_rfl) (by kernel_rfl) (by kernel_rfl) (by kernel_rfl) (by kernel_rfl) (by kernel_rfl) (by kernel_rfl) (by kernel_rfl)
theorem goodr104 : ∀ k, Eng.Good prog 104 (Eng.specOf [.v (.nm 1), .v (.sl (.nm 0))] [.v (.nm 0)] (r104 k))
  | 0 => Eng.good_none (fn := f104) (by kernel_rfl) (c := Eng.bodyOf f104) (by kernel_rfl) (by kernel_rfl) _ _
  | k + 1 => Eng.good_rec (goodm104 (r104 k) (goodr104 k)) (r104_succ k)
theorem good104 : Eng.Good prog 104 sp104 := goodr104 100000
theorem good124 : Eng.Good prog 124 (sp124 R104) := goodm124 R104 good104
theorem good115 : Eng.Good prog 115 (sp115 R104) := goodm115 R104 good104
theorem good116 : Eng.Good prog 116 (sp116 R104) := goodm116 R104 good104
noncomputable def F103 : Eng.Fn NN := ⟨⟨(Eng.look tys), (lookS [(56, sp56)]), Eng.look [], Eng.pinIds 0 [.v (.nm 1)]⟩, Eng.bodyOf Go.Proofs.Tryz.f103, [.tmp 2], 6⟩
noncomputable def sp103 : Eng.Spec NN := F103.spec [.v (.nm 1)] [.v (.bool)] 4000000
theorem good103 : Eng.Good prog 103 sp103 := Eng.good_fn (fn := f103) fits (by kernel_rfl) mixed (by kernel_rfl) (.cons good56 .nil) (by kernel_rfl) (by kernel_rfl) (by kernel_rfl) (by kernel_rfl) (by kernel_rfl) (by kernel_rfl) (by kernel_rfl) (by kernel_rfl) (by kernel_rfl)
noncomputable def F113 : Eng.Fn NN := ⟨⟨(Eng.look tys), (lookS [(103, sp103)]), Eng.look [(2, [0, 1, 7, 8])], Eng.pinIds 0 [.v (.sl (.nm 1)), .fv 103]⟩, Eng.bodyOf Go.Proofs.Tryz.f113, [.tmp 4], 19⟩
noncomputable def sp113 : Eng.Spec NN := F113.spec [.v (.sl (.nm 1)), .fv 103] [.v (.int .i64)] 4000000
theorem good113 : Eng.Good prog 113 sp113 := Eng.good_fn (fn := f113) fits (by kernel_rfl) mixed (by kernel_rfl) (.cons good103 .nil) (by kernel_rfl) (by kernel_rfl) (by kernel_rfl) (by kernel_rfl) (by kernel_rfl) (by kernel_rfl) (by kernel_rfl) (by kernel_rfl) (by kernel_rfl)
noncomputable def F102 : Eng.Fn NN := ⟨⟨(Eng.look tys), (lookS [(113, sp113)]), Eng.look [], Eng.pinIds 0 [.v (.sl (.nm 1)), .fv 103]⟩, Eng.bodyOf Go.Proofs.Tryz.f102, [.tmp 4], 9⟩
noncomputable def sp102 : Eng.Spec NN := F102.spec [.v (.sl (.nm 1)), .fv 103] [.v (.bool)] 4000000
theorem good102 : Eng.Good prog 102 sp102 := Eng.good_fn (fn := f102) fits (by kernel_rfl) mixed (by kernel_rfl) (.cons good113 .nil) (by kernel_rfl) (by kernel_rfl) (by kernel_rfl) (by kernel_rfl) (by kernel_rfl) (by kernel_rfl) (by kernel_rfl) (by kernel_rfl) (by kernel_rfl)
noncomputable def F72 : Eng.Fn NN := ⟨⟨(Eng.look tys), (lookS [(83, sp83), (104, sp104), (103, sp103), (102, sp102)]), Eng.look [], Eng.pinIds 0 [.v (.nm 1)]⟩, Eng.bodyOf Go.Proofs.Tryz.f72, [.cell 2 27, .tmp 3], 19⟩
noncomputable def sp72 : Eng.Spec NN := F72.spec [.v (.nm 1)] [.v (.nm 1), .v (.bool)] 4000000
theorem good72 : Eng.Good prog 72 sp72 := Eng.good_fn (fn := f72) fits (by kernel_rfl) mixed (by kernel_rfl) (.cons good83 (.cons good104 (.cons good103 (.cons good102 .nil)))) (by kernel_rfl) (by kernel_rfl) (by kernel_rfl) (by kernel_rfl) (by kernel_rfl) (by kernel_rfl) (by kernel_rfl) (by kernel_rfl) (by kernel_rfl)
noncomputable def F44 : Eng.Fn NN := ⟨⟨(Eng.look tys), (lookS [(74, sp74), (73, sp73), (72, sp72)]), Eng.look [(12, [1, 2])], Eng.pinIds 0 [.v (.nm 1)]⟩, Eng.bodyOf Go.Proofs.Tryz.f44, [.cell 2 27], 71⟩
noncomputable def sp44 : Eng.Spec NN := F44.spec [.v (.nm 1)] [.v (.nm 1)] 4000000
theorem good44 : Eng.Good prog 44 sp44 := Eng.good_fn (fn := f44) fits (by kernel_rfl) mixed (by kernel_rfl) (.cons good74 (.cons good73 (.cons good72 .nil))) (by kernel_rfl) (by kernel_rfl) (by kernel_rfl) (by kernel_rfl) (by kernel_rfl) (by kernel_rfl) (by kernel_rfl) (by kernel_rfl) (by kernel_rfl)
abbrev G43 := HIn NN.ρ [.v (.nm 1), .fb 43] → Option (HRes NN.ρ [.v (.nm 1)] × HOut NN.ρ [.v (.nm 1), .fb 43])
noncomputable def F43 (g43 : G43) : Eng.Fn NN := ⟨⟨(Eng.look tys), (lookS [(43, (Eng.specOf [.v (.nm 1), .fb 43] [.v (.nm 1)] g43)), (44, sp44)]), Eng.look [(1, [1, 2, 3]), (7, [1, 2, 3]), (9, [1, 2, 3, 4, 16, 17, 18])], Eng.pinIds 0 [.v (.nm 1), .fb 43]⟩, Eng.bodyOf Go.Proofs.Tryz.f43, [.cell 3 27], 33⟩
noncomputable def r43 (k : Nat) : G43 := Nat.rec (motive := fun _ => G43) (fun _ => none) (fun _ g => (F43 g).run [.v (.nm 1), .fb 43] [.v (.nm 1)] 4000000) k
theorem r43_succ (k : Nat) (x : HIn NN.ρ [.v (.nm 1), .fb 43]) : r43 (k + 1) x = (F43 (r43 k)).run [.v (.nm 1), .fb 43] [.v (.nm 1)] 4000000 x := rfl
noncomputable def R43 : G43 := r43 100000
noncomputable def sp43 : Eng.Spec NN := Eng.specOf [.v (.nm 1), .fb 43] [.v (.nm 1)] R43
theorem goodm43 (g : G43) (hg : Eng.Good prog 43 (Eng.specOf [.v (.nm 1), .fb 43] [.v (.nm 1)] g)) : Eng.Good prog 43 ((F43 g).spec [.v (.nm 1), .fb 43] [.v (.nm 1)] 4000000) := Eng.good_fn (fn := f43) fits (by kernel_rfl) mixed (by kernel_rfl) (.cons hg (.cons good44 .nil)) (by kernel_rfl) (by kernel_rfl) (by kernel_rfl) (by kernel_rfl) (by kernel_rfl) (by kernel_rfl) (by kernel_rfl) (by kernel_rfl) (by kernel_rfl)
theorem goodr43 : ∀ k, Eng.Good prog 43 (Eng.specOf [.v (.nm 1), .fb 43] [.v (.nm 1)] (r43 k))
  | 0 => Eng.good_none (fn := f43) (by kernel_rfl) (c := Eng.bodyOf f43) (by kernel_rfl) (by kernel_rfl) _ _
  | k + 1 => Eng.good_rec (goodm43 (r43 k) (goodr43 k)) (r43_succ k)
theorem good43 : Eng.Good prog 43 sp43 := goodr43 100000
noncomputable def F14 : Eng.Fn NN := ⟨⟨(Eng.look tys), (lookS [(43, sp43)]), Eng.look [], Eng.pinIds 0 [.v (.nm 1)]⟩, Eng.bodyOf Go.Proofs.Tryz.f14, [.cell 2 27], 8⟩
noncomputable def sp14 : Eng.Spec NN := F14.spec [.v (.nm 1)] [.v (.nm 1)] 4000000
theorem good14 : Eng.Good prog 14 sp14 := Eng.good_fn (fn := f14) fits (by kernel_rfl) mixed (by kernel_rfl) (.cons good43 .nil) (by kernel_rfl) (by kernel_rfl) (by kernel_rfl) (by kernel_rfl) (by kernel_rfl) (by kernel_rfl) (by kernel_rfl) (by kernel_rfl) (by kernel_rfl)
noncomputable def F12 : Eng.Fn NN := ⟨⟨(Eng.look tys), (lookS [(24, sp24), (20, sp20), (13, sp13), (41, sp41), (39, sp39), (40, sp40), (17, sp17), (28, sp28), (14, sp14)]), Eng.look [], Eng.pinIds 0 []⟩, Eng.bodyOf Go.Proofs.Tryz.f12, [.tmp 0], 86⟩
noncomputable def sp12 : Eng.Spec NN := F12.spec [] [.v (.bool)] 4000000
theorem good12 : Eng.Good prog 12 sp12 := Eng.good_fn (fn := f12) fits (by kernel_rfl) mixed (by kernel_rfl) (.cons good24 (.cons good20 (.cons good13 (.cons good41 (.cons good39 (.cons good40 (.cons good17 (.cons good28 (.cons good14 .nil))))))))) (by kernel_rfl) (by kernel_rfl) (by kernel_rfl) (by kernel_rfl) (by kernel_rfl) (by kernel_rfl) (by kernel_rfl) (by kernel_rfl) (by kernel_rfl)
noncomputable def F19 : Eng.Fn NN := ⟨⟨(Eng.look tys), (lookS [(13, sp13)]), Eng.look [(4, [0, 1, 5])], Eng.pinIds 0 [.v (.sl (.nm 1)), .v (.sl (.nm 1))]⟩, Eng.bodyOf Go.Proofs.Tryz.f19, [.tmp 4], 27⟩
noncomputable def sp19 : Eng.Spec NN := F19.spec [.v (.sl (.nm 1)), .v (.sl (.nm 1))] [.v (.bool)] 4000000
theorem good19 : Eng.Good prog 19 sp19 := Eng.good_fn (fn := f19) fits (by kernel_rfl) mixed (by kernel_rfl) (.cons good13 .nil) (by kernel_rfl) (by kernel_rfl) (by kernel_rfl) (by kernel_rfl) (by kernel_rfl) (by kernel_rfl) (by kernel_rfl) (by kernel_rfl) (by kernel_rfl)
noncomputable def F18 : Eng.Fn NN := ⟨⟨(Eng.look tys), (lookS []), Eng.look [(1, [0, 1]), (4, [0, 1, 6, 7, 8]), (5, [0, 1, 6, 7, 8]), (11, [0, 1, 6, 7, 8, 9])], Eng.pinIds 0 [.v (.sl (.nm 1)), .v (.int .i64)]⟩, Eng.bodyOf Go.Proofs.Tryz.f18, [.tmp 4, .tmp 5], 90⟩
noncomputable def sp18 : Eng.Spec NN := F18.spec [.v (.sl (.nm 1)), .v (.int .i64)] [.own 37 (.nm 2), .own 27 (.nm 1)] 4000000
theorem good18 : Eng.Good prog 18 sp18 := Eng.good_fn (fn := f18) fits (by kernel_rfl) mixed (by kernel_rfl) .nil (by kernel_rfl) (by kernel_rfl) (by kernel_rfl) (by kernel_rfl) (by kernel_rfl) (by kernel_rfl) (by kernel_rfl) (by kernel_rfl) (by kernel_rfl)
noncomputable def F93 : Eng.Fn NN := ⟨⟨(Eng.look tys), (lookS []), Eng.look [(1, [0]), (14, [])], Eng.pinIds 0 [.v (.str)]⟩, Eng.bodyOf Go.Proofs.Tryz.f93, [.tmp 2, .tmp 3, .tmp 4], 23⟩
noncomputable def sp93 : Eng.Spec NN := F93.spec [.v (.str)] [.own 3 (.int .i64), .v (.int .i64), .v (.bool)] 4000000
theorem good93 : Eng.Good prog 93 sp93 := Eng.good_fn (fn := f93) fits (by kernel_rfl) mixed (by kernel_rfl) .nil (by kernel_rfl) (by kernel_rfl) (by kernel_rfl) (by kernel_rfl) (by kernel_rfl) (by kernel_rfl) (by kernel_rfl) (by kernel_rfl) (by kernel_rfl)
noncomputable def F112 : Eng.Fn NN := ⟨⟨(Eng.look tys), (lookS []), Eng.look [(3, [0, 4, 5]), (7, [0, 4, 5])], Eng.pinIds 0 [.v (.sl (.int .i64))]⟩, Eng.bodyOf Go.Proofs.Tryz.f112, [.tmp 2, .tmp 3], 39⟩
noncomputable def sp112 : Eng.Spec NN := F112.spec [.v (.sl (.int .i64))] [.v (.int .i64), .v (.bool)] 4000000
theorem good112 : Eng.Good prog 112 sp112 := Eng.good_fn (fn := f112) fits (by kernel_rfl) mixed (by kernel_rfl) .nil (by kernel_rfl) (by kernel_rfl) (by kernel_rfl) (by kernel_rfl) (by kernel_rfl) (by kernel_rfl) (by kernel_rfl) (by kernel_rfl) (by kernel_rfl)
noncomputable def F91 : Eng.Fn NN := ⟨⟨(Eng.look tys), (lookS []), Eng.look [], Eng.pinIds 0 [.v (.str), .v (.int .i64)]⟩, Eng.bodyOf Go.Proofs.Tryz.f91, [.tmp 4], 27⟩
noncomputable def sp91 : Eng.Spec NN := F91.spec [.v (.str), .v (.int .i64)] [.v (.bool)] 4000000
theorem good91 : Eng.Good prog 91 sp91 := Eng.good_fn (fn := f91) fits (by kernel_rfl) mixed (by kernel_rfl) .nil (by kernel_rfl) (by kernel_rfl) (by kernel_rfl) (by kernel_rfl) (by kernel_rfl) (by kernel_rfl) (by kernel_rfl) (by kernel_rfl) (by kernel_rfl)
noncomputable def F100 : Eng.Fn NN := ⟨⟨(Eng.look tys), (lookS [(93, sp93), (112, sp112), (91, sp91)]), Eng.look [(8, [1, 6, 7]), (9, [1, 6, 7, 9])], Eng.pinIds 0 [.v (.str), .v (.sl (.int .i64))]⟩, Eng.bodyOf Go.Proofs.Tryz.f100, [.tmp 4, .tmp 5], 59⟩
noncomputable def sp100 : Eng.Spec NN := F100.spec [.v (.str), .v (.sl (.int .i64))] [.v (.int .i64), .v (.bool)] 4000000
theorem good100 : Eng.Good prog 100 sp100 := Eng.good_fn (fn := f100) fits (by kernel_rfl) mixed (by kernel_rfl) (.cons good93 (.cons good112 (.cons good91 .nil))) (by kernel_rfl) (by kernel_rfl) (by kernel_rfl) (by kernel_rfl) (by kernel_rfl) (by kernel_rfl) (by kernel_rfl) (by kernel_rfl) (by kernel_rfl)
noncomputable def F96 : Eng.Fn NN := ⟨⟨(Eng.look tys), (lookS []), Eng.look [], Eng.pinIds 0 [.v (.int .i64), .v (.int .i64)]⟩, Eng.bodyOf Go.Proofs.Tryz.f96, [.tmp 4], 12⟩
noncomputable def sp96 : Eng.Spec NN := F96.spec [.v (.int .i64), .v (.int .i64)] [.v (.bool)] 4000000
theorem good96 : Eng.Good prog 96 sp96 := Eng.good_fn (fn := f96) fits (by kernel_rfl) mixed (by kernel_rfl) .nil (by kernel_rfl) (by kernel_rfl) (by kernel_rfl) (by kernel_rfl) (by kernel_rfl) (by kernel_rfl) (by kernel_rfl) (by kernel_rfl) (by kernel_rfl)
noncomputable def F98 : Eng.Fn NN := ⟨⟨(Eng.look tys), (lookS [(96, sp96)]), Eng.look [(3, [0, 4, 5]), (7, [0, 4, 5])], Eng.pinIds 0 [.v (.sl (.int .i64))]⟩, Eng.bodyOf Go.Proofs.Tryz.f98, [.tmp 2, .tmp 3], 26⟩
noncomputable def sp98 : Eng.Spec NN := F98.spec [.v (.sl (.int .i64))] [.v (.int .i64), .v (.bool)] 4000000
theorem good98 : Eng.Good prog 98 sp98 := Eng.good_fn (fn := f98) fits (by kernel_rfl) mixed (by kernel_rfl) (.cons good96 .nil) (by kernel_rfl) (by kernel_rfl) (by kernel_rfl) (by kernel_rfl) (by kernel_rfl) (by kernel_rfl) (by kernel_rfl) (by kernel_rfl) (by kernel_rfl)
noncomputable def F99 : Eng.Fn NN := ⟨⟨(Eng.look tys), (lookS [(98, sp98), (96, sp96)]), Eng.look [(5, [0, 4, 5]), (10, [0, 4, 5])], Eng.pinIds 0 [.v (.sl (.int .i64))]⟩, Eng.bodyOf Go.Proofs.Tryz.f99, [.tmp 2, .tmp 3], 42⟩
noncomputable def sp99 : Eng.Spec NN := F99.spec [.v (.sl (.int .i64))] [.v (.int .i64), .v (.bool)] 4000000
theorem good99 : Eng.Good prog 99 sp99 := Eng.good_fn (fn := f99) fits (by kernel_rfl) mixed (by kernel_rfl) (.cons good98 (.cons good96 .nil)) (by kernel_rfl) (by kernel_rfl) (by kernel_rfl) (by kernel_rfl) (by kernel_rfl) (by kernel_rfl) (by kernel_rfl) (by kernel_rfl) (by kernel_rfl)
noncomputable def F97 : Eng.Fn NN := ⟨⟨(Eng.look tys), (lookS [(96, sp96), (98, sp98)]), Eng.look [(6, [0, 1]), (15, [1, 8, 9])], Eng.pinIds 0 [.v (.int .i64), .v (.sl (.int .i64))]⟩, Eng.bodyOf Go.Proofs.Tryz.f97, [.tmp 4, .tmp 5], 58⟩
noncomputable def sp97 : Eng.Spec NN := F97.spec [.v (.int .i64), .v (.sl (.int .i64))] [.v (.int .i64), .v (.bool)] 4000000
theorem good97 : Eng.Good prog 97 sp97 := Eng.good_fn (fn := f97) fits (by kernel_rfl) mixed (by kernel_rfl) (.cons good96 (.cons good98 .nil)) (by kernel_rfl) (by kernel_rfl) (by kernel_rfl) (by kernel_rfl) (by kernel_rfl) (by kernel_rfl) (by kernel_rfl) (by kernel_rfl) (by kernel_rfl)
noncomputable def F82 : Eng.Fn NN := ⟨⟨(Eng.look tys), (lookS []), Eng.look [], Eng.pinIds 0 [.v (.nm 0)]⟩, Eng.bodyOf Go.Proofs.Tryz.f82, [.tmp 2], 46⟩
noncomputable def sp82 : Eng.Spec NN := F82.spec [.v (.nm 0)] [.v (.bool)] 4000000
theorem good82 : Eng.Good prog 82 sp82 := Eng.good_fn (fn := f82) fits (by kernel_rfl) mixed (by kernel_rfl) .nil (by kernel_rfl) (by kernel_rfl) (by kernel_rfl) (by kernel_rfl) (by kernel_rfl) (by kernel_rfl) (by kernel_rfl) (by kernel_rfl) (by kernel_rfl)
noncomputable def F95 : Eng.Fn NN := ⟨⟨(Eng.look tys), (lookS []), Eng.look [(3, [1])], Eng.pinIds 0 [.v (.nm 1)]⟩, Eng.bodyOf Go.Proofs.Tryz.f95, [.tmp 2], 73⟩
noncomputable def sp95 : Eng.Spec NN := F95.spec [.v (.nm 1)] [.v (.bool)] 4000000
theorem good95 : Eng.Good prog 95 sp95 := Eng.good_fn (fn := f95) fits (by kernel_rfl) mixed (by kernel_rfl) .nil (by kernel_rfl) (by kernel_rfl) (by kernel_rfl) (by kernel_rfl) (by kernel_rfl) (by kernel_rfl) (by kernel_rfl) (by kernel_rfl) (by kernel_rfl)
abbrev G70 := HIn NN.ρ [.v (.nm 1), .v (.sl (.int .i64))] → Option (HRes NN.ρ [.v (.int .i64), .v (.bool)] × HOut NN.ρ [.v (.nm 1), .v (.sl (.int .i64))])
noncomputable def F70 (g70 : G70) : Eng.Fn NN := ⟨⟨(Eng.look tys), (lookS [(100, sp100), (99, sp99), (98, sp98), (97, sp97), (96, sp96), (82, sp82), (70, (Eng.specOf [.v (.nm 1), .v (.sl (.int .i64))] [.v (.int .i64), .v (.bool)] g70)), (95, sp95)]), Eng.look [(5, [1, 2, 6, 7]), (10, [1, 2, 6, 7, 8]), (17, [1, 2])], Eng.pinIds 0 [.v (.nm 1), .v (.sl (.int .i64))]⟩, Eng.bodyOf Go.Proofs.Tryz.f70, [.tmp 4, .tmp 5], 147⟩
noncomputable def r70 (k : Nat) : G70 := Nat.rec (motive := fun _ => G70) (fun _ => none) (fun _ g => (F70 g).run [.v (.nm 1), .v (.sl (.int .i64))] [.v (.int .i64), .v (.bool)] 4000000) k
theorem r70_succ (k : Nat) (x : HIn NN.ρ [.v (.nm 1), .v (.sl (.int .i64))]) : r70 (k + 1) x = (F70 (r70 k)).run [.v (.nm 1), .v (.sl (.int .i64))] [.v (.int .i64), .v (.bool)] 4000000 x := rfl
noncomputable def R70 : G70 := r70 100000
noncomputable def sp70 : Eng.Spec NN := Eng.specOf [.v (.nm 1), .v (.sl (.int .i64))] [.v (.int .i64), .v (.bool)] R70
theorem goodm70 (g : G70) (hg : Eng.Good prog 70 (Eng.specOf [.v (.nm 1), .v (.sl (.int .i64))] [.v (.int .i64), .v (.bool)] g)) : Eng.Good prog 70 ((F70 g).spec [.v (.nm 1), .v (.sl (.int .i64))] [.v (.int .i64), .v (.bool)] 4000000) := Eng.good_fn (fn := f70) fits (by kernel_rfl) mixed (by kernel_rfl) (.cons good100 (.cons good99 (.cons good98 (.cons good97 (.cons good96 (.cons good82 (.cons hg (.cons good95 .nil)))))))) (by kernel_rfl) (by kernel_rfl) (by kernel_rfl) (by kernel_rfl) (by kernel_rfl) (by kernel_rfl) (by kernel_rfl) (by kernel_rfl) (by kernel_rfl)
theorem goodr70 : ∀ k, Eng.Good prog 70 (Eng.specOf [.v (.nm 1), .v (.sl (.int .i64))] [.v (.int .i64), .v (.bool)] (r70 k))
  | 0 => Eng.good_none (fn := f70) (by kernel_rfl) (c := Eng.bodyOf f70) (by kernel_rfl) (by kernel_rfl) _ _
  | k + 1 => Eng.good_rec (goodm70 (r70 k) (goodr70 k)) (r70_succ k)
theorem good70 : Eng.Good prog 70 sp70 := goodr70 100000
abbrev G34 := HIn NN.ρ [.v (.nm 1)] → Option (HRes NN.ρ [.v (.int .i64)] × HOut NN.ρ [.v (.nm 1)])
noncomputable def F34 (g34 : G34) : Eng.Fn NN := ⟨⟨(Eng.look tys), (lookS [(34, (Eng.specOf [.v (.nm 1)] [.v (.int .i64)] g34))]), Eng.look [(3, [1, 3, 4]), (7, [1, 3, 5]), (11, [1, 3, 6])], Eng.pinIds 0 [.v (.nm 1)]⟩, Eng.bodyOf Go.Proofs.Tryz.f34, [.tmp 2], 55⟩
noncomputable def r34 (k : Nat) : G34 := Nat.rec (motive := fun _ => G34) (fun _ => none) (fun _ g => (F34 g).run [.v (.nm 1)] [.v (.int .i64)] 4000000) k
theorem r34_succ (k : Nat) (x : HIn NN.ρ [.v (.nm 1)]) : r34 (k + 1) x = (F34 (r34 k)).run [.v (.nm 1)] [.v (.int .i64)] 4000000 x := rfl
noncomputable def R34 : G34 := r34 100000
noncomputable def sp34 : Eng.Spec NN := Eng.specOf [.v (.nm 1)] [.v (.int .i64)] R34
theorem goodm34 (g : G34) (hg : Eng.Good prog 34 (Eng.specOf [.v (.nm 1)] [.v (.int .i64)] g)) : Eng.Good prog 34 ((F34 g).spec [.v (.nm 1)] [.v (.int .i64)] 4000000) := Eng.good_fn (fn := f34) fits (by kernel_rfl) mixed (by kernel_rfl) (.cons hg .nil) (by kernel_rfl) (by kernel_rfl) (by kernel_rfl) (by kernel_rfl) (by kernel_rfl) (by kernel_rfl) (by kernel_rfl) (by kernel_rfl) (by kernel_rfl)
theorem goodr34 : ∀ k, Eng.Good prog 34 (Eng.specOf [.v (.nm 1)] [.v (.int .i64)] (r34 k))
  | 0 => Eng.good_none (fn := f34) (by kernel_rfl) (c := Eng.bodyOf f34) (by kernel_rfl) (by kernel_rfl) _ _
  | k + 1 => Eng.good_rec (goodm34 (r34 k) (goodr34 k)) (r34_succ k)
theorem good34 : Eng.Good prog 34 sp34 := goodr34 100000
noncomputable def F35 : Eng.Fn NN := ⟨⟨(Eng.look tys), (lookS [(70, sp70), (34, sp34)]), Eng.look [], Eng.pinIds 0 [.v (.nm 1), .v (.sl (.int .i64))]⟩, Eng.bodyOf Go.Proofs.Tryz.f35, [.tmp 4], 23⟩
noncomputable def sp35 : Eng.Spec NN := F35.spec [.v (.nm 1), .v (.sl (.int .i64))] [.v (.bool)] 4000000
theorem good35 : Eng.Good prog 35 sp35 := Eng.good_fn (fn := f35) fits (by kernel_rfl) mixed (by kernel_rfl) (.cons good70 (.cons good34 .nil)) (by kernel_rfl) (by kernel_rfl) (by kernel_rfl) (by kernel_rfl) (by kernel_rfl) (by kernel_rfl) (by kernel_rfl) (by kernel_rfl) (by kernel_rfl)
noncomputable def F36 : Eng.Fn NN := ⟨⟨(Eng.look tys), (lookS []), Eng.look [(1, [])], Eng.pinIds 0 []⟩, Eng.bodyOf Go.Proofs.Tryz.f36, [.tmp 0], 2⟩
noncomputable def sp36 : Eng.Spec NN := F36.spec [] [.own 3 (.int .i64)] 4000000
theorem good36 : Eng.Good prog 36 sp36 := Eng.good_fn (fn := f36) fits (by kernel_rfl) mixed (by kernel_rfl) .nil (by kernel_rfl) (by kernel_rfl) (by kernel_rfl) (by kernel_rfl) (by kernel_rfl) (by kernel_rfl) (by kernel_rfl) (by kernel_rfl) (by kernel_rfl)
abbrev G38 := HIn NN.ρ [.v (.nm 1), .v (.int .i64)] → Option (HRes NN.ρ [.v (.int .i64)] × HOut NN.ρ [.v (.nm 1), .v (.int .i64)])
noncomputable def F38 (g38 : G38) : Eng.Fn NN := ⟨⟨(Eng.look tys), (lookS [(38, (Eng.specOf [.v (.nm 1), .v (.int .i64)] [.v (.int .i64)] g38))]), Eng.look [(3, [1, 2, 5]), (5, [1, 2, 5])], Eng.pinIds 0 [.v (.nm 1), .v (.int .i64)]⟩, Eng.bodyOf Go.Proofs.Tryz.f38, [.tmp 4], 27⟩
noncomputable def r38 (k : Nat) : G38 := Nat.rec (motive := fun _ => G38) (fun _ => none) (fun _ g => (F38 g).run [.v (.nm 1), .v (.int .i64)] [.v (.int .i64)] 4000000) k
theorem r38_succ (k : Nat) (x : HIn NN.ρ [.v (.nm 1), .v (.int .i64)]) : r38 (k + 1) x = (F38 (r38 k)).run [.v (.nm 1), .v (.int .i64)] [.v (.int .i64)] 4000000 x := rfl
noncomputable def R38 : G38 := r38 100000
noncomputable def sp38 : Eng.Spec NN := Eng.specOf [.v (.nm 1), .v (.int .i64)] [.v (.int .i64)] R38
theorem goodm38 (g : G38) (hg : Eng.Good prog 38 (Eng.specOf [.v (.nm 1), .v (.int .i64)] [.v (.int .i64)] g)) : Eng.Good prog 38 ((F38 g).spec [.v (.nm 1), .v (.int .i64)] [.v (.int .i64)] 4000000) := Eng.good_fn (fn := f38) fits (by kernel_rfl) mixed (by kernel_rfl) (.cons hg .nil) (by kernel_rfl) (by kernel_rfl) (by kernel_rfl) (by kernel_rfl) (by kernel_rfl) (by kernel_rfl) (by kernel_rfl) (by kernel_rfl) (by kernel_rfl)
theorem goodr38 : ∀ k, Eng.Good prog 38 (Eng.specOf [.v (.nm 1), .v (.int .i64)] [.v (.int .i64)] (r38 k))
  | 0 => Eng.good_none (fn := f38) (by kernel_rfl) (c := Eng.bodyOf f38) (by kernel_rfl) (by kernel_rfl) _ _
  | k + 1 => Eng.good_rec (goodm38 (r38 k) (goodr38 k)) (r38_succ k)
theorem good38 : Eng.Good prog 38 sp38 := goodr38 100000
noncomputable def F11 : Eng.Fn NN := ⟨⟨(Eng.look tys), (lookS [(35, sp35), (36, sp36), (38, sp38)]), Eng.look [], Eng.pinIds 0 [.v (.nm 1)]⟩, Eng.bodyOf Go.Proofs.Tryz.f11, [.tmp 2], 11⟩
noncomputable def sp11 : Eng.Spec NN := F11.spec [.v (.nm 1)] [.v (.bool)] 4000000
theorem good11 : Eng.Good prog 11 sp11 := Eng.good_fn (fn := f11) fits (by kernel_rfl) mixed (by kernel_rfl) (.cons good35 (.cons good36 (.cons good38 .nil))) (by kernel_rfl) (by kernel_rfl) (by kernel_rfl) (by kernel_rfl) (by kernel_rfl) (by kernel_rfl) (by kernel_rfl) (by kernel_rfl) (by kernel_rfl)
noncomputable def F16 : Eng.Fn NN := ⟨⟨(Eng.look tys), (lookS [(11, sp11)]), Eng.look [(2, [0, 3]), (4, [0, 3])], Eng.pinIds 0 [.v (.sl (.nm 1))]⟩, Eng.bodyOf Go.Proofs.Tryz.f16, [.tmp 2], 23⟩
noncomputable def sp16 : Eng.Spec NN := F16.spec [.v (.sl (.nm 1))] [.v (.bool)] 4000000
theorem good16 : Eng.Good prog 16 sp16 := Eng.good_fn (fn := f16) fits (by kernel_rfl) mixed (by kernel_rfl) (.cons good11 .nil) (by kernel_rfl) (by kernel_rfl) (by kernel_rfl) (by kernel_rfl) (by kernel_rfl) (by kernel_rfl) (by kernel_rfl) (by kernel_rfl) (by kernel_rfl)
noncomputable def F4 : Eng.Fn NN := ⟨⟨(Eng.look tys), (lookS [(12, sp12), (19, sp19), (18, sp18), (17, sp17), (16, sp16)]), Eng.look [(7, [5, 7]), (8, [5, 7, 9])], Eng.pinIds 0 [.v (.sl (.nm 1)), .v (.int .i64)]⟩, Eng.bodyOf Go.Proofs.Tryz.f4, [.tmp 4], 53⟩
noncomputable def sp4 : Eng.Spec NN := F4.spec [.v (.sl (.nm 1)), .v (.int .i64)] [.v (.bool)] 4000000
theorem good4 : Eng.Good prog 4 sp4 := Eng.good_fn (fn := f4) fits (by kernel_rfl) mixed (by kernel_rfl) (.cons good12 (.cons good19 (.cons good18 (.cons good17 (.cons good16 .nil))))) (by kernel_rfl) (by kernel_rfl) (by kernel_rfl) (by kernel_rfl) (by kernel_rfl) (by kernel_rfl) (by kernel_rfl) (by kernel_rfl) (by kernel_rfl)
noncomputable def F107 : Eng.Fn NN := ⟨⟨(Eng.look tys), (lookS []), Eng.look [(2, [0, 1, 5])], Eng.pinIds 0 [.v (.int .i64), .v (.sl (.int .i64))]⟩, Eng.bodyOf Go.Proofs.Tryz.f107, [.tmp 4], 18⟩
noncomputable def sp107 : Eng.Spec NN := F107.spec [.v (.int .i64), .v (.sl (.int .i64))] [.v (.bool)] 4000000
theorem good107 : Eng.Good prog 107 sp107 := Eng.good_fn (fn := f107) fits (by kernel_rfl) mixed (by kernel_rfl) .nil (by kernel_rfl) (by kernel_rfl) (by kernel_rfl) (by kernel_rfl) (by kernel_rfl) (by kernel_rfl) (by kernel_rfl) (by kernel_rfl) (by kernel_rfl)
abbrev G80 := HIn NN.ρ [.v (.nm 1), .v (.sl (.int .i64))] → Option (HRes NN.ρ [.v (.bool)] × HOut NN.ρ [.v (.nm 1), .v (.sl (.int .i64))])
noncomputable def F80 (g80 : G80) : Eng.Fn NN := ⟨⟨(Eng.look tys), (lookS [(80, (Eng.specOf [.v (.nm 1), .v (.sl (.int .i64))] [.v (.bool)] g80)), (107, sp107)]), Eng.look [(14, [5, 6])], Eng.pinIds 0 [.v (.nm 1), .v (.sl (.int .i64))]⟩, Eng.bodyOf Go.Proofs.Tryz.f80, [.tmp 4], 61⟩
noncomputable def r80 (k : Nat) : G80 := Nat.rec (motive := fun _ => G80) (fun _ => none) (fun _ g => (F80 g).run [.v (.nm 1), .v (.sl (.int .i64))] [.v (.bool)] 4000000) k
theorem r80_succ (k : Nat) (x : HIn NN.ρ [.v (.nm 1), .v (.sl (.int .i64))]) : r80 (k + 1) x = (F80 (r80 k)).run [.v (.nm 1), .v (.sl (.int .i64))] [.v (.bool)] 4000000 x := rfl
noncomputable def R80 : G80 := r80 100000
noncomputable def sp80 : Eng.Spec NN := Eng.specOf [.v (.nm 1), .v (.sl (.int .i64))] [.v (.bool)] R80
theorem goodm80 (g : G80) (hg : Eng.Good prog 80 (Eng.specOf [.v (.nm 1), .v (.sl (.int .i64))] [.v (.bool)] g)) : Eng.Good prog 80 ((F80 g).spec [.v (.nm 1), .v (.sl (.int .i64))] [.v (.bool)] 4000000) := Eng.good_fn (fn := f80) fits (by kernel_rfl) mixed (by kernel_rfl) (.cons hg (.cons good107 .nil)) (by kernel_rfl) (by kernel_rfl) (by kernel_rfl) (by kernel_rfl) (by kernel_rfl) (by kernel_rfl) (by kernel_rfl) (by kernel_rfl) (by kernel_rfl)
theorem goodr80 : ∀ k, Eng.Good prog 80 (Eng.specOf [.v (.nm 1), .v (.sl (.int .i64))] [.v (.bool)] (r80 k))
  | 0 => Eng.good_none (fn := f80) (by kernel_rfl) (c := Eng.bodyOf f80) (by kernel_rfl) (by kernel_rfl) _ _
  | k + 1 => Eng.good_rec (goodm80 (r80 k) (goodr80 k)) (r80_succ k)
theorem good80 : Eng.Good prog 80 sp80 := goodr80 100000
noncomputable def F108 : Eng.Fn NN := ⟨⟨(Eng.look tys), (lookS []), Eng.look [], Eng.pinIds 0 [.v (.nm 0)]⟩, Eng.bodyOf Go.Proofs.Tryz.f108, [.tmp 2], 11⟩
noncomputable def sp108 : Eng.Spec NN := F108.spec [.v (.nm 0)] [.v (.bool)] 4000000
theorem good108 : Eng.Good prog 108 sp108 := Eng.good_fn (fn := f108) fits (by kernel_rfl) mixed (by kernel_rfl) .nil (by kernel_rfl) (by kernel_rfl) (by kernel_rfl) (by kernel_rfl) (by kernel_rfl) (by kernel_rfl) (by kernel_rfl) (by kernel_rfl) (by kernel_rfl)
noncomputable def F81 : Eng.Fn NN := ⟨⟨(Eng.look tys), (lookS [(108, sp108)]), Eng.look [], Eng.pinIds 0 [.v (.nm 1)]⟩, Eng.bodyOf Go.Proofs.Tryz.f81, [.tmp 2], 11⟩
noncomputable def sp81 : Eng.Spec NN := F81.spec [.v (.nm 1)] [.v (.bool)] 4000000
theorem good81 : Eng.Good prog 81 sp81 := Eng.good_fn (fn := f81) fits (by kernel_rfl) mixed (by kernel_rfl) (.cons good108 .nil) (by kernel_rfl) (by kernel_rfl) (by kernel_rfl) (by kernel_rfl) (by kernel_rfl) (by kernel_rfl) (by kernel_rfl) (by kernel_rfl) (by kernel_rfl)
noncomputable def F49 : Eng.Fn NN := ⟨⟨(Eng.look tys), (lookS []), Eng.look [], Eng.pinIds 0 [.v (.nm 0)]⟩, Eng.bodyOf Go.Proofs.Tryz.f49, [.tmp 2], 11⟩
noncomputable def sp49 : Eng.Spec NN := F49.spec [.v (.nm 0)] [.v (.bool)] 4000000
theorem good49 : Eng.Good prog 49 sp49 := Eng.good_fn (fn := f49) fits (by kernel_rfl) mixed (by kernel_rfl) .nil (by kernel_rfl) (by kernel_rfl) (by kernel_rfl) (by kernel_rfl) (by kernel_rfl) (by kernel_rfl) (by kernel_rfl) (by kernel_rfl) (by kernel_rfl)
noncomputable def F51 : Eng.Fn NN := ⟨⟨(Eng.look tys), (lookS [(49, sp49)]), Eng.look [], Eng.pinIds 0 [.v (.nm 1)]⟩, Eng.bodyOf Go.Proofs.Tryz.f51, [.tmp 2], 11⟩
noncomputable def sp51 : Eng.Spec NN := F51.spec [.v (.nm 1)] [.v (.bool)] 4000000
theorem good51 : Eng.Good prog 51 sp51 := Eng.good_fn (fn := f51) fits (by kernel_rfl) mixed (by kernel_rfl) (.cons good49 .nil) (by kernel_rfl) (by kernel_rfl) (by kernel_rfl) (by kernel_rfl) (by kernel_rfl) (by kernel_rfl) (by kernel_rfl) (by kernel_rfl) (by kernel_rfl)
abbrev G47 := HIn NN.ρ [.v (.nm 1), .v (.sl (.int .i64)), .v (.bool)] → Option (HRes NN.ρ [.v (.bool)] × HOut NN.ρ [.v (.nm 1), .v (.sl (.int .i64)), .v (.bool)])
noncomputable def F47 (g47 : G47) : Eng.Fn NN := ⟨⟨(Eng.look tys), (lookS [(47, (Eng.specOf [.v (.nm 1), .v (.sl (.int .i64)), .v (.bool)] [.v (.bool)] g47)), (80, sp80), (81, sp81), (51, sp51)]), Eng.look [(15, [1, 2, 3])], Eng.pinIds 0 [.v (.nm 1), .v (.sl (.int .i64)), .v (.bool)]⟩, Eng.bodyOf Go.Proofs.Tryz.f47, [.tmp 6], 82⟩
noncomputable def r47 (k : Nat) : G47 := Nat.rec (motive := fun _ => G47) (fun _ => none) (fun _ g => (F47 g).run [.v (.nm 1), .v (.sl (.int .i64)), .v (.bool)] [.v (.bool)] 4000000) k
theorem r47_succ (k : Nat) (x : HIn NN.ρ [.v (.nm 1), .v (.sl (.int .i64)), .v (.bool)]) : r47 (k + 1) x = (F47 (r47 k)).run [.v (.nm 1), .v (.sl (.int .i64)), .v (.bool)] [.v (.bool)] 4000000 x := rfl
noncomputable def R47 : G47 := r47 100000
noncomputable def sp47 : Eng.Spec NN := Eng.specOf [.v (.nm 1), .v (.sl (.int .i64)), .v (.bool)] [.v (.bool)] R47
theorem goodm47 (g : G47) (hg : Eng.Good prog 47 (Eng.specOf [.v (.nm 1), .v (.sl (.int .i64)), .v (.bool)] [.v (.bool)] g)) : Eng.Good prog 47 ((F47 g).spec [.v (.nm 1), .v (.sl (.int .i64)), .v (.bool)] [.v (.bool)] 4000000) := Eng.good_fn (fn := f47) fits (by kernel_rfl) mixed (by kernel_rfl) (.cons hg (.cons good80 (.cons good81 (.cons good51 .nil)))) (by kernel_rfl) (by kernel_rfl) (by kernel_rfl) (by kernel_rfl) (by kernel_rfl) (by kernel_rfl) (by kernel_rfl) (by kernel_rfl) (by kernel_rfl)
theorem goodr47 : ∀ k, Eng.Good prog 47 (Eng.specOf [.v (.nm 1), .v (.sl (.int .i64)), .v (.bool)] [.v (.bool)] (r47 k))
  | 0 => Eng.good_none (fn := f47) (by kernel_rfl) (c := Eng.bodyOf f47) (by kernel_rfl) (by kernel_rfl) _ _
  | k + 1 => Eng.good_rec (goodm47 (r47 k) (goodr47 k)) (r47_succ k)
theorem good47 : Eng.Good prog 47 sp47 := goodr47 100000
noncomputable def F21 : Eng.Fn NN := ⟨⟨(Eng.look tys), (lookS [(47, sp47)]), Eng.look [], Eng.pinIds 0 [.v (.nm 1), .v (.sl (.int .i64))]⟩, Eng.bodyOf Go.Proofs.Tryz.f21, [.tmp 4], 8⟩
noncomputable def sp21 : Eng.Spec NN := F21.spec [.v (.nm 1), .v (.sl (.int .i64))] [.v (.bool)] 4000000
theorem good21 : Eng.Good prog 21 sp21 := Eng.good_fn (fn := f21) fits (by kernel_rfl) mixed (by kernel_rfl) (.cons good47 .nil) (by kernel_rfl) (by kernel_rfl) (by kernel_rfl) (by kernel_rfl) (by kernel_rfl) (by kernel_rfl) (by kernel_rfl) (by kernel_rfl) (by kernel_rfl)
noncomputable def F5 : Eng.Fn NN := ⟨⟨(Eng.look tys), (lookS [(12, sp12), (21, sp21), (20, sp20), (11, sp11)]), Eng.look [(3, [1, 2])], Eng.pinIds 0 [.v (.nm 1), .v (.sl (.int .i64))]⟩, Eng.bodyOf Go.Proofs.Tryz.f5, [.tmp 4], 24⟩
noncomputable def sp5 : Eng.Spec NN := F5.spec [.v (.nm 1), .v (.sl (.int .i64))] [.v (.bool)] 4000000
theorem good5 : Eng.Good prog 5 sp5 := Eng.good_fn (fn := f5) fits (by kernel_rfl) mixed (by kernel_rfl) (.cons good12 (.cons good21 (.cons good20 (.cons good11 .nil)))) (by kernel_rfl) (by kernel_rfl) (by kernel_rfl) (by kernel_rfl) (by kernel_rfl) (by kernel_rfl) (by kernel_rfl) (by kernel_rfl) (by kernel_rfl)
noncomputable def F53 : Eng.Fn NN := ⟨⟨(Eng.look tys), (lookS []), Eng.look [], Eng.pinIds 0 [.v (.nm 0)]⟩, Eng.bodyOf Go.Proofs.Tryz.f53, [.cell 2 27], 7⟩
noncomputable def sp53 : Eng.Spec NN := F53.spec [.v (.nm 0)] [.v (.nm 1)] 4000000
theorem good53 : Eng.Good prog 53 sp53 := Eng.good_fn (fn := f53) fits (by kernel_rfl) mixed (by kernel_rfl) .nil (by kernel_rfl) (by kernel_rfl) (by kernel_rfl) (by kernel_rfl) (by kernel_rfl) (by kernel_rfl) (by kernel_rfl) (by kernel_rfl) (by kernel_rfl)
noncomputable def F54 : Eng.Fn NN := ⟨⟨(Eng.look tys), (lookS []), Eng.look [], Eng.pinIds 0 [.v (.bool)]⟩, Eng.bodyOf Go.Proofs.Tryz.f54, [.cell 2 23], 6⟩
noncomputable def sp54 : Eng.Spec NN := F54.spec [.v (.bool)] [.v (.nm 0)] 4000000
theorem good54 : Eng.Good prog 54 sp54 := Eng.good_fn (fn := f54) fits (by kernel_rfl) mixed (by kernel_rfl) .nil (by kernel_rfl) (by kernel_rfl) (by kernel_rfl) (by kernel_rfl) (by kernel_rfl) (by kernel_rfl) (by kernel_rfl) (by kernel_rfl) (by kernel_rfl)
noncomputable def F27 : Eng.Fn NN := ⟨⟨(Eng.look tys), (lookS [(53, sp53), (54, sp54)]), Eng.look [(5, [0, 2, 3, 4])], Eng.pinIds 0 [.v (.sl (.nm 1))]⟩, Eng.bodyOf Go.Proofs.Tryz.f27, [.cell 2 27], 27⟩
noncomputable def sp27 : Eng.Spec NN := F27.spec [.v (.sl (.nm 1))] [.v (.nm 1)] 4000000
theorem good27 : Eng.Good prog 27 sp27 := Eng.good_fn (fn := f27) fits (by kernel_rfl) mixed (by kernel_rfl) (.cons good53 (.cons good54 .nil)) (by kernel_rfl) (by kernel_rfl) (by kernel_rfl) (by kernel_rfl) (by kernel_rfl) (by kernel_rfl) (by kernel_rfl) (by kernel_rfl) (by kernel_rfl)
noncomputable def F26 : Eng.Fn NN := ⟨⟨(Eng.look tys), (lookS [(52, sp52)]), Eng.look [(5, [2, 3, 14, 15, 16])], Eng.pinIds 0 [.v (.sl (.nm 1))]⟩, Eng.bodyOf Go.Proofs.Tryz.f26, [.cell 2 27], 26⟩
noncomputable def sp26 : Eng.Spec NN := F26.spec [.v (.sl (.nm 1))] [.v (.nm 1)] 4000000
theorem good26 : Eng.Good prog 26 sp26 := Eng.good_fn (fn := f26) fits (by kernel_rfl) mixed (by kernel_rfl) (.cons good52 .nil) (by kernel_rfl) (by kernel_rfl) (by kernel_rfl) (by kernel_rfl) (by kernel_rfl) (by kernel_rfl) (by kernel_rfl) (by kernel_rfl) (by kernel_rfl)
abbrev G25 := HIn NN.ρ [.v (.nm 1)] → Option (HRes NN.ρ [.own 27 (.nm 1)] × HOut NN.ρ [.v (.nm 1)])
noncomputable def F25 (g25 : G25) : Eng.Fn NN := ⟨⟨(Eng.look tys), (lookS [(25, (Eng.specOf [.v (.nm 1)] [.own 27 (.nm 1)] g25)), (51, sp51)]), Eng.look [(1, [1]), (5, [1]), (8, [3, 4, 5])], Eng.pinIds 0 [.v (.nm 1)]⟩, Eng.bodyOf Go.Proofs.Tryz.f25, [.tmp 2], 42⟩
noncomputable def r25 (k : Nat) : G25 := Nat.rec (motive := fun _ => G25) (fun _ => none) (fun _ g => (F25 g).run [.v (.nm 1)] [.own 27 (.nm 1)] 4000000) k
theorem r25_succ (k : Nat) (x : HIn NN.ρ [.v (.nm 1)]) : r25 (k + 1) x = (F25 (r25 k)).run [.v (.nm 1)] [.own 27 (.nm 1)] 4000000 x := rfl
noncomputable def R25 : G25 := r25 100000
noncomputable def sp25 : Eng.Spec NN := Eng.specOf [.v (.nm 1)] [.own 27 (.nm 1)] R25
theorem goodm25 (g : G25) (hg : Eng.Good prog 25 (Eng.specOf [.v (.nm 1)] [.own 27 (.nm 1)] g)) : Eng.Good prog 25 ((F25 g).spec [.v (.nm 1)] [.own 27 (.nm 1)] 4000000) := Eng.good_fn (fn := f25) fits (by kernel_rfl) mixed (by kernel_rfl) (.cons hg (.cons good51 .nil)) (by kernel_rfl) (by kernel_rfl) (by kernel_rfl) (by kernel_rfl) (by kernel_rfl) (by kernel_rfl) (by kernel_rfl) (by kernel_rfl) (by kernel_rfl)
theorem goodr25 : ∀ k, Eng.Good prog 25 (Eng.specOf [.v (.nm 1)] [.own 27 (.nm 1)] (r25 k))
  | 0 => Eng.good_none (fn := f25) (by kernel_rfl) (c := Eng.bodyOf f25) (by kernel_rfl) (by kernel_rfl) _ _
  | k + 1 => Eng.good_rec (goodm25 (r25 k) (goodr25 k)) (r25_succ k)
theorem good25 : Eng.Good prog 25 sp25 := goodr25 100000
noncomputable def F7 : Eng.Fn NN := ⟨⟨(Eng.look tys), (lookS [(12, sp12), (13, sp13), (27, sp27), (26, sp26), (19, sp19), (25, sp25), (24, sp24), (16, sp16), (11, sp11)]), Eng.look [(3, [1, 2]), (4, [1, 2, 5])], Eng.pinIds 0 [.v (.nm 1), .v (.sl (.nm 1))]⟩, Eng.bodyOf Go.Proofs.Tryz.f7, [.tmp 4], 51⟩
noncomputable def sp7 : Eng.Spec NN := F7.spec [.v (.nm 1), .v (.sl (.nm 1))] [.v (.bool)] 4000000
theorem good7 : Eng.Good prog 7 sp7 := Eng.good_fn (fn := f7) fits (by kernel_rfl) mixed (by kernel_rfl) (.cons good12 (.cons good13 (.cons good27 (.cons good26 (.cons good19 (.cons good25 (.cons good24 (.cons good16 (.cons good11 .nil))))))))) (by kernel_rfl) (by kernel_rfl) (by kernel_rfl) (by kernel_rfl) (by kernel_rfl) (by kernel_rfl) (by kernel_rfl) (by kernel_rfl) (by kernel_rfl)
noncomputable def F59 : Eng.Fn NN := ⟨⟨(Eng.look tys), (lookS []), Eng.look [], Eng.pinIds 0 [.v (.int .i64)]⟩, Eng.bodyOf Go.Proofs.Tryz.f59, [.tmp 2], 13⟩
noncomputable def sp59 : Eng.Spec NN := F59.spec [.v (.int .i64)] [.v (.int .i64)] 4000000
theorem good59 : Eng.Good prog 59 sp59 := Eng.good_fn (fn := f59) fits (by kernel_rfl) mixed (by kernel_rfl) .nil (by kernel_rfl) (by kernel_rfl) (by kernel_rfl) (by kernel_rfl) (by kernel_rfl) (by kernel_rfl) (by kernel_rfl) (by kernel_rfl) (by kernel_rfl)
noncomputable def F58 : Eng.Fn NN := ⟨⟨(Eng.look tys), (lookS []), Eng.look [], Eng.pinIds 0 [.v (.nm 1)]⟩, Eng.bodyOf Go.Proofs.Tryz.f58, [.tmp 2, .tmp 3], 20⟩
noncomputable def sp58 : Eng.Spec NN := F58.spec [.v (.nm 1)] [.v (.int .i64), .v (.bool)] 4000000
theorem good58 : Eng.Good prog 58 sp58 := Eng.good_fn (fn := f58) fits (by kernel_rfl) mixed (by kernel_rfl) .nil (by kernel_rfl) (by kernel_rfl) (by kernel_rfl) (by kernel_rfl) (by kernel_rfl) (by kernel_rfl) (by kernel_rfl) (by kernel_rfl) (by kernel_rfl)
noncomputable def F29 : Eng.Fn NN := ⟨⟨(Eng.look tys), (lookS [(59, sp59), (58, sp58)]), Eng.look [(8, [1, 2]), (10, [1, 2]), (13, [1, 2, 6, 7])], Eng.pinIds 0 [.v (.nm 1)]⟩, Eng.bodyOf Go.Proofs.Tryz.f29, [.cell 2 50, .tmp 3], 84⟩
noncomputable def sp29 : Eng.Spec NN := F29.spec [.v (.nm 1)] [.v (.nm 3), .v (.bool)] 4000000
theorem good29 : Eng.Good prog 29 sp29 := Eng.good_fn (fn := f29) fits (by kernel_rfl) mixed (by kernel_rfl) (.cons good59 (.cons good58 .nil)) (by kernel_rfl) (by kernel_rfl) (by kernel_rfl) (by kernel_rfl) (by kernel_rfl) (by kernel_rfl) (by kernel_rfl) (by kernel_rfl) (by kernel_rfl)
noncomputable def F31 : Eng.Fn NN := ⟨⟨(Eng.look tys), (lookS [(29, sp29)]), Eng.look [(1, [0]), (4, [0, 4, 5, 6])], Eng.pinIds 0 [.v (.sl (.nm 1))]⟩, Eng.bodyOf Go.Proofs.Tryz.f31, [.tmp 2, .tmp 3], 37⟩
noncomputable def sp31 : Eng.Spec NN := F31.spec [.v (.sl (.nm 1))] [.own 50 (.nm 3), .own 27 (.nm 1)] 4000000
theorem good31 : Eng.Good prog 31 sp31 := Eng.good_fn (fn := f31) fits (by kernel_rfl) mixed (by kernel_rfl) (.cons good29 .nil) (by kernel_rfl) (by kernel_rfl) (by kernel_rfl) (by kernel_rfl) (by kernel_rfl) (by kernel_rfl) (by kernel_rfl) (by kernel_rfl) (by kernel_rfl)
noncomputable def F30 : Eng.Fn NN := ⟨⟨(Eng.look tys), (lookS [(28, sp28)]), Eng.look [(1, [0, 2, 3]), (2, [2, 3, 8, 9, 10])], Eng.pinIds 0 [.v (.sl (.nm 1))]⟩, Eng.bodyOf Go.Proofs.Tryz.f30, [.tmp 2, .tmp 3], 31⟩
noncomputable def sp30 : Eng.Spec NN := F30.spec [.v (.sl (.nm 1))] [.own 50 (.nm 3), .own 27 (.nm 1)] 4000000
theorem good30 : Eng.Good prog 30 sp30 := Eng.good_fn (fn := f30) fits (by kernel_rfl) mixed (by kernel_rfl) (.cons good28 .nil) (by kernel_rfl) (by kernel_rfl) (by kernel_rfl) (by kernel_rfl) (by kernel_rfl) (by kernel_rfl) (by kernel_rfl) (by kernel_rfl) (by kernel_rfl)
noncomputable def F8 : Eng.Fn NN := ⟨⟨(Eng.look tys), (lookS [(12, sp12), (19, sp19), (31, sp31), (30, sp30), (29, sp29), (28, sp28), (16, sp16), (11, sp11)]), Eng.look [(3, [1, 2]), (9, [9, 11]), (10, [9, 11, 13])], Eng.pinIds 0 [.v (.nm 1), .v (.sl (.nm 1))]⟩, Eng.bodyOf Go.Proofs.Tryz.f8, [.tmp 4], 80⟩
noncomputable def sp8 : Eng.Spec NN := F8.spec [.v (.nm 1), .v (.sl (.nm 1))] [.v (.bool)] 4000000
theorem good8 : Eng.Good prog 8 sp8 := Eng.good_fn (fn := f8) fits (by kernel_rfl) mixed (by kernel_rfl) (.cons good12 (.cons good19 (.cons good31 (.cons good30 (.cons good29 (.cons good28 (.cons good16 (.cons good11 .nil)))))))) (by kernel_rfl) (by kernel_rfl) (by kernel_rfl) (by kernel_rfl) (by kernel_rfl) (by kernel_rfl) (by kernel_rfl) (by kernel_rfl) (by kernel_rfl)
end Go.Proofs.Tryz
