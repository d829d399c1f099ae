/- The functions of the program as the engine follows them (printed by a program of ours): their code, what is known of them, and the equations of their runs. -/
import Derived.Test.YtgfklnmckakclaaGreatDoorL40Base
set_option linter.unusedVariables false
set_option maxRecDepth 20000
namespace Go.Proofs.Tryz
open Go.Eng
noncomputable def F83 : Eng.Fn NN := ⟨⟨(Eng.look tys), (lookS []), Eng.look [], Eng.pinIds 0 [.v (.nm 0)]⟩, Eng.bodyOf Go.Proofs.Tryz.f83, [.cell 2 27], 7⟩
noncomputable def sp83 : Eng.Spec NN := F83.spec [.v (.nm 0)] [.v (.nm 1)] 4000000
theorem good83 : Eng.Good prog 83 sp83 := Eng.good_fn (fn := f83) fits (by kernel_rfl) mixed (by kernel_rfl) .nil (by kernel_rfl) (by kernel_rfl) (by kernel_rfl) (by kernel_rfl) (by kernel_rfl) (by kernel_rfl) (by kernel_rfl) (by kernel_rfl) (by kernel_rfl)
noncomputable def F52 : Eng.Fn NN := ⟨⟨(Eng.look tys), (lookS [(83, sp83)]), Eng.look [], Eng.pinIds 0 [.v (.bool)]⟩, Eng.bodyOf Go.Proofs.Tryz.f52, [.cell 2 27], 9⟩
noncomputable def sp52 : Eng.Spec NN := F52.spec [.v (.bool)] [.v (.nm 1)] 4000000
theorem good52 : Eng.Good prog 52 sp52 := Eng.good_fn (fn := f52) fits (by kernel_rfl) mixed (by kernel_rfl) (.cons good83 .nil) (by kernel_rfl) (by kernel_rfl) (by kernel_rfl) (by kernel_rfl) (by kernel_rfl) (by kernel_rfl) (by kernel_rfl) (by kernel_rfl) (by kernel_rfl)
noncomputable def F50 : Eng.Fn NN := ⟨⟨(Eng.look tys), (lookS [(52, sp52)]), Eng.look [], Eng.pinIds 0 [.v (.nm 1), .v (.bool)]⟩, Eng.bodyOf Go.Proofs.Tryz.f50, [.tmp 4], 16⟩
noncomputable def sp50 : Eng.Spec NN := F50.spec [.v (.nm 1), .v (.bool)] [.v (.bool)] 4000000
theorem good50 : Eng.Good prog 50 sp50 := Eng.good_fn (fn := f50) fits (by kernel_rfl) mixed (by kernel_rfl) (.cons good52 .nil) (by kernel_rfl) (by kernel_rfl) (by kernel_rfl) (by kernel_rfl) (by kernel_rfl) (by kernel_rfl) (by kernel_rfl) (by kernel_rfl) (by kernel_rfl)
abbrev G24 := HIn NN.ρ [.v (.nm 1)] → Option (HRes NN.ρ [.own 27 (.nm 1)] × HOut NN.ρ [.v (.nm 1)])
noncomputable def F24 (g24 : G24) : Eng.Fn NN := ⟨⟨(Eng.look tys), (lookS [(24, (Eng.specOf [.v (.nm 1)] [.own 27 (.nm 1)] g24)), (50, sp50)]), Eng.look [(1, [1])], Eng.pinIds 0 [.v (.nm 1)]⟩, Eng.bodyOf Go.Proofs.Tryz.f24, [.tmp 2], 28⟩
noncomputable def r24 (k : Nat) : G24 := Nat.rec (motive := fun _ => G24) (fun _ => none) (fun _ g => (F24 g).run [.v (.nm 1)] [.own 27 (.nm 1)] 4000000) k
theorem r24_succ (k : Nat) (x : HIn NN.ρ [.v (.nm 1)]) : r24 (k + 1) x = (F24 (r24 k)).run [.v (.nm 1)] [.own 27 (.nm 1)] 4000000 x := rfl
noncomputable def R24 : G24 := r24 100000
noncomputable def sp24 : Eng.Spec NN := Eng.specOf [.v (.nm 1)] [.own 27 (.nm 1)] R24
theorem goodm24 (g : G24) (hg : Eng.Good prog 24 (Eng.specOf [.v (.nm 1)] [.own 27 (.nm 1)] g)) : Eng.Good prog 24 ((F24 g).spec [.v (.nm 1)] [.own 27 (.nm 1)] 4000000) := Eng.good_fn (fn := f24) fits (by kernel_rfl) mixed (by kernel_rfl) (.cons hg (.cons good50 .nil)) (by kernel_rfl) (by kernel_rfl) (by kernel_rfl) (by kernel_rfl) (by kernel_rfl) (by kernel_rfl) (by kernel_rfl) (by kernel_rfl) (by kernel_rfl)
theorem goodr24 : ∀ k, Eng.Good prog 24 (Eng.specOf [.v (.nm 1)] [.own 27 (.nm 1)] (r24 k))
  | 0 => Eng.good_none (fn := f24) (by kernel_rfl) (c := Eng.bodyOf f24) (by kernel_rfl) (by kernel_rfl) _ _
  | k + 1 => Eng.good_rec (goodm24 (r24 k) (goodr24 k)) (r24_succ k)
theorem good24 : Eng.Good prog 24 sp24 := goodr24 100000
noncomputable def F79 : Eng.Fn NN := ⟨⟨(Eng.look tys), (lookS []), Eng.look [], Eng.pinIds 0 [.v (.int .i64), .v (.nm 5), .v (.nm 5)]⟩, Eng.bodyOf Go.Proofs.Tryz.f79, [.cell 6 69], 57⟩
noncomputable def sp79 : Eng.Spec NN := F79.spec [.v (.int .i64), .v (.nm 5), .v (.nm 5)] [.v (.nm 5)] 4000000
theorem good79 : Eng.Good prog 79 sp79 := Eng.good_fn (fn := f79) fits (by kernel_rfl) mixed (by kernel_rfl) .nil (by kernel_rfl) (by kernel_rfl) (by kernel_rfl) (by kernel_rfl) (by kernel_rfl) (by kernel_rfl) (by kernel_rfl) (by kernel_rfl) (by kernel_rfl)
noncomputable def F106 : Eng.Fn NN := ⟨⟨(Eng.look tys), (lookS []), Eng.look [(2, [0, 1, 7, 8])], Eng.pinIds 0 [.v (.sl (.int .i64)), .v (.int .i64)]⟩, Eng.bodyOf Go.Proofs.Tryz.f106, [.tmp 4], 19⟩
noncomputable def sp106 : Eng.Spec NN := F106.spec [.v (.sl (.int .i64)), .v (.int .i64)] [.v (.int .i64)] 4000000
theorem good106 : Eng.Good prog 106 sp106 := Eng.good_fn (fn := f106) fits (by kernel_rfl) mixed (by kernel_rfl) .nil (by kernel_rfl) (by kernel_rfl) (by kernel_rfl) (by kernel_rfl) (by kernel_rfl) (by kernel_rfl) (by kernel_rfl) (by kernel_rfl) (by kernel_rfl)
noncomputable def F78 : Eng.Fn NN := ⟨⟨(Eng.look tys), (lookS [(106, sp106)]), Eng.look [], Eng.pinIds 0 [.v (.sl (.int .i64)), .v (.int .i64)]⟩, Eng.bodyOf Go.Proofs.Tryz.f78, [.tmp 4], 9⟩
noncomputable def sp78 : Eng.Spec NN := F78.spec [.v (.sl (.int .i64)), .v (.int .i64)] [.v (.bool)] 4000000
theorem good78 : Eng.Good prog 78 sp78 := Eng.good_fn (fn := f78) fits (by kernel_rfl) mixed (by kernel_rfl) (.cons good106 .nil) (by kernel_rfl) (by kernel_rfl) (by kernel_rfl) (by kernel_rfl) (by kernel_rfl) (by kernel_rfl) (by kernel_rfl) (by kernel_rfl) (by kernel_rfl)
abbrev G46 := HIn NN.ρ [.v (.nm 1), .v (.sl (.int .i64))] → Option (HRes NN.ρ [.v (.nm 5)] × HOut NN.ρ [.v (.nm 1), .v (.sl (.int .i64))])
noncomputable def F46 (g46 : G46) : Eng.Fn NN := ⟨⟨(Eng.look tys), (lookS [(79, sp79), (78, sp78), (50, sp50), (46, (Eng.specOf [.v (.nm 1), .v (.sl (.int .i64))] [.v (.nm 5)] g46))]), Eng.look [(1, [1, 2, 4]), (4, [1, 2, 4, 5, 18, 19, 20]), (8, [1, 2, 4, 5]), (23, [4, 8])], Eng.pinIds 0 [.v (.nm 1), .v (.sl (.int .i64))]⟩, Eng.bodyOf Go.Proofs.Tryz.f46, [.cell 4 69], 99⟩
noncomputable def r46 (k : Nat) : G46 := Nat.rec (motive := fun _ => G46) (fun _ => none) (fun _ g => (F46 g).run [.v (.nm 1), .v (.sl (.int .i64))] [.v (.nm 5)] 4000000) k
theorem r46_succ (k : Nat) (x : HIn NN.ρ [.v (.nm 1), .v (.sl (.int .i64))]) : r46 (k + 1) x = (F46 (r46 k)).run [.v (.nm 1), .v (.sl (.int .i64))] [.v (.nm 5)] 4000000 x := rfl
noncomputable def R46 : G46 := r46 100000
noncomputable def sp46 : Eng.Spec NN := Eng.specOf [.v (.nm 1), .v (.sl (.int .i64))] [.v (.nm 5)] R46
theorem goodm46 (g : G46) (hg : Eng.Good prog 46 (Eng.specOf [.v (.nm 1), .v (.sl (.int .i64))] [.v (.nm 5)] g)) : Eng.Good prog 46 ((F46 g).spec [.v (.nm 1), .v (.sl (.int .i64))] [.v (.nm 5)] 4000000) := Eng.good_fn (fn := f46) fits (by kernel_rfl) mixed (by kernel_rfl) (.cons good79 (.cons good78 (.cons good50 (.cons hg .nil)))) (by kernel_rfl) (by kernel_rfl) (by kernel_rfl) (by kernel_rfl) (by kernel_rfl) (by kernel_rfl) (by kernel_rfl) (by kernel_rfl) (by kernel_rfl)
theorem goodr46 : ∀ k, Eng.Good prog 46 (Eng.specOf [.v (.nm 1), .v (.sl (.int .i64))] [.v (.nm 5)] (r46 k))
  | 0 => Eng.good_none (fn := f46) (by kernel_rfl) (c := Eng.bodyOf f46) (by kernel_rfl) (by kernel_rfl) _ _
  | k + 1 => Eng.good_rec (goodm46 (r46 k) (goodr46 k)) (r46_succ k)
theorem good46 : Eng.Good prog 46 sp46 := goodr46 100000
noncomputable def F20 : Eng.Fn NN := ⟨⟨(Eng.look tys), (lookS [(46, sp46)]), Eng.look [], Eng.pinIds 0 [.v (.nm 1), .v (.sl (.int .i64))]⟩, Eng.bodyOf Go.Proofs.Tryz.f20, [.tmp 4], 9⟩
noncomputable def sp20 : Eng.Spec NN := F20.spec [.v (.nm 1), .v (.sl (.int .i64))] [.v (.bool)] 4000000
theorem good20 : Eng.Good prog 20 sp20 := Eng.good_fn (fn := f20) fits (by kernel_rfl) mixed (by kernel_rfl) (.cons good46 .nil) (by kernel_rfl) (by kernel_rfl) (by kernel_rfl) (by kernel_rfl) (by kernel_rfl) (by kernel_rfl) (by kernel_rfl) (by kernel_rfl) (by kernel_rfl)
abbrev G13 := HIn NN.ρ [.v (.nm 1), .v (.nm 1)] → Option (HRes NN.ρ [.v (.bool)] × HOut NN.ρ [.v (.nm 1), .v (.nm 1)])
noncomputable def F42 (g13 : G13) : Eng.Fn NN := ⟨⟨(Eng.look tys), (lookS [(13, (Eng.specOf [.v (.nm 1), .v (.nm 1)] [.v (.bool)] g13))]), Eng.look [(4, [0, 1, 5]), (6, [0, 1, 5])], Eng.pinIds 0 [.v (.sl (.nm 1)), .v (.sl (.nm 1))]⟩, Eng.bodyOf Go.Proofs.Tryz.f42, [.tmp 4], 33⟩
noncomputable def sp42 (g : G13) : Eng.Spec NN := (F42 g).spec [.v (.sl (.nm 1)), .v (.sl (.nm 1))] [.v (.bool)] 4000000
theorem goodm42 (g : G13) (hg : Eng.Good prog 13 (Eng.specOf [.v (.nm 1), .v (.nm 1)] [.v (.bool)] g)) : Eng.Good prog 42 (sp42 g) := Eng.good_fn (fn := f42) fits (by kernel_rfl) mixed (by kernel_rfl) (.cons hg .nil) (by kernel_rfl) (by kernel_rfl) (by kernel_rfl) (by kernel_rfl) (by kernel_rfl) (by kernel_rfl) (by kernel_rfl) (by kernel_rfl) (by kernel_rfl)
noncomputable def F13 (g13 : G13) : Eng.Fn NN := ⟨⟨(Eng.look tys), (lookS [(42, (sp42 g13)), (13, (Eng.specOf [.v (.nm 1), .v (.nm 1)] [.v (.bool)] g13))]), Eng.look [(3, [2, 3]), (4, [2, 3, 5]), (6, [2, 3, 5]), (8, [2, 3])], Eng.pinIds 0 [.v (.nm 1), .v (.nm 1)]⟩, Eng.bodyOf Go.Proofs.Tryz.f13, [.tmp 4], 124⟩
noncomputable def r13 (k : Nat) : G13 := Nat.rec (motive := fun _ => G13) (fun _ => none) (fun _ g => (F13 g).run [.v (.nm 1), .v (.nm 1)] [.v (.bool)] 4000000) k
theorem r13_succ (k : Nat) (x : HIn NN.ρ [.v (.nm 1), .v (.nm 1)]) : r13 (k + 1) x = (F13 (r13 k)).run [.v (.nm 1), .v (.nm 1)] [.v (.bool)] 4000000 x := rfl
noncomputable def R13 : G13 := r13 100000
noncomputable def sp13 : Eng.Spec NN := Eng.specOf [.v (.nm 1), .v (.nm 1)] [.v (.bool)] R13
theorem goodm13 (g : G13) (hg : Eng.Good prog 13 (Eng.specOf [.v (.nm 1), .v (.nm 1)] [.v (.bool)] g)) : Eng.Good prog 13 ((F13 g).spec [.v (.nm 1), .v (.nm 1)] [.v (.bool)] 4000000) := Eng.good_fn (fn := f13) fits (by kernel_rfl) mixed (by kernel_rfl) (.cons (goodm42 g hg) (.cons hg .nil)) (by kernel_rfl) (by kernel_rfl) (by kernel_rfl) (by kernel_rfl) (by kernel_rfl) (by kernel_rfl) (by kernel_rfl) (by kernel_rfl) (by kernel_rfl)
theorem goodr13 : ∀ k, Eng.Good prog 13 (Eng.specOf [.v (.nm 1), .v (.nm 1)] [.v (.bool)] (r13 k))
  | 0 => Eng.good_none (fn := f13) (by kernel_rfl) (c := Eng.bodyOf f13) (by kernel_rfl) (by kernel_rfl) _ _
  | k + 1 => Eng.good_rec (goodm13 (r13 k) (goodr13 k)) (r13_succ k)
theorem good13 : Eng.Good prog 13 sp13 := goodr13 100000
theorem good42 : Eng.Good prog 42 (sp42 R13) := goodm42 R13 good13
noncomputable def F41 : Eng.Fn NN := ⟨⟨(Eng.look tys), (lookS []), Eng.look [], Eng.pinIds 0 [.v (.int .i64), .v (.int .i64)]⟩, Eng.bodyOf Go.Proofs.Tryz.f41, [.cell 4 27], 8⟩
noncomputable def sp41 : Eng.Spec NN := F41.spec [.v (.int .i64), .v (.int .i64)] [.v (.nm 1)] 4000000
theorem good41 : Eng.Good prog 41 sp41 := Eng.good_fn (fn := f41) fits (by kernel_rfl) mixed (by kernel_rfl) .nil (by kernel_rfl) (by kernel_rfl) (by kernel_rfl) (by kernel_rfl) (by kernel_rfl) (by kernel_rfl) (by kernel_rfl) (by kernel_rfl) (by kernel_rfl)
noncomputable def F39 : Eng.Fn NN := ⟨⟨(Eng.look tys), (lookS []), Eng.look [], Eng.pinIds 0 [.v (.int .i64), .v (.int .i64), .v (.nm 1), .v (.nm 1)]⟩, Eng.bodyOf Go.Proofs.Tryz.f39, [.cell 8 27], 15⟩
noncomputable def sp39 : Eng.Spec NN := F39.spec [.v (.int .i64), .v (.int .i64), .v (.nm 1), .v (.nm 1)] [.v (.nm 1)] 4000000
theorem good39 : Eng.Good prog 39 sp39 := Eng.good_fn (fn := f39) fits (by kernel_rfl) mixed (by kernel_rfl) .nil (by kernel_rfl) (by kernel_rfl) (by kernel_rfl) (by kernel_rfl) (by kernel_rfl) (by kernel_rfl) (by kernel_rfl) (by kernel_rfl) (by kernel_rfl)
noncomputable def F40 : Eng.Fn NN := ⟨⟨(Eng.look tys), (lookS []), Eng.look [], Eng.pinIds 0 [.v (.int .i64)]⟩, Eng.bodyOf Go.Proofs.Tryz.f40, [.cell 2 27], 6⟩
noncomputable def sp40 : Eng.Spec NN := F40.spec [.v (.int .i64)] [.v (.nm 1)] 4000000
theorem good40 : Eng.Good prog 40 sp40 := Eng.good_fn (fn := f40) fits (by kernel_rfl) mixed (by kernel_rfl) .nil (by kernel_rfl) (by kernel_rfl) (by kernel_rfl) (by kernel_rfl) (by kernel_rfl) (by kernel_rfl) (by kernel_rfl) (by kernel_rfl) (by kernel_rfl)
noncomputable def F17 : Eng.Fn NN := ⟨⟨(Eng.look tys), (lookS []), Eng.look [(1, [0, 1, 4, 5]), (2, [1, 4, 5, 10, 11, 12]), (8, [1, 4, 5, 7, 10, 11, 12]), (9, [1, 4, 5, 10, 11, 12])], Eng.pinIds 0 [.v (.sl (.nm 1)), .v (.int .i64)]⟩, Eng.bodyOf Go.Proofs.Tryz.f17, [.tmp 4, .tmp 5], 85⟩
noncomputable def sp17 : Eng.Spec NN := F17.spec [.v (.sl (.nm 1)), .v (.int .i64)] [.own 37 (.nm 2), .own 27 (.nm 1)] 4000000
theorem good17 : Eng.Good prog 17 sp17 := Eng.good_fn (fn := f17) fits (by kernel_rfl) mixed (by kernel_rfl) .nil (by kernel_rfl) (by kernel_rfl) (by kernel_rfl) (by kernel_rfl) (by kernel_rfl) (by kernel_rfl) (by kernel_rfl) (by kernel_rfl) (by kernel_rfl)
noncomputable def F57 : Eng.Fn NN := ⟨⟨(Eng.look tys), (lookS []), Eng.look [], Eng.pinIds 0 [.v (.int .i64)]⟩, Eng.bodyOf Go.Proofs.Tryz.f57, [.tmp 2], 13⟩
noncomputable def sp57 : Eng.Spec NN := F57.spec [.v (.int .i64)] [.v (.int .i64)] 4000000
theorem good57 : Eng.Good prog 57 sp57 := Eng.good_fn (fn := f57) fits (by kernel_rfl) mixed (by kernel_rfl) .nil (by kernel_rfl) (by kernel_rfl) (by kernel_rfl) (by kernel_rfl) (by kernel_rfl) (by kernel_rfl) (by kernel_rfl) (by kernel_rfl) (by kernel_rfl)
noncomputable def F56 : Eng.Fn NN := ⟨⟨(Eng.look tys), (lookS []), Eng.look [], Eng.pinIds 0 [.v (.nm 1)]⟩, Eng.bodyOf Go.Proofs.Tryz.f56, [.tmp 2], 6⟩
noncomputable def sp56 : Eng.Spec NN := F56.spec [.v (.nm 1)] [.v (.bool)] 4000000
theorem good56 : Eng.Good prog 56 sp56 := Eng.good_fn (fn := f56) fits (by kernel_rfl) mixed (by kernel_rfl) .nil (by kernel_rfl) (by kernel_rfl) (by kernel_rfl) (by kernel_rfl) (by kernel_rfl) (by kernel_rfl) (by kernel_rfl) (by kernel_rfl) (by kernel_rfl)
noncomputable def F55 : Eng.Fn NN := ⟨⟨(Eng.look tys), (lookS []), Eng.look [], Eng.pinIds 0 [.v (.int .i64)]⟩, Eng.bodyOf Go.Proofs.Tryz.f55, [.tmp 2], 9⟩
noncomputable def sp55 : Eng.Spec NN := F55.spec [.v (.int .i64)] [.v (.bool)] 4000000
theorem good55 : Eng.Good prog 55 sp55 := Eng.good_fn (fn := f55) fits (by kernel_rfl) mixed (by kernel_rfl) .nil (by kernel_rfl) (by kernel_rfl) (by kernel_rfl) (by kernel_rfl) (by kernel_rfl) (by kernel_rfl) (by kernel_rfl) (by kernel_rfl) (by kernel_rfl)
abbrev G28 := HIn NN.ρ [.v (.nm 1)] → Option (HRes NN.ρ [.v (.nm 3), .v (.bool)] × HOut NN.ρ [.v (.nm 1)])
noncomputable def F28 (g28 : G28) : Eng.Fn NN := ⟨⟨(Eng.look tys), (lookS [(57, sp57), (56, sp56), (55, sp55), (28, (Eng.specOf [.v (.nm 1)] [.v (.nm 3), .v (.bool)] g28))]), Eng.look [(7, [2, 4]), (11, [1, 2]), (16, [2])], Eng.pinIds 0 [.v (.nm 1)]⟩, Eng.bodyOf Go.Proofs.Tryz.f28, [.cell 2 50, .tmp 3], 99⟩
noncomputable def r28 (k : Nat) : G28 := Nat.rec (motive := fun _ => G28) (fun _ => none) (fun _ g => (F28 g).run [.v (.nm 1)] [.v (.nm 3), .v (.bool)] 4000000) k
theorem r28_succ (k : Nat) (x : HIn NN.ρ [.v (.nm 1)]) : r28 (k + 1) x = (F28 (r28 k)).run [.v (.nm 1)] [.v (.nm 3), .v (.bool)] 4000000 x := rfl
noncomputable def R28 : G28 := r28 100000
noncomputable def sp28 : Eng.Spec NN := Eng.specOf [.v (.nm 1)] [.v (.nm 3), .v (.bool)] R28
theorem goodm28 (g : G28) (hg : Eng.Good prog 28 (Eng.specOf [.v (.nm 1)] [.v (.nm 3), .v (.bool)] g)) : Eng.Good prog 28 ((F28 g).spec [.v (.nm 1)] [.v (.nm 3), .v (.bool)] 4000000) := Eng.good_fn (fn := f28) fits (by kernel_rfl) mixed (by kernel_rfl) (.cons good57 (.cons good56 (.cons good55 (.cons hg .nil)))) (by kernel_rfl) (by kernel_rfl) (by kernel_rfl) (by kernel_rfl) (by kernel_rfl) (by kernel_rfl) (by kernel_rfl) (by kernel_rfl) (by kernel_rfl)
theorem goodr28 : ∀ k, Eng.Good prog 28 (Eng.specOf [.v (.nm 1)] [.v (.nm 3), .v (.bool)] (r28 k))
  | 0 => Eng.good_none (fn := f28) (by kernel_rfl) (c := Eng.bodyOf f28) (by kernel_rfl) (by kernel_rfl) _ _
  | k + 1 => Eng.good_rec (goodm28 (r28 k) (goodr28 k)) (r28_succ k)
theorem good28 : Eng.Good prog 28 sp28 := goodr28 100000
noncomputable def F105 : Eng.Fn NN := ⟨⟨(Eng.look tys), (lookS []), Eng.look [(1, [0])], Eng.pinIds 0 [.v (.sl (.nm 1))]⟩, Eng.bodyOf Go.Proofs.Tryz.f105, [.tmp 2], 8⟩
noncomputable def sp105 : Eng.Spec NN := F105.spec [.v (.sl (.nm 1))] [.own 27 (.nm 1)] 4000000
theorem good105 : Eng.Good prog 105 sp105 := Eng.good_fn (fn := f105) fits (by kernel_rfl) mixed (by kernel_rfl) .nil (by kernel_rfl) (by kernel_rfl) (by kernel_rfl) (by kernel_rfl) (by kernel_rfl) (by kernel_rfl) (by kernel_rfl) (by kernel_rfl) (by kernel_rfl)
noncomputable def F74 : Eng.Fn NN := ⟨⟨(Eng.look tys), (lookS [(105, sp105), (50, sp50), (56, sp56)]), Eng.look [(4, [1, 2]), (12, [1, 2, 4, 46, 47, 48])], Eng.pinIds 0 [.v (.nm 1)]⟩, Eng.bodyOf Go.Proofs.Tryz.f74, [.cell 2 27], 76⟩
noncomputable def sp74 : Eng.Spec NN := F74.spec [.v (.nm 1)] [.v (.nm 1)] 4000000
theorem good74 : Eng.Good prog 74 sp74 := Eng.good_fn (fn := f74) fits (by kernel_rfl) mixed (by kernel_rfl) (.cons good105 (.cons good50 (.cons good56 .nil))) (by kernel_rfl) (by kernel_rfl) (by kernel_rfl) (by kernel_rfl) (by kernel_rfl) (by kernel_rfl) (by kernel_rfl) (by kernel_rfl) (by kernel_rfl)
noncomputable def F73 : Eng.Fn NN := ⟨⟨(Eng.look tys), (lookS [(50, sp50), (52, sp52)]), Eng.look [(8, [2, 4])], Eng.pinIds 0 [.v (.nm 1), .v (.bool)]⟩, Eng.bodyOf Go.Proofs.Tryz.f73, [.cell 4 27], 49⟩
noncomputable def sp73 : Eng.Spec NN := F73.spec [.v (.nm 1), .v (.bool)] [.v (.nm 1)] 4000000
theorem good73 : Eng.Good prog 73 sp73 := Eng.good_fn (fn := f73) fits (by kernel_rfl) mixed (by kernel_rfl) (.cons good50 (.cons good52 .nil)) (by kernel_rfl) (by kernel_rfl) (by kernel_rfl) (by kernel_rfl) (by kernel_rfl) (by kernel_rfl) (by kernel_rfl) (by kernel_rfl) (by kernel_rfl)
noncomputable def F153 : Eng.Fn NN := ⟨⟨(Eng.look tys), (lookS []), Eng.look [], Eng.pinIds 0 [.v (.str), .v (.str)]⟩, Eng.bodyOf Go.Proofs.Tryz.f153, [.tmp 4], 18⟩
noncomputable def sp153 : Eng.Spec NN := F153.spec [.v (.str), .v (.str)] [.v (.bool)] 4000000
theorem good153 : Eng.Good prog 153 sp153 := Eng.good_fn (fn := f153) fits (by kernel_rfl) mixed (by kernel_rfl) .nil (by kernel_rfl) (by kernel_rfl) (by kernel_rfl) (by kernel_rfl) (by kernel_rfl) (by kernel_rfl) (by kernel_rfl) (by kernel_rfl) (by kernel_rfl)
noncomputable def F148 : Eng.Fn NN := ⟨⟨(Eng.look tys), (lookS [(153, sp153)]), Eng.look [], Eng.pinIds 0 [.v (.str), .v (.str)]⟩, Eng.bodyOf Go.Proofs.Tryz.f148, [.tmp 4], 8⟩
noncomputable def sp148 : Eng.Spec NN := F148.spec [.v (.str), .v (.str)] [.v (.bool)] 4000000
theorem good148 : Eng.Good prog 148 sp148 := Eng.good_fn (fn := f148) fits (by kernel_rfl) mixed (by kernel_rfl) (.cons good153 .nil) (by kernel_rfl) (by kernel_rfl) (by kernel_rfl) (by kernel_rfl) (by kernel_rfl) (by kernel_rfl) (by kernel_rfl) (by kernel_rfl) (by kernel_rfl)
noncomputable def F144 : Eng.Fn NN := ⟨⟨(Eng.look tys), (lookS []), Eng.look [], Eng.pinIds 0 [.v (.int .i64)]⟩, Eng.bodyOf Go.Proofs.Tryz.f144, [.cell 2 23], 5⟩
noncomputable def sp144 : Eng.Spec NN := F144.spec [.v (.int .i64)] [.v (.nm 0)] 4000000
theorem good144 : Eng.Good prog 144 sp144 := Eng.good_fn (fn := f144) fits (by kernel_rfl) mixed (by kernel_rfl) .nil (by kernel_rfl) (by kernel_rfl) (by kernel_rfl) (by kernel_rfl) (by kernel_rfl) (by kernel_rfl) (by kernel_rfl) (by kernel_rfl) (by kernel_rfl)
noncomputable def F145 : Eng.Fn NN := ⟨⟨(Eng.look tys), (lookS []), Eng.look [], Eng.pinIds 0 [.v (.str)]⟩, Eng.bodyOf Go.Proofs.Tryz.f145, [.cell 2 23], 5⟩
noncomputable def sp145 : Eng.Spec NN := F145.spec [.v (.str)] [.v (.nm 0)] 4000000
theorem good145 : Eng.Good prog 145 sp145 := Eng.good_fn (fn := f145) fits (by kernel_rfl) mixed (by kernel_rfl) .nil (by kernel_rfl) (by kernel_rfl) (by kernel_rfl) (by kernel_rfl) (by kernel_rfl) (by kernel_rfl) (by kernel_rfl) (by kernel_rfl) (by kernel_rfl)
noncomputable def F147 : Eng.Fn NN := ⟨⟨(Eng.look tys), (lookS []), Eng.look [(6, [0, 1, 7])], Eng.pinIds 0 [.v (.str), .v (.int .i64), .v (.int .i64)]⟩, Eng.bodyOf Go.Proofs.Tryz.f147, [.tmp 6], 33⟩
noncomputable def sp147 : Eng.Spec NN := F147.spec [.v (.str), .v (.int .i64), .v (.int .i64)] [.v (.str)] 4000000
theorem good147 : Eng.Good prog 147 sp147 := Eng.good_fn (fn := f147) fits (by kernel_rfl) mixed (by kernel_rfl) .nil (by kernel_rfl) (by kernel_rfl) (by kernel_rfl) (by kernel_rfl) (by kernel_rfl) (by kernel_rfl) (by kernel_rfl) (by kernel_rfl) (by kernel_rfl)
noncomputable def F146 : Eng.Fn NN := ⟨⟨(Eng.look tys), (lookS []), Eng.look [(3, [1, 2, 3, 9, 14, 15, 16]), (7, [1, 2, 3, 9, 14, 15, 16])], Eng.pinIds 0 [.v (.str), .v (.int .u8), .v (.int .u8), .v (.int .i64)]⟩, Eng.bodyOf Go.Proofs.Tryz.f146, [.tmp 8], 40⟩
noncomputable def sp146 : Eng.Spec NN := F146.spec [.v (.str), .v (.int .u8), .v (.int .u8), .v (.int .i64)] [.v (.str)] 4000000
theorem good146 : Eng.Good prog 146 sp146 := Eng.good_fn (fn := f146) fits (by kernel_rfl) mixed (by kernel_rfl) .nil (by kernel_rfl) (by kernel_rfl) (by kernel_rfl) (by kernel_rfl) (by kernel_rfl) (by kernel_rfl) (by kernel_rfl) (by kernel_rfl) (by kernel_rfl)
noncomputable def F143 : Eng.Fn NN := ⟨⟨(Eng.look tys), (lookS []), Eng.look [], Eng.pinIds 0 [.v (.int .i64), .bw (.sl (.nm 0))]⟩, Eng.bodyOf Go.Proofs.Tryz.f143, [.tmp 3], 9⟩
noncomputable def sp143 : Eng.Spec NN := F143.spec [.v (.int .i64), .bw (.sl (.nm 0))] [.v (.int .i64)] 4000000
theorem good143 : Eng.Good prog 143 sp143 := Eng.good_fn (fn := f143) fits (by kernel_rfl) mixed (by kernel_rfl) .nil (by kernel_rfl) (by kernel_rfl) (by kernel_rfl) (by kernel_rfl) (by kernel_rfl) (by kernel_rfl) (by kernel_rfl) (by kernel_rfl) (by kernel_rfl)
noncomputable def F142 : Eng.Fn NN := ⟨⟨(Eng.look tys), (lookS []), Eng.look [], Eng.pinIds 0 [.v (.int .i64), .bw (.sl (.nm 0))]⟩, Eng.bodyOf Go.Proofs.Tryz.f142, [.tmp 3], 9⟩
noncomputable def sp142 : Eng.Spec NN := F142.spec [.v (.int .i64), .bw (.sl (.nm 0))] [.v (.str)] 4000000
theorem good142 : Eng.Good prog 142 sp142 := Eng.good_fn (fn := f142) fits (by kernel_rfl) mixed (by kernel_rfl) .nil (by kernel_rfl) (by kernel_rfl) (by kernel_rfl) (by kernel_rfl) (by kernel_rfl) (by kernel_rfl) (by kernel_rfl) (by kernel_rfl) (by kernel_rfl)
noncomputable def F136 : Eng.Fn NN := ⟨⟨(Eng.look tys), (lookS [(148, sp148), (144, sp144), (145, sp145), (147, sp147), (146, sp146), (143, sp143), (142, sp142)]), Eng.look [], Eng.pinIds 0 [.v (.str), .v (.sl (.nm 0))]⟩, Eng.bodyOf Go.Proofs.Tryz.f136, [.cell 4 23], 66⟩
noncomputable def sp136 : Eng.Spec NN := F136.spec [.v (.str), .v (.sl (.nm 0))] [.v (.nm 0)] 4000000
theorem good136 : Eng.Good prog 136 sp136 := Eng.good_fn (fn := f136) fits (by kernel_rfl) mixed (by kernel_rfl) (.cons good148 (.cons good144 (.cons good145 (.cons good147 (.cons good146 (.cons good143 (.cons good142 .nil))))))) (by kernel_rfl) (by kernel_rfl) (by kernel_rfl) (by kernel_rfl) (by kernel_rfl) (by kernel_rfl) (by kernel_rfl) (by kernel_rfl) (by kernel_rfl)
noncomputable def F135 : Eng.Fn NN := ⟨⟨(Eng.look tys), (lookS []), Eng.look [(1, [0]), (10, []), (12, [])], Eng.pinIds 0 [.v (.str)]⟩, Eng.bodyOf Go.Proofs.Tryz.f135, [.tmp 2, .tmp 3], 24⟩
noncomputable def sp135 : Eng.Spec NN := F135.spec [.v (.str)] [.own 3 (.int .i64), .v (.int .i64)] 4000000
theorem good135 : Eng.Good prog 135 sp135 := Eng.good_fn (fn := f135) fits (by kernel_rfl) mixed (by kernel_rfl) .nil (by kernel_rfl) (by kernel_rfl) (by kernel_rfl) (by kernel_rfl) (by kernel_rfl) (by kernel_rfl) (by kernel_rfl) (by kernel_rfl) (by kernel_rfl)
noncomputable def F151 : Eng.Fn NN := ⟨⟨(Eng.look tys), (lookS []), Eng.look [], Eng.pinIds 0 [.v (.bool), .v (.bool)]⟩, Eng.bodyOf Go.Proofs.Tryz.f151, [.tmp 4], 9⟩
noncomputable def sp151 : Eng.Spec NN := F151.spec [.v (.bool), .v (.bool)] [.v (.int .i64)] 4000000
theorem good151 : Eng.Good prog 151 sp151 := Eng.good_fn (fn := f151) fits (by kernel_rfl) mixed (by kernel_rfl) .nil (by kernel_rfl) (by kernel_rfl) (by kernel_rfl) (by kernel_rfl) (by kernel_rfl) (by kernel_rfl) (by kernel_rfl) (by kernel_rfl) (by kernel_rfl)
noncomputable def sp152 : Eng.Spec NN := Eng.specOf [PK.v Ty.str, PK.v Ty.str] [RK.v (Ty.int IntKind.i64)] (fun x => some ((Eng.cmpS x.1 x.2.1, ()), ()))
theorem good152 : Eng.Good prog 152 sp152 := Eng.good_cmp (fn := f152) (by kernel_rfl) (c := Eng.bodyOf f152) (by kernel_rfl) (by kernel_rfl) cmpCalls
noncomputable def F141 : Eng.Fn NN := ⟨⟨(Eng.look tys), (lookS [(151, sp151), (152, sp152)]), Eng.look [(8, [2, 3])], Eng.pinIds 0 [.v (.nm 0), .v (.nm 0)]⟩, Eng.bodyOf Go.Proofs.Tryz.f141, [.tmp 4], 40⟩
noncomputable def sp141 : Eng.Spec NN := F141.spec [.v (.nm 0), .v (.nm 0)] [.v (.int .i64)] 4000000
theorem good141 : Eng.Good prog 141 sp141 := Eng.good_fn (fn := f141) fits (by kernel_rfl) mixed (by kernel_rfl) (.cons good151 (.cons good152 .nil)) (by kernel_rfl) (by kernel_rfl) (by kernel_rfl) (by kernel_rfl) (by kernel_rfl) (by kernel_rfl) (by kernel_rfl) (by kernel_rfl) (by kernel_rfl)
noncomputable def F134 : Eng.Fn NN := ⟨⟨(Eng.look tys), (lookS [(141, sp141)]), Eng.look [(3, [1, 4, 5, 9, 10, 11]), (7, [1, 4, 5, 9, 10, 11])], Eng.pinIds 0 [.v (.sl (.nm 0)), .v (.int .i64)]⟩, Eng.bodyOf Go.Proofs.Tryz.f134, [.cell 4 23], 33⟩
noncomputable def sp134 : Eng.Spec NN := F134.spec [.v (.sl (.nm 0)), .v (.int .i64)] [.v (.nm 0)] 4000000
theorem good134 : Eng.Good prog 134 sp134 := Eng.good_fn (fn := f134) fits (by kernel_rfl) mixed (by kernel_rfl) (.cons good141 .nil) (by kernel_rfl) (by kernel_rfl) (by kernel_rfl) (by kernel_rfl) (by kernel_rfl) (by kernel_rfl) (by kernel_rfl) (by kernel_rfl) (by kernel_rfl)
noncomputable def F125 : Eng.Fn NN := ⟨⟨(Eng.look tys), (lookS []), Eng.look [], Eng.pinIds 0 [.v (.bool)]⟩, Eng.bodyOf Go.Proofs.Tryz.f125, [.cell 2 23], 6⟩
noncomputable def sp125 : Eng.Spec NN := F125.spec [.v (.bool)] [.v (.nm 0)] 4000000
theorem good125 : Eng.Good prog 125 sp125 := Eng.good_fn (fn := f125) fits (by kernel_rfl) mixed (by kernel_rfl) .nil (by kernel_rfl) (by kernel_rfl) (by kernel_rfl) (by kernel_rfl) (by kernel_rfl) (by kernel_rfl) (by kernel_rfl) (by kernel_rfl) (by kernel_rfl)
noncomputable def F132 : Eng.Fn NN := ⟨⟨(Eng.look tys), (lookS [(125, sp125), (141, sp141)]), Eng.look [(3, [0, 4, 5, 6]), (18, [6, 8])], Eng.pinIds 0 [.v (.int .i64), .v (.nm 0), .v (.nm 0)]⟩, Eng.bodyOf Go.Proofs.Tryz.f132, [.cell 6 23], 58⟩
noncomputable def sp132 : Eng.Spec NN := F132.spec [.v (.int .i64), .v (.nm 0), .v (.nm 0)] [.v (.nm 0)] 4000000
theorem good132 : Eng.Good prog 132 sp132 := Eng.good_fn (fn := f132) fits (by kernel_rfl) mixed (by kernel_rfl) (.cons good125 (.cons good141 .nil)) (by kernel_rfl) (by kernel_rfl) (by kernel_rfl) (by kernel_rfl) (by kernel_rfl) (by kernel_rfl) (by kernel_rfl) (by kernel_rfl) (by kernel_rfl)
noncomputable def F133 : Eng.Fn NN := ⟨⟨(Eng.look tys), (lookS []), Eng.look [], Eng.pinIds 0 [.v (.str), .v (.int .i64)]⟩, Eng.bodyOf Go.Proofs.Tryz.f133, [.tmp 4, .tmp 5], 17⟩
noncomputable def sp133 : Eng.Spec NN := F133.spec [.v (.str), .v (.int .i64)] [.v (.bool), .v (.bool)] 4000000
theorem good133 : Eng.Good prog 133 sp133 := Eng.good_fn (fn := f133) fits (by kernel_rfl) mixed (by kernel_rfl) .nil (by kernel_rfl) (by kernel_rfl) (by kernel_rfl) (by kernel_rfl) (by kernel_rfl) (by kernel_rfl) (by kernel_rfl) (by kernel_rfl) (by kernel_rfl)
noncomputable def F122 : Eng.Fn NN := ⟨⟨(Eng.look tys), (lookS [(136, sp136), (135, sp135), (134, sp134), (132, sp132), (133, sp133)]), Eng.look [(15, [4, 48, 49, 50]), (24, [0, 1, 4, 9]), (25, [0, 1, 4, 9, 75, 76, 77])], Eng.pinIds 0 [.v (.str), .v (.sl (.nm 0))]⟩, Eng.bodyOf Go.Proofs.Tryz.f122, [.cell 4 23], 94⟩
noncomputable def sp122 : Eng.Spec NN := F122.spec [.v (.str), .v (.sl (.nm 0))] [.v (.nm 0)] 4000000
theorem good122 : Eng.Good prog 122 sp122 := Eng.good_fn (fn := f122) fits (by kernel_rfl) mixed (by kernel_rfl) (.cons good136 (.cons good135 (.cons good134 (.cons good132 (.cons good133 .nil))))) (by kernel_rfl) (by kernel_rfl) (by kernel_rfl) (by kernel_rfl) (by kernel_rfl) (by kernel_rfl) (by kernel_rfl) (by kernel_rfl) (by kernel_rfl)
noncomputable def F138 : Eng.Fn NN := ⟨⟨(Eng.look tys), (lookS [(125, sp125)]), Eng.look [(3, [0, 4, 5, 8, 9, 10])], Eng.pinIds 0 [.v (.int .i64), .v (.sl (.nm 0))]⟩, Eng.bodyOf Go.Proofs.Tryz.f138, [.cell 4 23], 30⟩
noncomputable def sp138 : Eng.Spec NN := F138.spec [.v (.int .i64), .v (.sl (.nm 0))] [.v (.nm 0)] 4000000
theorem good138 : Eng.Good prog 138 sp138 := Eng.good_fn (fn := f138) fits (by kernel_rfl) mixed (by kernel_rfl) (.cons good125 .nil) (by kernel_rfl) (by kernel_rfl) (by kernel_rfl) (by kernel_rfl) (by kernel_rfl) (by kernel_rfl) (by kernel_rfl) (by kernel_rfl) (by kernel_rfl)
noncomputable def F128 : Eng.Fn NN := ⟨⟨(Eng.look tys), (lookS [(138, sp138)]), Eng.look [], Eng.pinIds 0 [.v (.sl (.nm 0))]⟩, Eng.bodyOf Go.Proofs.Tryz.f128, [.cell 2 23], 5⟩
noncomputable def sp128 : Eng.Spec NN := F128.spec [.v (.sl (.nm 0))] [.v (.nm 0)] 4000000
theorem good128 : Eng.Good prog 128 sp128 := Eng.good_fn (fn := f128) fits (by kernel_rfl) mixed (by kernel_rfl) (.cons good138 .nil) (by kernel_rfl) (by kernel_rfl) (by kernel_rfl) (by kernel_rfl) (by kernel_rfl) (by kernel_rfl) (by kernel_rfl) (by kernel_rfl) (by kernel_rfl)
noncomputable def F121 : Eng.Fn NN := ⟨⟨(Eng.look tys), (lookS [(128, sp128), (132, sp132)]), Eng.look [(1, [0, 2]), (3, [0, 2, 3, 7, 8, 9])], Eng.pinIds 0 [.v (.sl (.nm 0))]⟩, Eng.bodyOf Go.Proofs.Tryz.f121, [.cell 2 23], 24⟩
noncomputable def sp121 : Eng.Spec NN := F121.spec [.v (.sl (.nm 0))] [.v (.nm 0)] 4000000
theorem good121 : Eng.Good prog 121 sp121 := Eng.good_fn (fn := f121) fits (by kernel_rfl) mixed (by kernel_rfl) (.cons good128 (.cons good132 .nil)) (by kernel_rfl) (by kernel_rfl) (by kernel_rfl) (by kernel_rfl) (by kernel_rfl) (by kernel_rfl) (by kernel_rfl) (by kernel_rfl) (by kernel_rfl)
noncomputable def F126 : Eng.Fn NN := ⟨⟨(Eng.look tys), (lookS []), Eng.look [], Eng.pinIds 0 [.v (.int .i64)]⟩, Eng.bodyOf Go.Proofs.Tryz.f126, [.cell 2 23], 5⟩
noncomputable def sp126 : Eng.Spec NN := F126.spec [.v (.int .i64)] [.v (.nm 0)] 4000000
theorem good126 : Eng.Good prog 126 sp126 := Eng.good_fn (fn := f126) fits (by kernel_rfl) mixed (by kernel_rfl) .nil (by kernel_rfl) (by kernel_rfl) (by kernel_rfl) (by kernel_rfl) (by kernel_rfl) (by kernel_rfl) (by kernel_rfl) (by kernel_rfl) (by kernel_rfl)
noncomputable def F150 : Eng.Fn NN := ⟨⟨(Eng.look tys), (lookS []), Eng.look [], Eng.pinIds 0 [.v (.int .u64), .v (.int .u64)]⟩, Eng.bodyOf Go.Proofs.Tryz.f150, [.tmp 4, .tmp 5], 51⟩
noncomputable def sp150 : Eng.Spec NN := F150.spec [.v (.int .u64), .v (.int .u64)] [.v (.int .u64), .v (.int .u64)] 4000000
theorem good150 : Eng.Good prog 150 sp150 := Eng.good_fn (fn := f150) fits (by kernel_rfl) mixed (by kernel_rfl) .nil (by kernel_rfl) (by kernel_rfl) (by kernel_rfl) (by kernel_rfl) (by kernel_rfl) (by kernel_rfl) (by kernel_rfl) (by kernel_rfl) (by kernel_rfl)
noncomputable def F140 : Eng.Fn NN := ⟨⟨(Eng.look tys), (lookS [(150, sp150)]), Eng.look [(4, [0, 1, 6, 7]), (6, [0, 1, 6, 7])], Eng.pinIds 0 [.v (.int .i64), .v (.int .i64)]⟩, Eng.bodyOf Go.Proofs.Tryz.f140, [.tmp 4, .tmp 5], 44⟩
noncomputable def sp140 : Eng.Spec NN := F140.spec [.v (.int .i64), .v (.int .i64)] [.v (.int .i64), .v (.bool)] 4000000
theorem good140 : Eng.Good prog 140 sp140 := Eng.good_fn (fn := f140) fits (by kernel_rfl) mixed (by kernel_rfl) (.cons good150 .nil) (by kernel_rfl) (by kernel_rfl) (by kernel_rfl) (by kernel_rfl) (by kernel_rfl) (by kernel_rfl) (by kernel_rfl) (by kernel_rfl) (by kernel_rfl)
noncomputable def F131 : Eng.Fn NN := ⟨⟨(Eng.look tys), (lookS [(126, sp126), (140, sp140)]), Eng.look [(3, [0, 4, 5, 6]), (27, [6])], Eng.pinIds 0 [.v (.int .i64), .v (.nm 0), .v (.nm 0)]⟩, Eng.bodyOf Go.Proofs.Tryz.f131, [.cell 6 23], 94⟩
noncomputable def sp131 : Eng.Spec NN := F131.spec [.v (.int .i64), .v (.nm 0), .v (.nm 0)] [.v (.nm 0)] 4000000
theorem good131 : Eng.Good prog 131 sp131 := Eng.good_fn (fn := f131) fits (by kernel_rfl) mixed (by kernel_rfl) (.cons good126 (.cons good140 .nil)) (by kernel_rfl) (by kernel_rfl) (by kernel_rfl) (by kernel_rfl) (by kernel_rfl) (by kernel_rfl) (by kernel_rfl) (by kernel_rfl) (by kernel_rfl)
noncomputable def F119 : Eng.Fn NN := ⟨⟨(Eng.look tys), (lookS []), Eng.look [], Eng.pinIds 0 [.v (.bool)]⟩, Eng.bodyOf Go.Proofs.Tryz.f119, [.cell 2 23], 6⟩
noncomputable def sp119 : Eng.Spec NN := F119.spec [.v (.bool)] [.v (.nm 0)] 4000000
theorem good119 : Eng.Good prog 119 sp119 := Eng.good_fn (fn := f119) fits (by kernel_rfl) mixed (by kernel_rfl) .nil (by kernel_rfl) (by kernel_rfl) (by kernel_rfl) (by kernel_rfl) (by kernel_rfl) (by kernel_rfl) (by kernel_rfl) (by kernel_rfl) (by kernel_rfl)
noncomputable def F154 : Eng.Fn NN := ⟨⟨(Eng.look tys), (lookS []), Eng.look [(1, [0, 1])], Eng.pinIds 0 [.v (.str), .v (.int .u8)]⟩, Eng.bodyOf Go.Proofs.Tryz.f154, [.tmp 4], 17⟩
noncomputable def sp154 : Eng.Spec NN := F154.spec [.v (.str), .v (.int .u8)] [.v (.str)] 4000000
theorem good154 : Eng.Good prog 154 sp154 := Eng.good_fn (fn := f154) fits (by kernel_rfl) mixed (by kernel_rfl) .nil (by kernel_rfl) (by kernel_rfl) (by kernel_rfl) (by kernel_rfl) (by kernel_rfl) (by kernel_rfl) (by kernel_rfl) (by kernel_rfl) (by kernel_rfl)
noncomputable def F155 : Eng.Fn NN := ⟨⟨(Eng.look tys), (lookS []), Eng.look [(1, [0, 1]), (2, [0, 1])], Eng.pinIds 0 [.v (.str), .v (.int .u8)]⟩, Eng.bodyOf Go.Proofs.Tryz.f155, [.tmp 4], 23⟩
noncomputable def sp155 : Eng.Spec NN := F155.spec [.v (.str), .v (.int .u8)] [.v (.str)] 4000000
theorem good155 : Eng.Good prog 155 sp155 := Eng.good_fn (fn := f155) fits (by kernel_rfl) mixed (by kernel_rfl) .nil (by kernel_rfl) (by kernel_rfl) (by kernel_rfl) (by kernel_rfl) (by kernel_rfl) (by kernel_rfl) (by kernel_rfl) (by kernel_rfl) (by kernel_rfl)
noncomputable def F149 : Eng.Fn NN := ⟨⟨(Eng.look tys), (lookS [(154, sp154), (155, sp155)]), Eng.look [(3, [0, 1]), (5, [0, 1])], Eng.pinIds 0 [.v (.str), .v (.str)]⟩, Eng.bodyOf Go.Proofs.Tryz.f149, [.tmp 4], 43⟩
noncomputable def sp149 : Eng.Spec NN := F149.spec [.v (.str), .v (.str)] [.v (.str)] 4000000
theorem good149 : Eng.Good prog 149 sp149 := Eng.good_fn (fn := f149) fits (by kernel_rfl) mixed (by kernel_rfl) (.cons good154 (.cons good155 .nil)) (by kernel_rfl) (by kernel_rfl) (by kernel_rfl) (by kernel_rfl) (by kernel_rfl) (by kernel_rfl) (by kernel_rfl) (by kernel_rfl) (by kernel_rfl)
noncomputable def F139 : Eng.Fn NN := ⟨⟨(Eng.look tys), (lookS [(149, sp149)]), Eng.look [(3, [0, 1, 5, 6, 7, 8]), (11, [0, 1, 7, 8]), (13, [0, 1, 5, 6])], Eng.pinIds 0 [.v (.str), .v (.str)]⟩, Eng.bodyOf Go.Proofs.Tryz.f139, [.tmp 4], 69⟩
noncomputable def sp139 : Eng.Spec NN := F139.spec [.v (.str), .v (.str)] [.v (.bool)] 40000000
theorem good139 : Eng.Good prog 139 sp139 := Eng.good_fn (fn := f139) fits (by kernel_rfl) mixed (by kernel_rfl) (.cons good149 .nil) (by kernel_rfl) (by kernel_rfl) (by kernel_rfl) (by kernel_rfl) (by kernel_rfl) (by kernel_rfl) (by kernel_rfl) (by kernel_rfl) (by kernel_rfl)
noncomputable def F130 : Eng.Fn NN := ⟨⟨(Eng.look tys), (lookS [(119, sp119), (139, sp139)]), Eng.look [(3, [2, 3, 4])], Eng.pinIds 0 [.v (.nm 0), .v (.nm 0)]⟩, Eng.bodyOf Go.Proofs.Tryz.f130, [.cell 4 23], 20⟩
noncomputable def sp130 : Eng.Spec NN := F130.spec [.v (.nm 0), .v (.nm 0)] [.v (.nm 0)] 4000000
theorem good130 : Eng.Good prog 130 sp130 := Eng.good_fn (fn := f130) fits (by kernel_rfl) mixed (by kernel_rfl) (.cons good119 (.cons good139 .nil)) (by kernel_rfl) (by kernel_rfl) (by kernel_rfl) (by kernel_rfl) (by kernel_rfl) (by kernel_rfl) (by kernel_rfl) (by kernel_rfl) (by kernel_rfl)
noncomputable def F129 : Eng.Fn NN := ⟨⟨(Eng.look tys), (lookS []), Eng.look [(3, [2, 3, 4])], Eng.pinIds 0 [.v (.nm 0), .v (.nm 0)]⟩, Eng.bodyOf Go.Proofs.Tryz.f129, [.cell 4 23], 30⟩
noncomputable def sp129 : Eng.Spec NN := F129.spec [.v (.nm 0), .v (.nm 0)] [.v (.nm 0)] 4000000
theorem good129 : Eng.Good prog 129 sp129 := Eng.good_fn (fn := f129) fits (by kernel_rfl) mixed (by kernel_rfl) .nil (by kernel_rfl) (by kernel_rfl) (by kernel_rfl) (by kernel_rfl) (by kernel_rfl) (by kernel_rfl) (by kernel_rfl) (by kernel_rfl) (by kernel_rfl)
noncomputable def F127 : Eng.Fn NN := ⟨⟨(Eng.look tys), (lookS [(138, sp138)]), Eng.look [], Eng.pinIds 0 [.v (.sl (.nm 0))]⟩, Eng.bodyOf Go.Proofs.Tryz.f127, [.cell 2 23], 5⟩
noncomputable def sp127 : Eng.Spec NN := F127.spec [.v (.sl (.nm 0))] [.v (.nm 0)] 4000000
theorem good127 : Eng.Good prog 127 sp127 := Eng.good_fn (fn := f127) fits (by kernel_rfl) mixed (by kernel_rfl) (.cons good138 .nil) (by kernel_rfl) (by kernel_rfl) (by kernel_rfl) (by kernel_rfl) (by kernel_rfl) (by kernel_rfl) (by kernel_rfl) (by kernel_rfl) (by kernel_rfl)
noncomputable def F120 : Eng.Fn NN := ⟨⟨(Eng.look tys), (lookS [(132, sp132), (131, sp131), (130, sp130), (129, sp129), (128, sp128), (127, sp127)]), Eng.look [(16, [0, 4, 5, 6])], Eng.pinIds 0 [.v (.int .i64), .v (.nm 0), .v (.nm 0)]⟩, Eng.bodyOf Go.Proofs.Tryz.f120, [.cell 6 23], 44⟩
noncomputable def sp120 : Eng.Spec NN := F120.spec [.v (.int .i64), .v (.nm 0), .v (.nm 0)] [.v (.nm 0)] 4000000
theorem good120 : Eng.Good prog 120 sp120 := Eng.good_fn (fn := f120) fits (by kernel_rfl) mixed (by kernel_rfl) (.cons good132 (.cons good131 (.cons good130 (.cons good129 (.cons good128 (.cons good127 .nil)))))) (by kernel_rfl) (by kernel_rfl) (by kernel_rfl) (by kernel_rfl) (by kernel_rfl) (by kernel_rfl) (by kernel_rfl) (by kernel_rfl) (by kernel_rfl)
noncomputable def F118 : Eng.Fn NN := ⟨⟨(Eng.look tys), (lookS [(126, sp126)]), Eng.look [], Eng.pinIds 0 [.v (.nm 0)]⟩, Eng.bodyOf Go.Proofs.Tryz.f118, [.cell 2 23], 16⟩
noncomputable def sp118 : Eng.Spec NN := F118.spec [.v (.nm 0)] [.v (.nm 0)] 4000000
theorem good118 : Eng.Good prog 118 sp118 := Eng.good_fn (fn := f118) fits (by kernel_rfl) mixed (by kernel_rfl) (.cons good126 .nil) (by kernel_rfl) (by kernel_rfl) (by kernel_rfl) (by kernel_rfl) (by kernel_rfl) (by kernel_rfl) (by kernel_rfl) (by kernel_rfl) (by kernel_rfl)
noncomputable def F117 : Eng.Fn NN := ⟨⟨(Eng.look tys), (lookS [(125, sp125)]), Eng.look [], Eng.pinIds 0 [.v (.nm 0)]⟩, Eng.bodyOf Go.Proofs.Tryz.f117, [.cell 2 23], 11⟩
noncomputable def sp117 : Eng.Spec NN := F117.spec [.v (.nm 0)] [.v (.nm 0)] 4000000
theorem good117 : Eng.Good prog 117 sp117 := Eng.good_fn (fn := f117) fits (by kernel_rfl) mixed (by kernel_rfl) (.cons good125 .nil) (by kernel_rfl) (by kernel_rfl) (by kernel_rfl) (by kernel_rfl) (by kernel_rfl) (by kernel_rfl) (by kernel_rfl) (by kernel_rfl) (by kernel_rfl)
noncomputable def F137 : Eng.Fn NN := ⟨⟨(Eng.look tys), (lookS []), Eng.look [], Eng.pinIds 0 [.v (.nm 0)]⟩, Eng.bodyOf Go.Proofs.Tryz.f137, [.tmp 2], 11⟩
noncomputable def sp137 : Eng.Spec NN := F137.spec [.v (.nm 0)] [.v (.bool)] 4000000
theorem good137 : Eng.Good prog 137 sp137 := Eng.good_fn (fn := f137) fits (by kernel_rfl) mixed (by kernel_rfl) .nil (by kernel_rfl) (by kernel_rfl) (by kernel_rfl) (by kernel_rfl) (by kernel_rfl) (by kernel_rfl) (by kernel_rfl) (by kernel_rfl) (by kernel_rfl)
noncomputable def F114 : Eng.Fn NN := ⟨⟨(Eng.look tys), (lookS []), Eng.look [], Eng.pinIds 0 [.v (.sl (.nm 0)), .v (.int .i64)]⟩, Eng.bodyOf Go.Proofs.Tryz.f114, [.cell 4 23], 18⟩
noncomputable def sp114 : Eng.Spec NN := F114.spec [.v (.sl (.nm 0)), .v (.int .i64)] [.v (.nm 0)] 4000000
theorem good114 : Eng.Good prog 114 sp114 := Eng.good_fn (fn := f114) fits (by kernel_rfl) mixed (by kernel_rfl) .nil (by kernel_rfl) (by kernel_rfl) (by kernel_rfl) (by kernel_rfl) (by kernel_rfl) (by kernel_rfl) (by kernel_rfl) (by kernel_rfl) (by kernel_rfl)
abbrev G104 := HIn NN.ρ [.v (.nm 1), .v (.sl (.nm 0))] → Option (HRes NN.ρ [.v (.nm 0)] × HOut NN.ρ [.v (.nm 1), .v (.sl (.nm 0))])
noncomputable def F124 (g104 : G104) : Eng.Fn NN := ⟨⟨(Eng.look tys), (lookS [(137, sp137), (104, (Eng.specOf [.v (.nm 1), .v (.sl (.nm 0))] [.v (.nm 0)] g104))]), Eng.look [], Eng.pinIds 0 [.v (.nm 1), .v (.sl (.nm 0))]⟩, Eng.bodyOf Go.Proofs.Tryz.f124, [.tmp 4], 9⟩
noncomputable def sp124 (g : G104) : Eng.Spec NN := (F124 g).spec [.v (.nm 1), .v (.sl (.nm 0))] [.v (.bool)] 4000000
theorem goodm124 (g : G104) (hg : Eng.Good prog 104 (Eng.specOf [.v (.nm 1), .v (.sl (.nm 0))] [.v (.nm 0)] g)) : Eng.Good prog 124 (sp124 g) := Eng.good_fn (fn := f124) fits (by kernel_rfl) mixed (by kernel_rfl) (.cons good137 (.cons hg .nil)) (by kernel_rfl) (by kernel_rfl) (by kernel_rfl) (by kernel_rfl) (by kernel_rfl) (by kernel_rfl) (by kernel_rfl) (by kernel_rfl) (by kernel_rfl)
noncomputable def F115 (g104 : G104) : Eng.Fn NN := ⟨⟨(Eng.look tys), (lookS [(104, (Eng.specOf [.v (.nm 1), .v (.sl (.nm 0))] [.v (.nm 0)] g104)), (124, (sp124 g104))]), Eng.look [(6, [0, 1, 4, 5, 6])], Eng.pinIds 0 [.v (.sl (.nm 1)), .v (.sl (.nm 0))]⟩, Eng.bodyOf Go.Proofs.Tryz.f115, [.cell 4 23], 43⟩
noncomputable def sp115 (g : G104) : Eng.Spec NN := (F115 g).spec [.v (.sl (.nm 1)), .v (.sl (.nm 0))] [.v (.nm 0)] 4000000
theorem goodm115 (g : G104) (hg : Eng.Good prog 104 (Eng.specOf [.v (.nm 1), .v (.sl (.nm 0))] [.v (.nm 0)] g)) : Eng.Good prog 115 (sp115 g) := Eng.good_fn (fn := f115) fits (by kernel_rfl) mixed (by kernel_rfl) (.cons hg (.cons (goodm124 g hg) .nil)) (by kernel_rfl) (by kernel_rfl) (by kernel_rfl) (by kernel_rfl) (by kernel_rfl) (by kernel_rfl) (by kernel_rfl) (by kernel_rfl) (by kernel_rfl)
noncomputable def F116 (g104 : G104) : Eng.Fn NN := ⟨⟨(Eng.look tys), (lookS [(104, (Eng.specOf [.v (.nm 1), .v (.sl (.nm 0))] [.v (.nm 0)] g104))]), Eng.look [(1, [0, 1]), (3, [1, 5, 8, 9, 10])], Eng.pinIds 0 [.v (.sl (.nm 1)), .v (.sl (.nm 0))]⟩, Eng.bodyOf Go.Proofs.Tryz.f116, [.tmp 4], 22⟩
noncomputable def sp116 (g : G104) : Eng.Spec NN := (F116 g).spec [.v (.sl (.nm 1)), .v (.sl (.nm 0))] [.own 23 (.nm 0)] 4000000
theorem goodm116 (g : G104) (hg : Eng.Good prog 104 (Eng.specOf [.v (.nm 1), .v (.sl (.nm 0))] [.v (.nm 0)] g)) : Eng.Good prog 116 (sp116 g) := Eng.good_fn (fn := f116) fits (by kernel_rfl) mixed (by kernel_rfl) (.cons hg .nil) (by kernel_rfl) (by kernel_rfl) (by kernel_rfl) (by kernel_rfl) (by kernel_rfl) (by kernel_rfl) (by kernel_rfl) (by kernel_rfl) (by kernel_rfl)
noncomputable def F104 (g104 : G104) : Eng.Fn NN := ⟨⟨(Eng.look tys), (lookS [(122, sp122), (121, sp121), (120, sp120), (119, sp119), (118, sp118), (117, sp117), (116, (sp116 g104)), (115, (sp115 g104)), (114, sp114)]), Eng.look [(10, [4])], Eng.pinIds 0 [.v (.nm 1), .v (.sl (.nm 0))]⟩, Eng.bodyOf Go.Proofs.Tryz.f104, [.cell 4 23], 77⟩
noncomputable def r104 (k : Nat) : G104 := Nat.rec (motive := fun _ => G104) (fun _ => none) (fun _ g => (F104 g).run [.v (.nm 1), .v (.sl (.nm 0))] [.v (.nm 0)] 4000000) k
theorem r104_succ (k : Nat) (x : HIn NN.ρ [.v (.nm 1), .v (.sl (.nm 0))]) : r104 (k + 1) x = (F104 (r104 k)).run [.v (.nm 1), .v (.sl (.nm 0))] [.v (.nm 0)] 4000000 x := rfl
noncomputable def R104 : G104 := r104 100000
noncomputable def sp104 : Eng.Spec NN := Eng.specOf [.v (.nm 1), .v (.sl (.nm 0))] [.v (.nm 0)] R104
theorem goodm104 (g : G104) (hg : Eng.Good prog 104 (Eng.specOf [.v (.nm 1), .v (.sl (.nm 0))] [.v (.nm 0)] g)) : Eng.Good prog 104 ((F104 g).spec [.v (.nm 1), .v (.sl (.nm 0))] [.v (.nm 0)] 4000000) := Eng.good_fn (fn := f104) fits (by kernel_rfl) mixed (by kernel_rfl) (.cons good122 (.cons good121 (.cons good120 (.cons good119 (.cons good118 (.cons good117 (.cons (goodm116 g hg) (.cons (goodm115 g hg) (.cons good114 .nil))))))))) (by kernel_rfl) (by kernel_rfl) (by kernel_rfl) (by kernel_rfl) (by kernel_rfl) (by kernel_rfl) (by kernel_rfl) (by kernel_rfl) (by kernel_rfl)
theorem goodr104 : ∀ k, Eng.Good prog 104 (Eng.specOf [.v (.nm 1), .v (.sl (.nm 0))] [.v (.nm 0)] (r104 k))
  | 0 => Eng.good_none (fn := f104) (by kernel_rfl) (c := Eng.bodyOf f104) (by kernel_rfl) (by kernel_rfl) _ _
  | k + 1 => Eng.good_rec (goodm104 (r104 k) (goodr104 k)) (r104_succ k)
theorem good104 : Eng.Good prog 104 sp104 := goodr104 100000
theorem good124 : Eng.Good prog 124 (sp124 R104) := goodm124 R104 good104
theorem good115 : Eng.Good prog 115 (sp115 R104) := goodm115 R104 good104
theorem good116 : Eng.Good prog 116 (sp116 R104) := goodm116 R104 good104
noncomputable def F103 : Eng.Fn NN := ⟨⟨(Eng.look tys), (lookS [(56, sp56)]), Eng.look [], Eng.pinIds 0 [.v (.nm 1)]⟩, Eng.bodyOf Go.Proofs.Tryz.f103, [.tmp 2], 6⟩
noncomputable def sp103 : Eng.Spec NN := F103.spec [.v (.nm 1)] [.v (.bool)] 4000000
theorem good103 : Eng.Good prog 103 sp103 := Eng.good_fn (fn := f103) fits (by kernel_rfl) mixed (by kernel_rfl) (.cons good56 .nil) (by kernel_rfl) (by kernel_rfl) (by kernel_rfl) (by kernel_rfl) (by kernel_rfl) (by kernel_rfl) (by kernel_rfl) (by kernel_rfl) (by kernel_rfl)
noncomputable def F113 : Eng.Fn NN := ⟨⟨(Eng.look tys), (lookS [(103, sp103)]), Eng.look [(2, [0, 1, 7, 8])], Eng.pinIds 0 [.v (.sl (.nm 1)), .fv 103]⟩, Eng.bodyOf Go.Proofs.Tryz.f113, [.tmp 4], 19⟩
noncomputable def sp113 : Eng.Spec NN := F113.spec [.v (.sl (.nm 1)), .fv 103] [.v (.int .i64)] 4000000
theorem good113 : Eng.Good prog 113 sp113 := Eng.good_fn (fn := f113) fits (by kernel_rfl) mixed (by kernel_rfl) (.cons good103 .nil) (by kernel_rfl) (by kernel_rfl) (by kernel_rfl) (by kernel_rfl) (by kernel_rfl) (by kernel_rfl) (by kernel_rfl) (by kernel_rfl) (by kernel_rfl)
noncomputable def F102 : Eng.Fn NN := ⟨⟨(Eng.look tys), (lookS [(113, sp113)]), Eng.look [], Eng.pinIds 0 [.v (.sl (.nm 1)), .fv 103]⟩, Eng.bodyOf Go.Proofs.Tryz.f102, [.tmp 4], 9⟩
noncomputable def sp102 : Eng.Spec NN := F102.spec [.v (.sl (.nm 1)), .fv 103] [.v (.bool)] 4000000
theorem good102 : Eng.Good prog 102 sp102 := Eng.good_fn (fn := f102) fits (by kernel_rfl) mixed (by kernel_rfl) (.cons good113 .nil) (by kernel_rfl) (by kernel_rfl) (by kernel_rfl) (by kernel_rfl) (by kernel_rfl) (by kernel_rfl) (by kernel_rfl) (by kernel_rfl) (by kernel_rfl)
noncomputable def F72 : Eng.Fn NN := ⟨⟨(Eng.look tys), (lookS [(83, sp83), (104, sp104), (103, sp103), (102, sp102)]), Eng.look [], Eng.pinIds 0 [.v (.nm 1)]⟩, Eng.bodyOf Go.Proofs.Tryz.f72, [.cell 2 27, .tmp 3], 19⟩
noncomputable def sp72 : Eng.Spec NN := F72.spec [.v (.nm 1)] [.v (.nm 1), .v (.bool)] 4000000
theorem good72 : Eng.Good prog 72 sp72 := Eng.good_fn (fn := f72) fits (by kernel_rfl) mixed (by kernel_rfl) (.cons good83 (.cons good104 (.cons good103 (.cons good102 .nil)))) (by kernel_rfl) (by kernel_rfl) (by kernel_rfl) (by kernel_rfl) (by kernel_rfl) (by kernel_rfl) (by kernel_rfl) (by kernel_rfl) (by kernel_rfl)
noncomputable def F44 : Eng.Fn NN := ⟨⟨(Eng.look tys), (lookS [(74, sp74), (73, sp73), (72, sp72)]), Eng.look [(12, [1, 2])], Eng.pinIds 0 [.v (.nm 1)]⟩, Eng.bodyOf Go.Proofs.Tryz.f44, [.cell 2 27], 71⟩
noncomputable def sp44 : Eng.Spec NN := F44.spec [.v (.nm 1)] [.v (.nm 1)] 4000000
theorem good44 : Eng.Good prog 44 sp44 := Eng.good_fn (fn := f44) fits (by kernel_rfl) mixed (by kernel_rfl) (.cons good74 (.cons good73 (.cons good72 .nil))) (by kernel_rfl) (by kernel_rfl) (by kernel_rfl) (by kernel_rfl) (by kernel_rfl) (by kernel_rfl) (by kernel_rfl) (by kernel_rfl) (by kernel_rfl)
abbrev G43 := HIn NN.ρ [.v (.nm 1), .fb 43] → Option (HRes NN.ρ [.v (.nm 1)] × HOut NN.ρ [.v (.nm 1), .fb 43])
noncomputable def F43 (g43 : G43) : Eng.Fn NN := ⟨⟨(Eng.look tys), (lookS [(43, (Eng.specOf [.v (.nm 1), .fb 43] [.v (.nm 1)] g43)), (44, sp44)]), Eng.look [(1, [1, 2, 3]), (7, [1, 2, 3]), (9, [1, 2, 3, 4, 16, 17, 18])], Eng.pinIds 0 [.v (.nm 1), .fb 43]⟩, Eng.bodyOf Go.Proofs.Tryz.f43, [.cell 3 27], 33⟩
noncomputable def r43 (k : Nat) : G43 := Nat.rec (motive := fun _ => G43) (fun _ => none) (fun _ g => (F43 g).run [.v (.nm 1), .fb 43] [.v (.nm 1)] 4000000) k
theorem r43_succ (k : Nat) (x : HIn NN.ρ [.v (.nm 1), .fb 43]) : r43 (k + 1) x = (F43 (r43 k)).run [.v (.nm 1), .fb 43] [.v (.nm 1)] 4000000 x := rfl
noncomputable def R43 : G43 := r43 100000
noncomputable def sp43 : Eng.Spec NN := Eng.specOf [.v (.nm 1), .fb 43] [.v (.nm 1)] R43
theorem goodm43 (g : G43) (hg : Eng.Good prog 43 (Eng.specOf [.v (.nm 1), .fb 43] [.v (.nm 1)] g)) : Eng.Good prog 43 ((F43 g).spec [.v (.nm 1), .fb 43] [.v (.nm 1)] 4000000) := Eng.good_fn (fn := f43) fits (by kernel_rfl) mixed (by kernel_rfl) (.cons hg (.cons good44 .nil)) (by kernel_rfl) (by kernel_rfl) (by kernel_rfl) (by kernel_rfl) (by kernel_rfl) (by kernel_rfl) (by kernel_rfl) (by kernel_rfl) (by kernel_rfl)
theorem goodr43 : ∀ k, Eng.Good prog 43 (Eng.specOf [.v (.nm 1), .fb 43] [.v (.nm 1)] (r43 k))
  | 0 => Eng.good_none (fn := f43) (by kernel_rfl) (c := Eng.bodyOf f43) (by kernel_rfl) (by kernel_rfl) _ _
  | k + 1 => Eng.good_rec (goodm43 (r43 k) (goodr43 k)) (r43_succ k)
theorem good43 : Eng.Good prog 43 sp43 := goodr43 100000
noncomputable def F14 : Eng.Fn NN := ⟨⟨(Eng.look tys), (lookS [(43, sp43)]), Eng.look [], Eng.pinIds 0 [.v (.nm 1)]⟩, Eng.bodyOf Go.Proofs.Tryz.f14, [.cell 2 27], 8⟩
noncomputable def sp14 : Eng.Spec NN := F14.spec [.v (.nm 1)] [.v (.nm 1)] 4000000
theorem good14 : Eng.Good prog 14 sp14 := Eng.good_fn (fn := f14) fits (by kernel_rfl) mixed (by kernel_rfl) (.cons good43 .nil) (by kernel_rfl) (by kernel_rfl) (by kernel_rfl) (by kernel_rfl) (by kernel_rfl) (by kernel_rfl) (by kernel_rfl) (by kernel_rfl) (by kernel_rfl)
noncomputable def F49 : Eng.Fn NN := ⟨⟨(Eng.look tys), (lookS []), Eng.look [], Eng.pinIds 0 [.v (.nm 0)]⟩, Eng.bodyOf Go.Proofs.Tryz.f49, [.tmp 2], 11⟩
noncomputable def sp49 : Eng.Spec NN := F49.spec [.v (.nm 0)] [.v (.bool)] 4000000
theorem good49 : Eng.Good prog 49 sp49 := Eng.good_fn (fn := f49) fits (by kernel_rfl) mixed (by kernel_rfl) .nil (by kernel_rfl) (by kernel_rfl) (by kernel_rfl) (by kernel_rfl) (by kernel_rfl) (by kernel_rfl) (by kernel_rfl) (by kernel_rfl) (by kernel_rfl)
noncomputable def F51 : Eng.Fn NN := ⟨⟨(Eng.look tys), (lookS [(49, sp49)]), Eng.look [], Eng.pinIds 0 [.v (.nm 1)]⟩, Eng.bodyOf Go.Proofs.Tryz.f51, [.tmp 2], 11⟩
noncomputable def sp51 : Eng.Spec NN := F51.spec [.v (.nm 1)] [.v (.bool)] 4000000
theorem good51 : Eng.Good prog 51 sp51 := Eng.good_fn (fn := f51) fits (by kernel_rfl) mixed (by kernel_rfl) (.cons good49 .nil) (by kernel_rfl) (by kernel_rfl) (by kernel_rfl) (by kernel_rfl) (by kernel_rfl) (by kernel_rfl) (by kernel_rfl) (by kernel_rfl) (by kernel_rfl)
noncomputable def F77 : Eng.Fn NN := ⟨⟨(Eng.look tys), (lookS [(51, sp51)]), Eng.look [(9, [1, 2, 3, 4]), (10, [1, 2, 3, 4]), (12, [1, 2, 3, 4, 5]), (16, [1, 2])], Eng.pinIds 0 [.v (.nm 1)]⟩, Eng.bodyOf Go.Proofs.Tryz.f77, [.cell 2 27], 75⟩
noncomputable def sp77 : Eng.Spec NN := F77.spec [.v (.nm 1)] [.v (.nm 1)] 4000000
theorem good77 : Eng.Good prog 77 sp77 := Eng.good_fn (fn := f77) fits (by kernel_rfl) mixed (by kernel_rfl) (.cons good51 .nil) (by kernel_rfl) (by kernel_rfl) (by kernel_rfl) (by kernel_rfl) (by kernel_rfl) (by kernel_rfl) (by kernel_rfl) (by kernel_rfl) (by kernel_rfl)
noncomputable def F53 : Eng.Fn NN := ⟨⟨(Eng.look tys), (lookS []), Eng.look [], Eng.pinIds 0 [.v (.nm 0)]⟩, Eng.bodyOf Go.Proofs.Tryz.f53, [.cell 2 27], 7⟩
noncomputable def sp53 : Eng.Spec NN := F53.spec [.v (.nm 0)] [.v (.nm 1)] 4000000
theorem good53 : Eng.Good prog 53 sp53 := Eng.good_fn (fn := f53) fits (by kernel_rfl) mixed (by kernel_rfl) .nil (by kernel_rfl) (by kernel_rfl) (by kernel_rfl) (by kernel_rfl) (by kernel_rfl) (by kernel_rfl) (by kernel_rfl) (by kernel_rfl) (by kernel_rfl)
noncomputable def F54 : Eng.Fn NN := ⟨⟨(Eng.look tys), (lookS []), Eng.look [], Eng.pinIds 0 [.v (.bool)]⟩, Eng.bodyOf Go.Proofs.Tryz.f54, [.cell 2 23], 6⟩
noncomputable def sp54 : Eng.Spec NN := F54.spec [.v (.bool)] [.v (.nm 0)] 4000000
theorem good54 : Eng.Good prog 54 sp54 := Eng.good_fn (fn := f54) fits (by kernel_rfl) mixed (by kernel_rfl) .nil (by kernel_rfl) (by kernel_rfl) (by kernel_rfl) (by kernel_rfl) (by kernel_rfl) (by kernel_rfl) (by kernel_rfl) (by kernel_rfl) (by kernel_rfl)
noncomputable def F108 : Eng.Fn NN := ⟨⟨(Eng.look tys), (lookS []), Eng.look [], Eng.pinIds 0 [.v (.nm 0)]⟩, Eng.bodyOf Go.Proofs.Tryz.f108, [.tmp 2], 11⟩
noncomputable def sp108 : Eng.Spec NN := F108.spec [.v (.nm 0)] [.v (.bool)] 4000000
theorem good108 : Eng.Good prog 108 sp108 := Eng.good_fn (fn := f108) fits (by kernel_rfl) mixed (by kernel_rfl) .nil (by kernel_rfl) (by kernel_rfl) (by kernel_rfl) (by kernel_rfl) (by kernel_rfl) (by kernel_rfl) (by kernel_rfl) (by kernel_rfl) (by kernel_rfl)
noncomputable def F81 : Eng.Fn NN := ⟨⟨(Eng.look tys), (lookS [(108, sp108)]), Eng.look [], Eng.pinIds 0 [.v (.nm 1)]⟩, Eng.bodyOf Go.Proofs.Tryz.f81, [.tmp 2], 11⟩
noncomputable def sp81 : Eng.Spec NN := F81.spec [.v (.nm 1)] [.v (.bool)] 4000000
theorem good81 : Eng.Good prog 81 sp81 := Eng.good_fn (fn := f81) fits (by kernel_rfl) mixed (by kernel_rfl) (.cons good108 .nil) (by kernel_rfl) (by kernel_rfl) (by kernel_rfl) (by kernel_rfl) (by kernel_rfl) (by kernel_rfl) (by kernel_rfl) (by kernel_rfl) (by kernel_rfl)
noncomputable def F76 : Eng.Fn NN := ⟨⟨(Eng.look tys), (lookS [(53, sp53), (54, sp54), (81, sp81), (51, sp51)]), Eng.look [(3, [1, 2, 4, 6, 7, 8]), (6, [1, 2, 4, 6, 7, 8]), (8, [1, 2, 4, 6, 7, 8, 9, 10]), (12, [2, 4, 6, 10])], Eng.pinIds 0 [.v (.nm 1), .v (.bool)]⟩, Eng.bodyOf Go.Proofs.Tryz.f76, [.cell 4 27, .tmp 5], 59⟩
noncomputable def sp76 : Eng.Spec NN := F76.spec [.v (.nm 1), .v (.bool)] [.v (.nm 1), .v (.bool)] 4000000
theorem good76 : Eng.Good prog 76 sp76 := Eng.good_fn (fn := f76) fits (by kernel_rfl) mixed (by kernel_rfl) (.cons good53 (.cons good54 (.cons good81 (.cons good51 .nil)))) (by kernel_rfl) (by kernel_rfl) (by kernel_rfl) (by kernel_rfl) (by kernel_rfl) (by kernel_rfl) (by kernel_rfl) (by kernel_rfl) (by kernel_rfl)
noncomputable def F111 : Eng.Fn NN := ⟨⟨(Eng.look tys), (lookS []), Eng.look [(3, [0, 1, 2, 7, 8]), (4, [0, 1, 2, 7, 8])], Eng.pinIds 0 [.v (.str), .v (.int .i64), .v (.int .i64)]⟩, Eng.bodyOf Go.Proofs.Tryz.f111, [.tmp 6], 65⟩
noncomputable def sp111 : Eng.Spec NN := F111.spec [.v (.str), .v (.int .i64), .v (.int .i64)] [.v (.str)] 4000000
theorem good111 : Eng.Good prog 111 sp111 := Eng.good_fn (fn := f111) fits (by kernel_rfl) mixed (by kernel_rfl) .nil (by kernel_rfl) (by kernel_rfl) (by kernel_rfl) (by kernel_rfl) (by kernel_rfl) (by kernel_rfl) (by kernel_rfl) (by kernel_rfl) (by kernel_rfl)
noncomputable def F110 : Eng.Fn NN := ⟨⟨(Eng.look tys), (lookS []), Eng.look [(3, [1, 2, 7, 8]), (4, [1, 2, 7, 8])], Eng.pinIds 0 [.v (.str), .v (.int .u8), .v (.int .i64)]⟩, Eng.bodyOf Go.Proofs.Tryz.f110, [.tmp 6], 45⟩
noncomputable def sp110 : Eng.Spec NN := F110.spec [.v (.str), .v (.int .u8), .v (.int .i64)] [.v (.str)] 4000000
theorem good110 : Eng.Good prog 110 sp110 := Eng.good_fn (fn := f110) fits (by kernel_rfl) mixed (by kernel_rfl) .nil (by kernel_rfl) (by kernel_rfl) (by kernel_rfl) (by kernel_rfl) (by kernel_rfl) (by kernel_rfl) (by kernel_rfl) (by kernel_rfl) (by kernel_rfl)
noncomputable def F94 : Eng.Fn NN := ⟨⟨(Eng.look tys), (lookS [(111, sp111), (110, sp110)]), Eng.look [(20, [4, 7])], Eng.pinIds 0 [.v (.str), .v (.sl (.nm 0))]⟩, Eng.bodyOf Go.Proofs.Tryz.f94, [.cell 4 23], 99⟩
noncomputable def sp94 : Eng.Spec NN := F94.spec [.v (.str), .v (.sl (.nm 0))] [.v (.nm 0)] 4000000
theorem good94 : Eng.Good prog 94 sp94 := Eng.good_fn (fn := f94) fits (by kernel_rfl) mixed (by kernel_rfl) (.cons good111 (.cons good110 .nil)) (by kernel_rfl) (by kernel_rfl) (by kernel_rfl) (by kernel_rfl) (by kernel_rfl) (by kernel_rfl) (by kernel_rfl) (by kernel_rfl) (by kernel_rfl)
noncomputable def F93 : Eng.Fn NN := ⟨⟨(Eng.look tys), (lookS []), Eng.look [(1, [0]), (14, [])], Eng.pinIds 0 [.v (.str)]⟩, Eng.bodyOf Go.Proofs.Tryz.f93, [.tmp 2, .tmp 3, .tmp 4], 23⟩
noncomputable def sp93 : Eng.Spec NN := F93.spec [.v (.str)] [.own 3 (.int .i64), .v (.int .i64), .v (.bool)] 4000000
theorem good93 : Eng.Good prog 93 sp93 := Eng.good_fn (fn := f93) fits (by kernel_rfl) mixed (by kernel_rfl) .nil (by kernel_rfl) (by kernel_rfl) (by kernel_rfl) (by kernel_rfl) (by kernel_rfl) (by kernel_rfl) (by kernel_rfl) (by kernel_rfl) (by kernel_rfl)
noncomputable def F84 : Eng.Fn NN := ⟨⟨(Eng.look tys), (lookS []), Eng.look [], Eng.pinIds 0 [.v (.bool), .v (.bool)]⟩, Eng.bodyOf Go.Proofs.Tryz.f84, [.tmp 4], 7⟩
noncomputable def sp84 : Eng.Spec NN := F84.spec [.v (.bool), .v (.bool)] [.v (.int .i64)] 4000000
theorem good84 : Eng.Good prog 84 sp84 := Eng.good_fn (fn := f84) fits (by kernel_rfl) mixed (by kernel_rfl) .nil (by kernel_rfl) (by kernel_rfl) (by kernel_rfl) (by kernel_rfl) (by kernel_rfl) (by kernel_rfl) (by kernel_rfl) (by kernel_rfl) (by kernel_rfl)
noncomputable def F60 : Eng.Fn NN := ⟨⟨(Eng.look tys), (lookS [(84, sp84)]), Eng.look [], Eng.pinIds 0 [.v (.nm 0), .v (.nm 0)]⟩, Eng.bodyOf Go.Proofs.Tryz.f60, [.tmp 4], 41⟩
noncomputable def sp60 : Eng.Spec NN := F60.spec [.v (.nm 0), .v (.nm 0)] [.v (.int .i64)] 4000000
theorem good60 : Eng.Good prog 60 sp60 := Eng.good_fn (fn := f60) fits (by kernel_rfl) mixed (by kernel_rfl) (.cons good84 .nil) (by kernel_rfl) (by kernel_rfl) (by kernel_rfl) (by kernel_rfl) (by kernel_rfl) (by kernel_rfl) (by kernel_rfl) (by kernel_rfl) (by kernel_rfl)
noncomputable def F92 : Eng.Fn NN := ⟨⟨(Eng.look tys), (lookS [(60, sp60)]), Eng.look [(3, [0, 1, 4, 5, 6]), (4, [0, 1, 4, 5, 6])], Eng.pinIds 0 [.v (.sl (.nm 0)), .v (.bool)]⟩, Eng.bodyOf Go.Proofs.Tryz.f92, [.cell 4 23], 52⟩
noncomputable def sp92 : Eng.Spec NN := F92.spec [.v (.sl (.nm 0)), .v (.bool)] [.v (.nm 0)] 4000000
theorem good92 : Eng.Good prog 92 sp92 := Eng.good_fn (fn := f92) fits (by kernel_rfl) mixed (by kernel_rfl) (.cons good60 .nil) (by kernel_rfl) (by kernel_rfl) (by kernel_rfl) (by kernel_rfl) (by kernel_rfl) (by kernel_rfl) (by kernel_rfl) (by kernel_rfl) (by kernel_rfl)
noncomputable def F101 : Eng.Fn NN := ⟨⟨(Eng.look tys), (lookS []), Eng.look [], Eng.pinIds 0 [.v (.int .i64), .v (.int .i64)]⟩, Eng.bodyOf Go.Proofs.Tryz.f101, [.tmp 4], 30⟩
noncomputable def sp101 : Eng.Spec NN := F101.spec [.v (.int .i64), .v (.int .i64)] [.v (.bool)] 4000000
theorem good101 : Eng.Good prog 101 sp101 := Eng.good_fn (fn := f101) fits (by kernel_rfl) mixed (by kernel_rfl) .nil (by kernel_rfl) (by kernel_rfl) (by kernel_rfl) (by kernel_rfl) (by kernel_rfl) (by kernel_rfl) (by kernel_rfl) (by kernel_rfl) (by kernel_rfl)
noncomputable def F71 : Eng.Fn NN := ⟨⟨(Eng.look tys), (lookS [(54, sp54), (101, sp101), (60, sp60)]), Eng.look [(3, [0, 4, 5, 6])], Eng.pinIds 0 [.v (.int .i64), .v (.nm 0), .v (.nm 0)]⟩, Eng.bodyOf Go.Proofs.Tryz.f71, [.cell 6 23], 32⟩
noncomputable def sp71 : Eng.Spec NN := F71.spec [.v (.int .i64), .v (.nm 0), .v (.nm 0)] [.v (.nm 0)] 4000000
theorem good71 : Eng.Good prog 71 sp71 := Eng.good_fn (fn := f71) fits (by kernel_rfl) mixed (by kernel_rfl) (.cons good54 (.cons good101 (.cons good60 .nil))) (by kernel_rfl) (by kernel_rfl) (by kernel_rfl) (by kernel_rfl) (by kernel_rfl) (by kernel_rfl) (by kernel_rfl) (by kernel_rfl) (by kernel_rfl)
noncomputable def F91 : Eng.Fn NN := ⟨⟨(Eng.look tys), (lookS []), Eng.look [], Eng.pinIds 0 [.v (.str), .v (.int .i64)]⟩, Eng.bodyOf Go.Proofs.Tryz.f91, [.tmp 4], 27⟩
noncomputable def sp91 : Eng.Spec NN := F91.spec [.v (.str), .v (.int .i64)] [.v (.bool)] 4000000
theorem good91 : Eng.Good prog 91 sp91 := Eng.good_fn (fn := f91) fits (by kernel_rfl) mixed (by kernel_rfl) .nil (by kernel_rfl) (by kernel_rfl) (by kernel_rfl) (by kernel_rfl) (by kernel_rfl) (by kernel_rfl) (by kernel_rfl) (by kernel_rfl) (by kernel_rfl)
noncomputable def F69 : Eng.Fn NN := ⟨⟨(Eng.look tys), (lookS [(94, sp94), (93, sp93), (92, sp92), (71, sp71), (91, sp91)]), Eng.look [(12, [1, 4, 5]), (20, [0, 1, 4, 6]), (21, [0, 1, 4, 6, 9])], Eng.pinIds 0 [.v (.str), .v (.sl (.nm 0))]⟩, Eng.bodyOf Go.Proofs.Tryz.f69, [.cell 4 23], 91⟩
noncomputable def sp69 : Eng.Spec NN := F69.spec [.v (.str), .v (.sl (.nm 0))] [.v (.nm 0)] 4000000
theorem good69 : Eng.Good prog 69 sp69 := Eng.good_fn (fn := f69) fits (by kernel_rfl) mixed (by kernel_rfl) (.cons good94 (.cons good93 (.cons good92 (.cons good71 (.cons good91 .nil))))) (by kernel_rfl) (by kernel_rfl) (by kernel_rfl) (by kernel_rfl) (by kernel_rfl) (by kernel_rfl) (by kernel_rfl) (by kernel_rfl) (by kernel_rfl)
noncomputable def F68 : Eng.Fn NN := ⟨⟨(Eng.look tys), (lookS [(49, sp49)]), Eng.look [(2, [0, 2, 3])], Eng.pinIds 0 [.v (.sl (.nm 0))]⟩, Eng.bodyOf Go.Proofs.Tryz.f68, [.cell 2 23], 32⟩
noncomputable def sp68 : Eng.Spec NN := F68.spec [.v (.sl (.nm 0))] [.v (.nm 0)] 4000000
theorem good68 : Eng.Good prog 68 sp68 := Eng.good_fn (fn := f68) fits (by kernel_rfl) mixed (by kernel_rfl) (.cons good49 .nil) (by kernel_rfl) (by kernel_rfl) (by kernel_rfl) (by kernel_rfl) (by kernel_rfl) (by kernel_rfl) (by kernel_rfl) (by kernel_rfl) (by kernel_rfl)
noncomputable def F87 : Eng.Fn NN := ⟨⟨(Eng.look tys), (lookS [(54, sp54), (108, sp108), (49, sp49)]), Eng.look [(3, [0, 2, 3, 4])], Eng.pinIds 0 [.v (.sl (.nm 0))]⟩, Eng.bodyOf Go.Proofs.Tryz.f87, [.cell 2 23], 26⟩
noncomputable def sp87 : Eng.Spec NN := F87.spec [.v (.sl (.nm 0))] [.v (.nm 0)] 4000000
theorem good87 : Eng.Good prog 87 sp87 := Eng.good_fn (fn := f87) fits (by kernel_rfl) mixed (by kernel_rfl) (.cons good54 (.cons good108 (.cons good49 .nil))) (by kernel_rfl) (by kernel_rfl) (by kernel_rfl) (by kernel_rfl) (by kernel_rfl) (by kernel_rfl) (by kernel_rfl) (by kernel_rfl) (by kernel_rfl)
noncomputable def F67 : Eng.Fn NN := ⟨⟨(Eng.look tys), (lookS [(87, sp87), (71, sp71)]), Eng.look [(3, [0, 2, 3, 4])], Eng.pinIds 0 [.v (.sl (.nm 0))]⟩, Eng.bodyOf Go.Proofs.Tryz.f67, [.cell 2 23], 24⟩
noncomputable def sp67 : Eng.Spec NN := F67.spec [.v (.sl (.nm 0))] [.v (.nm 0)] 4000000
theorem good67 : Eng.Good prog 67 sp67 := Eng.good_fn (fn := f67) fits (by kernel_rfl) mixed (by kernel_rfl) (.cons good87 (.cons good71 .nil)) (by kernel_rfl) (by kernel_rfl) (by kernel_rfl) (by kernel_rfl) (by kernel_rfl) (by kernel_rfl) (by kernel_rfl) (by kernel_rfl) (by kernel_rfl)
noncomputable def F66 : Eng.Fn NN := ⟨⟨(Eng.look tys), (lookS []), Eng.look [], Eng.pinIds 0 [.v (.bool)]⟩, Eng.bodyOf Go.Proofs.Tryz.f66, [.cell 2 23], 6⟩
noncomputable def sp66 : Eng.Spec NN := F66.spec [.v (.bool)] [.v (.nm 0)] 4000000
theorem good66 : Eng.Good prog 66 sp66 := Eng.good_fn (fn := f66) fits (by kernel_rfl) mixed (by kernel_rfl) .nil (by kernel_rfl) (by kernel_rfl) (by kernel_rfl) (by kernel_rfl) (by kernel_rfl) (by kernel_rfl) (by kernel_rfl) (by kernel_rfl) (by kernel_rfl)
noncomputable def F90 : Eng.Fn NN := ⟨⟨(Eng.look tys), (lookS []), Eng.look [(4, [0, 1, 5, 6]), (9, [0, 1, 5, 6, 8]), (14, [0, 1, 5, 6, 7, 9])], Eng.pinIds 0 [.v (.str), .v (.str)]⟩, Eng.bodyOf Go.Proofs.Tryz.f90, [.tmp 4], 74⟩
noncomputable def sp90 : Eng.Spec NN := F90.spec [.v (.str), .v (.str)] [.v (.bool)] 40000000
theorem good90 : Eng.Good prog 90 sp90 := Eng.good_fn (fn := f90) fits (by kernel_rfl) mixed (by kernel_rfl) .nil (by kernel_rfl) (by kernel_rfl) (by kernel_rfl) (by kernel_rfl) (by kernel_rfl) (by kernel_rfl) (by kernel_rfl) (by kernel_rfl) (by kernel_rfl)
noncomputable def F89 : Eng.Fn NN := ⟨⟨(Eng.look tys), (lookS []), Eng.look [(3, [2, 3, 4])], Eng.pinIds 0 [.v (.nm 0), .v (.nm 0)]⟩, Eng.bodyOf Go.Proofs.Tryz.f89, [.cell 4 23], 30⟩
noncomputable def sp89 : Eng.Spec NN := F89.spec [.v (.nm 0), .v (.nm 0)] [.v (.nm 0)] 4000000
theorem good89 : Eng.Good prog 89 sp89 := Eng.good_fn (fn := f89) fits (by kernel_rfl) mixed (by kernel_rfl) .nil (by kernel_rfl) (by kernel_rfl) (by kernel_rfl) (by kernel_rfl) (by kernel_rfl) (by kernel_rfl) (by kernel_rfl) (by kernel_rfl) (by kernel_rfl)
noncomputable def F85 : Eng.Fn NN := ⟨⟨(Eng.look tys), (lookS []), Eng.look [], Eng.pinIds 0 [.v (.int .i64)]⟩, Eng.bodyOf Go.Proofs.Tryz.f85, [.cell 2 23], 5⟩
noncomputable def sp85 : Eng.Spec NN := F85.spec [.v (.int .i64)] [.v (.nm 0)] 4000000
theorem good85 : Eng.Good prog 85 sp85 := Eng.good_fn (fn := f85) fits (by kernel_rfl) mixed (by kernel_rfl) .nil (by kernel_rfl) (by kernel_rfl) (by kernel_rfl) (by kernel_rfl) (by kernel_rfl) (by kernel_rfl) (by kernel_rfl) (by kernel_rfl) (by kernel_rfl)
noncomputable def F123 : Eng.Fn NN := ⟨⟨(Eng.look tys), (lookS []), Eng.look [(3, [0, 1])], Eng.pinIds 0 [.v (.int .i64), .v (.int .i64)]⟩, Eng.bodyOf Go.Proofs.Tryz.f123, [.tmp 4, .tmp 5], 34⟩
noncomputable def sp123 : Eng.Spec NN := F123.spec [.v (.int .i64), .v (.int .i64)] [.v (.int .i64), .v (.bool)] 4000000
theorem good123 : Eng.Good prog 123 sp123 := Eng.good_fn (fn := f123) fits (by kernel_rfl) mixed (by kernel_rfl) .nil (by kernel_rfl) (by kernel_rfl) (by kernel_rfl) (by kernel_rfl) (by kernel_rfl) (by kernel_rfl) (by kernel_rfl) (by kernel_rfl) (by kernel_rfl)
noncomputable def F109 : Eng.Fn NN := ⟨⟨(Eng.look tys), (lookS [(123, sp123)]), Eng.look [(11, [1, 2])], Eng.pinIds 0 [.v (.int .i64), .v (.int .i64), .v (.int .i64)]⟩, Eng.bodyOf Go.Proofs.Tryz.f109, [.tmp 6, .tmp 7], 88⟩
noncomputable def sp109 : Eng.Spec NN := F109.spec [.v (.int .i64), .v (.int .i64), .v (.int .i64)] [.v (.int .i64), .v (.bool)] 4000000
theorem good109 : Eng.Good prog 109 sp109 := Eng.good_fn (fn := f109) fits (by kernel_rfl) mixed (by kernel_rfl) (.cons good123 .nil) (by kernel_rfl) (by kernel_rfl) (by kernel_rfl) (by kernel_rfl) (by kernel_rfl) (by kernel_rfl) (by kernel_rfl) (by kernel_rfl) (by kernel_rfl)
noncomputable def F88 : Eng.Fn NN := ⟨⟨(Eng.look tys), (lookS [(85, sp85), (109, sp109)]), Eng.look [(3, [0, 4, 5, 6])], Eng.pinIds 0 [.v (.int .i64), .v (.nm 0), .v (.nm 0)]⟩, Eng.bodyOf Go.Proofs.Tryz.f88, [.cell 6 23], 32⟩
noncomputable def sp88 : Eng.Spec NN := F88.spec [.v (.int .i64), .v (.nm 0), .v (.nm 0)] [.v (.nm 0)] 4000000
theorem good88 : Eng.Good prog 88 sp88 := Eng.good_fn (fn := f88) fits (by kernel_rfl) mixed (by kernel_rfl) (.cons good85 (.cons good109 .nil)) (by kernel_rfl) (by kernel_rfl) (by kernel_rfl) (by kernel_rfl) (by kernel_rfl) (by kernel_rfl) (by kernel_rfl) (by kernel_rfl) (by kernel_rfl)
noncomputable def F86 : Eng.Fn NN := ⟨⟨(Eng.look tys), (lookS [(54, sp54), (49, sp49), (108, sp108)]), Eng.look [(3, [0, 2, 3, 4])], Eng.pinIds 0 [.v (.sl (.nm 0))]⟩, Eng.bodyOf Go.Proofs.Tryz.f86, [.cell 2 23], 26⟩
noncomputable def sp86 : Eng.Spec NN := F86.spec [.v (.sl (.nm 0))] [.v (.nm 0)] 4000000
theorem good86 : Eng.Good prog 86 sp86 := Eng.good_fn (fn := f86) fits (by kernel_rfl) mixed (by kernel_rfl) (.cons good54 (.cons good49 (.cons good108 .nil))) (by kernel_rfl) (by kernel_rfl) (by kernel_rfl) (by kernel_rfl) (by kernel_rfl) (by kernel_rfl) (by kernel_rfl) (by kernel_rfl) (by kernel_rfl)
noncomputable def F65 : Eng.Fn NN := ⟨⟨(Eng.look tys), (lookS [(71, sp71), (66, sp66), (90, sp90), (89, sp89), (88, sp88), (87, sp87), (86, sp86)]), Eng.look [(17, [4, 5, 6]), (18, [0, 4, 5, 6])], Eng.pinIds 0 [.v (.int .i64), .v (.nm 0), .v (.nm 0)]⟩, Eng.bodyOf Go.Proofs.Tryz.f65, [.cell 6 23], 56⟩
noncomputable def sp65 : Eng.Spec NN := F65.spec [.v (.int .i64), .v (.nm 0), .v (.nm 0)] [.v (.nm 0)] 4000000
theorem good65 : Eng.Good prog 65 sp65 := Eng.good_fn (fn := f65) fits (by kernel_rfl) mixed (by kernel_rfl) (.cons good71 (.cons good66 (.cons good90 (.cons good89 (.cons good88 (.cons good87 (.cons good86 .nil))))))) (by kernel_rfl) (by kernel_rfl) (by kernel_rfl) (by kernel_rfl) (by kernel_rfl) (by kernel_rfl) (by kernel_rfl) (by kernel_rfl) (by kernel_rfl)
noncomputable def F64 : Eng.Fn NN := ⟨⟨(Eng.look tys), (lookS [(85, sp85)]), Eng.look [], Eng.pinIds 0 [.v (.nm 0)]⟩, Eng.bodyOf Go.Proofs.Tryz.f64, [.cell 2 23], 16⟩
noncomputable def sp64 : Eng.Spec NN := F64.spec [.v (.nm 0)] [.v (.nm 0)] 4000000
theorem good64 : Eng.Good prog 64 sp64 := Eng.good_fn (fn := f64) fits (by kernel_rfl) mixed (by kernel_rfl) (.cons good85 .nil) (by kernel_rfl) (by kernel_rfl) (by kernel_rfl) (by kernel_rfl) (by kernel_rfl) (by kernel_rfl) (by kernel_rfl) (by kernel_rfl) (by kernel_rfl)
noncomputable def F63 : Eng.Fn NN := ⟨⟨(Eng.look tys), (lookS [(54, sp54)]), Eng.look [], Eng.pinIds 0 [.v (.nm 0)]⟩, Eng.bodyOf Go.Proofs.Tryz.f63, [.cell 2 23], 11⟩
noncomputable def sp63 : Eng.Spec NN := F63.spec [.v (.nm 0)] [.v (.nm 0)] 4000000
theorem good63 : Eng.Good prog 63 sp63 := Eng.good_fn (fn := f63) fits (by kernel_rfl) mixed (by kernel_rfl) (.cons good54 .nil) (by kernel_rfl) (by kernel_rfl) (by kernel_rfl) (by kernel_rfl) (by kernel_rfl) (by kernel_rfl) (by kernel_rfl) (by kernel_rfl) (by kernel_rfl)
noncomputable def F61 : Eng.Fn NN := ⟨⟨(Eng.look tys), (lookS []), Eng.look [], Eng.pinIds 0 [.v (.sl (.nm 0)), .v (.int .i64)]⟩, Eng.bodyOf Go.Proofs.Tryz.f61, [.cell 4 23], 18⟩
noncomputable def sp61 : Eng.Spec NN := F61.spec [.v (.sl (.nm 0)), .v (.int .i64)] [.v (.nm 0)] 4000000
theorem good61 : Eng.Good prog 61 sp61 := Eng.good_fn (fn := f61) fits (by kernel_rfl) mixed (by kernel_rfl) .nil (by kernel_rfl) (by kernel_rfl) (by kernel_rfl) (by kernel_rfl) (by kernel_rfl) (by kernel_rfl) (by kernel_rfl) (by kernel_rfl) (by kernel_rfl)
abbrev G33 := HIn NN.ρ [.v (.nm 1), .v (.sl (.nm 0))] → Option (HRes NN.ρ [.v (.nm 0)] × HOut NN.ρ [.v (.nm 1), .v (.sl (.nm 0))])
noncomputable def F62 (g33 : G33) : Eng.Fn NN := ⟨⟨(Eng.look tys), (lookS [(33, (Eng.specOf [.v (.nm 1), .v (.sl (.nm 0))] [.v (.nm 0)] g33))]), Eng.look [(1, [0, 1]), (3, [0, 1, 5, 6])], Eng.pinIds 0 [.v (.sl (.nm 1)), .v (.sl (.nm 0))]⟩, Eng.bodyOf Go.Proofs.Tryz.f62, [.tmp 4], 23⟩
noncomputable def sp62 (g : G33) : Eng.Spec NN := (F62 g).spec [.v (.sl (.nm 1)), .v (.sl (.nm 0))] [.own 23 (.nm 0)] 4000000
theorem goodm62 (g : G33) (hg : Eng.Good prog 33 (Eng.specOf [.v (.nm 1), .v (.sl (.nm 0))] [.v (.nm 0)] g)) : Eng.Good prog 62 (sp62 g) := Eng.good_fn (fn := f62) fits (by kernel_rfl) mixed (by kernel_rfl) (.cons hg .nil) (by kernel_rfl) (by kernel_rfl) (by kernel_rfl) (by kernel_rfl) (by kernel_rfl) (by kernel_rfl) (by kernel_rfl) (by kernel_rfl) (by kernel_rfl)
noncomputable def F33 (g33 : G33) : Eng.Fn NN := ⟨⟨(Eng.look tys), (lookS [(69, sp69), (68, sp68), (67, sp67), (66, sp66), (65, sp65), (64, sp64), (63, sp63), (62, (sp62 g33)), (61, sp61)]), Eng.look [(9, [1, 2, 4])], Eng.pinIds 0 [.v (.nm 1), .v (.sl (.nm 0))]⟩, Eng.bodyOf Go.Proofs.Tryz.f33, [.cell 4 23], 74⟩
noncomputable def r33 (k : Nat) : G33 := Nat.rec (motive := fun _ => G33) (fun _ => none) (fun _ g => (F33 g).run [.v (.nm 1), .v (.sl (.nm 0))] [.v (.nm 0)] 4000000) k
theorem r33_succ (k : Nat) (x : HIn NN.ρ [.v (.nm 1), .v (.sl (.nm 0))]) : r33 (k + 1) x = (F33 (r33 k)).run [.v (.nm 1), .v (.sl (.nm 0))] [.v (.nm 0)] 4000000 x := rfl
noncomputable def R33 : G33 := r33 100000
noncomputable def sp33 : Eng.Spec NN := Eng.specOf [.v (.nm 1), .v (.sl (.nm 0))] [.v (.nm 0)] R33
theorem goodm33 (g : G33) (hg : Eng.Good prog 33 (Eng.specOf [.v (.nm 1), .v (.sl (.nm 0))] [.v (.nm 0)] g)) : Eng.Good prog 33 ((F33 g).spec [.v (.nm 1), .v (.sl (.nm 0))] [.v (.nm 0)] 4000000) := Eng.good_fn (fn := f33) fits (by kernel_rfl) mixed (by kernel_rfl) (.cons good69 (.cons good68 (.cons good67 (.cons good66 (.cons good65 (.cons good64 (.cons good63 (.cons (goodm62 g hg) (.cons good61 .nil))))))))) (by kernel_rfl) (by kernel_rfl) (by kernel_rfl) (by kernel_rfl) (by kernel_rfl) (by kernel_rfl) (by kernel_rfl) (by kernel_rfl) (by kernel_rfl)
theorem goodr33 : ∀ k, Eng.Good prog 33 (Eng.specOf [.v (.nm 1), .v (.sl (.nm 0))] [.v (.nm 0)] (r33 k))
  | 0 => Eng.good_none (fn := f33) (by kernel_rfl) (c := Eng.bodyOf f33) (by kernel_rfl) (by kernel_rfl) _ _
  | k + 1 => Eng.good_rec (goodm33 (r33 k) (goodr33 k)) (r33_succ k)
theorem good33 : Eng.Good prog 33 sp33 := goodr33 100000
theorem good62 : Eng.Good prog 62 (sp62 R33) := goodm62 R33 good33
noncomputable def F75 : Eng.Fn NN := ⟨⟨(Eng.look tys), (lookS []), Eng.look [(2, [0, 3])], Eng.pinIds 0 [.v (.sl (.nm 1))]⟩, Eng.bodyOf Go.Proofs.Tryz.f75, [.tmp 2], 16⟩
noncomputable def sp75 : Eng.Spec NN := F75.spec [.v (.sl (.nm 1))] [.v (.bool)] 4000000
theorem good75 : Eng.Good prog 75 sp75 := Eng.good_fn (fn := f75) fits (by kernel_rfl) mixed (by kernel_rfl) .nil (by kernel_rfl) (by kernel_rfl) (by kernel_rfl) (by kernel_rfl) (by kernel_rfl) (by kernel_rfl) (by kernel_rfl) (by kernel_rfl) (by kernel_rfl)
noncomputable def F45 : Eng.Fn NN := ⟨⟨(Eng.look tys), (lookS [(77, sp77), (76, sp76), (53, sp53), (33, sp33), (75, sp75)]), Eng.look [(5, [1, 2]), (8, [1, 2]), (10, [1, 2])], Eng.pinIds 0 [.v (.nm 1)]⟩, Eng.bodyOf Go.Proofs.Tryz.f45, [.cell 2 27], 75⟩
noncomputable def sp45 : Eng.Spec NN := F45.spec [.v (.nm 1)] [.v (.nm 1)] 4000000
theorem good45 : Eng.Good prog 45 sp45 := Eng.good_fn (fn := f45) fits (by kernel_rfl) mixed (by kernel_rfl) (.cons good77 (.cons good76 (.cons good53 (.cons good33 (.cons good75 .nil))))) (by kernel_rfl) (by kernel_rfl) (by kernel_rfl) (by kernel_rfl) (by kernel_rfl) (by kernel_rfl) (by kernel_rfl) (by kernel_rfl) (by kernel_rfl)
abbrev G15 := HIn NN.ρ [.v (.nm 1)] → Option (HRes NN.ρ [.v (.nm 1)] × HOut NN.ρ [.v (.nm 1)])
noncomputable def F15 (g15 : G15) : Eng.Fn NN := ⟨⟨(Eng.look tys), (lookS [(45, sp45), (15, (Eng.specOf [.v (.nm 1)] [.v (.nm 1)] g15))]), Eng.look [(7, [1, 2]), (9, [1, 2, 3, 4])], Eng.pinIds 0 [.v (.nm 1)]⟩, Eng.bodyOf Go.Proofs.Tryz.f15, [.cell 2 27], 33⟩
noncomputable def r15 (k : Nat) : G15 := Nat.rec (motive := fun _ => G15) (fun _ => none) (fun _ g => (F15 g).run [.v (.nm 1)] [.v (.nm 1)] 4000000) k
theorem r15_succ (k : Nat) (x : HIn NN.ρ [.v (.nm 1)]) : r15 (k + 1) x = (F15 (r15 k)).run [.v (.nm 1)] [.v (.nm 1)] 4000000 x := rfl
noncomputable def R15 : G15 := r15 100000
noncomputable def sp15 : Eng.Spec NN := Eng.specOf [.v (.nm 1)] [.v (.nm 1)] R15
theorem goodm15 (g : G15) (hg : Eng.Good prog 15 (Eng.specOf [.v (.nm 1)] [.v (.nm 1)] g)) : Eng.Good prog 15 ((F15 g).spec [.v (.nm 1)] [.v (.nm 1)] 4000000) := Eng.good_fn (fn := f15) fits (by kernel_rfl) mixed (by kernel_rfl) (.cons good45 (.cons hg .nil)) (by kernel_rfl) (by kernel_rfl) (by kernel_rfl) (by kernel_rfl) (by kernel_rfl) (by kernel_rfl) (by kernel_rfl) (by kernel_rfl) (by kernel_rfl)
theorem goodr15 : ∀ k, Eng.Good prog 15 (Eng.specOf [.v (.nm 1)] [.v (.nm 1)] (r15 k))
  | 0 => Eng.good_none (fn := f15) (by kernel_rfl) (c := Eng.bodyOf f15) (by kernel_rfl) (by kernel_rfl) _ _
  | k + 1 => Eng.good_rec (goodm15 (r15 k) (goodr15 k)) (r15_succ k)
theorem good15 : Eng.Good prog 15 sp15 := goodr15 100000
noncomputable def F112 : Eng.Fn NN := ⟨⟨(Eng.look tys), (lookS []), Eng.look [(3, [0, 4, 5]), (7, [0, 4, 5])], Eng.pinIds 0 [.v (.sl (.int .i64))]⟩, Eng.bodyOf Go.Proofs.Tryz.f112, [.tmp 2, .tmp 3], 39⟩
noncomputable def sp112 : Eng.Spec NN := F112.spec [.v (.sl (.int .i64))] [.v (.int .i64), .v (.bool)] 4000000
theorem good112 : Eng.Good prog 112 sp112 := Eng.good_fn (fn := f112) fits (by kernel_rfl) mixed (by kernel_rfl) .nil (by kernel_rfl) (by kernel_rfl) (by kernel_rfl) (by kernel_rfl) (by kernel_rfl) (by kernel_rfl) (by kernel_rfl) (by kernel_rfl) (by kernel_rfl)
noncomputable def F100 : Eng.Fn NN := ⟨⟨(Eng.look tys), (lookS [(93, sp93), (112, sp112), (91, sp91)]), Eng.look [(8, [1, 6, 7]), (9, [1, 6, 7, 9])], Eng.pinIds 0 [.v (.str), .v (.sl (.int .i64))]⟩, Eng.bodyOf Go.Proofs.Tryz.f100, [.tmp 4, .tmp 5], 59⟩
noncomputable def sp100 : Eng.Spec NN := F100.spec [.v (.str), .v (.sl (.int .i64))] [.v (.int .i64), .v (.bool)] 4000000
theorem good100 : Eng.Good prog 100 sp100 := Eng.good_fn (fn := f100) fits (by kernel_rfl) mixed (by kernel_rfl) (.cons good93 (.cons good112 (.cons good91 .nil))) (by kernel_rfl) (by kernel_rfl) (by kernel_rfl) (by kernel_rfl) (by kernel_rfl) (by kernel_rfl) (by kernel_rfl) (by kernel_rfl) (by kernel_rfl)
noncomputable def F96 : Eng.Fn NN := ⟨⟨(Eng.look tys), (lookS []), Eng.look [], Eng.pinIds 0 [.v (.int .i64), .v (.int .i64)]⟩, Eng.bodyOf Go.Proofs.Tryz.f96, [.tmp 4], 12⟩
noncomputable def sp96 : Eng.Spec NN := F96.spec [.v (.int .i64), .v (.int .i64)] [.v (.bool)] 4000000
theorem good96 : Eng.Good prog 96 sp96 := Eng.good_fn (fn := f96) fits (by kernel_rfl) mixed (by kernel_rfl) .nil (by kernel_rfl) (by kernel_rfl) (by kernel_rfl) (by kernel_rfl) (by kernel_rfl) (by kernel_rfl) (by kernel_rfl) (by kernel_rfl) (by kernel_rfl)
noncomputable def F98 : Eng.Fn NN := ⟨⟨(Eng.look tys), (lookS [(96, sp96)]), Eng.look [(3, [0, 4, 5]), (7, [0, 4, 5])], Eng.pinIds 0 [.v (.sl (.int .i64))]⟩, Eng.bodyOf Go.Proofs.Tryz.f98, [.tmp 2, .tmp 3], 26⟩
noncomputable def sp98 : Eng.Spec NN := F98.spec [.v (.sl (.int .i64))] [.v (.int .i64), .v (.bool)] 4000000
theorem good98 : Eng.Good prog 98 sp98 := Eng.good_fn (fn := f98) fits (by kernel_rfl) mixed (by kernel_rfl) (.cons good96 .nil) (by kernel_rfl) (by kernel_rfl) (by kernel_rfl) (by kernel_rfl) (by kernel_rfl) (by kernel_rfl) (by kernel_rfl) (by kernel_rfl) (by kernel_rfl)
noncomputable def F99 : Eng.Fn NN := ⟨⟨(Eng.look tys), (lookS [(98, sp98), (96, sp96)]), Eng.look [(5, [0, 4, 5]), (10, [0, 4, 5])], Eng.pinIds 0 [.v (.sl (.int .i64))]⟩, Eng.bodyOf Go.Proofs.Tryz.f99, [.tmp 2, .tmp 3], 42⟩
noncomputable def sp99 : Eng.Spec NN := F99.spec [.v (.sl (.int .i64))] [.v (.int .i64), .v (.bool)] 4000000
theorem good99 : Eng.Good prog 99 sp99 := Eng.good_fn (fn := f99) fits (by kernel_rfl) mixed (by kernel_rfl) (.cons good98 (.cons good96 .nil)) (by kernel_rfl) (by kernel_rfl) (by kernel_rfl) (by kernel_rfl) (by kernel_rfl) (by kernel_rfl) (by kernel_rfl) (by kernel_rfl) (by kernel_rfl)
noncomputable def F97 : Eng.Fn NN := ⟨⟨(Eng.look tys), (lookS [(96, sp96), (98, sp98)]), Eng.look [(6, [0, 1]), (15, [1, 8, 9])], Eng.pinIds 0 [.v (.int .i64), .v (.sl (.int .i64))]⟩, Eng.bodyOf Go.Proofs.Tryz.f97, [.tmp 4, .tmp 5], 58⟩
noncomputable def sp97 : Eng.Spec NN := F97.spec [.v (.int .i64), .v (.sl (.int .i64))] [.v (.int .i64), .v (.bool)] 4000000
theorem good97 : Eng.Good prog 97 sp97 := Eng.good_fn (fn := f97) fits (by kernel_rfl) mixed (by kernel_rfl) (.cons good96 (.cons good98 .nil)) (by kernel_rfl) (by kernel_rfl) (by kernel_rfl) (by kernel_rfl) (by kernel_rfl) (by kernel_rfl) (by kernel_rfl) (by kernel_rfl) (by kernel_rfl)
noncomputable def F82 : Eng.Fn NN := ⟨⟨(Eng.look tys), (lookS []), Eng.look [], Eng.pinIds 0 [.v (.nm 0)]⟩, Eng.bodyOf Go.Proofs.Tryz.f82, [.tmp 2], 46⟩
noncomputable def sp82 : Eng.Spec NN := F82.spec [.v (.nm 0)] [.v (.bool)] 4000000
theorem good82 : Eng.Good prog 82 sp82 := Eng.good_fn (fn := f82) fits (by kernel_rfl) mixed (by kernel_rfl) .nil (by kernel_rfl) (by kernel_rfl) (by kernel_rfl) (by kernel_rfl) (by kernel_rfl) (by kernel_rfl) (by kernel_rfl) (by kernel_rfl) (by kernel_rfl)
noncomputable def F95 : Eng.Fn NN := ⟨⟨(Eng.look tys), (lookS []), Eng.look [(3, [1])], Eng.pinIds 0 [.v (.nm 1)]⟩, Eng.bodyOf Go.Proofs.Tryz.f95, [.tmp 2], 73⟩
noncomputable def sp95 : Eng.Spec NN := F95.spec [.v (.nm 1)] [.v (.bool)] 4000000
theorem good95 : Eng.Good prog 95 sp95 := Eng.good_fn (fn := f95) fits (by kernel_rfl) mixed (by kernel_rfl) .nil (by kernel_rfl) (by kernel_rfl) (by kernel_rfl) (by kernel_rfl) (by kernel_rfl) (by kernel_rfl) (by kernel_rfl) (by kernel_rfl) (by kernel_rfl)
abbrev G70 := HIn NN.ρ [.v (.nm 1), .v (.sl (.int .i64))] → Option (HRes NN.ρ [.v (.int .i64), .v (.bool)] × HOut NN.ρ [.v (.nm 1), .v (.sl (.int .i64))])
noncomputable def F70 (g70 : G70) : Eng.Fn NN := ⟨⟨(Eng.look tys), (lookS [(100, sp100), (99, sp99), (98, sp98), (97, sp97), (96, sp96), (82, sp82), (70, (Eng.specOf [.v (.nm 1), .v (.sl (.int .i64))] [.v (.int .i64), .v (.bool)] g70)), (95, sp95)]), Eng.look [(5, [1, 2, 6, 7]), (10, [1, 2, 6, 7, 8]), (17, [1, 2])], Eng.pinIds 0 [.v (.nm 1), .v (.sl (.int .i64))]⟩, Eng.bodyOf Go.Proofs.Tryz.f70, [.tmp 4, .tmp 5], 147⟩
noncomputable def r70 (k : Nat) : G70 := Nat.rec (motive := fun _ => G70) (fun _ => none) (fun _ g => (F70 g).run [.v (.nm 1), .v (.sl (.int .i64))] [.v (.int .i64), .v (.bool)] 4000000) k
theorem r70_succ (k : Nat) (x : HIn NN.ρ [.v (.nm 1), .v (.sl (.int .i64))]) : r70 (k + 1) x = (F70 (r70 k)).run [.v (.nm 1), .v (.sl (.int .i64))] [.v (.int .i64), .v (.bool)] 4000000 x := rfl
noncomputable def R70 : G70 := r70 100000
noncomputable def sp70 : Eng.Spec NN := Eng.specOf [.v (.nm 1), .v (.sl (.int .i64))] [.v (.int .i64), .v (.bool)] R70
theorem goodm70 (g : G70) (hg : Eng.Good prog 70 (Eng.specOf [.v (.nm 1), .v (.sl (.int .i64))] [.v (.int .i64), .v (.bool)] g)) : Eng.Good prog 70 ((F70 g).spec [.v (.nm 1), .v (.sl (.int .i64))] [.v (.int .i64), .v (.bool)] 4000000) := Eng.good_fn (fn := f70) fits (by kernel_rfl) mixed (by kernel_rfl) (.cons good100 (.cons good99 (.cons good98 (.cons good97 (.cons good96 (.cons good82 (.cons hg (.cons good95 .nil)))))))) (by kernel_rfl) (by kernel_rfl) (by kernel_rfl) (by kernel_rfl) (by kernel_rfl) (by kernel_rfl) (by kernel_rfl) (by kernel_rfl) (by kernel_rfl)
theorem goodr70 : ∀ k, Eng.Good prog 70 (Eng.specOf [.v (.nm 1), .v (.sl (.int .i64))] [.v (.int .i64), .v (.bool)] (r70 k))
  | 0 => Eng.good_none (fn := f70) (by kernel_rfl) (c := Eng.bodyOf f70) (by kernel_rfl) (by kernel_rfl) _ _
  | k + 1 => Eng.good_rec (goodm70 (r70 k) (goodr70 k)) (r70_succ k)
theorem good70 : Eng.Good prog 70 sp70 := goodr70 100000
abbrev G34 := HIn NN.ρ [.v (.nm 1)] → Option (HRes NN.ρ [.v (.int .i64)] × HOut NN.ρ [.v (.nm 1)])
noncomputable def F34 (g34 : G34) : Eng.Fn NN := ⟨⟨(Eng.look tys), (lookS [(34, (Eng.specOf [.v (.nm 1)] [.v (.int .i64)] g34))]), Eng.look [(3, [1, 3, 4]), (7, [1, 3, 5]), (11, [1, 3, 6])], Eng.pinIds 0 [.v (.nm 1)]⟩, Eng.bodyOf Go.Proofs.Tryz.f34, [.tmp 2], 55⟩
noncomputable def r34 (k : Nat) : G34 := Nat.rec (motive := fun _ => G34) (fun _ => none) (fun _ g => (F34 g).run [.v (.nm 1)] [.v (.int .i64)] 4000000) k
theorem r34_succ (k : Nat) (x : HIn NN.ρ [.v (.nm 1)]) : r34 (k + 1) x = (F34 (r34 k)).run [.v (.nm 1)] [.v (.int .i64)] 4000000 x := rfl
noncomputable def R34 : G34 := r34 100000
noncomputable def sp34 : Eng.Spec NN := Eng.specOf [.v (.nm 1)] [.v (.int .i64)] R34
theorem goodm34 (g : G34) (hg : Eng.Good prog 34 (Eng.specOf [.v (.nm 1)] [.v (.int .i64)] g)) : Eng.Good prog 34 ((F34 g).spec [.v (.nm 1)] [.v (.int .i64)] 4000000) := Eng.good_fn (fn := f34) fits (by kernel_rfl) mixed (by kernel_rfl) (.cons hg .nil) (by kernel_rfl) (by kernel_rfl) (by kernel_rfl) (by kernel_rfl) (by kernel_rfl) (by kernel_rfl) (by kernel_rfl) (by kernel_rfl) (by kernel_rfl)
theorem goodr34 : ∀ k, Eng.Good prog 34 (Eng.specOf [.v (.nm 1)] [.v (.int .i64)] (r34 k))
  | 0 => Eng.good_none (fn := f34) (by kernel_rfl) (c := Eng.bodyOf f34) (by kernel_rfl) (by kernel_rfl) _ _
  | k + 1 => Eng.good_rec (goodm34 (r34 k) (goodr34 k)) (r34_succ k)
theorem good34 : Eng.Good prog 34 sp34 := goodr34 100000
noncomputable def F35 : Eng.Fn NN := ⟨⟨(Eng.look tys), (lookS [(70, sp70), (34, sp34)]), Eng.look [], Eng.pinIds 0 [.v (.nm 1), .v (.sl (.int .i64))]⟩, Eng.bodyOf Go.Proofs.Tryz.f35, [.tmp 4], 23⟩
noncomputable def sp35 : Eng.Spec NN := F35.spec [.v (.nm 1), .v (.sl (.int .i64))] [.v (.bool)] 4000000
theorem good35 : Eng.Good prog 35 sp35 := Eng.good_fn (fn := f35) fits (by kernel_rfl) mixed (by kernel_rfl) (.cons good70 (.cons good34 .nil)) (by kernel_rfl) (by kernel_rfl) (by kernel_rfl) (by kernel_rfl) (by kernel_rfl) (by kernel_rfl) (by kernel_rfl) (by kernel_rfl) (by kernel_rfl)
noncomputable def F36 : Eng.Fn NN := ⟨⟨(Eng.look tys), (lookS []), Eng.look [(1, [])], Eng.pinIds 0 []⟩, Eng.bodyOf Go.Proofs.Tryz.f36, [.tmp 0], 2⟩
noncomputable def sp36 : Eng.Spec NN := F36.spec [] [.own 3 (.int .i64)] 4000000
theorem good36 : Eng.Good prog 36 sp36 := Eng.good_fn (fn := f36) fits (by kernel_rfl) mixed (by kernel_rfl) .nil (by kernel_rfl) (by kernel_rfl) (by kernel_rfl) (by kernel_rfl) (by kernel_rfl) (by kernel_rfl) (by kernel_rfl) (by kernel_rfl) (by kernel_rfl)
abbrev G38 := HIn NN.ρ [.v (.nm 1), .v (.int .i64)] → Option (HRes NN.ρ [.v (.int .i64)] × HOut NN.ρ [.v (.nm 1), .v (.int .i64)])
noncomputable def F38 (g38 : G38) : Eng.Fn NN := ⟨⟨(Eng.look tys), (lookS [(38, (Eng.specOf [.v (.nm 1), .v (.int .i64)] [.v (.int .i64)] g38))]), Eng.look [(3, [1, 2, 5]), (5, [1, 2, 5])], Eng.pinIds 0 [.v (.nm 1), .v (.int .i64)]⟩, Eng.bodyOf Go.Proofs.Tryz.f38, [.tmp 4], 27⟩
noncomputable def r38 (k : Nat) : G38 := Nat.rec (motive := fun _ => G38) (fun _ => none) (fun _ g => (F38 g).run [.v (.nm 1), .v (.int .i64)] [.v (.int .i64)] 4000000) k
theorem r38_succ (k : Nat) (x : HIn NN.ρ [.v (.nm 1), .v (.int .i64)]) : r38 (k + 1) x = (F38 (r38 k)).run [.v (.nm 1), .v (.int .i64)] [.v (.int .i64)] 4000000 x := rfl
noncomputable def R38 : G38 := r38 100000
noncomputable def sp38 : Eng.Spec NN := Eng.specOf [.v (.nm 1), .v (.int .i64)] [.v (.int .i64)] R38
theorem goodm38 (g : G38) (hg : Eng.Good prog 38 (Eng.specOf [.v (.nm 1), .v (.int .i64)] [.v (.int .i64)] g)) : Eng.Good prog 38 ((F38 g).spec [.v (.nm 1), .v (.int .i64)] [.v (.int .i64)] 4000000) := Eng.good_fn (fn := f38) fits (by kernel_rfl) mixed (by kernel_rfl) (.cons hg .nil) (by kernel_rfl) (by kernel_rfl) (by kernel_rfl) (by kernel_rfl) (by kernel_rfl) (by kernel_rfl) (by kernel_rfl) (by kernel_rfl) (by kernel_rfl)
theorem goodr38 : ∀ k, Eng.Good prog 38 (Eng.specOf [.v (.nm 1), .v (.int .i64)] [.v (.int .i64)] (r38 k))
  | 0 => Eng.good_none (fn := f38) (by kernel_rfl) (c := Eng.bodyOf f38) (by kernel_rfl) (by kernel_rfl) _ _
  | k + 1 => Eng.good_rec (goodm38 (r38 k) (goodr38 k)) (r38_succ k)
theorem good38 : Eng.Good prog 38 sp38 := goodr38 100000
noncomputable def F11 : Eng.Fn NN := ⟨⟨(Eng.look tys), (lookS [(35, sp35), (36, sp36), (38, sp38)]), Eng.look [], Eng.pinIds 0 [.v (.nm 1)]⟩, Eng.bodyOf Go.Proofs.Tryz.f11, [.tmp 2], 11⟩
noncomputable def sp11 : Eng.Spec NN := F11.spec [.v (.nm 1)] [.v (.bool)] 4000000
theorem good11 : Eng.Good prog 11 sp11 := Eng.good_fn (fn := f11) fits (by kernel_rfl) mixed (by kernel_rfl) (.cons good35 (.cons good36 (.cons good38 .nil))) (by kernel_rfl) (by kernel_rfl) (by kernel_rfl) (by kernel_rfl) (by kernel_rfl) (by kernel_rfl) (by kernel_rfl) (by kernel_rfl) (by kernel_rfl)
noncomputable def F19 : Eng.Fn NN := ⟨⟨(Eng.look tys), (lookS [(13, sp13)]), Eng.look [(4, [0, 1, 5])], Eng.pinIds 0 [.v (.sl (.nm 1)), .v (.sl (.nm 1))]⟩, Eng.bodyOf Go.Proofs.Tryz.f19, [.tmp 4], 27⟩
noncomputable def sp19 : Eng.Spec NN := F19.spec [.v (.sl (.nm 1)), .v (.sl (.nm 1))] [.v (.bool)] 4000000
theorem good19 : Eng.Good prog 19 sp19 := Eng.good_fn (fn := f19) fits (by kernel_rfl) mixed (by kernel_rfl) (.cons good13 .nil) (by kernel_rfl) (by kernel_rfl) (by kernel_rfl) (by kernel_rfl) (by kernel_rfl) (by kernel_rfl) (by kernel_rfl) (by kernel_rfl) (by kernel_rfl)
noncomputable def F18 : Eng.Fn NN := ⟨⟨(Eng.look tys), (lookS []), Eng.look [(1, [0, 1]), (4, [0, 1, 6, 7, 8]), (5, [0, 1, 6, 7, 8]), (11, [0, 1, 6, 7, 8, 9])], Eng.pinIds 0 [.v (.sl (.nm 1)), .v (.int .i64)]⟩, Eng.bodyOf Go.Proofs.Tryz.f18, [.tmp 4, .tmp 5], 90⟩
noncomputable def sp18 : Eng.Spec NN := F18.spec [.v (.sl (.nm 1)), .v (.int .i64)] [.own 37 (.nm 2), .own 27 (.nm 1)] 4000000
theorem good18 : Eng.Good prog 18 sp18 := Eng.good_fn (fn := f18) fits (by kernel_rfl) mixed (by kernel_rfl) .nil (by kernel_rfl) (by kernel_rfl) (by kernel_rfl) (by kernel_rfl) (by kernel_rfl) (by kernel_rfl) (by kernel_rfl) (by kernel_rfl) (by kernel_rfl)
noncomputable def F16 : Eng.Fn NN := ⟨⟨(Eng.look tys), (lookS [(11, sp11)]), Eng.look [(2, [0, 3]), (4, [0, 3])], Eng.pinIds 0 [.v (.sl (.nm 1))]⟩, Eng.bodyOf Go.Proofs.Tryz.f16, [.tmp 2], 23⟩
noncomputable def sp16 : Eng.Spec NN := F16.spec [.v (.sl (.nm 1))] [.v (.bool)] 4000000
theorem good16 : Eng.Good prog 16 sp16 := Eng.good_fn (fn := f16) fits (by kernel_rfl) mixed (by kernel_rfl) (.cons good11 .nil) (by kernel_rfl) (by kernel_rfl) (by kernel_rfl) (by kernel_rfl) (by kernel_rfl) (by kernel_rfl) (by kernel_rfl) (by kernel_rfl) (by kernel_rfl)
noncomputable def F107 : Eng.Fn NN := ⟨⟨(Eng.look tys), (lookS []), Eng.look [(2, [0, 1, 5])], Eng.pinIds 0 [.v (.int .i64), .v (.sl (.int .i64))]⟩, Eng.bodyOf Go.Proofs.Tryz.f107, [.tmp 4], 18⟩
noncomputable def sp107 : Eng.Spec NN := F107.spec [.v (.int .i64), .v (.sl (.int .i64))] [.v (.bool)] 4000000
theorem good107 : Eng.Good prog 107 sp107 := Eng.good_fn (fn := f107) fits (by kernel_rfl) mixed (by kernel_rfl) .nil (by kernel_rfl) (by kernel_rfl) (by kernel_rfl) (by kernel_rfl) (by kernel_rfl) (by kernel_rfl) (by kernel_rfl) (by kernel_rfl) (by kernel_rfl)
abbrev G80 := HIn NN.ρ [.v (.nm 1), .v (.sl (.int .i64))] → Option (HRes NN.ρ [.v (.bool)] × HOut NN.ρ [.v (.nm 1), .v (.sl (.int .i64))])
noncomputable def F80 (g80 : G80) : Eng.Fn NN := ⟨⟨(Eng.look tys), (lookS [(80, (Eng.specOf [.v (.nm 1), .v (.sl (.int .i64))] [.v (.bool)] g80)), (107, sp107)]), Eng.look [(14, [5, 6])], Eng.pinIds 0 [.v (.nm 1), .v (.sl (.int .i64))]⟩, Eng.bodyOf Go.Proofs.Tryz.f80, [.tmp 4], 61⟩
noncomputable def r80 (k : Nat) : G80 := Nat.rec (motive := fun _ => G80) (fun _ => none) (fun _ g => (F80 g).run [.v (.nm 1), .v (.sl (.int .i64))] [.v (.bool)] 4000000) k
theorem r80_succ (k : Nat) (x : HIn NN.ρ [.v (.nm 1), .v (.sl (.int .i64))]) : r80 (k + 1) x = (F80 (r80 k)).run [.v (.nm 1), .v (.sl (.int .i64))] [.v (.bool)] 4000000 x := rfl
noncomputable def R80 : G80 := r80 100000
noncomputable def sp80 : Eng.Spec NN := Eng.specOf [.v (.nm 1), .v (.sl (.int .i64))] [.v (.bool)] R80
theorem goodm80 (g : G80) (hg : Eng.Good prog 80 (Eng.specOf [.v (.nm 1), .v (.sl (.int .i64))] [.v (.bool)] g)) : Eng.Good prog 80 ((F80 g).spec [.v (.nm 1), .v (.sl (.int .i64))] [.v (.bool)] 4000000) := Eng.good_fn (fn := f80) fits (by kernel_rfl) mixed (by kernel_rfl) (.cons hg (.cons good107 .nil)) (by kernel_rfl) (by kernel_rfl) (by kernel_rfl) (by kernel_rfl) (by kernel_rfl) (by kernel_rfl) (by kernel_rfl) (by kernel_rfl) (by kernel_rfl)
theorem goodr80 : ∀ k, Eng.Good prog 80 (Eng.specOf [.v (.nm 1), .v (.sl (.int .i64))] [.v (.bool)] (r80 k))
  | 0 => Eng.good_none (fn := f80) (by kernel_rfl) (c := Eng.bodyOf f80) (by kernel_rfl) (by kernel_rfl) _ _
  | k + 1 => Eng.good_rec (goodm80 (r80 k) (goodr80 k)) (r80_succ k)
theorem good80 : Eng.Good prog 80 sp80 := goodr80 100000
abbrev G47 := HIn NN.ρ [.v (.nm 1), .v (.sl (.int .i64)), .v (.bool)] → Option (HRes NN.ρ [.v (.bool)] × HOut NN.ρ [.v (.nm 1), .v (.sl (.int .i64)), .v (.bool)])
noncomputable def F47 (g47 : G47) : Eng.Fn NN := ⟨⟨(Eng.look tys), (lookS [(47, (Eng.specOf [.v (.nm 1), .v (.sl (.int .i64)), .v (.bool)] [.v (.bool)] g47)), (80, sp80), (81, sp81), (51, sp51)]), Eng.look [(15, [1, 2, 3])], Eng.pinIds 0 [.v (.nm 1), .v (.sl (.int .i64)), .v (.bool)]⟩, Eng.bodyOf Go.Proofs.Tryz.f47, [.tmp 6], 82⟩
noncomputable def r47 (k : Nat) : G47 := Nat.rec (motive := fun _ => G47) (fun _ => none) (fun _ g => (F47 g).run [.v (.nm 1), .v (.sl (.int .i64)), .v (.bool)] [.v (.bool)] 4000000) k
theorem r47_succ (k : Nat) (x : HIn NN.ρ [.v (.nm 1), .v (.sl (.int .i64)), .v (.bool)]) : r47 (k + 1) x = (F47 (r47 k)).run [.v (.nm 1), .v (.sl (.int .i64)), .v (.bool)] [.v (.bool)] 4000000 x := rfl
noncomputable def R47 : G47 := r47 100000
noncomputable def sp47 : Eng.Spec NN := Eng.specOf [.v (.nm 1), .v (.sl (.int .i64)), .v (.bool)] [.v (.bool)] R47
theorem goodm47 (g : G47) (hg : Eng.Good prog 47 (Eng.specOf [.v (.nm 1), .v (.sl (.int .i64)), .v (.bool)] [.v (.bool)] g)) : Eng.Good prog 47 ((F47 g).spec [.v (.nm 1), .v (.sl (.int .i64)), .v (.bool)] [.v (.bool)] 4000000) := Eng.good_fn (fn := f47) fits (by kernel_rfl) mixed (by kernel_rfl) (.cons hg (.cons good80 (.cons good81 (.cons good51 .nil)))) (by kernel_rfl) (by kernel_rfl) (by kernel_rfl) (by kernel_rfl) (by kernel_rfl) (by kernel_rfl) (by kernel_rfl) (by kernel_rfl) (by kernel_rfl)
theorem goodr47 : ∀ k, Eng.Good prog 47 (Eng.specOf [.v (.nm 1), .v (.sl (.int .i64)), .v (.bool)] [.v (.bool)] (r47 k))
  | 0 => Eng.good_none (fn := f47) (by kernel_rfl) (c := Eng.bodyOf f47) (by kernel_rfl) (by kernel_rfl) _ _
  | k + 1 => Eng.good_rec (goodm47 (r47 k) (goodr47 k)) (r47_succ k)
theorem good47 : Eng.Good prog 47 sp47 := goodr47 100000
noncomputable def F21 : Eng.Fn NN := ⟨⟨(Eng.look tys), (lookS [(47, sp47)]), Eng.look [], Eng.pinIds 0 [.v (.nm 1), .v (.sl (.int .i64))]⟩, Eng.bodyOf Go.Proofs.Tryz.f21, [.tmp 4], 8⟩
noncomputable def sp21 : Eng.Spec NN := F21.spec [.v (.nm 1), .v (.sl (.int .i64))] [.v (.bool)] 4000000
theorem good21 : Eng.Good prog 21 sp21 := Eng.good_fn (fn := f21) fits (by kernel_rfl) mixed (by kernel_rfl) (.cons good47 .nil) (by kernel_rfl) (by kernel_rfl) (by kernel_rfl) (by kernel_rfl) (by kernel_rfl) (by kernel_rfl) (by kernel_rfl) (by kernel_rfl) (by kernel_rfl)
noncomputable def F23 : Eng.Fn NN := ⟨⟨(Eng.look tys), (lookS [(49, sp49), (33, sp33)]), Eng.look [], Eng.pinIds 0 [.v (.nm 1), .v (.sl (.nm 0))]⟩, Eng.bodyOf Go.Proofs.Tryz.f23, [.tmp 4], 9⟩
noncomputable def sp23 : Eng.Spec NN := F23.spec [.v (.nm 1), .v (.sl (.nm 0))] [.v (.bool)] 4000000
theorem good23 : Eng.Good prog 23 sp23 := Eng.good_fn (fn := f23) fits (by kernel_rfl) mixed (by kernel_rfl) (.cons good49 (.cons good33 .nil)) (by kernel_rfl) (by kernel_rfl) (by kernel_rfl) (by kernel_rfl) (by kernel_rfl) (by kernel_rfl) (by kernel_rfl) (by kernel_rfl) (by kernel_rfl)
noncomputable def F48 : Eng.Fn NN := ⟨⟨(Eng.look tys), (lookS [(82, sp82)]), Eng.look [(2, [0, 3])], Eng.pinIds 0 [.v (.sl (.nm 0))]⟩, Eng.bodyOf Go.Proofs.Tryz.f48, [.tmp 2], 16⟩
noncomputable def sp48 : Eng.Spec NN := F48.spec [.v (.sl (.nm 0))] [.v (.bool)] 4000000
theorem good48 : Eng.Good prog 48 sp48 := Eng.good_fn (fn := f48) fits (by kernel_rfl) mixed (by kernel_rfl) (.cons good82 .nil) (by kernel_rfl) (by kernel_rfl) (by kernel_rfl) (by kernel_rfl) (by kernel_rfl) (by kernel_rfl) (by kernel_rfl) (by kernel_rfl) (by kernel_rfl)
noncomputable def F22 : Eng.Fn NN := ⟨⟨(Eng.look tys), (lookS [(36, sp36), (48, sp48)]), Eng.look [(3, [0]), (4, [0, 3])], Eng.pinIds 0 [.v (.sl (.nm 0))]⟩, Eng.bodyOf Go.Proofs.Tryz.f22, [.tmp 2], 38⟩
noncomputable def sp22 : Eng.Spec NN := F22.spec [.v (.sl (.nm 0))] [.v (.bool)] 4000000
theorem good22 : Eng.Good prog 22 sp22 := Eng.good_fn (fn := f22) fits (by kernel_rfl) mixed (by kernel_rfl) (.cons good36 (.cons good48 .nil)) (by kernel_rfl) (by kernel_rfl) (by kernel_rfl) (by kernel_rfl) (by kernel_rfl) (by kernel_rfl) (by kernel_rfl) (by kernel_rfl) (by kernel_rfl)
noncomputable def F27 : Eng.Fn NN := ⟨⟨(Eng.look tys), (lookS [(53, sp53), (54, sp54)]), Eng.look [(5, [0, 2, 3, 4])], Eng.pinIds 0 [.v (.sl (.nm 1))]⟩, Eng.bodyOf Go.Proofs.Tryz.f27, [.cell 2 27], 27⟩
noncomputable def sp27 : Eng.Spec NN := F27.spec [.v (.sl (.nm 1))] [.v (.nm 1)] 4000000
theorem good27 : Eng.Good prog 27 sp27 := Eng.good_fn (fn := f27) fits (by kernel_rfl) mixed (by kernel_rfl) (.cons good53 (.cons good54 .nil)) (by kernel_rfl) (by kernel_rfl) (by kernel_rfl) (by kernel_rfl) (by kernel_rfl) (by kernel_rfl) (by kernel_rfl) (by kernel_rfl) (by kernel_rfl)
noncomputable def F26 : Eng.Fn NN := ⟨⟨(Eng.look tys), (lookS [(52, sp52)]), Eng.look [(5, [2, 3, 14, 15, 16])], Eng.pinIds 0 [.v (.sl (.nm 1))]⟩, Eng.bodyOf Go.Proofs.Tryz.f26, [.cell 2 27], 26⟩
noncomputable def sp26 : Eng.Spec NN := F26.spec [.v (.sl (.nm 1))] [.v (.nm 1)] 4000000
theorem good26 : Eng.Good prog 26 sp26 := Eng.good_fn (fn := f26) fits (by kernel_rfl) mixed (by kernel_rfl) (.cons good52 .nil) (by kernel_rfl) (by kernel_rfl) (by kernel_rfl) (by kernel_rfl) (by kernel_rfl) (by kernel_rfl) (by kernel_rfl) (by kernel_rfl) (by kernel_rfl)
abbrev G25 := HIn NN.ρ [.v (.nm 1)] → Option (HRes NN.ρ [.own 27 (.nm 1)] × HOut NN.ρ [.v (.nm 1)])
noncomputable def F25 (g25 : G25) : Eng.Fn NN := ⟨⟨(Eng.look tys), (lookS [(25, (Eng.specOf [.v (.nm 1)] [.own 27 (.nm 1)] g25)), (51, sp51)]), Eng.look [(1, [1]), (5, [1]), (8, [3, 4, 5])], Eng.pinIds 0 [.v (.nm 1)]⟩, Eng.bodyOf Go.Proofs.Tryz.f25, [.tmp 2], 42⟩
noncomputable def r25 (k : Nat) : G25 := Nat.rec (motive := fun _ => G25) (fun _ => none) (fun _ g => (F25 g).run [.v (.nm 1)] [.own 27 (.nm 1)] 4000000) k
theorem r25_succ (k : Nat) (x : HIn NN.ρ [.v (.nm 1)]) : r25 (k + 1) x = (F25 (r25 k)).run [.v (.nm 1)] [.own 27 (.nm 1)] 4000000 x := rfl
noncomputable def R25 : G25 := r25 100000
noncomputable def sp25 : Eng.Spec NN := Eng.specOf [.v (.nm 1)] [.own 27 (.nm 1)] R25
theorem goodm25 (g : G25) (hg : Eng.Good prog 25 (Eng.specOf [.v (.nm 1)] [.own 27 (.nm 1)] g)) : Eng.Good prog 25 ((F25 g).spec [.v (.nm 1)] [.own 27 (.nm 1)] 4000000) := Eng.good_fn (fn := f25) fits (by kernel_rfl) mixed (by kernel_rfl) (.cons hg (.cons good51 .nil)) (by kernel_rfl) (by kernel_rfl) (by kernel_rfl) (by kernel_rfl) (by kernel_rfl) (by kernel_rfl) (by kernel_rfl) (by kernel_rfl) (by kernel_rfl)
theorem goodr25 : ∀ k, Eng.Good prog 25 (Eng.specOf [.v (.nm 1)] [.own 27 (.nm 1)] (r25 k))
  | 0 => Eng.good_none (fn := f25) (by kernel_rfl) (c := Eng.bodyOf f25) (by kernel_rfl) (by kernel_rfl) _ _
  | k + 1 => Eng.good_rec (goodm25 (r25 k) (goodr25 k)) (r25_succ k)
theorem good25 : Eng.Good prog 25 sp25 := goodr25 100000
noncomputable def F59 : Eng.Fn NN := ⟨⟨(Eng.look tys), (lookS []), Eng.look [], Eng.pinIds 0 [.v (.int .i64)]⟩, Eng.bodyOf Go.Proofs.Tryz.f59, [.tmp 2], 13⟩
noncomputable def sp59 : Eng.Spec NN := F59.spec [.v (.int .i64)] [.v (.int .i64)] 4000000
theorem good59 : Eng.Good prog 59 sp59 := Eng.good_fn (fn := f59) fits (by kernel_rfl) mixed (by kernel_rfl) .nil (by kernel_rfl) (by kernel_rfl) (by kernel_rfl) (by kernel_rfl) (by kernel_rfl) (by kernel_rfl) (by kernel_rfl) (by kernel_rfl) (by kernel_rfl)
noncomputable def F58 : Eng.Fn NN := ⟨⟨(Eng.look tys), (lookS []), Eng.look [], Eng.pinIds 0 [.v (.nm 1)]⟩, Eng.bodyOf Go.Proofs.Tryz.f58, [.tmp 2, .tmp 3], 20⟩
noncomputable def sp58 : Eng.Spec NN := F58.spec [.v (.nm 1)] [.v (.int .i64), .v (.bool)] 4000000
theorem good58 : Eng.Good prog 58 sp58 := Eng.good_fn (fn := f58) fits (by kernel_rfl) mixed (by kernel_rfl) .nil (by kernel_rfl) (by kernel_rfl) (by kernel_rfl) (by kernel_rfl) (by kernel_rfl) (by kernel_rfl) (by kernel_rfl) (by kernel_rfl) (by kernel_rfl)
noncomputable def F29 : Eng.Fn NN := ⟨⟨(Eng.look tys), (lookS [(59, sp59), (58, sp58)]), Eng.look [(8, [1, 2]), (10, [1, 2]), (13, [1, 2, 6, 7])], Eng.pinIds 0 [.v (.nm 1)]⟩, Eng.bodyOf Go.Proofs.Tryz.f29, [.cell 2 50, .tmp 3], 84⟩
noncomputable def sp29 : Eng.Spec NN := F29.spec [.v (.nm 1)] [.v (.nm 3), .v (.bool)] 4000000
theorem good29 : Eng.Good prog 29 sp29 := Eng.good_fn (fn := f29) fits (by kernel_rfl) mixed (by kernel_rfl) (.cons good59 (.cons good58 .nil)) (by kernel_rfl) (by kernel_rfl) (by kernel_rfl) (by kernel_rfl) (by kernel_rfl) (by kernel_rfl) (by kernel_rfl) (by kernel_rfl) (by kernel_rfl)
noncomputable def F31 : Eng.Fn NN := ⟨⟨(Eng.look tys), (lookS [(29, sp29)]), Eng.look [(1, [0]), (4, [0, 4, 5, 6])], Eng.pinIds 0 [.v (.sl (.nm 1))]⟩, Eng.bodyOf Go.Proofs.Tryz.f31, [.tmp 2, .tmp 3], 37⟩
noncomputable def sp31 : Eng.Spec NN := F31.spec [.v (.sl (.nm 1))] [.own 50 (.nm 3), .own 27 (.nm 1)] 4000000
theorem good31 : Eng.Good prog 31 sp31 := Eng.good_fn (fn := f31) fits (by kernel_rfl) mixed (by kernel_rfl) (.cons good29 .nil) (by kernel_rfl) (by kernel_rfl) (by kernel_rfl) (by kernel_rfl) (by kernel_rfl) (by kernel_rfl) (by kernel_rfl) (by kernel_rfl) (by kernel_rfl)
noncomputable def F30 : Eng.Fn NN := ⟨⟨(Eng.look tys), (lookS [(28, sp28)]), Eng.look [(1, [0, 2, 3]), (2, [2, 3, 8, 9, 10])], Eng.pinIds 0 [.v (.sl (.nm 1))]⟩, Eng.bodyOf Go.Proofs.Tryz.f30, [.tmp 2, .tmp 3], 31⟩
noncomputable def sp30 : Eng.Spec NN := F30.spec [.v (.sl (.nm 1))] [.own 50 (.nm 3), .own 27 (.nm 1)] 4000000
theorem good30 : Eng.Good prog 30 sp30 := Eng.good_fn (fn := f30) fits (by kernel_rfl) mixed (by kernel_rfl) (.cons good28 .nil) (by kernel_rfl) (by kernel_rfl) (by kernel_rfl) (by kernel_rfl) (by kernel_rfl) (by kernel_rfl) (by kernel_rfl) (by kernel_rfl) (by kernel_rfl)
noncomputable def F32 : Eng.Fn NN := ⟨⟨(Eng.look tys), (lookS [(60, sp60)]), Eng.look [], Eng.pinIds 0 [.v (.nm 0), .v (.nm 0)]⟩, Eng.bodyOf Go.Proofs.Tryz.f32, [.tmp 4], 9⟩
noncomputable def sp32 : Eng.Spec NN := F32.spec [.v (.nm 0), .v (.nm 0)] [.v (.bool)] 4000000
theorem good32 : Eng.Good prog 32 sp32 := Eng.good_fn (fn := f32) fits (by kernel_rfl) mixed (by kernel_rfl) (.cons good60 .nil) (by kernel_rfl) (by kernel_rfl) (by kernel_rfl) (by kernel_rfl) (by kernel_rfl) (by kernel_rfl) (by kernel_rfl) (by kernel_rfl) (by kernel_rfl)
noncomputable def F37 : Eng.Fn NN := ⟨⟨(Eng.look tys), (lookS [(49, sp49), (71, sp71), (61, sp61)]), Eng.look [], Eng.pinIds 0 [.v (.nm 3), .v (.sl (.nm 0))]⟩, Eng.bodyOf Go.Proofs.Tryz.f37, [.tmp 4], 29⟩
noncomputable def sp37 : Eng.Spec NN := F37.spec [.v (.nm 3), .v (.sl (.nm 0))] [.v (.bool)] 4000000
theorem good37 : Eng.Good prog 37 sp37 := Eng.good_fn (fn := f37) fits (by kernel_rfl) mixed (by kernel_rfl) (.cons good49 (.cons good71 (.cons good61 .nil))) (by kernel_rfl) (by kernel_rfl) (by kernel_rfl) (by kernel_rfl) (by kernel_rfl) (by kernel_rfl) (by kernel_rfl) (by kernel_rfl) (by kernel_rfl)
end Go.Proofs.Tryz
