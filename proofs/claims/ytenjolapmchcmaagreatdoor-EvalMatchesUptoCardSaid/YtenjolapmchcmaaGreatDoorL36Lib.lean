/- Law 36: slices.Compact and slices.Grow out of the library's contracts. -/
import Derived.Test.YtenjolapmchcmaaGreatDoorL36Base
set_option linter.unusedVariables false
set_option linter.unusedSimpArgs false
namespace Go.Proofs.Tryz
open Go.Eng
theorem compact_le (zs : List Int) : (Lib.compact zs).length ≤ zs.length := by
 unfold Lib.compact Lib.compactUpTo
 rw [List.length_map]
 exact Nat.le_trans (List.length_filter_le _ _) (by rw [List.length_range]; exact Nat.le_refl _)
theorem enter22 (w : World) (args : Array Value) : (callFunc 22 args).run prog w = .ok (.enter 22 args) w := callFunc_enter (fn := f22) (by kernel_rfl) (c := Eng.bodyOf f22) (by kernel_rfl) (by kernel_rfl) w args
theorem shrink22 : Eng.Good prog 22 (Eng.shrinkSpec NN 3 Lib.compact) :=
 good_shrink compact_le rfl (by decide) enter22 (fun blk cap zs w h1 h2 h3 => Any.slices_Compact_int Tryz.lays20 blk 0 cap zs w h1 (by omega) h3) (fun w => Any.slices_Compact_int_empty Tryz.lays20 none 0 w)
theorem info35 : ∃ i z, prog.info? 35 = some i ∧ i.zero = some z ∧ i.size = 13 ∧ i.bytes ≤ 1000 ∧ z.cells.size = 13 := by
 have h : (prog.info? 35).map (fun i => (i.size, Nat.ble i.bytes 1000, i.zero.map fun z => z.cells.size)) = some (13, true, some 13) := by kernel_rfl
 obtain ⟨i, hi, h⟩ := Option.map_eq_some_iff.1 h
 simp only [Prod.mk.injEq] at h
 obtain ⟨h1, h2, h3⟩ := h
 obtain ⟨z, hz, h3⟩ := Option.map_eq_some_iff.1 h3
 exact ⟨i, z, hi, hz, h1, Nat.le_of_ble_eq_true h2, h3⟩
theorem enter52 (w : World) (args : Array Value) : (callFunc 52 args).run prog w = .ok (.enter 52 args) w := callFunc_enter (fn := f52) (by kernel_rfl) (c := Eng.bodyOf f52) (by kernel_rfl) (by kernel_rfl) w args
theorem grow52 : Eng.Good prog 52 (Eng.growSpec NN 35 (.nm 2)) := by
 have hmax : maxLen = 9223372036854775807 := rfl
 refine good_grow (zs := 13) rfl (by decide) enter52 (fun base c n w h1 h2 h3 => Any8.slices_Grow_room Tryz.lays4 base 0 c n w (Nat.zero_le _) (by omega) (by omega) (by omega)) (fun base c n cs w h1 h2 h3 h4 h5 => ?_)
 obtain ⟨i, z, i1, i2, i3, i4, i5⟩ := info35
 have hb : (0 + n) * i.bytes ≤ 1000000 * 1000 := Nat.mul_le_mul (by omega) i4
 refine (Any8.slices_Grow_grow Tryz.lays4 i z i1 i2 (by omega) base 0 c n cs w (Nat.zero_le _) (by omega) (by omega) (by omega) (by rw [i3]; exact h3) h4 h5).mono ?_
 rintro e w' ⟨rfl, rfl⟩
 have g1 := grownCap_ge w (0 + n) c (lays4_ren.t 25)
 have g2 := grownCap_le_maxLen w (0 + n) c (lays4_ren.t 25) (by omega)
 refine ⟨grownCap w (0 + n) c (lays4_ren.t 25), _, by omega, g2, ?_, rfl, rfl⟩
 generalize grownCap w (0 + n) c (lays4_ren.t 25) = G at g1 g2 ⊢
 have e1 := size_zeroCells z.cells (0 + n - c)
 have e2 := size_zeroCells z.cells (G - (0 + n))
 rw [i5] at e1 e2
 have e3 : ∀ a b c : Array Value, (a ++ b ++ c).size = a.size + b.size + c.size := fun a b c => by rw [Array.size_append, Array.size_append]
 refine (e3 _ _ _).trans ?_
 have e4 : cs.toArray.size = c * 13 := by rw [List.size_toArray]; exact h3
 omega
end Go.Proofs.Tryz
