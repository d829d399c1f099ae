/- Law 10: 'DictionaryBuilds' returns true. -/
import Derived.Test.YtkbeapecncddkaaL10Build
import Derived.Test.YtkbeapecncddkaaL10Awake
set_option linter.unusedVariables false
set_option linter.unusedSimpArgs false
namespace Go.Proofs.Try
open Go.Eng

theorem f3_run (l : List (List Int)) (s : List Int) (hlen : l.length ≤ 1500000) : F3.run [.v (.sl .str), .v .str] [.v .bool] 4000000 (l, s, ()) = some ((true, ()), ()) := by
  rw [show F3.run [.v (.sl .str), .v .str] [.v .bool] 4000000 (l, s, ()) = _ from F3_run _ _ _]
  obtain ⟨b, h1, h2⟩ := small_run (w := l) (by omega)
  rw [h1, Option.bind_some, awake_run]
  cases b with
  | false => rfl
  | true =>
    have hs := (h2 rfl).1
    simp only [Option.bind_some, Bool.not_true, cond_false]
    cases decide ((4096 : Int) < (s.length : Int)) with
    | true => rfl
    | false =>
      have hwl := words_len l
      rw [cond_false, show F3c3 4000000 l s = _ from F3c3_eq 3999999 l s, build_run (by omega), Option.bind_some, refbuild_run hs, Option.bind_some, strings_run (a := words l) (by omega), Option.bind_some]
      simp only [Bool.not_true, cond_false]
      rw [ints_run (a := codes l) (by rw [codes, List.length_map]; omega), Option.bind_some]
      simp only [Bool.not_true, cond_false]
      rw [show F3c7 3999999 s (words l) = _ from F3c7_eq 3999998 _ _, find_run (w := words l) (words_rising l) (by omega), Option.bind_some, reffind_run (w := words l) (by omega), Option.bind_some, awake_run]
      simp only [decide_true, cond_true, Option.bind_some]

theorem sumL_ge3 {α : Type} (f : α → Nat) (hf : ∀ x, 1 ≤ f x) : ∀ l : List α, l.length ≤ sumL f l
  | [] => Nat.zero_le _
  | x :: l => by
    have := sumL_ge3 f hf l
    have := hf x
    simp only [sumL, List.length_cons]
    omega

theorem law3 (x : HIn NN.ρ [.v (.sl .str), .v .str]) (hm : ∀ k, measI k [.v (.sl .str), .v .str] x ≤ 1048576) (ho : ∀ k, okI k [.v (.sl .str), .v .str] x) :
    ∃ o, F3.run [.v (.sl .str), .v .str] [.v .bool] 4000000 x = some ((true, ()), o) := by
  obtain ⟨w, s, u⟩ := x
  have h := hm 0
  have h1 := sumL_ge3 (measT (measK NN 0) .str) (fun x => Nat.le_add_left _ _) w
  have h2 : measI 0 [.v (.sl .str), .v .str] (w, s, u) = (sumL (measT (measK NN 0) .str) w + 1) + ((s.length + 1) + 0) := rfl
  exact ⟨(), f3_run w s (by omega)⟩

end Go.Proofs.Try
