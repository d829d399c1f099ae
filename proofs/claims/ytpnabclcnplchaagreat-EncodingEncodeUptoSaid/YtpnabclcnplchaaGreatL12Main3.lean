/- Law 12: EncodingEncode. -/
import Derived.Test.YtpnabclcnplchaaGreatL12Fn3
import Derived.Test.YtpnabclcnplchaaGreatL12Main8
set_option linter.unusedVariables false
set_option linter.unusedSimpArgs false
namespace Go.Proofs.Tryz
open Go.Eng
theorem enc_c13 {v : Vec} (hv : okV v = true) (hs : vsz v ≤ 10000) (hx : okL v.ints) : ∀ (d i n : Nat), 6 - i = d → i ≤ 6 → d < n →
  F3c13 n (i : Int) v (csts v 6) (csts v 6) = some ((true, ()), ())
 | 0, i, n, hd, hi, hn => by
  obtain ⟨n, rfl⟩ : ∃ n', n = n' + 1 := ⟨n - 1, by omega⟩
  have hlen := csts_len v 6
  rw [F3c13_eq, decide_eq_false (by omega), cond_false, choose_run hv hs hx, Option.bind_some, rchoose_run hv (okV_fit hv hs hx), Option.bind_some]
  dsimp only
  rw [decide_eq_true rfl, cond_true]
 | d + 1, i, n, hd, hi, hn => by
  obtain ⟨n, rfl⟩ : ∃ n', n = n' + 1 := ⟨n - 1, by omega⟩
  have hlen := csts_len v 6
  have ih := enc_c13 hv hs hx d (i + 1) n (by omega) (by omega) (by omega)
  rw [F3c13_eq, decide_eq_true (by omega), cond_true, if_pos (by omega), if_pos (by omega), if_pos (by omega), if_pos (by omega), wrap64_id (by omega) (by omega), decide_eq_true rfl, decide_eq_true rfl]
  exact ih
theorem f3_run {v : Vec} {k : Int} (hs : vsz v < 4611686018427387904) (hl : v.texts.length ≤ 3000000) (hx : okL v.ints) : F3.run [.v (.nm 0), .v (.int .i64)] [.v .bool] 4000000 (v, k, ()) = some ((true, ()), ()) := by
 rw [show F3.run [.v (.nm 0), .v (.int .i64)] [.v .bool] 4000000 (v, k, ()) = _ from F3_run _ _ _, small_run hs hl, Option.bind_some]
 dsimp only
 by_cases h : vsz v ≤ 10000
 ·rw [decide_eq_true h, Bool.not_true, cond_false, encode_run h hx, Option.bind_some, rencode_run h hx, Option.bind_some]
  dsimp only
  rw [decide_eq_true rfl, decide_eq_true rfl, Bool.not_true, cond_false, cond_false, F3c7_eq (n := 3999999), ren_run, Option.bind_some]
  dsimp only
  cases hv : okV v with
  | false => rw [Bool.not_false, cond_true]
  | true =>
   rw [Bool.not_true, cond_false, costs_run hv h hx, Option.bind_some, rcosts_run hv (okV_fit hv h hx), Option.bind_some]
   dsimp only
   rw [decide_eq_true rfl, Bool.not_true, cond_false]
   exact enc_c13 hv h hx 6 0 3999999 (by omega) (by omega) (by omega)
 ·rw [decide_eq_false h, Bool.not_false, cond_true]
theorem law3 (x : HIn NN.ρ [.v (.nm 0), .v (.int .i64)]) (hm : ∀ k, measI k [.v (.nm 0), .v (.int .i64)] x ≤ 1048576) (ho : ∀ k, okI k [.v (.nm 0), .v (.int .i64)] x) :
  ∃ o, F3.run [.v (.nm 0), .v (.int .i64)] [.v .bool] 4000000 x = some ((true, ()), o) := by
 obtain ⟨v, k, u⟩ := x
 have h1 : measK NN 1 0 v + _ ≤ 1048576 := hm 1
 obtain ⟨a, b⟩ := vec_args (v := v) (m := 1048576) (by omega)
 exact ⟨(), f3_run (by omega) (by omega) (vec_okL (ho 1).1)⟩
end Go.Proofs.Tryz
