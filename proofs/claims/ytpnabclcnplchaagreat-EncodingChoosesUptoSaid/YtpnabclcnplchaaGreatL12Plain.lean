/- Law 12: plain values, and the reference's common heads. -/
import Derived.Test.YtpnabclcnplchaaGreatL12Dict
set_option linter.unusedVariables false
set_option linter.unusedSimpArgs false
namespace Go.Proofs.Tryz
open Go.Eng
/-! The reference's common heads. -/
/-! Plain values. -/
def us1 (l : List Int) (i : Nat) : Int := IntKind.u64.wrap (l.getD i 0)
def us (l : List Int) : List Int := (List.range l.length).map (us1 l)
theorem us_len (l : List Int) : (us l).length = l.length := by simp [us]
theorem us_okU (l : List Int) : okU (us l) := by
 intro i hi
 rw [us_len] at hi
 rw [us, getD_map hi]
 exact u64_rng _
theorem plain_c5 {l : List Int} (hl : l.length ≤ 50000) : ∀ (d i n : Nat), l.length - i = d → i ≤ l.length → d < n → F60c5 n l (l.length : Int) (i : Int) (fil (us1 l) l.length i) = some ((packT (us l) 1, ()), ())
 | 0, i, n, hd, hi', hn => by
  obtain ⟨n, rfl⟩ : ∃ n', n = n' + 1 := ⟨n - 1, by omega⟩
  have : i = l.length := by omega
  subst this
  rw [F60c5_eq, decide_eq_false (by omega), cond_false, fil_end, show F98.run [PK.v (Ty.int IntKind.u64).sl, PK.v (Ty.int .i64)] [RK.own 5 (Ty.int IntKind.u8)] 4000000 ((List.range l.length).map (us1 l), (1 : Int), ()) = _ from pack_run (us_okU l) (w := 1) (by omega) (by rw [us_len]; omega), Option.bind_some]
 | d + 1, i, n, hd, hi', hn => by
  obtain ⟨n, rfl⟩ : ∃ n', n = n' + 1 := ⟨n - 1, by omega⟩
  rw [F60c5_eq, decide_eq_true (by omega), cond_true, if_pos (by omega), if_pos (by omega), if_pos (by omega), if_pos (by rw [fil_len hi']; omega), Int.toNat_natCast, wrap64_id (by omega) (by omega), fil_set (g := us1 l) (z := IntKind.u64.wrap (l.getD i 0)) (by omega) rfl]
  exact plain_c5 hl d (i + 1) n (by omega) (by omega) (by omega)
def fb (x : Nat) (j : Nat) : Int := ((x / 2 ^ (8 * j) % 256 : Nat) : Int)
def fx (x : Nat) : List Int := (List.range 8).map (fb x)
theorem fx_len (x : Nat) : (fx x).length = 8 := by simp [fx]
theorem fixed_c5 {x : Nat} : ∀ (d j n : Nat), 8 - j = d → j ≤ 8 → d < n → F104c5 n (x : Int) (8 : Int) (j : Int) (fil (fb x) 8 j) = some ((fx x, ()), ())
 | 0, j, n, hd, hj, hn => by
  obtain ⟨n, rfl⟩ : ∃ n', n = n' + 1 := ⟨n - 1, by omega⟩
  have : j = 8 := by omega
  subst this
  rw [F104c5_eq, decide_eq_false (by omega), cond_false, fil_end]
  rfl
 | d + 1, j, n, hd, hj, hn => by
  obtain ⟨n, rfl⟩ : ∃ n', n = n' + 1 := ⟨n - 1, by omega⟩
  have h8 : IntKind.i64.wrap ((8 : Int) * (j : Int)) = ((8 * j : Nat) : Int) := by rw [wrap64_id (by omega) (by omega)]; omega
  rw [F104c5_eq, decide_eq_true (by omega), cond_true, h8, if_pos (by omega), if_pos (by omega), if_pos (by rw [fil_len hj]; omega), Int.toNat_natCast, wrap64_id (by omega) (by omega), shrs' x (8 * j) (by omega), u8_wrap, fil_set (g := fb x) (z := ((x / 2 ^ (8 * j) % 256 : Nat) : Int)) (by omega) rfl]
  exact fixed_c5 d (j + 1) n (by omega) (by omega) (by omega)
theorem fixed_run {x : Nat} : F104.run [PK.v (Ty.int IntKind.u64), PK.v (Ty.int .i64)] [RK.own 5 (Ty.int IntKind.u8)] 4000000 ((x : Int), (8 : Int), ()) = some ((fx x, ()), ()) := by
 rw [show F104.run [PK.v (Ty.int IntKind.u64), PK.v (Ty.int .i64)] [RK.own 5 (Ty.int IntKind.u8)] 4000000 ((x : Int), (8 : Int), ()) = _ from (F104_run _ _ _).trans (F104c1_eq 3999999 _ _), decide_eq_false (by omega), cond_false, decide_eq_false (by omega), cond_false, F104c3_eq (n := 3999998), if_pos (by omega), if_pos (by decide), show Int.toNat (8 : Int) = 8 from rfl, ← fil_zero (fb x)]
 exact fixed_c5 8 0 3999998 (by omega) (by omega) (by omega)
end Go.Proofs.Tryz
