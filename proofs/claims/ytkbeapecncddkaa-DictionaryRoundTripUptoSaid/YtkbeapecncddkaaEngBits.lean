/- Plain facts on words of bits: wrapping, the operations on bits at numbers that are not negative, a number's bytes. -/
import Derived.Test.YtkbeapecncddkaaEngPlain
set_option linter.unusedVariables false
set_option linter.unusedSimpArgs false
namespace Go.Eng

theorem u8_wrap (n : Nat) : IntKind.u8.wrap (n : Int) = ((n % 256 : Nat) : Int) := by
  simp [IntKind.wrap, IntKind.bits, IntKind.signed]
theorem u64_wrap (n : Nat) : IntKind.u64.wrap (n : Int) = ((n % 18446744073709551616 : Nat) : Int) := by
  simp [IntKind.wrap, IntKind.bits, IntKind.signed]
theorem u64_wrap_id {z : Int} (h1 : 0 ≤ z) (h2 : z < 18446744073709551616) : IntKind.u64.wrap z = z := by
  obtain ⟨n, rfl⟩ := Int.eq_ofNat_of_zero_le h1
  rw [u64_wrap, Nat.mod_eq_of_lt (by omega)]
theorem u8_wrap_id {z : Int} (h1 : 0 ≤ z) (h2 : z < 256) : IntKind.u8.wrap z = z := by
  obtain ⟨n, rfl⟩ := Int.eq_ofNat_of_zero_le h1
  rw [u8_wrap, Nat.mod_eq_of_lt (by omega)]

theorem ofInt_nat (w n : Nat) : BitVec.ofInt w (n : Int) = BitVec.ofNat w n := BitVec.ofInt_natCast w n

theorem or_u8 {a b : Nat} (ha : a < 256) (hb : b < 256) : Go.bits .or .u8 (a : Int) (b : Int) = ((a ||| b : Nat) : Int) := by
  unfold Go.bits
  simp only [ofInt_nat, BitVec.toNat_or, BitVec.toNat_ofNat, show IntKind.u8.bits = 8 from rfl]
  rw [Nat.mod_eq_of_lt (show a < 2 ^ 8 from ha), Nat.mod_eq_of_lt (show b < 2 ^ 8 from hb), u8_wrap, Nat.mod_eq_of_lt]
  exact Nat.or_lt_two_pow (n := 8) ha hb
theorem or_u64 {a b : Nat} (ha : a < 18446744073709551616) (hb : b < 18446744073709551616) : Go.bits .or .u64 (a : Int) (b : Int) = ((a ||| b : Nat) : Int) := by
  unfold Go.bits
  simp only [ofInt_nat, BitVec.toNat_or, BitVec.toNat_ofNat, show IntKind.u64.bits = 64 from rfl]
  rw [Nat.mod_eq_of_lt (show a < 2 ^ 64 from ha), Nat.mod_eq_of_lt (show b < 2 ^ 64 from hb), u64_wrap, Nat.mod_eq_of_lt]
  exact Nat.or_lt_two_pow (n := 64) ha hb
theorem and_u8 {a b : Nat} (ha : a < 256) (hb : b < 256) : Go.bits .and .u8 (a : Int) (b : Int) = ((a &&& b : Nat) : Int) := by
  unfold Go.bits
  simp only [ofInt_nat, BitVec.toNat_and, BitVec.toNat_ofNat, show IntKind.u8.bits = 8 from rfl]
  rw [Nat.mod_eq_of_lt (show a < 2 ^ 8 from ha), Nat.mod_eq_of_lt (show b < 2 ^ 8 from hb), u8_wrap, Nat.mod_eq_of_lt]
  exact Nat.lt_of_le_of_lt Nat.and_le_left ha
theorem and_u64 {a b : Nat} (ha : a < 18446744073709551616) (hb : b < 18446744073709551616) : Go.bits .and .u64 (a : Int) (b : Int) = ((a &&& b : Nat) : Int) := by
  unfold Go.bits
  simp only [ofInt_nat, BitVec.toNat_and, BitVec.toNat_ofNat, show IntKind.u64.bits = 64 from rfl]
  rw [Nat.mod_eq_of_lt (show a < 2 ^ 64 from ha), Nat.mod_eq_of_lt (show b < 2 ^ 64 from hb), u64_wrap, Nat.mod_eq_of_lt]
  exact Nat.lt_of_le_of_lt Nat.and_le_left ha
/-- and with k ones -/
theorem and_ones_u64 {a k : Nat} (ha : a < 18446744073709551616) (hk : k ≤ 64) : Go.bits .and .u64 (a : Int) ((2 ^ k - 1 : Nat) : Int) = ((a % 2 ^ k : Nat) : Int) := by
  have h : 2 ^ k ≤ 2 ^ 64 := Nat.pow_le_pow_right (by decide) hk
  rw [and_u64 ha (Nat.lt_of_lt_of_le (Nat.sub_lt (Nat.two_pow_pos k) (by decide)) h), Nat.and_two_pow_sub_one_eq_mod]
theorem or_add {a y r : Nat} (ha : a < 2 ^ r) : a ||| (y * 2 ^ r) = a + y * 2 ^ r := by
  rw [Nat.or_comm, Nat.mul_comm, ← Nat.two_pow_add_eq_or_of_lt ha, Nat.add_comm]

/-- The first bytes of a number. -/
def dig (M len : Nat) : List Int := (List.range len).map fun p => ((M / 256 ^ p % 256 : Nat) : Int)
theorem dig_length (M len : Nat) : (dig M len).length = len := by simp [dig]
theorem dig_getD {M len p : Nat} (h : p < len) : (dig M len).getD p 0 = ((M / 256 ^ p % 256 : Nat) : Int) := by
  rw [List.getD_eq_getElem?_getD, dig, List.getElem?_map, List.getElem?_range h]
  rfl
theorem dig_zero (len : Nat) : dig 0 len = List.replicate len 0 := by
  apply List.ext_getElem?
  intro p
  rw [dig, List.getElem?_map, List.getElem?_replicate]
  by_cases h : p < len
  · rw [List.getElem?_range h, if_pos h]
    simp
  · rw [List.getElem?_eq_none (by simpa using h), if_neg h]
    rfl

theorem pow_split (j r : Nat) : 2 ^ (8 * j + r) = 256 ^ j * 2 ^ r := by
  rw [Nat.pow_add, Nat.pow_mul]

theorem dig_set {M len j r y : Nat} (hr : r < 8) (hM : M < 2 ^ (8 * j + r)) (hy : y < 2 ^ (8 - r)) {z : Int} (hz : z = ((M / 256 ^ j + y * 2 ^ r : Nat) : Int)) :
    (dig M len).set j z = dig (M + y * 2 ^ (8 * j + r)) len := by
  have hp := pow_split j r
  have h256 : 0 < 256 ^ j := Nat.pow_pos (by decide)
  have e8 : 2 ^ (8 - r) * 2 ^ r = 256 := by rw [← Nat.pow_add, show 8 - r + r = 8 by omega]
  have hb : M / 256 ^ j < 2 ^ r := Nat.div_lt_of_lt_mul (by rw [← hp]; exact hM)
  have hyr : (y + 1) * 2 ^ r ≤ 256 := by rw [← e8]; exact Nat.mul_le_mul_right _ hy
  rw [Nat.add_mul, Nat.one_mul] at hyr
  apply List.ext_getElem?
  intro p
  rw [List.getElem?_set]
  by_cases hpl : p < len
  · have e1 : (dig M len)[p]? = some ((M / 256 ^ p % 256 : Nat) : Int) := by rw [dig, List.getElem?_map, List.getElem?_range hpl]; rfl
    have e2 : (dig (M + y * 2 ^ (8 * j + r)) len)[p]? = some (((M + y * 2 ^ (8 * j + r)) / 256 ^ p % 256 : Nat) : Int) := by rw [dig, List.getElem?_map, List.getElem?_range hpl]; rfl
    rw [e1, e2]
    rcases Nat.lt_trichotomy p j with h | h | h
    · rw [if_neg (by omega), hp]
      have e3 : y * (256 ^ j * 2 ^ r) = 256 ^ p * (256 * (256 ^ (j - p - 1) * (y * 2 ^ r))) := by
        rw [show 256 ^ j = 256 ^ p * (256 * 256 ^ (j - p - 1)) by rw [← Nat.pow_succ', ← Nat.pow_add]; congr 1; omega]
        simp only [Nat.mul_assoc, Nat.mul_left_comm, Nat.mul_comm]
      rw [e3, Nat.add_mul_div_left _ _ (Nat.pow_pos (by decide)), Nat.add_mul_mod_self_left]
    · subst h
      rw [if_pos rfl, if_pos (by rw [dig_length]; exact hpl), hp, hz, show y * (256 ^ p * 2 ^ r) = 256 ^ p * (y * 2 ^ r) by simp only [Nat.mul_left_comm], Nat.add_mul_div_left _ _ h256, Nat.mod_eq_of_lt (by omega)]
    · rw [if_neg (by omega)]
      have hle : 256 ^ (j + 1) ≤ 256 ^ p := Nat.pow_le_pow_right (by decide) h
      have e4 : M + y * 2 ^ (8 * j + r) < 256 ^ (j + 1) := by
        rw [hp, Nat.pow_succ, show y * (256 ^ j * 2 ^ r) = 256 ^ j * (y * 2 ^ r) by simp only [Nat.mul_left_comm]]
        rw [hp] at hM
        calc M + 256 ^ j * (y * 2 ^ r) < 256 ^ j * 2 ^ r + 256 ^ j * (y * 2 ^ r) := Nat.add_lt_add_right hM _
          _ = 256 ^ j * (y * 2 ^ r + 2 ^ r) := by rw [← Nat.mul_add, Nat.add_comm]
          _ ≤ 256 ^ j * 256 := Nat.mul_le_mul_left _ hyr
      rw [Nat.div_eq_of_lt (by omega), Nat.div_eq_of_lt (by omega)]
  · have hn : ∀ M, (dig M len)[p]? = none := fun M => List.getElem?_eq_none (by rw [dig_length]; omega)
    rw [hn, hn]
    by_cases h : j = p
    · rw [if_pos h, if_neg (by rw [dig_length]; omega)]
    · rw [if_neg h]

/-! The number of significant bits. -/
def bitlen : Nat → Nat
  | 0 => 0
  | n + 1 => bitlen ((n + 1) / 2) + 1
decreasing_by omega
theorem bitlen_pos {n : Nat} (h : 0 < n) : bitlen n = bitlen (n / 2) + 1 := by
  obtain ⟨m, rfl⟩ : ∃ m, n = m + 1 := ⟨n - 1, by omega⟩
  rw [bitlen]
theorem bitlen_shift : ∀ (k n : Nat), 2 ^ k ≤ n → bitlen n = bitlen (n / 2 ^ k) + k
  | 0, n, _ => by simp
  | k + 1, n, h => by
    have h1 : 2 ^ k ≤ n / 2 := by rw [Nat.pow_succ] at h; omega
    rw [bitlen_pos (Nat.lt_of_lt_of_le (Nat.two_pow_pos _) h), bitlen_shift k (n / 2) h1, Nat.div_div_eq_div_mul, Nat.pow_succ', Nat.add_assoc]
theorem bitlen_le : ∀ (k n : Nat), n < 2 ^ k → bitlen n ≤ k
  | 0, n, h => by
    have : n = 0 := by simpa using h
    rw [this, bitlen]
    exact Nat.le_refl _
  | k + 1, n, h => by
    rcases Nat.eq_zero_or_pos n with rfl | hn
    · rw [bitlen]; omega
    · rw [bitlen_pos hn]
      have := bitlen_le k (n / 2) (by rw [Nat.pow_succ] at h; omega)
      omega
theorem lt_bitlen : ∀ n : Nat, n < 2 ^ bitlen n := by
  intro n
  induction n using Nat.strongRecOn with
  | ind n ih =>
    rcases Nat.eq_zero_or_pos n with rfl | hn
    · rw [bitlen]; decide
    · rw [bitlen_pos hn, Nat.pow_succ]
      have := ih (n / 2) (by omega)
      omega

/-! Numbers of seven bits a byte. -/
def vEnc (n : Nat) : List Int := if h : n < 128 then [(n : Int)] else ((128 + n % 128 : Nat) : Int) :: vEnc (n / 128)
termination_by n
decreasing_by omega
theorem vEnc_small {n : Nat} (h : n < 128) : vEnc n = [(n : Int)] := by rw [vEnc, dif_pos h]
theorem vEnc_big {n : Nat} (h : 128 ≤ n) : vEnc n = ((128 + n % 128 : Nat) : Int) :: vEnc (n / 128) := by rw [vEnc, dif_neg (by omega)]
theorem vEnc_len : ∀ (k n : Nat), n < 128 ^ (k + 1) → (vEnc n).length ≤ k + 1
  | 0, n, h => by rw [vEnc_small (by simpa using h)]; simp
  | k + 1, n, h => by
    by_cases hs : n < 128
    · rw [vEnc_small hs]; simp
    · rw [vEnc_big (by omega), List.length_cons]
      have := vEnc_len k (n / 128) (Nat.div_lt_of_lt_mul (by rw [← Nat.pow_succ']; exact h))
      omega

end Go.Eng
