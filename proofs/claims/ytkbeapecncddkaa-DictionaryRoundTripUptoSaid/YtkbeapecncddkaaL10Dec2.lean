/- Law 10: packed numbers read. -/
import Derived.Test.YtkbeapecncddkaaL10Dec1
set_option linter.unusedVariables false
set_option linter.unusedSimpArgs false
namespace Go.Proofs.Try
open Go.Eng

/-- The number whose bytes these are. -/
def valB : List Int → Nat
  | [] => 0
  | x :: r => x.toNat + 256 * valB r
theorem valB_lt : ∀ {b : List Int}, (∀ x ∈ b, 0 ≤ x ∧ x < 256) → valB b < 256 ^ b.length
  | [], _ => by simp [valB]
  | x :: r, h => by
    have h1 := h x List.mem_cons_self
    have h2 := valB_lt (b := r) (fun y hy => h y (List.mem_cons_of_mem _ hy))
    rw [valB, List.length_cons, Nat.pow_succ]
    omega
theorem okB_mem {b : List Int} (h : okB b) : ∀ x ∈ b, 0 ≤ x ∧ x < 256 := by
  intro x hx
  obtain ⟨j, hj, rfl⟩ := List.mem_iff_getElem.1 hx
  obtain ⟨v, h1, h2⟩ := h j hj
  rw [List.getD_eq_getElem?_getD, List.getElem?_eq_getElem hj] at h1
  have h1 : b[j] = (v : Int) := h1
  omega
theorem valB_byte : ∀ {b : List Int} {j : Nat}, (∀ x ∈ b, 0 ≤ x ∧ x < 256) → j < b.length → b.getD j 0 = ((valB b / 256 ^ j % 256 : Nat) : Int)
  | [], j, _, h => by simp at h
  | x :: r, 0, h, _ => by
    have h1 := h x List.mem_cons_self
    simp only [List.getD_cons_zero, valB, Nat.pow_zero, Nat.div_one]
    omega
  | x :: r, j + 1, h, hj => by
    have h1 := h x List.mem_cons_self
    rw [List.getD_cons_succ, valB_byte (fun y hy => h y (List.mem_cons_of_mem _ hy)) (by simpa using hj), valB, Nat.pow_succ', ← Nat.div_div_eq_div_mul]
    congr 3
    omega
/-- Some bits of a byte. -/
theorem byte_bits {V j r t : Nat} (h : r + t ≤ 8) : V / 256 ^ j % 256 / 2 ^ r % 2 ^ t = V / 2 ^ (8 * j + r) % 2 ^ t := by
  have e1 : V / 256 ^ j % 256 / 2 ^ r = V / 256 ^ j / 2 ^ r % 2 ^ (8 - r) := by
    have := Nat.mod_mul_right_div_self (V / 256 ^ j) (2 ^ r) (2 ^ (8 - r))
    rw [← Nat.pow_add, show r + (8 - r) = 8 by omega] at this
    exact this
  rw [e1, Nat.div_div_eq_div_mul, ← pow_split, Nat.mod_mod_of_dvd _ (Nat.pow_dvd_pow 2 (by omega))]

theorem bit_run {b : List Int} (hb : okB b) (hl : b.length ≤ 100000000) {P : Nat} (hP : P < 8 * b.length) :
    F83.run [PK.v (Ty.int IntKind.u8).sl, PK.v (Ty.int IntKind.i64)] [RK.v (Ty.int IntKind.u64)] 4000000 (b, (P : Int), ()) = some ((((valB b / 2 ^ P % 2 : Nat) : Int), ()), ()) := by
  rw [show F83.run [PK.v (Ty.int IntKind.u8).sl, PK.v (Ty.int IntKind.i64)] [RK.v (Ty.int IntKind.u64)] 4000000 (b, (P : Int), ()) = _ from F83_run _ _ _]
  have e2 : IntKind.i64.wrap ((P : Int).tdiv 8) = ((P / 8 : Nat) : Int) := by rw [Int.tdiv_eq_ediv_of_nonneg (by omega), wrap64_id (by omega) (by omega)]; omega
  have e3 : IntKind.u64.wrap ((P : Int).tmod 8) = ((P % 8 : Nat) : Int) := by rw [Int.tmod_eq_emod_of_nonneg (by omega), u64_wrap_id (by omega) (by omega)]; omega
  rw [e2, e3, if_pos (by omega), if_pos (by omega), if_pos (by omega), Int.toNat_natCast, Int.toNat_natCast, valB_byte (okB_mem hb) (by omega), show IntKind.u8.bits = 8 from rfl, Nat.min_eq_left (by omega), shr_cast]
  have hlt : valB b / 256 ^ (P / 8) % 256 / 2 ^ (P % 8) < 256 := Nat.lt_of_le_of_lt (Nat.div_le_self _ _) (Nat.mod_lt _ (by decide))
  have h1 := and_ones_u64 (a := valB b / 256 ^ (P / 8) % 256 / 2 ^ (P % 8)) (k := 1) (by omega) (by decide)
  rw [u64_wrap_id (z := ((valB b / 256 ^ (P / 8) % 256 / 2 ^ (P % 8) : Nat) : Int)) (Int.natCast_nonneg _) (by
    generalize valB b / 256 ^ (P / 8) % 256 / 2 ^ (P % 8) = q at hlt ⊢
    omega), show (1 : Int) = ((2 ^ 1 - 1 : Nat) : Int) from rfl, h1, byte_bits (by omega), show 8 * (P / 8) + P % 8 = P by omega]

/-- bit by bit -/
theorem rread_c3 {b : List Int} (hb : okB b) (hl : b.length ≤ 100000000) {w i : Nat} (hw : w ≤ 64) (hi : i ≤ 1000000) (hin : (i + 1) * w ≤ 8 * b.length) : ∀ (n k : Nat), w - k < n → k ≤ w →
    F84c3 n b i w ((valB b / 2 ^ (i * w) % 2 ^ k : Nat) : Int) k = some ((((valB b / 2 ^ (i * w) % 2 ^ w : Nat) : Int), ()), ())
  | 0, k, h, _ => by omega
  | n + 1, k, h, hk => by
    rw [F84c3_eq]
    rw [Nat.succ_mul] at hin
    have hiw : i * w ≤ 64000000 := Nat.le_trans (Nat.mul_le_mul hi hw) (by decide)
    by_cases hlt : k < w
    · have e1 : IntKind.i64.wrap (IntKind.i64.wrap ((i : Int) * (w : Int)) + (k : Int)) = ((i * w + k : Nat) : Int) := by
        rw [← Int.natCast_mul, wrap64_id (z := ((i * w : Nat) : Int)) (by omega) (by omega), ← Int.natCast_add, wrap64_id (by omega) (by omega)]
      have h2k : (2 : Nat) ^ (k + 1) ≤ 2 ^ 64 := Nat.pow_le_pow_right (by decide) (by omega)
      have h64 : (2 : Nat) ^ 64 = 18446744073709551616 := by decide
      have hlo : valB b / 2 ^ (i * w) % 2 ^ k < 2 ^ k := Nat.mod_lt _ (Nat.two_pow_pos k)
      have hbt : valB b / 2 ^ (i * w + k) % 2 < 2 := Nat.mod_lt _ (by decide)
      have hmul : valB b / 2 ^ (i * w + k) % 2 * 2 ^ k ≤ 2 ^ k := by
        have : valB b / 2 ^ (i * w + k) % 2 * 2 ^ k ≤ 1 * 2 ^ k := Nat.mul_le_mul_right _ (by omega)
        omega
      rw [Nat.pow_succ] at h2k
      rw [decide_eq_true (by omega), cond_true, e1, bit_run hb hl (by omega), Option.bind_some, u64_wrap_id (z := (k : Int)) (by omega) (by omega), if_pos (by omega)]
      dsimp only
      rw [Int.toNat_natCast, show IntKind.u64.bits = 64 from rfl, Nat.min_eq_left (by omega), pow_cast, ← Int.natCast_mul, u64_wrap_id (by omega) (by omega), or_u64 (by omega) (by omega), or_add hlo, wrap64_id (by omega) (by omega)]
      have ih := rread_c3 hb hl hw hi (by rw [Nat.succ_mul]; exact hin) n (k + 1) (by omega) (by omega)
      have e2 : valB b / 2 ^ (i * w) % 2 ^ (k + 1) = valB b / 2 ^ (i * w) % 2 ^ k + valB b / 2 ^ (i * w + k) % 2 * 2 ^ k := by
        rw [Nat.pow_succ, Nat.mod_mul, Nat.div_div_eq_div_mul, ← Nat.pow_add, Nat.mul_comm (2 ^ k)]
      rw [e2] at ih
      exact ih
    · have : k = w := by omega
      rw [decide_eq_false (by omega), cond_false, this]
theorem rread_run {b : List Int} (hb : okB b) (hl : b.length ≤ 100000000) {w i : Nat} (hw : w ≤ 64) (hi : i ≤ 1000000) (hin : (i + 1) * w ≤ 8 * b.length) :
    F84.run [PK.v (Ty.int IntKind.u8).sl, PK.v (Ty.int IntKind.i64), PK.v (Ty.int IntKind.i64)] [RK.v (Ty.int IntKind.u64)] 4000000 (b, (i : Int), (w : Int), ()) = some ((((valB b / 2 ^ (i * w) % 2 ^ w : Nat) : Int), ()), ()) := by
  rw [show F84.run [PK.v (Ty.int IntKind.u8).sl, PK.v (Ty.int IntKind.i64), PK.v (Ty.int IntKind.i64)] [RK.v (Ty.int IntKind.u64)] 4000000 (b, (i : Int), (w : Int), ()) = _ from F84_run _ _ _ _]
  have := rread_c3 hb hl hw hi hin 4000000 0 (by omega) (by omega)
  rw [Nat.pow_zero, Nat.mod_one] at this
  exact this

/-- a byte's part at once -/
theorem read_c3 {b : List Int} (hb : okB b) (hl : b.length ≤ 100000000) {w a : Nat} (hw : w ≤ 64) (ha : a + w ≤ 8 * b.length) : ∀ (d k n : Nat), w - k = d → k ≤ w → d < n →
    F80c3 n b ((a + k : Nat) : Int) w ((valB b / 2 ^ a % 2 ^ k : Nat) : Int) k = some ((((valB b / 2 ^ a % 2 ^ w : Nat) : Int), ()), ()) := by
  intro d
  induction d using Nat.strongRecOn with
  | ind d ih =>
    intro k n hd hk hn
    obtain ⟨n, rfl⟩ : ∃ n', n = n' + 1 := ⟨n - 1, by omega⟩
    rw [F80c3_eq]
    rcases Nat.eq_zero_or_pos d with rfl | hdp
    · have : k = w := by omega
      rw [decide_eq_false (by omega), cond_false, this]
    · have e2 : IntKind.i64.wrap (((a + k : Nat) : Int).tdiv 8) = (((a + k) / 8 : Nat) : Int) := by
        rw [Int.tdiv_eq_ediv_of_nonneg (by omega), wrap64_id (by omega) (by omega)]; omega
      have e3 : ((a + k : Nat) : Int).tmod 8 = (((a + k) % 8 : Nat) : Int) := by
        rw [Int.tmod_eq_emod_of_nonneg (by omega)]; omega
      have e4 : IntKind.i64.wrap ((w : Int) - (k : Int)) = ((w - k : Nat) : Int) := by rw [wrap64_id (by omega) (by omega)]; omega
      obtain ⟨t, ht, ht8, htd, ht1⟩ : ∃ t : Nat, imin (IntKind.i64.wrap ((8 : Int) - (((a + k) % 8 : Nat) : Int))) ((w - k : Nat) : Int) = (t : Int) ∧ t ≤ 8 - (a + k) % 8 ∧ t ≤ d ∧ 1 ≤ t := by
        rw [wrap64_id (by omega) (by omega)]
        unfold imin
        by_cases h : ((w - k : Nat) : Int) < (8 : Int) - (((a + k) % 8 : Nat) : Int)
        · rw [if_pos h]; exact ⟨w - k, rfl, by omega, by omega, by omega⟩
        · rw [if_neg h]; exact ⟨8 - (a + k) % 8, by omega, by omega, by omega, by omega⟩
      rw [e2, e3, e4, ht, decide_eq_true (by omega), cond_true, if_pos (by omega), if_pos (by omega), if_pos (by omega), if_pos (by omega), if_pos (by omega)]
      rw [Int.toNat_natCast, Int.toNat_natCast, Int.toNat_natCast, Int.toNat_natCast, valB_byte (okB_mem hb) (by omega), show IntKind.u8.bits = 8 from rfl, show IntKind.u64.bits = 64 from rfl, Nat.min_eq_left (show (a + k) % 8 ≤ 8 by omega), Nat.min_eq_left (show t ≤ 8 by omega), Nat.min_eq_left (show k ≤ 64 by omega), shr_cast]
      have h2t : 2 ^ t ≤ 256 := Nat.pow_le_pow_right (n := 2) (j := 8) (by decide) (by omega)
      have h2p : 0 < 2 ^ t := Nat.two_pow_pos t
      have hlt : valB b / 256 ^ ((a + k) / 8) % 256 / 2 ^ ((a + k) % 8) < 256 := Nat.lt_of_le_of_lt (Nat.div_le_self _ _) (Nat.mod_lt _ (by decide))
      have e6 : IntKind.u8.wrap (IntKind.u8.wrap ((1 : Int) * (2 : Int) ^ t) - (1 : Int)) = ((2 ^ t - 1 : Nat) : Int) := by
        rw [Int.one_mul, pow_cast]
        by_cases h8 : t = 8
        · rw [h8]; rfl
        · have h7 : 2 ^ t ≤ 128 := Nat.pow_le_pow_right (n := 2) (j := 7) (by decide) (by omega)
          rw [u8_wrap_id (z := ((2 ^ t : Nat) : Int)) (by omega) (by omega), u8_wrap_id (by omega) (by omega)]
          omega
      have e7 : Go.bits BinOp.and IntKind.u8 ((valB b / 256 ^ ((a + k) / 8) % 256 / 2 ^ ((a + k) % 8) : Nat) : Int) ((2 ^ t - 1 : Nat) : Int) = ((valB b / 2 ^ (a + k) % 2 ^ t : Nat) : Int) := by
        rw [and_u8 hlt (by omega), Nat.and_two_pow_sub_one_eq_mod, byte_bits (by omega), show 8 * ((a + k) / 8) + (a + k) % 8 = a + k by omega]
      have hy : valB b / 2 ^ (a + k) % 2 ^ t < 2 ^ t := Nat.mod_lt _ h2p
      have hlo : valB b / 2 ^ a % 2 ^ k < 2 ^ k := Nat.mod_lt _ (Nat.two_pow_pos k)
      have hkt : 2 ^ t * 2 ^ k ≤ 2 ^ 64 := by rw [← Nat.pow_add]; exact Nat.pow_le_pow_right (by decide) (by omega)
      have h64 : (2 : Nat) ^ 64 = 18446744073709551616 := by decide
      have hmul : (valB b / 2 ^ (a + k) % 2 ^ t + 1) * 2 ^ k ≤ 2 ^ t * 2 ^ k := Nat.mul_le_mul_right _ hy
      rw [Nat.add_mul, Nat.one_mul] at hmul
      rw [e6, e7, u64_wrap_id (z := ((valB b / 2 ^ (a + k) % 2 ^ t : Nat) : Int)) (by omega) (by omega), pow_cast, ← Int.natCast_mul, u64_wrap_id (by omega) (by omega), or_u64 (by omega) (by omega), or_add hlo, wrap64_id (by omega) (by omega), wrap64_id (by omega) (by omega)]
      have := ih (d - t) (by omega) (k + t) n (by omega) (by omega) (by omega)
      have e8 : valB b / 2 ^ a % 2 ^ (k + t) = valB b / 2 ^ a % 2 ^ k + valB b / 2 ^ (a + k) % 2 ^ t * 2 ^ k := by
        rw [Nat.pow_add 2 k t, Nat.mod_mul, Nat.div_div_eq_div_mul, ← Nat.pow_add, Nat.mul_comm (2 ^ k)]
      rw [e8] at this
      rw [show ((a + k : Nat) : Int) + (t : Int) = ((a + (k + t) : Nat) : Int) by omega, show (k : Int) + (t : Int) = ((k + t : Nat) : Int) by omega]
      exact this
theorem read_run {b : List Int} (hb : okB b) (hl : b.length ≤ 100000000) {w a : Nat} (hw : w ≤ 64) (ha : a + w ≤ 8 * b.length) :
    F80.run [PK.v (Ty.int IntKind.u8).sl, PK.v (Ty.int IntKind.i64), PK.v (Ty.int IntKind.i64)] [RK.v (Ty.int IntKind.u64)] 4000000 (b, (a : Int), (w : Int), ()) = some ((((valB b / 2 ^ a % 2 ^ w : Nat) : Int), ()), ()) := by
  rw [show F80.run [PK.v (Ty.int IntKind.u8).sl, PK.v (Ty.int IntKind.i64), PK.v (Ty.int IntKind.i64)] [RK.v (Ty.int IntKind.u64)] 4000000 (b, (a : Int), (w : Int), ()) = _ from F80_run _ _ _ _]
  have := read_c3 hb hl hw ha w 0 4000000 (by omega) (by omega) (by omega)
  rw [Nat.pow_zero, Nat.mod_one] at this
  exact this

/-- The numbers. -/
def unp (b : List Int) (w : Nat) (i : Nat) : List Int := (List.range i).map fun k => ((valB b / 2 ^ (k * w) % 2 ^ w : Nat) : Int)
theorem unp_succ (b : List Int) (w i : Nat) : unp b w (i + 1) = unp b w i ++ [((valB b / 2 ^ (i * w) % 2 ^ w : Nat) : Int)] := by
  rw [unp, List.range_succ, List.map_append]; rfl
theorem unp_len (b : List Int) (w i : Nat) : (unp b w i).length = i := by simp [unp]

theorem runp_c14 {b : List Int} (hb : okB b) {w N : Nat} (hw : w ≤ 64) (hN : N ≤ 65536) (hl : b.length = psize N w) : ∀ (n i : Nat), N - i < n → i ≤ N → F66c14 n b N w i (unp b w i) = some ((unp b w N, ((0 : Int), ())), ())
  | 0, i, h, _ => by omega
  | n + 1, i, h, hi => by
    have hNw : N * w ≤ 65536 * 64 := Nat.mul_le_mul hN hw
    rw [F66c14_eq]
    by_cases hlt : i < N
    · have h1 : (i + 1) * w ≤ N * w := Nat.mul_le_mul_right _ hlt
      rw [decide_eq_true (by omega), cond_true, rread_run hb (by unfold psize at hl; omega) hw (by omega) (by unfold psize at hl; omega), Option.bind_some]
      dsimp only
      rw [if_pos (by rw [unp_len]; simp only [lim]; omega), wrap64_id (by omega) (by omega), ← unp_succ]
      exact runp_c14 hb hw hN hl n (i + 1) (by omega) (by omega)
    · have : i = N := by omega
      rw [decide_eq_false (by omega), cond_false, this]
theorem unp_set (b : List Int) (w i N : Nat) (h : i < N) (z : Int) (hz : z = ((valB b / 2 ^ (i * w) % 2 ^ w : Nat) : Int)) : (unp b w i ++ List.replicate (N - i) (0 : Int)).set i z = unp b w (i + 1) ++ List.replicate (N - (i + 1)) (0 : Int) := by
  rw [List.set_append_right _ _ (by rw [unp_len]; exact Nat.le_refl _), unp_len, Nat.sub_self, show N - i = (N - (i + 1)) + 1 by omega, List.replicate_succ, List.set_cons_zero, unp_succ, hz, List.append_assoc]
  rfl
theorem unp_c13 {b : List Int} (hb : okB b) {w N : Nat} (hw : w ≤ 64) (hN : N ≤ 65536) (hl : b.length = psize N w) : ∀ (n i : Nat), N - i < n → i ≤ N → F62c13 n b w N i (unp b w i ++ List.replicate (N - i) 0) = some ((unp b w N, ((0 : Int), ())), ())
  | 0, i, h, _ => by omega
  | n + 1, i, h, hi => by
    have hNw : N * w ≤ 65536 * 64 := Nat.mul_le_mul hN hw
    rw [F62c13_eq]
    by_cases hlt : i < N
    · have h1 : (i + 1) * w ≤ N * w := Nat.mul_le_mul_right _ hlt
      rw [Nat.succ_mul] at h1
      rw [decide_eq_true (by omega), cond_true, ← Int.natCast_mul, wrap64_id (z := ((i * w : Nat) : Int)) (by omega) (by omega), read_run hb (by unfold psize at hl; omega) hw (by unfold psize at hl; omega), Option.bind_some]
      dsimp only
      rw [if_pos (by omega), if_pos (by rw [List.length_append, unp_len, List.length_replicate]; omega), wrap64_id (by omega) (by omega), Int.toNat_natCast, unp_set b w i N hlt _ rfl]
      exact unp_c13 hb hw hN hl n (i + 1) (by omega) (by omega)
    · have : i = N := by omega
      subst this
      rw [decide_eq_false (by omega), cond_false, Nat.sub_self, List.replicate_zero, List.append_nil]

/-- The reference looks at the bits behind the last number. -/
theorem rpad_c8 {b : List Int} (hb : okB b) {w N : Nat} (hw : w ≤ 64) (hN : N ≤ 65536) (hl : b.length = psize N w) : ∀ (d i n : Nat), 8 * b.length - i = d → N * w ≤ i → i ≤ 8 * b.length → d + N + 10 < n → (∀ k, N * w ≤ k → k < i → valB b / 2 ^ k % 2 = 0) →
    (F66c8 n b N w i = some ((unp b w N, ((0 : Int), ())), ()) ∧ ∀ k, N * w ≤ k → k < 8 * b.length → valB b / 2 ^ k % 2 = 0) ∨
    (F66c8 n b N w i = some (([], ((4 : Int), ())), ()) ∧ ∃ k, N * w ≤ k ∧ k < 8 * b.length ∧ valB b / 2 ^ k % 2 ≠ 0)
  | 0, i, n, hd, h1, h2, hn, hz => by
    obtain ⟨n, rfl⟩ : ∃ n', n = n' + 1 := ⟨n - 1, by omega⟩
    have hNw : N * w ≤ 65536 * 64 := Nat.mul_le_mul hN hw
    have hps : psize N w ≤ 600000 := by unfold psize; omega
    have hps2 : N * w ≤ 8 * psize N w := by unfold psize; omega
    left
    refine ⟨?_, fun k k1 k2 => hz k k1 (by omega)⟩
    rw [F66c8_eq, show (8 : Int) * (b.length : Int) = ((8 * b.length : Nat) : Int) by omega, wrap64_id (z := ((8 * b.length : Nat) : Int)) (by omega) (by omega), decide_eq_false (by omega), cond_false]
    exact runp_c14 hb hw hN hl n 0 (by omega) (by omega)
  | d + 1, i, n, hd, h1, h2, hn, hz => by
    obtain ⟨n, rfl⟩ : ∃ n', n = n' + 1 := ⟨n - 1, by omega⟩
    have hNw : N * w ≤ 65536 * 64 := Nat.mul_le_mul hN hw
    have hps : psize N w ≤ 600000 := by unfold psize; omega
    have hps2 : N * w ≤ 8 * psize N w := by unfold psize; omega
    rw [F66c8_eq, show (8 : Int) * (b.length : Int) = ((8 * b.length : Nat) : Int) by omega, wrap64_id (z := ((8 * b.length : Nat) : Int)) (by omega) (by omega), decide_eq_true (by omega), cond_true, bit_run hb (by omega) (by omega), Option.bind_some]
    dsimp only
    by_cases hbit : valB b / 2 ^ i % 2 = 0
    · rw [decide_eq_false (show ¬ ((valB b / 2 ^ i % 2 : Nat) : Int) = 1 by rw [hbit]; decide), cond_false, wrap64_id (by omega) (by omega)]
      exact rpad_c8 hb hw hN hl d (i + 1) n (by omega) (by omega) (by omega) (by omega) (fun k k1 k2 => by
        rcases Nat.eq_or_lt_of_le (Nat.le_of_lt_succ k2) with rfl | hk
        · exact hbit
        · exact hz k k1 hk)
    · rw [decide_eq_true (show ((valB b / 2 ^ i % 2 : Nat) : Int) = 1 by rw [(Nat.mod_two_eq_zero_or_one (valB b / 2 ^ i)).resolve_left hbit]; rfl), cond_true]
      exact .inr ⟨rfl, i, h1, by omega, hbit⟩

theorem high_zero {V a : Nat} : ∀ (d : Nat), V < 2 ^ (a + d) → (∀ k, a ≤ k → k < a + d → V / 2 ^ k % 2 = 0) → V / 2 ^ a = 0
  | 0, h, _ => Nat.div_eq_of_lt (by simpa using h)
  | d + 1, h, hz => by
    have h1 : V / 2 ^ (a + d) < 2 := Nat.div_lt_of_lt_mul (by rw [← Nat.pow_succ]; exact h)
    have h2 := hz (a + d) (by omega) (by omega)
    have h3 : V / 2 ^ (a + d) = 0 := by
      generalize V / 2 ^ (a + d) = q at h1 h2 ⊢
      omega
    refine high_zero d ?_ (fun k k1 k2 => hz k k1 (by omega))
    have hp := Nat.two_pow_pos (a + d)
    rcases Nat.lt_or_ge V (2 ^ (a + d)) with h4 | h4
    · exact h4
    · have := Nat.div_pos h4 hp
      omega

abbrev upA : List PK := [PK.v (Ty.int IntKind.u8).sl, PK.v (Ty.int IntKind.i64), PK.v (Ty.int IntKind.i64)]
abbrev upR : List RK := [RK.own 58 (Ty.int IntKind.u64), RK.v (Ty.int IntKind.i64)]
/-- Both unpack the same. -/
theorem unpack_run {b : List Int} (hb : okB b) {w N : Nat} (hw : w ≤ 64) (hN : N ≤ 65536) (hl : b.length = psize N w) :
    ∃ (l : List Int) (e : Nat), F62.run upA upR 4000000 (b, (N : Int), (w : Int), ()) = some ((l, ((e : Int), ())), ()) ∧ F66.run upA upR 4000000 (b, (N : Int), (w : Int), ()) = some ((l, ((e : Int), ())), ()) ∧
      (e = 0 → l = unp b w N) ∧ (e ≠ 0 → l = []) ∧ (valB b / 2 ^ (N * w) = 0 → e = 0) := by
  have hNw : N * w ≤ 65536 * 64 := Nat.mul_le_mul hN hw
  rw [show F62.run upA upR 4000000 (b, (N : Int), (w : Int), ()) = _ from F62_run _ _ _ _, show F66.run upA upR 4000000 (b, (N : Int), (w : Int), ()) = _ from F66_run _ _ _ _]
  rw [show F62c1 4000000 b N w = _ from F62c1_eq 3999999 _ _ _, show F66c1 4000000 b N w = _ from F66c1_eq 3999999 _ _ _]
  rw [psize_run (by omega) hw, Option.bind_some, ok_run (by omega) hw, Option.bind_some, rok_run (by omega) hw, Option.bind_some, rsize_run (by omega) hw]
  simp only [Bool.not_true, cond_false, Option.bind_some, hl, decide_eq_false (Int.lt_irrefl _)]
  rw [← Int.natCast_mul, wrap64_id (z := ((N * w : Nat) : Int)) (by omega) (by omega)]
  have hV := valB_lt (okB_mem hb)
  have hV8 : valB b < 2 ^ (N * w + (8 * b.length - N * w)) := by
    rw [show N * w + (8 * b.length - N * w) = 8 * b.length by unfold psize at hl; omega, Nat.pow_mul]
    exact hV
  have hread : F62c11 3999999 b N w = some ((unp b w N, ((0 : Int), ())), ()) := by
    rw [show F62c11 3999999 b N w = _ from F62c11_eq 3999998 _ _ _, if_pos (by omega), if_pos (show (N : Int) ≤ ((lim : Nat) : Int) by have : lim = 4294967296 := rfl; omega), Int.toNat_natCast]
    exact unp_c13 hb hw hN hl 3999998 0 (by omega) (by omega)
  -- the program's test
  have hprog : (valB b / 2 ^ (N * w) = 0 → (bif !decide (((N * w : Nat) : Int).tmod 8 = 0) then
              if (0 : Int) ≤ IntKind.i64.wrap (((psize N w : Nat) : Int) - 1) then
                if IntKind.i64.wrap (((psize N w : Nat) : Int) - 1) < ((psize N w : Nat) : Int) then
                  if (0 : Int) ≤ ((N * w : Nat) : Int).tmod 8 then
                    bif !decide (b.getD (IntKind.i64.wrap (((psize N w : Nat) : Int) - 1)).toNat 0 / (2 : Int) ^ min (((N * w : Nat) : Int).tmod 8).toNat IntKind.u8.bits = 0) then some (([], ((4 : Int), ())), ()) else F62c11 3999999 b N w
                  else none
                else none
              else none
            else F62c11 3999999 b N w) = some ((unp b w N, ((0 : Int), ())), ())) ∧ (valB b / 2 ^ (N * w) ≠ 0 → (bif !decide (((N * w : Nat) : Int).tmod 8 = 0) then
              if (0 : Int) ≤ IntKind.i64.wrap (((psize N w : Nat) : Int) - 1) then
                if IntKind.i64.wrap (((psize N w : Nat) : Int) - 1) < ((psize N w : Nat) : Int) then
                  if (0 : Int) ≤ ((N * w : Nat) : Int).tmod 8 then
                    bif !decide (b.getD (IntKind.i64.wrap (((psize N w : Nat) : Int) - 1)).toNat 0 / (2 : Int) ^ min (((N * w : Nat) : Int).tmod 8).toNat IntKind.u8.bits = 0) then some (([], ((4 : Int), ())), ()) else F62c11 3999999 b N w
                  else none
                else none
              else none
            else F62c11 3999999 b N w) = some (([], ((4 : Int), ())), ())) := by
    rw [hread, Int.tmod_eq_emod_of_nonneg (by omega), show (((N * w : Nat) : Int) % 8) = ((N * w % 8 : Nat) : Int) by omega]
    by_cases h8 : N * w % 8 = 0
    · rw [decide_eq_true (show ((N * w % 8 : Nat) : Int) = 0 by omega)]
      have hz : valB b / 2 ^ (N * w) = 0 := by
        refine Nat.div_eq_of_lt ?_
        have : 8 * b.length = N * w := by unfold psize at hl; omega
        rw [← this, Nat.pow_mul]
        exact hV
      exact ⟨fun _ => rfl, fun h => absurd hz h⟩
    · have hs1 : IntKind.i64.wrap (((psize N w : Nat) : Int) - 1) = ((N * w / 8 : Nat) : Int) := by
        have : psize N w = N * w / 8 + 1 := by unfold psize; omega
        rw [this, wrap64_id (by omega) (by omega)]
        omega
      have hlast : valB b / 256 ^ (N * w / 8) < 256 := Nat.div_lt_of_lt_mul (by
        have : b.length = N * w / 8 + 1 := by unfold psize at hl; omega
        rw [this, Nat.pow_succ] at hV
        exact hV)
      have hval : ((valB b / 256 ^ (N * w / 8) % 256 : Nat) : Int) / (2 : Int) ^ (N * w % 8) = ((valB b / 2 ^ (N * w) : Nat) : Int) := by
        rw [Nat.mod_eq_of_lt hlast, shr_cast, Nat.div_div_eq_div_mul, ← pow_split, show 8 * (N * w / 8) + N * w % 8 = N * w by omega]
      rw [decide_eq_false (show ¬ ((N * w % 8 : Nat) : Int) = 0 by omega), hs1, Int.toNat_natCast, Int.toNat_natCast, valB_byte (okB_mem hb) (by unfold psize at hl; omega), show IntKind.u8.bits = 8 from rfl, Nat.min_eq_left (by omega), hval]
      simp only [Bool.not_false, cond_true]
      rw [if_pos (by omega), if_pos (by unfold psize; omega), if_pos (by omega)]
      refine ⟨fun h => ?_, fun h => ?_⟩
      · rw [decide_eq_true (by omega)]; rfl
      · rw [decide_eq_false (by omega)]; rfl
  rcases rpad_c8 hb hw hN hl (8 * b.length - N * w) (N * w) 3999999 rfl (Nat.le_refl _) (by unfold psize at hl; omega) (by unfold psize at hl; omega) (fun k k1 k2 => by omega) with ⟨h1, h2⟩ | ⟨h1, k, k1, k2, k3⟩
  · have hz := high_zero (8 * b.length - N * w) hV8 (fun k k1 k2 => h2 k k1 (by omega))
    exact ⟨unp b w N, 0, hprog.1 hz, h1, fun _ => rfl, fun h => absurd rfl h, fun _ => rfl⟩
  · have hnz : valB b / 2 ^ (N * w) ≠ 0 := fun h => by
      have : valB b / 2 ^ k = 0 := by
        rw [show k = N * w + (k - N * w) by omega, Nat.pow_add, ← Nat.div_div_eq_div_mul, h, Nat.zero_div]
      rw [this] at k3
      exact k3 rfl
    exact ⟨[], 4, hprog.2 hnz, h1, (fun h => by cases h), (fun _ => rfl), (fun h => absurd h hnz)⟩

end Go.Proofs.Try
