/- Law 42: hashes. The program's hash of a list of values is the reference's. -/
import Derived.Test.YtlkllggdiakpbaaGreatDoorL42HEq
import Derived.Test.YtlkllggdiakpbaaGreatDoorL42PVal
import Derived.Test.YtlkllggdiakpbaaGreatDoorEngine5
set_option linter.unusedVariables false
set_option linter.unusedSimpArgs false
namespace Go.Proofs.Tryz
open Go.Eng
abbrev U64 : PK := PK.v (Ty.int IntKind.u64)
abbrev RU : RK := RK.v (Ty.int IntKind.u64)
def mixV (a : Int) : Int := bits BinOp.xor IntKind.u64 (IntKind.u64.wrap (bits BinOp.xor IntKind.u64 (IntKind.u64.wrap (bits BinOp.xor IntKind.u64 a (a / (2 : Int) ^ min (Int.toNat (30 : Int)) IntKind.u64.bits) * (13787848793156543929 : Int))) (IntKind.u64.wrap (bits BinOp.xor IntKind.u64 a (a / (2 : Int) ^ min (Int.toNat (30 : Int)) IntKind.u64.bits) * (13787848793156543929 : Int)) / (2 : Int) ^ min (Int.toNat (27 : Int)) IntKind.u64.bits) * (10723151780598845931 : Int))) (IntKind.u64.wrap (bits BinOp.xor IntKind.u64 (IntKind.u64.wrap (bits BinOp.xor IntKind.u64 a (a / (2 : Int) ^ min (Int.toNat (30 : Int)) IntKind.u64.bits) * (13787848793156543929 : Int))) (IntKind.u64.wrap (bits BinOp.xor IntKind.u64 a (a / (2 : Int) ^ min (Int.toNat (30 : Int)) IntKind.u64.bits) * (13787848793156543929 : Int)) / (2 : Int) ^ min (Int.toNat (27 : Int)) IntKind.u64.bits) * (10723151780598845931 : Int)) / (2 : Int) ^ min (Int.toNat (31 : Int)) IntKind.u64.bits)
theorem mixp_run (a : Int) : F77.run [U64] [RU] 4000000 (a, ()) = some ((mixV a, ()), ()) := F77_run 4000000 a
theorem mixr_run (a : Int) : F79.run [U64] [RU] 4000000 (a, ()) = some ((mixV a, ()), ()) := F79_run 4000000 a
/-! ## Words of eight bytes -/
def wS (g : Nat → Nat) : Nat → Nat
 | 0 => 0
 | k + 1 => wS g k + g k * 256 ^ k
def hS (g : Nat → Nat) : Nat → Nat
 | 0 => 0
 | m + 1 => hS g m * 256 + g (7 - m)
theorem wS_lt {g : Nat → Nat} (hg : ∀ j, g j < 256) : ∀ k, wS g k < 256 ^ k
 | 0 => by simp [wS]
 | k + 1 => by
  have h1 := wS_lt hg k
  have h2 : g k * 256 ^ k ≤ 255 * 256 ^ k := Nat.mul_le_mul_right _ (by have := hg k; omega)
  simp only [wS, Nat.pow_succ]
  omega
theorem hS_lt {g : Nat → Nat} (hg : ∀ j, g j < 256) : ∀ m, hS g m < 256 ^ m
 | 0 => by simp [hS]
 | m + 1 => by
  have h1 := hS_lt hg m
  have h2 := hg (7 - m)
  simp only [hS, Nat.pow_succ]
  omega
theorem wS_hS' (g : Nat → Nat) (W : Nat) (h8 : wS g 8 = W) : ∀ m, m ≤ 8 → wS g (8 - m) + hS g m * 256 ^ (8 - m) = W
 | 0, _ => by
  show wS g 8 + 0 * 256 ^ 8 = W
  rw [h8, Nat.zero_mul, Nat.add_zero]
 | m + 1, h => by
  have ih := wS_hS' g W h8 m (by omega)
  have e : 8 - m = (7 - m) + 1 := by omega
  rw [e] at ih
  simp only [wS, Nat.pow_succ] at ih
  rw [show 8 - (m + 1) = 7 - m by omega]
  simp only [hS, Nat.add_mul]
  rw [← ih, Nat.mul_assoc, Nat.mul_comm 256 (256 ^ (7 - m))]
  omega
theorem wS_hS (g : Nat → Nat) : ∀ m, m ≤ 8 → wS g (8 - m) + hS g m * 256 ^ (8 - m) = wS g 8 := wS_hS' g _ rfl
theorem pow8 {k : Nat} (h : k ≤ 8) : 256 ^ k ≤ 18446744073709551616 :=
 Nat.le_trans (Nat.pow_le_pow_right (by decide) h) (by decide)
theorem or_step {g : Nat → Nat} (hg : ∀ j, g j < 256) {k : Nat} (hk : k < 8) :
  Go.bits .or .u64 ((wS g k : Nat) : Int) (IntKind.u64.wrap (IntKind.u64.wrap ((g k : Nat) : Int) * (2 : Int) ^ min (IntKind.u64.wrap (IntKind.i64.wrap ((8 : Int) * (k : Int)))).toNat IntKind.u64.bits)) = ((wS g (k + 1) : Nat) : Int) := by
 have e1 : IntKind.i64.wrap ((8 : Int) * (k : Int)) = ((8 * k : Nat) : Int) := by rw [wrap64_id (by omega) (by omega)]; omega
 have e2 : IntKind.u64.wrap ((8 * k : Nat) : Int) = ((8 * k : Nat) : Int) := u64_wrap_id (by omega) (by omega)
 have e3 : min ((8 * k : Nat) : Int).toNat IntKind.u64.bits = 8 * k := by
  rw [Int.toNat_natCast]; exact Nat.min_eq_left (show 8 * k ≤ 64 by omega)
 have hgk := hg k
 have e4 : IntKind.u64.wrap ((g k : Nat) : Int) = ((g k : Nat) : Int) := u64_wrap_id (by omega) (by omega)
 have hp : (256 : Nat) ^ k = 2 ^ (8 * k) := by rw [Nat.pow_mul]
 have hlt : g k * 256 ^ k < 18446744073709551616 := by
  have := wS_lt hg (k + 1)
  have h8 := pow8 (k := k + 1) (by omega)
  simp only [wS] at this
  omega
 have hw : wS g k < 18446744073709551616 := Nat.lt_of_lt_of_le (wS_lt hg k) (pow8 (by omega))
 rw [e1, e2, e3, e4, show ((g k : Nat) : Int) * (2 : Int) ^ (8 * k) = ((g k * 256 ^ k : Nat) : Int) by rw [hp]; push_cast; rfl, u64_wrap_id (by omega) (by omega), or_u64 hw hlt, hp, or_add (by rw [← hp]; exact wS_lt hg k), ← hp]
 rfl
theorem or_shift {g : Nat → Nat} (hg : ∀ j, g j < 256) {m : Nat} (hm : m < 8) :
  Go.bits .or .u64 (IntKind.u64.wrap (((hS g m : Nat) : Int) * (2 : Int) ^ min (Int.toNat (8 : Int)) IntKind.u64.bits)) (IntKind.u64.wrap ((g (7 - m) : Nat) : Int)) = ((hS g (m + 1) : Nat) : Int) := by
 have hb := hg (7 - m)
 have h1 := hS_lt hg m
 have h2 : hS g m * 256 < 18446744073709551616 := by
  have h8 := pow8 (k := m + 1) (by omega)
  rw [Nat.pow_succ] at h8
  omega
 have e3 : min (Int.toNat (8 : Int)) IntKind.u64.bits = 8 := by decide
 rw [e3, show ((hS g m : Nat) : Int) * (2 : Int) ^ 8 = ((hS g m * 256 : Nat) : Int) by rw [show (2 : Int) ^ 8 = 256 from rfl]; omega, u64_wrap_id (by omega) (by omega), u64_wrap_id (by omega) (by omega), or_u64 h2 (by omega), Nat.or_comm, show hS g m * 256 = hS g m * 2 ^ 8 from rfl, or_add (by omega)]
 simp only [hS]
 congr 1
 omega
theorem shift0 {g : Nat → Nat} (hg : ∀ j, g j < 256) {m : Nat} (hm : m < 8) (h0 : g (7 - m) = 0) :
  IntKind.u64.wrap (((hS g m : Nat) : Int) * (2 : Int) ^ min (Int.toNat (8 : Int)) IntKind.u64.bits) = ((hS g (m + 1) : Nat) : Int) := by
 have h2 : hS g m * 256 < 18446744073709551616 := by
  have h8 := pow8 (k := m + 1) (by omega)
  have h1 := hS_lt hg m
  rw [Nat.pow_succ] at h8
  omega
 have e3 : min (Int.toNat (8 : Int)) IntKind.u64.bits = 8 := by decide
 rw [e3, show ((hS g m : Nat) : Int) * (2 : Int) ^ 8 = ((hS g m * 256 : Nat) : Int) by rw [show (2 : Int) ^ 8 = 256 from rfl]; omega, u64_wrap_id (by omega) (by omega)]
 simp only [hS, h0, Nat.add_zero]
/-! ## Bytes -/
def Byt (b : List Int) : Prop := ∀ x ∈ b, 0 ≤ x ∧ x < 256
def gB (b : List Int) (o j : Nat) : Nat := (b.getD (o + j) 0).toNat
theorem byt_get {b : List Int} (h : Byt b) (i : Nat) : 0 ≤ b.getD i 0 ∧ b.getD i 0 < 256 := by
 rcases Nat.lt_or_ge i b.length with hi | hi
 ·exact h _ (getD_mem hi 0)
 ·rw [List.getD_eq_getElem?_getD, List.getElem?_eq_none hi]; decide
theorem gB_lt {b : List Int} (h : Byt b) (o j : Nat) : gB b o j < 256 := by have := byt_get h (o + j); unfold gB; omega
theorem gB_int {b : List Int} (h : Byt b) (o j : Nat) : ((gB b o j : Nat) : Int) = b.getD (o + j) 0 := by have := byt_get h (o + j); unfold gB; omega
theorem in116 {b : List Int} (hb : Byt b) {o : Nat} (ho : o < 4611686018427387904) {n : Nat} : ∀ d m : Nat, d + m = 8 → F116c3 (n + d + 1) b (o : Int) ((hS (gB b o) m : Nat) : Int) (7 - (m : Int)) = some ((((wS (gB b o) 8 : Nat) : Int), ()), ())
 | 0, m, h => by
  have hm : m = 8 := by omega
  subst hm
  have := wS_hS (gB b o) 8 (Nat.le_refl _)
  rw [F116c3_eq, cdf (by omega), ← this]
  simp [wS]
 | d + 1, m, h => by
  have ih := in116 hb ho (n := n) d (m + 1) (by omega)
  have ew : IntKind.i64.wrap ((o : Int) + (7 - (m : Int))) = ((o + (7 - m) : Nat) : Int) := by rw [wrap64_id (by omega) (by omega)]; omega
  have ek : IntKind.i64.wrap (7 - (m : Int) - 1) = 7 - ((m + 1 : Nat) : Int) := by rw [wrap64_id (by omega) (by omega)]; omega
  rw [show n + (d + 1) + 1 = (n + d + 1) + 1 by omega, F116c3_eq, cdt (by omega), ew, ek]
  by_cases hl : o + (7 - m) < b.length
  ·rw [cdt (by omega), gd hl, Int.toNat_natCast, ← gB_int hb, or_shift (gB_lt hb o) (by omega)]
   exact ih
  ·rw [cdf (by omega), shift0 (gB_lt hb o) (by omega) (by unfold gB; rw [List.getD_eq_getElem?_getD, List.getElem?_eq_none (by omega)]; rfl)]
   exact ih
theorem word_run {b : List Int} (hb : Byt b) {o : Nat} (ho : o < 4611686018427387904) : F116.run [PK.v (Ty.int IntKind.u8).sl, PK.v (Ty.int .i64)] [RU] 4000000 (b, (o : Int), ()) = some ((((wS (gB b o) 8 : Nat) : Int), ()), ()) := by
 rw [F116_run]
 exact in116 hb ho (n := 3999991) 8 0 rfl
theorem in78 {b l : List Int} {h : Int} {o : Nat} {g : Nat → Nat} (hg : ∀ j, g j < 256) (hl : ∀ j, j < 8 → l.getD j 0 = ((g j : Nat) : Int)) {n : Nat} : ∀ d k : Nat, d + k = 8 →
  F78c9 (n + d + 1) b h (o : Int) ((wS g k : Nat) : Int) (k : Int) l = F78c3 n b (mixV (Go.bits .xor .u64 h ((wS g 8 : Nat) : Int))) (IntKind.i64.wrap ((o : Int) + 8))
 | 0, k, hk => by
  have : k = 8 := by omega
  subst this
  rw [F78c9_eq, cdf (by omega), bnd (mixp_run _)]
 | d + 1, k, hk => by
  have ih := in78 (b := b) (h := h) (o := o) hg hl (n := n) d (k + 1) (by omega)
  have e1 : IntKind.i64.wrap ((8 : Int) * (k : Int)) = ((8 * k : Nat) : Int) := by rw [wrap64_id (by omega) (by omega)]; omega
  have e2 : IntKind.u64.wrap ((8 * k : Nat) : Int) = ((8 * k : Nat) : Int) := u64_wrap_id (by omega) (by omega)
  rw [show n + (d + 1) + 1 = (n + d + 1) + 1 by omega, F78c9_eq, cdt (by omega), if_pos (by omega), if_pos (by omega), if_pos (by rw [e1, e2]; omega), Int.toNat_natCast, hl k (by omega), or_step hg (by omega), w1 (by omega)]
  exact ih
theorem chunk_get {b : List Int} {o j : Nat} (hj : j < 8) {M : Nat} (hM : M = min (o + 8) b.length) (ho : o ≤ b.length) : (cpyL [(0 : Int), 0, 0, 0, 0, 0, 0, 0] ((b.take M).drop o)).getD j 0 = b.getD (o + j) 0 := by
 have hz : ∀ i, [(0 : Int), 0, 0, 0, 0, 0, 0, 0].getD i 0 = 0 := by
  intro i
  match i with
  | 0 | 1 | 2 | 3 | 4 | 5 | 6 | 7 => rfl
  | i + 8 => rfl
 have hlen : ((b.take M).drop o).length = M - o := by rw [List.length_drop, List.length_take]; omega
 unfold cpyL
 rw [List.take_of_length_le (by rw [hlen]; show M - o ≤ 8; omega)]
 by_cases h : j < M - o
 ·rw [List.getD_eq_getElem?_getD, List.getElem?_append_left (by omega), List.getElem?_drop, List.getElem?_take, if_pos (by omega), ← List.getD_eq_getElem?_getD]
 ·have hb : b.getD (o + j) 0 = 0 := by rw [List.getD_eq_getElem?_getD, List.getElem?_eq_none (by omega)]; rfl
  have := hz (M - o + (j - (M - o)))
  rw [hb, List.getD_eq_getElem?_getD, List.getElem?_append_right (by omega), hlen, List.getElem?_drop, ← List.getD_eq_getElem?_getD]
  exact this
theorem hash_loop {b : List Int} (hb : Byt b) (hlen : b.length ≤ 4000000) : ∀ (m o : Nat) (h : Int) (n n' : Nat), b.length ≤ o + 8 * m → o ≤ 5000000 → 10 * m + 1 ≤ n → m + 1 ≤ n' → ∃ r, F78c3 n b h (o : Int) = some ((r, ()), ()) ∧ F80c3 n' b h (o : Int) = some ((r, ()), ())
 | m, o, h, n, n', hm, ho, hn, hn' => by
  obtain ⟨n, rfl⟩ : ∃ k, n = k + 1 := ⟨n - 1, by omega⟩
  obtain ⟨n', rfl⟩ : ∃ k, n' = k + 1 := ⟨n' - 1, by omega⟩
  rw [F78c3_eq, F80c3_eq]
  by_cases hl : o < b.length
  ·cases m with
   | zero => omega
   | succ m =>
    have ew : IntKind.i64.wrap ((o : Int) + 8) = ((o + 8 : Nat) : Int) := by rw [wrap64_id (by omega) (by omega)]; omega
    have em : imin ((o + 8 : Nat) : Int) (b.length : Int) = ((min (o + 8) b.length : Nat) : Int) := by unfold imin; split <;> omega
    obtain ⟨n, rfl⟩ : ∃ k, n = k + 8 + 1 := ⟨n - 9, by omega⟩
    obtain ⟨r, h1, h2⟩ := hash_loop hb hlen m (o + 8) (mixV (Go.bits .xor .u64 h ((wS (gB b o) 8 : Nat) : Int))) n n' (by omega) (by omega) (by omega) (by omega)
    refine ⟨r, ?_, ?_⟩
    ·rw [cdt (by omega), ew, em, if_pos (by omega), if_pos (by omega), if_pos (by omega), Int.toNat_natCast, Int.toNat_natCast]
     rw [show F78c9 (n + 8 + 1) b h (o : Int) 0 0 (cpyL [(0 : Int), 0, 0, 0, 0, 0, 0, 0] (List.drop o (List.take (min (o + 8) b.length) b))) = _ from
      in78 (b := b) (h := h) (o := o) (gB_lt hb o) (fun j hj => by rw [chunk_get hj rfl (by omega), gB_int hb]) (n := n) 8 0 rfl, ew]
     exact h1
    ·rw [cdt (by omega), bnd (word_run hb (by omega))]
     dsimp only
     rw [bnd (mixr_run _), ew]
     exact h2
  ·exact ⟨h, by rw [cdf (by omega)], by rw [cdf (by omega)]⟩
theorem hashB_run {b : List Int} (hb : Byt b) (hlen : b.length ≤ 1000000) (s : Int) : ∃ r, F78.run [U64, PK.v (Ty.int IntKind.u8).sl] [RU] 4000000 (s, b, ()) = some ((r, ()), ()) ∧ F80.run [U64, PK.v (Ty.int IntKind.u8).sl] [RU] 4000000 (s, b, ()) = some ((r, ()), ()) := by
 obtain ⟨r, h1, h2⟩ := hash_loop hb (by omega) 200000 0 (mixV (Go.bits .xor .u64 s (IntKind.u64.wrap (b.length : Int)))) 4000000 4000000 (by omega) (by omega) (by omega) (by omega)
 exact ⟨r, by rw [F78_run, bnd (mixp_run _)]; exact h1, by rw [F80_run, bnd (mixr_run _)]; exact h2⟩
/-! ## Values -/
theorem hashV_step {l : List Val} (hg : ∀ v ∈ l, GV v) {i : Nat} (hl : i < l.length) (h : Int) (n n' : Nat) : ∃ h', F41c3 (n + 1) h l (l.length : Int) (i : Int) = F41c14 n h' l (l.length : Int) (i : Int) ∧ F42c3 (n' + 1) l h (i : Int) = F42c4 n' l h' (i : Int) := by
 have hv := hg _ (getD_mem hl zVal)
 have hi : (i : Int) < (l.length : Int) := by omega
 by_cases k0 : (l.getD i zVal).kind = 0
 ·exact ⟨_, by rw [F41c3_eq, cdt hi, gd hl, Int.toNat_natCast, cdt k0, bnd (mixp_run _)], by rw [F42c3_eq, cdt hi, gd hl, Int.toNat_natCast, cdt k0, bnd (mixr_run _)]⟩
 ·by_cases k1 : (l.getD i zVal).kind = 1
  ·refine ⟨mixV (Go.bits .xor .u64 (mixV (Go.bits .xor .u64 h 2)) (IntKind.u64.wrap (l.getD i zVal).int)), ?_, ?_⟩
   ·rw [F41c3_eq, cdt hi, gd hl, Int.toNat_natCast, cdf k0, cdt k1, bnd (mixp_run _)]
    dsimp only
    rw [bnd (mixp_run _)]
   ·rw [F42c3_eq, cdt hi, gd hl, Int.toNat_natCast, cdf k0, cdt k1, bnd (mixr_run _)]
    dsimp only
    rw [bnd (mixr_run _)]
  ·by_cases k2 : (l.getD i zVal).kind = 2
   ·refine ⟨mixV (Go.bits .xor .u64 (mixV (Go.bits .xor .u64 h 3)) (IntKind.u64.wrap (l.getD i zVal).int)), ?_, ?_⟩
    ·rw [F41c3_eq, cdt hi, gd hl, Int.toNat_natCast, cdf k0, cdf k1, cdt k2, bnd (mixp_run _)]
     dsimp only
     rw [bnd (mixp_run _)]
    ·rw [F42c3_eq, cdt hi, gd hl, Int.toNat_natCast, cdf k0, cdf k1, cdt k2, bnd (mixr_run _)]
     dsimp only
     rw [bnd (mixr_run _)]
   ·by_cases k3 : (l.getD i zVal).kind = 3
    ·have hlt : (l.getD i zVal).text.length ≤ 4096 := by
      have := hv.valid
      unfold valid at this
      rw [if_neg k0, if_neg k1, if_neg k2, if_pos k3, Bool.and_eq_true, decide_eq_true_eq, decide_eq_true_eq] at this
      exact this.2
     obtain ⟨r, r1, r2⟩ := hashB_run hv.bytes (by omega) (mixV (Go.bits .xor .u64 h 4))
     have hlim : (l.getD i zVal).text.length ≤ lim := by unfold lim; omega
     refine ⟨r, ?_, ?_⟩
     ·rw [F41c3_eq, cdt hi, gd hl, Int.toNat_natCast, cdf k0, cdf k1, cdf k2, cdt k3, bnd (mixp_run _), if_pos hlim]
      dsimp only
      rw [bnd r1]
     ·rw [F42c3_eq, cdt hi, gd hl, Int.toNat_natCast, cdf k0, cdf k1, cdf k2, cdt k3, bnd (mixr_run _), if_pos hlim]
      dsimp only
      rw [bnd r2]
    ·exact ⟨h, by rw [F41c3_eq, cdt hi, gd hl, Int.toNat_natCast, cdf k0, cdf k1, cdf k2, cdf k3], by rw [F42c3_eq, cdt hi, gd hl, Int.toNat_natCast, cdf k0, cdf k1, cdf k2, cdf k3]⟩
theorem hashV_loop {l : List Val} (hg : ∀ v ∈ l, GV v) (hlen : l.length ≤ 1000000) : ∀ (d i : Nat) (h : Int) (n n' : Nat), l.length ≤ i + d → 2 * d + 1 ≤ n → 2 * d + 1 ≤ n' → ∃ r, F41c3 n h l (l.length : Int) (i : Int) = some ((r, ()), ()) ∧ F42c3 n' l h (i : Int) = some ((r, ()), ())
 | d, i, h, n, n', hd, hn, hn' => by
  obtain ⟨n, rfl⟩ : ∃ k, n = k + 1 := ⟨n - 1, by omega⟩
  obtain ⟨n', rfl⟩ : ∃ k, n' = k + 1 := ⟨n' - 1, by omega⟩
  by_cases hl : i < l.length
  ·cases d with
   | zero => omega
   | succ d =>
    obtain ⟨h', e1, e2⟩ := hashV_step hg hl h n n'
    rw [e1, e2]
    obtain ⟨n, rfl⟩ : ∃ k, n = k + 1 := ⟨n - 1, by omega⟩
    obtain ⟨n', rfl⟩ : ∃ k, n' = k + 1 := ⟨n' - 1, by omega⟩
    rw [F41c14_eq, F42c4_eq, w1 (by omega)]
    exact hashV_loop hg hlen d (i + 1) h' n n' (by omega) (by omega) (by omega)
  ·exact ⟨h, by rw [F41c3_eq, cdf (by omega)], by rw [F42c3_eq, cdf (by omega)]⟩
abbrev VL : PK := PK.v (Ty.nm 0).sl
noncomputable def hval (s : Int) (l : List Val) : Int := match F42.run [U64, VL] [RU] 4000000 (s, l, ()) with
 | some r => r.1.1
 | none => 0
theorem hval_run {l : List Val} (hg : ∀ v ∈ l, GV v) (hlen : l.length ≤ 1000000) (s : Int) : F41.run [U64, VL] [RU] 4000000 (s, l, ()) = some ((hval s l, ()), ()) ∧ F42.run [U64, VL] [RU] 4000000 (s, l, ()) = some ((hval s l, ()), ()) := by
 obtain ⟨r, h1, h2⟩ := hashV_loop hg hlen 1000000 0 (mixV s) 4000000 4000000 (by omega) (by omega) (by omega)
 have e1 : F41.run [U64, VL] [RU] 4000000 (s, l, ()) = some ((r, ()), ()) := by rw [F41_run, bnd (mixp_run _)]; exact h1
 have e2 : F42.run [U64, VL] [RU] 4000000 (s, l, ()) = some ((r, ()), ()) := by rw [F42_run, bnd (mixr_run _)]; exact h2
 have e3 : hval s l = r := by unfold hval; rw [e2]
 rw [e3]
 exact ⟨e1, e2⟩
end Go.Proofs.Tryz
