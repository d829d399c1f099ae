/- The engine: the library's sort at strings, out of its contract. -/
import Derived.Test.YtkbeapecncddkaaEngZ
import Derived.Sort.OwnSorted
set_option linter.unusedVariables false
set_option linter.unusedSimpArgs false
namespace Go.Eng
open Go.Sort Go.Proofs
variable {N : Names} {P : Program}

def insS (x : List Int) : List (List Int) → List (List Int)
  | [] => [x]
  | y :: r => bif strLt y x then y :: insS x r else x :: y :: r
def isort : List (List Int) → List (List Int)
  | [] => []
  | x :: r => insS x (isort r)

theorem strLt_irrefl : ∀ a : List Int, strLt a a = false
  | [] => rfl
  | a :: x => by simp [strLt, strLt_irrefl x]
theorem strLt_trans : ∀ {a b c : List Int}, strLt a b = true → strLt b c = true → strLt a c = true
  | _, [], _, h, _ => by simp [strLt] at h
  | _, _ :: _, [], _, h => by simp [strLt] at h
  | [], b :: y, c :: z, _, _ => rfl
  | a :: x, b :: y, c :: z, h1, h2 => by
    simp only [strLt, Bool.or_eq_true, Bool.and_eq_true, decide_eq_true_eq] at h1 h2 ⊢
    rcases h1 with h1 | ⟨h1, k1⟩ <;> rcases h2 with h2 | ⟨h2, k2⟩
    · exact .inl (by omega)
    · exact .inl (by omega)
    · exact .inl (by omega)
    · exact .inr ⟨by omega, strLt_trans k1 k2⟩
theorem strLt_anti {a b : List Int} (h1 : strLt a b = false) (h2 : strLt b a = false) : a = b := by
  have := strLt_total a b
  rw [h1, h2] at this
  simpa using this
theorem strLt_asymm {a b : List Int} (h : strLt a b = true) : strLt b a = false := by
  cases h2 : strLt b a with
  | false => rfl
  | true => have := strLt_trans h h2; rw [strLt_irrefl] at this; cases this
/-- not less is transitive -/
theorem strLe_trans {a b c : List Int} (h1 : strLt b a = false) (h2 : strLt c b = false) : strLt c a = false := by
  cases h : strLt c a with
  | false => rfl
  | true =>
    cases hab : strLt a b with
    | true => rw [strLt_trans h hab] at h2; cases h2
    | false => rw [strLt_anti hab h1, h2] at h; cases h

theorem insS_perm (x : List Int) : ∀ l, (insS x l).Perm (x :: l)
  | [] => List.Perm.refl _
  | y :: r => by
    unfold insS
    cases strLt y x with
    | true => exact ((insS_perm x r).cons y).trans (List.Perm.swap _ _ _)
    | false => exact List.Perm.refl _
theorem isort_perm : ∀ l, (isort l).Perm l
  | [] => List.Perm.refl _
  | x :: r => (insS_perm x _).trans ((isort_perm r).cons x)
theorem insS_sorted (x : List Int) : ∀ {l}, l.Pairwise (fun a b => strLt b a = false) → (insS x l).Pairwise (fun a b => strLt b a = false)
  | [], _ => List.pairwise_singleton _ _
  | y :: r, h => by
    obtain ⟨h1, h2⟩ := List.pairwise_cons.1 h
    unfold insS
    cases hyx : strLt y x with
    | true =>
      refine List.pairwise_cons.2 ⟨fun z hz => ?_, insS_sorted x h2⟩
      rcases List.mem_cons.1 ((insS_perm x r).mem_iff.1 hz) with rfl | hz
      · exact strLt_asymm hyx
      · exact h1 z hz
    | false =>
      refine List.pairwise_cons.2 ⟨fun z hz => ?_, h⟩
      rcases List.mem_cons.1 hz with rfl | hz
      · exact hyx
      · exact strLe_trans hyx (h1 z hz)
theorem isort_sorted : ∀ l, (isort l).Pairwise (fun a b => strLt b a = false)
  | [] => List.Pairwise.nil
  | x :: r => insS_sorted x (isort_sorted r)
theorem isort_unique {l m : List (List Int)} (hm : m.Pairwise (fun a b => strLt b a = false)) (hp : m.Perm l) : m = isort l :=
  List.Perm.eq_of_pairwise (fun a b _ _ h1 h2 => strLt_anti h2 h1) hm (isort_sorted l) (hp.trans (isort_perm l).symm)

def toI (l : List UInt8) : List Int := l.map fun b => (b.toNat : Int)
theorem toI_lt : ∀ (l m : List UInt8), decide (l < m) = strLt (toI l) (toI m)
  | [], [] => by simp [toI, strLt]
  | [], _ :: _ => by simp [toI, strLt]
  | _ :: _, [] => by simp [toI, strLt]
  | a :: x, b :: y => by
    have ih := toI_lt x y
    have e0 : decide (a :: x < b :: y) = (decide (a < b) || (decide (a = b) && decide (x < y))) := by
      rw [← Bool.decide_and, ← Bool.decide_or]
      exact decide_eq_decide.2 List.cons_lt_cons_iff
    rw [e0]
    simp only [toI, List.map_cons, strLt]
    rw [show strLt (List.map (fun b : UInt8 => (b.toNat : Int)) x) (List.map (fun b : UInt8 => (b.toNat : Int)) y) = decide (x < y) from ih.symm]
    have e1 : (a < b) ↔ ((a.toNat : Int) < (b.toNat : Int)) := by rw [UInt8.lt_iff_toNat_lt]; omega
    have e2 : (a = b) ↔ ((a.toNat : Int) = (b.toNat : Int)) := by
      rw [← UInt8.toNat_inj]; omega
    by_cases h1 : a < b <;> by_cases h2 : a = b <;> by_cases h3 : x < y <;> simp [h1, h2, h3, ← e1, ← e2]

theorem toI_sort (ss : List (List UInt8)) : (ss.mergeSort fun x y => decide (x ≤ y)).map toI = isort (ss.map toI) := by
  refine isort_unique ?_ ((List.mergeSort_perm ss _).map toI)
  rw [List.pairwise_map]
  have h := List.pairwise_mergeSort (le := fun x y : List UInt8 => decide (x ≤ y)) (fun a b c h1 h2 => by
      simp only [decide_eq_true_eq] at h1 h2 ⊢
      exact List.le_trans h1 h2) (fun a b => by
      simp only [Bool.or_eq_true, decide_eq_true_eq]
      exact List.le_total a b) ss
  refine h.imp fun {a b} hab => ?_
  rw [← toI_lt]
  simp only [decide_eq_true_eq] at hab
  simpa using hab

/-- What slices.Sort does at strings. -/
def sortSpec (N : Names) (el : TypeId) : Spec N := ⟨[.io el .str], [], List (List Int), fun x => bif Nat.blt x.1.length 4611686018427387904 then some (isort x.1) else none, fun r => ((), (r, ()))⟩

theorem rowC_str {w : World} {ok : Nat → Prop} : ∀ {xs : List (List Int)} {cells : List Value}, RowC (Rep (N := N) w ok .str) xs cells → ∃ ss : List (List UInt8), cells = ss.map encStr ∧ xs = ss.map toI
  | [], _, h => ⟨[], by simpa [RowC] using h, rfl⟩
  | x :: xs, cells, ⟨c1, c2, e, h1, h2⟩ => by
    obtain ⟨s, rfl, hs⟩ := h1
    obtain ⟨ss, e1, e2⟩ := rowC_str h2
    refine ⟨s.data.toList :: ss, ?_, ?_⟩
    · rw [e, e1]
      simp [encStr]
    · rw [e2]
      simp only [List.map_cons, List.cons.injEq, and_true]
      rw [← hs]
      simp [bytesL, toI]
theorem str_rowC {w : World} {ok : Nat → Prop} : ∀ (ss : List (List UInt8)), RowC (Rep (N := N) w ok .str) (ss.map toI) (ss.map encStr)
  | [] => rfl
  | s :: ss => ⟨_, _, rfl, ⟨⟨s.toArray⟩, rfl, by simp [bytesL, toI]⟩, str_rowC ss⟩

/-- The library's sort. The contract is handed in; a row of none is followed by the engine. -/
theorem good_sort {f : FuncId} {el : TypeId} (hcalls : ∀ (blk off cap : Nat) (ss : List (List UInt8)) (w : World), Holds encStr w blk off ss.toArray → blk < w.heap.size → ss.length < 4611686018427387904 →
      Calls P f #[.slice (some ⟨blk, off, none⟩) ss.length cap] w fun e w' => e = .returned (.tuple #[]) ∧ ∃ n os, w' = grow (putRow encStr (Sort.ahead w n) blk off (ss.mergeSort fun x y => decide (x ≤ y)).toArray) os)
    {F : Fn N} {k : Nat} (hF : Good P f (F.spec [.io el .str] [] k)) (hnil : F.run [.io el .str] [] k ([], ()) = some ((), ([], ()))) : Good P f (sortSpec N el) where
  enter := hF.enter
  calls w ok x vs bl r hok hin hbl hblk hr := by
    obtain ⟨v, rest, b1, b2, rfl, rfl, ⟨hown, hb1⟩, ⟨rfl, rfl⟩⟩ := hin
    have hr : (bif Nat.blt x.1.length 4611686018427387904 then some (isort x.1) else none) = some r := hr
    have hsz0 : x.1.length < 4611686018427387904 := by
      cases hb : Nat.blt x.1.length 4611686018427387904 with
      | false => rw [hb] at hr; cases hr
      | true => exact Nat.le_of_ble_eq_true hb
    rw [show Nat.blt x.1.length 4611686018427387904 = true from Nat.ble_eq_true_of_le hsz0] at hr
    have hr : some (isort x.1) = some r := hr
    cases hr
    have hin : InRel w ok [.io el .str] x [v] (b1 ++ []) := ⟨v, [], b1, [], rfl, rfl, ⟨hown, hb1⟩, ⟨rfl, rfl⟩⟩
    obtain ⟨cells, ho, hc⟩ := hown
    rcases ho.2 with ⟨rfl, hn⟩ | ⟨g, cap, cur, rfl, _, hg, hnc, hcm, hcs, ht⟩
    · have hx : x = (([], ()) : HIn N.ρ [.io el .str]) := by
        obtain ⟨x1, x2⟩ := x
        have : x1 = [] := List.eq_nil_of_length_eq_zero hn
        subst this
        rfl
      subst hx
      have hfx : (F.spec [.io el .str] [] k).f (([], ()) : HIn N.ρ [.io el .str]) = some ((), ([], ())) := hnil
      refine (hF.calls w ok _ _ _ _ hok hin hbl hblk hfx).mono ?_
      rintro e w' ⟨us, bl', rl, he, hC⟩
      exact ⟨us, bl', rl, he, ⟨hC.kept, hC.out, hC.res, hC.nodup, hC.old⟩⟩
    · obtain ⟨ss, e1, e2⟩ := rowC_str hc
      have hlen : x.1.length = ss.length := by rw [e2, List.length_map]
      have ht' : cur.toList.take ss.length = ss.map encStr := by
        have : N.sz (.str) = 1 := rfl
        rw [this, Nat.mul_one, e1, hlen] at ht
        exact ht
      have hsz : ss.length < 4611686018427387904 := by omega
      have hgl : g < w.heap.size := (Array.getElem?_eq_some_iff.1 hg).1
      have hgb : g ∈ b1 ++ [] := by rw [hb1]; simp [oneBlk, blkOf]
      have := hcalls g 0 cap ss w (holds_of_block hg ht') hgl hsz
      rw [show x.1.length = ss.length from hlen]
      refine this.mono ?_
      rintro e w' ⟨rfl, n, os, rfl⟩
      have hl : (ss.mergeSort fun x y => decide (x ≤ y)).length = ss.length := by simp
      have hgr : w.grownBy _ (some g) := grownBy_sorted (w := w) (n := n) (os := os) (g := g) (ss.mergeSort fun x y => decide (x ≤ y)).toArray
      have hrow := ownsRow_sorted (base := 0) (os := os) (n := n) hl (Nat.zero_le _) hg (by omega) hcm (by have h1 : N.sz Ty.str = 1 := rfl; rw [hcs, h1])
      have hlx : (isort x.1).length = ss.length := by rw [(isort_perm x.1).length_eq, hlen]
      refine ⟨[], oneBlk (.slice (some ⟨g, 0, none⟩) ss.length cap), [], rfl, ⟨⟨hgr.os, hgr.tape, hgr.output, hgr.size, fun k hk hkb => hgr.block k hk (fun e => hkb (by cases e; exact hgb))⟩, ?_, ⟨rfl, rfl⟩, ?_, ?_⟩⟩
      · refine ⟨_, [], oneBlk (.slice (some ⟨g, 0, none⟩) ss.length cap), [], rfl, (by simp), ⟨⟨(ss.mergeSort fun x y => decide (x ≤ y)).map encStr, ?_, ?_⟩, rfl⟩, rfl⟩
        · show World.ownsRow _ 0 el 1 (.slice (some ⟨g, 0, none⟩) ss.length cap) (isort x.1).length _
          rw [hlx]
          exact hrow
        · show RowC _ (isort x.1) _
          rw [e2, ← toI_sort]
          exact str_rowC _
      · simp [oneBlk, blkOf]
      · intro g' hg'
        have : g' = g := by simpa [oneBlk, blkOf] using hg'
        subst this
        exact ⟨.inl hgb, Nat.lt_of_lt_of_le hgl hgr.size⟩

end Go.Eng
