/- Law 36: a predicate matches a row just where the expression that compares the column is true. -/
import Derived.Test.YtenjolapmchcmaaGreatDoorL36Val
import Derived.Test.YtenjolapmchcmaaGreatDoorL36Fn3
set_option linter.unusedVariables false
set_option linter.unusedSimpArgs false
namespace Go.Proofs.Tryz
open Go.Eng
abbrev eP : List PK := [.v (.nm 2), .v (.sl (.nm 0))]
def colE (s : Int) : Ex := { kind := 2, op := 0, value := zVal, table := [], name := [], distinct := false, args := [], partitionBy := [], orderBy := [], slot := s, f_Type := 0 }
def litE (v : Val) : Ex := { kind := 1, op := 0, value := v, table := [], name := [], distinct := false, args := [], partitionBy := [], orderBy := [], slot := 0, f_Type := v.kind }
def nodE (k op : Int) (l : List Ex) : Ex := { kind := k, op := op, value := zVal, table := [], name := [], distinct := false, args := l, partitionBy := [], orderBy := [], slot := 0, f_Type := 1 }
theorem col_run (k : Nat) (s : Int) (r : List Val) : r13 (k + 1) (colE s, r, ()) = some ((atV r s, ()), ()) := by
 rw [r13_succ, show (F13 (r13 k)).run [.v (.nm 2), .v (.sl (.nm 0))] [.v (.nm 0)] 4000000 (colE s, r, ()) = _ from F13_run _ _ _ _, show (colE s).kind = 2 from rfl, show (colE s).slot = s from rfl, cdf (by decide), cdt rfl, bnd (pat_run _ _)]
theorem lit_run (k : Nat) (v : Val) (r : List Val) : r13 (k + 1) (litE v, r, ()) = some ((v, ()), ()) := by
 rw [r13_succ, show (F13 (r13 k)).run [.v (.nm 2), .v (.sl (.nm 0))] [.v (.nm 0)] 4000000 (litE v, r, ()) = _ from F13_run _ _ _ _, show (litE v).kind = 1 from rfl, show (litE v).value = v from rfl, cdt rfl]
theorem step24 {g : G13} {n : Nat} {r : List Val} {l : List Ex} {i : Nat} {m : List Val} {a : Ex} {v : Val} (h : i < l.length) (ha : l.getD i zEx = a) (hg : g (a, r, ()) = some ((v, ()), ())) (hm : m.length ≤ 10) (hi : i ≤ 10) :
  F24c3 g (n + 1) r l (l.length : Nat) (i : Nat) m = F24c3 g n r l (l.length : Nat) ((i + 1 : Nat) : Int) (m ++ [v]) := by
 rw [F24c3_eq, cdt (by omega), if_pos (by omega), if_pos (by omega), Int.toNat_natCast, ha, bnd hg, if_pos (show m.length + 1 ≤ lim by have : lim = 4294967296 := rfl; omega), wrap64_id (by omega) (by omega)]
 rfl
theorem stop24 {g : G13} {n : Nat} {r : List Val} {l : List Ex} {m : List Val} : F24c3 g (n + 1) r l (l.length : Nat) (l.length : Nat) m = some ((m, ()), ()) := by
 rw [F24c3_eq, cdf (by omega)]
theorem all1 {g : G13} {r : List Val} {a : Ex} {v : Val} (h : g (a, r, ()) = some ((v, ()), ())) : (F24 g).run [.v (.sl (.nm 2)), .v (.sl (.nm 0))] [.own 23 (.nm 0)] 4000000 ([a], r, ()) = some (([v], ()), ()) := by
 rw [show (F24 g).run [.v (.sl (.nm 2)), .v (.sl (.nm 0))] [.own 23 (.nm 0)] 4000000 ([a], r, ()) = _ from F24_run g _ _ _, show F24c1 g 4000000 [a] r = _ from F24c1_eq g 3999999 _ _]
 exact (step24 (n := 3999998) (i := 0) (m := []) (by simp) rfl h (by simp) (by omega)).trans (stop24 (n := 3999997) (l := [a]))
theorem all2 {g : G13} {r : List Val} {a b : Ex} {v u : Val} (h : g (a, r, ()) = some ((v, ()), ())) (h2 : g (b, r, ()) = some ((u, ()), ())) : (F24 g).run [.v (.sl (.nm 2)), .v (.sl (.nm 0))] [.own 23 (.nm 0)] 4000000 ([a, b], r, ()) = some (([v, u], ()), ()) := by
 rw [show (F24 g).run [.v (.sl (.nm 2)), .v (.sl (.nm 0))] [.own 23 (.nm 0)] 4000000 ([a, b], r, ()) = _ from F24_run g _ _ _, show F24c1 g 4000000 [a, b] r = _ from F24c1_eq g 3999999 _ _]
 exact ((step24 (n := 3999998) (l := [a, b]) (i := 0) (m := []) (by simp) rfl h (by simp) (by omega)).trans (step24 (n := 3999997) (l := [a, b]) (i := 1) (m := [v]) (by simp) rfl h2 (by simp) (by omega))).trans (stop24 (n := 3999996) (l := [a, b]))
theorem bin_run {op : Int} (h1 : 1 ≤ op) (h2 : op ≤ 6) {a b : Val} (ha : valid a = true) (hb : valid b = true) : F28.run [PK.v (Ty.int .i64), PK.v (Ty.nm 0), PK.v (Ty.nm 0)] [RK.v (Ty.nm 0)] 4000000 (op, a, b, ()) = some ((vtest op a b, ()), ()) := by
 rw [show F28.run [PK.v (Ty.int .i64), PK.v (Ty.nm 0), PK.v (Ty.nm 0)] [RK.v (Ty.nm 0)] 4000000 (op, a, b, ()) = _ from F28_run _ _ _ _, cdf (by omega), cdf (by omega), cdf (by omega), cdf (by omega), cdf (by omega), cdf (by omega), cdf (by omega), cdf (by omega), cdf (by omega),
  show F28c16 4000000 op a b zVal = _ from F28c16_eq 3999999 op a b zVal, bnd (ptest_run ha hb)]
theorem r13_at (x : HIn NN.ρ eP) : R13 x = r13 (99998 + 1 + 1) x := rfl
theorem null_run (s : Int) (r : List Val) : R13 (nodE 6 0 [colE s], r, ()) = some ((vbool (decide ((atV r s).kind = 0)), ()), ()) := by
 rw [r13_at, r13_succ, show (F13 (r13 (99998 + 1))).run [.v (.nm 2), .v (.sl (.nm 0))] [.v (.nm 0)] 4000000 (nodE 6 0 [colE s], r, ()) = _ from F13_run _ _ _ _, show (nodE 6 0 [colE s]).kind = 6 from rfl, show (nodE 6 0 [colE s]).args = [colE s] from rfl,
  cdf (by decide), cdf (by decide), cdf (by decide), cdf (by decide), cdf (by decide), bnd (all1 (col_run 99998 s r))]
 show (bif decide ((6 : Int) = 3) then _ else _) = _
 rw [cdf (by decide), cdf (by decide), cdt rfl, if_pos (by simp)]
 show ((F27.run [PK.v Ty.bool] [RK.v (Ty.nm 0)] 4000000 (decide ((atV r s).kind = 0), ())).bind _) = _
 rw [bnd (ebool_run _)]
theorem cmp_run {op s : Int} (h1 : 1 ≤ op) (h2 : op ≤ 6) {v : Val} {r : List Val} (hv : valid v = true) (hr : validL r = true) : R13 (nodE 5 op [colE s, litE v], r, ()) = some ((vtest op (atV r s) v, ()), ()) := by
 rw [r13_at, r13_succ, show (F13 (r13 (99998 + 1))).run [.v (.nm 2), .v (.sl (.nm 0))] [.v (.nm 0)] 4000000 (nodE 5 op [colE s, litE v], r, ()) = _ from F13_run _ _ _ _, show (nodE 5 op [colE s, litE v]).kind = 5 from rfl, show (nodE 5 op [colE s, litE v]).args = [colE s, litE v] from rfl, show (nodE 5 op [colE s, litE v]).op = op from rfl,
  cdf (by decide), cdf (by decide), cdf (by decide), cdf (by decide), cdf (by decide), bnd (all2 (col_run 99998 s r) (lit_run 99998 v r))]
 show (bif decide ((5 : Int) = 3) then _ else _) = _
 rw [cdf (by decide), cdf (by decide), cdf (by decide), cdt rfl, if_pos (by simp), if_pos (by simp)]
 show ((F28.run [PK.v (Ty.int .i64), PK.v (Ty.nm 0), PK.v (Ty.nm 0)] [RK.v (Ty.nm 0)] 4000000 (op, atV r s, v, ())).bind _) = _
 rw [bnd (bin_run h1 h2 (at_valid hr s) hv)]
theorem true_run {e : Ex} {r : List Val} {v : Val} (h : R13 (e, r, ()) = some ((v, ()), ())) : (F9 R13).run [PK.v (Ty.nm 2), PK.v (Ty.nm 0).sl] [RK.v Ty.bool] 4000000 (e, r, ()) = some ((isT v, ()), ()) := by
 rw [show (F9 R13).run [PK.v (Ty.nm 2), PK.v (Ty.nm 0).sl] [RK.v Ty.bool] 4000000 (e, r, ()) = _ from F9_run R13 _ _ _, bnd h, bnd (pisT_run _)]
def mt (p : Pred) (r : List Val) : Bool := bif decide (p.op = 20) then decide ((atV r p.column).kind = 0) else bif decide (p.op = 21) then !decide ((atV r p.column).kind = 0) else isT (vtest p.op (atV r p.column) p.value)
theorem test_out {op : Int} {a b : Val} (h : op < 1 ∨ 6 < op) : isT (vtest op a b) = false := by
 have hz : isT zVal = false := by decide +kernel
 unfold vtest
 by_cases h0 : a.kind = 0
 ·rw [cdt h0]; exact hz
 rw [cdf h0]
 cases decide (a.kind = b.kind) with
 | false => rw [Bool.not_false, ct]; exact hz
 | true =>
  rw [Bool.not_true, cf]
  by_cases h1 : op < 1
  ·rw [cdt h1]; exact hz
  rw [cdf h1, cdt (by omega)]
  exact hz
theorem f8_run (p : Pred) (r : List Val) : F8.run [PK.v (Ty.nm 1), PK.v (Ty.nm 0).sl] [RK.v Ty.bool] 4000000 (p, r, ()) = some ((mt p r, ()), ()) := by
 rw [show F8.run [PK.v (Ty.nm 1), PK.v (Ty.nm 0).sl] [RK.v Ty.bool] 4000000 (p, r, ()) = _ from F8_run _ _ _, bnd (rat_run _ _)]
 dsimp only
 rw [bnd (vtest_run _ _ _)]
 dsimp only
 rw [bnd (isT_run _)]
 unfold mt
 cases decide (p.op = 20) <;> cases decide (p.op = 21) <;> rfl
theorem f7_run {p : Pred} {r : List Val} (hv : valid p.value = true) (hr : validL r = true) : F7.run [PK.v (Ty.nm 1), PK.v (Ty.nm 0).sl] [RK.v Ty.bool] 4000000 (p, r, ()) = some ((mt p r, ()), ()) := by
 rw [show F7.run [PK.v (Ty.nm 1), PK.v (Ty.nm 0).sl] [RK.v Ty.bool] 4000000 (p, r, ()) = _ from F7_run _ _ _, bnd (pat_run _ _)]
 dsimp only
 rw [bnd (ptest_run (at_valid hr _) hv)]
 dsimp only
 rw [bnd (pisT_run _)]
 unfold mt
 by_cases h1 : p.op = 20
 ·rw [cdt h1, cdt h1]
 rw [cdf h1, cdf h1]
 by_cases h2 : p.op = 21
 ·rw [cdt h2, cdt h2]
 rw [cdf h2, cdf h2]
 by_cases h3 : 1 ≤ p.op
 ·rw [cdt h3]
  by_cases h4 : p.op ≤ 6
  ·rw [cdt h4]
  ·rw [cdf h4, test_out (.inr (by omega))]
 ·rw [cdf h3, test_out (.inl (by omega))]
theorem isT_vbool (b : Bool) : isT (vbool b) = b := by cases b <;> decide +kernel
theorem end_run {n : Nat} {r : List Val} {p : Pred} {e : Ex} {v : Val} {b : Bool} (h : R13 (e, r, ()) = some ((v, ()), ())) (hb : b = !decide (isT v = decide (p.op = 21))) : F3c14 (n + 1) r b p e = some ((true, ()), ()) := by
 rw [F3c14_eq, bnd (true_run h)]
 dsimp only
 rw [cdt hb]
theorem f3_run (p : Pred) (r : List Val) : F3.run [.v (.nm 1), .v (.sl (.nm 0))] [.v .bool] 4000000 (p, r, ()) = some ((true, ()), ()) := by
 rw [show F3.run [.v (.nm 1), .v (.sl (.nm 0))] [.v .bool] 4000000 (p, r, ()) = _ from F3_run _ _ _]
 by_cases h0 : (100 : Int) < (r.length : Int)
 ·rw [cdt h0]
 rw [cdf h0, bnd (row_run (by omega))]
 dsimp only
 cases hr : validL r with
 | false => rfl
 | true =>
 rw [Bool.not_true, cf, bnd (valid_run _)]
 dsimp only
 cases hv : valid p.value with
 | false => rfl
 | true =>
 rw [Bool.not_true, cf, show F3c3 4000000 r p = _ from F3c3_eq 3999999 r p, bnd (f7_run hv hr)]
 dsimp only
 rw [bnd (f8_run p r)]
 dsimp only
 rw [decide_eq_true rfl, Bool.not_true, cf]
 by_cases h1 : p.column < 0
 ·rw [cdt h1]
 rw [cdf h1]
 by_cases h2 : 200 ≤ p.column
 ·rw [cdt h2]
 rw [cdf h2, show F3c8 3999999 r (mt p r) p = _ from F3c8_eq 3999998 r (mt p r) p]
 by_cases h3 : p.op = 20
 ·rw [cdt h3]
  refine end_run (n := 3999997) (null_run p.column r) ?_
  rw [isT_vbool, decide_eq_false (show ¬ p.op = 21 by omega)]
  unfold mt
  rw [cdt h3]
  cases decide ((atV r p.column).kind = 0) <;> rfl
 rw [cdf h3]
 by_cases h4 : p.op = 21
 ·rw [cdt h4]
  refine end_run (n := 3999997) (null_run p.column r) ?_
  rw [isT_vbool, decide_eq_true h4]
  unfold mt
  rw [cdf h3, cdt h4]
  cases decide ((atV r p.column).kind = 0) <;> rfl
 rw [cdf h4]
 have hm : mt p r = isT (vtest p.op (atV r p.column) p.value) := by unfold mt; rw [cdf h3, cdf h4]
 by_cases h5 : p.op < 1
 ·rw [cdt h5, hm, test_out (.inl h5)]; rfl
 rw [cdf h5]
 by_cases h6 : 6 < p.op
 ·rw [cdt h6, hm, test_out (.inr h6)]; rfl
 rw [cdf h6]
 refine end_run (n := 3999997) (cmp_run (s := p.column) (by omega) (by omega) hv hr) ?_
 rw [decide_eq_false h4, hm]
 cases isT (vtest p.op (atV r p.column) p.value) <;> rfl
theorem law3 (x : HIn NN.ρ [.v (.nm 1), .v (.sl (.nm 0))]) (hm : ∀ k, measI k [.v (.nm 1), .v (.sl (.nm 0))] x ≤ 1048576) (ho : ∀ k, okI k [.v (.nm 1), .v (.sl (.nm 0))] x) :
  ∃ o, F3.run [.v (.nm 1), .v (.sl (.nm 0))] [.v .bool] 4000000 x = some ((true, ()), o) := ⟨(), f3_run x.1 x.2.1⟩
end Go.Proofs.Tryz
