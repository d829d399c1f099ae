/- Law 42: VectorevalHash. -/
import Derived.Test.YtlkllggdiakpbaaGreatDoorL42Arg
import Derived.Test.YtlkllggdiakpbaaGreatDoorL42Hash2
import Derived.Test.YtlkllggdiakpbaaGreatDoorL42Fn5
set_option linter.unusedVariables false
set_option linter.unusedSimpArgs false
namespace Go.Proofs.Tryz
open Go.Eng
theorem one_sel {L : Nat} {i : Int} (h0 : 0 ≤ i) (h1 : i < (L : Int)) : Selc L [i] := ⟨by simp, fun j hj => by rw [List.mem_singleton] at hj; subst hj; exact ⟨h0, h1⟩⟩
theorem f5_last {s i j : Int} {a b : Batch} (ha : Sc (tabl a) a.len.toNat a) (hb : Sc (tabl b) b.len.toNat b) (ca : (tabl a).length ≤ 1000) (cb : (tabl b).length ≤ 1000) {n : Nat} : F5c12 (n + 2) s i j a b = some ((true, ()), ()) := by
 have hla : (cols (tabl a)).length = (tabl a).length := List.length_map ..
 rw [F5c12_eq, ha.cols, hb.cols, bnd (per_run ha.tab hb.tab ca cb i j)]
 dsimp only
 rw [bnd (rer_run ha.tab hb.tab ca cb i j)]
 dsimp only
 rw [decide_eq_true rfl, Bool.not_true, cf]
 cases he : eqr (tabl a) (tabl b) a.len.toNat b.len.toNat i j with
 | false => rw [Bool.not_false, ct]
 | true =>
  rw [Bool.not_true, cf]
  by_cases h0 : (tabl a).length = 0
  ·rw [cdt (by omega)]
  ·rw [cdf (by omega), F5c17_eq, ha.cols, hb.cols]
   unfold eqr at he
   simp only [Bool.and_eq_true, Bool.or_eq_true, decide_eq_true_eq] at he
   obtain ⟨e1, e2, e3, e4⟩ := he
   rcases e4 with e4 | ⟨e4, e5, e6⟩
   ·exact absurd e4 h0
   ·rw [bnd (phash_run ha.tab ca (one_sel e2 e4) s)]
    dsimp only
    rw [bnd (phash_run hb.tab cb (one_sel e3 e5) s)]
    dsimp only
    have h1 : hashes s (tabl a) [i] = [hval s (rowOf (tabl a) i.toNat)] := rfl
    have h2 : hashes s (tabl b) [j] = [hval s (rowOf (tabl a) i.toNat)] := by rw [e6]; rfl
    rw [h1, h2]
    generalize hval s (rowOf (tabl a) i.toNat) = z
    show (bif decide (z = z) then some ((true, ()), ()) else some ((false, ()), ())) = some ((true, ()), ())
    rw [decide_eq_true rfl, ct]
theorem f5_body {s i j : Int} {a b : Batch} (hA : BOk a) (ha : Sc (tabl a) a.len.toNat a) (hb : Sc (tabl b) b.len.toNat b) (ca : (tabl a).length ≤ 1000) (cb : (tabl b).length ≤ 1000) : F5c3 4000000 s i j a b = some ((true, ()), ()) := by
 have hs := ha.sel
 have h0 := F5c3_eq 3999999 s i j a b
 rw [ha.cols, bnd (rsel_run hA)] at h0
 dsimp only at h0
 rw [bnd (phash_run ha.tab ca hs s)] at h0
 dsimp only at h0
 rw [bnd (rhash_run ha.tab ca hs s)] at h0
 dsimp only at h0
 rw [decide_eq_true rfl, Bool.not_true, cf] at h0
 have hl := hashes_len s (tabl a) (selOf a)
 have hf := hs.few
 obtain ⟨r, e1, rfl⟩ := loop (fun n k (x : Unit) => F5c8 n s i j k a b (hashes s (tabl a) (selOf a)) (hashes s (tabl a) (selOf a))) (selOf a).length 3 0 (fun k _ => True) (fun r => r = ((true, ()), ()))
  (fun n x _ hx => ⟨_, by rw [show n + 3 = (n + 2) + 1 from rfl, F5c8_eq, cdf (by omega)]; exact f5_last ha hb ca cb, rfl⟩)
  (fun n k x hk hx => .inl ⟨n + 1, (), by omega, by
   rw [show n + 3 = (n + 1 + 1) + 1 from rfl, F5c8_eq, cdt (by omega), cdt (by omega), F5c10_eq, gd (by omega), gd (by omega), decide_eq_true rfl, Bool.not_true, cf, w1 (by omega)], trivial⟩) (selOf a).length 3999999 0 () (by omega) (by omega) (by omega) trivial
 exact h0.trans e1
theorem f5_run {s i j : Int} {a b : Batch} {k : Nat} (hca : ∀ v ∈ a.columns, v.nulls.length ≤ 1100000) (hsa : a.sel.length ≤ 1100000) (hcb : ∀ v ∈ b.columns, v.nulls.length ≤ 1100000) (hsb : b.sel.length ≤ 1100000) (hoa : okK NN (k + 2) 2 a) (hob : okK NN (k + 2) 2 b) :
  F5.run [PK.v (Ty.int IntKind.u64), PK.v (Ty.nm 2), PK.v (Ty.nm 2), PK.v (Ty.int .i64), PK.v (Ty.int .i64)] [RK.v Ty.bool] 4000000 (s, a, b, i, j, ()) = some ((true, ()), ()) := by
 obtain ⟨c, h1, h2⟩ := small_run hca hsa
 obtain ⟨d, h3, h4⟩ := small_run hcb hsb
 rw [F5_run, bnd h1]
 dsimp only
 cases c with
 | false => rw [Bool.not_false, ct]
 | true =>
  rw [Bool.not_true, cf, bnd h3]
  dsimp only
  cases d with
  | false => rw [Bool.not_false, ct]
  | true =>
   rw [Bool.not_true, cf]
   obtain ⟨sa, ca⟩ := sc_of (h2 rfl) hoa
   obtain ⟨sb, cb⟩ := sc_of (h4 rfl) hob
   exact f5_body (h2 rfl) sa sb ca cb
theorem law5 (x : HIn NN.ρ [PK.v (Ty.int IntKind.u64), PK.v (Ty.nm 2), PK.v (Ty.nm 2), PK.v (Ty.int .i64), PK.v (Ty.int .i64)]) (hm : ∀ k, measI k [PK.v (Ty.int IntKind.u64), PK.v (Ty.nm 2), PK.v (Ty.nm 2), PK.v (Ty.int .i64), PK.v (Ty.int .i64)] x ≤ 1048576) (ho : ∀ k, okI k [PK.v (Ty.int IntKind.u64), PK.v (Ty.nm 2), PK.v (Ty.nm 2), PK.v (Ty.int .i64), PK.v (Ty.int .i64)] x) :
  ∃ o, F5.run [PK.v (Ty.int IntKind.u64), PK.v (Ty.nm 2), PK.v (Ty.nm 2), PK.v (Ty.int .i64), PK.v (Ty.int .i64)] [.v .bool] 4000000 x = some ((true, ()), o) := by
 obtain ⟨s, a, b, i, j, u⟩ := x
 have h0 : ∀ k, 1 + (measK NN k 2 a + (measK NN k 2 b + (1 + (1 + 0)))) ≤ 1048576 := fun k => hm k
 have ha : measK NN 2 2 a ≤ 1048576 := by have := h0 2; omega
 have hb : measK NN 2 2 b ≤ 1048576 := by have := h0 2; omega
 have la := batch_len (k := 0) (b := a) (B := 1048576) ha
 have lb := batch_len (k := 0) (b := b) (B := 1048576) hb
 exact ⟨(), f5_run (k := 0) (fun v hv => by have := la.1 v hv; omega) (by have := la.2; omega) (fun v hv => by have := lb.1 v hv; omega) (by have := lb.2; omega) (ho 2).2.1 (ho 2).2.2.1⟩
end Go.Proofs.Tryz
