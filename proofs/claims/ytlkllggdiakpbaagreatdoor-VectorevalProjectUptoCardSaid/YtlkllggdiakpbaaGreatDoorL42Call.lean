/- Law 42: the reference's functions. -/
import Derived.Test.YtlkllggdiakpbaaGreatDoorL42Val
set_option linter.unusedVariables false
set_option linter.unusedSimpArgs false
namespace Go.Proofs.Tryz
open Go.Eng
theorem mapped_some {s : List Int} {c d : Int} (hs : s.length ≤ 4096) : ∃ t, F140.run [PK.v Ty.str, PK.v (Ty.int .u8), PK.v (Ty.int .i64)] [RK.v Ty.str] 4000000 (s, c, d, ()) = some ((t, ()), ()) ∧ t.length = s.length := by
 rw [F140_run, if_pos (by unfold lim; omega)]
 obtain ⟨r, e, t, rfl, ht⟩ := loop (fun n i x => F140c3 n c d i x) s.length 2 0 (fun i x => x.length = s.length) (fun r => ∃ t, r = ((t, ()), ()) ∧ t.length = s.length)
  (fun n x _ hx => ⟨_, by rw [F140c3_eq, cdf (by omega)], _, rfl, by rw [List.length_map, hx]⟩)
  (fun n i x hi hx => by
   have hi' : i < x.length := by omega
   have go : ∀ y : List Int, y.length = s.length → (∃ n' s', n ≤ n' ∧ F140c4 (n + 1) c d i y = F140c3 n' c d ((i + 1 : Nat) : Int) s' ∧ s'.length = s.length) := fun y hy => ⟨n, y, Nat.le_refl _, by rw [F140c4_eq, w1 (by omega)], hy⟩
   refine .inl ?_
   rw [F140c3_eq, cdt (by omega), gd hi', gd hi', gd hi', gd hi']
   cases decide (c ≤ x.getD (i : Int).toNat 0) with
   | true =>
    rw [ct]
    cases decide (x.getD (i : Int).toNat 0 < IntKind.u8.wrap (c + 26)) with
    | true => rw [ct]; exact go _ (by simpa using hx)
    | false => rw [cf]; exact go _ hx
   | false => rw [cf]; exact go _ hx) s.length 4000000 0 s (by omega) (by omega) (by omega) rfl
 exact ⟨t, e, ht⟩
noncomputable def mappedR (s : List Int) (c d : Int) : List Int := match F140.run [PK.v Ty.str, PK.v (Ty.int .u8), PK.v (Ty.int .i64)] [RK.v Ty.str] 4000000 (s, c, d, ()) with
 | some r => r.1.1
 | none => []
theorem mappedR_run {s : List Int} {c d : Int} (hs : s.length ≤ 4096) : F140.run [PK.v Ty.str, PK.v (Ty.int .u8), PK.v (Ty.int .i64)] [RK.v Ty.str] 4000000 (s, c, d, ()) = some ((mappedR s c d, ()), ()) ∧ (mappedR s c d).length = s.length := by
 obtain ⟨t, h, h2⟩ := mapped_some (c := c) (d := d) hs
 have : mappedR s c d = t := by unfold mappedR; rw [h]
 rw [h, this]
 exact ⟨rfl, h2⟩
theorem gd3 {α : Type} {i L : Nat} (h : i < L) (a b c d : α) : (if (0 : Int) ≤ (i : Int) then if (i : Int) ≤ ((i + 1 : Nat) : Int) then if ((i + 1 : Nat) : Int) ≤ (L : Int) then a else b else c else d) = a := by
 rw [if_pos (by omega), if_pos (by omega), if_pos (by omega)]
def partB (a n : Int) (i : Nat) : Bool :=
 decide (a ≤ ((i + 1 : Nat) : Int)) && (decide (1 ≤ n) && ((decide (0 < a) && decide (IntKind.i64.wrap (((i + 1 : Nat) : Int) - a) < n)) || (decide (a ≤ 0) && (decide (-9223372036854775808 < a) && (decide (((i + 1 : Nat) : Int) < n) && decide (IntKind.i64.wrap (0 - a) < IntKind.i64.wrap (n - ((i + 1 : Nat) : Int))))))))
def partR (s : List Int) (a n : Int) : Nat → List Int → List Int
 | 0, out => out
 | d + 1, out => partR s a n d (bif partB a n (s.length - (d + 1)) then out ++ (s.drop (s.length - (d + 1))).take 1 else out)
theorem partR_run {s : List Int} {a n : Int} (hs : s.length ≤ 4096) : F141.run [PK.v Ty.str, PK.v (Ty.int .i64), PK.v (Ty.int .i64)] [RK.v Ty.str] 4000000 (s, a, n, ()) = some ((partR s a n s.length [], ()), ()) := by
 rw [F141_run]
 obtain ⟨r, e, rfl⟩ := loop (fun k i x => F141c3 k s a n x i) s.length 2 0 (fun i x => x.length ≤ i ∧ partR s a n (s.length - i) x = partR s a n s.length []) (fun r => r = ((partR s a n s.length [], ()), ()))
  (fun k x _ hx => ⟨((x, ()), ()), by rw [F141c3_eq, cdf (by omega)], by rw [← hx.2, Nat.sub_self]; rfl⟩)
  (fun k i x hi hx => by
   obtain ⟨h1, h2⟩ := hx
   obtain ⟨d, hd⟩ : ∃ d, s.length - i = d + 1 := ⟨s.length - i - 1, by omega⟩
   rw [hd, partR, show s.length - (d + 1) = i from by omega] at h2
   have seg : (s.take (i + 1)).drop i = (s.drop i).take 1 := by rw [List.drop_take, show i + 1 - i = 1 from by omega]
   have slen : ((s.drop i).take 1).length = 1 := by rw [List.length_take, List.length_drop]; omega
   have key : F141c3 (k + 2) s a n x i = F141c4 (k + 1) s a n (bif partB a n i then x ++ (s.drop i).take 1 else x) i := by
    rw [F141c3_eq, cdt (by omega), w1 (by omega), gd3 hi, Int.toNat_natCast, Int.toNat_natCast, seg, slen, if_pos (by unfold lim; omega)]
    unfold partB
    cases decide (a ≤ ((i + 1 : Nat) : Int)) with
    | false => rfl
    | true =>
     cases decide (1 ≤ n) with
     | false => rfl
     | true =>
      cases decide (0 < a) with
      | true =>
       cases decide (IntKind.i64.wrap (((i + 1 : Nat) : Int) - a) < n) with
       | true => rfl
       | false => cases decide (a ≤ 0) <;> cases decide (-9223372036854775808 < a) <;> cases decide (((i + 1 : Nat) : Int) < n) <;> cases decide (IntKind.i64.wrap (0 - a) < IntKind.i64.wrap (n - ((i + 1 : Nat) : Int))) <;> rfl
      | false => cases decide (a ≤ 0) <;> cases decide (-9223372036854775808 < a) <;> cases decide (((i + 1 : Nat) : Int) < n) <;> cases decide (IntKind.i64.wrap (0 - a) < IntKind.i64.wrap (n - ((i + 1 : Nat) : Int))) <;> rfl
   refine .inl ⟨k, _, Nat.le_refl _, by rw [key, F141c4_eq, w1 (by omega)], ?_, ?_⟩
   ·cases partB a n i with
    | true => rw [ct, List.length_append, slen]; omega
    | false => rw [cf]; omega
   ·rw [show s.length - (i + 1) = d from by omega]; exact h2) s.length 4000000 0 [] (by omega) (by omega) (by omega) ⟨by simp, rfl⟩
 exact e
theorem partR_len {s : List Int} {a n : Int} : ∀ (d : Nat) (out : List Int), (partR s a n d out).length ≤ out.length + d
 | 0, out => Nat.le_refl _
 | d + 1, out => by
  rw [partR]
  have := partR_len (s := s) (a := a) (n := n) d (bif partB a n (s.length - (d + 1)) then out ++ (s.drop (s.length - (d + 1))).take 1 else out)
  cases hb : partB a n (s.length - (d + 1)) with
  | true => rw [hb, ct, List.length_append, List.length_take] at this; rw [ct]; omega
  | false => rw [hb, cf] at this; rw [cf]; omega
def extB (g : Bool) (v out : Val) : Bool := !decide (v.kind = 0) && (decide (out.kind = 0) || ((g && decide (0 < vcmp v out)) || (!g && decide (vcmp v out < 0))))
def extL (g : Bool) : Val → List Val → Val
 | out, [] => out
 | out, v :: l => extL g (bif extB g v out then v else out) l
theorem extL_run {l : List Val} {g : Bool} (hl : l.length ≤ 1000000) : F113.run [PK.v (Ty.nm 0).sl, PK.v Ty.bool] [RK.v (Ty.nm 0)] 4000000 (l, g, ()) = some ((extL g zVal l, ()), ()) := by
 rw [F113_run]
 obtain ⟨r, e, rfl⟩ := loop (fun k i x => F113c3 k l g i zVal x) l.length 2 0 (fun i x => extL g x (l.drop i) = extL g zVal l) (fun r => r = ((extL g zVal l, ()), ()))
  (fun k x _ hx => ⟨((x, ()), ()), by rw [F113c3_eq, cdf (by omega)], by rw [← hx, List.drop_length]; rfl⟩)
  (fun k i x hi hx => by
   rw [drop_consV hi, extL] at hx
   refine .inl ⟨k, bif extB g (l.getD i zVal) x then l.getD i zVal else x, Nat.le_refl _, ?_, hx⟩
   rw [F113c3_eq, cdt (by omega), gd hi, Int.toNat_natCast, bnd (vcmp_run _ _), gd hi]
   simp only [gd hi]
   simp only [F113c4_eq, w1 (show i < 4611686018427387904 by omega)]
   unfold extB
   cases decide ((l.getD i zVal).kind = 0) <;> cases decide (x.kind = 0) <;> cases g <;> cases decide (0 < vcmp (l.getD i zVal) x) <;> cases decide (vcmp (l.getD i zVal) x < 0) <;> rfl) l.length 4000000 0 zVal (by omega) (by omega) (by omega) rfl
 exact e
noncomputable def fixV (x : List Int) (l : List Val) : Val :=
 bif decide (x = nLength) then ⟨2, ((l.getD 0 zVal).text.length : Int), []⟩ else
 bif decide (x = nUpper) then ⟨3, 0, mappedR (l.getD 0 zVal).text 97 (-32)⟩ else
 bif decide (x = nLower) then ⟨3, 0, mappedR (l.getD 0 zVal).text 65 32⟩ else
 bif decide (x = nSubstr) then ⟨3, 0, partR (l.getD 0 zVal).text (l.getD 1 zVal).int (l.getD 2 zVal).int (l.getD 0 zVal).text.length []⟩ else
 bif decide (x = nAbs) then (bif decide ((l.getD 0 zVal).int = -9223372036854775808) then zVal else ⟨2, imax (l.getD 0 zVal).int (IntKind.i64.wrap (0 - (l.getD 0 zVal).int)), []⟩) else
 bif decide (x = nParity) then ⟨2, bits BinOp.and IntKind.i64 (l.getD 0 zVal).int 1, []⟩ else
 ⟨1, (bif decide ((l.getD 1 zVal).text.length ≤ (l.getD 0 zVal).text.length) && decide ((l.getD 0 zVal).text.take (l.getD 1 zVal).text.length = (l.getD 1 zVal).text) then 1 else 0), []⟩
theorem sig_cases {x : List Int} (h : (sigT x).2.2 = true) : x = nLength ∨ x = nUpper ∨ x = nLower ∨ x = nSubstr ∨ x = nAbs ∨ x = nParity ∨ x = nStarts := by
 unfold sigT at h
 by_cases h1 : x = nLength; · exact .inl h1
 by_cases h2 : x = nUpper; · exact .inr (.inl h2)
 by_cases h3 : x = nLower; · exact .inr (.inr (.inl h3))
 by_cases h4 : x = nSubstr; · exact .inr (.inr (.inr (.inl h4)))
 by_cases h5 : x = nAbs; · exact .inr (.inr (.inr (.inr (.inl h5))))
 by_cases h6 : x = nParity; · exact .inr (.inr (.inr (.inr (.inr (.inl h6)))))
 by_cases h7 : x = nStarts; · exact .inr (.inr (.inr (.inr (.inr (.inr h7)))))
 rw [decide_eq_false h1, decide_eq_false h2, decide_eq_false h3, decide_eq_false h4, decide_eq_false h5, decide_eq_false h6, decide_eq_false h7] at h
 cases h
theorem fixV_run {x : List Int} {l : List Val} (hx : (sigT x).2.2 = true) (hl : l.length = (sigT x).1.length) (ht : ∀ v ∈ l, v.text.length ≤ 4096) : F115.run [PK.v Ty.str, PK.v (Ty.nm 0).sl] [RK.v (Ty.nm 0)] 4000000 (x, l, ()) = some ((fixV x l, ()), ()) := by
 have t0 : Int.toNat 0 = 0 := rfl
 have t1 : Int.toNat 1 = 1 := rfl
 have t2 : Int.toNat 2 = 2 := rfl
 have h20 : ∀ i, F115c20 4000000 i zVal = some ((⟨1, i, []⟩, ()), ()) := fun i => F115c20_eq 3999999 i zVal
 rw [show F115.run [PK.v Ty.str, PK.v (Ty.nm 0).sl] [RK.v (Ty.nm 0)] 4000000 (x, l, ()) = _ from F115_run _ _ _]
 rcases sig_cases hx with rfl | rfl | rfl | rfl | rfl | rfl | rfl
 ·have hl : l.length = 1 := hl
  rw [cdt (by rfl), if_pos (by omega)]; rfl
 ·have hl : l.length = 1 := hl
  rw [cdf (by decide), cdt (by rfl), if_pos (by omega), t0, bnd (mappedR_run (ht _ (getD_mem (by omega) zVal))).1]; rfl
 ·have hl : l.length = 1 := hl
  rw [cdf (by decide), cdf (by decide), cdt (by rfl), if_pos (by omega), t0, bnd (mappedR_run (ht _ (getD_mem (by omega) zVal))).1]; rfl
 ·have hl : l.length = 3 := hl
  rw [cdf (by decide), cdf (by decide), cdf (by decide), cdt (by rfl), if_pos (by omega), if_pos (by omega), if_pos (by omega), t0, t1, t2, bnd (partR_run (ht _ (getD_mem (by omega) zVal)))]; rfl
 ·have hl : l.length = 1 := hl
  rw [cdf (by decide), cdf (by decide), cdf (by decide), cdf (by decide), cdt (by rfl), if_pos (by omega), if_pos (by omega), if_pos (by omega), t0]
  rw [show fixV nAbs l = (bif decide ((l.getD 0 zVal).int = -9223372036854775808) then zVal else ⟨2, imax (l.getD 0 zVal).int (IntKind.i64.wrap (0 - (l.getD 0 zVal).int)), []⟩) from rfl]
  cases decide ((l.getD 0 zVal).int = -9223372036854775808) <;> rfl
 ·have hl : l.length = 1 := hl
  rw [cdf (by decide), cdf (by decide), cdf (by decide), cdf (by decide), cdf (by decide), cdt (by rfl), if_pos (by omega)]; rfl
 ·have hl : l.length = 2 := hl
  rw [cdf (by decide), cdf (by decide), cdf (by decide), cdf (by decide), cdf (by decide), cdf (by decide), if_pos (by omega), if_pos (by omega), t0, t1, h20, h20, List.drop_zero, Int.toNat_natCast]
  rw [show fixV nStarts l = (⟨1, (bif decide ((l.getD 1 zVal).text.length ≤ (l.getD 0 zVal).text.length) && decide ((l.getD 0 zVal).text.take (l.getD 1 zVal).text.length = (l.getD 1 zVal).text) then 1 else 0), []⟩ : Val) from rfl]
  by_cases h : (l.getD 1 zVal).text.length ≤ (l.getD 0 zVal).text.length
  ·rw [cdt (by omega), if_pos (by omega), decide_eq_true h]
   cases decide ((l.getD 0 zVal).text.take (l.getD 1 zVal).text.length = (l.getD 1 zVal).text) <;> rfl
  ·rw [cdf (by omega), decide_eq_false h]; rfl
theorem val_lit (a : Val) (k i : Int) (t : List Int) : (decide (a.kind = k) && (decide (a.int = i) && (decide (a.text = t) && true))) = decide (a = ⟨k, i, t⟩) := by
 cases a
 simp only [Bool.and_true]
 rw [← Bool.decide_and, ← Bool.decide_and, decide_eq_decide]
 simp
def firstN : List Val → Val
 | [] => zVal
 | v :: l => bif !decide (v.kind = 0) then v else firstN l
def kindsOK : List Val → List Int → Bool
 | v :: l, k :: q => decide (v.kind = k) && kindsOK l q
 | _, _ => true
noncomputable def callV (x : List Int) (l : List Val) : Val :=
 bif genT x l.length then
  bif decide (x = nNullif) then (bif decide (vtest 1 (l.getD 0 zVal) (l.getD 1 zVal) = vbool true) then zVal else l.getD 0 zVal) else
  bif decide (x = nLeast) then extL false zVal l else bif decide (x = nGreatest) then extL true zVal l else firstN l
 else bif !(sigT x).2.2 then zVal else bif !decide (((sigT x).1.length : Int) = l.length) then zVal else bif kindsOK l (sigT x).1 then fixV x l else zVal
theorem callV_run {x : List Int} {l : List Val} (hl : l.length ≤ 1000000) (ht : ∀ v ∈ l, v.text.length ≤ 4096) : F72.run [PK.v Ty.str, PK.v (Ty.nm 0).sl] [RK.v (Ty.nm 0)] 4000000 (x, l, ()) = some ((callV x l, ()), ()) := by
 have t0 : Int.toNat 0 = 0 := rfl
 have t1 : Int.toNat 1 = 1 := rfl
 rw [show F72.run [PK.v Ty.str, PK.v (Ty.nm 0).sl] [RK.v (Ty.nm 0)] 4000000 (x, l, ()) = _ from F72_run _ _ _, bnd (gen_run x l.length)]
 unfold callV
 cases hg : genT x l.length with
 | true =>
  simp only []
  rw [ct, ct, show ([110, 117, 108, 108, 105, 102] : List Int) = nNullif from rfl, show ([108, 101, 97, 115, 116] : List Int) = nLeast from rfl, show ([103, 114, 101, 97, 116, 101, 115, 116] : List Int) = nGreatest from rfl]
  by_cases hn : x = nNullif
  ·have h2 : l.length = 2 := by
    unfold genT at hg
    rw [decide_eq_true hn, hn] at hg
    simp only [Bool.true_and, Bool.or_eq_true, decide_eq_true_eq] at hg
    rcases hg with hg | hg
    ·omega
    ·rw [show (decide (nNullif = nCoalesce) || decide (nNullif = nLeast) || decide (nNullif = nGreatest)) = false by decide] at hg
     cases hg
   rw [cdt hn, cdt hn, if_pos (by omega), if_pos (by omega), if_pos (by omega), t0, t1, bnd (vtest_run _ _ _)]
   simp only [val_lit]
   rw [show (⟨1, 1, []⟩ : Val) = vbool true from rfl]
   cases decide (vtest 1 (l.getD 0 zVal) (l.getD 1 zVal) = vbool true) <;> rfl
  ·rw [cdf hn, cdf hn, bnd (extL_run hl), bnd (extL_run hl)]
   by_cases h1 : x = nLeast
   ·rw [cdt h1, cdt h1]
   ·rw [cdf h1, cdf h1]
    by_cases h2 : x = nGreatest
    ·rw [cdt h2, cdt h2]
    ·rw [cdf h2, cdf h2]
     obtain ⟨r, e, rfl⟩ := loop (fun k i (_ : Unit) => F72c12 k l i zVal) l.length 1 0 (fun i _ => firstN (l.drop i) = firstN l) (fun r => r = ((firstN l, ()), ()))
      (fun k _ _ hx => ⟨((zVal, ()), ()), by rw [F72c12_eq, cdf (by omega)], by rw [← hx, List.drop_length]; rfl⟩)
      (fun k i _ hi hx => by
       rw [drop_consV hi, firstN] at hx
       rw [F72c12_eq, cdt (by omega), gd hi, gd hi, Int.toNat_natCast, w1 (by omega)]
       cases h0 : decide ((l.getD i zVal).kind = 0) with
       | true => rw [h0] at hx; exact .inl ⟨k, (), Nat.le_refl _, rfl, hx⟩
       | false => rw [h0] at hx; exact .inr ⟨_, rfl, by rw [← hx]; rfl⟩) l.length 4000000 0 () (by omega) (by omega) (by omega) (by rw [List.drop_zero])
     exact e
 | false =>
  simp only []
  rw [cf, cf, bnd (sig_run x)]
  simp only []
  cases hs : (sigT x).2.2 with
  | false => rfl
  | true =>
   rw [Bool.not_true, cf, cf]
   by_cases h : ((sigT x).1.length : Int) = l.length
   ·rw [decide_eq_true h, Bool.not_true, cf, cf, show F72c20 4000000 x l zVal (sigT x).1 = _ from F72c20_eq 3999999 x l zVal (sigT x).1]
    have h3 := sig_len x
    obtain ⟨r, e, rfl⟩ := loop (fun k i (_ : Unit) => F72c21 k x l i zVal (sigT x).1) l.length 1 0 (fun i _ => kindsOK (l.drop i) ((sigT x).1.drop i) = kindsOK l (sigT x).1) (fun r => r = ((bif kindsOK l (sigT x).1 then fixV x l else zVal, ()), ()))
     (fun k _ _ hx => by
      rw [List.drop_length] at hx
      refine ⟨_, by rw [F72c21_eq, cdf (by omega), bnd (fixV_run hs (by omega) ht)], ?_⟩
      rw [← hx]; rfl)
     (fun k i _ hi hx => by
      have hi' : i < (sigT x).1.length := by omega
      rw [drop_consV hi, drop_cons hi', kindsOK] at hx
      rw [F72c21_eq, cdt (by omega), gd hi, gd hi', Int.toNat_natCast, w1 (by omega)]
      cases h0 : decide ((l.getD i zVal).kind = (sigT x).1.getD i 0) with
      | true => rw [h0] at hx; exact .inl ⟨k, (), Nat.le_refl _, rfl, hx⟩
      | false => rw [h0] at hx; exact .inr ⟨_, rfl, by rw [← hx]; rfl⟩) l.length 3999999 0 () (by omega) (by omega) (by omega) rfl
    exact e
   ·rw [decide_eq_false h]; rfl
end Go.Proofs.Tryz
