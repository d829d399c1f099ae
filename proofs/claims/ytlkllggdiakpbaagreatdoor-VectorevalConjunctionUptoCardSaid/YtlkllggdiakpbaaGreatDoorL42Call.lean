/- Law 42: the reference's functions. -/
import Derived.Test.YtlkllggdiakpbaaGreatDoorL42Val
set_option linter.unusedVariables false
set_option linter.unusedSimpArgs false
namespace Go.Proofs.Tryz
open Go.Eng
theorem mapped_some {s : List Int} {c d : Int} (hs : s.length ≤ 4096) : ∃ t, F140.run [PK.v Ty.str, PK.v (Ty.int .u8), PK.v (Ty.int .i64)] [RK.v Ty.str] 4000000 (s, c, d, ()) = some ((t, ()), ()) ∧ t.length = s.length := by
 rw [F140_run, if_pos (by unfold lim; omega)]
 obtain ⟨r, e, t, rfl, ht⟩ := loop (fun n i x => F140c3 n c d i x) s.length 2 0 (fun i x => x.length = s.length) (fun r => ∃ t, r = ((t, ()), ()) ∧ t.length = s.length)
  (fun n x _ hx => ⟨_, by rw [F140c3_eq, cdf (by omega)], _, rfl, by rw [List.length_map, hx]⟩)
  (fun n i x hi hx => by
   have hi' : i < x.length := by omega
   have go : ∀ y : List Int, y.length = s.length → (∃ n' s', n ≤ n' ∧ F140c4 (n + 1) c d i y = F140c3 n' c d ((i + 1 : Nat) : Int) s' ∧ s'.length = s.length) := fun y hy => ⟨n, y, Nat.le_refl _, by rw [F140c4_eq, w1 (by omega)], hy⟩
   refine .inl ?_
   rw [F140c3_eq, cdt (by omega), gd hi', gd hi', gd hi', gd hi']
   cases decide (c ≤ x.getD (i : Int).toNat 0) with
   | true =>
    rw [ct]
    cases decide (x.getD (i : Int).toNat 0 < IntKind.u8.wrap (c + 26)) with
    | true => rw [ct]; exact go _ (by simpa using hx)
    | false => rw [cf]; exact go _ hx
   | false => rw [cf]; exact go _ hx) s.length 4000000 0 s (by omega) (by omega) (by omega) rfl
 exact ⟨t, e, ht⟩
noncomputable def mappedR (s : List Int) (c d : Int) : List Int := match F140.run [PK.v Ty.str, PK.v (Ty.int .u8), PK.v (Ty.int .i64)] [RK.v Ty.str] 4000000 (s, c, d, ()) with
 | some r => r.1.1
 | none => []
theorem mappedR_run {s : List Int} {c d : Int} (hs : s.length ≤ 4096) : F140.run [PK.v Ty.str, PK.v (Ty.int .u8), PK.v (Ty.int .i64)] [RK.v Ty.str] 4000000 (s, c, d, ()) = some ((mappedR s c d, ()), ()) ∧ (mappedR s c d).length = s.length := by
 obtain ⟨t, h, h2⟩ := mapped_some (c := c) (d := d) hs
 have : mappedR s c d = t := by unfold mappedR; rw [h]
 rw [h, this]
 exact ⟨rfl, h2⟩
def partB (a n : Int) (i : Nat) : Bool :=
 decide (a ≤ ((i + 1 : Nat) : Int)) && (decide (1 ≤ n) && ((decide (0 < a) && decide (IntKind.i64.wrap (((i + 1 : Nat) : Int) - a) < n)) || (decide (a ≤ 0) && (decide (-9223372036854775808 < a) && (decide (((i + 1 : Nat) : Int) < n) && decide (IntKind.i64.wrap (0 - a) < IntKind.i64.wrap (n - ((i + 1 : Nat) : Int))))))))
def partR (s : List Int) (a n : Int) : Nat → List Int → List Int
 | 0, out => out
 | d + 1, out => partR s a n d (bif partB a n (s.length - (d + 1)) then out ++ (s.drop (s.length - (d + 1))).take 1 else out)
theorem partR_len {s : List Int} {a n : Int} : ∀ (d : Nat) (out : List Int), (partR s a n d out).length ≤ out.length + d
 | 0, out => Nat.le_refl _
 | d + 1, out => by
  rw [partR]
  have := partR_len (s := s) (a := a) (n := n) d (bif partB a n (s.length - (d + 1)) then out ++ (s.drop (s.length - (d + 1))).take 1 else out)
  cases hb : partB a n (s.length - (d + 1)) with
  | true => rw [hb, ct, List.length_append, List.length_take] at this; rw [ct]; omega
  | false => rw [hb, cf] at this; rw [cf]; omega
def extB (g : Bool) (v out : Val) : Bool := !decide (v.kind = 0) && (decide (out.kind = 0) || ((g && decide (0 < vcmp v out)) || (!g && decide (vcmp v out < 0))))
def extL (g : Bool) : Val → List Val → Val
 | out, [] => out
 | out, v :: l => extL g (bif extB g v out then v else out) l
noncomputable def fixV (x : List Int) (l : List Val) : Val :=
 bif decide (x = nLength) then ⟨2, ((l.getD 0 zVal).text.length : Int), []⟩ else
 bif decide (x = nUpper) then ⟨3, 0, mappedR (l.getD 0 zVal).text 97 (-32)⟩ else
 bif decide (x = nLower) then ⟨3, 0, mappedR (l.getD 0 zVal).text 65 32⟩ else
 bif decide (x = nSubstr) then ⟨3, 0, partR (l.getD 0 zVal).text (l.getD 1 zVal).int (l.getD 2 zVal).int (l.getD 0 zVal).text.length []⟩ else
 bif decide (x = nAbs) then (bif decide ((l.getD 0 zVal).int = -9223372036854775808) then zVal else ⟨2, imax (l.getD 0 zVal).int (IntKind.i64.wrap (0 - (l.getD 0 zVal).int)), []⟩) else
 bif decide (x = nParity) then ⟨2, bits BinOp.and IntKind.i64 (l.getD 0 zVal).int 1, []⟩ else
 ⟨1, (bif decide ((l.getD 1 zVal).text.length ≤ (l.getD 0 zVal).text.length) && decide ((l.getD 0 zVal).text.take (l.getD 1 zVal).text.length = (l.getD 1 zVal).text) then 1 else 0), []⟩
theorem sig_cases {x : List Int} (h : (sigT x).2.2 = true) : x = nLength ∨ x = nUpper ∨ x = nLower ∨ x = nSubstr ∨ x = nAbs ∨ x = nParity ∨ x = nStarts := by
 unfold sigT at h
 by_cases h1 : x = nLength; · exact .inl h1
 by_cases h2 : x = nUpper; · exact .inr (.inl h2)
 by_cases h3 : x = nLower; · exact .inr (.inr (.inl h3))
 by_cases h4 : x = nSubstr; · exact .inr (.inr (.inr (.inl h4)))
 by_cases h5 : x = nAbs; · exact .inr (.inr (.inr (.inr (.inl h5))))
 by_cases h6 : x = nParity; · exact .inr (.inr (.inr (.inr (.inr (.inl h6)))))
 by_cases h7 : x = nStarts; · exact .inr (.inr (.inr (.inr (.inr (.inr h7)))))
 rw [decide_eq_false h1, decide_eq_false h2, decide_eq_false h3, decide_eq_false h4, decide_eq_false h5, decide_eq_false h6, decide_eq_false h7] at h
 cases h
theorem val_lit (a : Val) (k i : Int) (t : List Int) : (decide (a.kind = k) && (decide (a.int = i) && (decide (a.text = t) && true))) = decide (a = ⟨k, i, t⟩) := by
 cases a
 simp only [Bool.and_true]
 rw [← Bool.decide_and, ← Bool.decide_and, decide_eq_decide]
 simp
def firstN : List Val → Val
 | [] => zVal
 | v :: l => bif !decide (v.kind = 0) then v else firstN l
def kindsOK : List Val → List Int → Bool
 | v :: l, k :: q => decide (v.kind = k) && kindsOK l q
 | _, _ => true
noncomputable def callV (x : List Int) (l : List Val) : Val :=
 bif genT x l.length then
  bif decide (x = nNullif) then (bif decide (vtest 1 (l.getD 0 zVal) (l.getD 1 zVal) = vbool true) then zVal else l.getD 0 zVal) else
  bif decide (x = nLeast) then extL false zVal l else bif decide (x = nGreatest) then extL true zVal l else firstN l
 else bif !(sigT x).2.2 then zVal else bif !decide (((sigT x).1.length : Int) = l.length) then zVal else bif kindsOK l (sigT x).1 then fixV x l else zVal
end Go.Proofs.Tryz
