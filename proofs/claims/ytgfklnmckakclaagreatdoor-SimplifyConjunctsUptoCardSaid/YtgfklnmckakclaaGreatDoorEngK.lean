/- The engine, part K: moves, fields, elements, loads, cuts. -/
import Derived.Test.YtgfklnmckakclaaGreatDoorEngJ
set_option linter.unusedVariables false
set_option linter.unusedSimpArgs false
namespace Go.Eng
variable {N : Names} {P : Program} {τ : TypeId → Option TI} {β : Type}

abbrev KK (N : Names) (β : Type) := Slot N → List (Nat × Blk N) → Option β

/-- What a single operation does, whatever the world. -/
def Runs (P : Program) (σ : St N) (s : Operand → Value → Prop) : Prop := True

/-- The run of an instruction leaves the old world but for new blocks, and its value is told by the slot. -/
def Does (P : Program) (σ : St N) (run : Act → Sem Value) (s : Slot N) (ad : List (Nat × Blk N)) : Prop :=
  ∀ io w0 E a w, RelE io w0 σ E a w → ∃ v w' E', (run a).run P w = .ok v w' ∧ RelE io w0 { σ with own := insAll ad σ.own } E' a w' ∧ SlotRel w' (insAll ad σ.own) E' s v

theorem Does.pure {σ : St N} {run : Act → Sem Value} {r : RV N} (h : ∀ io w0 E a w, RelE io w0 σ E a w → ∃ v, (run a).run P w = .ok v w ∧ RVRel w σ.own E r v) : Does P σ run (.one r) [] :=
  fun io w0 E a w hr => let ⟨v, h1, h2⟩ := h io w0 E a w hr; ⟨v, w, E, h1, hr, h2⟩

def evMove (τ : TypeId → Option TI) (own : List (Nat × Blk N)) (ty : TypeId) (dst : Option Nat) (r : RV N) (k : KK N β) : Option β :=
  match r with
  | .nil => match τ ty with
    | some ⟨.sl e, el⟩ => match dst with
      | some d => match look own (1000 + d) with
        | none => k (.one (.own (1000 + d))) [(1000 + d, .row el e [] [] false)]
        | some _ => none
      | none => none
    | _ => k (.one .nil) []
  | r => k (.one r) []

theorem evMove_sound {σ : St N} {ty : TypeId} {dst : Option Nat} {x : Operand} {k : KK N β} {r : β} (h : evMove τ σ.own ty dst (ev σ x) k = some r) :
    ∃ s ad, k s ad = some r ∧ Does P σ (fun a => pure (a.eval x)) s ad := by
  have plain : ∀ y, ev σ x = y → k (.one y) [] = some r → ∃ s ad, k s ad = some r ∧ Does P σ (fun a => pure (a.eval x)) s ad := fun y hy hk =>
    ⟨_, _, hk, Does.pure fun io w0 E a w hr => ⟨_, rfl, by rw [← hy]; exact hr.ev x⟩⟩
  unfold evMove at h
  split at h
  · rename_i hx
    split at h
    · rename_i e el hτ
      split at h
      · rename_i d
        split at h
        · rename_i hl
          refine ⟨_, _, h, fun io w0 E a w hr => ?_⟩
          have hv : a.eval x = .slice none 0 0 := by
            have := hr.ev x
            rw [hx] at this
            exact this
          have hadd := hr.add (Ext.refl w) (V := .slice none 0 0) (b := .row el e [] [] false) hl (fun g hg => by cases hg)
            ⟨[], by rw [updE_same]; exact ⟨by simp, .inl ⟨rfl, rfl⟩⟩, rfl⟩
          refine ⟨_, w, _, rfl, hadd, ?_, ?_⟩
          · rw [updE_same]; exact hv
          · exact ⟨0, e, el, [], [], false, by rw [show insAll [(1000 + d, Blk.row el e [] [] false)] σ.own = ins _ _ σ.own from rfl, look_ins, if_pos rfl], rfl⟩
        · cases h
      · cases h
    · exact plain _ hx h
  · exact plain _ rfl h

theorem FieldsFit_get : ∀ (ts : List Ty) (off : Nat) (fs : List Field) (x : HL N.ρ ts) (i : Nat) (tv : TV N), FieldsFit N τ ts off fs → hlGet ts x i = some tv →
    ∃ f e, fs[i]? = some f ∧ f.offset = off + offL N ts i ∧ τ f.type = some ⟨tv.t, e⟩ ∧ N.sz tv.t ≠ 0
  | [], _, _, _, _, _, _, h => by cases h
  | t :: ts, off, [], _, _, _, hf, _ => hf.elim
  | t :: ts, off, f :: fs, x, 0, tv, hf, h => by
    simp only [hlGet, Option.some.injEq] at h
    subst h
    obtain ⟨f1, ⟨e, f2⟩, f3, _, _⟩ := hf
    exact ⟨f, e, rfl, by simp [offL, f1], f2, f3⟩
  | t :: ts, off, f :: fs, x, i + 1, tv, hf, h => by
    obtain ⟨_, _, _, _, f5⟩ := hf
    obtain ⟨f', e, h1, h2, h3, h4⟩ := FieldsFit_get ts _ fs x.2 i tv f5 (by simpa [hlGet] using h)
    exact ⟨f', e, by simpa using h1, by rw [h2]; simp [offL, Nat.add_assoc], h3, h4⟩

/-- A field's place exists. -/
def hasField : List Ty → Nat → Bool
  | [], _ => false
  | _ :: _, 0 => true
  | _ :: ts, i + 1 => hasField ts i

theorem FieldsFit_has : ∀ (ts : List Ty) (off : Nat) (fs : List Field) (i : Nat), FieldsFit N τ ts off fs → hasField ts i = true →
    ∃ f e ty, fs[i]? = some f ∧ f.offset = off + offL N ts i ∧ τ f.type = some ⟨ty, e⟩ ∧ N.sz ty ≠ 0
  | [], _, _, _, _, h => by cases h
  | t :: ts, off, [], _, hf, _ => hf.elim
  | t :: ts, off, f :: fs, 0, hf, h => by
    obtain ⟨f1, ⟨e, f2⟩, f3, _, _⟩ := hf
    exact ⟨f, e, t, rfl, by simp [offL, f1], f2, f3⟩
  | t :: ts, off, f :: fs, i + 1, hf, h => by
    obtain ⟨_, _, _, _, f5⟩ := hf
    obtain ⟨f', e, ty, h1, h2, h3, h4⟩ := FieldsFit_has ts _ fs i f5 (by simpa [hasField] using h)
    exact ⟨f', e, ty, by simpa using h1, by rw [h2]; simp [offL, Nat.add_assoc], h3, h4⟩

def evField (τ : TypeId → Option TI) (xt : TypeId) (x : RV N) (f : Nat) (k : KK N β) : Option β :=
  match x with
  | .data t v bs => match τ xt with
    | some ⟨.nm m, e⟩ => bif Nat.beq e 0 then match castTy N t (.nm m) v with
      | some v => match hlGet (N.body m) (N.un m v) f with
        | some tv => k (.one (ofDen tv.t tv.x bs)) []
        | none => none
      | none => none
      else none
    | _ => none
  | _ => none

theorem evField_sound (F : Fits P N τ) {σ : St N} {xt : TypeId} {x : Operand} {f : Nat} {k : KK N β} {r : β} (h : evField τ xt (ev σ x) f k = some r) :
    ∃ s ad, k s ad = some r ∧ Does P σ (fun a => Instr.field xt (a.eval x) f) s ad := by
  unfold evField at h
  split at h
  · rename_i t v bs hx
    split at h
    · rename_i m e hτ
      obtain ⟨he, h⟩ := bif_none h
      split at h
      · rename_i v' hv'
        split at h
        · rename_i tv htv
          refine ⟨_, _, h, Does.pure fun io w0 E a w hr => ?_⟩
          have hx' := hr.ev x
          rw [hx] at hx'
          obtain ⟨cs, h1, h2⟩ := hx'
          obtain ⟨et, rfl⟩ := castTy_some hv'
          subst et
          obtain ⟨fs, u1, u2, _⟩ := F.nm xt m e hτ
          have u1 := u1.struct (Nat.eq_of_beq_eq_true he)
          obtain ⟨k1, k2⟩ := hlGet_rep (N.body m) (N.un m v) f tv cs htv (RepN_open h1)
          obtain ⟨fd, e', g1, g2, g3, g4⟩ := FieldsFit_get _ 0 _ _ f tv u2 htv
          rw [Nat.zero_add] at g2
          obtain ⟨u, p1, p2⟩ := F.part (w := w) g3 k1 k2
          have g1' : fs[f]? = some fd := by simpa using g1
          refine ⟨u, ?_, ofDen_rel k1 p2⟩
          rw [show a.eval x = _ from h2]
          simp only [Instr.field, Sem.run_bind, run_underlying u1, Result.andThen_ok, g1', asAgg, g2]
          exact p1
        · cases h
      · cases h
    · cases h
  · cases h

def evFieldAddr (τ : TypeId → Option TI) (xt : TypeId) (x : RV N) (f : Nat) (k : KK N β) : Option β :=
  match τ xt with
  | some ⟨.nm m, e⟩ => bif Nat.beq e 0 then match x with
    | .sptr t v bs => match castTy N t (.nm m) v with
      | some v => match hlGet (N.body m) (N.un m v) f with
        | some tv => k (.one (.sptr tv.t tv.x bs)) []
        | none => none
      | none => none
    | .bptr id off => bif hasField (N.body m) f then k (.one (.bptr id (off + offL N (N.body m) f))) [] else none
    | .optr id i off => bif hasField (N.body m) f then k (.one (.optr id i (off + offL N (N.body m) f))) [] else none
    | _ => none
    else none
  | _ => none

theorem run_fieldAt (F : Fits P N τ) {xt : TypeId} {fs : Array Field} (u1 : P.underlying xt = some (.struct fs)) {f : Nat} {fd : Field} {ty : Ty} {e : TypeId} (g1 : fs.toList[f]? = some fd) (g3 : τ fd.type = some ⟨ty, e⟩) (g4 : N.sz ty ≠ 0) (ad : Addr) (w : World) :
    (Instr.fieldAt xt (.pointer (some ad)) f).run P w = .ok (.pointer (some (ad.add fd.offset))) w := by
  have g1' : fs[f]? = some fd := by simpa using g1
  have hs := F.sizeOf g3 w
  simp only [Instr.fieldAt, Sem.run_bind, run_underlying u1, Result.andThen_ok, g1', Instr.sureAddr, Sem.run_pure, fieldPlace, hs, g4, if_false]

theorem add_lit' (g o n : Nat) : (⟨g, o, none⟩ : Addr).add n = ⟨g, o + n, none⟩ := by
  unfold Addr.add; split <;> simp_all

theorem evFieldAddr_sound (F : Fits P N τ) {σ : St N} {xt : TypeId} {x : Operand} {f : Nat} {k : KK N β} {r : β} (h : evFieldAddr τ xt (ev σ x) f k = some r) :
    ∃ s ad, k s ad = some r ∧ Does P σ (fun a => Instr.fieldAt xt (a.eval x) f) s ad := by
  unfold evFieldAddr at h
  split at h
  · rename_i m e hτ
    obtain ⟨he, h⟩ := bif_none h
    obtain ⟨fs, u1, u2, _⟩ := F.nm xt m e hτ
    have u1 := u1.struct (Nat.eq_of_beq_eq_true he)
    split at h
    · rename_i t v bs hx
      split at h
      · rename_i v' hv'
        split at h
        · rename_i tv htv
          refine ⟨_, _, h, Does.pure fun io w0 E a w hr => ?_⟩
          have hx' := hr.ev x
          rw [hx] at hx'
          obtain ⟨ad, cs, h1, h2, h3, h4⟩ := hx'
          obtain ⟨et, rfl⟩ := castTy_some hv'
          subst et
          obtain ⟨k1, k2⟩ := hlGet_rep (N.body m) (N.un m v) f tv cs htv (RepN_open h3)
          obtain ⟨fd, e', g1, g2, g3, g4⟩ := FieldsFit_get _ 0 _ _ f tv u2 htv
          rw [Nat.zero_add] at g2
          refine ⟨_, by rw [h1]; exact run_fieldAt F u1 g1 g3 g4 ad w, ad.add fd.offset, _, rfl, by rw [addr_add_block]; exact h2, k1, fun j u hu => ?_⟩
          rw [addr_add_add, g2]
          exact h4 _ _ (take_drop_get hu)
        · cases h
      · cases h
    · rename_i id off hx
      obtain ⟨hf, h⟩ := bif_none h
      refine ⟨_, _, h, Does.pure fun io w0 E a w hr => ?_⟩
      have hx' := hr.ev x
      rw [hx] at hx'
      obtain ⟨h1, g, h2, h3⟩ := hx'
      obtain ⟨fd, e', ty, g1, g2, g3, g4⟩ := FieldsFit_has _ 0 _ f u2 hf
      rw [Nat.zero_add] at g2
      exact ⟨_, by rw [h3]; exact run_fieldAt F u1 g1 g3 g4 _ w, h1, g, h2, by rw [add_lit', g2]⟩
    · rename_i id i off hx
      obtain ⟨hf, h⟩ := bif_none h
      refine ⟨_, _, h, Does.pure fun io w0 E a w hr => ?_⟩
      have hx' := hr.ev x
      rw [hx] at hx'
      obtain ⟨g, cap, n, t, h1, h2, h3, h4⟩ := hx'
      obtain ⟨fd, e', ty, g1, g2, g3, g4⟩ := FieldsFit_has _ 0 _ f u2 hf
      rw [Nat.zero_add] at g2
      exact ⟨_, by rw [h4]; exact run_fieldAt F u1 g1 g3 g4 _ w, g, cap, n, t, h1, h2, h3, by rw [add_lit', g2, Nat.add_assoc]⟩
    · cases h
  · cases h

def evIndexAddr (τ : TypeId → Option TI) (own : List (Nat × Blk N)) (t : TypeId) (x i : RV N) (k : KK N β) : Option β :=
  match τ t with
  | some ⟨.sl e, _⟩ => match i with
    | .int _ n => match x with
      | .data t' l bs => match castTy N t' (.sl e) l with
        | some l => if 0 ≤ n then if n < (l.length : Int) then k (.one (.sptr e (l.getD n.toNat (N.dflt e)) bs)) [] else none else none
        | none => none
      | .own id => match look own id with
        | some (.row _ e' xs _ _) => bif decide (e' = e) then if 0 ≤ n then if n < (xs.length : Int) then k (.one (.optr id n.toNat 0)) [] else none else none else none
        | _ => none
      | _ => none
    | _ => none
  | _ => none

theorem run_indexAt (F : Fits P N τ) {t e e' : TypeId} {ty : Ty} (hτ : τ t = some ⟨.sl ty, e⟩) (ad : Addr) (len cap : Nat) (kk : IntKind) (n : Int) (h0 : 0 ≤ n) (h1 : n < len) (w : World) :
    (Instr.indexAt t (.slice (some ad) len cap) (.int kk n)).run P w = .ok (.pointer (some (ad.add (n.toNat * N.sz ty)))) w := by
  obtain ⟨u1, ⟨e'', u2⟩, _⟩ := F.sl t ty e hτ
  have hs := F.sizeOf u2 w
  simp [Instr.indexAt, asIntOf, run_underlying u1, h0, h1, hs]

theorem evIndexAddr_sound (F : Fits P N τ) {σ : St N} {t : TypeId} {x i : Operand} {k : KK N β} {r : β} (h : evIndexAddr τ σ.own t (ev σ x) (ev σ i) k = some r) :
    ∃ s ad, k s ad = some r ∧ Does P σ (fun a => Instr.indexAt t (a.eval x) (a.eval i)) s ad := by
  unfold evIndexAddr at h
  split at h
  · rename_i e el hτ
    split at h
    · rename_i kk n hi
      have hi' : ∀ {io w0 E a w}, RelE io w0 σ E a w → a.eval i = .int kk n := fun hr => by
        have := hr.ev i
        rw [hi] at this
        exact this
      split at h
      · rename_i t' l bs hx
        split at h
        · rename_i l' hl'
          split at h
          · rename_i h0
            split at h
            · rename_i h1
              refine ⟨_, _, h, Does.pure fun io w0 E a w hr => ?_⟩
              have hx' := hr.ev x
              rw [hx] at hx'
              obtain ⟨cs, k1, k2⟩ := hx'
              obtain ⟨et, rfl⟩ := castTy_some hl'
              subst et
              obtain ⟨A, cap, c1, c2, c2', c3⟩ := k1
              have c4 : cs = [a.eval x] := k2
              rw [c1] at c4
              have c5 : a.eval x = .slice A l.length cap := (List.cons.inj c4).1.symm
              have h1 : n < (l.length : Int) := h1
              have hlt : n.toNat < l.length := by omega
              obtain ⟨ad, ccs, d1, d2, d3, d4⟩ := c3 n.toNat l[n.toNat] (List.getElem?_eq_getElem hlt)
              subst d1
              refine ⟨_, by rw [c5, hi' hr]; exact run_indexAt F (e' := 0) hτ ad l.length cap kk n h0 h1 w, ad.add (n.toNat * N.sz e), ccs, rfl, by rw [addr_add_block]; exact d2, ?_, fun j u hu => by rw [addr_add_add]; exact d4 j u hu⟩
              rw [List.getD_eq_getElem?_getD, List.getElem?_eq_getElem hlt]
              exact d3
            · cases h
          · cases h
        · cases h
      · rename_i id hx
        split at h
        · rename_i e1 e' xs bs p hl
          obtain ⟨he, h2⟩ := bif_none h
          clear h
          have h := h2
          clear h2
          have he : e' = e := by simpa using he
          subst he
          split at h
          · rename_i h0
            split at h
            · rename_i h1
              refine ⟨_, _, h, Does.pure fun io w0 E a w hr => ?_⟩
              have hx' := hr.ev x
              rw [hx] at hx'
              obtain ⟨k1, k2⟩ := hx'
              obtain ⟨cells, g1, g2⟩ := hr.own id _ hl
              rcases g1.2 with ⟨hv, hn⟩ | ⟨g, cap, cur, hv, _⟩
              · omega
              · refine ⟨_, by rw [k1, hv, hi' hr]; exact run_indexAt F (e' := 0) hτ _ xs.length cap kk n h0 h1 w, g, cap, xs.length, e', ⟨e1, xs, bs, p, hl, rfl⟩, by omega, hv, ?_⟩
                rw [add_lit', Nat.zero_add, Nat.add_zero]
            · cases h
          · cases h
        · cases h
      · cases h
    · cases h
  · cases h

def evIndex (τ : TypeId → Option TI) (t : TypeId) (x i : RV N) (k : KK N β) : Option β :=
  match τ t with
  | some ⟨.str, _⟩ => match i with
    | .int _ n => match x with
      | .str l => if 0 ≤ n then if n < (l.length : Int) then k (.one (.int .u8 (l.getD n.toNat 0))) [] else none else none
      | _ => none
    | _ => none
  | _ => none

theorem evIndex_sound (F : Fits P N τ) {σ : St N} {t : TypeId} {x i : Operand} {k : KK N β} {r : β} (h : evIndex τ t (ev σ x) (ev σ i) k = some r) :
    ∃ s ad, k s ad = some r ∧ Does P σ (fun a => Instr.index t (a.eval x) (a.eval i)) s ad := by
  unfold evIndex at h
  split at h
  · rename_i el hτ
    split at h
    · rename_i kk n hi
      split at h
      · rename_i l hx
        split at h
        · rename_i h0
          split at h
          · rename_i h1
            refine ⟨_, _, h, Does.pure fun io w0 E a w hr => ?_⟩
            have hx' := hr.ev x
            have hi' := hr.ev i
            rw [hx] at hx'
            rw [hi] at hi'
            obtain ⟨s, k1, k2⟩ := hx'
            subst k2
            rw [bytesL_length] at h1
            refine ⟨.int .u8 ((s[n.toNat]'(by omega)).toNat), ?_, ?_⟩
            · rw [k1, show a.eval i = _ from hi', run_index_string w t s kk n (F.str t el hτ).1, dif_pos ⟨h0, h1⟩]
            · show _ = _
              congr 1
              have hlt : n.toNat < (bytesL s).length := by rw [bytesL_length]; omega
              rw [List.getD_eq_getElem?_getD, List.getElem?_eq_getElem hlt]
              simp only [bytesL, List.getElem_map, Option.getD_some]
              rfl
          · cases h
        · cases h
      · cases h
    · cases h
  · cases h

end Go.Eng
