/- The engine, part WD: operations that only read or add: what they do does not hang on what else was added.
The engine, part WE: regions whose order is open: reading operations in any order, then a tail in its order.
The engine, part WF: a region whose order is open, followed.
The engine, part WG: regions whose order is open, with stores into boxes and rows that what is not forced ahead of them does not read. -/
import Derived.Test.YtenjolapmchcmaaGreatDoorEngine3
import Derived.Orders
import Derived.StillTail
set_option linter.unusedVariables false
set_option linter.unusedSimpArgs false
namespace Go.Eng
variable {N : Names} {P : Program} {τ : TypeId → Option TI} {β : Type}

def Sub (own own' : List (Nat × Blk N)) : Prop := ∀ id b, look own id = some b → look own' id = some b

theorem toDen0_sub {own own' : List (Nat × Blk N)} (hs : Sub own own') {t : Ty} {r : RV N} {y : t.den N.ρ × List Nat} (h : toDen0 own t r = some y) : toDen0 own' t r = some y := by
  cases r with
  | own id =>
    simp only [toDen0] at h ⊢
    split at h
    · rename_i e ty xs bs p hl
      rw [hs _ _ hl]
      exact h
    · cases h
  | _ => exact h

theorem implL_sub {g g' : (t : Ty) → List (RV N) → Option (t.den N.ρ × List Nat)} (hg : ∀ t l y, g t l = some y → g' t l = some y) : ∀ (ts : List Ty) (l : List (RV N)) (y : HL N.ρ ts × List Nat), implL g ts l = some y → implL g' ts l = some y
  | [], [], y, h => h
  | [], _ :: _, y, h => by cases h
  | t :: ts, l, y, h => by
    simp only [implL] at h ⊢
    split at h
    · rename_i p q hp hq
      rw [hg _ _ _ hp, implL_sub hg ts _ _ hq]
      exact h
    · cases h

theorem oneDen_sub {own own' : List (Nat × Blk N)} (hs : Sub own own') {t : Ty} {l : List (RV N)} {y : t.den N.ρ × List Nat} (h : oneDen own t l = some y) : oneDen own' t l = some y := by
  unfold oneDen at h ⊢
  split at h
  · exact toDen0_sub hs h
  · cases h

theorem impl_sub {own own' : List (Nat × Blk N)} (hs : Sub own own') : ∀ (f : Nat) (t : Ty) (l : List (RV N)) (y : t.den N.ρ × List Nat), impl own f t l = some y → impl own' f t l = some y
  | 0, t, l, y, h => by cases h
  | f + 1, t, l, y, h => by
    cases t with
    | nm n =>
      simp only [impl, Option.map_eq_some_iff] at h ⊢
      obtain ⟨p, hp, hq⟩ := h
      exact ⟨p, implL_sub (fun t l y => impl_sub hs f t l y) _ _ _ hp, hq⟩
    | _ => exact oneDen_sub hs h

theorem toDen_sub {own own' : List (Nat × Blk N)} (hs : Sub own own') {t : Ty} {r : RV N} {y : t.den N.ρ × List Nat} (h : toDen own t r = some y) : toDen own' t r = some y := by
  cases r with
  | mp id =>
    simp only [toDen] at h ⊢
    split at h
    · rename_i n l hl
      rw [hs _ _ hl]
      split at h
      · rename_i p hp
        simp only [impl_sub hs 8 _ _ _ hp]
        exact h
      · cases h
    · cases h
  | _ =>
    rw [toDen_eq0 rfl] at h ⊢
    exact toDen0_sub hs h

theorem evMove_par {own : List (Nat × Blk N)} {ty : TypeId} {dst : Option Nat} {x : RV N} {k : KK N β} {r : β} (h : evMove τ own ty dst x k = some r) :
    ∃ s ad, k s ad = some r ∧ (∀ p ∈ ad, look own p.1 = none) ∧ ∀ own' : List (Nat × Blk N), (∀ p ∈ ad, look own' p.1 = none) → ∀ {β' : Type} (k' : KK N β'), evMove τ own' ty dst x k' = k' s ad := by
  cases x with
  | nil =>
    simp only [evMove] at h ⊢
    split at h
    · rename_i e el hτ
      split at h
      · rename_i d
        split at h
        · rename_i hl
          refine ⟨_, _, h, fun p hp => by rw [List.mem_singleton.1 hp]; exact hl, fun own' hf β' k' => ?_⟩
          have := hf _ List.mem_cons_self
          simp only at this
          simp only [this]
        · cases h
      · cases h
    · rename_i hn
      refine ⟨_, _, h, (fun p hp => by cases hp), fun own' hf β' k' => ?_⟩
      first | rfl | (split <;> first | (rename_i e el he; exact (hn _ _ he).elim) | rfl)
  | _ => exact ⟨_, _, h, (fun p hp => by cases hp), fun own' hf β' k' => rfl⟩

theorem freshIds_of {own : List (Nat × Blk N)} : ∀ {l : List Nat}, (∀ i ∈ l, look own i = none) → freshIds own l = true
  | [], _ => rfl
  | i :: r, h => by
    simp only [freshIds, h i List.mem_cons_self, Bool.true_and]
    exact freshIds_of (fun j hj => h j (List.mem_cons_of_mem _ hj))

theorem outVals_par {own : List (Nat × Blk N)} {dst : Option Nat} {n : Nat} {l : List (RV N)} {k : KK N β} {r : β} (h : outVals own dst n l k = some r) :
    ∃ s ad, k s ad = some r ∧ (∀ p ∈ ad, look own p.1 = none) ∧ ∀ own' : List (Nat × Blk N), (∀ p ∈ ad, look own' p.1 = none) → ∀ {β' : Type} (k' : KK N β'), outVals own' dst n l k' = k' s ad := by
  unfold outVals at h
  split at h
  · rename_i d
    split at h
    · rename_i hl
      split at h
      rename_i m es hes
      obtain ⟨hc, h⟩ := bif_none h
      have hc' := hc
      simp only [Bool.and_eq_true] at hc
      refine ⟨_, _, h, fun p hp => ?_, fun own' hf {β'} k' => ?_⟩
      · rcases List.mem_cons.1 hp with rfl | hp
        · exact hl
        · exact freshIds_spec hc.2 _ (List.mem_map.2 ⟨p, hp, rfl⟩)
      · have e1 := hf _ List.mem_cons_self
        simp only at e1
        have e2 : freshIds own' (es.map (·.1)) = true := freshIds_of (fun i hi => by
          obtain ⟨p, hp, rfl⟩ := List.mem_map.1 hi
          exact hf p (List.mem_cons_of_mem _ hp))
        simp only [outVals, e1, hes, hc.1.1, hc.1.2, e2, Bool.and_self, cond_true]
    · cases h
  · cases h

theorem evField_par {own : List (Nat × Blk N)} {xt : TypeId} {dst : Option Nat} {x : RV N} {f : Nat} {k : KK N β} {r : β} (h : evField τ own xt dst x f k = some r) :
    ∃ s ad, k s ad = some r ∧ (∀ p ∈ ad, look own p.1 = none) ∧ ∀ own' : List (Nat × Blk N), Sub own own' → (∀ p ∈ ad, look own' p.1 = none) → ∀ {β' : Type} (k' : KK N β'), evField τ own' xt dst x f k' = k' s ad := by
  unfold evField at h
  split at h
  · split at h
    · rename_i hτ
      obtain ⟨he, h⟩ := bif_none h
      split at h
      · rename_i hc
        split at h
        · rename_i hg
          exact ⟨_, [], h, (fun p hp => by cases hp), fun own' hs hf {β'} k' => by simp only [evField, hτ, he, cond_true, hc, hg]⟩
        · cases h
      · cases h
    · cases h
  · split at h
    · rename_i hl
      split at h
      · rename_i hτ
        obtain ⟨he, h⟩ := bif_none h
        split at h
        · rename_i n hty
          obtain ⟨s, ad, h1, h2, h3⟩ := outVals_par h
          exact ⟨s, ad, h1, h2, fun own' hs hf {β'} k' => by simp only [evField, hs _ _ hl, hτ, he, cond_true, hty]; exact h3 own' hf k'⟩
        · rename_i ty hnn hty
          split at h
          · rename_i hr
            refine ⟨_, [], h, (fun p hp => by cases hp), fun own' hs hf {β'} k' => ?_⟩
            simp only [evField, hs _ _ hl, hτ, he, cond_true, hty]
            cases ty with
            | nm n => exact (hnn n rfl).elim
            | _ => simp only [hr]
          · cases h
        · cases h
      · cases h
    · cases h
  · cases h

theorem evFieldAddr_par {xt : TypeId} {x : RV N} {f : Nat} {k : KK N β} {r : β} (h : evFieldAddr τ xt x f k = some r) :
    ∃ s, k s [] = some r ∧ ∀ {β' : Type} (k' : KK N β'), evFieldAddr τ xt x f k' = k' s [] := by
  unfold evFieldAddr at h
  split at h
  · rename_i hτ
    obtain ⟨he, h⟩ := bif_none h
    split at h
    · split at h
      · rename_i hc
        split at h
        · rename_i hg
          exact ⟨_, h, fun {β'} k' => by simp only [evFieldAddr, hτ, he, cond_true, hc, hg]⟩
        · cases h
      · cases h
    · obtain ⟨hf, h⟩ := bif_none h
      exact ⟨_, h, fun {β'} k' => by simp only [evFieldAddr, hτ, he, hf, cond_true]⟩
    · obtain ⟨hf, h⟩ := bif_none h
      exact ⟨_, h, fun {β'} k' => by simp only [evFieldAddr, hτ, he, hf, cond_true]⟩
    · cases h
  · cases h

theorem evIdxArr_par {own : List (Nat × Blk N)} {n : Nat} {e : TypeId} {x i : RV N} {k : KK N β} {r : β} (h : evIdxArr own n e x i k = some r) :
    ∃ s, k s [] = some r ∧ ∀ own' : List (Nat × Blk N), Sub own own' → ∀ {β' : Type} (k' : KK N β'), evIdxArr own' n e x i k' = k' s [] := by
  unfold evIdxArr at h
  split at h
  · rename_i ha
    cases hb : Nat.beq e 0 with
    | true => rw [hb] at h; cases h
    | false =>
    rw [hb] at h
    simp only [cond_false] at h
    split at h
    · split at h
      · split at h
        · rename_i hl
          obtain ⟨hc, h⟩ := bif_none h
          split at h
          · rename_i h0
            split at h
            · rename_i h1
              exact ⟨_, h, fun own' hs {β'} k' => by simp only [evIdxArr, ha, hb, cond_false, hs _ _ hl, hc, cond_true, if_pos h0, if_pos h1]⟩
            · cases h
          · cases h
        · cases h
      · split at h
        · rename_i hv
          split at h
          · rename_i hl
            split at h
            · rename_i h0
              split at h
              · rename_i h1
                exact ⟨_, h, fun own' hs {β'} k' => by simp only [evIdxArr, ha, hb, cond_false, hv, hl, if_pos h0, if_pos h1]⟩
              · cases h
            · cases h
          · cases h
        · cases h
      · cases h
    · cases h
  · cases h

theorem evSliceArr_par {own : List (Nat × Blk N)} {n : Nat} {e : TypeId} {x : RV N} {lo hi : Option Operand} {k : KK N β} {r : β} (h : evSliceArr own n e x lo hi k = some r) :
    ∃ s, k s [] = some r ∧ ∀ own' : List (Nat × Blk N), Sub own own' → ∀ {β' : Type} (k' : KK N β'), evSliceArr own' n e x lo hi k' = k' s [] := by
  unfold evSliceArr at h
  split at h
  · rename_i ha
    cases hb : Nat.beq e 0 with
    | true => rw [hb] at h; cases h
    | false =>
    rw [hb] at h
    simp only [cond_false] at h
    split at h
    · split at h
      · rename_i hl
        obtain ⟨hc, h⟩ := bif_none h
        exact ⟨_, h, fun own' hs {β'} k' => by simp only [evSliceArr, ha, hb, cond_false, hs _ _ hl, hc, cond_true]⟩
      · cases h
    · cases h
  · cases h

theorem evIndexAddr_par {own : List (Nat × Blk N)} {t : TypeId} {x i : RV N} {k : KK N β} {r : β} (h : evIndexAddr τ own t x i k = some r) :
    ∃ s, k s [] = some r ∧ ∀ own' : List (Nat × Blk N), Sub own own' → ∀ {β' : Type} (k' : KK N β'), evIndexAddr τ own' t x i k' = k' s [] := by
  unfold evIndexAddr at h
  split at h
  · rename_i hτ
    split at h
    · split at h
      · split at h
        · rename_i hc
          split at h
          · rename_i h0
            split at h
            · rename_i h1
              exact ⟨_, h, fun own' hs {β'} k' => by simp only [evIndexAddr, hτ, hc, if_pos h0, if_pos h1]⟩
            · cases h
          · cases h
        · cases h
      · split at h
        · rename_i hl
          obtain ⟨he, h⟩ := bif_none h
          split at h
          · rename_i h0
            split at h
            · rename_i h1
              exact ⟨_, h, fun own' hs {β'} k' => by simp only [evIndexAddr, hτ, hs _ _ hl, he, cond_true, if_pos h0, if_pos h1]⟩
            · cases h
          · cases h
        · cases h
      · cases h
    · cases h
  · rename_i hτ
    obtain ⟨s, h1, h2⟩ := evIdxArr_par h
    exact ⟨s, h1, fun own' hs {β'} k' => by simp only [evIndexAddr, hτ]; exact h2 own' hs k'⟩
  · cases h

theorem evIndex_par {t : TypeId} {x i : RV N} {k : KK N β} {r : β} (h : evIndex τ t x i k = some r) :
    ∃ s, k s [] = some r ∧ ∀ {β' : Type} (k' : KK N β'), evIndex τ t x i k' = k' s [] := by
  unfold evIndex at h
  split at h
  · rename_i hτ
    split at h
    · split at h
      · split at h
        · rename_i h0
          split at h
          · rename_i h1
            exact ⟨_, h, fun {β'} k' => by simp only [evIndex, hτ, if_pos h0, if_pos h1]⟩
          · cases h
        · cases h
      · cases h
    · cases h
  · cases h

theorem evLoad_par {own : List (Nat × Blk N)} {t : TypeId} {dst : Option Nat} {x : RV N} {k : KK N β} {r : β} (h : evLoad τ own t dst x k = some r) :
    ∃ s ad, k s ad = some r ∧ (∀ p ∈ ad, look own p.1 = none) ∧ ∀ own' : List (Nat × Blk N), Sub own own' → (∀ p ∈ ad, look own' p.1 = none) → ∀ {β' : Type} (k' : KK N β'), evLoad τ own' t dst x k' = k' s ad := by
  unfold evLoad at h
  split at h
  · rename_i ty e hτ
    split at h
    · split at h
      · rename_i hv
        exact ⟨_, [], h, (fun p hp => by cases hp), fun own' hs hf {β'} k' => by simp only [evLoad, hτ, hv]⟩
      · cases h
    · split at h
      · rename_i hl
        split at h
        · rename_i hv
          exact ⟨_, [], h, (fun p hp => by cases hp), fun own' hs hf {β'} k' => by simp only [evLoad, hτ, hs _ _ hl, hv]⟩
        · rename_i hv
          obtain ⟨n, y, _, _, _, h1, h2, _⟩ := evLoadArr_some h
          exact ⟨_, [], h1, (fun p hp => by cases hp), fun own' hs hf {β'} k' => by simp only [evLoad, hτ, hs _ _ hl, hv]; exact h2 k'⟩
      · cases h
    · split at h
      · rename_i hl
        split at h
        · rename_i hv
          exact ⟨_, [], h, (fun p hp => by cases hp), fun own' hs hf {β'} k' => by simp only [evLoad, hτ, hs _ _ hl, hv]⟩
        · cases h
      · rename_i hl
        cases ty with
        | nm n =>
          simp only at h
          cases hd : (N.rowsAt n).isEmpty with
          | true =>
            rw [hd, cond_true] at h
            split at h
            · rename_i hv
              exact ⟨_, [], h, (fun p hp => by cases hp), fun own' hs hf {β'} k' => by simp only [evLoad, hτ, hs _ _ hl, hd, cond_true, impl_sub hs _ _ _ _ hv]⟩
            · cases h
          | false =>
            rw [hd, cond_false] at h
            obtain ⟨s, ad, h1, h2, h3⟩ := outVals_par h
            exact ⟨s, ad, h1, h2, fun own' hs hf {β'} k' => by simp only [evLoad, hτ, hs _ _ hl, hd, cond_false]; exact h3 own' hf k'⟩
        | _ =>
          simp only at h
          split at h
          · rename_i hv
            exact ⟨_, [], h, (fun p hp => by cases hp), fun own' hs hf {β'} k' => by simp only [evLoad, hτ, hs _ _ hl, hv]⟩
          · cases h
      · cases h
    · cases h
  · cases h

theorem evLen_par {own : List (Nat × Blk N)} {t : TypeId} {x : RV N} {k : KK N β} {r : β} (h : evLen τ own t x k = some r) :
    ∃ s, k s [] = some r ∧ ∀ own' : List (Nat × Blk N), Sub own own' → ∀ {β' : Type} (k' : KK N β'), evLen τ own' t x k' = k' s [] := by
  unfold evLen at h
  split at h
  · rename_i hτ
    split at h
    · exact ⟨_, h, fun own' hs {β'} k' => by simp only [evLen, hτ]⟩
    · cases h
  · rename_i hτ
    split at h
    · rename_i hd
      exact ⟨_, h, fun own' hs {β'} k' => by simp only [evLen, hτ, toDen_sub hs hd]⟩
    · cases h
  · cases h

theorem setFields_par {own own' : List (Nat × Blk N)} (hs : Sub own own') {ρ ρ' : Operand → RV N} {ts : List Ty} : ∀ (parts : List (Nat × Operand)) (x : HL N.ρ ts) (bs : List Nat) (r : HL N.ρ ts × List Nat), (∀ p ∈ parts, ρ' p.2 = ρ p.2) → setFields own ρ ts parts x bs = some r → setFields own' ρ' ts parts x bs = some r
  | [], x, bs, r, _, h => h
  | (i, o) :: parts, x, bs, r, hp, h => by
    simp only [setFields] at h ⊢
    split at h
    · rename_i t ht
      split at h
      · rename_i y b hy
        split at h
        · rename_i x' hx'
          rw [hp (i, o) List.mem_cons_self, toDen_sub hs hy]
          simp only [ht, hx']
          exact setFields_par hs parts x' _ r (fun p hp' => hp p (List.mem_cons_of_mem _ hp')) h
        · cases h
      · cases h
    · cases h
theorem storeVals_sub {own own' : List (Nat × Blk N)} (hs : Sub own own') {t : Ty} {r : RV N} {y : List (RV N)} (h : storeVals own t r = some y) : storeVals own' t r = some y := by
  have gen : ∀ (b : Bool) (t : Ty), (bif b then some [r] else match toDen own t r with | some (y, b) => some [ofDen t y b] | none => none) = some y → (bif b then some [r] else match toDen own' t r with | some (y, b) => some [ofDen t y b] | none => none) = some y := by
    intro b t h
    cases b with
    | true => exact h
    | false =>
      simp only [cond_false] at h ⊢
      split at h
      · rename_i hd
        rw [toDen_sub hs hd]
        exact h
      · cases h
  cases t with
  | nm n =>
    have old : (match toDen own (.nm n) r with | some (y, b) => expl b 8 (.nm n) y | none => none) = some y → (match toDen own' (.nm n) r with | some (y, b) => expl b 8 (.nm n) y | none => none) = some y := by
      intro h
      split at h
      · rename_i hd
        rw [toDen_sub hs hd]
        exact h
      · cases h
    cases r with
    | mp id =>
      simp only [storeVals] at h ⊢
      split at h
      · rename_i hl
        rw [hs _ _ hl]
        exact h
      · cases h
    | _ => exact old h
  | opq => exact h
  | int k => exact gen _ _ h
  | bool => exact gen _ _ h
  | str => exact gen _ _ h
  | sl e => exact gen _ _ h
theorem setCells_par {own own' : List (Nat × Blk N)} (hs : Sub own own') {ρ ρ' : Operand → RV N} {ts : List Ty} : ∀ (parts : List (Nat × Operand)) (l m : List (RV N)), (∀ p ∈ parts, ρ' p.2 = ρ p.2) → setCells own ρ ts parts l = some m → setCells own' ρ' ts parts l = some m
  | [], l, m, _, h => h
  | (i, o) :: parts, l, m, hp, h => by
    simp only [setCells] at h ⊢
    split at h
    · rename_i t ht
      split at h
      · rename_i vs hvs
        obtain ⟨hle, h⟩ := bif_none h
        simp only [hp (i, o) List.mem_cons_self, storeVals_sub hs hvs, hle, cond_true]
        exact setCells_par hs parts _ m (fun p h => hp p (List.mem_cons_of_mem _ h)) h
      · cases h
    · cases h
theorem evBuild_par {σ : St N} {t : TypeId} {dst : Option Nat} {parts : List (Nat × Operand)} {k : KK N β} {r : β} (h : evBuild τ σ t dst parts k = some r) :
    ∃ s ad, k s ad = some r ∧ (∀ p ∈ ad, look σ.own p.1 = none) ∧ ∀ σ' : St N, Sub σ.own σ'.own → (∀ p ∈ parts, ev σ' p.2 = ev σ p.2) → (∀ p ∈ ad, look σ'.own p.1 = none) → ∀ {β' : Type} (k' : KK N β'), evBuild τ σ' t dst parts k' = k' s ad := by
  unfold evBuild at h
  split at h
  · rename_i n el hτ
    cases hd : (N.rowsAt n).isEmpty with
    | true =>
      rw [hd, cond_true] at h
      split at h
      · rename_i x bs hx
        exact ⟨_, [], h, (fun p hp => by cases hp), fun σ' hs hp hf {β'} k' => by simp only [evBuild, hτ, hd, cond_true, setFields_par hs parts _ _ _ hp hx]⟩
      · cases h
    | false =>
      rw [hd, cond_false] at h
      split at h
      · rename_i l hl
        obtain ⟨s, ad, h1, h2, h3⟩ := outVals_par h
        exact ⟨s, ad, h1, h2, fun σ' hs hp hf {β'} k' => by simp only [evBuild, hτ, hd, cond_false, setCells_par hs parts _ _ hp hl]; exact h3 _ hf k'⟩
      · cases h
  · cases h
theorem setParts_par {own own' : List (Nat × Blk N)} (hs : Sub own own') {ρ ρ' : Operand → RV N} {e : Ty} : ∀ (parts : List (Nat × Operand)) (xs : List (e.den N.ρ)) (bs : List Nat) (r : List (e.den N.ρ) × List Nat), (∀ p ∈ parts, ρ' p.2 = ρ p.2) → setParts own ρ e parts xs bs = some r → setParts own' ρ' e parts xs bs = some r
  | [], xs, bs, r, _, h => h
  | (i, o) :: parts, xs, bs, r, hp, h => by
    simp only [setParts] at h ⊢
    split at h
    · rename_i y b hy
      rw [hp (i, o) List.mem_cons_self, toDen_sub hs hy]
      obtain ⟨hlt, h⟩ := bif_none h
      simp only [hlt, cond_true]
      exact setParts_par hs parts _ _ r (fun p hp' => hp p (List.mem_cons_of_mem _ hp')) h
    · cases h
theorem evBuildSlice_par {σ : St N} {t : TypeId} {len : Nat} {parts : List (Nat × Operand)} {dst : Option Nat} {k : KK N β} {r : β} (h : evBuildSlice τ σ t len parts dst k = some r) :
    ∃ s ad, k s ad = some r ∧ (∀ p ∈ ad, look σ.own p.1 = none) ∧ ∀ σ' : St N, Sub σ.own σ'.own → (∀ p ∈ parts, ev σ' p.2 = ev σ p.2) → (∀ p ∈ ad, look σ'.own p.1 = none) → ∀ {β' : Type} (k' : KK N β'), evBuildSlice τ σ' t len parts dst k' = k' s ad := by
  unfold evBuildSlice at h
  split at h
  · cases h
  · rename_i d
    split at h
    · cases h
    · rename_i hl
      split at h
      · rename_i e el hτ
        obtain ⟨hbig, h⟩ := bif_none h
        split at h
        · rename_i xs bs hx
          refine ⟨_, _, h, (fun p hp => by rw [List.mem_singleton] at hp; subst hp; exact hl), fun σ' hs hp hf {β'} k' => ?_⟩
          have hl' := hf _ (List.mem_singleton.2 rfl)
          simp only [evBuildSlice, hl', hτ, hbig, cond_true, setParts_par hs parts _ _ _ hp hx]
        · cases h
      · cases h

theorem evMake_par {σ : St N} {t : TypeId} {dst : Option Nat} {l c : Operand} {k : KK N β} {r : β} (h : evMake τ σ t dst l c k = some r) :
    ∃ s ad, k s ad = some r ∧ (∀ p ∈ ad, look σ.own p.1 = none) ∧ ∀ σ' : St N, ev σ' l = ev σ l → ev σ' c = ev σ c → (∀ p ∈ ad, look σ'.own p.1 = none) → ∀ {β' : Type} (k' : KK N β'), evMake τ σ' t dst l c k' = k' s ad := by
  unfold evMake at h
  split at h
  · cases h
  · rename_i d
    split at h
    · cases h
    · rename_i hl
      split at h
      · rename_i e el hτ
        split at h
        · rename_i kn n km m hn hm
          have hs : ∀ σ' : St N, sameLen σ' l c = sameLen σ l c := fun σ' => by cases l <;> cases c <;> rfl
          cases hsl : sameLen σ l c with
          | true =>
            rw [hsl, cond_true] at h
            split at h
            · rename_i h0
              split at h
              · rename_i h1
                refine ⟨_, _, h, (fun p hp => by rw [List.mem_singleton] at hp; subst hp; exact hl), fun σ' e1 e2 hf {β'} k' => ?_⟩
                have e3 := hf _ List.mem_cons_self
                simp only at e3
                simp only [evMake, e3, hτ, e1, e2, hn, hm, hs σ', hsl, cond_true, if_pos h0, if_pos h1]
              · cases h
            · cases h
          | false =>
            rw [hsl, cond_false] at h
            cases hz : isZero l with
            | true =>
              rw [hz, cond_true] at h
              split at h
              · rename_i h0
                split at h
                · rename_i h1
                  refine ⟨_, _, h, (fun p hp => by rw [List.mem_singleton] at hp; subst hp; exact hl), fun σ' e1 e2 hf {β'} k' => ?_⟩
                  have e3 := hf _ List.mem_cons_self
                  simp only at e3
                  simp only [evMake, e3, hτ, e1, e2, hn, hm, hs σ', hsl, hz, cond_true, cond_false, if_pos h0, if_pos h1]
                · cases h
              · cases h
            | false =>
              rw [hz, cond_false] at h
              split at h
              · rename_i q hq
                split at h
                · rename_i h0
                  split at h
                  · rename_i h1
                    refine ⟨_, _, h, (fun p hp => by rw [List.mem_singleton] at hp; subst hp; exact hl), fun σ' e1 e2 hf {β'} k' => ?_⟩
                    have e3 := hf _ List.mem_cons_self
                    simp only at e3
                    simp only [evMake, e3, hτ, e1, e2, hn, hm, hs σ', hsl, hz, hq, cond_true, cond_false, if_pos h0, if_pos h1]
                  · cases h
                · cases h
              · cases h
        · cases h
      · cases h
theorem evAlloc_par {own : List (Nat × Blk N)} {t : TypeId} {dst : Option Nat} {k : KK N β} {r : β} (h : evAlloc τ own t dst k = some r) :
    ∃ s ad, k s ad = some r ∧ (∀ p ∈ ad, look own p.1 = none) ∧ ∀ own' : List (Nat × Blk N), (∀ p ∈ ad, look own' p.1 = none) → ∀ {β' : Type} (k' : KK N β'), evAlloc τ own' t dst k' = k' s ad := by
  unfold evAlloc at h
  split at h
  · cases h
  · rename_i d
    split at h
    · cases h
    · rename_i hl
      split at h
      · rename_i e el hτ
        split at h
        · cases h
        · rename_i hl2
          refine ⟨_, _, h, fun p hp => ?_, fun own' hf {β'} k' => ?_⟩
          · rcases List.mem_cons.1 hp with rfl | hp
            · exact hl
            · rw [List.mem_singleton] at hp; subst hp; exact hl2
          · have e1 := hf _ List.mem_cons_self
            have e2 := hf _ (List.mem_cons_of_mem _ List.mem_cons_self)
            simp only at e1 e2
            simp only [evAlloc, e1, e2, hτ]
      · rename_i e hτ
        refine ⟨_, _, h, (fun p hp => by rw [List.mem_singleton] at hp; subst hp; exact hl), fun own' hf {β'} k' => ?_⟩
        have e1 := hf _ List.mem_cons_self
        simp only at e1
        simp only [evAlloc, e1, hτ]
      · rename_i n e hτ
        split at h
        · rename_i T len harr
          refine ⟨_, _, h, (fun p hp => by rw [List.mem_singleton] at hp; subst hp; exact hl), fun own' hf {β'} k' => ?_⟩
          have e1 := hf _ List.mem_cons_self
          simp only at e1
          simp only [evAlloc, e1, hτ, harr]
        · rename_i harr
          cases hd : (N.rowsAt n).isEmpty with
          | true =>
            rw [hd, cond_true] at h
            refine ⟨_, _, h, (fun p hp => by rw [List.mem_singleton] at hp; subst hp; exact hl), fun own' hf {β'} k' => ?_⟩
            have e1 := hf _ List.mem_cons_self
            simp only at e1
            simp only [evAlloc, e1, hτ, harr, hd, cond_true]
          | false =>
            rw [hd, cond_false] at h
            split at h
            rename_i m es hes
            obtain ⟨hc, h⟩ := bif_none h
            refine ⟨_, _, h, fun p hp => ?_, fun own' hf {β'} k' => ?_⟩
            · rcases List.mem_cons.1 hp with rfl | hp
              · exact hl
              · exact freshIds_spec hc _ (List.mem_map.2 ⟨p, hp, rfl⟩)
            · have e1 := hf _ List.mem_cons_self
              simp only at e1
              have e2 : freshIds own' (es.map (·.1)) = true := freshIds_of (fun i hi => by
                obtain ⟨p, hp, rfl⟩ := List.mem_map.1 hi
                exact hf p (List.mem_cons_of_mem _ hp))
              simp only [evAlloc, e1, hτ, harr, hd, cond_false, hes, e2, cond_true]
      · rename_i ty e hn1 hn2 hn3 hτ
        refine ⟨_, _, h, (fun p hp => by rw [List.mem_singleton] at hp; subst hp; exact hl), fun own' hf {β'} k' => ?_⟩
        have e1 := hf _ List.mem_cons_self
        simp only at e1
        cases ty <;> first | exact (hn1 _ rfl).elim | exact (hn2 rfl).elim | exact (hn3 _ rfl).elim | simp only [evAlloc, e1, hτ]
      · cases h

theorem evMM_par {b : Bool} {x y : RV N} {k : KK N β} {r : β} (h : evMM b x y k = some r) :
    ∃ s, k s [] = some r ∧ ∀ {β' : Type} (k' : KK N β'), evMM b x y k' = k' s [] := by
  unfold evMM at h
  split at h
  · cases b with
    | true => exact ⟨_, h, fun {β'} k' => rfl⟩
    | false => exact ⟨_, h, fun {β'} k' => rfl⟩
  · cases h

theorem evConvert_par {own : List (Nat × Blk N)} {t t' : TypeId} {x : RV N} {k : KK N β} {r : β} (h : evConvert τ own t t' x k = some r) :
    ∃ s, k s [] = some r ∧ ∀ own' : List (Nat × Blk N), Sub own own' → ∀ {β' : Type} (k' : KK N β'), evConvert τ own' t t' x k' = k' s [] := by
  unfold evConvert at h
  obtain ⟨hsrc, h⟩ := bif_none h
  split at h
  · rename_i hτ
    split at h
    · exact ⟨_, h, fun own' hs {β'} k' => by simp only [evConvert, hsrc, cond_true, hτ]⟩
    · cases h
  · rename_i hτ
    cases x with
    | str l => exact ⟨_, h, fun own' hs {β'} k' => by simp only [evConvert, hsrc, cond_true, hτ]⟩
    | int _ _ => cases h
    | _ =>
      simp only at h
      split at h
      · rename_i hsr
        split at h
        · rename_i hd
          exact ⟨_, h, fun own' hs {β'} k' => by simp only [evConvert, hτ, hsr, toDen_sub hs hd]; rfl⟩
        · cases h
      · cases h
  · rename_i hτ
    split at h
    · exact ⟨_, h, fun own' hs {β'} k' => by simp only [evConvert, hsrc, cond_true, hτ]⟩
    · cases h
  · cases h

theorem evConv_par {σ : St N} {t t' : TypeId} {dst : Option Nat} {x : RV N} {k : KK N β} {r : β} (h : evConv τ σ t t' dst x k = some r) :
    ∃ s ad, k s ad = some r ∧ (∀ p ∈ ad, look σ.own p.1 = none) ∧ ∀ σ' : St N, Sub σ.own σ'.own → (∀ p ∈ ad, look σ'.own p.1 = none) → ∀ {β' : Type} (k' : KK N β'), evConv τ σ' t t' dst x k' = k' s ad := by
  cases dst with
  | none =>
    obtain ⟨s, h1, h3⟩ := evConvert_par (show evConvert τ σ.own t t' x k = some r from h)
    exact ⟨s, [], h1, (fun p hp => by cases hp), fun σ' hs hf β' k' => h3 _ hs k'⟩
  | some d =>
    unfold evConv at h
    simp only at h
    cases hb : bytesDst τ t' with
    | none =>
      rw [hb] at h
      obtain ⟨s, h1, h3⟩ := evConvert_par h
      exact ⟨s, [], h1, (fun p hp => by cases hp), fun σ' hs hf β' k' => by simp only [evConv, hb]; exact h3 _ hs k'⟩
    | some el =>
      rw [hb] at h
      cases x with
      | str l =>
        simp only at h
        split at h
        · cases h
        · rename_i hl
          obtain ⟨hsrc, h⟩ := bif_none h
          split at h
          · rename_i hlim
            refine ⟨_, _, h, (fun p hp => by rw [List.mem_singleton.1 hp]; exact hl), fun σ' hs hf β' k' => ?_⟩
            have hl' := hf (1000 + d, _) (List.mem_singleton.2 rfl)
            simp only at hl'
            simp only [evConv, hb, hl', hsrc, cond_true, if_pos hlim]
          · cases h
      | _ =>
        obtain ⟨s, h1, h3⟩ := evConvert_par h
        exact ⟨s, [], h1, (fun p hp => by cases hp), fun σ' hs hf β' k' => by simp only [evConv, hb]; exact h3 _ hs k'⟩

theorem evBin_par {op : BinOp} {xt : TypeId} {x y : RV N} {k : RV N → Option β} {r : β} (h : evBin τ op xt x y k = some r) :
    ∃ z, k z = some r ∧ ∀ {β' : Type} (k' : RV N → Option β'), evBin τ op xt x y k' = k' z := by
  have hint : ∀ {op : BinOp} {kx : IntKind} {a b : Int}, evInt op kx a b k = some r → ∃ z, k z = some r ∧ ∀ {β' : Type} (k' : RV N → Option β'), evInt op kx a b k' = k' z := by
    intro op kx a b h
    cases op <;> simp only [evInt] at h ⊢ <;> first
      | exact ⟨_, h, fun {β'} _ => rfl⟩
      | (split at h
         · cases h
         · rename_i hb
           exact ⟨_, h, fun {β'} k' => by rw [if_neg hb]⟩)
      | cases h
  have hsh : ∀ {op : BinOp} {kx : IntKind} {a b : Int}, evShift op kx a b k = some r → ∃ z, k z = some r ∧ ∀ {β' : Type} (k' : RV N → Option β'), evShift op kx a b k' = k' z := by
    intro op kx a b h
    cases op <;> simp only [evShift] at h ⊢ <;> first
      | (split at h
         · rename_i hb
           exact ⟨_, h, fun {β'} k' => by rw [if_pos hb]⟩
         · cases h)
      | cases h
  have hst : ∀ {op : BinOp} {a b : List Int}, evStr op a b k = some r → ∃ z, k z = some r ∧ ∀ {β' : Type} (k' : RV N → Option β'), evStr op a b k' = k' z := by
    intro op a b h
    cases op <;> simp only [evStr] at h ⊢ <;> first
      | exact ⟨_, h, fun {β'} _ => rfl⟩
      | (split at h
         · rename_i hb
           exact ⟨_, h, fun {β'} k' => by rw [if_pos hb]⟩
         · cases h)
      | cases h
  cases x with
  | int kx a =>
    cases y with
    | int ky b =>
      by_cases h1 : op = .shl
      · subst h1
        have h : evShift .shl kx a b k = some r := h
        exact hsh h
      · by_cases h2 : op = .shr
        · subst h2
          have h : evShift .shr kx a b k = some r := h
          exact hsh h
        · have e : ∀ {γ : Type} (k : RV N → Option γ), evBin τ op xt (.int kx a) (.int ky b) k = bif decide (kx = ky) then evInt op kx a b k else none := by
            intro γ k
            cases op <;> first | rfl | exact absurd rfl h1 | exact absurd rfl h2
          rw [e] at h
          obtain ⟨hk, h⟩ := bif_none h
          obtain ⟨z, z1, z2⟩ := hint h
          exact ⟨z, z1, fun {β'} k' => by rw [e, hk]; exact z2 k'⟩
    | _ => cases h
  | str a =>
    cases y with
    | str b => exact hst h
    | _ => cases h
  | bool a =>
    cases y with
    | bool b =>
      simp only [evBin] at h ⊢
      split at h
      · rename_i hτ
        split at h
        · exact ⟨_, h, fun {β'} k' => by simp only [hτ]⟩
        · exact ⟨_, h, fun {β'} k' => by simp only [hτ]⟩
        · cases h
      · cases h
    | _ => cases h
  | data t a bs =>
    cases t with
    | nm n =>
      cases y with
      | data t' b bs' =>
        simp only [evBin] at h ⊢
        split at h
        · rename_i hτ
          split at h
          · rename_i h1 h2
            split at h
            · rename_i h3
              split at h
              · exact ⟨_, h, fun {β'} k' => by simp only [hτ, h1, h2, h3]⟩
              · exact ⟨_, h, fun {β'} k' => by simp only [hτ, h1, h2, h3]⟩
              · cases h
            · cases h
          · cases h
        · cases h
      | _ => cases h
    | _ => cases h
  | _ => cases h

theorem evUn_par {op : UnOp} {x : RV N} {k : RV N → Option β} {r : β} (h : evUn op x k = some r) :
    ∃ z, k z = some r ∧ ∀ {β' : Type} (k' : RV N → Option β'), evUn op x k' = k' z := by
  unfold evUn at h
  split at h
  · exact ⟨_, h, fun {β'} _ => rfl⟩
  · exact ⟨_, h, fun {β'} _ => rfl⟩
  · exact ⟨_, h, fun {β'} _ => rfl⟩
  · cases h

theorem evSlice_par {σ : St N} {t : TypeId} {dst : Option Nat} {x : RV N} {lo hi : Option Operand} {k : KK N β} {r : β} (h : evSlice τ σ t dst x lo hi k = some r) :
    ∃ s, k s [] = some r ∧ ∀ σ' : St N, Sub σ.own σ'.own → (∀ o, lo = some o → ev σ' o = ev σ o) → (∀ o, hi = some o → ev σ' o = ev σ o) → ∀ {β' : Type} (k' : KK N β'), evSlice τ σ' t dst x lo hi k' = k' s [] := by
  have e1 : ∀ σ' : St N, (∀ o, lo = some o → ev σ' o = ev σ o) → cutLo σ' lo = cutLo σ lo := by
    intro σ' hlo
    cases lo with
    | none => rfl
    | some o => simp only [cutLo, hlo o rfl]
  have e2 : ∀ σ' : St N, (∀ o, hi = some o → ev σ' o = ev σ o) → ∀ n, cutHi σ' n hi = cutHi σ n hi := by
    intro σ' hhi n
    cases hi with
    | none => rfl
    | some o => simp only [cutHi, hhi o rfl]
  unfold evSlice at h
  split at h
  · rename_i hτ
    split at h
    · split at h
      · rename_i h1 h2
        split at h
        · rename_i a0
          split at h
          · rename_i a1
            split at h
            · rename_i a2
              exact ⟨_, h, fun σ' hs hlo hhi {β'} k' => by simp only [evSlice, hτ, e1 σ' hlo, e2 σ' hhi, h1, h2, if_pos a0, if_pos a1, if_pos a2]⟩
            · cases h
          · cases h
        · cases h
      · cases h
    · cases h
  · rename_i hτ
    cases ho : oslAt N dst with
    | true =>
      rw [ho, cond_true] at h
      unfold evSliceO at h
      split at h
      · split at h
        · rename_i hl
          obtain ⟨he, h⟩ := bif_none h
          split at h
          · rename_i h1 h2
            split at h
            · rename_i a0
              split at h
              · rename_i a1
                split at h
                · rename_i a2
                  exact ⟨_, h, fun σ' hs hlo hhi {β'} k' => by simp only [evSlice, hτ, ho, cond_true, evSliceO, hs _ _ hl, he, e1 σ' hlo, e2 σ' hhi, h1, h2, if_pos a0, if_pos a1, if_pos a2]⟩
                · cases h
              · cases h
            · cases h
          · cases h
        · cases h
      · cases h
    | false =>
      rw [ho, cond_false] at h
      split at h
      · rename_i hd
        split at h
        · rename_i h1 h2
          split at h
          · rename_i a0
            split at h
            · rename_i a1
              split at h
              · rename_i a2
                exact ⟨_, h, fun σ' hs hlo hhi {β'} k' => by simp only [evSlice, hτ, ho, cond_false, toDen_sub hs hd, e1 σ' hlo, e2 σ' hhi, h1, h2, if_pos a0, if_pos a1, if_pos a2]⟩
              · cases h
            · cases h
          · cases h
        · cases h
      · cases h
  · rename_i hτ
    obtain ⟨s, h1, h2⟩ := evSliceArr_par h
    exact ⟨s, h1, fun σ' hs hlo hhi {β'} k' => by simp only [evSlice, hτ]; exact h2 _ hs k'⟩
  · cases h

theorem capsAre_sub {ι : Type} {ρ ρ' : ι → RV N} {os0 : List ι} (hρ0 : ∀ o ∈ os0, ρ' o = ρ o) : ∀ (js cs : List Nat), capsAre ρ os0 js cs = true → capsAre ρ' os0 js cs = true
  | [], [], h => h
  | [], _ :: _, h => by cases h
  | _ :: _, [], h => by cases h
  | j :: js, c :: cs, h => by
    simp only [capsAre, Bool.and_eq_true] at h ⊢
    refine ⟨?_, capsAre_sub hρ0 js cs h.2⟩
    have h1 := h.1
    split at h1
    · rename_i o ho
      rw [hρ0 o (List.mem_of_getElem? ho)]
      exact h1
    · cases h1
theorem fnIs_sub {ι : Type} {ρ ρ' : ι → RV N} {os0 : List ι} (hρ0 : ∀ o ∈ os0, ρ' o = ρ o) (f : FuncId) (js : List Nat) (r : RV N) (h : fnIs ρ os0 f js r = true) : fnIs ρ' os0 f js r = true := by
  unfold fnIs at h ⊢
  split at h
  · simp only [Bool.and_eq_true] at h ⊢
    exact ⟨h.1, capsAre_sub hρ0 _ _ h.2⟩
  · cases h
theorem cellsIn_sub {own own' : List (Nat × Blk N)} (hs : Sub own own') {fk fk' : FuncId → List Nat → RV N → Bool} (hfk : ∀ f js r, fk f js r = true → fk' f js r = true) : ∀ (l : List CK) (rs : List (RV N)) (x : HC N.ρ l) (B J : List Nat), cellsIn fk own l rs = some (x, B, J) → cellsIn fk' own' l rs = some (x, B, J)
  | [], [], x, B, J, h => h
  | [], _ :: _, x, B, J, h => by cases h
  | .c t :: l, [], x, B, J, h => by cases h
  | .o el e :: l, [], x, B, J, h => by cases h
  | .f f js :: l, [], x, B, J, h => by cases h
  | .c t :: l, r :: rs, x, B, J, h => by
    simp only [cellsIn] at h ⊢
    cases hn : isNm t with
    | true => rw [hn] at h; cases h
    | false =>
      rw [hn] at h
      simp only [cond_false] at h ⊢
      split at h
      · rename_i x1 b1 y B1 J1 h1 h2
        cases h
        rw [toDen_sub hs h1, cellsIn_sub hs hfk l rs _ _ _ h2]
      · cases h
  | .o el e :: l, r :: rs, x, B, J, h => by
    simp only [cellsIn] at h ⊢
    split at h
    · rename_i j
      split at h
      · rename_i el' e' xs bs hl
        obtain ⟨he, h⟩ := bif_none h
        rw [hs _ _ hl]
        simp only [he, cond_true]
        split at h
        · rename_i xs' y B1 J1 h1 h2
          cases h
          rw [h1, cellsIn_sub hs hfk l rs _ _ _ h2]
        · cases h
      · cases h
    · cases h
  | .f f js :: l, r :: rs, x, B, J, h => by
    simp only [cellsIn] at h ⊢
    obtain ⟨hf, h⟩ := bif_none h
    split at h
    · rename_i y B1 J1 h2
      cases h
      rw [hfk f js r hf, cellsIn_sub hs hfk l rs _ _ _ h2]
      rfl
    · cases h

theorem readP_sub {own own' : List (Nat × Blk N)} (hs : Sub own own') {t : Ty} {r : RV N} {y : t.den N.ρ × List Nat} (h : readP own t r = some y) : readP own' t r = some y := by
  unfold readP at h ⊢
  split at h
  · split at h
    · rename_i hl
      simp only [hs _ _ hl]
      exact h
    · rename_i hl
      simp only [hs _ _ hl]
      split at h
      · rename_i hi
        simp only [impl_sub hs 8 _ _ _ hi]
        exact h
      · cases h
    · cases h
  · split at h
    · rename_i hl
      simp only [hs _ _ hl]
      exact h
    · cases h
  · exact h
  · cases h
theorem callIn_sub {ι : Type} {own own' : List (Nat × Blk N)} (hs : Sub own own') {ρ ρ' : ι → RV N} {os0 : List ι} (hρ0 : ∀ o ∈ os0, ρ' o = ρ o) : ∀ (ps : List PK) (os : List ι) (x : HIn N.ρ ps) (B U : List Nat), (∀ o ∈ os, ρ' o = ρ o) → callIn own ρ os0 ps os = some (x, B, [], U) → callIn own' ρ' os0 ps os = some (x, B, [], U)
  | [], [], x, B, U, hρ, h => h
  | [], _ :: _, x, B, U, hρ, h => by cases h
  | .v t :: ps, [], x, B, U, hρ, h => by cases h
  | .io el e :: ps, [], x, B, U, hρ, h => by cases h
  | .bw t :: ps, [], x, B, U, hρ, h => by cases h
  | .bc l :: ps, [], x, B, U, hρ, h => by cases h
  | .fv f :: ps, [], x, B, U, hρ, h => by cases h
  | .fb f :: ps, [], x, B, U, hρ, h => by cases h
  | .ag n l :: ps, [], x, B, U, hρ, h => by cases h
  | .go el e :: ps, [], x, B, U, hρ, h => by cases h
  | .fn f js :: ps, [], x, B, U, hρ, h => by cases h
  | .rp t :: ps, [], x, B, U, hρ, h => by cases h
  | .rp t :: ps, o :: os, x, B, U, hρ, h => by
    simp only [callIn] at h ⊢
    split at h
    · rename_i x1 b1 y1 B1 D1 U1 h1 h2
      cases h
      rw [hρ o List.mem_cons_self, readP_sub hs h1, callIn_sub hs hρ0 ps os _ _ _ (fun o ho => hρ o (List.mem_cons_of_mem _ ho)) h2]
    · cases h
  | .fn f js :: ps, o :: os, x, B, U, hρ, h => by
    simp only [callIn] at h ⊢
    obtain ⟨hf, h⟩ := bif_none h
    split at h
    · rename_i y1 B1 D1 U1 h2
      cases h
      rw [hρ o List.mem_cons_self, fnIs_sub hρ0 _ _ _ hf, callIn_sub hs hρ0 ps os _ _ _ (fun o ho => hρ o (List.mem_cons_of_mem _ ho)) h2]
      rfl
    · cases h
  | .go el e :: ps, o :: os, x, B, U, hρ, h => by
    simp only [callIn] at h ⊢
    split at h
    · split at h
      · obtain ⟨_, h⟩ := bif_none h
        split at h
        · cases h
        · cases h
      · cases h
    · rename_i ho
      split at h
      · rename_i y1 B1 D1 U1 h2
        cases h
        rw [hρ o List.mem_cons_self, ho]
        simp only
        rw [callIn_sub hs hρ0 ps os _ _ _ (fun o ho => hρ o (List.mem_cons_of_mem _ ho)) h2]
      · cases h
    · cases h
  | .ag n l :: ps, o :: os, x, B, U, hρ, h => by
    simp only [callIn] at h ⊢
    split at h
    · rename_i id ho
      split at h
      · rename_i m rs hl
        obtain ⟨hm, h⟩ := bif_none h
        split at h
        · rename_i x1 b1 J1 y1 B1 D1 U1 h1 h2
          simp only [Option.some.injEq, Prod.mk.injEq, List.append_eq_nil_iff] at h
          obtain ⟨rfl, rfl, ⟨rfl, rfl⟩, rfl⟩ := h
          rw [hρ o List.mem_cons_self, ho]
          simp only
          rw [hs _ _ hl]
          simp only [hm, cond_true]
          rw [cellsIn_sub hs (fun f js r h => fnIs_sub hρ0 f js r h) l rs _ _ _ h1, callIn_sub hs hρ0 ps os _ _ _ (fun o ho => hρ o (List.mem_cons_of_mem _ ho)) h2]
          rfl
        · cases h
      · cases h
    · cases h
  | .fv f :: ps, o :: os, x, B, U, hρ, h => by
    simp only [callIn] at h ⊢
    obtain ⟨hf, h⟩ := bif_none h
    split at h
    · rename_i y1 B1 D1 U1 h2
      cases h
      rw [hρ o List.mem_cons_self, hf, callIn_sub hs hρ0 ps os _ _ _ (fun o ho => hρ o (List.mem_cons_of_mem _ ho)) h2]
      rfl
    · cases h
  | .fb f :: ps, o :: os, x, B, U, hρ, h => by
    simp only [callIn] at h
    split at h
    · split at h
      · obtain ⟨_, h⟩ := bif_none h
        split at h
        · cases h
        · cases h
      · cases h
    · cases h
  | .v t :: ps, o :: os, x, B, U, hρ, h => by
    simp only [callIn] at h ⊢
    split at h
    · rename_i x1 b1 y1 B1 D1 U1 h1 h2
      cases h
      rw [hρ o List.mem_cons_self, toDen_sub hs h1, callIn_sub hs hρ0 ps os _ _ _ (fun o ho => hρ o (List.mem_cons_of_mem _ ho)) h2]
    · cases h
  | .io el e :: ps, o :: os, x, B, U, hρ, h => by
    simp only [callIn] at h
    split at h
    · split at h
      · obtain ⟨_, h⟩ := bif_none h
        split at h
        · cases h
        · cases h
      · cases h
    · cases h
  | .bw t :: ps, o :: os, x, B, U, hρ, h => by
    simp only [callIn] at h
    split at h
    · split at h
      · split at h
        · cases h
        · cases h
      · cases h
    · cases h
  | .bc l :: ps, o :: os, x, B, U, hρ, h => by
    simp only [callIn] at h
    split at h
    · split at h
      · split at h
        · cases h
        · cases h
      · cases h
    · cases h

theorem callNew_nil {ι : Type} {own : List (Nat × Blk N)} {ρ : ι → RV N} {B' : List Nat} {os0 : List ι} : ∀ (ps : List PK) (os : List ι) (x : HIn N.ρ ps) (B U : List Nat) (y : HOut N.ρ ps), callIn own ρ os0 ps os = some (x, B, [], U) → callNew own ρ B' ps os y = []
  | [], [], x, B, U, y, h => rfl
  | [], _ :: _, x, B, U, y, h => by cases h
  | .v t :: ps, [], x, B, U, y, h => by cases h
  | .io el e :: ps, [], x, B, U, y, h => by cases h
  | .bw t :: ps, [], x, B, U, y, h => by cases h
  | .bc l :: ps, [], x, B, U, y, h => by cases h
  | .fv f :: ps, [], x, B, U, y, h => by cases h
  | .fb f :: ps, [], x, B, U, y, h => by cases h
  | .ag n l :: ps, [], x, B, U, y, h => by cases h
  | .go el e :: ps, [], x, B, U, y, h => by cases h
  | .fn f js :: ps, [], x, B, U, y, h => by cases h
  | .rp t :: ps, [], x, B, U, y, h => by cases h
  | .rp t :: ps, o :: os, x, B, U, y, h => by
    simp only [callIn] at h
    split at h
    · rename_i x1 b1 y1 B1 D1 U1 h1 h2
      cases h
      exact callNew_nil ps os y1 B1 U y h2
    · cases h
  | .fn f js :: ps, o :: os, x, B, U, y, h => by
    simp only [callIn] at h
    obtain ⟨hf, h⟩ := bif_none h
    split at h
    · rename_i y1 B1 D1 U1 h2
      cases h
      exact callNew_nil ps os y1 B U y h2
    · cases h
  | .go el e :: ps, o :: os, x, B, U, y, h => by
    simp only [callIn] at h
    split at h
    · split at h
      · obtain ⟨_, h⟩ := bif_none h
        split at h
        · cases h
        · cases h
      · cases h
    · split at h
      · rename_i y1 B1 D1 U1 h2
        cases h
        exact callNew_nil ps os y1 B U y h2
      · cases h
    · cases h
  | .ag n l :: ps, o :: os, x, B, U, y, h => by
    simp only [callIn] at h
    split at h
    · split at h
      · obtain ⟨_, h⟩ := bif_none h
        split at h
        · rename_i x1 b1 J1 y1 B1 D1 U1 h1 h2
          simp only [Option.some.injEq, Prod.mk.injEq, List.append_eq_nil_iff] at h
          obtain ⟨rfl, rfl, ⟨rfl, rfl⟩, rfl⟩ := h
          exact callNew_nil ps os y1 B1 U1 y h2
        · cases h
      · cases h
    · cases h
  | .fv f :: ps, o :: os, x, B, U, y, h => by
    simp only [callIn] at h
    obtain ⟨hf, h⟩ := bif_none h
    split at h
    · rename_i y1 B1 D1 U1 h2
      cases h
      exact callNew_nil ps os y1 B U y h2
    · cases h
  | .fb f :: ps, o :: os, x, B, U, y, h => by
    simp only [callIn] at h
    split at h
    · split at h
      · obtain ⟨_, h⟩ := bif_none h
        split at h
        · cases h
        · cases h
      · cases h
    · cases h
  | .v t :: ps, o :: os, x, B, U, y, h => by
    simp only [callIn] at h
    split at h
    · rename_i x1 b1 y1 B1 D1 U1 h1 h2
      cases h
      exact callNew_nil ps os y1 B1 U y h2
    · cases h
  | .io el e :: ps, o :: os, x, B, U, y, h => by
    simp only [callIn] at h
    split at h
    · split at h
      · obtain ⟨_, h⟩ := bif_none h
        split at h
        · cases h
        · cases h
      · cases h
    · cases h
  | .bw t :: ps, o :: os, x, B, U, y, h => by
    simp only [callIn] at h
    split at h
    · split at h
      · split at h
        · cases h
        · cases h
      · cases h
    · cases h
  | .bc l :: ps, o :: os, x, B, U, y, h => by
    simp only [callIn] at h
    split at h
    · split at h
      · split at h
        · cases h
        · cases h
      · cases h
    · cases h

theorem resCellNew_ids (B : List Nat) (d j : Nat) : ∀ (l : List CK) (i : Nat) (x : HC N.ρ l), (resCellNew B d j i l x).map (·.1) = resCellIds d j i l
  | [], i, x => rfl
  | .c t :: l, i, x => resCellNew_ids B d j l (i + 1) x.2
  | .o el e :: l, i, x => by simp [resCellNew, resCellIds, resCellNew_ids B d j l (i + 1) x.2]
  | .f f js :: l, i, x => resCellNew_ids B d j l (i + 1) x.2
theorem resNew_ids (B : List Nat) (d : Nat) : ∀ (rs : List RK) (j : Nat) (x : HRes N.ρ rs), (resNew B d rs j x).map (·.1) = resIds d rs j
  | [], j, x => rfl
  | .v t :: rs, j, x => resNew_ids B d rs (j + 1) x.2
  | .own el e :: rs, j, x => by simp [resNew, resIds, resNew_ids B d rs (j + 1) x.2]
  | .ag n l :: rs, j, x => by simp [resNew, resIds, resNew_ids B d rs (j + 1) x.2, resCellNew_ids B d j l 0 x.1]

/-- A call that only reads what was there. -/
def evCallE {ι : Type} (S : Spec N) (own : List (Nat × Blk N)) (ρ : ι → RV N) (os : List ι) (dst : Option Nat) (k : KK N β) : Option β :=
  match callIn own ρ os S.ps os with
  | some (x, B, [], []) => bif freshIds own (resIds (dst.getD 0) S.rs 0) && nodupB (resIds (dst.getD 0) S.rs 0) then
      (S.f x).bind fun r => k (packS (resSlots B (dst.getD 0) S.rs 0 (S.out r).1)) (resNew B (dst.getD 0) S.rs 0 (S.out r).1)
    else none
  | _ => none

theorem evCallE_par {ι : Type} {S : Spec N} {own : List (Nat × Blk N)} {ρ : ι → RV N} {os : List ι} {dst : Option Nat} {k : KK N β} {r : β} (h : evCallE S own ρ os dst k = some r) :
    ∃ s ad, k s ad = some r ∧ (∀ p ∈ ad, look own p.1 = none) ∧ ∀ (own' : List (Nat × Blk N)) (ρ' : ι → RV N), Sub own own' → (∀ o ∈ os, ρ' o = ρ o) → (∀ p ∈ ad, look own' p.1 = none) → ∀ {β' : Type} (k' : KK N β'), evCallE S own' ρ' os dst k' = k' s ad := by
  unfold evCallE at h
  split at h
  · rename_i x B hc
    obtain ⟨hf, h⟩ := bif_none h
    simp only [Bool.and_eq_true] at hf
    obtain ⟨hf, hnd⟩ := hf
    obtain ⟨y, hy, hk⟩ := Option.bind_eq_some_iff.1 h
    refine ⟨_, _, hk, fun p hp => ?_, fun own' ρ' hs hρ hf' β' k' => ?_⟩
    · refine freshIds_spec hf p.1 ?_
      rw [← resNew_ids (N := N) B (dst.getD 0) S.rs 0 (S.out y).1]
      exact List.mem_map.2 ⟨p, hp, rfl⟩
    · have hfr : freshIds own' (resIds (dst.getD 0) S.rs 0) = true := freshIds_of (fun i hi => by
        rw [← resNew_ids (N := N) B (dst.getD 0) S.rs 0 (S.out y).1] at hi
        obtain ⟨p, hp, rfl⟩ := List.mem_map.1 hi
        exact hf' p hp)
      simp only [evCallE, callIn_sub hs hρ S.ps os x B [] hρ hc, hfr, hnd, Bool.and_self, cond_true, hy, Option.bind_some]
  · cases h

theorem noBsD_nil (own : List (Nat × Blk N)) : noBsD own [] = true := by
  unfold noBsD
  rw [List.all_eq_true]
  rintro ⟨i, b⟩ _
  have : ∀ l, meets [] l = false := fun l => by
    unfold meets
    rw [List.any_eq_false]
    intro i _
    simp
  cases b <;> simp [this]

theorem evCallE_eq {ι : Type} {S : Spec N} {σ : St N} {ρ : ι → RV N} {os : List ι} {dst : Option Nat} {s : Slot N} {ad : List (Nat × Blk N)} (h : evCallE S σ.own ρ os dst (fun s ad => some (s, ad)) = some (s, ad)) {k : Slot N → St N → Option β} :
    evCall S σ ρ os dst k = k s { σ with own := insAll ad σ.own } := by
  unfold evCallE at h
  split at h
  · rename_i x B hc
    obtain ⟨hf, h⟩ := bif_none h
    simp only [Bool.and_eq_true] at hf
    obtain ⟨hf, hnd⟩ := hf
    obtain ⟨y, hy, hk⟩ := Option.bind_eq_some_iff.1 h
    cases hk
    have hm : meets [] B = false := by
      unfold meets
      rw [List.any_eq_false]
      intro i _
      simp
    simp only [evCall, hc, hnd, show nodupB ([] : List Nat) = true from rfl, hm, noBsD_nil, hf, Bool.not_false, Bool.and_self, cond_true, hy, Option.bind_some, havR, callNew_nil S.ps os x B [] _ hc, List.nil_append]
  · cases h

def usesT (o : Oper) : List Nat := o.op.operands.toList.filterMap fun | .tmp t => some t | _ => none

structure Agree (o : Oper) (σ σ' : St N) : Prop where
  regs : ∀ t ∈ usesT o, σ'.reg t = σ.reg t
  sub : Sub σ.own σ'.own

theorem ev_const (σ σ' : St N) (v : Value) : Eng.ev σ' (.const v) = Eng.ev σ (.const v) := by
  cases v with
  | slice a l c =>
    cases a with
    | none =>
      cases l with
      | zero =>
        cases c with
        | zero => rfl
        | succ _ => rfl
      | succ _ => rfl
    | some _ => rfl
  | _ => rfl

theorem Agree.ev {o : Oper} {σ σ' : St N} (h : Agree o σ σ') {x : Operand} (hx : x ∈ o.op.operands.toList) : Eng.ev σ' x = Eng.ev σ x := by
  cases x with
  | tmp t =>
    have := h.regs t (List.mem_filterMap.2 ⟨_, hx, rfl⟩)
    simp only [Eng.ev, this]
  | const v => exact ev_const σ σ' v
  | _ => rfl

theorem evMoveS_par {o : Oper} {σ : St N} {ty : TypeId} {dst : Option Nat} {x : Operand} (hx : x ∈ o.op.operands.toList) {k : KK N β} {r : β} (h : evMoveS τ σ ty dst x k = some r) :
    ∃ s ad, k s ad = some r ∧ (∀ p ∈ ad, look σ.own p.1 = none) ∧ ∀ σ' : St N, Agree o σ σ' → (∀ p ∈ ad, look σ'.own p.1 = none) → ∀ {β' : Type} (k' : KK N β'), evMoveS τ σ' ty dst x k' = k' s ad := by
  have base : evMove τ σ.own ty dst (ev σ x) k = some r → (∀ (σ' : St N), Agree o σ σ' → ∀ {β' : Type} (k' : KK N β'), evMoveS τ σ' ty dst x k' = evMove τ σ'.own ty dst (ev σ' x) k') → ∃ s ad, k s ad = some r ∧ (∀ p ∈ ad, look σ.own p.1 = none) ∧ ∀ σ' : St N, Agree o σ σ' → (∀ p ∈ ad, look σ'.own p.1 = none) → ∀ {β' : Type} (k' : KK N β'), evMoveS τ σ' ty dst x k' = k' s ad := by
    intro hb he
    obtain ⟨s, ad, h1, h2, h3⟩ := evMove_par hb
    exact ⟨s, ad, h1, h2, fun σ' hA hf β' k' => by rw [he σ' hA k', hA.ev hx]; exact h3 _ hf k'⟩
  cases x with
  | tmp t =>
    have ht : t ∈ usesT o := List.mem_filterMap.2 ⟨_, hx, rfl⟩
    unfold evMoveS at h
    simp only at h
    cases hl : σ.reg t with
    | tup l =>
      rw [hl] at h
      exact ⟨_, _, h, (fun p hp => by cases hp), fun σ' hA hf β' k' => by simp only [evMoveS, hA.regs t ht, hl]⟩
    | one r0 =>
      rw [hl] at h
      exact base h (fun σ' hA β' k' => by simp only [evMoveS, hA.regs t ht, hl])
  | const v => exact base h (fun σ' hA β' k' => rfl)
  | global g => exact base h (fun σ' hA β' k' => rfl)
  | func f => exact base h (fun σ' hA β' k' => rfl)

def bxB (own : List (Nat × Blk N)) (id : Nat) : Bool := match look own id with
  | some (.whole _ _ _) => true
  | some (.cells _) => true
  | _ => false
theorem argR_sub {σ σ' : St N} (hs : Sub σ.own σ'.own) {id : Nat} (h : bxB σ.own id = true) : argR σ' (.cap id) = argR σ (.cap id) := by
  unfold bxB at h
  simp only [argR]
  split at h
  · rename_i hl
    first | rw [hl, hs _ _ hl] | rw [hs _ _ hl]
  · rename_i hl
    first | rw [hl, hs _ _ hl] | rw [hs _ _ hl]
  · cases h

def evE (τ : TypeId → Option TI) (Φ : FuncId → Option (Spec N)) (o : Oper) (σ : St N) (k : KK N β) : Option β :=
  match o.op with
  | .move x => evMoveS τ σ o.type o.dst x k
  | .assign x => evMoveS τ σ o.type o.dst x k
  | .load t x => evLoad τ σ.own t o.dst (ev σ x) k
  | .nilCheck x => match ev σ x with
    | .bptr i j => k (.one (.bptr i j)) []
    | .sptr t y bs => k (.one (.sptr t y bs)) []
    | .optr i j l => k (.one (.optr i j l)) []
    | .fn f caps => k (.one (.fn f caps)) []
    | _ => none
  | .binOp op t x y _ => evBin τ op t (ev σ x) (ev σ y) fun z => k (.one z) []
  | .unOp op _ x => evUn op (ev σ x) fun z => k (.one z) []
  | .convert t t' x => evConv τ σ t t' o.dst (ev σ x) k
  | .slice t x lo hi none => evSlice τ σ t o.dst (ev σ x) lo hi k
  | .pick c x y => match ev σ c with
    | .bool b => bif b then evMove τ σ.own o.type o.dst (ev σ x) k else evMove τ σ.own o.type o.dst (ev σ y) k
    | _ => none
  | .alloc t => evAlloc τ σ.own t o.dst k
  | .build t ps => evBuild τ σ t o.dst ps.toList k
  | .buildSlice t n ps => evBuildSlice τ σ t n ps.toList o.dst k
  | .makeSlice t l c => evMake τ σ t o.dst l c k
  | .fieldAddr t x f => evFieldAddr τ t (ev σ x) f k
  | .field t x f => evField τ σ.own t o.dst (ev σ x) f k
  | .indexAddr t x i => evIndexAddr τ σ.own t (ev σ x) (ev σ i) k
  | .index t x i => evIndex τ t (ev σ x) (ev σ i) k
  | .extract x i => match x with
    | .tmp t => match σ.reg t with
      | .tup l => match l[i]? with
        | some r => k (.one r) []
        | none => none
      | _ => none
    | _ => none
  | .call c => match c.callee with
    | .value f => match ev σ f with
      | .fn f caps => match pickS Φ f (c.args.toList.map (ev σ)) with
        | some S => bif Nat.beq S.gh 0 && Nat.beq S.ps.length (c.args.toList.map Arg.op ++ caps.map Arg.cap).length && caps.all (bxB σ.own) then evCallE S σ.own (argR σ) (c.args.toList.map Arg.op ++ caps.map Arg.cap) o.dst k else none
        | none => none
      | _ => none
    | .builtin .len => match c.args.toList, c.argTypes.toList with
      | [x], [t] => evLen τ σ.own t (ev σ x) k
      | _, _ => none
    | .builtin .min => match c.args.toList with
      | [x, y] => evMM true (ev σ x) (ev σ y) k
      | _ => none
    | .builtin .max => match c.args.toList with
      | [x, y] => evMM false (ev σ x) (ev σ y) k
      | _ => none
    | _ => none
  | _ => none

theorem evE_par {Φ : FuncId → Option (Spec N)} {o : Oper} {σ : St N} {k : KK N β} {r : β} (h : evE τ Φ o σ k = some r) :
    ∃ s ad, k s ad = some r ∧ (∀ p ∈ ad, look σ.own p.1 = none) ∧ ∀ σ' : St N, Agree o σ σ' → (∀ p ∈ ad, look σ'.own p.1 = none) → ∀ {β' : Type} (k' : KK N β'), evE τ Φ o σ' k' = k' s ad := by
  obtain ⟨dst, op, ty, pos, after, guard⟩ := o
  have none0 : ∀ (own : List (Nat × Blk N)), ∀ p ∈ ([] : List (Nat × Blk N)), look own p.1 = none := fun own p hp => by cases hp
  unfold evE at h
  cases op with
  | move x =>
    obtain ⟨s, ad, h1, h2, h3⟩ := evMoveS_par (o := ⟨dst, .move x, ty, pos, after, guard⟩) (by simp [Op.operands]) h
    exact ⟨s, ad, h1, h2, fun σ' hA hf β' k' => h3 σ' hA hf k'⟩
  | assign x =>
    obtain ⟨s, ad, h1, h2, h3⟩ := evMoveS_par (o := ⟨dst, .assign x, ty, pos, after, guard⟩) (by simp [Op.operands]) h
    exact ⟨s, ad, h1, h2, fun σ' hA hf β' k' => h3 σ' hA hf k'⟩
  | build t ps =>
    obtain ⟨s, ad, h1, h2, h3⟩ := evBuild_par h
    exact ⟨s, ad, h1, h2, fun σ' hA hf β' k' => by simp only [evE]; exact h3 σ' hA.sub (fun p hp => hA.ev (by simp only [Op.operands]; exact List.mem_map.2 ⟨p, hp, rfl⟩)) hf k'⟩
  | makeSlice t l c =>
    obtain ⟨s, ad, h1, h2, h3⟩ := evMake_par h
    exact ⟨s, ad, h1, h2, fun σ' hA hf β' k' => by simp only [evE]; exact h3 σ' (hA.ev (by simp [Op.operands])) (hA.ev (by simp [Op.operands])) hf k'⟩
  | alloc t =>
    obtain ⟨s, ad, h1, h2, h3⟩ := evAlloc_par h
    exact ⟨s, ad, h1, h2, fun σ' hA hf β' k' => by simp only [evE]; exact h3 _ hf k'⟩
  | buildSlice t n ps =>
    obtain ⟨s, ad, h1, h2, h3⟩ := evBuildSlice_par h
    exact ⟨s, ad, h1, h2, fun σ' hA hf β' k' => by simp only [evE]; exact h3 σ' hA.sub (fun p hp => hA.ev (by simp only [Op.operands]; exact List.mem_map.2 ⟨p, hp, rfl⟩)) hf k'⟩
  | pick c x y =>
    simp only at h
    split at h
    · rename_i b hb
      have hc : ∀ σ' : St N, Agree ⟨dst, .pick c x y, ty, pos, after, guard⟩ σ σ' → ev σ' c = .bool b := fun σ' hA => by rw [hA.ev (x := c) (by simp [Op.operands])]; exact hb
      cases b with
      | true =>
        simp only [cond_true] at h
        obtain ⟨s, ad, h1, h2, h3⟩ := evMove_par h
        refine ⟨s, ad, h1, h2, fun σ' hA hf β' k' => ?_⟩
        simp only [evE, hc σ' hA, hA.ev (x := x) (by simp [Op.operands]), cond_true]
        exact h3 _ hf k'
      | false =>
        simp only [cond_false] at h
        obtain ⟨s, ad, h1, h2, h3⟩ := evMove_par h
        refine ⟨s, ad, h1, h2, fun σ' hA hf β' k' => ?_⟩
        simp only [evE, hc σ' hA, hA.ev (x := y) (by simp [Op.operands]), cond_false]
        exact h3 _ hf k'
    · cases h
  | load t x =>
    obtain ⟨s, ad, h1, h2, h3⟩ := evLoad_par h
    exact ⟨s, ad, h1, h2, fun σ' hA hf β' k' => by simp only [evE, hA.ev (x := x) (by simp [Op.operands])]; exact h3 _ hA.sub hf k'⟩
  | nilCheck x =>
    simp only at h
    split at h
    · rename_i hx
      exact ⟨_, _, h, none0 _, fun σ' hA hf β' k' => by simp only [evE, hA.ev (x := x) (by simp [Op.operands]), hx]⟩
    · rename_i hx
      exact ⟨_, _, h, none0 _, fun σ' hA hf β' k' => by simp only [evE, hA.ev (x := x) (by simp [Op.operands]), hx]⟩
    · rename_i hx
      exact ⟨_, _, h, none0 _, fun σ' hA hf β' k' => by simp only [evE, hA.ev (x := x) (by simp [Op.operands]), hx]⟩
    · rename_i hx
      exact ⟨_, _, h, none0 _, fun σ' hA hf β' k' => by simp only [evE, hA.ev (x := x) (by simp [Op.operands]), hx]⟩
    · cases h
  | binOp op t x y yt =>
    obtain ⟨z, h1, h3⟩ := evBin_par h
    exact ⟨.one z, [], h1, none0 _, fun σ' hA hf β' k' => by simp only [evE, hA.ev (x := x) (by simp [Op.operands]), hA.ev (x := y) (by simp [Op.operands])]; exact h3 fun z => k' (.one z) []⟩
  | unOp op t x =>
    obtain ⟨z, h1, h3⟩ := evUn_par h
    exact ⟨.one z, [], h1, none0 _, fun σ' hA hf β' k' => by simp only [evE, hA.ev (x := x) (by simp [Op.operands])]; exact h3 fun z => k' (.one z) []⟩
  | convert t t' x =>
    obtain ⟨s, ad, h1, h2, h3⟩ := evConv_par h
    exact ⟨s, ad, h1, h2, fun σ' hA hf β' k' => by simp only [evE, hA.ev (x := x) (by simp [Op.operands])]; exact h3 _ hA.sub hf k'⟩
  | slice t x lo hi mx =>
    cases mx with
    | none =>
      obtain ⟨s, h1, h3⟩ := evSlice_par h
      refine ⟨s, [], h1, none0 _, fun σ' hA hf β' k' => ?_⟩
      simp only [evE, hA.ev (x := x) (by simp [Op.operands])]
      exact h3 σ' hA.sub (fun o ho => hA.ev (by simp [Op.operands, ho])) (fun o ho => hA.ev (by simp [Op.operands, ho])) k'
    | some m => cases h
  | fieldAddr t x f =>
    obtain ⟨s, h1, h3⟩ := evFieldAddr_par h
    exact ⟨s, [], h1, none0 _, fun σ' hA hf β' k' => by simp only [evE, hA.ev (x := x) (by simp [Op.operands])]; exact h3 k'⟩
  | field t x f =>
    obtain ⟨s, ad, h1, h2, h3⟩ := evField_par h
    exact ⟨s, ad, h1, h2, fun σ' hA hf β' k' => by simp only [evE, hA.ev (x := x) (by simp [Op.operands])]; exact h3 _ hA.sub hf k'⟩
  | indexAddr t x i =>
    obtain ⟨s, h1, h3⟩ := evIndexAddr_par h
    exact ⟨s, [], h1, none0 _, fun σ' hA hf β' k' => by simp only [evE, hA.ev (x := x) (by simp [Op.operands]), hA.ev (x := i) (by simp [Op.operands])]; exact h3 _ hA.sub k'⟩
  | index t x i =>
    obtain ⟨s, h1, h3⟩ := evIndex_par h
    exact ⟨s, [], h1, none0 _, fun σ' hA hf β' k' => by simp only [evE, hA.ev (x := x) (by simp [Op.operands]), hA.ev (x := i) (by simp [Op.operands])]; exact h3 k'⟩
  | extract x i =>
    simp only at h
    split at h
    · rename_i t
      split at h
      · rename_i l hl
        split at h
        · rename_i z hz
          refine ⟨_, _, h, none0 _, fun σ' hA hf β' k' => ?_⟩
          have := hA.regs t (by simp [usesT, Op.operands])
          simp only [evE, this, hl, hz]
        · cases h
      · cases h
    · cases h
  | call c =>
    simp only at h
    split at h
    · rename_i f hf
      split at h
      · rename_i f' caps hfn
        split at h
        · rename_i S hS
          obtain ⟨hg, h⟩ := bif_none h
          have hg' := hg
          simp only [Bool.and_eq_true] at hg'
          have hbx := List.all_eq_true.1 hg'.2
          obtain ⟨s, ad, h1, h2, h3⟩ := evCallE_par h
          refine ⟨s, ad, h1, h2, fun σ' hA hfr β' k' => ?_⟩
          have e1 : ev σ' f = .fn f' caps := by
            rw [hA.ev (x := f) (by simp [Op.operands, Call.operands, hf])]
            exact hfn
          have e3 : ∀ y ∈ c.args.toList, ev σ' y = ev σ y := fun y hy => hA.ev (by simp only [Op.operands, Call.operands, Array.toList_append, List.mem_append]; exact .inr hy)
          have e2 : c.args.toList.map (ev σ') = c.args.toList.map (ev σ) := List.map_congr_left e3
          have e4 : caps.all (bxB σ'.own) = true := by
            rw [List.all_eq_true]
            intro y hy
            have := hbx y hy
            unfold bxB at this ⊢
            split at this
            · rename_i hl; rw [hA.sub _ _ hl]
            · rename_i hl; rw [hA.sub _ _ hl]
            · cases this
          simp only [evE, hf, e1, e2, hS, hg'.1, e4, Bool.and_self, cond_true]
          refine h3 _ _ hA.sub (fun o ho => ?_) hfr k'
          rcases List.mem_append.1 ho with ho | ho
          · obtain ⟨y, hy, rfl⟩ := List.mem_map.1 ho
            exact e3 y hy
          · obtain ⟨y, hy, rfl⟩ := List.mem_map.1 ho
            exact argR_sub hA.sub (hbx y hy)
        · cases h
      · cases h
    · rename_i hb
      split at h
      · rename_i x t hx ht
        obtain ⟨s, h1, h3⟩ := evLen_par h
        refine ⟨s, [], h1, none0 _, fun σ' hA hf β' k' => ?_⟩
        have e1 : ev σ' x = ev σ x := hA.ev (by simp only [Op.operands, Call.operands, Array.toList_append, List.mem_append, hx]; exact .inr List.mem_cons_self)
        simp only [evE, hb, hx, ht, e1]
        exact h3 _ hA.sub k'
      · cases h
    · rename_i hb
      split at h
      · rename_i x y hx
        obtain ⟨s, h1, h3⟩ := evMM_par h
        refine ⟨s, [], h1, none0 _, fun σ' hA hf β' k' => ?_⟩
        have e1 : ev σ' x = ev σ x := hA.ev (by simp only [Op.operands, Call.operands, Array.toList_append, List.mem_append, hx]; exact .inr List.mem_cons_self)
        have e2 : ev σ' y = ev σ y := hA.ev (by simp only [Op.operands, Call.operands, Array.toList_append, List.mem_append, hx]; exact .inr (List.mem_cons_of_mem _ List.mem_cons_self))
        simp only [evE, hb, hx, e1, e2]
        exact h3 k'
      · cases h
    · rename_i hb
      split at h
      · rename_i x y hx
        obtain ⟨s, h1, h3⟩ := evMM_par h
        refine ⟨s, [], h1, none0 _, fun σ' hA hf β' k' => ?_⟩
        have e1 : ev σ' x = ev σ x := hA.ev (by simp only [Op.operands, Call.operands, Array.toList_append, List.mem_append, hx]; exact .inr List.mem_cons_self)
        have e2 : ev σ' y = ev σ y := hA.ev (by simp only [Op.operands, Call.operands, Array.toList_append, List.mem_append, hx]; exact .inr (List.mem_cons_of_mem _ List.mem_cons_self))
        simp only [evE, hb, hx, e1, e2]
        exact h3 k'
      · cases h
    · cases h
  | _ => cases h

theorem evE_evOp {Φ : FuncId → Option (Spec N)} {o : Oper} {σ : St N} {s : Slot N} {ad : List (Nat × Blk N)} (h : evE τ Φ o σ (fun s ad => some (s, ad)) = some (s, ad)) (hp : ∀ {β' : Type} (k' : KK N β'), evE τ Φ o σ k' = k' s ad) {k : St N → Option β} :
    evOp τ Φ o σ k = k (({ σ with own := insAll ad σ.own } : St N).put o.dst s) := by
  obtain ⟨dst, op, ty, pos, after, guard⟩ := o
  have h1 := hp (fin1 σ dst k)
  cases op with
  | call c =>
    simp only [evE, evOp] at h h1 ⊢
    cases hc : c.callee with
    | value f =>
      simp only [hc] at h h1 ⊢
      cases hf : ev σ f with
      | fn f' caps =>
        simp only [hf] at h h1 ⊢
        simp only [evCallee]
        cases hS : pickS Φ f' (c.args.toList.map (ev σ)) with
        | none => rw [hS] at h; cases h
        | some S =>
          simp only [hS] at h h1 ⊢
          obtain ⟨hg, h⟩ := bif_none h
          simp only [Bool.and_eq_true] at hg
          have hg0 := Nat.eq_of_beq_eq_true hg.1.1
          have hg1 := Nat.eq_of_beq_eq_true hg.1.2
          have hg2 : Nat.beq S.ps.length ((c.args.toList.map Arg.op ++ caps.map Arg.cap).length + S.gh) = true := by
            rw [hg0, Nat.add_zero, hg1]
            exact Nat.beq_refl _
          rw [hg2, cond_true]
          rw [show (c.args.toList.map Arg.op ++ caps.map Arg.cap) ++ (ghostIds σ.own S.ps S.gh ((c.args.toList.map Arg.op ++ caps.map Arg.cap).map (argR σ))).map Arg.cap = c.args.toList.map Arg.op ++ caps.map Arg.cap from by rw [hg0]; simp [ghostIds]]
          rw [evCallE_eq h]
          rfl
      | _ => rw [hf] at h; cases h
    | invoke r m => rw [hc] at h; cases h
    | builtin b =>
      simp only [hc] at h h1 ⊢
      cases b with
      | len =>
        simp only at h h1 ⊢
        exact h1
      | min =>
        simp only at h h1 ⊢
        exact h1
      | max =>
        simp only at h h1 ⊢
        exact h1
      | _ => cases h
  | slice t x lo hi mx =>
    cases mx with
    | none => exact h1
    | some m => cases h
  | extract x i =>
    simp only [evE, evOp] at h h1 ⊢
    exact h1
  | pick c x y =>
    simp only [evE, evOp] at h h1 ⊢
    cases hx : ev σ c <;> rw [hx] at h h1 <;> first | exact h1 | cases h
  | nilCheck x =>
    simp only [evE, evOp] at h h1 ⊢
    cases hx : ev σ x <;> rw [hx] at h h1 <;> first | exact h1 | cases h
  | move x => exact h1
  | build t ps => exact h1
  | alloc t => exact h1
  | makeSlice t l c => exact h1
  | buildSlice t n ps => exact h1
  | assign x => exact h1
  | load t x => exact h1
  | binOp op t x y yt =>
    have hn : isNilC y = false := by
      cases hy : isNilC y with
      | false => rfl
      | true =>
        exfalso
        have hy' : y = .const (.slice none 0 0) := by
          unfold isNilC at hy
          split at hy
          · rfl
          · cases hy
        subst hy'
        simp only [evE, show ev σ (.const (.slice none 0 0)) = (.nil : RV N) from rfl] at h
        unfold evBin at h
        cases hx : ev σ x with
        | data t' a bs => rw [hx] at h; cases t' <;> cases h
        | _ => rw [hx] at h; cases h
    have hnf : isNilF y = false := by
      cases hy : isNilF y with
      | false => rfl
      | true =>
        exfalso
        obtain rfl := isNilF_spec hy
        simp only [evE, show ev σ (.const .nilFunc) = (.nilf : RV N) from rfl] at h
        unfold evBin at h
        cases hx : ev σ x with
        | data t' a bs => rw [hx] at h; cases t' <;> cases h
        | _ => rw [hx] at h; cases h
    simp only [evE, evOp, hn, hnf] at h1 ⊢
    exact h1
  | unOp op t x => exact h1
  | convert t t' x => exact h1
  | fieldAddr t x f => exact h1
  | field t x f => exact h1
  | indexAddr t x i => exact h1
  | index t x i => exact h1
  | _ => cases h

/-- An operation that reads or adds: its effect, wherever it is carried out. -/
theorem evE_does (F : Fits P N τ) {Φ : FuncId → Option (Spec N)} (hΦ : ∀ f S, Φ f = some S → Good P (f % 1000000) S) {o : Oper} {σ : St N} {k : KK N β} {r : β} (h : evE τ Φ o σ k = some r) :
    ∃ s ad, k s ad = some r ∧ (∀ p ∈ ad, look σ.own p.1 = none) ∧ ∀ σ' : St N, Agree o σ σ' → (∀ p ∈ ad, look σ'.own p.1 = none) → DoesO P o σ' (({ σ' with own := insAll ad σ'.own } : St N).put o.dst s) ∧ ∀ {β' : Type} (k' : KK N β'), evE τ Φ o σ' k' = k' s ad := by
  obtain ⟨s, ad, h1, h2, h3⟩ := evE_par h
  refine ⟨s, ad, h1, h2, fun σ' hA hf => ⟨?_, fun k' => h3 σ' hA hf k'⟩⟩
  have hp : ∀ {β' : Type} (k' : KK N β'), evE τ Φ o σ' k' = k' s ad := fun k' => h3 σ' hA hf k'
  have := evE_evOp (hp fun s ad => some (s, ad)) hp (k := fun σ => some σ)
  obtain ⟨σ1, e1, e2⟩ := evOp_sound F hΦ this
  cases e1
  exact e2

end Go.Eng

set_option linter.unusedVariables false
set_option linter.unusedSimpArgs false
namespace Go.Eng
variable {N : Names} {P : Program} {τ : TypeId → Option TI} {β : Type}
structure Eff (N : Names) where
 dst : Option Nat
 s : Slot N
 ad : List (Nat × Blk N)
def applyE (σ : St N) (e : Eff N) : St N := ({ regs := σ.regs, own := insAll e.ad σ.own } : St N).put e.dst e.s
def sq (σ0 : St N) (eff : Nat → Eff N) : List Nat → St N
 | [] => σ0
 | j :: L => applyE (sq σ0 eff L) (eff j)
def predsOf (ops : List Oper) (i : Nat) : List Nat := match ops[i]? with
 | some o => (o.after.toList.filter (Region.binds .any)).map (·.on)
 | none => []
def addAll : List Nat → List Nat → List Nat
 | [], l => l
 | i :: r, l => bif l.contains i then addAll r l else addAll r (i :: l)
/-! What is done before operation i in any case: bits of a number, row by row. -/
def rowM (T : List Nat) (n : Nat) : List Nat → Nat
 | [] => 0
 | j :: r => Nat.lor (Nat.lor (2 ^ j) (bif Nat.blt j n then T.getD (n - 1 - j) 0 else 0)) (rowM T n r)
def extM (ops : List Oper) (n : Nat) (T : List Nat) : List Nat := rowM T n (predsOf ops n) :: T
def cloM (ops : List Oper) : Nat → List Nat
 | 0 => []
 | n + 1 => extM ops n (cloM ops n)
def bitsDown (m : Nat) : Nat → List Nat
 | 0 => []
 | k + 1 => bif m.testBit k then k :: bitsDown m k else bitsDown m k
def clo (ops : List Oper) (_ i : Nat) : List Nat := bitsDown ((cloM ops (i + 1)).headD 0) i
def CloR (ops : List Oper) (j k : Nat) : Prop := ∀ S : Nat → Prop, (∀ j, S j → ∀ k ∈ predsOf ops j, S k) → (∀ k ∈ predsOf ops j, S k) → S k
theorem rowM_bit {ops : List Oper} {T : List Nat} {n : Nat} (hT : ∀ j, j < n → ∀ k, (T.getD (n - 1 - j) 0).testBit k = true → CloR ops j k) {i : Nat} : ∀ (l : List Nat), (∀ j ∈ l, j ∈ predsOf ops i) → ∀ k, (rowM T n l).testBit k = true → CloR ops i k
 | [], _, k, h => by simp [rowM] at h
 | j :: r, hl, k, h => by
  have h : (Nat.lor (Nat.lor (2 ^ j) (bif Nat.blt j n then T.getD (n - 1 - j) 0 else 0)) (rowM T n r)).testBit k = true := h
  rw [show ∀ a b, Nat.lor a b = a ||| b from fun _ _ => rfl, show ∀ a b, Nat.lor a b = a ||| b from fun _ _ => rfl, Nat.testBit_or, Nat.testBit_or, Bool.or_eq_true, Bool.or_eq_true] at h
  rcases h with (h | h) | h
  ·rw [Nat.testBit_two_pow, decide_eq_true_eq] at h
   subst h
   exact fun S _ hp => hp _ (hl _ List.mem_cons_self)
  ·cases hb : Nat.blt j n with
   | false => rw [hb] at h; simp at h
   | true =>
    rw [hb, cond_true] at h
    have hj : j < n := by simpa [Nat.blt_eq] using hb
    exact fun S hS hp => hT j hj k h S hS (hS j (hp j (hl _ List.mem_cons_self)))
  ·exact rowM_bit hT r (fun j hj => hl j (List.mem_cons_of_mem _ hj)) k h
theorem cloM_bit {ops : List Oper} : ∀ (n : Nat), ∀ j, j < n → ∀ k, ((cloM ops n).getD (n - 1 - j) 0).testBit k = true → CloR ops j k
 | 0, j, hj => by omega
 | n + 1, j, hj => by
  intro k h
  by_cases e : j = n
  ·subst e
   rw [show j + 1 - 1 - j = 0 from by omega] at h
   exact rowM_bit (cloM_bit j) _ (fun _ h => h) k h
  ·rw [show n + 1 - 1 - j = (n - 1 - j) + 1 from by omega] at h
   exact cloM_bit n j (by omega) k h
theorem mem_bitsDown {m : Nat} : ∀ {n k : Nat}, k ∈ bitsDown m n → m.testBit k = true
 | 0, k, h => by cases h
 | n + 1, k, h => by
  unfold bitsDown at h
  cases hb : m.testBit n with
  | false => rw [hb, cond_false] at h; exact mem_bitsDown h
  | true =>
   rw [hb, cond_true] at h
   rcases List.mem_cons.1 h with rfl | h
   ·exact hb
   ·exact mem_bitsDown h
theorem clo_sub {ops : List Oper} {S : Nat → Prop} (hS : ∀ j, S j → ∀ k ∈ predsOf ops j, S k) (f i : Nat) (h : ∀ k ∈ predsOf ops i, S k) (k : Nat) (hk : k ∈ clo ops f i) : S k := by
 have h1 := mem_bitsDown hk
 refine cloM_bit (ops := ops) (i + 1) i (by omega) k ?_ S hS h
 rw [show i + 1 - 1 - i = 0 from by omega]
 have : (cloM ops (i + 1)).headD 0 = (cloM ops (i + 1)).getD 0 0 := rfl
 rw [← this]
 exact h1
theorem reg_putS {σ : St N} {d : Nat} {s : Slot N} (hd : d < σ.regs.length) (t : Nat) : (σ.putS d s).reg t = if d = t then s else σ.reg t := by
 unfold St.putS St.reg
 simp only [List.getD_eq_getElem?_getD, List.getElem?_set]
 by_cases h : d = t
 ·subst h; simp [hd]
 ·simp [h]
theorem applyE_regs (σ : St N) (e : Eff N) : (applyE σ e).regs.length = σ.regs.length := by
 unfold applyE St.put St.putS
 cases e.dst <;> simp
theorem sq_regs (σ0 : St N) (eff : Nat → Eff N) : ∀ L, (sq σ0 eff L).regs.length = σ0.regs.length
 | [] => rfl
 | j :: L => by rw [sq, applyE_regs, sq_regs σ0 eff L]
theorem applyE_reg {σ : St N} {e : Eff N} (hd : ∀ d, e.dst = some d → d < σ.regs.length) (t : Nat) : (applyE σ e).reg t = if e.dst = some t then e.s else σ.reg t := by
 unfold applyE
 cases h : e.dst with
 | none => rfl
 | some d =>
  simp only [St.put]
  rw [reg_putS (by exact hd d h)]
  by_cases hdt : d = t
  ·simp [hdt]
  ·simp [hdt]; rfl
theorem applyE_own (σ : St N) (e : Eff N) (id : Nat) : look (applyE σ e).own id = match look e.ad id with
  | some b => some b
  | none => look σ.own id := by
 have h : (applyE σ e).own = insAll e.ad σ.own := by
  unfold applyE St.put St.putS
  cases e.dst <;> rfl
 rw [h, look_insAll]
 cases look e.ad id <;> rfl
structure EffsOk (σ0 : St N) (eff : Nat → Eff N) (m : Nat) : Prop where
 dst : ∀ j, j < m → ∀ d, (eff j).dst = some d → d < σ0.regs.length
 one : ∀ i j, i < m → j < m → ∀ d, (eff i).dst = some d → (eff j).dst = some d → i = j
 ids : ∀ i j, i < m → j < m → ∀ id b b', look (eff i).ad id = some b → look (eff j).ad id = some b' → i = j
 fresh : ∀ j, j < m → ∀ id b, look (eff j).ad id = some b → look σ0.own id = none
theorem sq_reg {σ0 : St N} {eff : Nat → Eff N} {m : Nat} (h : EffsOk σ0 eff m) {t : Nat} : ∀ {L : List Nat}, (∀ j ∈ L, j < m) → (∀ j ∈ L, (eff j).dst = some t → (sq σ0 eff L).reg t = (eff j).s) ∧ ((∀ j ∈ L, (eff j).dst ≠ some t) → (sq σ0 eff L).reg t = σ0.reg t)
 | [], _ => ⟨(fun j hj => by cases hj), fun _ => rfl⟩
 | i :: L, hL => by
  have ih := sq_reg h (L := L) (t := t) (fun j hj => hL j (List.mem_cons_of_mem _ hj))
  have hr : (sq σ0 eff (i :: L)).reg t = if (eff i).dst = some t then (eff i).s else (sq σ0 eff L).reg t :=
   applyE_reg (fun d hd => by rw [sq_regs]; exact h.dst i (hL i List.mem_cons_self) d hd) t
  rw [hr]
  refine ⟨fun j hj hd => ?_, fun hn => ?_⟩
  ·by_cases hi : (eff i).dst = some t
   ·rw [if_pos hi, h.one i j (hL i List.mem_cons_self) (hL j hj) t hi hd]
   ·rw [if_neg hi]
    rcases List.mem_cons.1 hj with rfl | hj
    ·exact absurd hd hi
    ·exact ih.1 j hj hd
  ·rw [if_neg (hn i List.mem_cons_self)]
   exact ih.2 (fun j hj => hn j (List.mem_cons_of_mem _ hj))
theorem sq_own {σ0 : St N} {eff : Nat → Eff N} {m : Nat} (h : EffsOk σ0 eff m) {id : Nat} : ∀ {L : List Nat}, (∀ j ∈ L, j < m) → (∀ j ∈ L, ∀ b, look (eff j).ad id = some b → look (sq σ0 eff L).own id = some b) ∧ ((∀ j ∈ L, look (eff j).ad id = none) → look (sq σ0 eff L).own id = look σ0.own id)
 | [], _ => ⟨(fun j hj => by cases hj), fun _ => rfl⟩
 | i :: L, hL => by
  have ih := sq_own h (L := L) (id := id) (fun j hj => hL j (List.mem_cons_of_mem _ hj))
  have hr : look (sq σ0 eff (i :: L)).own id = match look (eff i).ad id with
    | some b => some b
    | none => look (sq σ0 eff L).own id := applyE_own _ _ _
  rw [hr]
  refine ⟨fun j hj b hb => ?_, fun hn => ?_⟩
  ·cases hi : look (eff i).ad id with
   | some b' =>
    have := h.ids i j (hL i List.mem_cons_self) (hL j hj) id b' b hi hb
    subst this
    rw [hb] at hi
    exact hi.symm
   | none =>
    rcases List.mem_cons.1 hj with rfl | hj
    ·rw [hb] at hi; cases hi
    ·exact ih.1 j hj b hb
  ·rw [hn i List.mem_cons_self]
   exact ih.2 (fun j hj => hn j (List.mem_cons_of_mem _ hj))
theorem RelE.same {io : Io} {w0 w : World} {σ σ' : St N} {E : Env} {a : Act} (h : RelE io w0 σ E a w) (hl : σ'.regs.length = σ.regs.length) (hr : ∀ t, σ'.reg t = σ.reg t) (ho : ∀ id, look σ'.own id = look σ.own id) : RelE io w0 σ' E a w := by
 have hregs : σ'.regs = σ.regs := by
  apply List.ext_getElem?
  intro i
  have := hr i
  unfold St.reg at this
  rw [List.getD_eq_getElem?_getD, List.getD_eq_getElem?_getD] at this
  rcases Nat.lt_or_ge i σ.regs.length with hi | hi
  ·rw [List.getElem?_eq_getElem (by omega), List.getElem?_eq_getElem hi] at this ⊢
   simpa using this
  ·rw [List.getElem?_eq_none (by omega), List.getElem?_eq_none hi]
 have hok : ∀ bs g, okb w.heap.size σ.own E bs g → okb w.heap.size σ'.own E bs g := fun bs g hg => ⟨hg.1, fun id hid => hg.2 id (by rw [← ho]; exact hid)⟩
 have hrv : ∀ r v, RVRel w σ.own E r v → RVRel w σ'.own E r v := fun r v hr =>
  RVRel_mono (fun _ _ _ _ _ h => h) (fun bs _ g hg => hok bs g hg) (fun id n t _ ⟨e, xs, bs, p, k1, k2⟩ => ⟨⟨e, xs, bs, p, by rw [ho]; exact k1, k2⟩, rfl⟩)
   (fun id _ hb => ⟨by
    rcases hb with ⟨t, x, bs, k1⟩ | ⟨l, k1⟩ | ⟨kt, vt, es, k1⟩ | ⟨n, l, k1⟩
    ·exact .inl ⟨t, x, bs, by rw [ho]; exact k1⟩
    ·exact .inr (.inl ⟨l, by rw [ho]; exact k1⟩)
    ·exact .inr (.inr (.inl ⟨kt, vt, es, by rw [ho]; exact k1⟩))
    ·exact .inr (.inr (.inr ⟨n, l, by rw [ho]; exact k1⟩)), rfl⟩) hr
 refine ⟨h.kept, by rw [hl]; exact h.size, h.defers, ?_, ?_, ?_, ?_, h.sc, h.nw, ?_⟩
 ·intro t s hs
  rw [hregs] at hs
  exact SlotRel_mono hrv (h.regs t s hs)
 ·intro id b hb
  rw [ho] at hb
  have := h.own id b hb
  cases b with
  | row e t xs bs p =>
   obtain ⟨cells, k1, k2⟩ := this
   exact ⟨cells, k1, RowC_mono (fun x cs hx => Rep_mono (fun _ _ _ h => h) (hok bs) hx) k2⟩
  | whole t x bs =>
   obtain ⟨g, T, arr, k1, k2, k3⟩ := this
   exact ⟨g, T, arr, k1, k2, Rep_mono (fun _ _ _ h => h) (hok bs) k3⟩
  | cells l =>
   obtain ⟨g, T, arr, k1, k2, k3, k4⟩ := this
   exact ⟨g, T, arr, k1, k2, k3, fun i r u hi hu => hrv r u (k4 i r u hi hu)⟩
  | mapB kt vt es => exact this
  | vals n l =>
   obtain ⟨arr, k1, k2, k3, k4⟩ := this
   exact ⟨arr, k1, k2, k3, fun i r u hi hu => hrv r u (k4 i r u hi hu)⟩
 ·intro id b hb
  rw [ho] at hb
  exact h.blk id b hb
 ·intro i j b b' h1 h2
  rw [ho] at h1 h2
  exact h.sep i j b b' h1 h2
 ·intro i hi
  obtain ⟨b, k1, k2⟩ := h.fx i hi
  exact ⟨b, by rw [ho]; exact k1, k2⟩
/-! The operations of the head, each in its own state. -/
def guardT (ops : List Oper) (o : Oper) : List Nat := match o.guard with
 | some (g, _) => (guardReg ops g).toList
 | none => []
def usesG (ops : List Oper) (o : Oper) : List Nat := guardT ops o ++ usesT o
structure AgreeG (ops : List Oper) (o : Oper) (σ σ' : St N) : Prop where
 regs : ∀ t ∈ usesG ops o, σ'.reg t = σ.reg t
 sub : Sub σ.own σ'.own
 len : σ'.regs.length = σ.regs.length
def HeadOp (P : Program) (ops : List Oper) (i : Nat) (o : Oper) (σ : St N) (e : Eff N) : Prop :=
 e.dst = o.dst ∧ ∀ σ', AgreeG ops o σ σ' → (∀ p ∈ e.ad, look σ'.own p.1 = none) → ∀ io w0 a w (K : Act → World → Prop) (Q : Exit → Act → World → Prop), Rel io w0 σ' a w → (∀ a' w', Rel io w0 (applyE σ' e) a' w' → K a' w') → wpOp P ops.toArray Q i K a w
def asked (i : Nat) : List Oper → Bool
 | [] => false
 | o :: r => (match o.guard with
  | some (g, _) => Nat.beq g i
  | none => false) || asked i r
def splitB (g : Bool) (s : Slot N) (k : Slot N → Option β) : Option β :=
 match g, s with
 | true, .one (.bool b) => bif b then k (.one (.bool true)) else k (.one (.bool false))
 | _, s => k s
theorem splitB_eq (g : Bool) (s : Slot N) (k : Slot N → Option β) : splitB g s k = k s := by
 unfold splitB
 split
 ·rename_i b
  cases b <;> rfl
 ·rfl
def drawHead (τ : TypeId → Option TI) (Φ : FuncId → Option (Spec N)) (ops : List Oper) (σ0 : St N) : List Oper → List (Eff N) → (List (Eff N) → Option β) → Option β
 | [], effs, k => k effs
 | o :: rest, effs, k =>
  drawOne (sq σ0 (fun j => effs.getD j ⟨none, .tup [], []⟩) (clo ops ops.length effs.length)) o fun s ad => splitB (asked effs.length ops) s fun s => drawHead τ Φ ops σ0 rest (effs ++ [⟨o.dst, s, ad⟩]) k
where
 drawOne (σ : St N) (o : Oper) (k : KK N β) : Option β :=
  match o.guard with
  | none => evE τ Φ o σ k
  | some (g, want) => match guardReg ops g with
   | none => k (.tup []) []
   | some d => match σ.reg d with
    | .one (.bool b) => bif want then (bif b then evE τ Φ o σ k else k (.tup []) []) else (bif b then k (.tup []) [] else evE τ Φ o σ k)
    | .tup [] => k (.tup []) []
    | _ => none
def ParD (τ : TypeId → Option TI) (Φ : FuncId → Option (Spec N)) (ops : List Oper) (o : Oper) (σ : St N) (s : Slot N) (ad : List (Nat × Blk N)) : Prop :=
 ∀ σ' : St N, AgreeG ops o σ σ' → (∀ p ∈ ad, look σ'.own p.1 = none) → ∀ {β' : Type} (k' : KK N β'), drawHead.drawOne τ Φ ops σ' o k' = k' s ad
theorem drawOne_sound (F : Fits P N τ) {Φ : FuncId → Option (Spec N)} (hΦ : ∀ f S, Φ f = some S → Good P (f % 1000000) S) {ops : List Oper} {i : Nat} {o : Oper} (hi : ops[i]? = some o) {σ : St N} {k : KK N β} {r : β} (h : drawHead.drawOne τ Φ ops σ o k = some r) :
  ∃ s ad, k s ad = some r ∧ (∀ p ∈ ad, look σ.own p.1 = none) ∧ HeadOp P ops i o σ ⟨o.dst, s, ad⟩ ∧ ParD τ Φ ops o σ s ad := by
 have hoi : (ops.toArray)[i]? = some o := by rw [List.getElem?_toArray]; exact hi
 have run : ∀ {k : KK N β}, evE τ Φ o σ k = some r → (∀ (σ' : St N), AgreeG ops o σ σ' → ∀ io w0 a w, Rel io w0 σ' a w → Region.wanted o (yielded ops.toArray a.tmps) = true) → (∀ (σ' : St N), AgreeG ops o σ σ' → ∀ {β' : Type} (k' : KK N β'), drawHead.drawOne τ Φ ops σ' o k' = evE τ Φ o σ' k') → ∃ s ad, k s ad = some r ∧ (∀ p ∈ ad, look σ.own p.1 = none) ∧ HeadOp P ops i o σ ⟨o.dst, s, ad⟩ ∧ ParD τ Φ ops o σ s ad := by
  intro k hk hw hdr
  obtain ⟨s, ad, h1, h2, h3⟩ := evE_does F hΦ hk
  refine ⟨s, ad, h1, h2, ⟨rfl, fun σ' hA hf io w0 a w K Q hr hK => ?_⟩, fun σ' hA hf {β'} k' => (hdr σ' hA k').trans ((h3 σ' ⟨fun t ht => hA.regs t (List.mem_append.2 (.inr ht)), hA.sub⟩ hf).2 k')⟩
  unfold wpOp
  simp only [hoi]
  rw [if_pos (hw σ' hA io w0 a w hr)]
  exact .inl ((h3 σ' ⟨fun t ht => hA.regs t (List.mem_append.2 (.inr ht)), hA.sub⟩ hf).1 io w0 a w K Q hr hK)
 have skip : ∀ {k : KK N β}, k (.tup []) [] = some r → (∀ (σ' : St N), AgreeG ops o σ σ' → ∀ io w0 a w, Rel io w0 σ' a w → Region.wanted o (yielded ops.toArray a.tmps) = false) → (∀ (σ' : St N), AgreeG ops o σ σ' → ∀ {β' : Type} (k' : KK N β'), drawHead.drawOne τ Φ ops σ' o k' = k' (.tup []) []) → ∃ s ad, k s ad = some r ∧ (∀ p ∈ ad, look σ.own p.1 = none) ∧ HeadOp P ops i o σ ⟨o.dst, s, ad⟩ ∧ ParD τ Φ ops o σ s ad := by
  intro k hk hw hdr
  refine ⟨_, _, hk, (fun p hp => by cases hp), ⟨rfl, fun σ' hA hf io w0 a w K Q hr hK => ?_⟩, fun σ' hA hf {β'} k' => hdr σ' hA k'⟩
  unfold wpOp
  simp only [hoi]
  rw [if_neg (by rw [hw σ' hA io w0 a w hr]; simp)]
  exact hK _ _ (hr.skip o.dst)
 unfold drawHead.drawOne at h
 split at h
 ·rename_i hg
  exact run h (fun σ' hA io w0 a w hr => by simp [Region.wanted, hg]) (fun σ' hA {β'} k' => by simp only [drawHead.drawOne, hg])
 ·rename_i g want hg
  have hW : ∀ a : Act, Region.wanted o (yielded ops.toArray a.tmps) = (yielded ops.toArray a.tmps g == some want) := fun a => by simp [Region.wanted, hg]
  have hy : ∀ a : Act, yielded ops.toArray a.tmps g = match (guardReg ops g).bind (a.tmps[·]?) with
    | some (.bool b) => some b
    | _ => none := by
   intro a
   unfold yielded
   rw [guardReg_toArray]
   rfl
  split at h
  ·rename_i hgr
   refine skip h (fun σ' hA io w0 a w hr => ?_) (fun σ' hA {β'} k' => by simp only [drawHead.drawOne, hg, hgr])
   rw [hW, hy, hgr]
   rfl
  ·rename_i d hgr
   have hd : d ∈ usesG ops o := List.mem_append.2 (.inl (by simp [guardT, hg, hgr]))
   split at h
   ·rename_i b hb
    have hyb : ∀ (σ' : St N), AgreeG ops o σ σ' → ∀ io w0 a w, Rel io w0 σ' a w → yielded ops.toArray a.tmps g = some b := by
     rintro σ' hA io w0 a w ⟨E, hrE⟩
     obtain ⟨hv, hlt⟩ := reg_slot hrE ((hA.regs d hd).trans hb) (by simp)
     have hv : a.tmps.getD d undef = .bool b := hv
     rw [hy, hgr]
     simp only [Option.bind_some]
     rw [Array.getD_eq_getD_getElem?, Array.getElem?_eq_getElem hlt] at hv
     rw [Array.getElem?_eq_getElem hlt]
     simp only [Option.getD_some] at hv
     rw [hv]
    cases want with
    | true =>
     simp only [cond_true] at h
     cases b with
     | true => exact run h (fun σ' hA io w0 a w hr => by rw [hW, hyb σ' hA io w0 a w hr]; rfl) (fun σ' hA {β'} k' => by simp only [drawHead.drawOne, hg, hgr, (hA.regs d hd).trans hb, cond_true, cond_false])
     | false => exact skip h (fun σ' hA io w0 a w hr => by rw [hW, hyb σ' hA io w0 a w hr]; rfl) (fun σ' hA {β'} k' => by simp only [drawHead.drawOne, hg, hgr, (hA.regs d hd).trans hb, cond_true, cond_false])
    | false =>
     simp only [cond_false] at h
     cases b with
     | true => exact skip h (fun σ' hA io w0 a w hr => by rw [hW, hyb σ' hA io w0 a w hr]; rfl) (fun σ' hA {β'} k' => by simp only [drawHead.drawOne, hg, hgr, (hA.regs d hd).trans hb, cond_true, cond_false])
     | false => exact run h (fun σ' hA io w0 a w hr => by rw [hW, hyb σ' hA io w0 a w hr]; rfl) (fun σ' hA {β'} k' => by simp only [drawHead.drawOne, hg, hgr, (hA.regs d hd).trans hb, cond_true, cond_false])
   ·rename_i hb
    refine skip h (fun σ' hA io w0 a w hr => ?_) (fun σ' hA {β'} k' => by simp only [drawHead.drawOne, hg, hgr, (hA.regs d hd).trans hb])
    obtain ⟨E, hrE⟩ := hr
    obtain ⟨⟨vs, hv, hl, _⟩, hlt⟩ := reg_slot hrE ((hA.regs d hd).trans hb) (by simp)
    rw [hW, hy, hgr]
    simp only [Option.bind_some]
    rw [Array.getD_eq_getD_getElem?, Array.getElem?_eq_getElem hlt] at hv
    rw [Array.getElem?_eq_getElem hlt]
    simp only [Option.getD_some] at hv
    rw [hv]
    rfl
   ·cases h
/-! Any order. -/
structure DrawOk (ops : List Oper) (m : Nat) : Prop where
 fwd : ∀ i, i < ops.length → ∀ k ∈ predsOf ops i, k < i
 uses : ∀ i j o o', i < m → j < m → ops[i]? = some o → ops[j]? = some o' → ∀ d, o'.dst = some d → d ∈ usesG ops o → i = j ∨ j ∈ clo ops ops.length i ∨ i ∈ clo ops ops.length j
theorem mem_preds {ops : List Oper} {i k : Nat} : k ∈ predsOf ops i ↔ ∃ o, ops[i]? = some o ∧ ∃ e ∈ o.after, Region.binds .any e = true ∧ e.on = k := by
 unfold predsOf
 cases h : ops[i]? with
 | none => simp
 | some o => simp [List.mem_map, List.mem_filter, and_assoc]
structure Inv (io : Io) (w0 : World) (ops : List Oper) (m : Nat) (σ0 : St N) (eff : Nat → Eff N) (listed : Array Bool) (seq : List Nat) (a : Act) (w : World) : Prop where
 head : HeadInv .any ops.toArray m listed
 mem : ∀ j, j < ops.length → (listed.getD j false = true ↔ j ∈ seq)
 lt : ∀ j ∈ seq, j < m
 nodup : seq.Nodup
 rel : Rel io w0 (sq σ0 eff seq) a w
theorem range_le : ∀ (m : Nat) (l : List Nat), (∀ i, i < m → i ∈ l) → m ≤ l.length
 | 0, l, _ => Nat.zero_le _
 | m + 1, l, h => by
  have h1 : m ∈ l := h m (by omega)
  have h2 := range_le m (l.erase m) (fun i hi => (List.mem_erase_of_ne (by omega)).2 (h i (by omega)))
  rw [List.length_erase_of_mem h1] at h2
  have := List.length_pos_of_mem h1
  omega
theorem getD_bool {listed : Array Bool} {i : Nat} (hi : i < listed.size) : listed.getD i true = listed.getD i false := by
 simp [hi]
theorem wpAny_draw {ops : List Oper} {m g : Nat} {σ0 : St N} {eff : Nat → Eff N} {io : Io} {w0 : World} {Q : Exit → Act → World → Prop} (hm : m ≤ ops.length) (hD : DrawOk ops m) (hE : EffsOk σ0 eff m)
  (hH : ∀ i, i < m → ∃ o, ops[i]? = some o ∧ HeadOp P ops i o (sq σ0 eff (clo ops ops.length i)) (eff i))
  (htail : m < ops.length → Region.sinkB .any ops.toArray m = true ∧ Region.chainB .any ops.toArray m = true)
  (hend : ∀ listed seq a w, Inv io w0 ops m σ0 eff listed seq a w → seq.length = m → wpAny P .any ops.toArray Q g listed a w) :
  ∀ (f : Nat) (listed : Array Bool) (seq : List Nat) (a : Act) (w : World), f + seq.length = m → Inv io w0 ops m σ0 eff listed seq a w → wpAny P .any ops.toArray Q (f + g) listed a w
 | 0, listed, seq, a, w, hf, hI => by
  rw [Nat.zero_add]
  exact hend listed seq a w hI (by omega)
 | f + 1, listed, seq, a, w, hf, hI => by
  have hsz : listed.size = ops.length := by have := hI.head.size; simpa using this
  -- some operation of the head is open
  obtain ⟨i0, hi0, hun0, hpre0⟩ : ∃ i, i < m ∧ listed.getD i false = false ∧ ∀ k, k < i → listed.getD k false = true := by
   have hex : ∃ i, i < m ∧ listed.getD i false = false := by
    apply Classical.byContradiction
    intro hno
    have hall : ∀ i, i < m → i ∈ seq := fun i hi => by
     rw [← hI.mem i (by omega)]
     cases h : listed.getD i false with
     | true => rfl
     | false => exact absurd ⟨i, hi, h⟩ hno
    have := range_le m seq hall
    omega
   obtain ⟨i, hi⟩ := hex
   induction i using Nat.strongRecOn with
   | _ i ih =>
    by_cases h : ∃ k, k < i ∧ listed.getD k false = false
    ·obtain ⟨k, hk, hk2⟩ := h
     exact ih k hk ⟨by omega, hk2⟩
    ·refine ⟨i, hi.1, hi.2, fun k hk => ?_⟩
     cases h2 : listed.getD k false with
     | true => rfl
     | false => exact absurd ⟨k, hk, h2⟩ h
  have hi0s : i0 < listed.size := by omega
  have hready0 : i0 ∈ Region.ready .any ops.toArray listed := by
   rw [mem_ready]
   refine ⟨by rw [getD_bool hi0s]; exact hun0, ?_⟩
   have hlt : i0 < ops.length := by omega
   refine ⟨ops[i0], by simp [hlt], fun e he hb => ?_⟩
   exact hpre0 _ (hD.fwd i0 hlt e.on (mem_preds.2 ⟨_, by simp [hlt], e, he, hb, rfl⟩))
  rw [show f + 1 + g = (f + g) + 1 from by omega]
  refine ⟨(fun h0 => by rw [h0] at hready0; cases hready0), fun i hi => ?_⟩
  obtain ⟨hun, oi, hoi, hall⟩ := mem_ready.1 hi
  have hoi' : ops[i]? = some oi := by rw [List.getElem?_toArray] at hoi; exact hoi
  have hilt : i < ops.length := (List.getElem?_eq_some_iff.1 hoi').1
  have him : i < m := by
   rcases Nat.lt_or_ge i m with h | h
   ·exact h
   ·have hml : m < ops.length := by omega
    obtain ⟨hs, hc⟩ := htail hml
    exact absurd hi (tail_waits hs hc (by simpa using hml) hI.head (m - i0) i0 rfl hi0 (by rw [getD_bool hi0s]; exact hun0) i h)
  have hins : i ∉ seq := fun hm' => by
   have := (hI.mem i hilt).2 hm'
   rw [← getD_bool (by omega)] at this
   rw [this] at hun
   cases hun
  have hclosed : ∀ j, j ∈ seq → ∀ k ∈ predsOf ops j, k ∈ seq := by
   intro j hj k hk
   obtain ⟨oj, hoj, e, he, hb, rfl⟩ := mem_preds.1 hk
   have hjl : j < ops.length := (List.getElem?_eq_some_iff.1 hoj).1
   have h1 := hI.head.closed j oj (by rw [List.getElem?_toArray]; exact hoj) ((hI.mem j hjl).2 hj) e he hb
   exact (hI.mem e.on (Nat.lt_trans (hD.fwd j hjl e.on hk) hjl)).1 h1
  have hpreds : ∀ k ∈ predsOf ops i, k ∈ seq := by
   intro k hk
   obtain ⟨oj, hoj, e, he, hb, rfl⟩ := mem_preds.1 hk
   have : oj = oi := Option.some.inj (hoj.symm.trans hoi')
   subst this
   exact (hI.mem e.on (Nat.lt_trans (hD.fwd i hilt e.on hk) hilt)).1 (hall e he hb)
  have hclo : ∀ k ∈ clo ops ops.length i, k ∈ seq := clo_sub (S := fun k => k ∈ seq) hclosed _ i hpreds
  have hcloj : ∀ j ∈ seq, ∀ k ∈ clo ops ops.length j, k ∈ seq := fun j hj => clo_sub (S := fun k => k ∈ seq) hclosed _ j (hclosed j hj)
  have hback : ∀ j, j < ops.length → ∀ k ∈ clo ops ops.length j, k < j := fun j hj => clo_sub (S := fun k => k < j) (fun k hk l hl => Nat.lt_trans (hD.fwd k (by omega) l hl) hk) _ j (hD.fwd j hj)
  have hclom : ∀ k ∈ clo ops ops.length i, k < m := fun k hk => Nat.lt_trans (hback i hilt k hk) him
  obtain ⟨o, ho, hdst, hop⟩ := hH i him
  have : o = oi := Option.some.inj (ho.symm.trans hoi')
  subst this
  have hA : AgreeG ops o (sq σ0 eff (clo ops ops.length i)) (sq σ0 eff seq) := by
   refine ⟨fun t ht => ?_, fun id b hb => ?_, by rw [sq_regs, sq_regs]⟩
   ·have r1 := sq_reg hE (t := t) hI.lt
    have r2 := sq_reg hE (t := t) hclom
    by_cases hx : ∃ j, j < m ∧ (eff j).dst = some t
    ·obtain ⟨j, hj, hjd⟩ := hx
     obtain ⟨oj, hoj, hdj, _⟩ := hH j hj
     by_cases hjs : j ∈ seq
     ·rw [r1.1 j hjs hjd]
      by_cases hjc : j ∈ clo ops ops.length i
      ·rw [r2.1 j hjc hjd]
      ·exfalso
       rcases hD.uses i j o oj him hj ho hoj t (by rw [← hdj]; exact hjd) ht with h | h | h
       ·subst h; exact hins hjs
       ·exact hjc h
       ·exact hins (hcloj j hjs i h)
     ·have hjc : j ∉ clo ops ops.length i := fun h => hjs (hclo j h)
      have u : ∀ (L : List Nat), (∀ k ∈ L, k < m) → j ∉ L → ∀ k ∈ L, (eff k).dst ≠ some t := fun L hL hjL k hk hkd => hjL (by rw [hE.one j k hj (hL k hk) t hjd hkd]; exact hk)
      rw [r1.2 (u seq hI.lt hjs), r2.2 (u _ hclom hjc)]
    ·have u : ∀ (L : List Nat), (∀ k ∈ L, k < m) → ∀ k ∈ L, (eff k).dst ≠ some t := fun L hL k hk hkd => hx ⟨k, hL k hk, hkd⟩
     rw [r1.2 (u seq hI.lt), r2.2 (u _ hclom)]
   ·have r1 := sq_own hE (id := id) hI.lt
    have r2 := sq_own hE (id := id) hclom
    by_cases hx : ∃ j ∈ clo ops ops.length i, ∃ b', look (eff j).ad id = some b'
    ·obtain ⟨j, hj, b', hb'⟩ := hx
     rw [r2.1 j hj b' hb'] at hb
     rw [r1.1 j (hclo j hj) b' hb']
     exact hb
    ·have hn : ∀ j ∈ clo ops ops.length i, look (eff j).ad id = none := fun j hj => by
      cases h : look (eff j).ad id with
      | none => rfl
      | some b' => exact absurd ⟨j, hj, b', h⟩ hx
     rw [r2.2 hn] at hb
     have hn1 : ∀ j ∈ seq, look (eff j).ad id = none := fun j hj => by
      cases h : look (eff j).ad id with
      | none => rfl
      | some b' =>
       have := hE.fresh j (hI.lt j hj) id b' h
       rw [hb] at this
       cases this
     rw [r1.2 hn1]
     exact hb
  have hfr : ∀ p ∈ (eff i).ad, look (sq σ0 eff seq).own p.1 = none := by
   intro p hp
   have hsome : ∃ b, look (eff i).ad p.1 = some b := look_of_mem hp
   obtain ⟨b, hb⟩ := hsome
   have r1 := sq_own hE (id := p.1) hI.lt
   rw [r1.2 (fun j hj => by
    cases h : look (eff j).ad p.1 with
    | none => rfl
    | some b' => exact absurd (hE.ids i j him (hI.lt j hj) p.1 b b' hb h) (fun e => hins (e ▸ hj)))]
   exact hE.fresh i him p.1 b hb
  refine hop (sq σ0 eff seq) hA hfr io w0 a w _ _ hI.rel (fun a' w' hr => ?_)
  refine wpAny_draw hm hD hE hH htail hend f (listed.setIfInBounds i true) (i :: seq) a' w' (by simp only [List.length_cons]; omega) ⟨hI.head.set hi him, fun j hj => ?_, fun j hj => ?_, List.nodup_cons.2 ⟨hins, hI.nodup⟩, hr⟩
  ·by_cases hij : i = j
   ·subst hij
    simp [hsz, hj]
   ·rw [getD_set_ne false hij, hI.mem j hj, List.mem_cons]
    exact ⟨.inr, fun h => h.resolve_left (fun e => hij e.symm)⟩
  ·rcases List.mem_cons.1 hj with rfl | hj
   ·exact him
   ·exact hI.lt j hj
where
 look_of_mem {β : Type} : ∀ {l : List (Nat × β)} {p : Nat × β}, p ∈ l → ∃ b, look l p.1 = some b
  | [], p, h => by cases h
  | (k, v) :: r, p, h => by
   unfold look
   cases hk : (k == p.1) with
   | true => exact ⟨v, rfl⟩
   | false =>
    rcases List.mem_cons.1 h with rfl | h
    ·simp at hk
    ·exact look_of_mem h
end Go.Eng

set_option linter.unusedVariables false
set_option linter.unusedSimpArgs false
namespace Go.Eng
variable {N : Names} {P : Program} {τ : TypeId → Option TI} {β : Type}
def isE (o : Oper) : Bool := match o.op with
 | .move _ => true
 | .assign _ => true
 | .load _ _ => true
 | .nilCheck _ => true
 | .binOp .. => true
 | .unOp .. => true
 | .convert .. => true
 | .slice .. => true
 | .pick .. => true
 | .alloc _ => true
 | .build .. => true
 | .buildSlice .. => true
 | .makeSlice .. => true
 | .fieldAddr .. => true
 | .field .. => true
 | .indexAddr .. => true
 | .index .. => true
 | .extract .. => true
 | .call c => match c.callee with
  | .value _ => true
  | .builtin .len => true
  | .builtin .min => true
  | .builtin .max => true
  | _ => false
 | _ => false
def headLen : List Oper → Nat
 | [] => 0
 | o :: r => bif isE o then headLen r + 1 else 0
def allLt (f : Nat → Bool) : Nat → Bool
 | 0 => true
 | n + 1 => f n && allLt f n
theorem allLt_spec {f : Nat → Bool} : ∀ {n : Nat}, allLt f n = true → ∀ i, i < n → f i = true
 | 0, _, i, hi => by omega
 | n + 1, h, i, hi => by
  simp only [allLt, Bool.and_eq_true] at h
  rcases Nat.lt_or_ge i n with h' | h'
  ·exact allLt_spec h.2 i h'
  ·rw [show i = n from by omega]
   exact h.1
def fwdOk (ops : List Oper) : Bool := allLt (fun i => (predsOf ops i).all fun k => Nat.blt k i) ops.length
def usesOk (ops : List Oper) (m : Nat) : Bool := allLt (fun i => allLt (fun j => match ops[i]?, ops[j]? with
 | some o, some o' => match o'.dst with
  | some d => !(usesG ops o).contains d || (Nat.beq i j || ((clo ops ops.length i).contains j || (clo ops ops.length j).contains i))
  | none => true
 | _, _ => true) m) m
def canon (n m : Nat) : Array Bool := (List.replicate m true ++ List.replicate (n - m) false).toArray
def statOk (ops : List Oper) (m : Nat) : Bool :=
 fwdOk ops && usesOk ops m && (Nat.beq m ops.length || (Region.sinkB .any ops.toArray m && Region.chainB .any ops.toArray m)) && Region.seqB .any ops.toArray (ops.length - m) m (canon ops.length m)
def effDsts : List (Eff N) → List Nat
 | [] => []
 | e :: r => match e.dst with
  | some d => d :: effDsts r
  | none => effDsts r
def effIds : List (Eff N) → List Nat
 | [] => []
 | e :: r => e.ad.map (·.1) ++ effIds r
def effsChk (σ0 : St N) (effs : List (Eff N)) : Bool :=
 (effDsts effs).all (fun d => Nat.blt d σ0.regs.length) && nodupB (effDsts effs) && nodupB (effIds effs) && freshIds σ0.own (effIds effs)
def downTo : Nat → List Nat
 | 0 => []
 | n + 1 => n :: downTo n
def effAt (effs : List (Eff N)) (j : Nat) : Eff N := effs.getD j ⟨none, .tup [], []⟩
def drawHeadC (τ : TypeId → Option TI) (Φ : FuncId → Option (Spec N)) (ops : List Oper) (σ0 : St N) : List Oper → List (Eff N) → St N → (List (Eff N) → Option β) → Option β
 | [], effs, _, k => k effs
 | o :: rest, effs, cur, k =>
  drawHead.drawOne τ Φ ops (bif Nat.beq (clo ops ops.length effs.length).length effs.length then cur else sq σ0 (effAt effs) (clo ops ops.length effs.length)) o fun s ad => splitB (asked effs.length ops) s fun s => drawHeadC τ Φ ops σ0 rest (effs ++ [⟨o.dst, s, ad⟩]) (applyE cur ⟨o.dst, s, ad⟩) k
def execDraw (τ : TypeId → Option TI) (Φ : FuncId → Option (Spec N)) (ops : List Oper) (m : Nat) (σ0 : St N) (k : St N → Option β) : Option β :=
 bif statOk ops (m) then
  drawHeadC τ Φ ops σ0 (ops.take (m)) [] σ0 fun effs =>
   bif effsChk σ0 effs then execOps τ Φ ops (ops.drop (m)) (sq σ0 (effAt effs) (downTo (m))) k else none
 else none
theorem mem_downTo {n i : Nat} : i ∈ downTo n ↔ i < n := by
 induction n with
 | zero => simp [downTo]
 | succ n ih => simp only [downTo, List.mem_cons, ih]; omega
def tailFrom (ops : List Oper) : Nat → Nat
 | 0 => 0
 | t + 1 => bif Nat.beq (clo ops ops.length t).length t then tailFrom ops t else t + 1
def headLenT (ops : List Oper) : Nat := Nat.min (headLen ops) (tailFrom ops ops.length)
theorem headLen_le : ∀ (ops : List Oper), headLen ops ≤ ops.length
 | [] => Nat.le_refl _
 | o :: r => by
  unfold headLen
  cases isE o with
  | true => simpa using headLen_le r
  | false => simp
theorem drawOk_of {ops : List Oper} {m : Nat} (h1 : fwdOk ops = true) (h2 : usesOk ops m = true) : DrawOk ops m := by
 refine ⟨fun i hi k hk => ?_, fun i j o o' hi hj ho ho' d hd hu => ?_⟩
 ·have := allLt_spec h1 i hi
  exact Nat.le_of_ble_eq_true (List.all_eq_true.1 this k hk)
 ·have := allLt_spec (allLt_spec h2 i hi) j hj
  simp only [ho, ho', hd, Bool.or_eq_true, Bool.not_eq_true'] at this
  rcases this with h | h | h | h
  ·exact absurd hu (contains_false h)
  ·exact .inl (Nat.eq_of_beq_eq_true h)
  ·exact .inr (.inl (List.contains_iff_mem.1 h))
  ·exact .inr (.inr (List.contains_iff_mem.1 h))
theorem nodup_get {α : Type} {f : α → List Nat} : ∀ {l : List α}, (l.flatMap f).Nodup → ∀ (i j : Nat) x y, l[i]? = some x → l[j]? = some y → ∀ k, k ∈ f x → k ∈ f y → i = j
 | [], _, i, j, x, y, hi, hj, k, hx, hy => by simp at hi
 | a :: l, h, i, j, x, y, hi, hj, k, hx, hy => by
  rw [List.flatMap_cons, List.nodup_append] at h
  cases i with
  | zero =>
   simp only [List.getElem?_cons_zero, Option.some.injEq] at hi
   subst hi
   cases j with
   | zero => rfl
   | succ j =>
    have hj : l[j]? = some y := by simpa using hj
    exact absurd rfl (h.2.2 k hx k (List.mem_flatMap.2 ⟨y, List.mem_of_getElem? hj, hy⟩))
  | succ i =>
   have hi : l[i]? = some x := by simpa using hi
   cases j with
   | zero =>
    simp only [List.getElem?_cons_zero, Option.some.injEq] at hj
    subst hj
    exact absurd rfl (h.2.2 k hy k (List.mem_flatMap.2 ⟨x, List.mem_of_getElem? hi, hx⟩))
   | succ j =>
    have hj : l[j]? = some y := by simpa using hj
    rw [nodup_get h.2.1 i j x y hi hj k hx hy]
theorem effDsts_eq : ∀ (effs : List (Eff N)), effDsts effs = effs.flatMap (fun e => e.dst.toList)
 | [] => rfl
 | e :: r => by
  unfold effDsts
  cases h : e.dst <;> simp [List.flatMap_cons, effDsts_eq r, h]
theorem effIds_eq : ∀ (effs : List (Eff N)), effIds effs = effs.flatMap (fun e => e.ad.map (·.1))
 | [] => rfl
 | e :: r => by simp [effIds, List.flatMap_cons, effIds_eq r]
theorem effAt_get {effs : List (Eff N)} {j : Nat} (h : j < effs.length) : effs[j]? = some (effAt effs j) := by
 unfold effAt
 rw [List.getD_eq_getElem?_getD, List.getElem?_eq_getElem h]
 rfl
theorem effsOk_of {σ0 : St N} {effs : List (Eff N)} (h : effsChk σ0 effs = true) : EffsOk σ0 (effAt effs) effs.length := by
 simp only [effsChk, Bool.and_eq_true] at h
 obtain ⟨⟨⟨h1, h2⟩, h3⟩, h4⟩ := h
 have h2 := nodupB_spec h2
 have h3 := nodupB_spec h3
 have h4 := freshIds_spec h4
 rw [effDsts_eq] at h1 h2
 rw [effIds_eq] at h3 h4
 refine ⟨fun j hj d hd => ?_, fun i j hi hj d h5 h6 => ?_, fun i j hi hj id b b' h5 h6 => ?_, fun j hj id b hb => ?_⟩
 ·exact Nat.le_of_ble_eq_true (List.all_eq_true.1 h1 d (List.mem_flatMap.2 ⟨_, List.mem_of_getElem? (effAt_get hj), by rw [hd]; simp⟩))
 ·exact nodup_get h2 i j _ _ (effAt_get hi) (effAt_get hj) d (by rw [h5]; simp) (by rw [h6]; simp)
 ·exact nodup_get h3 i j _ _ (effAt_get hi) (effAt_get hj) id (List.mem_map.2 ⟨_, look_mem h5, rfl⟩) (List.mem_map.2 ⟨_, look_mem h6, rfl⟩)
 ·exact h4 id (List.mem_flatMap.2 ⟨_, List.mem_of_getElem? (effAt_get hj), List.mem_map.2 ⟨_, look_mem hb, rfl⟩⟩)
theorem sq_congr {σ0 : St N} {eff eff' : Nat → Eff N} : ∀ {L : List Nat}, (∀ j ∈ L, eff j = eff' j) → sq σ0 eff L = sq σ0 eff' L
 | [], _ => rfl
 | j :: L, h => by
  rw [sq, sq, h j List.mem_cons_self, sq_congr (fun k hk => h k (List.mem_cons_of_mem _ hk))]
theorem bitsDown_le (m : Nat) : ∀ n, (bitsDown m n).length ≤ n
 | 0 => Nat.le_refl _
 | n + 1 => by
  unfold bitsDown
  cases m.testBit n with
  | true => simpa using bitsDown_le m n
  | false => exact Nat.le_succ_of_le (bitsDown_le m n)
theorem bitsDown_all {m : Nat} : ∀ {n : Nat}, (bitsDown m n).length = n → bitsDown m n = downTo n
 | 0, _ => rfl
 | n + 1, h => by
  unfold bitsDown at h ⊢
  cases hb : m.testBit n with
  | true =>
   rw [hb, cond_true, List.length_cons] at h
   rw [cond_true, bitsDown_all (Nat.succ.inj h)]
   rfl
  | false =>
   rw [hb, cond_false] at h
   have := bitsDown_le m n
   omega
theorem drawHeadC_eq {τ : TypeId → Option TI} {Φ : FuncId → Option (Spec N)} {ops : List Oper} {σ0 : St N} : ∀ (todo : List Oper) (effs : List (Eff N)) (cur : St N) (k : List (Eff N) → Option β), cur = sq σ0 (effAt effs) (downTo effs.length) →
  drawHeadC τ Φ ops σ0 todo effs cur k = drawHead τ Φ ops σ0 todo effs k
 | [], effs, cur, k, _ => rfl
 | o :: rest, effs, cur, k, hc => by
  unfold drawHeadC drawHead
  have e1 : (bif Nat.beq (clo ops ops.length effs.length).length effs.length then cur else sq σ0 (effAt effs) (clo ops ops.length effs.length)) = sq σ0 (effAt effs) (clo ops ops.length effs.length) := by
   cases hb : Nat.beq (clo ops ops.length effs.length).length effs.length with
   | false => rfl
   | true =>
    rw [cond_true, hc]
    congr 1
    exact (bitsDown_all (Nat.eq_of_beq_eq_true hb)).symm
  rw [e1]
  have e2 : ∀ (s : Slot N) (ad : List (Nat × Blk N)), drawHeadC τ Φ ops σ0 rest (effs ++ [⟨o.dst, s, ad⟩]) (applyE cur ⟨o.dst, s, ad⟩) k = drawHead τ Φ ops σ0 rest (effs ++ [⟨o.dst, s, ad⟩]) k := fun s ad => by
   refine drawHeadC_eq rest _ _ k ?_
   rw [List.length_append, List.length_singleton]
   have hnew : effAt (effs ++ [⟨o.dst, s, ad⟩]) effs.length = ⟨o.dst, s, ad⟩ := by
    unfold effAt
    rw [List.getD_eq_getElem?_getD, List.getElem?_append_right (Nat.le_refl _)]
    simp
   show _ = applyE (sq σ0 _ (downTo effs.length)) (effAt _ effs.length)
   rw [hnew, hc]
   congr 1
   refine sq_congr (fun j hj => ?_)
   have hj := mem_downTo.1 hj
   unfold effAt
   rw [List.getD_eq_getElem?_getD, List.getD_eq_getElem?_getD, List.getElem?_append_left hj]
  simp only [e2]
  rfl
theorem drawHead_sound (F : Fits P N τ) {Φ : FuncId → Option (Spec N)} (hΦ : ∀ f S, Φ f = some S → Good P (f % 1000000) S) {ops : List Oper} (hfwd : ∀ i, i < ops.length → ∀ k ∈ clo ops ops.length i, k < i) {σ0 : St N} {r : β} : ∀ (todo : List Oper) (effs : List (Eff N)) (k : List (Eff N) → Option β),
  (∀ j, todo[j]? = none ∨ todo[j]? = ops[effs.length + j]?) → drawHead τ Φ ops σ0 todo effs k = some r →
  (∀ i, i < effs.length → ∃ o, ops[i]? = some o ∧ HeadOp P ops i o (sq σ0 (effAt effs) (clo ops ops.length i)) (effAt effs i)) →
  ∃ all : List (Eff N), k all = some r ∧ all.length = effs.length + todo.length ∧ ∀ i, i < all.length → ∃ o, ops[i]? = some o ∧ HeadOp P ops i o (sq σ0 (effAt all) (clo ops ops.length i)) (effAt all i)
 | [], effs, k, ht, h, hH => ⟨effs, h, rfl, hH⟩
 | o :: rest, effs, k, ht, h, hH => by
  have ho : ops[effs.length]? = some o := by
   rcases ht 0 with h0 | h0
   ·simp at h0
   ·simpa using h0.symm
  have hl : effs.length < ops.length := (List.getElem?_eq_some_iff.1 ho).1
  unfold drawHead at h
  obtain ⟨s, ad, h1, h2, h3, _⟩ := drawOne_sound F hΦ ho h
  rw [splitB_eq] at h1
  have hold : ∀ j, j < effs.length → effAt (effs ++ [⟨o.dst, s, ad⟩]) j = effAt effs j := fun j hj => by
   unfold effAt
   rw [List.getD_eq_getElem?_getD, List.getD_eq_getElem?_getD, List.getElem?_append_left hj]
  have hnew : effAt (effs ++ [⟨o.dst, s, ad⟩]) effs.length = ⟨o.dst, s, ad⟩ := by
   unfold effAt
   rw [List.getD_eq_getElem?_getD, List.getElem?_append_right (Nat.le_refl _)]
   simp
  obtain ⟨all, a1, a2, a3⟩ := drawHead_sound F hΦ hfwd rest (effs ++ [⟨o.dst, s, ad⟩]) k (fun j => by
   have := ht (j + 1)
   simp only [List.getElem?_cons_succ] at this
   rcases this with h | h
   ·exact .inl h
   ·exact .inr (by rw [h]; congr 1; simp; omega)) h1 (fun i hi => by
   rw [List.length_append, List.length_singleton] at hi
   rcases Nat.lt_or_ge i effs.length with h' | h'
   ·obtain ⟨oi, o1, o2⟩ := hH i h'
    refine ⟨oi, o1, ?_⟩
    rw [hold i h', sq_congr (fun j hj => hold j (Nat.lt_trans (hfwd i (by omega) j hj) h'))]
    exact o2
   ·have hi' : i = effs.length := by omega
    subst hi'
    refine ⟨o, ho, ?_⟩
    rw [hnew, sq_congr (fun j hj => hold j (hfwd _ hl j hj))]
    exact h3)
  exact ⟨all, a1, by rw [a2]; simp; omega, a3⟩
theorem Ext.drawn (w : World) : Ext w { w with drawn := w.drawn + 1 } := ⟨rfl, rfl, rfl, Nat.le_refl _, fun _ _ => rfl⟩
theorem execDraw_sound (F : Fits P N τ) {Φ : FuncId → Option (Spec N)} (hΦ : ∀ f S, Φ f = some S → Good P (f % 1000000) S) (hm : P.follows .mixedOrders = true) {ops : List Oper} {k : St N → Option β} {r : β} {io : Io} {w0 : World} {Q : Exit → Act → World → Prop}
  (hk : ∀ σ a w, k σ = some r → Rel io w0 σ a w → Q .normal a w) {σ : St N} {m : Nat} (hm' : m ≤ ops.length) (h : execDraw τ Φ ops m σ k = some r) {a : Act} {w : World} (hr : Rel io w0 σ a w) {id : Nat} : (Code.region id ops.toArray true).wp P Q a w := by
 unfold execDraw at h
 simp only [drawHeadC_eq (σ0 := σ) _ _ _ _ (show σ = sq σ (effAt ([] : List (Eff N))) (downTo 0) from rfl)] at h
 obtain ⟨hst, h⟩ := bif_none h
 simp only [statOk, Bool.and_eq_true, Bool.or_eq_true] at hst
 obtain ⟨⟨⟨s1, s2⟩, s3⟩, s4⟩ := hst
 have hD := drawOk_of s1 s2
 have hfwd : ∀ i, i < ops.length → ∀ k ∈ clo ops ops.length i, k < i := fun j hj => clo_sub (S := fun k => k < j) (fun k hk l hl => Nat.lt_trans (hD.fwd k (by omega) l hl) hk) _ j (hD.fwd j hj)
 obtain ⟨all, h1, h2, h3⟩ := drawHead_sound F hΦ hfwd (ops.take m) [] _ (fun j => by
  rw [List.getElem?_take]
  split
  ·exact .inr (by simp)
  ·exact .inl rfl) h (fun i hi => by cases hi)
 have hlen : all.length = m := by rw [h2]; simp; omega
 obtain ⟨hc, h1⟩ := bif_none h1
 have hE := effsOk_of hc
 rw [hlen] at hE h3
 have hr' : Rel io w0 σ a { w with drawn := w.drawn + 1 } := by
  obtain ⟨E, hE'⟩ := hr
  exact ⟨E, hE'.ext (Ext.drawn w)⟩
 refine wp_region_any hm ?_
 have hsz : ops.toArray.size = m + (ops.length - m) := by simp; omega
 rw [hsz]
 refine wpAny_draw (σ0 := σ) (eff := effAt all) hm' hD hE h3 (fun hlt => ?_) ?_ m _ [] a _ (by simp) ⟨⟨by simp; omega, fun j oj _ hl => (by rw [getD_replicate_false] at hl; cases hl), fun t _ ht => getD_in (by simp at ht ⊢; omega) (getD_replicate_false _ _)⟩, fun j hj => ?_, (fun j hj => by cases hj), List.nodup_nil, hr'⟩
 ·rcases s3 with s3 | s3
  ·have := Nat.eq_of_beq_eq_true s3
   omega
  ·exact s3
 ·-- the head is done
  intro listed seq a w hI hl
  have hall : ∀ j, j < m → j ∈ seq := by
   intro j hj
   apply Classical.byContradiction
   intro hn
   have h5 : ∀ m (l : List Nat), l.Nodup → (∀ x ∈ l, x < m) → j < m → j ∉ l → l.length < m := by
    intro m l hnd hlt hjm hjl
    have h6 : (j :: l).Nodup := List.nodup_cons.2 ⟨hjl, hnd⟩
    have h7 := nodup_le m (j :: l) h6 (fun x hx => by
     rcases List.mem_cons.1 hx with rfl | hx
     ·exact hjm
     ·exact hlt x hx)
    simp only [List.length_cons] at h7
    omega
   have := h5 _ seq hI.nodup hI.lt hj hn
   omega
  have hrel : Rel io w0 (sq σ (effAt all) (downTo m)) a w := by
   obtain ⟨E, hE'⟩ := hI.rel
   have hdl : ∀ j ∈ downTo m, j < m := fun j hj => mem_downTo.1 hj
   refine ⟨E, hE'.same (by rw [sq_regs, sq_regs]) (fun t => ?_) (fun id => ?_)⟩
   ·have r1 := sq_reg hE (t := t) hI.lt
    have r2 := sq_reg hE (t := t) hdl
    by_cases hx : ∃ j, j < m ∧ (effAt all j).dst = some t
    ·obtain ⟨j, hj, hjd⟩ := hx
     rw [r1.1 j (hall j hj) hjd, r2.1 j (mem_downTo.2 hj) hjd]
    ·rw [r1.2 (fun j hj hjd => hx ⟨j, hI.lt j hj, hjd⟩), r2.2 (fun j hj hjd => hx ⟨j, hdl j hj, hjd⟩)]
   ·have r1 := sq_own hE (id := id) hI.lt
    have r2 := sq_own hE (id := id) hdl
    by_cases hx : ∃ j, j < m ∧ ∃ b, look (effAt all j).ad id = some b
    ·obtain ⟨j, hj, b, hb⟩ := hx
     rw [r1.1 j (hall j hj) b hb, r2.1 j (mem_downTo.2 hj) b hb]
    ·have hn : ∀ j, j < m → look (effAt all j).ad id = none := fun j hj => by
      cases h : look (effAt all j).ad id with
      | none => rfl
      | some b => exact absurd ⟨j, hj, b, h⟩ hx
     rw [r1.2 (fun j hj => hn j (hI.lt j hj)), r2.2 (fun j hj => hn j (hdl j hj))]
  have hlst : listed = canon ops.length m := by
   have hs1 : listed.size = ops.length := by have := hI.head.size; simpa using this
   apply Array.ext
   ·rw [hs1]; simp [canon]; omega
   ·intro j hj1 hj2
    have hj : j < ops.length := by omega
    have hg : listed.getD j false = listed[j] := by simp [hj1]
    have hmem := hI.mem j hj
    rw [hg] at hmem
    rcases Nat.lt_or_ge j m with h' | h'
    ·rw [hmem.2 (hall j h')]
     simp [canon, List.getElem_append, h']
    ·have : listed[j] = false := by
      cases hv : listed[j] with
      | false => rfl
      | true =>
       have := hI.lt j (hmem.1 hv)
       omega
     rw [this]
     simp only [canon, List.getElem_toArray, List.getElem_append, List.length_replicate]
     rw [dif_neg (by omega)]
     simp
  have hlst2 := execOps_sound (ops := ops) (Q := Q) F hΦ hk (ops.drop m) _ h1 a w hrel
  have := wpAny_of_seq (P := P) (md := .any) (ops := ops.toArray) (Q' := Q) (ops.drop m) m listed a w (fun j => by simp) (by rw [hlst, List.length_drop]; exact s4) hlst2
  rw [List.length_drop] at this
  exact this
 ·rw [getD_replicate_false]
  simp
where
 nodup_le : ∀ (m : Nat) (l : List Nat), l.Nodup → (∀ x ∈ l, x < m) → l.length ≤ m
  | 0, l, _, h => by
   cases l with
   | nil => exact Nat.le_refl _
   | cons x r => have := h x List.mem_cons_self; omega
  | m + 1, l, hn, h => by
   have h1 := nodup_le m (l.erase m) (hn.erase m) (fun x hx => by
    have h2 := h x (List.mem_of_mem_erase hx)
    have h3 : x ≠ m := fun e => by
     subst e
     exact (List.Nodup.not_mem_erase hn) hx
    omega)
   have h4 := List.length_erase_le (a := m) (l := l)
   by_cases hm : m ∈ l
   ·rw [List.length_erase_of_mem hm] at h1
    omega
   ·rw [List.erase_of_not_mem hm] at h1
    omega
end Go.Eng

set_option linter.unusedVariables false
set_option linter.unusedSimpArgs false
namespace Go.Eng
variable {N : Names} {P : Program} {τ : TypeId → Option TI} {β : Type}
inductive Lin (ops : List Oper) : List Nat → Prop
 | nil : Lin ops []
 | cons {j : Nat} {L : List Nat} : (∀ k ∈ clo ops ops.length j, k ∈ L) → j ∉ L → Lin ops L → Lin ops (j :: L)
theorem Lin.closed {ops : List Oper} : ∀ {L : List Nat}, Lin ops L → ∀ j ∈ L, ∀ k ∈ clo ops ops.length j, k ∈ L
 | _, .nil, j, hj => by cases hj
 | _, .cons h1 h2 h3, j, hj => by
  intro k hk
  rcases List.mem_cons.1 hj with rfl | hj
  ·exact List.mem_cons_of_mem _ (h1 k hk)
  ·exact List.mem_cons_of_mem _ (h3.closed j hj k hk)
theorem sq_one {σ0 : St N} {eff : Nat → Eff N} {id j : Nat} {b : Blk N} (hb : look (eff j).ad id = some b) : ∀ {L : List Nat}, j ∈ L → (∀ i ∈ L, ∀ b', look (eff i).ad id = some b' → i = j) → look (sq σ0 eff L).own id = some b
 | [], hj, _ => by cases hj
 | i :: L, hj, hu => by
  have hr : look (sq σ0 eff (i :: L)).own id = match look (eff i).ad id with
    | some b => some b
    | none => look (sq σ0 eff L).own id := applyE_own _ _ _
  rw [hr]
  cases hi : look (eff i).ad id with
  | some b' =>
   have := hu i List.mem_cons_self b' hi
   subst this
   rw [hb] at hi
   exact hi.symm
  | none =>
   rcases List.mem_cons.1 hj with rfl | hj
   ·rw [hb] at hi; cases hi
   ·exact sq_one hb hj (fun i hi => hu i (List.mem_cons_of_mem _ hi))
theorem sq_last {σ0 : St N} {eff : Nat → Eff N} {ops : List Oper} {id j : Nat} {b : Blk N} (hb : look (eff j).ad id = some b) : ∀ {L : List Nat}, Lin ops L → j ∈ L → (∀ i ∈ L, ∀ b', look (eff i).ad id = some b' → i = j ∨ i ∈ clo ops ops.length j) → look (sq σ0 eff L).own id = some b
 | _, .nil, hj, _ => by cases hj
 | i :: L, .cons h1 h2 h3, hj, hu => by
  have hr : look (sq σ0 eff (i :: L)).own id = match look (eff i).ad id with
    | some b => some b
    | none => look (sq σ0 eff L).own id := applyE_own _ _ _
  rw [hr]
  cases hi : look (eff i).ad id with
  | some b' =>
   rcases hu i List.mem_cons_self b' hi with rfl | hc
   ·rw [hb] at hi
    exact hi.symm
   ·rcases List.mem_cons.1 hj with rfl | hj
    ·rw [hb] at hi
     exact hi.symm
    ·exact absurd (h3.closed j hj i hc) h2
  | none =>
   rcases List.mem_cons.1 hj with rfl | hj
   ·rw [hb] at hi; cases hi
   ·exact sq_last hb h3 hj (fun i hi => hu i (List.mem_cons_of_mem _ hi))
theorem sq_none {σ0 : St N} {eff : Nat → Eff N} {id : Nat} : ∀ {L : List Nat}, (∀ i ∈ L, look (eff i).ad id = none) → look (sq σ0 eff L).own id = look σ0.own id
 | [], _ => rfl
 | i :: L, hu => by
  have hr : look (sq σ0 eff (i :: L)).own id = match look (eff i).ad id with
    | some b => some b
    | none => look (sq σ0 eff L).own id := applyE_own _ _ _
  rw [hr, hu i List.mem_cons_self]
  exact sq_none (fun i hi => hu i (List.mem_cons_of_mem _ hi))
def isStoreO (o : Oper) : Bool := match o.op with
 | .store .. => true
 | _ => false
def storeAt (ops : List Oper) (i : Nat) : Bool := match ops[i]? with
 | some o => isStoreO o
 | none => false
structure EffsW (ops : List Oper) (σ0 : St N) (eff : Nat → Eff N) (m : Nat) : Prop where
 dst : ∀ j, j < m → ∀ d, (eff j).dst = some d → d < σ0.regs.length
 one : ∀ i j, i < m → j < m → ∀ d, (eff i).dst = some d → (eff j).dst = some d → i = j
 ids : ∀ i j, i < m → j < m → ∀ id b b', look (eff i).ad id = some b → look (eff j).ad id = some b' → i = j ∨ i ∈ clo ops ops.length j ∨ j ∈ clo ops ops.length i
 fresh : ∀ j, j < m → storeAt ops j = false → ∀ id b, look (eff j).ad id = some b → look σ0.own id = none
theorem sqW_reg {ops : List Oper} {σ0 : St N} {eff : Nat → Eff N} {m : Nat} (h : EffsW ops σ0 eff m) {t : Nat} : ∀ {L : List Nat}, (∀ j ∈ L, j < m) → (∀ j ∈ L, (eff j).dst = some t → (sq σ0 eff L).reg t = (eff j).s) ∧ ((∀ j ∈ L, (eff j).dst ≠ some t) → (sq σ0 eff L).reg t = σ0.reg t)
 | [], _ => ⟨(fun j hj => by cases hj), fun _ => rfl⟩
 | i :: L, hL => by
  have ih := sqW_reg h (L := L) (t := t) (fun j hj => hL j (List.mem_cons_of_mem _ hj))
  have hr : (sq σ0 eff (i :: L)).reg t = if (eff i).dst = some t then (eff i).s else (sq σ0 eff L).reg t :=
   applyE_reg (fun d hd => by rw [sq_regs]; exact h.dst i (hL i List.mem_cons_self) d hd) t
  rw [hr]
  refine ⟨fun j hj hd => ?_, fun hn => ?_⟩
  ·by_cases hi : (eff i).dst = some t
   ·rw [if_pos hi, h.one i j (hL i List.mem_cons_self) (hL j hj) t hi hd]
   ·rw [if_neg hi]
    rcases List.mem_cons.1 hj with rfl | hj
    ·exact absurd hd hi
    ·exact ih.1 j hj hd
  ·rw [if_neg (hn i List.mem_cons_self)]
   exact ih.2 (fun j hj => hn j (List.mem_cons_of_mem _ hj))
structure Before (ops : List Oper) (m i : Nat) (seq : List Nat) : Prop where
 lt : ∀ j ∈ seq, j < m
 lin : Lin ops seq
 nin : i ∉ seq
 clo : ∀ k ∈ clo ops ops.length i, k ∈ seq
def StepOp (P : Program) (ops : List Oper) (m : Nat) (st : List Nat → St N) (i : Nat) : Prop :=
 ∀ seq, Before ops m i seq → ∀ io w0 a w (K : Act → World → Prop) (Q : Exit → Act → World → Prop), Rel io w0 (st seq) a w → (∀ a' w', Rel io w0 (st (i :: seq)) a' w' → K a' w') → wpOp P ops.toArray Q i K a w
structure InvW (io : Io) (w0 : World) (ops : List Oper) (m : Nat) (st : List Nat → St N) (listed : Array Bool) (seq : List Nat) (a : Act) (w : World) : Prop where
 head : HeadInv .any ops.toArray m listed
 mem : ∀ j, j < ops.length → (listed.getD j false = true ↔ j ∈ seq)
 lt : ∀ j ∈ seq, j < m
 lin : Lin ops seq
 nodup : seq.Nodup
 rel : Rel io w0 (st seq) a w
theorem wpAny_drawW {ops : List Oper} {m g : Nat} {st : List Nat → St N} {io : Io} {w0 : World} {Q : Exit → Act → World → Prop} (hm : m ≤ ops.length) (hfwd : ∀ i, i < ops.length → ∀ k ∈ predsOf ops i, k < i)
  (hH : ∀ i, i < m → StepOp P ops m st i)
  (htail : m < ops.length → Region.sinkB .any ops.toArray m = true ∧ Region.chainB .any ops.toArray m = true)
  (hend : ∀ listed seq a w, InvW io w0 ops m st listed seq a w → seq.length = m → wpAny P .any ops.toArray Q g listed a w) :
  ∀ (f : Nat) (listed : Array Bool) (seq : List Nat) (a : Act) (w : World), f + seq.length = m → InvW io w0 ops m st listed seq a w → wpAny P .any ops.toArray Q (f + g) listed a w
 | 0, listed, seq, a, w, hf, hI => by
  rw [Nat.zero_add]
  exact hend listed seq a w hI (by omega)
 | f + 1, listed, seq, a, w, hf, hI => by
  have hsz : listed.size = ops.length := by have := hI.head.size; simpa using this
  obtain ⟨i0, hi0, hun0, hpre0⟩ : ∃ i, i < m ∧ listed.getD i false = false ∧ ∀ k, k < i → listed.getD k false = true := by
   have hex : ∃ i, i < m ∧ listed.getD i false = false := by
    apply Classical.byContradiction
    intro hno
    have hall : ∀ i, i < m → i ∈ seq := fun i hi => by
     rw [← hI.mem i (by omega)]
     cases h : listed.getD i false with
     | true => rfl
     | false => exact absurd ⟨i, hi, h⟩ hno
    have := range_le m seq hall
    omega
   obtain ⟨i, hi⟩ := hex
   induction i using Nat.strongRecOn with
   | _ i ih =>
    by_cases h : ∃ k, k < i ∧ listed.getD k false = false
    ·obtain ⟨k, hk, hk2⟩ := h
     exact ih k hk ⟨by omega, hk2⟩
    ·refine ⟨i, hi.1, hi.2, fun k hk => ?_⟩
     cases h2 : listed.getD k false with
     | true => rfl
     | false => exact absurd ⟨k, hk, h2⟩ h
  have hi0s : i0 < listed.size := by omega
  have hready0 : i0 ∈ Region.ready .any ops.toArray listed := by
   rw [mem_ready]
   refine ⟨by rw [getD_bool hi0s]; exact hun0, ?_⟩
   have hlt : i0 < ops.length := by omega
   refine ⟨ops[i0], by simp [hlt], fun e he hb => ?_⟩
   exact hpre0 _ (hfwd i0 hlt e.on (mem_preds.2 ⟨_, by simp [hlt], e, he, hb, rfl⟩))
  rw [show f + 1 + g = (f + g) + 1 from by omega]
  refine ⟨(fun h0 => by rw [h0] at hready0; cases hready0), fun i hi => ?_⟩
  obtain ⟨hun, oi, hoi, hall⟩ := mem_ready.1 hi
  have hoi' : ops[i]? = some oi := by rw [List.getElem?_toArray] at hoi; exact hoi
  have hilt : i < ops.length := (List.getElem?_eq_some_iff.1 hoi').1
  have him : i < m := by
   rcases Nat.lt_or_ge i m with h | h
   ·exact h
   ·have hml : m < ops.length := by omega
    obtain ⟨hs, hc⟩ := htail hml
    exact absurd hi (tail_waits hs hc (by simpa using hml) hI.head (m - i0) i0 rfl hi0 (by rw [getD_bool hi0s]; exact hun0) i h)
  have hins : i ∉ seq := fun hm' => by
   have := (hI.mem i hilt).2 hm'
   rw [← getD_bool (by omega)] at this
   rw [this] at hun
   cases hun
  have hclosed : ∀ j, j ∈ seq → ∀ k ∈ predsOf ops j, k ∈ seq := by
   intro j hj k hk
   obtain ⟨oj, hoj, e, he, hb, rfl⟩ := mem_preds.1 hk
   have hjl : j < ops.length := (List.getElem?_eq_some_iff.1 hoj).1
   have h1 := hI.head.closed j oj (by rw [List.getElem?_toArray]; exact hoj) ((hI.mem j hjl).2 hj) e he hb
   exact (hI.mem e.on (Nat.lt_trans (hfwd j hjl e.on hk) hjl)).1 h1
  have hpreds : ∀ k ∈ predsOf ops i, k ∈ seq := by
   intro k hk
   obtain ⟨oj, hoj, e, he, hb, rfl⟩ := mem_preds.1 hk
   have : oj = oi := Option.some.inj (hoj.symm.trans hoi')
   subst this
   exact (hI.mem e.on (Nat.lt_trans (hfwd i hilt e.on hk) hilt)).1 (hall e he hb)
  have hclo : ∀ k ∈ clo ops ops.length i, k ∈ seq := clo_sub (S := fun k => k ∈ seq) hclosed _ i hpreds
  refine hH i him seq ⟨hI.lt, hI.lin, hins, hclo⟩ io w0 a w _ _ hI.rel (fun a' w' hr => ?_)
  refine wpAny_drawW hm hfwd hH htail hend f (listed.setIfInBounds i true) (i :: seq) a' w' (by simp only [List.length_cons]; omega) ⟨hI.head.set hi him, fun j hj => ?_, fun j hj => ?_, .cons hclo hins hI.lin, List.nodup_cons.2 ⟨hins, hI.nodup⟩, hr⟩
  ·by_cases hij : i = j
   ·subst hij
    simp [hsz, hj]
   ·rw [getD_set_ne false hij, hI.mem j hj, List.mem_cons]
    exact ⟨.inr, fun h => h.resolve_left (fun e => hij e.symm)⟩
  ·rcases List.mem_cons.1 hj with rfl | hj
   ·exact him
   ·exact hI.lt j hj
def delS (H : List Nat) (σ : St N) : St N := { σ with own := delL H σ.own }
theorem regs_agree {ops : List Oper} {m : Nat} {σ0 : St N} {eff : Nat → Eff N} (hm : m ≤ ops.length) (hD : DrawOk ops m) (hE : EffsW ops σ0 eff m) (hdsts : ∀ j, j < m → ∃ o, ops[j]? = some o ∧ (eff j).dst = o.dst)
  {i : Nat} (him : i < m) {o : Oper} (ho : ops[i]? = some o) {seq : List Nat} (hB : Before ops m i seq) : ∀ t ∈ usesG ops o, (sq σ0 eff seq).reg t = (sq σ0 eff (clo ops ops.length i)).reg t := by
 intro t ht
 have hilt : i < ops.length := by omega
 have hback : ∀ j, j < ops.length → ∀ k ∈ clo ops ops.length j, k < j := fun j hj => clo_sub (S := fun k => k < j) (fun k hk l hl => Nat.lt_trans (hD.fwd k (by omega) l hl) hk) _ j (hD.fwd j hj)
 have hclom : ∀ k ∈ clo ops ops.length i, k < m := fun k hk => Nat.lt_trans (hback i hilt k hk) him
 have hcloj := hB.lin.closed
 have r1 := sqW_reg hE (t := t) hB.lt
 have r2 := sqW_reg hE (t := t) hclom
 by_cases hx : ∃ j, j < m ∧ (eff j).dst = some t
 ·obtain ⟨j, hj, hjd⟩ := hx
  obtain ⟨oj, hoj, hdj⟩ := hdsts j hj
  by_cases hjs : j ∈ seq
  ·rw [r1.1 j hjs hjd]
   by_cases hjc : j ∈ clo ops ops.length i
   ·rw [r2.1 j hjc hjd]
   ·exfalso
    rcases hD.uses i j o oj him hj ho hoj t (by rw [← hdj]; exact hjd) ht with h | h | h
    ·subst h; exact hB.nin hjs
    ·exact hjc h
    ·exact hB.nin (hcloj j hjs i h)
  ·have hjc : j ∉ clo ops ops.length i := fun h => hjs (hB.clo j h)
   have u : ∀ (L : List Nat), (∀ k ∈ L, k < m) → j ∉ L → ∀ k ∈ L, (eff k).dst ≠ some t := fun L hL hjL k hk hkd => hjL (by rw [hE.one j k hj (hL k hk) t hjd hkd]; exact hk)
   rw [r1.2 (u seq hB.lt hjs), r2.2 (u _ hclom hjc)]
 ·have u : ∀ (L : List Nat), (∀ k ∈ L, k < m) → ∀ k ∈ L, (eff k).dst ≠ some t := fun L hL k hk hkd => hx ⟨k, hL k hk, hkd⟩
  rw [r1.2 (u seq hB.lt), r2.2 (u _ hclom)]
def ShareOk (ops : List Oper) (eff : Nat → Eff N) (m : Nat) : Prop := ∀ k j, k < m → j < k → ∀ id b b', look (eff k).ad id = some b → look (eff j).ad id = some b' → storeAt ops k = true ∧ storeAt ops j = false ∧ j ∈ clo ops ops.length k
theorem own_agree {ops : List Oper} {m : Nat} {σ0 : St N} {eff : Nat → Eff N} (hE : EffsW ops σ0 eff m) {i : Nat} {H : List Nat}
  (hH : ∀ k, k < m → storeAt ops k = true → i ∉ clo ops ops.length k → ∀ id b, look (eff k).ad id = some b → id ∈ H) (hshare : ShareOk ops eff m) {seq : List Nat} (hB : Before ops m i seq) :
  ∀ id b, id ∉ H → look (sq σ0 eff (clo ops ops.length i)).own id = some b → look (sq σ0 eff seq).own id = some b := by
 intro id b hidH hb
 have hcloj := hB.lin.closed
 -- who of the list touches id
 have ht : ∀ k ∈ seq, ∀ b, look (eff k).ad id = some b → storeAt ops k = false := by
  intro k hk b hb
  cases hs : storeAt ops k with
  | false => rfl
  | true => exact absurd (hH k (hB.lt k hk) hs (fun hm => hB.nin (hcloj k hk i hm)) id b hb) hidH
 have huniq : ∀ id j k, j < m → k < m → storeAt ops j = false → storeAt ops k = false → ∀ b b', look (eff j).ad id = some b → look (eff k).ad id = some b' → j = k := by
  intro id j k hj hk hsj hsk b b' hb hb'
  rcases Nat.lt_trichotomy j k with e | e | e
  ·have := (hshare k j hk e id b' b hb' hb).1
   rw [hsk] at this
   cases this
  ·exact e
  ·have := (hshare j k hj e id b b' hb hb').1
   rw [hsj] at this
   cases this
 by_cases hx : ∃ k ∈ seq, ∃ b', look (eff k).ad id = some b'
 ·obtain ⟨k, hk, b', hb'⟩ := hx
  have hsk := ht k hk b' hb'
  have hon : ∀ j ∈ seq, ∀ b2, look (eff j).ad id = some b2 → j = k := fun j hj b2 hb2 => huniq id j k (hB.lt j hj) (hB.lt k hk) (ht j hj b2 hb2) hsk b2 b' hb2 hb'
  have hkc : k ∈ clo ops ops.length i := by
   apply Classical.byContradiction
   intro hkc
   rw [sq_none (fun j hj => by
    cases h : look (eff j).ad id with
    | none => rfl
    | some b2 => exact absurd (hon j (hB.clo j hj) b2 h ▸ hj) hkc)] at hb
   rw [hE.fresh k (hB.lt k hk) hsk id b' hb'] at hb
   cases hb
  rw [sq_one hb' hkc (fun j hj b2 hb2 => hon j (hB.clo j hj) b2 hb2)] at hb
  rw [sq_one hb' hk hon]
  exact hb
 ·have hn : ∀ j ∈ seq, look (eff j).ad id = none := fun j hj => by
   cases h : look (eff j).ad id with
   | none => rfl
   | some b' => exact absurd ⟨j, hj, b', h⟩ hx
  rw [sq_none (fun j hj => hn j (hB.clo j hj))] at hb
  rw [sq_none hn]
  exact hb
theorem fresh_agree {ops : List Oper} {m : Nat} {σ0 : St N} {eff : Nat → Eff N} (hE : EffsW ops σ0 eff m) {i : Nat} (him : i < m) (hsi : storeAt ops i = false) (hshare : ShareOk ops eff m) {seq : List Nat} (hB : Before ops m i seq) :
  ∀ p ∈ (eff i).ad, look (sq σ0 eff seq).own p.1 = none := by
 intro p hp
 have hcloj := hB.lin.closed
 obtain ⟨b, hb⟩ := wpAny_draw.look_of_mem hp
 rw [sq_none (fun j hj => by
  cases h : look (eff j).ad p.1 with
  | none => rfl
  | some b' =>
   rcases Nat.lt_trichotomy i j with e | e | e
   ·exact absurd (hcloj j hj i (hshare j i (hB.lt j hj) e p.1 b' b h hb).2.2) hB.nin
   ·exact absurd (e ▸ hj) hB.nin
   ·have := (hshare i j him e p.1 b b' hb h).1
    rw [hsi] at this
    cases this)]
 exact hE.fresh i him hsi p.1 b hb
theorem step_head {ops : List Oper} {m : Nat} {σ0 : St N} {eff : Nat → Eff N} (hm : m ≤ ops.length) (hD : DrawOk ops m) (hE : EffsW ops σ0 eff m) (hdsts : ∀ j, j < m → ∃ o, ops[j]? = some o ∧ (eff j).dst = o.dst)
  {i : Nat} (him : i < m) (hsi : storeAt ops i = false) {o : Oper} (ho : ops[i]? = some o) {H : List Nat} (hop : HeadOp P ops i o (delS H (sq σ0 eff (clo ops ops.length i))) (eff i))
  (hH : ∀ k, k < m → storeAt ops k = true → i ∉ clo ops ops.length k → ∀ id b, look (eff k).ad id = some b → id ∈ H) (hshare : ShareOk ops eff m) : StepOp P ops m (sq σ0 eff) i := by
 intro seq hB io w0 a w K Q hrel hK
 refine hop.2 (sq σ0 eff seq) ⟨fun t ht => regs_agree hm hD hE hdsts him ho hB t ht, fun id b hb => ?_, by show (sq σ0 eff seq).regs.length = (sq σ0 eff (clo ops ops.length i)).regs.length; rw [sq_regs, sq_regs]⟩ (fresh_agree hE him hsi hshare hB) io w0 a w K Q hrel hK
 have hb : look (delL H (sq σ0 eff (clo ops ops.length i)).own) id = some b := hb
 rw [look_delL] at hb
 split at hb
 ·cases hb
 ·rename_i hn
  exact own_agree hE hH hshare hB id b hn hb
/-! Nothing looks into id. -/
def Slot.bsL : Slot N → List Nat
 | .one r => r.bs
 | .tup l => l.flatMap RV.bs
structure NoId (id : Nat) (σ : St N) : Prop where
 regs : ∀ s ∈ σ.regs, id ∉ s.bsL
 own : ∀ p ∈ σ.own, id ∉ p.2.bs
def noIdB (id : Nat) (σ : St N) : Bool := σ.regs.all (fun s => !s.bsL.contains id) && σ.own.all (fun p => !p.2.bs.contains id)
def noIdE (id : Nat) (e : Eff N) : Bool := !e.s.bsL.contains id && e.ad.all (fun p => !p.2.bs.contains id)
theorem noIdB_spec {id : Nat} {σ : St N} (h : noIdB id σ = true) : NoId id σ := by
 simp only [noIdB, Bool.and_eq_true, List.all_eq_true, Bool.not_eq_true'] at h
 exact ⟨fun s hs => contains_false (h.1 s hs), fun p hp => contains_false (h.2 p hp)⟩
theorem mem_ins {β : Type} {i : Nat} {v : β} {p : Nat × β} : ∀ {l : List (Nat × β)}, p ∈ ins i v l → p = (i, v) ∨ p ∈ l
 | [], h => by simpa [ins] using h
 | (k, u) :: r, h => by
  unfold ins at h
  cases h1 : (i == k) with
  | true =>
   rw [h1, cond_true] at h
   rcases List.mem_cons.1 h with h | h
   ·exact .inl h
   ·exact .inr (List.mem_cons_of_mem _ h)
  | false =>
   rw [h1, cond_false] at h
   cases h2 : Nat.blt i k with
   | true =>
    rw [h2, cond_true] at h
    rcases List.mem_cons.1 h with h | h
    ·exact .inl h
    ·exact .inr h
   | false =>
    rw [h2, cond_false] at h
    rcases List.mem_cons.1 h with h | h
    ·exact .inr (by rw [h]; exact List.mem_cons_self)
    ·rcases mem_ins h with h | h
     ·exact .inl h
     ·exact .inr (List.mem_cons_of_mem _ h)
theorem mem_insAll {β : Type} {p : Nat × β} : ∀ {new l : List (Nat × β)}, p ∈ insAll new l → p ∈ new ∨ p ∈ l
 | [], l, h => .inr h
 | (i, v) :: r, l, h => by
  rcases mem_ins (show p ∈ ins i v (insAll r l) from h) with h | h
  ·exact .inl (by rw [h]; exact List.mem_cons_self)
  ·rcases mem_insAll h with h | h
   ·exact .inl (List.mem_cons_of_mem _ h)
   ·exact .inr h
theorem noId_applyE {id : Nat} {σ : St N} {e : Eff N} (h : NoId id σ) (he : noIdE id e = true) : NoId id (applyE σ e) := by
 simp only [noIdE, Bool.and_eq_true, List.all_eq_true, Bool.not_eq_true'] at he
 have hown : ∀ p ∈ insAll e.ad σ.own, id ∉ p.2.bs := fun p hp => by
  rcases mem_insAll hp with hp | hp
  ·exact contains_false (he.2 p hp)
  ·exact h.own p hp
 unfold applyE
 cases hd : e.dst with
 | none => exact ⟨h.regs, hown⟩
 | some d =>
  refine ⟨fun s hs => ?_, hown⟩
  rcases List.mem_or_eq_of_mem_set (show s ∈ σ.regs.set d e.s from hs) with hs | hs
  ·exact h.regs s hs
  ·rw [hs]; exact contains_false he.1
theorem noId_sq {id m : Nat} {σ0 : St N} {eff : Nat → Eff N} (h0 : NoId id σ0) (he : ∀ j, j < m → noIdE id (eff j) = true) : ∀ {L : List Nat}, (∀ j ∈ L, j < m) → NoId id (sq σ0 eff L)
 | [], _ => h0
 | j :: L, hL => noId_applyE (noId_sq h0 he (fun k hk => hL k (List.mem_cons_of_mem _ hk))) (he j (hL j List.mem_cons_self))
theorem scrub_same {id : Nat} {s : Slot N} (h : id ∉ s.bsL) : Slot.map (scrub id) s = s := by
 have one : ∀ r : RV N, id ∉ r.bs → scrub id r = r := fun r hr => by
  unfold scrub
  rw [show r.bs.contains id = false from by
   cases hc : r.bs.contains id with
   | false => rfl
   | true => exact absurd (List.contains_iff_mem.1 hc) hr]
  rfl
 cases s with
 | one r => simp only [Slot.map, one r h]
 | tup l =>
  simp only [Slot.map]
  congr 1
  rw [List.map_congr_left (g := fun r => r) (fun r hr => one r (fun hm => h (List.mem_flatMap.2 ⟨r, hr, hm⟩)))]
  simp
def drawStore (τ : TypeId → Option TI) (σ : St N) (o : Oper) (k : KK N β) : Option β :=
 match o.op with
 | .store t (.tmp d) y => match o.guard with
  | some _ => none
  | none => match o.dst with
   | some _ => none
   | none => match σ.reg d with
    | .one (.bptr id 0) => match look σ.own id with
     | some (.whole tb x0 []) => match τ t with
      | some ⟨tv, _⟩ => bif decide (tv = tb) && (!loose (ev σ y) && !isNilR (ev σ y)) then match toDen ([] : List (Nat × Blk N)) tb (ev σ y) with
       | some (v, b) => bif (addB [] b).contains id then none else k (.tup []) [(id, .whole tb v (addB [] b))]
       | none => none
       else none
      | none => none
     | some (.cells l) => match τ t with
      | some ⟨tv, _⟩ => match toDen ([] : List (Nat × Blk N)) tv (ev σ y) with
       | some _ => match storeVals ([] : List (Nat × Blk N)) tv (ev σ y) with
        | some vs => bif Nat.beq vs.length l.length then bif (Blk.cells vs).bs.contains id then none else k (.tup []) [(id, .cells vs)] else none
        | none => none
       | none => none
      | none => none
     | _ => none
    | .one (.optr id i off) => match look σ.own id with
     | some (.row e ty xs bs p) => match τ t with
      | some ⟨tv, _⟩ => match toDen ([] : List (Nat × Blk N)) tv (ev σ y) with
       | some (v, []) => bif bs.contains id then none else match updAt ⟨tv, v⟩ 8 ty (xs.getD i (N.dflt ty)) off with
        | some x' => k (.tup []) [(id, .row e ty (xs.set i x') bs p)]
        | none => none
       | _ => none
      | none => none
     | _ => none
    | _ => none
 | _ => none
theorem sq_same {ops : List Oper} {m : Nat} {σ0 : St N} {eff : Nat → Eff N} (hE : EffsW ops σ0 eff m) {i : Nat} (him : i < m)
  (hEop : ∀ id b, look (eff i).ad id = some b → ∀ j, j < m → j ≠ i → ∀ b2, look (eff j).ad id = some b2 → storeAt ops j = false ∧ j ∈ clo ops ops.length i)
  (hshare : ∀ i j, i < m → j < i → ∀ id b b', look (eff i).ad id = some b → look (eff j).ad id = some b' → storeAt ops i = true ∧ storeAt ops j = false ∧ j ∈ clo ops ops.length i) (hsi : storeAt ops i = true) :
  ∀ id b, look (eff i).ad id = some b → ∀ seq, Before ops m i seq → ∀ b0, look (sq σ0 eff (clo ops ops.length i)).own id = some b0 → look (sq σ0 eff seq).own id = some b0 := by
 intro id b hb seq hB b0 hb0
 have hone : ∀ j, j < m → j ≠ i → ∀ b2, look (eff j).ad id = some b2 → ∀ j', j' < m → j' ≠ i → ∀ b3, look (eff j').ad id = some b3 → j' = j := by
  intro j hj hji b2 hb2 j' hj' hji' b3 hb3
  have h5 := (hEop id b hb j hj hji b2 hb2).1
  have h6 := (hEop id b hb j' hj' hji' b3 hb3).1
  rcases Nat.lt_trichotomy j' j with e | e | e
  ·have := (hshare j j' hj e id b2 b3 hb2 hb3).1
   rw [h5] at this
   cases this
  ·exact e
  ·have := (hshare j' j hj' e id b3 b2 hb3 hb2).1
   rw [h6] at this
   cases this
 rw [← hb0]
 by_cases hx : ∃ j, j < m ∧ j ≠ i ∧ ∃ b2, look (eff j).ad id = some b2
 ·obtain ⟨j, hj, hji, b2, hb2⟩ := hx
  have t1 := (hEop id b hb j hj hji b2 hb2).2
  rw [sq_one hb2 (hB.clo j t1) (fun k hk b3 hb3 => hone j hj hji b2 hb2 k (hB.lt k hk) (fun e => hB.nin (e ▸ hk)) b3 hb3),
   sq_one hb2 t1 (fun k hk b3 hb3 => hone j hj hji b2 hb2 k (hB.lt k (hB.clo k hk)) (fun e => hB.nin (e ▸ hB.clo k hk)) b3 hb3)]
 ·have hn : ∀ j, j < m → j ≠ i → look (eff j).ad id = none := fun j hj hji => by
   cases h : look (eff j).ad id with
   | none => rfl
   | some b2 => exact absurd ⟨j, hj, hji, b2, h⟩ hx
  rw [sq_none (fun j hj => hn j (hB.lt j hj) (fun e => hB.nin (e ▸ hj))), sq_none (fun j hj => hn j (hB.lt j (hB.clo j hj)) (fun e => hB.nin (e ▸ hB.clo j hj)))]
theorem toDen_any {own : List (Nat × Blk N)} {t : Ty} {r : RV N} {y : t.den N.ρ × List Nat} (hv : toDen ([] : List (Nat × Blk N)) t r = some y) : toDen own t r = some y ∧ isMp r = false := by
 cases r <;> first | exact ⟨hv, rfl⟩ | (have h2 : (none : Option (t.den N.ρ × List Nat)) = some y := hv; cases h2)
theorem storeVals_any {own : List (Nat × Blk N)} {t : Ty} {r : RV N} {y : t.den N.ρ × List Nat} {vs : List (RV N)} (hv : toDen ([] : List (Nat × Blk N)) t r = some y) (h : storeVals ([] : List (Nat × Blk N)) t r = some vs) : storeVals own t r = some vs := by
 obtain ⟨hv', hm⟩ := toDen_any (own := own) hv
 unfold storeVals at h ⊢
 split at h
 ·split at h
  ·cases hm
  ·rw [hv] at h
   simp only at h ⊢
   rw [hv']
   exact h
 ·exact h
 ·rw [hv] at h
  rw [hv']
  exact h
theorem step_store (F : Fits P N τ) {Φ : FuncId → Option (Spec N)} (hΦ : ∀ f S, Φ f = some S → Good P (f % 1000000) S) {ops : List Oper} {m : Nat} {st : List Nat → St N}
  {i : Nat} {o : Oper} (ho : ops[i]? = some o) {e : Eff N} (h : drawStore τ (st (clo ops ops.length i)) o (fun s ad => some (s, ad)) = some (e.s, e.ad))
  (hregs : ∀ seq, Before ops m i seq → ∀ t ∈ usesG ops o, (st seq).reg t = (st (clo ops ops.length i)).reg t)
  (hsame : ∀ id b, look e.ad id = some b → ∀ seq, Before ops m i seq → ∀ b0, look (st (clo ops ops.length i)).own id = some b0 → look (st seq).own id = some b0)
  (hno : ∀ id b, look e.ad id = some b → ∀ seq, Before ops m i seq → NoId id (st seq))
  (hnext : ∀ seq, Before ops m i seq → (st (i :: seq)).regs.length = (st seq).regs.length ∧ (∀ t, (st (i :: seq)).reg t = (st seq).reg t) ∧ ∀ j, look (st (i :: seq)).own j = match look e.ad j with
   | some b => some b
   | none => look (st seq).own j) : StepOp P ops m st i := by
 -- the store, carried out
 have fin : ∀ {t : TypeId} {d : Nat} {y : Operand} {id : Nat} {b b0 : Blk N}, o.op = .store t (.tmp d) y → o.guard = none → o.dst = none → e.ad = [(id, b)] → look (st (clo ops ops.length i)).own id = some b0 →
   (∀ seq, Before ops m i seq → (st seq).reg d = (st (clo ops ops.length i)).reg d → ev (st seq) y = ev (st (clo ops ops.length i)) y → noBs' (st seq).own id = true → look (st seq).own id = some b0 →
    evOp τ Φ o (st seq) (fun σ => some σ) = some { regs := (st seq).regs.map (Slot.map (scrub id)), own := ins id b (st seq).own }) → StepOp P ops m st i := by
  intro t d y id b b0 hop hg hdst had hb0 hev
  have hti : look e.ad id = some b := by rw [had]; simp [look]
  intro seq hB io w0 ac w K Q hrel hK
  have hregs := hregs seq hB
  have hud : ∀ t', (Operand.tmp t') ∈ o.op.operands.toList → t' ∈ usesG ops o := fun t' ht' => List.mem_append.2 (.inr (List.mem_filterMap.2 ⟨_, ht', rfl⟩))
  have hregd := hregs d (hud d (by rw [hop]; simp [Op.operands]))
  have hevy : ev (st seq) y = ev (st (clo ops ops.length i)) y := by
   cases y with
   | tmp t' => simp only [Eng.ev, hregs t' (hud t' (by rw [hop]; simp [Op.operands]))]
   | const c => exact ev_const _ _ c
   | _ => rfl
  have hNo : NoId id (st seq) := hno id _ hti seq hB
  have hnb : noBs' (st seq).own id = true := by
   unfold noBs'
   rw [List.all_eq_true]
   intro p hp
   have := hNo.own p hp
   simp only [Bool.or_eq_true, Bool.not_eq_true']
   right
   cases hcc : p.2.bs.contains id with
   | false => rfl
   | true => exact absurd (List.contains_iff_mem.1 hcc) this
  obtain ⟨σ1, h1, h2⟩ := evOp_sound F hΦ (hev seq hB hregd hevy hnb (hsame id b hti seq hB b0 hb0))
  cases h1
  unfold wpOp
  have hoi : (ops.toArray)[i]? = some o := by rw [List.getElem?_toArray]; exact ho
  simp only [hoi]
  rw [if_pos (by simp [Region.wanted, hg])]
  refine .inl (h2 io w0 ac w K Q hrel (fun a' w' hr => hK a' w' ?_))
  obtain ⟨E', hE'⟩ := hr
  have hregeq : (st seq).regs.map (Slot.map (scrub id)) = (st seq).regs := by
   rw [List.map_congr_left (g := fun s => s) (fun s hs => scrub_same (hNo.regs s hs))]
   simp
  obtain ⟨n1, n2, n3⟩ := hnext seq hB
  refine ⟨E', hE'.same ?_ (fun t' => ?_) (fun j => ?_)⟩
  ·rw [n1, List.length_map]
  ·rw [n2]
   simp only [St.reg, hregeq]
  ·rw [n3, look_ins, had]
   simp only [look]
   by_cases hj : id = j
   ·simp [hj]
   ·have : (id == j) = false := by simpa using hj
    simp [this, hj]
 unfold drawStore at h
 split at h
 ·rename_i t d y hop
  split at h
  ·cases h
  ·rename_i hg
   split at h
   ·cases h
   ·rename_i hdst
    split at h
    ·rename_i id hreg
     split at h
     ·rename_i tb x0 hlk
      split at h
      ·rename_i tv e hτ
       obtain ⟨hc, h⟩ := bif_none h
       simp only [Bool.and_eq_true, decide_eq_true_eq, Bool.not_eq_true'] at hc
       obtain ⟨rfl, hlo, hni⟩ := hc
       split at h
       ·rename_i v b hv
        cases hbid : (addB [] b).contains id with
        | true => rw [hbid] at h; cases h
        | false =>
         rw [hbid, cond_false] at h
         simp only [Option.some.injEq, Prod.mk.injEq] at h
         refine fin hop hg hdst h.2.symm hlk (fun seq hB hrd hevy hnb hown => ?_)
         have hupd : updAt (⟨tv, v⟩ : TV N) 8 tv x0 0 = some v := by
          simp [updAt, castTy]
         have e1 : ev (st seq) (.tmp d) = .bptr id 0 := by simp only [Eng.ev, hrd, hreg]
         have e2 : (loose (ev (st seq) y) || isNilR (ev (st seq) y) || isMp (ev (st seq) y)) = false := by rw [hevy, hlo, hni, (toDen_any (own := []) hv).2]; rfl
         have e3 : toDen (st seq).own tv (ev (st seq) y) = some (v, b) := by rw [hevy]; exact (toDen_any hv).1
         unfold evOp
         rw [hop]
         simp only [evStore, hτ, e1, hown, e2, cond_false, e3, hnb, hbid, Bool.not_false, Bool.and_self, cond_true, hupd, hdst, St.put]
       ·cases h
      ·cases h
     ·rename_i l hlk
      split at h
      ·rename_i tv e hτ
       split at h
       ·rename_i yv hv
        split at h
        ·rename_i vs hvs
         obtain ⟨hlen, h⟩ := bif_none h
         cases hbid : (Blk.cells vs).bs.contains id with
         | true => rw [hbid] at h; cases h
         | false =>
          rw [hbid, cond_false] at h
          simp only [Option.some.injEq, Prod.mk.injEq] at h
          refine fin hop hg hdst h.2.symm hlk (fun seq hB hrd hevy hnb hown => ?_)
          have hlen : vs.length = l.length := Nat.eq_of_beq_eq_true hlen
          have e1 : ev (st seq) (.tmp d) = .bptr id 0 := by simp only [Eng.ev, hrd, hreg]
          have e3 : storeVals (st seq).own tv (ev (st seq) y) = some vs := by rw [hevy]; exact storeVals_any hv hvs
          have e4 : l.take 0 ++ vs ++ l.drop (0 + vs.length) = vs := by rw [List.take_zero, List.nil_append, List.drop_of_length_le (by omega), List.append_nil]
          have e5 : Nat.ble (0 + vs.length) l.length = true := Nat.ble_eq_true_of_le (by omega)
          unfold evOp
          rw [hop]
          simp only [evStore, hτ, e1, hown, e3, hnb, e4, hbid, e5, Bool.not_false, Bool.and_self, cond_true, hdst, St.put]
        ·cases h
       ·cases h
      ·cases h
     ·cases h
    ·rename_i id ix off hreg
     split at h
     ·rename_i el ty xs bs p hlk
      split at h
      ·rename_i tv e hτ
       split at h
       ·rename_i v hv
        cases hbid : bs.contains id with
        | true => rw [hbid] at h; cases h
        | false =>
         rw [hbid, cond_false] at h
         split at h
         ·rename_i x' hx'
          simp only [Option.some.injEq, Prod.mk.injEq] at h
          refine fin hop hg hdst h.2.symm hlk (fun seq hB hrd hevy hnb hown => ?_)
          have e1 : ev (st seq) (.tmp d) = .optr id ix off := by simp only [Eng.ev, hrd, hreg]
          have e3 : toDen (st seq).own tv (ev (st seq) y) = some (v, []) := by rw [hevy]; exact (toDen_any hv).1
          unfold evOp
          rw [hop]
          simp only [evStore, hτ, e1, hown, e3, hnb, addB, hbid, Bool.not_false, Bool.and_self, cond_true, hx', hdst, St.put]
         ·cases h
       ·cases h
      ·cases h
     ·cases h
    ·cases h
 ·cases h
/-! A region whose order is open, with late stores, followed. -/
def headLenW0 : List Oper → Nat
 | [] => 0
 | o :: r => bif isE o || isStoreO o then headLenW0 r + 1 else 0
def headLenW (ops : List Oper) : Nat := Nat.min (headLenW0 ops) (tailFrom ops ops.length)
def drawHeadW (τ : TypeId → Option TI) (Φ : FuncId → Option (Spec N)) (ops : List Oper) (σ0 : St N) : List Oper → List (Eff N) → (List (Eff N) → Option β) → Option β
 | [], effs, k => k effs
 | o :: rest, effs, k => bif isStoreO o then
   drawStore τ (sq σ0 (effAt effs) (clo ops ops.length effs.length)) o fun s ad => drawHeadW τ Φ ops σ0 rest (effs ++ [⟨none, s, ad⟩]) k
  else
   drawHead.drawOne τ Φ ops (sq σ0 (effAt effs) (clo ops ops.length effs.length)) o fun s ad => splitB (asked effs.length ops) s fun s => drawHeadW τ Φ ops σ0 rest (effs ++ [⟨o.dst, s, ad⟩]) k
def idsE (e : Eff N) : List Nat := e.ad.map (·.1)
def gather (f : Nat → List Nat) : Nat → List Nat
 | 0 => []
 | n + 1 => f n ++ gather f n
theorem mem_gather {f : Nat → List Nat} {x : Nat} : ∀ {n i : Nat}, i < n → x ∈ f i → x ∈ gather f n
 | 0, i, h, _ => by omega
 | n + 1, i, h, hx => by
  rcases Nat.lt_or_ge i n with h' | h'
  ·exact List.mem_append.2 (.inr (mem_gather h' hx))
  ·have : i = n := by omega
   subst this
   exact List.mem_append.2 (.inl hx)
def hotJ (ops : List Oper) (effs : List (Eff N)) (j : Nat) : List Nat :=
 gather (fun i => bif storeAt ops i && !(clo ops ops.length i).contains j then idsE (effAt effs i) else []) effs.length
def isOk : Option Unit → Bool
 | some _ => true
 | none => false
def coldJ (τ : TypeId → Option TI) (Φ : FuncId → Option (Spec N)) (ops : List Oper) (σ0 : St N) (effs : List (Eff N)) (j : Nat) : Bool :=
 match hotJ ops effs j with
 | [] => true
 | H => match ops[j]? with
  | some o => isOk (drawHead.drawOne τ Φ ops (delS H (sq σ0 (effAt effs) (clo ops ops.length j))) o fun _ ad => bif meets H (ad.map (·.1)) then none else some ())
  | none => false
def effsChkW (τ : TypeId → Option TI) (Φ : FuncId → Option (Spec N)) (ops : List Oper) (σ0 : St N) (effs : List (Eff N)) : Bool :=
 (effDsts effs).all (fun d => Nat.blt d σ0.regs.length) && nodupB (effDsts effs) && allLt (fun j => storeAt ops j || freshIds σ0.own (idsE (effAt effs j))) effs.length &&
 allLt (fun i => allLt (fun j => !meets (idsE (effAt effs i)) (idsE (effAt effs j)) || (storeAt ops i && !storeAt ops j && (clo ops ops.length i).contains j)) i) effs.length &&
 allLt (fun j => storeAt ops j || coldJ τ Φ ops σ0 effs j) effs.length &&
 allLt (fun i => !storeAt ops i || (idsE (effAt effs i)).all fun id => noIdB id σ0 && effs.all (noIdE id)) effs.length
def execDrawW (τ : TypeId → Option TI) (Φ : FuncId → Option (Spec N)) (ops : List Oper) (σ0 : St N) (k : St N → Option β) : Option β :=
 bif statOk ops (headLenW ops) then
  drawHeadW τ Φ ops σ0 (ops.take (headLenW ops)) [] fun effs =>
   bif effsChkW τ Φ ops σ0 effs then execOps τ Φ ops (ops.drop (headLenW ops)) (sq σ0 (effAt effs) (downTo (headLenW ops))) k else none
 else none
def execDrawX (τ : TypeId → Option TI) (Φ : FuncId → Option (Spec N)) (ops : List Oper) (σ0 : St N) (k : St N → Option β) : Option β :=
 bif statOk ops (headLenT ops) then execDraw τ Φ ops (headLenT ops) σ0 k else bif statOk ops (headLen ops) then execDraw τ Φ ops (headLen ops) σ0 k else execDrawW τ Φ ops σ0 k
theorem headLenW0_le : ∀ (ops : List Oper), headLenW0 ops ≤ ops.length
 | [] => Nat.le_refl _
 | o :: r => by
  unfold headLenW0
  cases isE o || isStoreO o with
  | true => simpa using headLenW0_le r
  | false => simp
theorem headLenW_le (ops : List Oper) : headLenW ops ≤ ops.length := Nat.le_trans (Nat.min_le_left _ _) (headLenW0_le ops)
theorem look_idsE {e : Eff N} {id : Nat} {b : Blk N} (h : look e.ad id = some b) : id ∈ idsE e := List.mem_map.2 ⟨_, look_mem h, rfl⟩
structure ChkW (τ : TypeId → Option TI) (Φ : FuncId → Option (Spec N)) (ops : List Oper) (σ0 : St N) (effs : List (Eff N)) : Prop where
 dst : ∀ j, j < effs.length → ∀ d, (effAt effs j).dst = some d → d < σ0.regs.length
 one : ∀ i j, i < effs.length → j < effs.length → ∀ d, (effAt effs i).dst = some d → (effAt effs j).dst = some d → i = j
 fresh : ∀ j, j < effs.length → storeAt ops j = false → ∀ id b, look (effAt effs j).ad id = some b → look σ0.own id = none
 share : ∀ i j, i < effs.length → j < i → ∀ id b b', look (effAt effs i).ad id = some b → look (effAt effs j).ad id = some b' → storeAt ops i = true ∧ storeAt ops j = false ∧ j ∈ clo ops ops.length i
 cold : ∀ i, i < effs.length → storeAt ops i = false → coldJ τ Φ ops σ0 effs i = true
 noId : ∀ i, i < effs.length → storeAt ops i = true → ∀ id b, look (effAt effs i).ad id = some b → NoId id σ0 ∧ ∀ j, j < effs.length → noIdE id (effAt effs j) = true
theorem chkW_of {Φ : FuncId → Option (Spec N)} {ops : List Oper} {σ0 : St N} {effs : List (Eff N)} (h : effsChkW τ Φ ops σ0 effs = true) : ChkW τ Φ ops σ0 effs := by
 simp only [effsChkW, Bool.and_eq_true] at h
 obtain ⟨⟨⟨⟨⟨h1, h2⟩, h3⟩, h4⟩, h5⟩, h6⟩ := h
 have h2 := nodupB_spec h2
 rw [effDsts_eq] at h1 h2
 have meet : ∀ {e e' : Eff N} {id : Nat} {b b' : Blk N}, look e.ad id = some b → look e'.ad id = some b' → meets (idsE e) (idsE e') = false → False := fun hb hb' hm => meets_false hm _ (look_idsE hb') (look_idsE hb)
 refine ⟨fun j hj d hd => ?_, fun i j hi hj d h7 h8 => ?_, fun j hj hs id b hb => ?_, fun i j hi hj id b b' hb hb' => ?_, fun i hi hs => ?_, fun i hi hs id b hb => ?_⟩
 ·exact Nat.le_of_ble_eq_true (List.all_eq_true.1 h1 d (List.mem_flatMap.2 ⟨_, List.mem_of_getElem? (effAt_get hj), by rw [hd]; simp⟩))
 ·exact nodup_get h2 i j _ _ (effAt_get hi) (effAt_get hj) d (by rw [h7]; simp) (by rw [h8]; simp)
 ·have := allLt_spec h3 j hj
  rw [hs, Bool.false_or] at this
  exact freshIds_spec this id (look_idsE hb)
 ·have := allLt_spec (allLt_spec h4 i hi) j hj
  simp only [Bool.or_eq_true, Bool.not_eq_true', Bool.and_eq_true] at this
  rcases this with h | ⟨⟨h7, h8⟩, h9⟩
  ·exact (meet hb hb' h).elim
  ·exact ⟨h7, h8, List.contains_iff_mem.1 h9⟩
 ·have := allLt_spec h5 i hi
  rw [hs, Bool.false_or] at this
  exact this
 ·have := allLt_spec h6 i hi
  rw [hs, Bool.not_true, Bool.false_or] at this
  have := List.all_eq_true.1 this id (look_idsE hb)
  simp only [Bool.and_eq_true] at this
  exact ⟨noIdB_spec this.1, fun j hj => List.all_eq_true.1 this.2 _ (List.mem_of_getElem? (effAt_get hj))⟩
theorem ChkW.effsW {Φ : FuncId → Option (Spec N)} {ops : List Oper} {σ0 : St N} {effs : List (Eff N)} (h : ChkW τ Φ ops σ0 effs) : EffsW ops σ0 (effAt effs) effs.length :=
 ⟨h.dst, h.one, fun i j hi hj id b b' hb hb' => by
  rcases Nat.lt_trichotomy i j with e | e | e
  ·exact .inr (.inl (h.share j i hj e id b' b hb' hb).2.2)
  ·exact .inl e
  ·exact .inr (.inr (h.share i j hi e id b b' hb hb').2.2), h.fresh⟩
def SeenW (P : Program) (τ : TypeId → Option TI) (Φ : FuncId → Option (Spec N)) (ops : List Oper) (i : Nat) (o : Oper) (σ : St N) (e : Eff N) : Prop :=
 (storeAt ops i = false ∧ HeadOp P ops i o σ e ∧ ParD τ Φ ops o σ e.s e.ad ∧ ∀ p ∈ e.ad, look σ.own p.1 = none) ∨ (storeAt ops i = true ∧ drawStore τ σ o (fun s ad => some (s, ad)) = some (e.s, e.ad) ∧ e.dst = none)
theorem bif_not {b : Bool} {x : Option β} {y : β} (h : (bif b then none else x) = some y) : b = false ∧ x = some y := by
 cases b with
 | true => cases h
 | false => exact ⟨rfl, h⟩
theorem drawStore_par {σ : St N} {o : Oper} {k : KK N β} {r : β} (h : drawStore τ σ o k = some r) : ∃ s ad, k s ad = some r ∧ drawStore τ σ o (fun s ad => some (s, ad)) = some (s, ad) := by
 unfold drawStore at h ⊢
 split at h
 ·split at h
  ·cases h
  ·split at h
   ·cases h
   ·split at h
    ·split at h
     ·split at h
      ·obtain ⟨hc, h⟩ := bif_none h
       split at h
       ·rename_i v b hv
        cases hb : (addB [] b).contains _ with
        | true => rw [hb] at h; cases h
        | false =>
         rw [hb] at h
         refine ⟨_, _, h, ?_⟩
         simp only [*, cond_true, cond_false]
       ·cases h
      ·cases h
     ·split at h
      ·split at h
       ·split at h
        ·obtain ⟨hb, h⟩ := bif_none h
         obtain ⟨hb2, h⟩ := bif_not h
         refine ⟨_, _, h, ?_⟩
         simp only [*, cond_true, cond_false]
        ·cases h
       ·cases h
      ·cases h
     ·cases h
    ·split at h
     ·split at h
      ·split at h
       ·obtain ⟨hb, h⟩ := bif_not h
        split at h
        ·refine ⟨_, _, h, ?_⟩
         simp only [*, cond_true, cond_false]
        ·cases h
       ·cases h
      ·cases h
     ·cases h
    ·cases h
 ·cases h
theorem drawHeadW_sound (F : Fits P N τ) {Φ : FuncId → Option (Spec N)} (hΦ : ∀ f S, Φ f = some S → Good P (f % 1000000) S) {ops : List Oper} (hfwd : ∀ i, i < ops.length → ∀ k ∈ clo ops ops.length i, k < i) {σ0 : St N} {r : β} : ∀ (todo : List Oper) (effs : List (Eff N)) (k : List (Eff N) → Option β),
  (∀ j, todo[j]? = none ∨ todo[j]? = ops[effs.length + j]?) → drawHeadW τ Φ ops σ0 todo effs k = some r →
  (∀ i, i < effs.length → ∃ o, ops[i]? = some o ∧ SeenW P τ Φ ops i o (sq σ0 (effAt effs) (clo ops ops.length i)) (effAt effs i)) →
  ∃ all : List (Eff N), k all = some r ∧ all.length = effs.length + todo.length ∧ ∀ i, i < all.length → ∃ o, ops[i]? = some o ∧ SeenW P τ Φ ops i o (sq σ0 (effAt all) (clo ops ops.length i)) (effAt all i)
 | [], effs, k, ht, h, hH => ⟨effs, h, rfl, hH⟩
 | o :: rest, effs, k, ht, h, hH => by
  have ho : ops[effs.length]? = some o := by
   rcases ht 0 with h0 | h0
   ·simp at h0
   ·simpa using h0.symm
  have hl : effs.length < ops.length := (List.getElem?_eq_some_iff.1 ho).1
  have hsa : storeAt ops effs.length = isStoreO o := by simp [storeAt, ho]
  obtain ⟨d, s, ad, h1, h3⟩ : ∃ d s ad, drawHeadW τ Φ ops σ0 rest (effs ++ [⟨d, s, ad⟩]) k = some r ∧ SeenW P τ Φ ops effs.length o (sq σ0 (effAt effs) (clo ops ops.length effs.length)) ⟨d, s, ad⟩ := by
   unfold drawHeadW at h
   cases hs : isStoreO o with
   | true =>
    rw [hs, cond_true] at h
    obtain ⟨s, ad, h1, h2⟩ := drawStore_par h
    exact ⟨_, s, ad, h1, .inr ⟨by rw [hsa, hs], h2, rfl⟩⟩
   | false =>
    rw [hs, cond_false] at h
    obtain ⟨s, ad, h1, h2, h3, h4⟩ := drawOne_sound F hΦ ho h
    rw [splitB_eq] at h1
    exact ⟨_, s, ad, h1, .inl ⟨by rw [hsa, hs], h3, h4, h2⟩⟩
  have hold : ∀ j, j < effs.length → effAt (effs ++ [⟨d, s, ad⟩]) j = effAt effs j := fun j hj => by
   unfold effAt
   rw [List.getD_eq_getElem?_getD, List.getD_eq_getElem?_getD, List.getElem?_append_left hj]
  have hnew : effAt (effs ++ [⟨d, s, ad⟩]) effs.length = ⟨d, s, ad⟩ := by
   unfold effAt
   rw [List.getD_eq_getElem?_getD, List.getElem?_append_right (Nat.le_refl _)]
   simp
  obtain ⟨all, a1, a2, a3⟩ := drawHeadW_sound F hΦ hfwd rest (effs ++ [⟨d, s, ad⟩]) k (fun j => by
   have := ht (j + 1)
   simp only [List.getElem?_cons_succ] at this
   rcases this with h | h
   ·exact .inl h
   ·exact .inr (by rw [h]; congr 1; simp; omega)) h1 (fun i hi => by
   rw [List.length_append, List.length_singleton] at hi
   rcases Nat.lt_or_ge i effs.length with h' | h'
   ·obtain ⟨oi, o1, o2⟩ := hH i h'
    refine ⟨oi, o1, ?_⟩
    rw [hold i h', sq_congr (fun j hj => hold j (Nat.lt_trans (hfwd i (by omega) j hj) h'))]
    exact o2
   ·have hi' : i = effs.length := by omega
    subst hi'
    refine ⟨o, ho, ?_⟩
    rw [hnew, sq_congr (fun j hj => hold j (hfwd _ hl j hj))]
    exact h3)
  exact ⟨all, a1, by rw [a2]; simp; omega, a3⟩
theorem max_touch {p : Nat → Bool} : ∀ (m : Nat), (∃ j, j < m ∧ p j = true) → ∃ j, j < m ∧ p j = true ∧ ∀ i, i < m → p i = true → i ≤ j
 | 0, ⟨j, hj, _⟩ => by omega
 | m + 1, ⟨j, hj, hp⟩ => by
  cases hm : p m with
  | true => exact ⟨m, by omega, hm, fun i hi _ => by omega⟩
  | false =>
   have hjm : j < m := by
    rcases Nat.lt_or_ge j m with h | h
    ·exact h
    ·have : j = m := by omega
     rw [this, hm] at hp
     cases hp
   obtain ⟨j', h1, h2, h3⟩ := max_touch m ⟨j, hjm, hp⟩
   refine ⟨j', by omega, h2, fun i hi hpi => ?_⟩
   rcases Nat.lt_or_ge i m with h | h
   ·exact h3 i h hpi
   ·have : i = m := by omega
    rw [this, hm] at hpi
    cases hpi
theorem head_del (F : Fits P N τ) {Φ : FuncId → Option (Spec N)} (hΦ : ∀ f S, Φ f = some S → Good P (f % 1000000) S) {ops : List Oper} {i : Nat} {o : Oper} (ho : ops[i]? = some o) {σ : St N} {e : Eff N}
  (hop : HeadOp P ops i o σ e ∧ ParD τ Φ ops o σ e.s e.ad ∧ ∀ p ∈ e.ad, look σ.own p.1 = none) {H : List Nat} {u : Unit} (hdr : drawHead.drawOne τ Φ ops (delS H σ) o (fun _ ad => bif meets H (ad.map (·.1)) then none else some ()) = some u) : HeadOp P ops i o (delS H σ) e := by
 obtain ⟨s', ad', k1, k2, k3, k4⟩ := drawOne_sound F hΦ ho hdr
 have hmeet : meets H (ad'.map (·.1)) = false := by
  cases hmm : meets H (ad'.map (·.1)) with
  | false => rfl
  | true => rw [hmm] at k1; cases k1
 have hA1 : AgreeG ops o (delS H σ) σ := ⟨fun t ht => rfl, fun id b hb => by
  have hb : look (delL H σ.own) id = some b := hb
  rw [look_delL] at hb
  split at hb
  ·cases hb
  ·exact hb, rfl⟩
 have hf1 : ∀ p ∈ ad', look σ.own p.1 = none := by
  intro p hp
  have h5 : look (delL H σ.own) p.1 = none := k2 p hp
  rw [look_delL, if_neg (fun hm => meets_false hmeet _ (List.mem_map.2 ⟨p, hp, rfl⟩) hm)] at h5
  exact h5
 have e5 := k4 _ hA1 hf1 (fun s ad => some (s, ad))
 have e6 := hop.2.1 σ ⟨fun t ht => rfl, fun id b hb => hb, rfl⟩ hop.2.2 (fun s ad => some (s, ad))
 rw [e5] at e6
 simp only [Option.some.injEq, Prod.mk.injEq] at e6
 have e7 : e = ⟨o.dst, s', ad'⟩ := by
  have hd := hop.1.1
  cases e with
  | mk d s ad =>
   obtain ⟨e8, e9⟩ := e6
   cases hd
   cases e8
   cases e9
   rfl
 rw [e7]
 exact k3
theorem sq_done {ops : List Oper} {m : Nat} {σ : St N} {eff : Nat → Eff N} (hE : EffsW ops σ eff m) (hfwd : ∀ i, i < ops.length → ∀ k ∈ clo ops ops.length i, k < i) (hm : m ≤ ops.length) (hshare : ShareOk ops eff m)
  {seq : List Nat} (hlt : ∀ j ∈ seq, j < m) (hlin : Lin ops seq) (hall : ∀ j, j < m → j ∈ seq) : (∀ t, (sq σ eff (downTo m)).reg t = (sq σ eff seq).reg t) ∧ ∀ id, look (sq σ eff (downTo m)).own id = look (sq σ eff seq).own id := by
 have hdlin : ∀ n, n ≤ m → Lin ops (downTo n) := by
  intro n
  induction n with
  | zero => intro _; exact .nil
  | succ n ih =>
   intro hn
   exact .cons (fun k hk => mem_downTo.2 (hfwd n (by omega) k hk)) (fun hmem => by have := mem_downTo.1 hmem; omega) (ih (by omega))
 have hdl : ∀ j ∈ downTo m, j < m := fun j hj => mem_downTo.1 hj
 refine ⟨fun t => ?_, fun id => ?_⟩
 ·have r1 := sqW_reg hE (t := t) hlt
  have r2 := sqW_reg hE (t := t) hdl
  by_cases hx : ∃ j, j < m ∧ (eff j).dst = some t
  ·obtain ⟨j, hj, hjd⟩ := hx
   rw [r1.1 j (hall j hj) hjd, r2.1 j (mem_downTo.2 hj) hjd]
  ·rw [r1.2 (fun j hj hjd => hx ⟨j, hlt j hj, hjd⟩), r2.2 (fun j hj hjd => hx ⟨j, hdl j hj, hjd⟩)]
 ·by_cases hx : ∃ j, j < m ∧ (look (eff j).ad id).isSome = true
  ·obtain ⟨j, hj, hjb, hmax⟩ := max_touch (p := fun j => (look (eff j).ad id).isSome) _ hx
   obtain ⟨b, hb⟩ := Option.isSome_iff_exists.1 hjb
   have hlast : ∀ i, i < m → ∀ b', look (eff i).ad id = some b' → i = j ∨ i ∈ clo ops ops.length j := by
    intro i hi b' hb'
    have hle := hmax i hi (by simp [hb'])
    rcases Nat.lt_or_ge i j with e | e
    ·exact .inr (hshare j i hj e id b b' hb hb').2.2
    ·exact .inl (by omega)
   rw [sq_last hb hlin (hall j hj) (fun i hi b' hb' => hlast i (hlt i hi) b' hb'), sq_last hb (hdlin _ (Nat.le_refl _)) (mem_downTo.2 hj) (fun i hi b' hb' => hlast i (hdl i hi) b' hb')]
  ·have hn : ∀ j, j < m → look (eff j).ad id = none := fun j hj => by
    cases h : look (eff j).ad id with
    | none => rfl
    | some b => exact absurd ⟨j, hj, by simp [h]⟩ hx
   rw [sq_none (fun j hj => hn j (hlt j hj)), sq_none (fun j hj => hn j (hdl j hj))]
theorem execDrawW_sound (F : Fits P N τ) {Φ : FuncId → Option (Spec N)} (hΦ : ∀ f S, Φ f = some S → Good P (f % 1000000) S) (hm : P.follows .mixedOrders = true) {ops : List Oper} {k : St N → Option β} {r : β} {io : Io} {w0 : World} {Q : Exit → Act → World → Prop}
  (hk : ∀ σ a w, k σ = some r → Rel io w0 σ a w → Q .normal a w) {σ : St N} (h : execDrawW τ Φ ops σ k = some r) {a : Act} {w : World} (hr : Rel io w0 σ a w) {id : Nat} : (Code.region id ops.toArray true).wp P Q a w := by
 unfold execDrawW at h
 obtain ⟨hst, h⟩ := bif_none h
 simp only [statOk, Bool.and_eq_true, Bool.or_eq_true] at hst
 obtain ⟨⟨⟨s1, s2⟩, s3⟩, s4⟩ := hst
 have hD := drawOk_of s1 s2
 have hm' := headLenW_le ops
 have hfwd : ∀ i, i < ops.length → ∀ k ∈ clo ops ops.length i, k < i := fun j hj => clo_sub (S := fun k => k < j) (fun k hk l hl => Nat.lt_trans (hD.fwd k (by omega) l hl) hk) _ j (hD.fwd j hj)
 obtain ⟨all, h1, h2, h3⟩ := drawHeadW_sound F hΦ hfwd (ops.take (headLenW ops)) [] _ (fun j => by
  rw [List.getElem?_take]
  split
  ·exact .inr (by simp)
  ·exact .inl rfl) h (fun i hi => by cases hi)
 have hlen : all.length = headLenW ops := by rw [h2]; simp; omega
 obtain ⟨hc, h1⟩ := bif_none h1
 have hC := chkW_of hc
 rw [hlen] at h3
 have hE := hC.effsW
 rw [hlen] at hE
 have hshare : ∀ i j, i < headLenW ops → j < i → ∀ id b b', look (effAt all i).ad id = some b → look (effAt all j).ad id = some b' → storeAt ops i = true ∧ storeAt ops j = false ∧ j ∈ clo ops ops.length i := fun i j hi => hC.share i j (by omega)
 have hdst0 : ∀ i, i < headLenW ops → ∃ o, ops[i]? = some o ∧ (effAt all i).dst = o.dst := by
  intro i hi
  obtain ⟨o, ho, hs | ⟨_, hs, hd⟩⟩ := h3 i hi
  ·exact ⟨o, ho, hs.2.1.1⟩
  ·refine ⟨o, ho, ?_⟩
   rw [hd]
   unfold drawStore at hs
   split at hs
   ·split at hs
    ·cases hs
    ·split at hs
     ·cases hs
     ·rename_i hdst
      exact hdst.symm
   ·cases hs
 have hH : ∀ i, i < headLenW ops → StepOp P ops (headLenW ops) (sq σ (effAt all)) i := by
  intro i hi
  obtain ⟨o, ho, ⟨hsi, hop⟩ | ⟨hsi, hs, hd⟩⟩ := h3 i hi
  ·have hdel : ∃ H : List Nat, HeadOp P ops i o (delS H (sq σ (effAt all) (clo ops ops.length i))) (effAt all i) ∧ ∀ k, k < headLenW ops → storeAt ops k = true → i ∉ clo ops ops.length k → ∀ id b, look (effAt all k).ad id = some b → id ∈ H := by
    have hcold := hC.cold i (by omega) hsi
    have hin : ∀ k, k < headLenW ops → storeAt ops k = true → i ∉ clo ops ops.length k → ∀ id b, look (effAt all k).ad id = some b → id ∈ hotJ ops all i := by
     intro k hk hs hn id b hb
     refine mem_gather (i := k) (by omega) ?_
     have hc' : (clo ops ops.length k).contains i = false := by
      cases hh : (clo ops ops.length k).contains i with
      | false => rfl
      | true => exact absurd (List.contains_iff_mem.1 hh) hn
     rw [hs, hc']
     exact look_idsE hb
    refine ⟨hotJ ops all i, ?_, hin⟩
    unfold coldJ at hcold
    split at hcold
    ·rename_i hH0
     rw [hH0]
     exact hop.1
    ·generalize hotJ ops all i = H at *
     rw [ho] at hcold
     simp only at hcold
     cases hdr : drawHead.drawOne τ Φ ops (delS H (sq σ (effAt all) (clo ops ops.length i))) o (fun _ ad => bif meets H (ad.map (·.1)) then none else some ()) with
     | none => rw [hdr] at hcold; cases hcold
     | some u =>
      exact head_del F hΦ ho hop hdr
   obtain ⟨H, hop', hH⟩ := hdel
   exact step_head hm' hD hE hdst0 hi hsi ho hop' hH hshare
  ·have hEop : ∀ id b, look (effAt all i).ad id = some b → ∀ j, j < headLenW ops → j ≠ i → ∀ b2, look (effAt all j).ad id = some b2 → storeAt ops j = false ∧ j ∈ clo ops ops.length i := by
    intro id b hb j hj hji b2 hb2
    rcases Nat.lt_trichotomy j i with e | e | e
    ·exact (hshare i j hi e id b b2 hb hb2).2
    ·exact absurd e hji
    ·have := (hshare j i hj e id b2 b hb2 hb).2.1
     rw [hsi] at this
     cases this
   exact step_store F hΦ ho hs (fun seq hB => regs_agree hm' hD hE hdst0 hi ho hB) (sq_same hE hi hEop hshare hsi) (fun id b hb seq hB => noId_sq (hC.noId i (by omega) hsi id b hb).1 (fun j hj => (hC.noId i (by omega) hsi id b hb).2 j (by omega)) hB.lt)
    (fun seq hB => ⟨applyE_regs _ _, fun t => by simp only [sq, applyE, hd, St.put, St.reg], fun j => applyE_own _ _ _⟩)
 have hr' : Rel io w0 σ a { w with drawn := w.drawn + 1 } := by
  obtain ⟨E, hE'⟩ := hr
  exact ⟨E, hE'.ext (Ext.drawn w)⟩
 refine wp_region_any hm ?_
 have hsz : ops.toArray.size = headLenW ops + (ops.length - headLenW ops) := by simp; omega
 rw [hsz]
 refine wpAny_drawW (st := sq σ (effAt all)) hm' hD.fwd hH (fun hlt => ?_) ?_ (headLenW ops) _ [] a _ (by simp) ⟨⟨by simp; omega, fun j oj _ hl => (by rw [getD_replicate_false] at hl; cases hl), fun t _ ht => getD_in (by simp at ht ⊢; omega) (getD_replicate_false _ _)⟩, fun j hj => ?_, (fun j hj => by cases hj), .nil, List.nodup_nil, hr'⟩
 ·rcases s3 with s3 | s3
  ·have := Nat.eq_of_beq_eq_true s3
   omega
  ·exact s3
 ·intro listed seq a w hI hl
  have hall : ∀ j, j < headLenW ops → j ∈ seq := by
   intro j hj
   apply Classical.byContradiction
   intro hn
   have h6 : (j :: seq).Nodup := List.nodup_cons.2 ⟨hn, hI.nodup⟩
   have h7 := execDraw_sound.nodup_le (ops := ops) (m := headLenW ops) (headLenW ops) (j :: seq) h6 (fun x hx => by
    rcases List.mem_cons.1 hx with rfl | hx
    ·exact hj
    ·exact hI.lt x hx)
   simp only [List.length_cons] at h7
   omega
  have hrel : Rel io w0 (sq σ (effAt all) (downTo (headLenW ops))) a w := by
   obtain ⟨E, hE'⟩ := hI.rel
   obtain ⟨d1, d2⟩ := sq_done hE hfwd hm' hshare hI.lt hI.lin hall
   exact ⟨E, hE'.same (by rw [sq_regs, sq_regs]) d1 d2⟩
  have hlst : listed = canon ops.length (headLenW ops) := by
   have hs1 : listed.size = ops.length := by have := hI.head.size; simpa using this
   apply Array.ext
   ·rw [hs1]; simp [canon]; omega
   ·intro j hj1 hj2
    have hj : j < ops.length := by omega
    have hg : listed.getD j false = listed[j] := by simp [hj1]
    have hmem := hI.mem j hj
    rw [hg] at hmem
    rcases Nat.lt_or_ge j (headLenW ops) with h' | h'
    ·rw [hmem.2 (hall j h')]
     simp [canon, List.getElem_append, h']
    ·have : listed[j] = false := by
      cases hv : listed[j] with
      | false => rfl
      | true =>
       have := hI.lt j (hmem.1 hv)
       omega
     rw [this]
     simp only [canon, List.getElem_toArray, List.getElem_append, List.length_replicate]
     rw [dif_neg (by omega)]
     simp
  have hlst2 := execOps_sound (ops := ops) (Q := Q) F hΦ hk (ops.drop (headLenW ops)) _ h1 a w hrel
  have := wpAny_of_seq (P := P) (md := .any) (ops := ops.toArray) (Q' := Q) (ops.drop (headLenW ops)) (headLenW ops) listed a w (fun j => by simp) (by rw [hlst, List.length_drop]; exact s4) hlst2
  rw [List.length_drop] at this
  exact this
 ·rw [getD_replicate_false]
  simp
theorem execDrawX_sound (F : Fits P N τ) {Φ : FuncId → Option (Spec N)} (hΦ : ∀ f S, Φ f = some S → Good P (f % 1000000) S) (hm : P.follows .mixedOrders = true) {ops : List Oper} {k : St N → Option β} {r : β} {io : Io} {w0 : World} {Q : Exit → Act → World → Prop}
  (hk : ∀ σ a w, k σ = some r → Rel io w0 σ a w → Q .normal a w) {σ : St N} (h : execDrawX τ Φ ops σ k = some r) {a : Act} {w : World} (hr : Rel io w0 σ a w) {id : Nat} : (Code.region id ops.toArray true).wp P Q a w := by
 unfold execDrawX at h
 cases ht : statOk ops (headLenT ops) with
 | true => rw [ht] at h; exact execDraw_sound F hΦ hm hk (Nat.le_trans (Nat.min_le_left _ _) (headLen_le ops)) h hr
 | false =>
  rw [ht, cond_false] at h
  cases hs : statOk ops (headLen ops) with
  | true => rw [hs] at h; exact execDraw_sound F hΦ hm hk (headLen_le ops) h hr
  | false => rw [hs] at h; exact execDrawW_sound F hΦ hm hk h hr
end Go.Eng
