/- The engine, part WD: operations that only read or add: what they do does not hang on what else was added. -/
import Derived.Test.YtgfklnmckakclaaGreatDoorEngW
import Derived.Orders
import Derived.StillTail
set_option linter.unusedVariables false
set_option linter.unusedSimpArgs false
namespace Go.Eng
variable {N : Names} {P : Program} {τ : TypeId → Option TI} {β : Type}

def Sub (own own' : List (Nat × Blk N)) : Prop := ∀ id b, look own id = some b → look own' id = some b

theorem toDen_sub {own own' : List (Nat × Blk N)} (hs : Sub own own') {t : Ty} {r : RV N} {y : t.den N.ρ × List Nat} (h : toDen own t r = some y) : toDen own' t r = some y := by
  cases r with
  | own id =>
    simp only [toDen] at h ⊢
    split at h
    · rename_i e ty xs bs p hl
      rw [hs _ _ hl]
      exact h
    · cases h
  | _ => exact h

theorem implL_sub {g g' : (t : Ty) → List (RV N) → Option (t.den N.ρ × List Nat)} (hg : ∀ t l y, g t l = some y → g' t l = some y) : ∀ (ts : List Ty) (l : List (RV N)) (y : HL N.ρ ts × List Nat), implL g ts l = some y → implL g' ts l = some y
  | [], [], y, h => h
  | [], _ :: _, y, h => by cases h
  | t :: ts, l, y, h => by
    simp only [implL] at h ⊢
    split at h
    · rename_i p q hp hq
      rw [hg _ _ _ hp, implL_sub hg ts _ _ hq]
      exact h
    · cases h

theorem oneDen_sub {own own' : List (Nat × Blk N)} (hs : Sub own own') {t : Ty} {l : List (RV N)} {y : t.den N.ρ × List Nat} (h : oneDen own t l = some y) : oneDen own' t l = some y := by
  unfold oneDen at h ⊢
  split at h
  · exact toDen_sub hs h
  · cases h

theorem impl_sub {own own' : List (Nat × Blk N)} (hs : Sub own own') : ∀ (f : Nat) (t : Ty) (l : List (RV N)) (y : t.den N.ρ × List Nat), impl own f t l = some y → impl own' f t l = some y
  | 0, t, l, y, h => by cases h
  | f + 1, t, l, y, h => by
    cases t with
    | nm n =>
      simp only [impl, Option.map_eq_some_iff] at h ⊢
      obtain ⟨p, hp, hq⟩ := h
      exact ⟨p, implL_sub (fun t l y => impl_sub hs f t l y) _ _ _ hp, hq⟩
    | _ => exact oneDen_sub hs h

theorem evMove_par {own : List (Nat × Blk N)} {ty : TypeId} {dst : Option Nat} {x : RV N} {k : KK N β} {r : β} (h : evMove τ own ty dst x k = some r) :
    ∃ s ad, k s ad = some r ∧ (∀ p ∈ ad, look own p.1 = none) ∧ ∀ own' : List (Nat × Blk N), (∀ p ∈ ad, look own' p.1 = none) → ∀ {β' : Type} (k' : KK N β'), evMove τ own' ty dst x k' = k' s ad := by
  cases x with
  | nil =>
    simp only [evMove] at h ⊢
    split at h
    · rename_i e el hτ
      split at h
      · rename_i d
        split at h
        · rename_i hl
          refine ⟨_, _, h, fun p hp => by rw [List.mem_singleton.1 hp]; exact hl, fun own' hf β' k' => ?_⟩
          have := hf _ List.mem_cons_self
          simp only at this
          simp only [this]
        · cases h
      · cases h
    · rename_i hn
      refine ⟨_, _, h, (fun p hp => by cases hp), fun own' hf β' k' => ?_⟩
      first | rfl | (split <;> first | (rename_i e el he; exact (hn _ _ he).elim) | rfl)
  | _ => exact ⟨_, _, h, (fun p hp => by cases hp), fun own' hf β' k' => rfl⟩

theorem evField_par {xt : TypeId} {x : RV N} {f : Nat} {k : KK N β} {r : β} (h : evField τ xt x f k = some r) :
    ∃ s, k s [] = some r ∧ ∀ {β' : Type} (k' : KK N β'), evField τ xt x f k' = k' s [] := by
  unfold evField at h
  split at h
  · split at h
    · rename_i hτ
      obtain ⟨he, h⟩ := bif_none h
      split at h
      · rename_i hc
        split at h
        · rename_i hg
          exact ⟨_, h, fun {β'} k' => by simp only [evField, hτ, he, cond_true, hc, hg]⟩
        · cases h
      · cases h
    · cases h
  · cases h

theorem evFieldAddr_par {xt : TypeId} {x : RV N} {f : Nat} {k : KK N β} {r : β} (h : evFieldAddr τ xt x f k = some r) :
    ∃ s, k s [] = some r ∧ ∀ {β' : Type} (k' : KK N β'), evFieldAddr τ xt x f k' = k' s [] := by
  unfold evFieldAddr at h
  split at h
  · rename_i hτ
    obtain ⟨he, h⟩ := bif_none h
    split at h
    · split at h
      · rename_i hc
        split at h
        · rename_i hg
          exact ⟨_, h, fun {β'} k' => by simp only [evFieldAddr, hτ, he, cond_true, hc, hg]⟩
        · cases h
      · cases h
    · obtain ⟨hf, h⟩ := bif_none h
      exact ⟨_, h, fun {β'} k' => by simp only [evFieldAddr, hτ, he, hf, cond_true]⟩
    · obtain ⟨hf, h⟩ := bif_none h
      exact ⟨_, h, fun {β'} k' => by simp only [evFieldAddr, hτ, he, hf, cond_true]⟩
    · cases h
  · cases h

theorem evIndexAddr_par {own : List (Nat × Blk N)} {t : TypeId} {x i : RV N} {k : KK N β} {r : β} (h : evIndexAddr τ own t x i k = some r) :
    ∃ s, k s [] = some r ∧ ∀ own' : List (Nat × Blk N), Sub own own' → ∀ {β' : Type} (k' : KK N β'), evIndexAddr τ own' t x i k' = k' s [] := by
  unfold evIndexAddr at h
  split at h
  · rename_i hτ
    split at h
    · split at h
      · split at h
        · rename_i hc
          split at h
          · rename_i h0
            split at h
            · rename_i h1
              exact ⟨_, h, fun own' hs {β'} k' => by simp only [evIndexAddr, hτ, hc, if_pos h0, if_pos h1]⟩
            · cases h
          · cases h
        · cases h
      · split at h
        · rename_i hl
          obtain ⟨he, h⟩ := bif_none h
          split at h
          · rename_i h0
            split at h
            · rename_i h1
              exact ⟨_, h, fun own' hs {β'} k' => by simp only [evIndexAddr, hτ, hs _ _ hl, he, cond_true, if_pos h0, if_pos h1]⟩
            · cases h
          · cases h
        · cases h
      · cases h
    · cases h
  · cases h

theorem evIndex_par {t : TypeId} {x i : RV N} {k : KK N β} {r : β} (h : evIndex τ t x i k = some r) :
    ∃ s, k s [] = some r ∧ ∀ {β' : Type} (k' : KK N β'), evIndex τ t x i k' = k' s [] := by
  unfold evIndex at h
  split at h
  · rename_i hτ
    split at h
    · split at h
      · split at h
        · rename_i h0
          split at h
          · rename_i h1
            exact ⟨_, h, fun {β'} k' => by simp only [evIndex, hτ, if_pos h0, if_pos h1]⟩
          · cases h
        · cases h
      · cases h
    · cases h
  · cases h

theorem evLoad_par {own : List (Nat × Blk N)} {t : TypeId} {x : RV N} {k : KK N β} {r : β} (h : evLoad τ own t x k = some r) :
    ∃ s, k s [] = some r ∧ ∀ own' : List (Nat × Blk N), Sub own own' → ∀ {β' : Type} (k' : KK N β'), evLoad τ own' t x k' = k' s [] := by
  unfold evLoad at h
  split at h
  · rename_i ty e hτ
    split at h
    · split at h
      · rename_i hv
        exact ⟨_, h, fun own' hs {β'} k' => by simp only [evLoad, hτ, hv]⟩
      · cases h
    · split at h
      · rename_i hl
        split at h
        · rename_i hv
          exact ⟨_, h, fun own' hs {β'} k' => by simp only [evLoad, hτ, hs _ _ hl, hv]⟩
        · cases h
      · cases h
    · split at h
      · rename_i hl
        split at h
        · rename_i hv
          exact ⟨_, h, fun own' hs {β'} k' => by simp only [evLoad, hτ, hs _ _ hl, hv]⟩
        · cases h
      · rename_i hl
        cases ty with
        | nm n =>
          simp only at h
          split at h
          · rename_i hv
            exact ⟨_, h, fun own' hs {β'} k' => by simp only [evLoad, hτ, hs _ _ hl, impl_sub hs _ _ _ _ hv]⟩
          · cases h
        | _ =>
          simp only at h
          split at h
          · rename_i hv
            exact ⟨_, h, fun own' hs {β'} k' => by simp only [evLoad, hτ, hs _ _ hl, hv]⟩
          · cases h
      · cases h
    · cases h
  · cases h

theorem evLen_par {own : List (Nat × Blk N)} {t : TypeId} {x : RV N} {k : KK N β} {r : β} (h : evLen τ own t x k = some r) :
    ∃ s, k s [] = some r ∧ ∀ own' : List (Nat × Blk N), Sub own own' → ∀ {β' : Type} (k' : KK N β'), evLen τ own' t x k' = k' s [] := by
  unfold evLen at h
  split at h
  · rename_i hτ
    split at h
    · exact ⟨_, h, fun own' hs {β'} k' => by simp only [evLen, hτ]⟩
    · cases h
  · rename_i hτ
    split at h
    · rename_i hd
      exact ⟨_, h, fun own' hs {β'} k' => by simp only [evLen, hτ, toDen_sub hs hd]⟩
    · cases h
  · cases h

theorem setFields_par {own own' : List (Nat × Blk N)} (hs : Sub own own') {ρ ρ' : Operand → RV N} {ts : List Ty} : ∀ (parts : List (Nat × Operand)) (x : HL N.ρ ts) (bs : List Nat) (r : HL N.ρ ts × List Nat), (∀ p ∈ parts, ρ' p.2 = ρ p.2) → setFields own ρ ts parts x bs = some r → setFields own' ρ' ts parts x bs = some r
  | [], x, bs, r, _, h => h
  | (i, o) :: parts, x, bs, r, hp, h => by
    simp only [setFields] at h ⊢
    split at h
    · rename_i t ht
      split at h
      · rename_i y b hy
        split at h
        · rename_i x' hx'
          rw [hp (i, o) List.mem_cons_self, toDen_sub hs hy]
          simp only [ht, hx']
          exact setFields_par hs parts x' _ r (fun p hp' => hp p (List.mem_cons_of_mem _ hp')) h
        · cases h
      · cases h
    · cases h
theorem evBuild_par {σ : St N} {t : TypeId} {parts : List (Nat × Operand)} {k : KK N β} {r : β} (h : evBuild τ σ t parts k = some r) :
    ∃ s, k s [] = some r ∧ ∀ σ' : St N, Sub σ.own σ'.own → (∀ p ∈ parts, ev σ' p.2 = ev σ p.2) → ∀ {β' : Type} (k' : KK N β'), evBuild τ σ' t parts k' = k' s [] := by
  unfold evBuild at h
  split at h
  · rename_i n el hτ
    split at h
    · rename_i x bs hx
      exact ⟨_, h, fun σ' hs hp {β'} k' => by simp only [evBuild, hτ, setFields_par hs parts _ _ _ hp hx]⟩
    · cases h
  · cases h
theorem setParts_par {own own' : List (Nat × Blk N)} (hs : Sub own own') {ρ ρ' : Operand → RV N} {e : Ty} : ∀ (parts : List (Nat × Operand)) (xs : List (e.den N.ρ)) (bs : List Nat) (r : List (e.den N.ρ) × List Nat), (∀ p ∈ parts, ρ' p.2 = ρ p.2) → setParts own ρ e parts xs bs = some r → setParts own' ρ' e parts xs bs = some r
  | [], xs, bs, r, _, h => h
  | (i, o) :: parts, xs, bs, r, hp, h => by
    simp only [setParts] at h ⊢
    split at h
    · rename_i y b hy
      rw [hp (i, o) List.mem_cons_self, toDen_sub hs hy]
      obtain ⟨hlt, h⟩ := bif_none h
      simp only [hlt, cond_true]
      exact setParts_par hs parts _ _ r (fun p hp' => hp p (List.mem_cons_of_mem _ hp')) h
    · cases h
theorem evBuildSlice_par {σ : St N} {t : TypeId} {len : Nat} {parts : List (Nat × Operand)} {dst : Option Nat} {k : KK N β} {r : β} (h : evBuildSlice τ σ t len parts dst k = some r) :
    ∃ s ad, k s ad = some r ∧ (∀ p ∈ ad, look σ.own p.1 = none) ∧ ∀ σ' : St N, Sub σ.own σ'.own → (∀ p ∈ parts, ev σ' p.2 = ev σ p.2) → (∀ p ∈ ad, look σ'.own p.1 = none) → ∀ {β' : Type} (k' : KK N β'), evBuildSlice τ σ' t len parts dst k' = k' s ad := by
  unfold evBuildSlice at h
  split at h
  · cases h
  · rename_i d
    split at h
    · cases h
    · rename_i hl
      split at h
      · rename_i e el hτ
        obtain ⟨hbig, h⟩ := bif_none h
        split at h
        · rename_i xs bs hx
          refine ⟨_, _, h, (fun p hp => by rw [List.mem_singleton] at hp; subst hp; exact hl), fun σ' hs hp hf {β'} k' => ?_⟩
          have hl' := hf _ (List.mem_singleton.2 rfl)
          simp only [evBuildSlice, hl', hτ, hbig, cond_true, setParts_par hs parts _ _ _ hp hx]
        · cases h
      · cases h

theorem evAlloc_par {own : List (Nat × Blk N)} {t : TypeId} {dst : Option Nat} {k : KK N β} {r : β} (h : evAlloc τ own t dst k = some r) :
    ∃ s ad, k s ad = some r ∧ (∀ p ∈ ad, look own p.1 = none) ∧ ∀ own' : List (Nat × Blk N), (∀ p ∈ ad, look own' p.1 = none) → ∀ {β' : Type} (k' : KK N β'), evAlloc τ own' t dst k' = k' s ad := by
  unfold evAlloc at h
  split at h
  · cases h
  · rename_i d
    split at h
    · cases h
    · rename_i hl
      split at h
      · rename_i e el hτ
        split at h
        · cases h
        · rename_i hl2
          refine ⟨_, _, h, fun p hp => ?_, fun own' hf {β'} k' => ?_⟩
          · rcases List.mem_cons.1 hp with rfl | hp
            · exact hl
            · rw [List.mem_singleton] at hp; subst hp; exact hl2
          · have e1 := hf _ List.mem_cons_self
            have e2 := hf _ (List.mem_cons_of_mem _ List.mem_cons_self)
            simp only at e1 e2
            simp only [evAlloc, e1, e2, hτ]
      · rename_i e hτ
        refine ⟨_, _, h, (fun p hp => by rw [List.mem_singleton] at hp; subst hp; exact hl), fun own' hf {β'} k' => ?_⟩
        have e1 := hf _ List.mem_cons_self
        simp only at e1
        simp only [evAlloc, e1, hτ]
      · rename_i ty e hn1 hn2 hτ
        refine ⟨_, _, h, (fun p hp => by rw [List.mem_singleton] at hp; subst hp; exact hl), fun own' hf {β'} k' => ?_⟩
        have e1 := hf _ List.mem_cons_self
        simp only at e1
        cases ty <;> first | exact (hn1 _ rfl).elim | exact (hn2 rfl).elim | simp only [evAlloc, e1, hτ]
      · cases h

theorem evMM_par {b : Bool} {x y : RV N} {k : KK N β} {r : β} (h : evMM b x y k = some r) :
    ∃ s, k s [] = some r ∧ ∀ {β' : Type} (k' : KK N β'), evMM b x y k' = k' s [] := by
  unfold evMM at h
  split at h
  · cases b with
    | true => exact ⟨_, h, fun {β'} k' => rfl⟩
    | false => exact ⟨_, h, fun {β'} k' => rfl⟩
  · cases h

theorem evConvert_par {own : List (Nat × Blk N)} {t t' : TypeId} {x : RV N} {k : KK N β} {r : β} (h : evConvert τ own t t' x k = some r) :
    ∃ s, k s [] = some r ∧ ∀ own' : List (Nat × Blk N), Sub own own' → ∀ {β' : Type} (k' : KK N β'), evConvert τ own' t t' x k' = k' s [] := by
  unfold evConvert at h
  obtain ⟨hsrc, h⟩ := bif_none h
  split at h
  · rename_i hτ
    split at h
    · exact ⟨_, h, fun own' hs {β'} k' => by simp only [evConvert, hsrc, cond_true, hτ]⟩
    · cases h
  · rename_i hτ
    cases x with
    | str l => exact ⟨_, h, fun own' hs {β'} k' => by simp only [evConvert, hsrc, cond_true, hτ]⟩
    | int _ _ => cases h
    | _ =>
      simp only at h
      split at h
      · rename_i hsr
        split at h
        · rename_i hd
          exact ⟨_, h, fun own' hs {β'} k' => by simp only [evConvert, hτ, hsr, toDen_sub hs hd]; rfl⟩
        · cases h
      · cases h
  · rename_i hτ
    split at h
    · exact ⟨_, h, fun own' hs {β'} k' => by simp only [evConvert, hsrc, cond_true, hτ]⟩
    · cases h
  · cases h

theorem evBin_par {op : BinOp} {xt : TypeId} {x y : RV N} {k : RV N → Option β} {r : β} (h : evBin τ op xt x y k = some r) :
    ∃ z, k z = some r ∧ ∀ {β' : Type} (k' : RV N → Option β'), evBin τ op xt x y k' = k' z := by
  have hint : ∀ {op : BinOp} {kx : IntKind} {a b : Int}, evInt op kx a b k = some r → ∃ z, k z = some r ∧ ∀ {β' : Type} (k' : RV N → Option β'), evInt op kx a b k' = k' z := by
    intro op kx a b h
    cases op <;> simp only [evInt] at h ⊢ <;> first
      | exact ⟨_, h, fun {β'} _ => rfl⟩
      | (split at h
         · cases h
         · rename_i hb
           exact ⟨_, h, fun {β'} k' => by rw [if_neg hb]⟩)
      | cases h
  have hsh : ∀ {op : BinOp} {kx : IntKind} {a b : Int}, evShift op kx a b k = some r → ∃ z, k z = some r ∧ ∀ {β' : Type} (k' : RV N → Option β'), evShift op kx a b k' = k' z := by
    intro op kx a b h
    cases op <;> simp only [evShift] at h ⊢ <;> first
      | (split at h
         · rename_i hb
           exact ⟨_, h, fun {β'} k' => by rw [if_pos hb]⟩
         · cases h)
      | cases h
  have hst : ∀ {op : BinOp} {a b : List Int}, evStr op a b k = some r → ∃ z, k z = some r ∧ ∀ {β' : Type} (k' : RV N → Option β'), evStr op a b k' = k' z := by
    intro op a b h
    cases op <;> simp only [evStr] at h ⊢ <;> first
      | exact ⟨_, h, fun {β'} _ => rfl⟩
      | (split at h
         · rename_i hb
           exact ⟨_, h, fun {β'} k' => by rw [if_pos hb]⟩
         · cases h)
      | cases h
  cases x with
  | int kx a =>
    cases y with
    | int ky b =>
      by_cases h1 : op = .shl
      · subst h1
        have h : evShift .shl kx a b k = some r := h
        exact hsh h
      · by_cases h2 : op = .shr
        · subst h2
          have h : evShift .shr kx a b k = some r := h
          exact hsh h
        · have e : ∀ {γ : Type} (k : RV N → Option γ), evBin τ op xt (.int kx a) (.int ky b) k = bif decide (kx = ky) then evInt op kx a b k else none := by
            intro γ k
            cases op <;> first | rfl | exact absurd rfl h1 | exact absurd rfl h2
          rw [e] at h
          obtain ⟨hk, h⟩ := bif_none h
          obtain ⟨z, z1, z2⟩ := hint h
          exact ⟨z, z1, fun {β'} k' => by rw [e, hk]; exact z2 k'⟩
    | _ => cases h
  | str a =>
    cases y with
    | str b => exact hst h
    | _ => cases h
  | bool a =>
    cases y with
    | bool b =>
      simp only [evBin] at h ⊢
      split at h
      · rename_i hτ
        split at h
        · exact ⟨_, h, fun {β'} k' => by simp only [hτ]⟩
        · exact ⟨_, h, fun {β'} k' => by simp only [hτ]⟩
        · cases h
      · cases h
    | _ => cases h
  | data t a bs =>
    cases t with
    | nm n =>
      cases y with
      | data t' b bs' =>
        simp only [evBin] at h ⊢
        split at h
        · rename_i hτ
          split at h
          · rename_i h1 h2
            split at h
            · rename_i h3
              split at h
              · exact ⟨_, h, fun {β'} k' => by simp only [hτ, h1, h2, h3]⟩
              · exact ⟨_, h, fun {β'} k' => by simp only [hτ, h1, h2, h3]⟩
              · cases h
            · cases h
          · cases h
        · cases h
      | _ => cases h
    | _ => cases h
  | _ => cases h

theorem evUn_par {op : UnOp} {x : RV N} {k : RV N → Option β} {r : β} (h : evUn op x k = some r) :
    ∃ z, k z = some r ∧ ∀ {β' : Type} (k' : RV N → Option β'), evUn op x k' = k' z := by
  unfold evUn at h
  split at h
  · exact ⟨_, h, fun {β'} _ => rfl⟩
  · exact ⟨_, h, fun {β'} _ => rfl⟩
  · exact ⟨_, h, fun {β'} _ => rfl⟩
  · cases h

theorem evSlice_par {σ : St N} {t : TypeId} {x : RV N} {lo hi : Option Operand} {k : KK N β} {r : β} (h : evSlice τ σ t x lo hi k = some r) :
    ∃ s, k s [] = some r ∧ ∀ σ' : St N, Sub σ.own σ'.own → (∀ o, lo = some o → ev σ' o = ev σ o) → (∀ o, hi = some o → ev σ' o = ev σ o) → ∀ {β' : Type} (k' : KK N β'), evSlice τ σ' t x lo hi k' = k' s [] := by
  have e1 : ∀ σ' : St N, (∀ o, lo = some o → ev σ' o = ev σ o) → cutLo σ' lo = cutLo σ lo := by
    intro σ' hlo
    cases lo with
    | none => rfl
    | some o => simp only [cutLo, hlo o rfl]
  have e2 : ∀ σ' : St N, (∀ o, hi = some o → ev σ' o = ev σ o) → ∀ n, cutHi σ' n hi = cutHi σ n hi := by
    intro σ' hhi n
    cases hi with
    | none => rfl
    | some o => simp only [cutHi, hhi o rfl]
  unfold evSlice at h
  split at h
  · rename_i hτ
    split at h
    · split at h
      · rename_i h1 h2
        split at h
        · rename_i a0
          split at h
          · rename_i a1
            split at h
            · rename_i a2
              exact ⟨_, h, fun σ' hs hlo hhi {β'} k' => by simp only [evSlice, hτ, e1 σ' hlo, e2 σ' hhi, h1, h2, if_pos a0, if_pos a1, if_pos a2]⟩
            · cases h
          · cases h
        · cases h
      · cases h
    · cases h
  · rename_i hτ
    split at h
    · rename_i hd
      split at h
      · rename_i h1 h2
        split at h
        · rename_i a0
          split at h
          · rename_i a1
            split at h
            · rename_i a2
              exact ⟨_, h, fun σ' hs hlo hhi {β'} k' => by simp only [evSlice, hτ, toDen_sub hs hd, e1 σ' hlo, e2 σ' hhi, h1, h2, if_pos a0, if_pos a1, if_pos a2]⟩
            · cases h
          · cases h
        · cases h
      · cases h
    · cases h
  · cases h

theorem callIn_sub {ι : Type} {own own' : List (Nat × Blk N)} (hs : Sub own own') {ρ ρ' : ι → RV N} : ∀ (ps : List PK) (os : List ι) (x : HIn N.ρ ps) (B U : List Nat), (∀ o ∈ os, ρ' o = ρ o) → callIn own ρ ps os = some (x, B, [], U) → callIn own' ρ' ps os = some (x, B, [], U)
  | [], [], x, B, U, hρ, h => h
  | [], _ :: _, x, B, U, hρ, h => by cases h
  | .v t :: ps, [], x, B, U, hρ, h => by cases h
  | .io el e :: ps, [], x, B, U, hρ, h => by cases h
  | .bw t :: ps, [], x, B, U, hρ, h => by cases h
  | .bc l :: ps, [], x, B, U, hρ, h => by cases h
  | .fv f :: ps, [], x, B, U, hρ, h => by cases h
  | .fb f :: ps, [], x, B, U, hρ, h => by cases h
  | .fv f :: ps, o :: os, x, B, U, hρ, h => by
    simp only [callIn] at h ⊢
    obtain ⟨hf, h⟩ := bif_none h
    split at h
    · rename_i y1 B1 D1 U1 h2
      cases h
      rw [hρ o List.mem_cons_self, hf, callIn_sub hs ps os _ _ _ (fun o ho => hρ o (List.mem_cons_of_mem _ ho)) h2]
      rfl
    · cases h
  | .fb f :: ps, o :: os, x, B, U, hρ, h => by
    simp only [callIn] at h
    split at h
    · split at h
      · obtain ⟨_, h⟩ := bif_none h
        split at h
        · cases h
        · cases h
      · cases h
    · cases h
  | .v t :: ps, o :: os, x, B, U, hρ, h => by
    simp only [callIn] at h ⊢
    split at h
    · rename_i x1 b1 y1 B1 D1 U1 h1 h2
      cases h
      rw [hρ o List.mem_cons_self, toDen_sub hs h1, callIn_sub hs ps os _ _ _ (fun o ho => hρ o (List.mem_cons_of_mem _ ho)) h2]
    · cases h
  | .io el e :: ps, o :: os, x, B, U, hρ, h => by
    simp only [callIn] at h
    split at h
    · split at h
      · obtain ⟨_, h⟩ := bif_none h
        split at h
        · cases h
        · cases h
      · cases h
    · cases h
  | .bw t :: ps, o :: os, x, B, U, hρ, h => by
    simp only [callIn] at h
    split at h
    · split at h
      · split at h
        · cases h
        · cases h
      · cases h
    · cases h
  | .bc l :: ps, o :: os, x, B, U, hρ, h => by
    simp only [callIn] at h
    split at h
    · split at h
      · split at h
        · cases h
        · cases h
      · cases h
    · cases h

theorem callNew_nil {ι : Type} {own : List (Nat × Blk N)} {ρ : ι → RV N} {B' : List Nat} : ∀ (ps : List PK) (os : List ι) (x : HIn N.ρ ps) (B U : List Nat) (y : HOut N.ρ ps), callIn own ρ ps os = some (x, B, [], U) → callNew own ρ B' ps os y = []
  | [], [], x, B, U, y, h => rfl
  | [], _ :: _, x, B, U, y, h => by cases h
  | .v t :: ps, [], x, B, U, y, h => by cases h
  | .io el e :: ps, [], x, B, U, y, h => by cases h
  | .bw t :: ps, [], x, B, U, y, h => by cases h
  | .bc l :: ps, [], x, B, U, y, h => by cases h
  | .fv f :: ps, [], x, B, U, y, h => by cases h
  | .fb f :: ps, [], x, B, U, y, h => by cases h
  | .fv f :: ps, o :: os, x, B, U, y, h => by
    simp only [callIn] at h
    obtain ⟨hf, h⟩ := bif_none h
    split at h
    · rename_i y1 B1 D1 U1 h2
      cases h
      exact callNew_nil ps os y1 B U y h2
    · cases h
  | .fb f :: ps, o :: os, x, B, U, y, h => by
    simp only [callIn] at h
    split at h
    · split at h
      · obtain ⟨_, h⟩ := bif_none h
        split at h
        · cases h
        · cases h
      · cases h
    · cases h
  | .v t :: ps, o :: os, x, B, U, y, h => by
    simp only [callIn] at h
    split at h
    · rename_i x1 b1 y1 B1 D1 U1 h1 h2
      cases h
      exact callNew_nil ps os y1 B1 U y h2
    · cases h
  | .io el e :: ps, o :: os, x, B, U, y, h => by
    simp only [callIn] at h
    split at h
    · split at h
      · obtain ⟨_, h⟩ := bif_none h
        split at h
        · cases h
        · cases h
      · cases h
    · cases h
  | .bw t :: ps, o :: os, x, B, U, y, h => by
    simp only [callIn] at h
    split at h
    · split at h
      · split at h
        · cases h
        · cases h
      · cases h
    · cases h
  | .bc l :: ps, o :: os, x, B, U, y, h => by
    simp only [callIn] at h
    split at h
    · split at h
      · split at h
        · cases h
        · cases h
      · cases h
    · cases h

theorem resNew_ids (B : List Nat) (d : Nat) : ∀ (rs : List RK) (j : Nat) (x : HRes N.ρ rs), (resNew B d rs j x).map (·.1) = resIds d rs j
  | [], j, x => rfl
  | .v t :: rs, j, x => resNew_ids B d rs (j + 1) x.2
  | .own el e :: rs, j, x => by simp [resNew, resIds, resNew_ids B d rs (j + 1) x.2]

theorem freshIds_of {own : List (Nat × Blk N)} : ∀ {l : List Nat}, (∀ i ∈ l, look own i = none) → freshIds own l = true
  | [], _ => rfl
  | i :: r, h => by
    simp only [freshIds, h i List.mem_cons_self, Bool.true_and]
    exact freshIds_of (fun j hj => h j (List.mem_cons_of_mem _ hj))

/-- A call that only reads what was there. -/
def evCallE {ι : Type} (S : Spec N) (own : List (Nat × Blk N)) (ρ : ι → RV N) (os : List ι) (dst : Option Nat) (k : KK N β) : Option β :=
  match callIn own ρ S.ps os with
  | some (x, B, [], []) => bif freshIds own (resIds (dst.getD 0) S.rs 0) then
      (S.f x).bind fun r => k (packS (resSlots B (dst.getD 0) S.rs 0 (S.out r).1)) (resNew B (dst.getD 0) S.rs 0 (S.out r).1)
    else none
  | _ => none

theorem evCallE_par {ι : Type} {S : Spec N} {own : List (Nat × Blk N)} {ρ : ι → RV N} {os : List ι} {dst : Option Nat} {k : KK N β} {r : β} (h : evCallE S own ρ os dst k = some r) :
    ∃ s ad, k s ad = some r ∧ (∀ p ∈ ad, look own p.1 = none) ∧ ∀ (own' : List (Nat × Blk N)) (ρ' : ι → RV N), Sub own own' → (∀ o ∈ os, ρ' o = ρ o) → (∀ p ∈ ad, look own' p.1 = none) → ∀ {β' : Type} (k' : KK N β'), evCallE S own' ρ' os dst k' = k' s ad := by
  unfold evCallE at h
  split at h
  · rename_i x B hc
    obtain ⟨hf, h⟩ := bif_none h
    obtain ⟨y, hy, hk⟩ := Option.bind_eq_some_iff.1 h
    refine ⟨_, _, hk, fun p hp => ?_, fun own' ρ' hs hρ hf' β' k' => ?_⟩
    · refine freshIds_spec hf p.1 ?_
      rw [← resNew_ids (N := N) B (dst.getD 0) S.rs 0 (S.out y).1]
      exact List.mem_map.2 ⟨p, hp, rfl⟩
    · have hfr : freshIds own' (resIds (dst.getD 0) S.rs 0) = true := freshIds_of (fun i hi => by
        rw [← resNew_ids (N := N) B (dst.getD 0) S.rs 0 (S.out y).1] at hi
        obtain ⟨p, hp, rfl⟩ := List.mem_map.1 hi
        exact hf' p hp)
      simp only [evCallE, callIn_sub hs S.ps os x B [] hρ hc, hfr, cond_true, hy, Option.bind_some]
  · cases h

theorem noBsD_nil (own : List (Nat × Blk N)) : noBsD own [] = true := by
  unfold noBsD
  rw [List.all_eq_true]
  rintro ⟨i, b⟩ _
  have : ∀ l, meets [] l = false := fun l => by
    unfold meets
    rw [List.any_eq_false]
    intro i _
    simp
  cases b <;> simp [this]

theorem evCallE_eq {ι : Type} {S : Spec N} {σ : St N} {ρ : ι → RV N} {os : List ι} {dst : Option Nat} {s : Slot N} {ad : List (Nat × Blk N)} (h : evCallE S σ.own ρ os dst (fun s ad => some (s, ad)) = some (s, ad)) {k : Slot N → St N → Option β} :
    evCall S σ ρ os dst k = k s { σ with own := insAll ad σ.own } := by
  unfold evCallE at h
  split at h
  · rename_i x B hc
    obtain ⟨hf, h⟩ := bif_none h
    obtain ⟨y, hy, hk⟩ := Option.bind_eq_some_iff.1 h
    cases hk
    have hm : meets [] B = false := by
      unfold meets
      rw [List.any_eq_false]
      intro i _
      simp
    simp only [evCall, hc, nodupB, hm, noBsD_nil, hf, Bool.not_false, Bool.and_self, cond_true, hy, Option.bind_some, havR, callNew_nil S.ps os x B [] _ hc, List.nil_append]
  · cases h

def usesT (o : Oper) : List Nat := o.op.operands.toList.filterMap fun | .tmp t => some t | _ => none

structure Agree (o : Oper) (σ σ' : St N) : Prop where
  regs : ∀ t ∈ usesT o, σ'.reg t = σ.reg t
  sub : Sub σ.own σ'.own

theorem ev_const (σ σ' : St N) (v : Value) : Eng.ev σ' (.const v) = Eng.ev σ (.const v) := by
  cases v with
  | slice a l c =>
    cases a with
    | none =>
      cases l with
      | zero =>
        cases c with
        | zero => rfl
        | succ _ => rfl
      | succ _ => rfl
    | some _ => rfl
  | _ => rfl

theorem Agree.ev {o : Oper} {σ σ' : St N} (h : Agree o σ σ') {x : Operand} (hx : x ∈ o.op.operands.toList) : Eng.ev σ' x = Eng.ev σ x := by
  cases x with
  | tmp t =>
    have := h.regs t (List.mem_filterMap.2 ⟨_, hx, rfl⟩)
    simp only [Eng.ev, this]
  | const v => exact ev_const σ σ' v
  | _ => rfl

theorem evMoveS_par {o : Oper} {σ : St N} {ty : TypeId} {dst : Option Nat} {x : Operand} (hx : x ∈ o.op.operands.toList) {k : KK N β} {r : β} (h : evMoveS τ σ ty dst x k = some r) :
    ∃ s ad, k s ad = some r ∧ (∀ p ∈ ad, look σ.own p.1 = none) ∧ ∀ σ' : St N, Agree o σ σ' → (∀ p ∈ ad, look σ'.own p.1 = none) → ∀ {β' : Type} (k' : KK N β'), evMoveS τ σ' ty dst x k' = k' s ad := by
  have base : evMove τ σ.own ty dst (ev σ x) k = some r → (∀ (σ' : St N), Agree o σ σ' → ∀ {β' : Type} (k' : KK N β'), evMoveS τ σ' ty dst x k' = evMove τ σ'.own ty dst (ev σ' x) k') → ∃ s ad, k s ad = some r ∧ (∀ p ∈ ad, look σ.own p.1 = none) ∧ ∀ σ' : St N, Agree o σ σ' → (∀ p ∈ ad, look σ'.own p.1 = none) → ∀ {β' : Type} (k' : KK N β'), evMoveS τ σ' ty dst x k' = k' s ad := by
    intro hb he
    obtain ⟨s, ad, h1, h2, h3⟩ := evMove_par hb
    exact ⟨s, ad, h1, h2, fun σ' hA hf β' k' => by rw [he σ' hA k', hA.ev hx]; exact h3 _ hf k'⟩
  cases x with
  | tmp t =>
    have ht : t ∈ usesT o := List.mem_filterMap.2 ⟨_, hx, rfl⟩
    unfold evMoveS at h
    simp only at h
    cases hl : σ.reg t with
    | tup l =>
      rw [hl] at h
      exact ⟨_, _, h, (fun p hp => by cases hp), fun σ' hA hf β' k' => by simp only [evMoveS, hA.regs t ht, hl]⟩
    | one r0 =>
      rw [hl] at h
      exact base h (fun σ' hA β' k' => by simp only [evMoveS, hA.regs t ht, hl])
  | const v => exact base h (fun σ' hA β' k' => rfl)
  | global g => exact base h (fun σ' hA β' k' => rfl)
  | func f => exact base h (fun σ' hA β' k' => rfl)

def evE (τ : TypeId → Option TI) (Φ : FuncId → Option (Spec N)) (o : Oper) (σ : St N) (k : KK N β) : Option β :=
  match o.op with
  | .move x => evMoveS τ σ o.type o.dst x k
  | .assign x => evMoveS τ σ o.type o.dst x k
  | .load t x => evLoad τ σ.own t (ev σ x) k
  | .nilCheck x => match ev σ x with
    | .bptr i j => k (.one (.bptr i j)) []
    | .sptr t y bs => k (.one (.sptr t y bs)) []
    | .optr i j l => k (.one (.optr i j l)) []
    | .fn f caps => k (.one (.fn f caps)) []
    | _ => none
  | .binOp op t x y _ => evBin τ op t (ev σ x) (ev σ y) fun z => k (.one z) []
  | .unOp op _ x => evUn op (ev σ x) fun z => k (.one z) []
  | .convert t t' x => evConvert τ σ.own t t' (ev σ x) k
  | .slice t x lo hi none => evSlice τ σ t (ev σ x) lo hi k
  | .pick c x y => match ev σ c with
    | .bool b => bif b then evMove τ σ.own o.type o.dst (ev σ x) k else evMove τ σ.own o.type o.dst (ev σ y) k
    | _ => none
  | .alloc t => evAlloc τ σ.own t o.dst k
  | .build t ps => evBuild τ σ t ps.toList k
  | .buildSlice t n ps => evBuildSlice τ σ t n ps.toList o.dst k
  | .fieldAddr t x f => evFieldAddr τ t (ev σ x) f k
  | .field t x f => evField τ t (ev σ x) f k
  | .indexAddr t x i => evIndexAddr τ σ.own t (ev σ x) (ev σ i) k
  | .index t x i => evIndex τ t (ev σ x) (ev σ i) k
  | .extract x i => match x with
    | .tmp t => match σ.reg t with
      | .tup l => match l[i]? with
        | some r => k (.one r) []
        | none => none
      | _ => none
    | _ => none
  | .call c => match c.callee with
    | .value f => match ev σ f with
      | .fn f caps => match Φ f with
        | some S => evCallE S σ.own (argR σ) (c.args.toList.map Arg.op ++ caps.map Arg.cap) o.dst k
        | none => none
      | _ => none
    | .builtin .len => match c.args.toList, c.argTypes.toList with
      | [x], [t] => evLen τ σ.own t (ev σ x) k
      | _, _ => none
    | .builtin .min => match c.args.toList with
      | [x, y] => evMM true (ev σ x) (ev σ y) k
      | _ => none
    | .builtin .max => match c.args.toList with
      | [x, y] => evMM false (ev σ x) (ev σ y) k
      | _ => none
    | _ => none
  | _ => none

theorem evE_par {Φ : FuncId → Option (Spec N)} {o : Oper} {σ : St N} {k : KK N β} {r : β} (h : evE τ Φ o σ k = some r) :
    ∃ s ad, k s ad = some r ∧ (∀ p ∈ ad, look σ.own p.1 = none) ∧ ∀ σ' : St N, Agree o σ σ' → (∀ p ∈ ad, look σ'.own p.1 = none) → ∀ {β' : Type} (k' : KK N β'), evE τ Φ o σ' k' = k' s ad := by
  obtain ⟨dst, op, ty, pos, after, guard⟩ := o
  have none0 : ∀ (own : List (Nat × Blk N)), ∀ p ∈ ([] : List (Nat × Blk N)), look own p.1 = none := fun own p hp => by cases hp
  unfold evE at h
  cases op with
  | move x =>
    obtain ⟨s, ad, h1, h2, h3⟩ := evMoveS_par (o := ⟨dst, .move x, ty, pos, after, guard⟩) (by simp [Op.operands]) h
    exact ⟨s, ad, h1, h2, fun σ' hA hf β' k' => h3 σ' hA hf k'⟩
  | assign x =>
    obtain ⟨s, ad, h1, h2, h3⟩ := evMoveS_par (o := ⟨dst, .assign x, ty, pos, after, guard⟩) (by simp [Op.operands]) h
    exact ⟨s, ad, h1, h2, fun σ' hA hf β' k' => h3 σ' hA hf k'⟩
  | build t ps =>
    obtain ⟨s, h1, h3⟩ := evBuild_par h
    exact ⟨s, [], h1, none0 _, fun σ' hA hf β' k' => by simp only [evE]; exact h3 σ' hA.sub (fun p hp => hA.ev (by simp only [Op.operands]; exact List.mem_map.2 ⟨p, hp, rfl⟩)) k'⟩
  | alloc t =>
    obtain ⟨s, ad, h1, h2, h3⟩ := evAlloc_par h
    exact ⟨s, ad, h1, h2, fun σ' hA hf β' k' => by simp only [evE]; exact h3 _ hf k'⟩
  | buildSlice t n ps =>
    obtain ⟨s, ad, h1, h2, h3⟩ := evBuildSlice_par h
    exact ⟨s, ad, h1, h2, fun σ' hA hf β' k' => by simp only [evE]; exact h3 σ' hA.sub (fun p hp => hA.ev (by simp only [Op.operands]; exact List.mem_map.2 ⟨p, hp, rfl⟩)) hf k'⟩
  | pick c x y =>
    simp only at h
    split at h
    · rename_i b hb
      have hc : ∀ σ' : St N, Agree ⟨dst, .pick c x y, ty, pos, after, guard⟩ σ σ' → ev σ' c = .bool b := fun σ' hA => by rw [hA.ev (x := c) (by simp [Op.operands])]; exact hb
      cases b with
      | true =>
        simp only [cond_true] at h
        obtain ⟨s, ad, h1, h2, h3⟩ := evMove_par h
        refine ⟨s, ad, h1, h2, fun σ' hA hf β' k' => ?_⟩
        simp only [evE, hc σ' hA, hA.ev (x := x) (by simp [Op.operands]), cond_true]
        exact h3 _ hf k'
      | false =>
        simp only [cond_false] at h
        obtain ⟨s, ad, h1, h2, h3⟩ := evMove_par h
        refine ⟨s, ad, h1, h2, fun σ' hA hf β' k' => ?_⟩
        simp only [evE, hc σ' hA, hA.ev (x := y) (by simp [Op.operands]), cond_false]
        exact h3 _ hf k'
    · cases h
  | load t x =>
    obtain ⟨s, h1, h3⟩ := evLoad_par h
    exact ⟨s, [], h1, none0 _, fun σ' hA hf β' k' => by simp only [evE, hA.ev (x := x) (by simp [Op.operands])]; exact h3 _ hA.sub k'⟩
  | nilCheck x =>
    simp only at h
    split at h
    · rename_i hx
      exact ⟨_, _, h, none0 _, fun σ' hA hf β' k' => by simp only [evE, hA.ev (x := x) (by simp [Op.operands]), hx]⟩
    · rename_i hx
      exact ⟨_, _, h, none0 _, fun σ' hA hf β' k' => by simp only [evE, hA.ev (x := x) (by simp [Op.operands]), hx]⟩
    · rename_i hx
      exact ⟨_, _, h, none0 _, fun σ' hA hf β' k' => by simp only [evE, hA.ev (x := x) (by simp [Op.operands]), hx]⟩
    · rename_i hx
      exact ⟨_, _, h, none0 _, fun σ' hA hf β' k' => by simp only [evE, hA.ev (x := x) (by simp [Op.operands]), hx]⟩
    · cases h
  | binOp op t x y yt =>
    obtain ⟨z, h1, h3⟩ := evBin_par h
    exact ⟨.one z, [], h1, none0 _, fun σ' hA hf β' k' => by simp only [evE, hA.ev (x := x) (by simp [Op.operands]), hA.ev (x := y) (by simp [Op.operands])]; exact h3 fun z => k' (.one z) []⟩
  | unOp op t x =>
    obtain ⟨z, h1, h3⟩ := evUn_par h
    exact ⟨.one z, [], h1, none0 _, fun σ' hA hf β' k' => by simp only [evE, hA.ev (x := x) (by simp [Op.operands])]; exact h3 fun z => k' (.one z) []⟩
  | convert t t' x =>
    obtain ⟨s, h1, h3⟩ := evConvert_par h
    exact ⟨s, [], h1, none0 _, fun σ' hA hf β' k' => by simp only [evE, hA.ev (x := x) (by simp [Op.operands])]; exact h3 _ hA.sub k'⟩
  | slice t x lo hi mx =>
    cases mx with
    | none =>
      obtain ⟨s, h1, h3⟩ := evSlice_par h
      refine ⟨s, [], h1, none0 _, fun σ' hA hf β' k' => ?_⟩
      simp only [evE, hA.ev (x := x) (by simp [Op.operands])]
      exact h3 σ' hA.sub (fun o ho => hA.ev (by simp [Op.operands, ho])) (fun o ho => hA.ev (by simp [Op.operands, ho])) k'
    | some m => cases h
  | fieldAddr t x f =>
    obtain ⟨s, h1, h3⟩ := evFieldAddr_par h
    exact ⟨s, [], h1, none0 _, fun σ' hA hf β' k' => by simp only [evE, hA.ev (x := x) (by simp [Op.operands])]; exact h3 k'⟩
  | field t x f =>
    obtain ⟨s, h1, h3⟩ := evField_par h
    exact ⟨s, [], h1, none0 _, fun σ' hA hf β' k' => by simp only [evE, hA.ev (x := x) (by simp [Op.operands])]; exact h3 k'⟩
  | indexAddr t x i =>
    obtain ⟨s, h1, h3⟩ := evIndexAddr_par h
    exact ⟨s, [], h1, none0 _, fun σ' hA hf β' k' => by simp only [evE, hA.ev (x := x) (by simp [Op.operands]), hA.ev (x := i) (by simp [Op.operands])]; exact h3 _ hA.sub k'⟩
  | index t x i =>
    obtain ⟨s, h1, h3⟩ := evIndex_par h
    exact ⟨s, [], h1, none0 _, fun σ' hA hf β' k' => by simp only [evE, hA.ev (x := x) (by simp [Op.operands]), hA.ev (x := i) (by simp [Op.operands])]; exact h3 k'⟩
  | extract x i =>
    simp only at h
    split at h
    · rename_i t
      split at h
      · rename_i l hl
        split at h
        · rename_i z hz
          refine ⟨_, _, h, none0 _, fun σ' hA hf β' k' => ?_⟩
          have := hA.regs t (by simp [usesT, Op.operands])
          simp only [evE, this, hl, hz]
        · cases h
      · cases h
    · cases h
  | call c =>
    simp only at h
    split at h
    · rename_i f hf
      split at h
      · rename_i f' caps hfn
        split at h
        · rename_i S hS
          obtain ⟨s, ad, h1, h2, h3⟩ := evCallE_par h
          refine ⟨s, ad, h1, h2, fun σ' hA hfr β' k' => ?_⟩
          have e1 : ev σ' f = .fn f' caps := by
            rw [hA.ev (x := f) (by simp [Op.operands, Call.operands, hf])]
            exact hfn
          simp only [evE, hf, e1, hS]
          refine h3 _ _ hA.sub (fun o ho => ?_) hfr k'
          rcases List.mem_append.1 ho with ho | ho
          · obtain ⟨y, hy, rfl⟩ := List.mem_map.1 ho
            exact hA.ev (by simp only [Op.operands, Call.operands, Array.toList_append, List.mem_append]; exact .inr hy)
          · obtain ⟨y, hy, rfl⟩ := List.mem_map.1 ho
            rfl
        · cases h
      · cases h
    · rename_i hb
      split at h
      · rename_i x t hx ht
        obtain ⟨s, h1, h3⟩ := evLen_par h
        refine ⟨s, [], h1, none0 _, fun σ' hA hf β' k' => ?_⟩
        have e1 : ev σ' x = ev σ x := hA.ev (by simp only [Op.operands, Call.operands, Array.toList_append, List.mem_append, hx]; exact .inr List.mem_cons_self)
        simp only [evE, hb, hx, ht, e1]
        exact h3 _ hA.sub k'
      · cases h
    · rename_i hb
      split at h
      · rename_i x y hx
        obtain ⟨s, h1, h3⟩ := evMM_par h
        refine ⟨s, [], h1, none0 _, fun σ' hA hf β' k' => ?_⟩
        have e1 : ev σ' x = ev σ x := hA.ev (by simp only [Op.operands, Call.operands, Array.toList_append, List.mem_append, hx]; exact .inr List.mem_cons_self)
        have e2 : ev σ' y = ev σ y := hA.ev (by simp only [Op.operands, Call.operands, Array.toList_append, List.mem_append, hx]; exact .inr (List.mem_cons_of_mem _ List.mem_cons_self))
        simp only [evE, hb, hx, e1, e2]
        exact h3 k'
      · cases h
    · rename_i hb
      split at h
      · rename_i x y hx
        obtain ⟨s, h1, h3⟩ := evMM_par h
        refine ⟨s, [], h1, none0 _, fun σ' hA hf β' k' => ?_⟩
        have e1 : ev σ' x = ev σ x := hA.ev (by simp only [Op.operands, Call.operands, Array.toList_append, List.mem_append, hx]; exact .inr List.mem_cons_self)
        have e2 : ev σ' y = ev σ y := hA.ev (by simp only [Op.operands, Call.operands, Array.toList_append, List.mem_append, hx]; exact .inr (List.mem_cons_of_mem _ List.mem_cons_self))
        simp only [evE, hb, hx, e1, e2]
        exact h3 k'
      · cases h
    · cases h
  | _ => cases h

theorem evE_evOp {Φ : FuncId → Option (Spec N)} {o : Oper} {σ : St N} {s : Slot N} {ad : List (Nat × Blk N)} (h : evE τ Φ o σ (fun s ad => some (s, ad)) = some (s, ad)) (hp : ∀ {β' : Type} (k' : KK N β'), evE τ Φ o σ k' = k' s ad) {k : St N → Option β} :
    evOp τ Φ o σ k = k (({ σ with own := insAll ad σ.own } : St N).put o.dst s) := by
  obtain ⟨dst, op, ty, pos, after, guard⟩ := o
  have h1 := hp (fin1 σ dst k)
  cases op with
  | call c =>
    simp only [evE, evOp] at h h1 ⊢
    cases hc : c.callee with
    | value f =>
      simp only [hc] at h h1 ⊢
      cases hf : ev σ f with
      | fn f' caps =>
        simp only [hf] at h h1 ⊢
        simp only [evCallee]
        cases hS : Φ f' with
        | none => rw [hS] at h; cases h
        | some S =>
          simp only [hS] at h h1 ⊢
          rw [evCallE_eq h]
          rfl
      | _ => rw [hf] at h; cases h
    | invoke r m => rw [hc] at h; cases h
    | builtin b =>
      simp only [hc] at h h1 ⊢
      cases b with
      | len =>
        simp only at h h1 ⊢
        exact h1
      | min =>
        simp only at h h1 ⊢
        exact h1
      | max =>
        simp only at h h1 ⊢
        exact h1
      | _ => cases h
  | slice t x lo hi mx =>
    cases mx with
    | none => exact h1
    | some m => cases h
  | extract x i =>
    simp only [evE, evOp] at h h1 ⊢
    exact h1
  | pick c x y =>
    simp only [evE, evOp] at h h1 ⊢
    cases hx : ev σ c <;> rw [hx] at h h1 <;> first | exact h1 | cases h
  | nilCheck x =>
    simp only [evE, evOp] at h h1 ⊢
    cases hx : ev σ x <;> rw [hx] at h h1 <;> first | exact h1 | cases h
  | move x => exact h1
  | build t ps => exact h1
  | alloc t => exact h1
  | buildSlice t n ps => exact h1
  | assign x => exact h1
  | load t x => exact h1
  | binOp op t x y yt => exact h1
  | unOp op t x => exact h1
  | convert t t' x => exact h1
  | fieldAddr t x f => exact h1
  | field t x f => exact h1
  | indexAddr t x i => exact h1
  | index t x i => exact h1
  | _ => cases h

/-- An operation that reads or adds: its effect, wherever it is carried out. -/
theorem evE_does (F : Fits P N τ) {Φ : FuncId → Option (Spec N)} (hΦ : ∀ f S, Φ f = some S → Good P f S) {o : Oper} {σ : St N} {k : KK N β} {r : β} (h : evE τ Φ o σ k = some r) :
    ∃ s ad, k s ad = some r ∧ (∀ p ∈ ad, look σ.own p.1 = none) ∧ ∀ σ' : St N, Agree o σ σ' → (∀ p ∈ ad, look σ'.own p.1 = none) → DoesO P o σ' (({ σ' with own := insAll ad σ'.own } : St N).put o.dst s) := by
  obtain ⟨s, ad, h1, h2, h3⟩ := evE_par h
  refine ⟨s, ad, h1, h2, fun σ' hA hf => ?_⟩
  have hp : ∀ {β' : Type} (k' : KK N β'), evE τ Φ o σ' k' = k' s ad := fun k' => h3 σ' hA hf k'
  have := evE_evOp (hp fun s ad => some (s, ad)) hp (k := fun σ => some σ)
  obtain ⟨σ1, e1, e2⟩ := evOp_sound F hΦ this
  cases e1
  exact e2

end Go.Eng
