/- The engine, part X: code, cut at the heads of its loops and at joins. -/
import Derived.Test.YtgfklnmckakclaaGreatDoorEngWG
import Derived.Scope
set_option linter.unusedVariables false
set_option linter.unusedSimpArgs false
namespace Go.Eng
variable {N : Names} {P : Program} {β : Type}

/-- What is fixed while a function's code is followed. -/
structure Ctx (N : Names) where
  τ : TypeId → Option TI
  Φ : FuncId → Option (Spec N)
  K : Nat → Option (List Nat)
  pins : List Nat

structure Conts (N : Names) (β : Type) where
  norm : St N → Option β
  exit : Nat → St N → Option β
  ret : St N → Option β

def startId : Code → Option Nat
  | .region id _ _ => some id
  | .seq a _ => startId a
  | .block _ c => startId c
  | .scope c => startId c
  | _ => none

/-- The id of a place at which the code is cut. -/
def Ctx.cutOf (X : Ctx N) (c : Code) : Option (Nat × List Nat) := match startId c with
  | some id => match X.K id with
    | some keep => some (id, keep)
    | none => none
  | none => none

variable (X : Ctx N) (g : Nat → St N → Option β)

def Ctx.cutK (c : Code) (k : St N → Option β) : St N → Option β := match X.cutOf c with
  | some (id, keep) => fun σ => g id (Eng.norm X.pins keep σ)
  | none => k

def exec : Code → Conts N β → St N → Option β
  | .skip, C, σ => C.norm σ
  | .label _, C, σ => C.norm σ
  | .region _ ops false, C, σ => execOps X.τ X.Φ ops.toList ops.toList σ C.norm
  | .region _ ops true, C, σ => execDrawX X.τ X.Φ ops.toList σ C.norm
  | .seq a b, C, σ => exec a { C with norm := X.cutK g b (exec b C) } σ
  | .cond c t e, C, σ => match ev σ c with
    | .bool b => bif b then exec t C σ else exec e C σ
    | _ => none
  | .block i c, C, σ => exec c { C with exit := fun j σ => bif j == i then C.norm σ else C.exit j σ } σ
  | .loop c, C, σ => X.cutK g c (fun _ => none) σ
  | .exit i, C, σ => C.exit i σ
  | .ret, C, σ => C.ret σ
  | .scope c, C, σ => exec c C σ
  | _, _, _ => none

def has (id : Nat) : Code → Bool
  | .seq a b => has id a || (startId b == some id || has id b)
  | .cond _ t e => has id t || has id e
  | .block _ c => has id c
  | .loop c => startId c == some id || has id c
  | .scope c => has id c
  | _ => false

def occ (X : Ctx N) : Code → List Nat
  | .seq a b => occ X a ++ (((X.cutOf b).map (·.1)).toList ++ occ X b)
  | .cond _ t e => occ X t ++ occ X e
  | .block _ c => occ X c
  | .loop c => ((X.cutOf c).map (·.1)).toList ++ occ X c
  | .scope c => occ X c
  | _ => []

/-- What comes behind a place at which the code is cut. -/
def find (id : Nat) : Code → Conts N β → Option (St N → Option β)
  | .seq a b, C => match find id a { C with norm := X.cutK g b (exec X g b C) } with
    | some k => some k
    | none => bif startId b == some id then some (exec X g b C) else find id b C
  | .cond _ t e, C => match find id t C with
    | some k => some k
    | none => find id e C
  | .block i c, C => find id c { C with exit := fun j σ => bif j == i then C.norm σ else C.exit j σ }
  | .loop c, C => bif startId c == some id then some (exec X g c { C with norm := X.cutK g c (fun _ => none) }) else find id c { C with norm := X.cutK g c (fun _ => none) }
  | .scope c, C => find id c C
  | _, _ => none

def Seg (body : Code) (C : Conts N β) (id : Nat) (σ : St N) : Option β := match X.K id with
  | none => none
  | some _ => match find X g id body C with
    | some k => k σ
    | none => none

def tbl (body : Code) (C : Conts N β) : Nat → Nat → St N → Option β
  | 0, _, _ => none
  | n + 1, id, σ => Seg X (tbl body C n) body C id σ

/-! What stands at a place. -/
def LoopW (P : Program) (c : Code) (Q : Exit → Act → World → Prop) (a : Act) (w : World) : Prop :=
  ∀ (b : Frame) (k : List Item) (cs : List Frame), ∃ e a' w', Q e a' w' ∧ Arrives P (lone (b.at a (.code c :: .inLoop c :: k)) cs w) b k cs e a' w'

theorem loopW_round {c : Code} {Q : Exit → Act → World → Prop} {a : Act} {w : World} (h : c.wp P (Exit.then (LoopW P c Q) Q) a w) : LoopW P c Q a w := by
  intro b k cs
  obtain ⟨e, a₁, w₁, hq, harr⟩ := h b (.inLoop c :: k) cs
  cases e with
  | normal =>
    obtain ⟨e₂, a₂, w₂, hq₂, harr₂⟩ := hq b k cs
    exact ⟨e₂, a₂, w₂, hq₂, .of_steps (Steps.trans harr (.one step_inLoop)) harr₂⟩
  | exit id => exact ⟨_, a₁, w₁, hq, .pass (x := .inLoop c) rfl (fun _ _ => .inl (by simp)) harr⟩
  | goto l => exact ⟨_, a₁, w₁, hq, .pass (x := .inLoop c) rfl (fun _ _ => .inl (by simp)) harr⟩
  | ret => exact ⟨_, a₁, w₁, hq, .pass (x := .inLoop c) rfl (fun _ _ => .inl (by simp)) harr⟩
  | panic ch => exact ⟨_, a₁, w₁, hq, .pass (x := .inLoop c) rfl (fun _ _ => .inl (by simp)) harr⟩
  | outgrown => exact ⟨_, a₁, w₁, hq, .pass (x := .inLoop c) rfl (fun _ _ => .inl (by simp)) harr⟩

theorem loopW_wp {c : Code} {Q : Exit → Act → World → Prop} {a : Act} {w : World} (h : LoopW P c Q a w) : (Code.loop c).wp P Q a w := by
  intro b k cs
  obtain ⟨e, a', w', hq, harr⟩ := h b k cs
  exact ⟨e, a', w', hq, .of_steps (.one step_loop) harr⟩

def At (P : Program) (id : Nat) : Code → (Exit → Act → World → Prop) → Act → World → Prop
  | .seq x y, Q, a, w => if has id x = true then At P id x (Exit.then (y.wp P Q) Q) a w else if startId y = some id then y.wp P Q a w else At P id y Q a w
  | .cond _ t e, Q, a, w => if has id t = true then At P id t Q a w else At P id e Q a w
  | .block i c, Q, a, w => At P id c (Exit.inBlock i Q) a w
  | .loop c, Q, a, w => if startId c = some id then LoopW P c Q a w else At P id c (Exit.then (LoopW P c Q) Q) a w
  | .scope c, Q, a, w => At P id c (Exit.noGoto Q) a w
  | _, _, _, _ => True

variable {X g}
variable {io : Io} {w0 : World} {r : β}

def CutsOk (P : Program) (X : Ctx N) (g : Nat → St N → Option β) (io : Io) (w0 : World) (r : β) (c : Code) (Q : Exit → Act → World → Prop) : Prop :=
  ∀ id ∈ occ X c, ∀ σ a w, g id σ = some r → Rel io w0 σ a w → At P id c Q a w

structure ConOk (io : Io) (w0 : World) (r : β) (C : Conts N β) (Q : Exit → Act → World → Prop) : Prop where
  norm : ∀ σ a w, C.norm σ = some r → Rel io w0 σ a w → Q .normal a w
  exit : ∀ i σ a w, C.exit i σ = some r → Rel io w0 σ a w → Q (.exit i) a w
  ret : ∀ σ a w, C.ret σ = some r → Rel io w0 σ a w → Q .ret a w

theorem cutOf_some {c : Code} {id : Nat} {keep : List Nat} (h : X.cutOf c = some (id, keep)) : startId c = some id ∧ X.K id = some keep := by
  unfold Ctx.cutOf at h
  split at h
  · rename_i id' hs
    split at h
    · rename_i keep' hk
      cases h
      exact ⟨hs, hk⟩
    · cases h
  · cases h
theorem cutOf_of {c : Code} {id : Nat} {keep : List Nat} (h1 : startId c = some id) (h2 : X.K id = some keep) : X.cutOf c = some (id, keep) := by
  unfold Ctx.cutOf
  rw [h1]
  simp only [h2]

/-- Where the code is cut, and no other place. -/
theorem has_of_occ {id : Nat} : ∀ {c : Code}, id ∈ occ X c → has id c = true
  | .seq a b, h => by
    simp only [occ, List.mem_append, Option.mem_toList, Option.map_eq_some_iff] at h
    simp only [has, Bool.or_eq_true, beq_iff_eq]
    rcases h with h | ⟨⟨i, k⟩, h, rfl⟩ | h
    · exact .inl (has_of_occ h)
    · exact .inr (.inl (cutOf_some h).1)
    · exact .inr (.inr (has_of_occ h))
  | .cond _ t e, h => by
    simp only [occ, List.mem_append] at h
    simp only [has, Bool.or_eq_true]
    exact h.imp has_of_occ has_of_occ
  | .block _ c, h => has_of_occ (c := c) h
  | .scope c, h => has_of_occ (c := c) h
  | .loop c, h => by
    simp only [occ, List.mem_append, Option.mem_toList, Option.map_eq_some_iff] at h
    simp only [has, Bool.or_eq_true, beq_iff_eq]
    rcases h with ⟨⟨i, k⟩, h, rfl⟩ | h
    · exact .inl (cutOf_some h).1
    · exact .inr (has_of_occ h)

theorem occ_of_has {id : Nat} {keep : List Nat} (hK : X.K id = some keep) : ∀ {c : Code}, has id c = true → id ∈ occ X c
  | .seq a b, h => by
    simp only [has, Bool.or_eq_true, beq_iff_eq] at h
    simp only [occ, List.mem_append, Option.mem_toList, Option.map_eq_some_iff]
    rcases h with h | h | h
    · exact .inl (occ_of_has hK h)
    · exact .inr (.inl ⟨(id, keep), cutOf_of h hK, rfl⟩)
    · exact .inr (.inr (occ_of_has hK h))
  | .cond _ t e, h => by
    simp only [has, Bool.or_eq_true] at h
    simp only [occ, List.mem_append]
    exact h.imp (occ_of_has hK) (occ_of_has hK)
  | .block _ c, h => occ_of_has (c := c) hK h
  | .scope c, h => occ_of_has (c := c) hK h
  | .loop c, h => by
    simp only [has, Bool.or_eq_true, beq_iff_eq] at h
    simp only [occ, List.mem_append, Option.mem_toList, Option.map_eq_some_iff]
    rcases h with h | h
    · exact .inl ⟨(id, keep), cutOf_of h hK, rfl⟩
    · exact .inr (occ_of_has hK h)

theorem K_of_occ {id : Nat} : ∀ {c : Code}, id ∈ occ X c → ∃ keep, X.K id = some keep
  | .seq a b, h => by
    simp only [occ, List.mem_append, Option.mem_toList, Option.map_eq_some_iff] at h
    rcases h with h | ⟨⟨i, k⟩, h, rfl⟩ | h
    · exact K_of_occ h
    · exact ⟨k, (cutOf_some h).2⟩
    · exact K_of_occ h
  | .cond _ t e, h => by
    simp only [occ, List.mem_append] at h
    exact h.elim K_of_occ K_of_occ
  | .block _ c, h => K_of_occ (c := c) h
  | .scope c, h => K_of_occ (c := c) h
  | .loop c, h => by
    simp only [occ, List.mem_append, Option.mem_toList, Option.map_eq_some_iff] at h
    rcases h with ⟨⟨i, k⟩, h, rfl⟩ | h
    · exact ⟨k, (cutOf_some h).2⟩
    · exact K_of_occ h

theorem find_has {id : Nat} : ∀ {c : Code} {C : Conts N β} {k : St N → Option β}, find X g id c C = some k → has id c = true
  | .seq a b, C, k, h => by
    simp only [find] at h
    simp only [has, Bool.or_eq_true]
    split at h
    · rename_i k' hk
      exact .inl (find_has hk)
    · cases hs : (startId b == some id) with
      | true => exact .inr (.inl rfl)
      | false =>
        rw [hs] at h
        exact .inr (.inr (find_has (c := b) (C := C) (k := k) h))
  | .cond _ t e, C, k, h => by
    simp only [find] at h
    simp only [has, Bool.or_eq_true]
    split at h
    · rename_i k' hk
      exact .inl (find_has hk)
    · exact .inr (find_has h)
  | .block _ c, C, k, h => find_has (c := c) h
  | .scope c, C, k, h => find_has (c := c) h
  | .loop c, C, k, h => by
    simp only [find] at h
    simp only [has, Bool.or_eq_true]
    cases hs : (startId c == some id) with
    | true => exact .inl rfl
    | false =>
      rw [hs] at h
      exact .inr (find_has (c := c) (k := k) h)

section
variable {Q : Exit → Act → World → Prop}

theorem CutsOk.left {x y : Code} (h : CutsOk P X g io w0 r (.seq x y) Q) : CutsOk P X g io w0 r x (Exit.then (y.wp P Q) Q) := by
  intro id hid σ a w h1 h2
  have := h id (by simp only [occ, List.mem_append]; exact .inl hid) σ a w h1 h2
  simpa only [At, has_of_occ hid, if_true] using this

theorem CutsOk.right {x y : Code} (h : CutsOk P X g io w0 r (.seq x y) Q) (hn : (occ X (.seq x y)).Nodup) : CutsOk P X g io w0 r y Q := by
  intro id hid σ a w h1 h2
  have := h id (by simp only [occ, List.mem_append]; exact .inr (.inr hid)) σ a w h1 h2
  obtain ⟨keep, hK⟩ := K_of_occ hid
  simp only [occ] at hn
  rw [List.nodup_append] at hn
  have hx : has id x ≠ true := fun hx => hn.2.2 id (occ_of_has hK hx) id (List.mem_append.2 (.inr hid)) rfl
  have hs : startId y ≠ some id := fun hs => by
    rw [List.nodup_append] at hn
    exact hn.2.1.2.2 id (by rw [cutOf_of hs hK]; simp) id hid rfl
  simpa only [At, if_neg hx, if_neg hs] using this

theorem CutsOk.mid {x y : Code} (h : CutsOk P X g io w0 r (.seq x y) Q) (hn : (occ X (.seq x y)).Nodup) {id : Nat} {keep : List Nat} (hc : X.cutOf y = some (id, keep)) {σ : St N} {a : Act} {w : World} (h1 : g id σ = some r) (h2 : Rel io w0 σ a w) : y.wp P Q a w := by
  obtain ⟨hs, hK⟩ := cutOf_some hc
  have := h id (by simp only [occ, hc, List.mem_append]; exact .inr (.inl (by simp))) σ a w h1 h2
  simp only [occ] at hn
  rw [List.nodup_append] at hn
  have hx : has id x ≠ true := fun hx => hn.2.2 id (occ_of_has hK hx) id (List.mem_append.2 (.inl (by rw [hc]; simp))) rfl
  simpa only [At, if_neg hx, if_pos hs] using this

theorem CutsOk.loopHead {c : Code} (h : CutsOk P X g io w0 r (.loop c) Q) {id : Nat} {keep : List Nat} (hc : X.cutOf c = some (id, keep)) {σ : St N} {a : Act} {w : World} (h1 : g id σ = some r) (h2 : Rel io w0 σ a w) : LoopW P c Q a w := by
  obtain ⟨hs, hK⟩ := cutOf_some hc
  have := h id (by simp only [occ, hc, List.mem_append]; exact .inl (by simp)) σ a w h1 h2
  simpa only [At, if_pos hs] using this

theorem CutsOk.inLoop {c : Code} (h : CutsOk P X g io w0 r (.loop c) Q) (hn : (occ X (.loop c)).Nodup) : CutsOk P X g io w0 r c (Exit.then (LoopW P c Q) Q) := by
  intro id hid σ a w h1 h2
  have := h id (by simp only [occ, List.mem_append]; exact .inr hid) σ a w h1 h2
  obtain ⟨keep, hK⟩ := K_of_occ hid
  simp only [occ] at hn
  rw [List.nodup_append] at hn
  have hs : startId c ≠ some id := fun hs => hn.2.2 id (by rw [cutOf_of hs hK]; simp) id hid rfl
  simpa only [At, if_neg hs] using this

/-- The continuation of a part, cut or not. -/
theorem cutK_ok {c : Code} {k : St N → Option β} {R : Act → World → Prop} (h1 : ∀ id keep, X.cutOf c = some (id, keep) → ∀ σ a w, g id σ = some r → Rel io w0 σ a w → R a w) (h2 : ∀ σ a w, k σ = some r → Rel io w0 σ a w → R a w) (hp : io.ids = X.pins) :
    ∀ σ a w, X.cutK g c k σ = some r → Rel io w0 σ a w → R a w := by
  intro σ a w h hr
  rcases hc : X.cutOf c with _ | ⟨id, keep⟩
  · simp only [Ctx.cutK, hc] at h
    exact h2 σ a w h hr
  · simp only [Ctx.cutK, hc] at h
    refine h1 id keep hc _ a w h ?_
    rw [← hp]
    exact hr.norm keep

theorem exec_sound (F : Fits P N X.τ) (hΦ : ∀ f S, X.Φ f = some S → Good P f S) (hm : P.follows .mixedOrders = true) (hp : io.ids = X.pins) : ∀ (c : Code) (C : Conts N β) (Q : Exit → Act → World → Prop) (σ : St N), CutsOk P X g io w0 r c Q → (occ X c).Nodup → ConOk io w0 r C Q →
    exec X g c C σ = some r → ∀ a w, Rel io w0 σ a w → c.wp P Q a w
  | .skip, C, Q, σ, hc, hn, hC, h, a, w, hr => wp_skip (hC.norm σ a w h hr)
  | .label _, C, Q, σ, hc, hn, hC, h, a, w, hr => wp_label (hC.norm σ a w h hr)
  | .region _ ops false, C, Q, σ, hc, hn, hC, h, a, w, hr => by
    simp only [exec] at h
    have := execOps_sound (ops := ops.toList) (Q := Q) F hΦ (fun σ a w h1 h2 => hC.norm σ a w h1 h2) ops.toList σ h a w hr
    exact wp_region_list this
  | .region rid ops true, C, Q, σ, hc, hn, hC, h, a, w, hr => by
    simp only [exec] at h
    have := execDrawX_sound (id := rid) (ops := ops.toList) (Q := Q) F hΦ hm (fun σ a w h1 h2 => hC.norm σ a w h1 h2) h hr
    exact this
  | .seq x y, C, Q, σ, hc, hn, hC, h, a, w, hr => by
    have hn' := hn
    simp only [occ] at hn'
    rw [List.nodup_append, List.nodup_append] at hn'
    simp only [exec] at h
    refine wp_seq (exec_sound F hΦ hm hp x { C with norm := X.cutK g y (exec X g y C) } _ σ hc.left hn'.1 ⟨?_, fun i σ a w h1 h2 => hC.exit i σ a w h1 h2, fun σ a w h1 h2 => hC.ret σ a w h1 h2⟩ h a w hr)
    exact cutK_ok (R := y.wp P Q) (fun id keep hcut σ a w h1 h2 => hc.mid hn hcut h1 h2) (fun σ a w h1 h2 => exec_sound F hΦ hm hp y C Q σ (hc.right hn) hn'.2.1.2.1 hC h1 a w h2) hp
  | .cond c t e, C, Q, σ, hc, hn, hC, h, a, w, hr => by
    have hn' := hn
    simp only [occ] at hn'
    rw [List.nodup_append] at hn'
    simp only [exec] at h
    split at h
    · rename_i b hb
      have hv : a.eval c = .bool b := by
        obtain ⟨E, hE⟩ := hr
        have := hE.ev c
        rw [hb] at this
        exact this
      have hct : CutsOk P X g io w0 r t Q := fun id hid σ a w h1 h2 => by
        have := hc id (by simp only [occ, List.mem_append]; exact .inl hid) σ a w h1 h2
        simpa only [At, has_of_occ hid, if_true] using this
      have hce : CutsOk P X g io w0 r e Q := fun id hid σ a w h1 h2 => by
        have := hc id (by simp only [occ, List.mem_append]; exact .inr hid) σ a w h1 h2
        obtain ⟨keep, hK⟩ := K_of_occ hid
        have hx : has id t ≠ true := fun hx => hn'.2.2 id (occ_of_has hK hx) id hid rfl
        simpa only [At, if_neg hx] using this
      cases b with
      | true => exact wp_cond_true hv (exec_sound F hΦ hm hp t C Q σ hct hn'.1 hC h a w hr)
      | false => exact wp_cond_false hv (exec_sound F hΦ hm hp e C Q σ hce hn'.2.1 hC h a w hr)
    · cases h
  | .block i c, C, Q, σ, hc, hn, hC, h, a, w, hr => by
    simp only [exec] at h
    refine wp_block (exec_sound F hΦ hm hp c { C with exit := fun j σ => bif j == i then C.norm σ else C.exit j σ } _ σ hc hn ⟨fun σ a w h1 h2 => hC.norm σ a w h1 h2, fun j σ a w h1 h2 => ?_, fun σ a w h1 h2 => hC.ret σ a w h1 h2⟩ h a w hr)
    simp only [Exit.inBlock]
    cases hj : (j == i) with
    | true =>
      simp only [hj, cond_true] at h1
      rw [if_pos (by simpa using hj)]
      exact hC.norm σ a w h1 h2
    | false =>
      simp only [hj, cond_false] at h1
      rw [if_neg (by simpa using hj)]
      exact hC.exit j σ a w h1 h2
  | .loop c, C, Q, σ, hc, hn, hC, h, a, w, hr => by
    simp only [exec] at h
    exact loopW_wp (cutK_ok (R := LoopW P c Q) (fun id keep hcut σ a w h1 h2 => hc.loopHead hcut h1 h2) (fun σ a w h1 _ => by cases h1) hp σ a w h hr)
  | .exit i, C, Q, σ, hc, hn, hC, h, a, w, hr => wp_exit (hC.exit i σ a w h hr)
  | .ret, C, Q, σ, hc, hn, hC, h, a, w, hr => wp_ret (hC.ret σ a w h hr)
  | .scope c, C, Q, σ, hc, hn, hC, h, a, w, hr => by
    simp only [exec] at h
    exact wp_scope_straight (exec_sound F hΦ hm hp c _ _ σ hc hn ⟨fun σ a w h1 h2 => hC.norm σ a w h1 h2, fun i σ a w h1 h2 => hC.exit i σ a w h1 h2, fun σ a w h1 h2 => hC.ret σ a w h1 h2⟩ h a w hr)
  | .rangeFunc .., C, Q, σ, hc, hn, hC, h, a, w, hr => by cases h
  | .goto _, C, Q, σ, hc, hn, hC, h, a, w, hr => by cases h
  | .refuse _, C, Q, σ, hc, hn, hC, h, a, w, hr => by cases h

theorem find_sound (F : Fits P N X.τ) (hΦ : ∀ f S, X.Φ f = some S → Good P f S) (hm : P.follows .mixedOrders = true) (hp : io.ids = X.pins) {id : Nat} {keep : List Nat} (hK : X.K id = some keep) : ∀ (c : Code) (C : Conts N β) (Q : Exit → Act → World → Prop) (k : St N → Option β), CutsOk P X g io w0 r c Q → (occ X c).Nodup → ConOk io w0 r C Q →
    find X g id c C = some k → ∀ σ a w, k σ = some r → Rel io w0 σ a w → At P id c Q a w
  | .seq x y, C, Q, k, hc, hn, hC, h, σ, a, w, hk, hr => by
    have hn' := hn
    simp only [occ] at hn'
    rw [List.nodup_append, List.nodup_append] at hn'
    simp only [find] at h
    simp only [At]
    have hCx : ConOk io w0 r { C with norm := X.cutK g y (exec X g y C) } (Exit.then (y.wp P Q) Q) :=
      ⟨cutK_ok (R := y.wp P Q) (fun id keep hcut σ a w h1 h2 => hc.mid hn hcut h1 h2) (fun σ a w h1 h2 => exec_sound F hΦ hm hp y C Q σ (hc.right hn) hn'.2.1.2.1 hC h1 a w h2) hp, fun i σ a w h1 h2 => hC.exit i σ a w h1 h2, fun σ a w h1 h2 => hC.ret σ a w h1 h2⟩
    split at h
    · rename_i k' hk'
      cases h
      rw [if_pos (find_has hk')]
      exact find_sound F hΦ hm hp hK x { C with norm := X.cutK g y (exec X g y C) } _ k hc.left hn'.1 hCx hk' σ a w hk hr
    · cases hs : (startId y == some id) with
      | true =>
        rw [hs] at h
        cases h
        have hs : startId y = some id := by simpa using hs
        have hx : has id x ≠ true := fun hx => hn'.2.2 id (occ_of_has hK hx) id (List.mem_append.2 (.inl (by rw [cutOf_of hs hK]; simp))) rfl
        rw [if_neg hx, if_pos hs]
        exact exec_sound F hΦ hm hp y C Q σ (hc.right hn) hn'.2.1.2.1 hC hk a w hr
      | false =>
        rw [hs] at h
        have h : find X g id y C = some k := h
        have hs : startId y ≠ some id := by simpa using hs
        have hx : has id x ≠ true := fun hx => hn'.2.2 id (occ_of_has hK hx) id (List.mem_append.2 (.inr (occ_of_has hK (find_has h)))) rfl
        rw [if_neg hx, if_neg hs]
        exact find_sound F hΦ hm hp hK y C Q k (hc.right hn) hn'.2.1.2.1 hC h σ a w hk hr
  | .cond c t e, C, Q, k, hc, hn, hC, h, σ, a, w, hk, hr => by
    have hn' := hn
    simp only [occ] at hn'
    rw [List.nodup_append] at hn'
    simp only [find] at h
    simp only [At]
    split at h
    · rename_i k' hk'
      cases h
      rw [if_pos (find_has hk')]
      refine find_sound F hΦ hm hp hK t C Q k (fun id hid σ a w h1 h2 => ?_) hn'.1 hC hk' σ a w hk hr
      have := hc id (by simp only [occ, List.mem_append]; exact .inl hid) σ a w h1 h2
      simpa only [At, has_of_occ hid, if_true] using this
    · have hx : has id t ≠ true := fun hx => hn'.2.2 id (occ_of_has hK hx) id (occ_of_has hK (find_has h)) rfl
      rw [if_neg hx]
      refine find_sound F hΦ hm hp hK e C Q k (fun id hid σ a w h1 h2 => ?_) hn'.2.1 hC h σ a w hk hr
      have := hc id (by simp only [occ, List.mem_append]; exact .inr hid) σ a w h1 h2
      obtain ⟨keep', hK'⟩ := K_of_occ hid
      have hx : has id t ≠ true := fun hx => hn'.2.2 id (occ_of_has hK' hx) id hid rfl
      simpa only [At, if_neg hx] using this
  | .block i c, C, Q, k, hc, hn, hC, h, σ, a, w, hk, hr => by
    simp only [find] at h
    refine find_sound F hΦ hm hp hK c { C with exit := fun j σ => bif j == i then C.norm σ else C.exit j σ } (Exit.inBlock i Q) k hc hn ⟨fun σ a w h1 h2 => hC.norm σ a w h1 h2, fun j σ a w h1 h2 => ?_, fun σ a w h1 h2 => hC.ret σ a w h1 h2⟩ h σ a w hk hr
    simp only [Exit.inBlock]
    cases hj : (j == i) with
    | true =>
      simp only [hj, cond_true] at h1
      rw [if_pos (by simpa using hj)]
      exact hC.norm σ a w h1 h2
    | false =>
      simp only [hj, cond_false] at h1
      rw [if_neg (by simpa using hj)]
      exact hC.exit j σ a w h1 h2
  | .loop c, C, Q, k, hc, hn, hC, h, σ, a, w, hk, hr => by
    have hn' := hn
    simp only [occ] at hn'
    rw [List.nodup_append] at hn'
    simp only [find] at h
    simp only [At]
    have hCc : ConOk io w0 r { C with norm := X.cutK g c (fun _ => none) } (Exit.then (LoopW P c Q) Q) :=
      ⟨cutK_ok (R := LoopW P c Q) (fun id keep hcut σ a w h1 h2 => hc.loopHead hcut h1 h2) (fun σ a w h1 _ => by cases h1) hp, fun i σ a w h1 h2 => hC.exit i σ a w h1 h2, fun σ a w h1 h2 => hC.ret σ a w h1 h2⟩
    cases hs : (startId c == some id) with
    | true =>
      rw [hs] at h
      cases h
      rw [if_pos (by simpa using hs)]
      exact loopW_round (exec_sound F hΦ hm hp c { C with norm := X.cutK g c (fun _ => none) } _ σ (hc.inLoop hn) hn'.2.1 hCc hk a w hr)
    | false =>
      rw [hs] at h
      rw [if_neg (by simpa using hs)]
      exact find_sound F hΦ hm hp hK c { C with norm := X.cutK g c (fun _ => none) } _ k (hc.inLoop hn) hn'.2.1 hCc h σ a w hk hr
  | .scope c, C, Q, k, hc, hn, hC, h, σ, a, w, hk, hr => by
    simp only [find] at h
    exact find_sound F hΦ hm hp hK c _ (Exit.noGoto Q) k hc hn ⟨fun σ a w h1 h2 => hC.norm σ a w h1 h2, fun i σ a w h1 h2 => hC.exit i σ a w h1 h2, fun σ a w h1 h2 => hC.ret σ a w h1 h2⟩ h σ a w hk hr

theorem tbl_ok (F : Fits P N X.τ) (hΦ : ∀ f S, X.Φ f = some S → Good P f S) (hm : P.follows .mixedOrders = true) (hp : io.ids = X.pins) {body : Code} {C : Conts N β} (hn : (occ X body).Nodup) (hC : ConOk io w0 r C Q) : ∀ n, CutsOk P X (tbl X body C n) io w0 r body Q
  | 0 => fun id _ σ a w h _ => by cases h
  | n + 1 => fun id hid σ a w h hr => by
    simp only [tbl, Seg] at h
    split at h
    · cases h
    · rename_i keep hK
      split at h
      · rename_i k hk
        exact find_sound F hΦ hm hp hK body C Q k (tbl_ok F hΦ hm hp hn hC n) hn hC hk σ a w h hr
      · cases h

/-- The code of a function, followed to its end. -/
theorem body_sound (F : Fits P N X.τ) (hΦ : ∀ f S, X.Φ f = some S → Good P f S) (hm : P.follows .mixedOrders = true) (hp : io.ids = X.pins) {body : Code} {C : Conts N β} (hn : (occ X body).Nodup) (hC : ConOk io w0 r C Q) {n : Nat} {σ : St N}
    (h : exec X (tbl X body C n) body C σ = some r) {a : Act} {w : World} (hr : Rel io w0 σ a w) : body.wp P Q a w :=
  exec_sound F hΦ hm hp body C Q σ (tbl_ok F hΦ hm hp hn hC n) hn hC h a w hr
end

end Go.Eng
