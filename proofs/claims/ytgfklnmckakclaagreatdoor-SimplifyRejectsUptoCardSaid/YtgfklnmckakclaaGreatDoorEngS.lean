/- The engine, part S: several own blocks are handed to a call and come back turned. -/
import Derived.Test.YtgfklnmckakclaaGreatDoorEngR
set_option linter.unusedVariables false
set_option linter.unusedSimpArgs false
namespace Go.Eng
variable {N : Names} {io : Io} {w0 w w' : World} {σ : St N} {E : Env} {a : Act}

def delL {β : Type} : List Nat → List (Nat × β) → List (Nat × β)
  | [], l => l
  | i :: r, l => del i (delL r l)

theorem look_delL {β : Type} (D : List Nat) (l : List (Nat × β)) (j : Nat) : look (delL D l) j = if j ∈ D then none else look l j := by
  induction D with
  | nil => simp [delL]
  | cons i r ih =>
    simp only [delL, look_del, ih, List.mem_cons]
    by_cases h : i = j
    · simp [h]
    · simp [h, Ne.symm h]

theorem look_insAll {β : Type} : ∀ (new l : List (Nat × β)) (j : Nat), look (insAll new l) j = match look new j with
    | some b => some b
    | none => look l j
  | [], l, j => rfl
  | (i, v) :: r, l, j => by
    simp only [insAll, look_ins, look_insAll r l j, look]
    cases h : (i == j) with
    | true =>
      have : i = j := by simpa using h
      simp [this]
    | false =>
      have : i ≠ j := by simpa using h
      simp [this]

def meets (D l : List Nat) : Bool := l.any fun i => D.contains i
theorem meets_false {D l : List Nat} (h : meets D l = false) : ∀ i ∈ l, i ∉ D := by
  intro i hi hd
  have := List.any_eq_false.1 h i hi
  exact this (List.contains_iff_mem.2 hd)

/-- Values that look into D, or name what of D has not stayed, are no longer known. -/
def killD (D U : List Nat) (r : RV N) : RV N := bif meets D r.bs || meets U r.refs then .undef else r
def killDB (D U : List Nat) (b : Blk N) : Blk N := b.map (killD D U) (fun l => l)

def noBsD (own : List (Nat × Blk N)) (D : List Nat) : Bool :=
  own.all fun p => D.contains p.1 || match p.2 with
    | .cells _ => true
    | b => !meets D b.bs

theorem noBsD_spec {own : List (Nat × Blk N)} {D : List Nat} (h : noBsD own D = true) : ∀ j bj, look own j = some bj → j ∉ D → (∃ l, bj = .cells l) ∨ ∀ i ∈ bj.bs, i ∉ D := by
  intro j bj hj hne
  have := List.all_eq_true.1 h _ (look_mem hj)
  have hc : D.contains j = false := by
    cases hh : D.contains j with
    | false => rfl
    | true => exact absurd (List.contains_iff_mem.1 hh) hne
  simp only [Bool.or_eq_true, hc, Bool.false_eq_true, false_or] at this
  cases bj with
  | cells l => exact .inl ⟨l, rfl⟩
  | mapB kt vt es => exact .inr (fun i hi => by cases hi)
  | row e t xs bs p => exact .inr (meets_false (by simpa [Blk.bs] using this))
  | whole t x bs => exact .inr (meets_false (by simpa [Blk.bs] using this))

/-- The world is the old one but for new blocks and the blocks of D. -/
structure HavocW (own : List (Nat × Blk N)) (E : Env) (D : List Nat) (w w' : World) : Prop where
  os : w'.os = w.os
  tape : w'.tape = w.tape
  output : w'.output = w.output
  size : w.heap.size ≤ w'.heap.size
  block : ∀ g, g < w.heap.size → (∀ id ∈ D, (look own id).isSome = true → blkOf (E id) ≠ some g) → w'.heap[g]? = w.heap[g]?

def envOf (E : Env) (new : List (Nat × Blk N)) (V : Nat → Value) : Env := { E with val := fun i => if (look new i).isSome then V i else E i }

theorem envOf_new {new : List (Nat × Blk N)} {V : Nat → Value} {i : Nat} {b : Blk N} (h : look new i = some b) : envOf E new V i = V i := by simp [envOf, h]
theorem envOf_old {new : List (Nat × Blk N)} {V : Nat → Value} {i : Nat} (h : look new i = none) : envOf E new V i = E i := by simp [envOf, h]

/-- What is told of the new entries. -/
structure NewOk (own : List (Nat × Blk N)) (E : Env) (D U : List Nat) (new : List (Nat × Blk N)) (V : Nat → Value) (w w' : World) : Prop where
  blk : ∀ id b, look new id = some b → ∀ g, blkOf (V id) = some g → g < w'.heap.size ∧ ((∃ d ∈ D, (look own d).isSome = true ∧ blkOf (E d) = some g) ∨ w.heap.size ≤ g)
  sep : ∀ id id' b b', look new id = some b → look new id' = some b' → id ≠ id' → ∀ g, blkOf (V id) = some g → blkOf (V id') ≠ some g
  fresh : ∀ id b, look new id = some b → id ∈ D ∨ look own id = none
  stay : ∀ id ∈ D, id ∉ U → ∀ b, look own id = some b → ∃ b', look new id = some b' ∧ sameShape b b' ∧ V id = E id ∧ (b.pinned = true → b'.pinned = true)
  moved : ∀ id ∈ U, ∀ b, look own id = some b → b.pinned = false

theorem RelE.havoc (h : RelE io w0 σ E a w) {D U : List Nat} {new : List (Nat × Blk N)} {V : Nat → Value} (hw : HavocW σ.own E D w w') (hn : NewOk σ.own E D U new V w w')
    (hno : ∀ j bj, look σ.own j = some bj → j ∉ D → (∃ l, bj = .cells l) ∨ ∀ i ∈ bj.bs, i ∉ D)
    (hb' : ∀ id b, look new id = some b → BlkRel w' (insAll new (delL D (mapO (killDB D U) σ.own))) (envOf E new V) id b) :
    RelE io w0 { regs := σ.regs.map (Slot.map (killD D U)), own := insAll new (delL D (mapO (killDB D U) σ.own)) } (envOf E new V) a w' := by
  have hlook : ∀ j, look (insAll new (delL D (mapO (killDB D U) σ.own))) j = match look new j with
      | some b => some b
      | none => if j ∈ D then none else (look σ.own j).map (killDB D U) := by
    intro j
    rw [look_insAll, look_delL, look_mapO]
    cases look new j <;> rfl
  have hold : ∀ j b, look new j = none → look (insAll new (delL D (mapO (killDB D U) σ.own))) j = some b → j ∉ D ∧ ∃ b0, look σ.own j = some b0 ∧ b = killDB D U b0 := by
    intro j b hnj hj
    rw [hlook, hnj] at hj
    simp only at hj
    by_cases hd : j ∈ D
    · rw [if_pos hd] at hj; cases hj
    · rw [if_neg hd] at hj
      obtain ⟨b0, hb0, rfl⟩ := Option.map_eq_some_iff.1 hj
      exact ⟨hd, b0, hb0, rfl⟩
  -- blocks of D
  have hDblk : ∀ d ∈ D, (look σ.own d).isSome = true → ∀ g, blkOf (E d) = some g → g < w.heap.size ∧ (w0.heap.size ≤ g ∨ io.p g) := by
    intro d _ hs g hg
    obtain ⟨b, hb⟩ := Option.isSome_iff_exists.1 hs
    exact h.blk d b hb g hg
  have hok : ∀ bs, (∀ i ∈ bs, i ∉ D) → ∀ g, okb w.heap.size σ.own E bs g → okb w'.heap.size (insAll new (delL D (mapO (killDB D U) σ.own))) (envOf E new V) bs g := by
    intro bs hbs g hg
    refine ⟨⟨Nat.lt_of_lt_of_le hg.1.1 hw.size, hg.1.2⟩, fun j hj hjb => ?_⟩
    cases hnj : look new j with
    | some b =>
      rw [envOf_new hnj]
      intro hgv
      rcases (hn.blk j b hnj g hgv).2 with ⟨d, hd, hs, hg2⟩ | h3
      · exact hg.2 d hs (fun hm => hbs d hm hd) hg2
      · have := hg.1.1
        omega
    | none =>
      rw [envOf_old hnj]
      obtain ⟨b, hb⟩ := Option.isSome_iff_exists.1 hj
      obtain ⟨_, b0, hb0, _⟩ := hold j b hnj hb
      exact hg.2 j (by rw [hb0]; rfl) hjb
  have hcell : ∀ bs, (∀ i ∈ bs, i ∉ D) → ∀ (a : Addr) u, okb w.heap.size σ.own E bs a.block → w.cell? a = some u → w'.cell? a = some u := by
    intro bs hbs a u hg hc
    refine (World.cell?_of_block (w := w) (hw.block _ hg.1.1 (fun d hd hs => ?_))).trans hc
    exact hg.2 d hs (fun hm => hbs d hm hd)
  have hrow : ∀ j n t, j ∉ U → isRow σ.own j n t → isRow (insAll new (delL D (mapO (killDB D U) σ.own))) j n t ∧ envOf E new V j = E j := by
    intro j n t hju hj
    obtain ⟨b, hb⟩ := isRow_some hj
    by_cases hd : j ∈ D
    · obtain ⟨b', h1, h2, h3, _⟩ := hn.stay j hd hju b hb
      refine ⟨?_, by rw [envOf_new h1, h3]⟩
      obtain ⟨e, xs, bs, p, k1, k2⟩ := hj
      rw [k1] at hb
      cases hb
      cases b' with
      | row e' t' xs' bs' p' =>
        obtain ⟨rfl, hl⟩ := h2
        exact ⟨e', xs', bs', p', by rw [hlook, h1], by omega⟩
      | whole t x bs => exact h2.elim
      | cells l => exact h2.elim
      | mapB kt vt es => exact h2.elim
    · have hnj : look new j = none := by
        cases hl : look new j with
        | none => rfl
        | some b' =>
          rcases hn.fresh j b' hl with h1 | h1
          · exact absurd h1 hd
          · rw [hb] at h1; cases h1
      obtain ⟨e, xs, bs, p, k1, k2⟩ := hj
      exact ⟨⟨e, xs, bs, p, by rw [hlook, hnj]; simp [hd, k1, killDB, Blk.map], k2⟩, envOf_old hnj⟩
  have hbox : ∀ j, j ∉ U → isBox σ.own j → isBox (insAll new (delL D (mapO (killDB D U) σ.own))) j ∧ envOf E new V j = E j := by
    intro j hju hj
    obtain ⟨b, hb⟩ := isBox_some hj
    by_cases hd : j ∈ D
    · obtain ⟨b', h1, h2, h3, _⟩ := hn.stay j hd hju b hb
      refine ⟨?_, by rw [envOf_new h1, h3]⟩
      cases b' with
      | row e' t' xs' bs' p' =>
        rcases hj with ⟨t, x, bs, k1⟩ | ⟨l, k1⟩ | ⟨kt, vt, es, k1⟩ <;> (rw [k1] at hb; cases hb; exact h2.elim)
      | whole t x bs => exact .inl ⟨t, x, bs, by rw [hlook, h1]⟩
      | cells l => exact .inr (.inl ⟨l, by rw [hlook, h1]⟩)
      | mapB kt vt es => exact .inr (.inr ⟨kt, vt, es, by rw [hlook, h1]⟩)
    · have hnj : look new j = none := by
        cases hl : look new j with
        | none => rfl
        | some b' =>
          rcases hn.fresh j b' hl with h1 | h1
          · exact absurd h1 hd
          · rw [hb] at h1; cases h1
      refine ⟨?_, envOf_old hnj⟩
      rcases hj with ⟨t, x, bs, k1⟩ | ⟨l, k1⟩ | ⟨kt, vt, es, k1⟩
      · exact .inl ⟨t, x, bs, by rw [hlook, hnj]; simp [hd, k1, killDB, Blk.map]⟩
      · exact .inr (.inl ⟨l.map (killD D U), by rw [hlook, hnj]; simp [hd, k1, killDB, Blk.map]⟩)
      · exact .inr (.inr ⟨kt, vt, es, by rw [hlook, hnj]; simp [hd, k1, killDB, Blk.map]⟩)
  have hkill : ∀ r v, RVRel w σ.own E r v → RVRel w' (insAll new (delL D (mapO (killDB D U) σ.own))) (envOf E new V) (killD D U r) v := by
    intro r v h
    unfold killD
    cases hc : (meets D r.bs || meets U r.refs) with
    | true => trivial
    | false =>
      rw [Bool.or_eq_false_iff] at hc
      have h1 := meets_false hc.1
      have h2 := meets_false hc.2
      refine RVRel_mono ?_ ?_ ?_ ?_ h
      · intro bs hbs a u
        cases r <;> first | exact hbs.elim | (subst hbs; exact hcell _ h1 a u)
      · intro bs hbs g
        cases r <;> first | exact hbs.elim | (subst hbs; exact hok _ h1 g)
      · intro j n t hj hr
        cases r <;> first | exact hj.elim | (subst hj; exact hrow _ n t (h2 _ (by simp [RV.refs])) hr)
      · intro j hj hr
        cases r <;> first | exact hj.elim | (subst hj; exact hbox _ (h2 _ (by simp [RV.refs])) hr) | exact hbox j (h2 j hj) hr
  have hblock : ∀ j bj, look σ.own j = some bj → j ∉ D → ∀ g, blkOf (E j) = some g → w'.heap[g]? = w.heap[g]? := by
    intro j bj hj hjd g hg
    refine hw.block g (h.blk j bj hj g hg).1 (fun d hd hs hg2 => ?_)
    obtain ⟨bd, hbd⟩ := Option.isSome_iff_exists.1 hs
    exact h.sep j d bj bd hj hbd (fun e => hjd (e ▸ hd)) g hg hg2
  refine ⟨?_, by simpa using h.size, h.defers, ?_, ?_, ?_, ?_, h.sc, h.nw, fun i hi => by
    obtain ⟨b0, h1, h2, h3⟩ := h.fx i hi
    have hiu : i ∉ U := fun hu => by rw [hn.moved i hu b0 h1] at h3; cases h3
    by_cases hd : i ∈ D
    · obtain ⟨b', k1, k2, k3, k4⟩ := hn.stay i hd hiu b0 h1
      exact ⟨b', by rw [hlook, k1], by rw [envOf_new k1, k3]; exact h2, k4 h3⟩
    · have hni : look new i = none := by
        cases hl : look new i with
        | none => rfl
        | some b' =>
          rcases hn.fresh i b' hl with h4 | h4
          · exact absurd h4 hd
          · rw [h1] at h4; cases h4
      refine ⟨killDB D U b0, by rw [hlook, hni]; simp [hd, h1], by rw [envOf_old hni]; exact h2, ?_⟩
      cases b0 <;> exact h3⟩
  · refine ⟨hw.os.trans h.kept.os, hw.tape.trans h.kept.tape, hw.output.trans h.kept.output, Nat.le_trans h.kept.size hw.size, fun g hg hi => ?_⟩
    rw [hw.block g (Nat.lt_of_lt_of_le hg h.kept.size) (fun d hd hs hg2 => ?_)]
    · exact h.kept.block g hg hi
    · rcases (hDblk d hd hs g hg2).2 with h3 | h3
      · omega
      · exact hi h3
  · intro t s hs
    simp only [List.getElem?_map] at hs
    obtain ⟨s0, hs0, rfl⟩ := Option.map_eq_some_iff.1 hs
    exact SlotRel_map hkill (h.regs t s0 hs0)
  · intro j bj hj
    simp only at hj ⊢
    cases hnj : look new j with
    | some b =>
      rw [hlook, hnj] at hj
      cases hj
      exact hb' j _ hnj
    | none =>
      obtain ⟨hjd, b0, hb0, rfl⟩ := hold j bj hnj hj
      have hE := envOf_old (E := E) (V := V) hnj
      have hbk := hblock j b0 hb0 hjd
      have hol := h.own j b0 hb0
      have hno' := hno j b0 hb0 hjd
      cases b0 with
      | row e t xs bs p =>
        have hbs : ∀ i ∈ bs, i ∉ D := by
          rcases hno' with ⟨l, hl⟩ | hl
          · cases hl
          · exact hl
        obtain ⟨cells, k1, k2⟩ := hol
        refine ⟨cells, ?_, RowC_mono (fun x cs hx => Rep_mono (hcell bs hbs) (hok bs hbs) hx) k2⟩
        rw [hE]
        refine ⟨k1.1, ?_⟩
        rcases k1.2 with hn | ⟨g, cap, cur, hv, hbg, hg, rest⟩
        · exact .inl hn
        · refine .inr ⟨g, cap, cur, hv, hbg, ?_, rest⟩
          rw [hbk g (by rw [hv]; rfl)]
          exact hg
      | whole t x bs =>
        have hbs : ∀ i ∈ bs, i ∉ D := by
          rcases hno' with ⟨l, hl⟩ | hl
          · cases hl
          · exact hl
        obtain ⟨g, T, arr, k1, k2, k3⟩ := hol
        refine ⟨g, T, arr, hE.trans k1, ?_, Rep_mono (hcell bs hbs) (hok bs hbs) k3⟩
        rw [hbk g (by rw [k1]; rfl)]
        exact k2
      | cells l =>
        obtain ⟨g, T, arr, k1, k2, k3, k4⟩ := hol
        refine ⟨g, T, arr, hE.trans k1, ?_, by simpa using k3, fun i r u hr hu => ?_⟩
        · rw [hbk g (by rw [k1]; rfl)]
          exact k2
        · simp only [List.getElem?_map] at hr
          obtain ⟨r0, hr0, rfl⟩ := Option.map_eq_some_iff.1 hr
          exact hkill _ _ (k4 i r0 u hr0 hu)
      | mapB kt vt es =>
        obtain ⟨g, arr, clock, k1, k2, k3⟩ := hol
        refine ⟨g, arr, clock, hE.trans k1, ?_, k3⟩
        rw [hbk g (by rw [k1]; rfl)]
        exact k2
  · intro j bj hj g hg
    simp only at hj
    cases hnj : look new j with
    | some b =>
      rw [envOf_new hnj] at hg
      obtain ⟨h4, h3⟩ := hn.blk j b hnj g hg
      refine ⟨h4, ?_⟩
      rcases h3 with ⟨d, hd, hs, hg2⟩ | h3
      · exact (hDblk d hd hs g hg2).2
      · exact .inl (Nat.le_trans h.kept.size h3)
    | none =>
      rw [envOf_old hnj] at hg
      obtain ⟨hjd, b0, hb0, _⟩ := hold j bj hnj hj
      exact ⟨Nat.lt_of_lt_of_le (h.blk j b0 hb0 g hg).1 hw.size, (h.blk j b0 hb0 g hg).2⟩
  · intro i j b1 b2 h1 h2 hij g hg hg2
    simp only at h1 h2
    have cross : ∀ i j bi bj, look new i = some bi → look new j = none → look (insAll new (delL D (mapO (killDB D U) σ.own))) j = some bj → ∀ g, blkOf (V i) = some g → blkOf (E j) = some g → False := by
      intro i j bi bj hi hj hjl g hg hg2
      obtain ⟨hjd, b0, hb0, _⟩ := hold j bj hj hjl
      rcases (hn.blk i bi hi g hg).2 with ⟨d, hd, hs, hg3⟩ | h3
      · obtain ⟨bd, hbd⟩ := Option.isSome_iff_exists.1 hs
        exact h.sep d j bd b0 hbd hb0 (fun e => hjd (e ▸ hd)) g hg3 hg2
      · have := (h.blk j b0 hb0 g hg2).1
        omega
    cases hni : look new i with
    | some bi =>
      rw [envOf_new hni] at hg
      cases hnj : look new j with
      | some bj =>
        rw [envOf_new hnj] at hg2
        exact hn.sep i j bi bj hni hnj hij g hg hg2
      | none =>
        rw [envOf_old hnj] at hg2
        exact cross i j bi b2 hni hnj h2 g hg hg2
    | none =>
      rw [envOf_old hni] at hg
      cases hnj : look new j with
      | some bj =>
        rw [envOf_new hnj] at hg2
        exact cross j i bj b1 hnj hni h1 g hg2 hg
      | none =>
        rw [envOf_old hnj] at hg2
        obtain ⟨_, b3, hb3, _⟩ := hold i b1 hni h1
        obtain ⟨_, b4, hb4, _⟩ := hold j b2 hnj h2
        exact h.sep i j b3 b4 hb3 hb4 hij g hg hg2

end Go.Eng
