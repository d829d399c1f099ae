/- The engine, part F: a block that is written in place; blocks dropped and renamed; what is no longer wanted is forgotten. -/
import Derived.Test.YtgfklnmckakclaaGreatDoorEngE
set_option linter.unusedVariables false
namespace Go.Eng
variable {N : Names} {io : Io} {w0 w w' : World} {σ : St N} {E : Env} {a : Act}

/-- Both are rows of one type and length, or both are boxes. -/
def sameShape : Blk N → Blk N → Prop
  | .row e t xs _ _, .row e' t' xs' _ _ => t = t' ∧ xs.length = xs'.length
  | .row .., _ => False
  | _, .row .. => False
  | _, _ => True

theorem isRow_shape {own : List (Nat × Blk N)} {id : Nat} {b b' : Blk N} (hb : look own id = some b) (hs : sameShape b b') {j n : Nat} {t : Ty} (h : isRow own j n t) : isRow (ins id b' own) j n t := by
  by_cases hj : j = id
  · subst hj
    obtain ⟨e, xs, bs, p, k1, k2⟩ := h
    rw [hb] at k1
    cases k1
    cases b' with
    | row e' t' xs' bs' p' =>
      obtain ⟨rfl, hl⟩ := hs
      exact ⟨e', xs', bs', p', by rw [look_ins, if_pos rfl], by omega⟩
    | whole t x bs => exact hs.elim
    | cells l => exact hs.elim
    | mapB kt vt es => exact hs.elim
  · exact isRow_ins hj h

theorem isBox_shape {own : List (Nat × Blk N)} {id : Nat} {b b' : Blk N} (hb : look own id = some b) (hs : sameShape b b') {j : Nat} (h : isBox own j) : isBox (ins id b' own) j := by
  by_cases hj : j = id
  · subst hj
    have hl : look (ins j b' own) j = some b' := by rw [look_ins, if_pos rfl]
    cases b' with
    | row e' t' xs' bs' p' =>
      rcases h with ⟨t, x, bs, k1⟩ | ⟨l, k1⟩ | ⟨kt, vt, es, k1⟩ <;> (rw [hb] at k1; cases k1; exact hs.elim)
    | whole t x bs => exact .inl ⟨t, x, bs, hl⟩
    | cells l => exact .inr (.inl ⟨l, hl⟩)
    | mapB kt vt es => exact .inr (.inr ⟨kt, vt, es, hl⟩)
  · exact isBox_ins hj h

/-- Block id is written in place. -/
theorem RelE.store (h : RelE io w0 σ E a w) {id : Nat} {b b' : Blk N} (hb : look σ.own id = some b) (hs : sameShape b b') (hpin : b.pinned = true → b'.pinned = true) (hw : w.grownBy w' (blkOf (E id)))
    (hno : ∀ j bj, look σ.own j = some bj → j ≠ id → id ∉ bj.bs) (hb' : BlkRel w' (ins id b' σ.own) E id b') :
    RelE io w0 { regs := σ.regs.map (Slot.map (scrub id)), own := ins id b' σ.own } E a w' := by
  have hsome : ∀ j, (look (ins id b' σ.own) j).isSome = (look σ.own j).isSome := by
    intro j
    rw [look_ins]
    split
    · rename_i e; subst e; rw [hb]; rfl
    · rfl
  have hok : ∀ bs g, okb w.heap.size σ.own E bs g → okb w'.heap.size (ins id b' σ.own) E bs g := fun bs g hg =>
    ⟨⟨Nat.lt_of_lt_of_le hg.1.1 hw.size, hg.1.2⟩, fun j hj hjb => hg.2 j (by rw [← hsome]; exact hj) hjb⟩
  have hcell : ∀ bs, id ∉ bs → ∀ (a : Addr) u, okb w.heap.size σ.own E bs a.block → w.cell? a = some u → w'.cell? a = some u :=
    fun bs hbs a u hg hc => cell_grown hw (hg.2 id (by rw [hb]; rfl) hbs) hc
  have hrv : ∀ r v, id ∉ r.bs → RVRel w σ.own E r v → RVRel w' (ins id b' σ.own) E r v := by
    intro r v hr h
    refine RVRel_mono ?_ ?_ (fun j n t _ hj => ⟨isRow_shape hb hs hj, rfl⟩) (fun j _ hj => ⟨isBox_shape hb hs hj, rfl⟩) h
    · intro bs hbs a u
      cases r <;> first | exact hbs.elim | (subst hbs; exact hcell _ hr a u)
    · intro bs hbs g
      exact hok bs g
  have hscrub : ∀ r v, RVRel w σ.own E r v → RVRel w' (ins id b' σ.own) E (scrub id r) v := by
    intro r v h
    unfold scrub
    cases hc : r.bs.contains id with
    | true => trivial
    | false => exact hrv r v (contains_false hc) h
  have hblock : ∀ j bj, look σ.own j = some bj → j ≠ id → ∀ g, blkOf (E j) = some g → w'.heap[g]? = w.heap[g]? :=
    fun j bj hj hji g hg => hw.block g (h.blk j bj hj g hg).1 (fun e => h.sep j id bj b hj hb hji g hg e.symm)
  have key : ∀ j bj, look (ins id b' σ.own) j = some bj → ∃ b0, look σ.own j = some b0 := by
    intro j bj hj
    have := hsome j
    rw [hj] at this
    cases hl : look σ.own j with
    | none => rw [hl] at this; cases this
    | some b0 => exact ⟨b0, rfl⟩
  refine ⟨?_, by simpa using h.size, h.defers, ?_, ?_, ?_, ?_, h.sc, h.nw, fun i hi => by
    obtain ⟨b0, h1, h2, h3⟩ := h.fx i hi
    by_cases hne : id = i
    · subst hne
      rw [hb] at h1
      cases h1
      exact ⟨b', by simp only [look_ins, if_true], h2, hpin h3⟩
    · exact ⟨b0, by simp only [look_ins, if_neg hne]; exact h1, h2, h3⟩⟩
  · refine ⟨hw.os.trans h.kept.os, hw.tape.trans h.kept.tape, hw.output.trans h.kept.output, Nat.le_trans h.kept.size hw.size, fun g hg hi => ?_⟩
    rw [hw.block g (Nat.lt_of_lt_of_le hg h.kept.size) (fun e => ?_)]
    · exact h.kept.block g hg hi
    · rcases (h.blk id b hb g e.symm).2 with h3 | h3
      · omega
      · exact hi h3
  · intro t s hs'
    simp only [List.getElem?_map] at hs'
    obtain ⟨s0, hs0, rfl⟩ := Option.map_eq_some_iff.1 hs'
    exact SlotRel_map hscrub (h.regs t s0 hs0)
  · intro j bj hj
    simp only at hj ⊢
    by_cases hji : id = j
    · subst hji
      rw [look_ins, if_pos rfl] at hj
      cases hj
      exact hb'
    · rw [look_ins, if_neg hji] at hj
      have hbs := hno j bj hj (Ne.symm hji)
      have hbk := hblock j bj hj (Ne.symm hji)
      have hold := h.own j bj hj
      cases bj with
      | row e t xs bs p =>
        obtain ⟨cells, k1, k2⟩ := hold
        refine ⟨cells, ⟨k1.1, ?_⟩, RowC_mono (fun x cs hx => Rep_mono (hcell bs hbs) (hok bs) hx) k2⟩
        rcases k1.2 with hn | ⟨g, cap, cur, hv, hbg, hg, rest⟩
        · exact .inl hn
        · refine .inr ⟨g, cap, cur, hv, hbg, ?_, rest⟩
          rw [hbk g (by rw [hv]; rfl)]
          exact hg
      | whole t x bs =>
        obtain ⟨g, T, arr, k1, k2, k3⟩ := hold
        refine ⟨g, T, arr, k1, ?_, Rep_mono (hcell bs hbs) (hok bs) k3⟩
        rw [hbk g (by rw [k1]; rfl)]
        exact k2
      | cells l =>
        obtain ⟨g, T, arr, k1, k2, k3, k4⟩ := hold
        refine ⟨g, T, arr, k1, ?_, k3, fun i r u hr hu => hrv r u (fun hm => hbs ?_) (k4 i r u hr hu)⟩
        · rw [hbk g (by rw [k1]; rfl)]
          exact k2
        · exact List.mem_flatMap.2 ⟨r, List.mem_of_getElem? hr, hm⟩
      | mapB kt vt es =>
        obtain ⟨g, arr, clock, k1, k2, k3⟩ := hold
        refine ⟨g, arr, clock, k1, ?_, k3⟩
        rw [hbk g (by rw [k1]; rfl)]
        exact k2
  · intro j bj hj g hg
    obtain ⟨b0, hb0⟩ := key j bj hj
    exact ⟨Nat.lt_of_lt_of_le (h.blk j b0 hb0 g hg).1 hw.size, (h.blk j b0 hb0 g hg).2⟩
  · intro i j b1 b2 h1 h2 hij g hg
    obtain ⟨b3, hb3⟩ := key i b1 h1
    obtain ⟨b4, hb4⟩ := key j b2 h2
    exact h.sep i j b3 b4 hb3 hb4 hij g hg

/-- Every value is turned by f, every block by (f, g); the names and blocks that are left are told by own'. -/
theorem RelE.remap (h : RelE io w0 σ E a w) {f : RV N → RV N} {g : List Nat → List Nat} {own' : List (Nat × Blk N)} {E' : Env} (hA : E'.A = E.A) (hfx : ∀ i ∈ io.ids, ∀ b, look σ.own i = some b → look own' i = some (b.map f g) ∧ E' i = E i) (back : Nat → Nat)
    (hback : ∀ j b', look own' j = some b' → ∃ b, look σ.own (back j) = some b ∧ b' = b.map f g ∧ E' j = E (back j))
    (hinj : ∀ i j b1 b2, look own' i = some b1 → look own' j = some b2 → i ≠ j → back i ≠ back j)
    (hok : ∀ bs b, okb w.heap.size σ.own E bs b → okb w.heap.size own' E' (g bs) b)
    (hf : ∀ r v, (∃ (t : Nat) (s : Slot N), σ.regs[t]? = some s ∧ (s = Slot.one r ∨ ∃ l, s = Slot.tup l ∧ r ∈ l)) ∨ (∃ j l, look σ.own j = some (.cells l) ∧ r ∈ l) → RVRel w σ.own E r v → RVRel w own' E' (f r) v) :
    RelE io w0 { regs := σ.regs.map (Slot.map f), own := own' } E' a w := by
  refine ⟨h.kept, by simpa using h.size, h.defers, ?_, ?_, ?_, ?_, hA.trans h.sc, h.nw, fun i hi => by
    obtain ⟨b0, h1, h2, h3⟩ := h.fx i hi
    obtain ⟨h4, h5⟩ := hfx i hi b0 h1
    refine ⟨b0.map f g, h4, h5.trans h2, ?_⟩
    cases b0 <;> exact h3⟩
  · intro t s hs
    simp only [List.getElem?_map] at hs
    obtain ⟨s0, hs0, rfl⟩ := Option.map_eq_some_iff.1 hs
    have h0 := h.regs t s0 hs0
    cases s0 with
    | one r => exact hf r _ (.inl ⟨t, _, hs0, .inl rfl⟩) h0
    | tup l =>
      obtain ⟨vs, h1, h2, h3⟩ := h0
      refine ⟨vs, h1, by simpa using h2, fun i r u hr hu => ?_⟩
      rw [List.getElem?_map] at hr
      obtain ⟨r0, hr0, rfl⟩ := Option.map_eq_some_iff.1 hr
      exact hf _ _ (.inl ⟨t, _, hs0, .inr ⟨l, rfl, List.mem_of_getElem? hr0⟩⟩) (h3 i r0 u hr0 hu)
  · intro j b' hj
    obtain ⟨b, hb, rfl, hE⟩ := hback j b' hj
    have hold := h.own (back j) b hb
    cases b with
    | row e t xs bs p =>
      obtain ⟨cells, k1, k2⟩ := hold
      exact ⟨cells, by rw [hE]; exact k1, RowC_mono (fun x cs hx => Rep_mono (fun _ _ _ h => h) (hok bs) hx) k2⟩
    | whole t x bs =>
      obtain ⟨g', T, arr, k1, k2, k3⟩ := hold
      exact ⟨g', T, arr, hE.trans k1, k2, Rep_mono (fun _ _ _ h => h) (hok bs) k3⟩
    | cells l =>
      obtain ⟨g', T, arr, k1, k2, k3, k4⟩ := hold
      refine ⟨g', T, arr, hE.trans k1, k2, by simpa using k3, fun i r u hr hu => ?_⟩
      simp only [List.getElem?_map] at hr
      obtain ⟨r0, hr0, rfl⟩ := Option.map_eq_some_iff.1 hr
      exact hf _ _ (.inr ⟨back j, l, hb, List.mem_of_getElem? hr0⟩) (k4 i r0 u hr0 hu)
    | mapB kt vt es =>
      obtain ⟨g', arr, clock, k1, k2, k3⟩ := hold
      exact ⟨g', arr, clock, hE.trans k1, k2, k3⟩
  · intro j b' hj g' hg
    obtain ⟨b, hb, _, hE⟩ := hback j b' hj
    rw [hE] at hg
    exact h.blk (back j) b hb g' hg
  · intro i j b1 b2 h1 h2 hij g' hg hg2
    obtain ⟨b3, hb3, _, hE3⟩ := hback i b1 h1
    obtain ⟨b4, hb4, _, hE4⟩ := hback j b2 h2
    rw [hE3] at hg
    rw [hE4] at hg2
    exact h.sep (back i) (back j) b3 b4 hb3 hb4 (hinj i j b1 b2 h1 h2 hij) g' hg hg2

/-- A register that is no longer wanted. -/
theorem RelE.forget (h : RelE io w0 σ E a w) (d : Nat) : RelE io w0 (σ.putS d (.one .undef)) E a w := by
  refine ⟨h.kept, by simpa [St.putS] using h.size, h.defers, ?_, h.own, h.blk, h.sep, h.sc, h.nw, h.fx⟩
  intro t s hs
  simp only [St.putS] at hs
  rw [List.getElem?_set] at hs
  by_cases hd : d = t
  · subst hd
    rw [if_pos rfl] at hs
    split at hs
    · cases hs; trivial
    · cases hs
  · rw [if_neg hd] at hs
    exact h.regs t s hs

def forgetTo (keep : List Nat) : Nat → List (Slot N) → List (Slot N)
  | _, [] => []
  | i, s :: r => (bif keep.contains i then s else .one .undef) :: forgetTo keep (i + 1) r

theorem forgetTo_get (keep : List Nat) : ∀ (l : List (Slot N)) (i t : Nat) s, (forgetTo keep i l)[t]? = some s → l[t]? = some s ∨ (s = .one .undef ∧ t < l.length)
  | [], i, t, s, h => by simp [forgetTo] at h
  | x :: r, i, 0, s, h => by
    simp only [forgetTo, List.getElem?_cons_zero, Option.some.injEq] at h
    cases hk : keep.contains i with
    | true => rw [hk] at h; exact .inl (by simpa using h)
    | false => rw [hk] at h; exact .inr ⟨h.symm, by simp⟩
  | x :: r, i, t + 1, s, h => by
    simp only [forgetTo, List.getElem?_cons_succ] at h
    rcases forgetTo_get keep r (i + 1) t s h with h | ⟨h, hl⟩
    · exact .inl (by simpa using h)
    · exact .inr ⟨h, by simpa using hl⟩

theorem forgetTo_length (keep : List Nat) : ∀ (l : List (Slot N)) (i : Nat), (forgetTo keep i l).length = l.length
  | [], i => rfl
  | x :: r, i => by simp [forgetTo, forgetTo_length keep r (i + 1)]

theorem RelE.forgetTo (h : RelE io w0 σ E a w) (keep : List Nat) : RelE io w0 { σ with regs := forgetTo keep 0 σ.regs } E a w := by
  refine ⟨h.kept, by simpa [forgetTo_length] using h.size, h.defers, ?_, h.own, h.blk, h.sep, h.sc, h.nw, h.fx⟩
  intro t s hs
  rcases forgetTo_get keep σ.regs 0 t s hs with h1 | ⟨rfl, _⟩
  · exact h.regs t s h1
  · trivial

/-! Dropping and renaming. -/
def er (id : Nat) (l : List Nat) : List Nat := l.filter fun i => !(i == id)
def Slot.refs : Slot N → List Nat
  | .one r => r.refs
  | .tup l => l.flatMap RV.refs
def refsOf (σ : St N) : List Nat := σ.regs.flatMap Slot.refs ++ σ.own.flatMap fun p => p.2.refs

def dropOne (pins : List Nat) (id : Nat) (σ : St N) : St N :=
  bif pins.contains id || (refsOf σ).contains id then σ else { regs := σ.regs.map (Slot.map (RV.mapBs (er id))), own := del id (mapO (Blk.map (RV.mapBs (er id)) (er id)) σ.own) }

theorem look_mem {β : Type} : ∀ {l : List (Nat × β)} {j : Nat} {b : β}, look l j = some b → (j, b) ∈ l
  | [], _, _, h => by cases h
  | (k, v) :: r, j, b, h => by
    unfold look at h
    cases hk : (k == j) with
    | true =>
      rw [hk] at h
      have : k = j := by simpa using hk
      subst this
      cases h
      exact List.mem_cons_self
    | false =>
      rw [hk] at h
      exact List.mem_cons_of_mem _ (look_mem h)

theorem mem_refsOf {id : Nat} {r : RV N} (h : (∃ (t : Nat) (s : Slot N), σ.regs[t]? = some s ∧ (s = Slot.one r ∨ ∃ l, s = Slot.tup l ∧ r ∈ l)) ∨ (∃ j l, look σ.own j = some (.cells l) ∧ r ∈ l)) (hr : id ∈ r.refs) : id ∈ refsOf σ := by
  unfold refsOf
  rw [List.mem_append]
  rcases h with ⟨t, s, hs, h⟩ | ⟨j, l, hj, h⟩
  · refine .inl (List.mem_flatMap.2 ⟨s, List.mem_of_getElem? hs, ?_⟩)
    rcases h with rfl | ⟨l, rfl, h⟩
    · exact hr
    · exact List.mem_flatMap.2 ⟨r, h, hr⟩
  · exact .inr (List.mem_flatMap.2 ⟨_, look_mem hj, List.mem_flatMap.2 ⟨r, h, hr⟩⟩)

theorem RelE.dropOne (h : RelE io w0 σ E a w) (id : Nat) : RelE io w0 (dropOne io.ids id σ) E a w := by
  unfold Eng.dropOne
  cases hc : (io.ids.contains id || (refsOf σ).contains id) with
  | true => exact h
  | false =>
    rw [Bool.or_eq_false_iff] at hc
    have hno := contains_false hc.2
    have hnp := contains_false hc.1
    have hlook : ∀ j, look (del id (mapO (Blk.map (RV.mapBs (er id)) (er id)) σ.own)) j = if id = j then none else (look σ.own j).map (Blk.map (RV.mapBs (er id)) (er id)) := by
      intro j; rw [look_del, look_mapO]
    have hok : ∀ bs b, okb w.heap.size σ.own E bs b → okb w.heap.size (del id (mapO (Blk.map (RV.mapBs (er id)) (er id)) σ.own)) E (er id bs) b := by
      intro bs b hb
      refine ⟨hb.1, fun j hj hjb => ?_⟩
      rw [hlook] at hj
      by_cases hji : id = j
      · rw [if_pos hji] at hj; cases hj
      · rw [if_neg hji] at hj
        refine hb.2 j (by cases hl : look σ.own j with | none => rw [hl] at hj; cases hj | some _ => rfl) (fun hm => hjb ?_)
        exact List.mem_filter.2 ⟨hm, by simpa using Ne.symm hji⟩
    refine h.remap (f := RV.mapBs (er id)) (g := er id) rfl (fun i hi b hb => ⟨by rw [hlook, if_neg (fun e : id = i => hnp (e ▸ hi)), hb]; rfl, rfl⟩) (fun j => j) ?_ (fun i j _ _ _ _ hij => hij) hok ?_
    · intro j b' hj
      rw [hlook] at hj
      by_cases hji : id = j
      · rw [if_pos hji] at hj; cases hj
      · rw [if_neg hji] at hj
        obtain ⟨b, hb, rfl⟩ := Option.map_eq_some_iff.1 hj
        exact ⟨b, hb, rfl, rfl⟩
    · intro r v hocc hr
      have hnr : id ∉ r.refs := fun hm => hno (mem_refsOf hocc hm)
      have hrow : ∀ j n t, id ≠ j → isRow σ.own j n t → isRow (del id (mapO (Blk.map (RV.mapBs (er id)) (er id)) σ.own)) j n t := by
        rintro j n t hne ⟨e, xs, bs, p, k1, k2⟩
        exact ⟨e, xs, er id bs, p, by rw [hlook, if_neg hne, k1]; rfl, k2⟩
      have hbox : ∀ j, id ≠ j → isBox σ.own j → isBox (del id (mapO (Blk.map (RV.mapBs (er id)) (er id)) σ.own)) j := by
        rintro j hne (⟨t, x, bs, k1⟩ | ⟨l, k1⟩ | ⟨kt, vt, es, k1⟩)
        · exact .inl ⟨t, x, er id bs, by rw [hlook, if_neg hne, k1]; rfl⟩
        · exact .inr (.inl ⟨l.map (RV.mapBs (er id)), by rw [hlook, if_neg hne, k1]; rfl⟩)
        · exact .inr (.inr ⟨kt, vt, es, by rw [hlook, if_neg hne, k1]; rfl⟩)
      cases r with
      | undef => trivial
      | nil => exact hr
      | int k n => exact hr
      | bool b => exact hr
      | str l => exact hr
      | data t x bs =>
        obtain ⟨cs, h1, h2⟩ := hr
        exact ⟨cs, Rep_mono (fun _ _ _ h => h) (hok bs) h1, h2⟩
      | own j =>
        obtain ⟨rfl, n, t, h1⟩ := hr
        exact ⟨rfl, n, t, hrow j n t (fun e => hnr (by simp [RV.refs, e])) h1⟩
      | bptr j off =>
        obtain ⟨h1, h2⟩ := hr
        exact ⟨hbox j (fun e => hnr (by simp [RV.refs, e])) h1, h2⟩
      | sptr t x bs =>
        obtain ⟨ad, cs, h1, h2, h3, h4⟩ := hr
        exact ⟨ad, cs, h1, hok bs _ h2, Rep_mono (fun _ _ _ h => h) (hok bs) h3, h4⟩
      | optr j i off =>
        obtain ⟨g, cap, n, t, h1, h2⟩ := hr
        exact ⟨g, cap, n, t, hrow j n t (fun e => hnr (by simp [RV.refs, e])) h1, h2⟩
      | fn f caps =>
        obtain ⟨h1, h2⟩ := hr
        exact ⟨h1, fun j hj => ⟨hbox j (fun e => hnr (by rw [RV.refs, e]; exact hj)) (h2 j hj).1, (h2 j hj).2⟩⟩
      | mp j =>
        obtain ⟨h1, h2⟩ := hr
        exact ⟨hbox j (fun e => hnr (by simp [RV.refs, e])) h1, h2⟩

def rn (i j k : Nat) : Nat := bif k == i then j else k
def RV.ren (i j : Nat) : RV N → RV N
  | .data t x b => .data t x (b.map (rn i j))
  | .sptr t x b => .sptr t x (b.map (rn i j))
  | .own k => .own (rn i j k)
  | .bptr k o => .bptr (rn i j k) o
  | .optr k n o => .optr (rn i j k) n o
  | .fn f caps => .fn f (caps.map (rn i j))
  | .mp k => .mp (rn i j k)
  | r => r

def renOne (pins : List Nat) (i j : Nat) (σ : St N) : St N :=
  bif pins.contains i then σ else match look σ.own i, look σ.own j with
  | some b, none => { regs := σ.regs.map (Slot.map (RV.ren i j)), own := ins j (b.map (RV.ren i j) (List.map (rn i j))) (del i (mapO (Blk.map (RV.ren i j) (List.map (rn i j))) σ.own)) }
  | _, _ => σ

theorem RelE.renOne (h : RelE io w0 σ E a w) (i j : Nat) : ∃ E', RelE io w0 (renOne io.ids i j σ) E' a w := by
  unfold Eng.renOne
  cases hpi : io.ids.contains i with
  | true => exact ⟨E, h⟩
  | false =>
  have hnp := contains_false hpi
  simp only [cond_false]
  split
  · rename_i b hi hj
    have hij : i ≠ j := fun e => by subst e; rw [hi] at hj; cases hj
    refine ⟨updE E j (E i), ?_⟩
    have hlook : ∀ k, look (ins j (b.map (RV.ren i j) (List.map (rn i j))) (del i (mapO (Blk.map (RV.ren i j) (List.map (rn i j))) σ.own))) k =
        if j = k then some (b.map (RV.ren i j) (List.map (rn i j))) else if i = k then none else (look σ.own k).map (Blk.map (RV.ren i j) (List.map (rn i j))) := by
      intro k; rw [look_ins, look_del, look_mapO]
    have hok : ∀ bs g, okb w.heap.size σ.own E bs g → okb w.heap.size (ins j (b.map (RV.ren i j) (List.map (rn i j))) (del i (mapO (Blk.map (RV.ren i j) (List.map (rn i j))) σ.own))) (updE E j (E i)) (bs.map (rn i j)) g := by
      intro bs g hg
      refine ⟨hg.1, fun k hk hkb => ?_⟩
      rw [hlook] at hk
      by_cases hjk : j = k
      · subst hjk
        rw [updE_same]
        refine hg.2 i (by rw [hi]; rfl) (fun hm => hkb (List.mem_map.2 ⟨i, hm, by simp [rn]⟩))
      · rw [updE_ne _ _ (Ne.symm hjk)]
        rw [if_neg hjk] at hk
        by_cases hik : i = k
        · rw [if_pos hik] at hk; cases hk
        · rw [if_neg hik] at hk
          refine hg.2 k (by cases hl : look σ.own k with | none => rw [hl] at hk; cases hk | some _ => rfl) (fun hm => hkb (List.mem_map.2 ⟨k, hm, ?_⟩))
          have : (k == i) = false := by simpa using Ne.symm hik
          simp [rn, this]
    have hE : ∀ k, k ≠ j → updE E j (E i) (rn i j k) = E k := by
      intro k hk
      unfold rn
      cases hki : (k == i) with
      | true => have : k = i := by simpa using hki
                subst this
                exact updE_same _ _ _
      | false => exact updE_ne _ _ hk
    have hrow : ∀ k n t, isRow σ.own k n t → isRow (ins j (b.map (RV.ren i j) (List.map (rn i j))) (del i (mapO (Blk.map (RV.ren i j) (List.map (rn i j))) σ.own))) (rn i j k) n t ∧ k ≠ j := by
      rintro k n t ⟨e, xs, bs, p, k1, k2⟩
      have hkj : k ≠ j := fun e => by subst e; rw [hj] at k1; cases k1
      refine ⟨⟨e, xs, bs.map (rn i j), p, ?_, k2⟩, hkj⟩
      rw [hlook]
      unfold rn
      cases hki : (k == i) with
      | true =>
        have : k = i := by simpa using hki
        subst this
        rw [hi] at k1
        cases k1
        simp only [cond_true, if_true]
        rfl
      | false =>
        have hki' : k ≠ i := by simpa using hki
        simp only [cond_false, if_neg (Ne.symm hkj), if_neg (Ne.symm hki'), k1]
        rfl
    have hbox : ∀ k, isBox σ.own k → isBox (ins j (b.map (RV.ren i j) (List.map (rn i j))) (del i (mapO (Blk.map (RV.ren i j) (List.map (rn i j))) σ.own))) (rn i j k) ∧ k ≠ j := by
      intro k hk
      obtain ⟨bk, hbk⟩ := isBox_some hk
      have hkj : k ≠ j := fun e => by subst e; rw [hj] at hbk; cases hbk
      refine ⟨?_, hkj⟩
      have hl : look (ins j (b.map (RV.ren i j) (List.map (rn i j))) (del i (mapO (Blk.map (RV.ren i j) (List.map (rn i j))) σ.own))) (rn i j k) = some (bk.map (RV.ren i j) (List.map (rn i j))) := by
        rw [hlook]
        unfold rn
        cases hki : (k == i) with
        | true =>
          have : k = i := by simpa using hki
          subst this
          rw [hi] at hbk
          cases hbk
          simp
        | false =>
          have hki' : k ≠ i := by simpa using hki
          simp only [cond_false, if_neg (Ne.symm hkj), if_neg (Ne.symm hki'), hbk]
          rfl
      rcases hk with ⟨t, x, bs, k1⟩ | ⟨l, k1⟩ | ⟨kt, vt, es, k1⟩
      · rw [k1] at hbk; cases hbk
        exact .inl ⟨t, x, _, hl⟩
      · rw [k1] at hbk; cases hbk
        exact .inr (.inl ⟨_, hl⟩)
      · rw [k1] at hbk; cases hbk
        exact .inr (.inr ⟨kt, vt, es, hl⟩)
    refine h.remap (f := RV.ren i j) (g := List.map (rn i j)) rfl (fun m hm b0 hb0 => by
      have h1 : m ≠ i := fun e : m = i => hnp (e ▸ hm)
      have h2 : m ≠ j := fun e => by subst e; rw [hj] at hb0; cases hb0
      exact ⟨by rw [hlook, if_neg (Ne.symm h2), if_neg (Ne.symm h1), hb0]; rfl, updE_ne _ _ h2⟩) (fun k => if j = k then i else k) ?_ ?_ hok ?_
    · intro k b' hk
      rw [hlook] at hk
      by_cases hjk : j = k
      · subst hjk
        rw [if_pos rfl] at hk
        cases hk
        exact ⟨b, by simpa using hi, rfl, by simp [updE_same]⟩
      · rw [if_neg hjk] at hk
        by_cases hik : i = k
        · rw [if_pos hik] at hk; cases hk
        · rw [if_neg hik] at hk
          obtain ⟨b0, hb0, rfl⟩ := Option.map_eq_some_iff.1 hk
          exact ⟨b0, by simpa [hjk] using hb0, rfl, by simp [hjk, updE_ne _ _ (Ne.symm hjk)]⟩
    · intro k l b1 b2 h1 h2 hkl
      have key : ∀ k b1, look (ins j (b.map (RV.ren i j) (List.map (rn i j))) (del i (mapO (Blk.map (RV.ren i j) (List.map (rn i j))) σ.own))) k = some b1 → k ≠ i := by
        intro k b1 h1 e
        subst e
        rw [hlook, if_neg (Ne.symm hij), if_pos rfl] at h1
        cases h1
      have hk := key k b1 h1
      have hl := key l b2 h2
      show (if j = k then i else k) ≠ (if j = l then i else l)
      split <;> split
      · omega
      · exact Ne.symm hl
      · exact hk
      · exact hkl
    · intro r v _ hr
      cases r with
      | undef => trivial
      | nil => exact hr
      | int k n => exact hr
      | bool b => exact hr
      | str l => exact hr
      | data t x bs =>
        obtain ⟨cs, h1, h2⟩ := hr
        exact ⟨cs, Rep_mono (fun _ _ _ h => h) (hok bs) h1, h2⟩
      | own k =>
        obtain ⟨rfl, n, t, h1⟩ := hr
        obtain ⟨h2, h3⟩ := hrow k n t h1
        exact ⟨(hE k h3).symm, n, t, h2⟩
      | bptr k off =>
        obtain ⟨h1, g, h2, h3⟩ := hr
        obtain ⟨h4, h5⟩ := hbox k h1
        exact ⟨h4, g, (hE k h5).trans h2, h3⟩
      | sptr t x bs =>
        obtain ⟨ad, cs, h1, h2, h3, h4⟩ := hr
        exact ⟨ad, cs, h1, hok bs _ h2, Rep_mono (fun _ _ _ h => h) (hok bs) h3, h4⟩
      | optr k m off =>
        obtain ⟨g, cap, n, t, h1, h2, h3, h4⟩ := hr
        obtain ⟨h5, h6⟩ := hrow k n t h1
        exact ⟨g, cap, n, t, h5, h2, (hE k h6).trans h3, h4⟩
      | fn f caps =>
        obtain ⟨h1, h2⟩ := hr
        refine ⟨?_, fun k hk => ?_⟩
        · rw [h1, List.map_map]
          congr 2
          exact List.map_congr_left fun k hk => (hE k (hbox k (h2 k hk).1).2).symm
        · obtain ⟨k0, hk0, rfl⟩ := List.mem_map.1 hk
          obtain ⟨h3, g, h4⟩ := h2 k0 hk0
          obtain ⟨h5, h6⟩ := hbox k0 h3
          exact ⟨h5, g, (hE k0 h6).trans h4⟩
      | mp k =>
        obtain ⟨h1, rfl⟩ := hr
        obtain ⟨h4, h5⟩ := hbox k h1
        exact ⟨h4, (hE k h5).symm⟩
  · exact ⟨E, h⟩

/-- The ids in the order of their first mention. -/
def dedup : List Nat → List Nat → List Nat
  | [], acc => acc.reverse
  | i :: r, acc => bif acc.contains i then dedup r acc else dedup r (i :: acc)

def dropAll (pins : List Nat) : List Nat → St N → St N
  | [], σ => σ
  | i :: r, σ => dropAll pins r (dropOne pins i σ)
def renAll (pins : List Nat) (base : Nat) : List Nat → Nat → St N → St N
  | [], _, σ => σ
  | i :: r, k, σ => renAll pins base r (k + 1) (renOne pins i (base + k) σ)
def upTo : Nat → Nat → List Nat
  | 0, _ => []
  | n + 1, i => i :: upTo n (i + 1)

def forgetSt (keep : List Nat) (σ : St N) : St N := { regs := forgetTo keep 0 σ.regs, own := σ.own }
def sweep (pins : List Nat) (σ : St N) : St N := dropAll pins (σ.own.map (·.1)) σ
def renumB (pins l : List Nat) (σ : St N) : St N := renAll pins 0 (upTo l.length 5000) 0 (renAll pins 5000 l 0 σ)
def renumA (pins : List Nat) (σ : St N) : St N := renumB pins (dedup (refsOf σ) []) σ
/-- What is not wanted is forgotten; what is left of the own blocks is numbered anew. -/
def norm (pins : List Nat) (keep : List Nat) (σ : St N) : St N := renumA pins (sweep pins (sweep pins (forgetSt keep σ)))

theorem RelE.dropAll (h : RelE io w0 σ E a w) (l : List Nat) : RelE io w0 (dropAll io.ids l σ) E a w := by
  induction l generalizing σ with
  | nil => exact h
  | cons i r ih => exact ih (h.dropOne i)

theorem RelE.renAll (h : RelE io w0 σ E a w) (base : Nat) (l : List Nat) (k : Nat) : ∃ E', RelE io w0 (renAll io.ids base l k σ) E' a w := by
  induction l generalizing σ E k with
  | nil => exact ⟨E, h⟩
  | cons i r ih =>
    obtain ⟨E1, h1⟩ := h.renOne i (base + k)
    exact ih h1 (k + 1)

theorem Rel.norm (h : Rel io w0 σ a w) (keep : List Nat) : Rel io w0 (norm io.ids keep σ) a w := by
  obtain ⟨E, h⟩ := h
  have h0 : RelE io w0 (forgetSt keep σ) E a w := h.forgetTo keep
  obtain ⟨E1, h1⟩ := ((h0.dropAll _).dropAll _).renAll 5000 _ 0
  obtain ⟨E2, h2⟩ := h1.renAll 0 _ 0
  exact ⟨E2, h2⟩

end Go.Eng
