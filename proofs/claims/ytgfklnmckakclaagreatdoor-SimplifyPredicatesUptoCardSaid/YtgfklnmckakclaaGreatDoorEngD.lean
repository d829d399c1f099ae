/- The engine, part D: what states may be turned into. -/
import Derived.Test.YtgfklnmckakclaaGreatDoorEngC
set_option linter.unusedVariables false
namespace Go.Eng
variable {N : Names} {io : Io} {w0 w w' : World} {σ : St N} {E : Env} {a : Act}

def St.putS (σ : St N) (d : Nat) (s : Slot N) : St N := { σ with regs := σ.regs.set d s }
def St.put (σ : St N) (d : Option Nat) (s : Slot N) : St N := match d with
  | some d => σ.putS d s
  | none => σ

def updE (E : Env) (id : Nat) (v : Value) : Env := { E with val := fun i => if i = id then v else E i }
theorem updE_same (E : Env) (id : Nat) (v : Value) : updE E id v id = v := by simp [updE]
theorem updE_ne (E : Env) {id j : Nat} (v : Value) (h : j ≠ id) : updE E id v j = E j := by simp [updE, h]

theorem ownsRow_ext {base : Nat} {e : TypeId} {size n : Nat} {v : Value} {xs : List Value} (he : Ext w w') (h : w.ownsRow base e size v n xs) : w'.ownsRow base e size v n xs := by
  refine ⟨h.1, ?_⟩
  rcases h.2 with hn | ⟨g, cap, cur, hv, hbg, hg, rest⟩
  · exact .inl hn
  · refine .inr ⟨g, cap, cur, hv, hbg, ?_, rest⟩
    rw [he.block g (Array.getElem?_eq_some_iff.1 hg).1]
    exact hg

theorem BlkRel_ext {own : List (Nat × Blk N)} {id : Nat} {b : Blk N} (he : Ext w w') (hb : ∀ g, blkOf (E id) = some g → g < w.heap.size) (h : BlkRel w own E id b) : BlkRel w' own E id b := by
  cases b with
  | row e t xs bs p =>
    obtain ⟨cells, h1, h2⟩ := h
    exact ⟨cells, ownsRow_ext he h1, RowC_mono (fun x cs hx => Rep_mono (fun _ _ _ hc => he.cell hc) (fun _ hb => okb_size he.size hb) hx) h2⟩
  | whole t x bs =>
    obtain ⟨g, T, arr, h1, h2, h3⟩ := h
    refine ⟨g, T, arr, h1, ?_, Rep_mono (fun _ _ _ hc => he.cell hc) (fun _ hb => okb_size he.size hb) h3⟩
    rw [he.block g (Array.getElem?_eq_some_iff.1 h2).1]
    exact h2
  | cells l =>
    obtain ⟨g, T, arr, h1, h2, h3, h4⟩ := h
    refine ⟨g, T, arr, h1, ?_, h3, fun i r u hr hu => RVRel_ext he (h4 i r u hr hu)⟩
    rw [he.block g (Array.getElem?_eq_some_iff.1 h2).1]
    exact h2
  | mapB kt vt es =>
    obtain ⟨g, arr, clock, h1, h2, h3⟩ := h
    refine ⟨g, arr, clock, h1, ?_, h3⟩
    rw [he.block g (Array.getElem?_eq_some_iff.1 h2).1]
    exact h2

theorem RelE.ext (h : RelE io w0 σ E a w) (he : Ext w w') : RelE io w0 σ E a w' where
  kept := h.kept.ext he
  size := h.size
  defers := h.defers
  regs := fun t s hs => SlotRel_mono (fun _ _ hr => RVRel_ext he hr) (h.regs t s hs)
  own := fun id b hb => BlkRel_ext he (fun g hg => (h.blk id b hb g hg).1) (h.own id b hb)
  blk := fun id b hb g hg => ⟨Nat.lt_of_lt_of_le (h.blk id b hb g hg).1 he.size, (h.blk id b hb g hg).2⟩
  sep := h.sep
  sc := h.sc
  nw := h.nw
  fx := h.fx

theorem RelE.put (h : RelE io w0 σ E a w) (d : Option Nat) {s : Slot N} {v : Value} (hs : SlotRel w σ.own E s v) : RelE io w0 (σ.put d s) E (a.put d v) w := by
  cases d with
  | none => exact h
  | some d =>
    refine ⟨h.kept, ?_, h.defers, ?_, h.own, h.blk, h.sep, h.sc, h.nw, h.fx⟩
    · simp [St.put, St.putS, Act.put, h.size]
    · intro t s' hs'
      simp only [St.put, St.putS, Act.put] at hs' ⊢
      rw [List.getElem?_set] at hs'
      by_cases hd : d = t
      · subst hd
        rw [if_pos rfl] at hs'
        split at hs'
        · rename_i hlt
          cases hs'
          have : d < a.tmps.size := by rw [h.size]; exact hlt
          simp [this]
          exact hs
        · cases hs'
      · rw [if_neg hd] at hs'
        have := h.regs t s' hs'
        rw [show (a.tmps.setIfInBounds d v).getD t undef = a.tmps.getD t undef from by
          rw [Array.getD_eq_getD_getElem?, Array.getD_eq_getD_getElem?, Array.getElem?_setIfInBounds_ne hd]]
        exact this

theorem isRow_ins {own : List (Nat × Blk N)} {id j n : Nat} {t : Ty} {b : Blk N} (hne : j ≠ id) (h : isRow own j n t) : isRow (ins id b own) j n t := by
  obtain ⟨e, xs, bs, p, h1, h2⟩ := h
  exact ⟨e, xs, bs, p, by rw [look_ins, if_neg (Ne.symm hne)]; exact h1, h2⟩
theorem isBox_ins {own : List (Nat × Blk N)} {id j : Nat} {b : Blk N} (hne : j ≠ id) (h : isBox own j) : isBox (ins id b own) j := by
  rcases h with ⟨t, x, bs, h1⟩ | ⟨l, h1⟩ | ⟨kt, vt, es, h1⟩
  · exact .inl ⟨t, x, bs, by rw [look_ins, if_neg (Ne.symm hne)]; exact h1⟩
  · exact .inr (.inl ⟨l, by rw [look_ins, if_neg (Ne.symm hne)]; exact h1⟩)
  · exact .inr (.inr ⟨kt, vt, es, by rw [look_ins, if_neg (Ne.symm hne)]; exact h1⟩)
theorem isRow_some {own : List (Nat × Blk N)} {j n : Nat} {t : Ty} (h : isRow own j n t) : ∃ b, look own j = some b := by
  obtain ⟨e, xs, bs, p, h1, h2⟩ := h
  exact ⟨_, h1⟩
theorem isBox_some {own : List (Nat × Blk N)} {j : Nat} (h : isBox own j) : ∃ b, look own j = some b := by
  rcases h with ⟨t, x, bs, h1⟩ | ⟨l, h1⟩ | ⟨kt, vt, es, h1⟩ <;> exact ⟨_, h1⟩

theorem okb_ins {own : List (Nat × Blk N)} {id : Nat} {b : Blk N} {V : Value} {H H' : Nat} (hH : H ≤ H') (hV : ∀ g, blkOf V = some g → H ≤ g) {bs : List Nat} {g : Nat}
    (h : okb H own E bs g) : okb H' (ins id b own) (updE E id V) bs g := by
  refine ⟨⟨Nat.lt_of_lt_of_le h.1.1 hH, h.1.2⟩, fun j hj hjb => ?_⟩
  by_cases hji : j = id
  · subst hji
    rw [updE_same]
    intro hg
    have := hV g hg
    have := h.1.1
    omega
  · rw [updE_ne _ _ hji]
    rw [look_ins, if_neg (Ne.symm hji)] at hj
    exact h.2 j hj hjb

theorem RVRel_ins {id : Nat} {b : Blk N} {V : Value} {own : List (Nat × Blk N)} (he : Ext w w') (hno : look own id = none) (hV : ∀ g, blkOf V = some g → w.heap.size ≤ g) {r : RV N} {v : Value}
    (h : RVRel w own E r v) : RVRel w' (ins id b own) (updE E id V) r v :=
  RVRel_mono (fun _ _ _ _ _ hc => he.cell hc) (fun _ _ _ hb => okb_ins he.size hV hb)
    (fun j n t _ hj => by
      have hne : j ≠ id := fun e => by subst e; obtain ⟨b, hb⟩ := isRow_some hj; rw [hno] at hb; cases hb
      exact ⟨isRow_ins hne hj, updE_ne _ _ hne⟩)
    (fun j _ hj => by
      have hne : j ≠ id := fun e => by subst e; obtain ⟨b, hb⟩ := isBox_some hj; rw [hno] at hb; cases hb
      exact ⟨isBox_ins hne hj, updE_ne _ _ hne⟩) h

theorem BlkRel_ins {id j : Nat} {b b' : Blk N} {V : Value} {own : List (Nat × Blk N)} (he : Ext w w') (hno : look own id = none) (hV : ∀ g, blkOf V = some g → w.heap.size ≤ g) (hne : j ≠ id)
    (hb : ∀ g, blkOf (E j) = some g → g < w.heap.size) (h : BlkRel w own E j b') : BlkRel w' (ins id b own) (updE E id V) j b' := by
  have hH := he.size
  cases b' with
  | row e t xs bs p =>
    obtain ⟨cells, h1, h2⟩ := h
    exact ⟨cells, by rw [updE_ne _ _ hne]; exact ownsRow_ext he h1, RowC_mono (fun x cs hx => Rep_mono (fun _ _ _ hc => he.cell hc) (fun _ hb => okb_ins hH hV hb) hx) h2⟩
  | whole t x bs =>
    obtain ⟨g, T, arr, h1, h2, h3⟩ := h
    refine ⟨g, T, arr, by rw [updE_ne _ _ hne]; exact h1, ?_, Rep_mono (fun _ _ _ hc => he.cell hc) (fun _ hb => okb_ins hH hV hb) h3⟩
    rw [he.block g (Array.getElem?_eq_some_iff.1 h2).1]
    exact h2
  | cells l =>
    obtain ⟨g, T, arr, h1, h2, h3, h4⟩ := h
    refine ⟨g, T, arr, by rw [updE_ne _ _ hne]; exact h1, ?_, h3, fun i r u hr hu => RVRel_ins he hno hV (h4 i r u hr hu)⟩
    rw [he.block g (Array.getElem?_eq_some_iff.1 h2).1]
    exact h2
  | mapB kt vt es =>
    obtain ⟨g, arr, clock, h1, h2, h3⟩ := h
    refine ⟨g, arr, clock, by rw [updE_ne _ _ hne]; exact h1, ?_, h3⟩
    rw [he.block g (Array.getElem?_eq_some_iff.1 h2).1]
    exact h2

/-- A new block of the call's own. -/
theorem RelE.add (h : RelE io w0 σ E a w) (he : Ext w w') {id : Nat} (hno : look σ.own id = none) {b : Blk N} {V : Value} (hV : ∀ g, blkOf V = some g → w.heap.size ≤ g ∧ g < w'.heap.size)
    (hb : BlkRel w' (ins id b σ.own) (updE E id V) id b) : RelE io w0 { σ with own := ins id b σ.own } (updE E id V) a w' where
  kept := h.kept.ext he
  size := h.size
  defers := h.defers
  regs := fun t s hs => SlotRel_mono (fun _ _ hr => RVRel_ins he hno (fun g hg => (hV g hg).1) hr) (h.regs t s hs)
  own := fun j b' hj => by
    simp only at hj
    rw [look_ins] at hj
    by_cases hji : id = j
    · subst hji
      rw [if_pos rfl] at hj
      cases hj
      exact hb
    · rw [if_neg hji] at hj
      exact BlkRel_ins he hno (fun g hg => (hV g hg).1) (Ne.symm hji) (fun g hg => (h.blk j b' hj g hg).1) (h.own j b' hj)
  blk := fun j b' hj g hg => by
    simp only at hj
    rw [look_ins] at hj
    by_cases hji : id = j
    · subst hji
      rw [updE_same] at hg
      exact ⟨(hV g hg).2, .inl (Nat.le_trans h.kept.size (hV g hg).1)⟩
    · rw [if_neg hji] at hj
      rw [updE_ne _ _ (Ne.symm hji)] at hg
      exact ⟨Nat.lt_of_lt_of_le (h.blk j b' hj g hg).1 he.size, (h.blk j b' hj g hg).2⟩
  sep := fun i j b1 b2 h1 h2 hij g hg hg2 => by
    simp only at h1 h2
    rw [look_ins] at h1 h2
    by_cases hi : id = i
    · subst hi
      rw [if_neg hij] at h2
      rw [updE_same] at hg
      rw [updE_ne _ _ (Ne.symm hij)] at hg2
      have := (hV g hg).1
      have := (h.blk j b2 h2 g hg2).1
      omega
    · rw [if_neg hi] at h1
      rw [updE_ne _ _ (Ne.symm hi)] at hg
      by_cases hj : id = j
      · subst hj
        rw [updE_same] at hg2
        have := (hV g hg2).1
        have := (h.blk i b1 h1 g hg).1
        omega
      · rw [if_neg hj] at h2
        rw [updE_ne _ _ (Ne.symm hj)] at hg2
        exact h.sep i j b1 b2 h1 h2 hij g hg hg2
  sc := h.sc
  nw := h.nw
  fx := fun i hi => by
    obtain ⟨b0, h1, h2, h3⟩ := h.fx i hi
    have hne : i ≠ id := fun e => by subst e; rw [hno] at h1; cases h1
    exact ⟨b0, by simp only [look_ins, if_neg (Ne.symm hne)]; exact h1, by rw [updE_ne _ _ hne]; exact h2, h3⟩

end Go.Eng
