/- The engine, part E: blocks that are written, replaced, dropped, renamed. -/
import Derived.Test.YtgfklnmckakclaaGreatDoorEngD
set_option linter.unusedVariables false
namespace Go.Eng
variable {N : Names} {io : Io} {w0 w w' : World} {σ : St N} {E : Env} {a : Act}

def RV.bs : RV N → List Nat
  | .data _ _ b => b
  | .sptr _ _ b => b
  | _ => []
def RV.refs : RV N → List Nat
  | .own i => [i]
  | .bptr i _ => [i]
  | .optr i _ _ => [i]
  | .fn _ caps => caps
  | .mp i => [i]
  | _ => []
def RV.mapBs (f : List Nat → List Nat) : RV N → RV N
  | .data t x b => .data t x (f b)
  | .sptr t x b => .sptr t x (f b)
  | r => r
def Slot.map (f : RV N → RV N) : Slot N → Slot N
  | .one r => .one (f r)
  | .tup l => .tup (l.map f)
def Blk.bs : Blk N → List Nat
  | .row _ _ _ b _ => b
  | .whole _ _ b => b
  | .cells l => l.flatMap RV.bs
  | .mapB _ _ _ => []
def Blk.refs : Blk N → List Nat
  | .cells l => l.flatMap RV.refs
  | _ => []
def Blk.map (f : RV N → RV N) (g : List Nat → List Nat) : Blk N → Blk N
  | .row e t xs b p => .row e t xs (g b) p
  | .whole t x b => .whole t x (g b)
  | .cells l => .cells (l.map f)
  | .mapB kt vt es => .mapB kt vt es
def mapO (f : Blk N → Blk N) (l : List (Nat × Blk N)) : List (Nat × Blk N) := l.map fun p => (p.1, f p.2)
def del {β : Type} (id : Nat) : List (Nat × β) → List (Nat × β)
  | [] => []
  | (k, v) :: r => bif k == id then del id r else (k, v) :: del id r

/-- A value that looks into a block that is written is no longer known. -/
def scrub (id : Nat) (r : RV N) : RV N := bif r.bs.contains id then .undef else r
/-- A value that names a block, or looks into it, is no longer known. -/
def kill (id : Nat) (r : RV N) : RV N := bif r.bs.contains id || r.refs.contains id then .undef else r

theorem look_del {β : Type} (id : Nat) : ∀ (l : List (Nat × β)) (j : Nat), look (del id l) j = if id = j then none else look l j
  | [], j => by simp [del, look]
  | (k, v) :: r, j => by
    unfold del
    cases hk : (k == id) with
    | true =>
      have : k = id := by simpa using hk
      subst this
      simp only [cond_true, look_del k r j, look]
      by_cases h : k = j
      · simp [h]
      · have : (k == j) = false := by simpa using h
        simp [h, this]
    | false =>
      have hne : k ≠ id := by simpa using hk
      simp only [cond_false, look, look_del id r j]
      cases hkj : (k == j) with
      | true =>
        have : k = j := by simpa using hkj
        subst this
        simp [Ne.symm hne]
      | false => simp

theorem look_mapO (f : Blk N → Blk N) : ∀ (l : List (Nat × Blk N)) (j : Nat), look (mapO f l) j = (look l j).map f
  | [], j => rfl
  | (k, v) :: r, j => by
    show look ((k, f v) :: mapO f r) j = _
    simp only [look, look_mapO f r j]
    cases (k == j) <;> rfl

theorem SlotRel_map {own own' : List (Nat × Blk N)} {E E' : Env} {f : RV N → RV N} (h : ∀ r v, RVRel w own E r v → RVRel w' own' E' (f r) v) {s : Slot N} {v : Value} (hs : SlotRel w own E s v) : SlotRel w' own' E' (s.map f) v := by
  cases s with
  | one r => exact h r v hs
  | tup l =>
    obtain ⟨vs, h1, h2, h3⟩ := hs
    refine ⟨vs, h1, by simpa using h2, fun i r u hr hu => ?_⟩
    rw [List.getElem?_map] at hr
    obtain ⟨r0, hr0, rfl⟩ := Option.map_eq_some_iff.1 hr
    exact h _ _ (h3 i r0 u hr0 hu)

theorem contains_false {l : List Nat} {i : Nat} (h : l.contains i = false) : i ∉ l := by
  intro hm
  rw [List.contains_iff_mem.2 hm] at h
  cases h

theorem cell_grown {g : Option Nat} (hw : w.grownBy w' g) {a : Addr} {u : Value} (hne : g ≠ some a.block) (hc : w.cell? a = some u) : w'.cell? a = some u :=
  hw.cell hc (fun e => hne e.symm)

/-- How a value fares when block id is replaced: what neither names it nor looks into it stands. -/
theorem RVRel_repl {own : List (Nat × Blk N)} {id nid : Nat} {b b' : Blk N} {V : Value} (hb : look own id = some b) (hw : w.grownBy w' (blkOf (E id)))
    (hV : ∀ g, blkOf V = some g → blkOf (E id) = some g ∨ w.heap.size ≤ g) (hfresh : look (del id own) nid = none) {r : RV N} {v : Value} (h1 : id ∉ r.bs) (h2 : id ∉ r.refs)
    (h : RVRel w own E r v) : RVRel w' (ins nid b' (del id own)) (updE E nid V) r v := by
  have hok : ∀ bs, id ∉ bs → ∀ g, okb w.heap.size own E bs g → okb w'.heap.size (ins nid b' (del id own)) (updE E nid V) bs g := by
    intro bs hbs g hg
    refine ⟨⟨Nat.lt_of_lt_of_le hg.1.1 hw.size, hg.1.2⟩, fun j hj hjb => ?_⟩
    by_cases hjn : j = nid
    · subst hjn
      rw [updE_same]
      intro hgv
      rcases hV g hgv with h3 | h3
      · exact hg.2 id (by rw [hb]; rfl) hbs h3
      · have := hg.1.1
        omega
    · rw [updE_ne _ _ hjn]
      rw [look_ins, if_neg (Ne.symm hjn), look_del] at hj
      by_cases hji : id = j
      · rw [if_pos hji] at hj; cases hj
      · rw [if_neg hji] at hj
        exact hg.2 j hj hjb
  have hcell : ∀ bs, id ∉ bs → ∀ (a : Addr) u, okb w.heap.size own E bs a.block → w.cell? a = some u → w'.cell? a = some u :=
    fun bs hbs a u hg hc => cell_grown hw (hg.2 id (by rw [hb]; rfl) hbs) hc
  have hne : ∀ j bj, look own j = some bj → j ≠ id → j ≠ nid := by
    intro j bj hj hji e
    subst e
    rw [look_del, if_neg (Ne.symm hji), hj] at hfresh
    cases hfresh
  have hrow : ∀ j n t, j ≠ id → isRow own j n t → isRow (ins nid b' (del id own)) j n t ∧ updE E nid V j = E j := by
    intro j n t hji hj
    have hjn : j ≠ nid := by obtain ⟨bj, hbj⟩ := isRow_some hj; exact hne j bj hbj hji
    obtain ⟨e, xs, bs, p, k1, k2⟩ := hj
    exact ⟨isRow_ins hjn ⟨e, xs, bs, p, by rw [look_del, if_neg (Ne.symm hji)]; exact k1, k2⟩, updE_ne _ _ hjn⟩
  have hbox : ∀ j, j ≠ id → isBox own j → isBox (ins nid b' (del id own)) j ∧ updE E nid V j = E j := by
    intro j hji hj
    have hjn : j ≠ nid := by obtain ⟨bj, hbj⟩ := isBox_some hj; exact hne j bj hbj hji
    refine ⟨isBox_ins hjn ?_, updE_ne _ _ hjn⟩
    rcases hj with ⟨t, x, bs, k1⟩ | ⟨l, k1⟩ | ⟨kt, vt, es, k1⟩
    · exact .inl ⟨t, x, bs, by rw [look_del, if_neg (Ne.symm hji)]; exact k1⟩
    · exact .inr (.inl ⟨l, by rw [look_del, if_neg (Ne.symm hji)]; exact k1⟩)
    · exact .inr (.inr ⟨kt, vt, es, by rw [look_del, if_neg (Ne.symm hji)]; exact k1⟩)
  refine RVRel_mono ?_ ?_ ?_ ?_ h
  · intro bs hbs a u
    cases r <;> first | exact hbs.elim | (subst hbs; exact hcell _ h1 a u)
  · intro bs hbs g
    cases r <;> first | exact hbs.elim | (subst hbs; exact hok _ h1 g)
  · intro j n t hj hr
    cases r <;> first | exact hj.elim | (subst hj; exact hrow _ n t (fun e => h2 (by simp [RV.refs, e])) hr)
  · intro j hj hr
    cases r <;> first | exact hj.elim | (subst hj; exact hbox _ (fun e => h2 (by simp [RV.refs, e])) hr) | exact hbox j (fun e => h2 (by rw [← e]; exact hj)) hr

theorem RVRel_kill {own : List (Nat × Blk N)} {id nid : Nat} {b b' : Blk N} {V : Value} (hb : look own id = some b) (hw : w.grownBy w' (blkOf (E id)))
    (hV : ∀ g, blkOf V = some g → blkOf (E id) = some g ∨ w.heap.size ≤ g) (hfresh : look (del id own) nid = none) {r : RV N} {v : Value}
    (h : RVRel w own E r v) : RVRel w' (ins nid b' (del id own)) (updE E nid V) (kill id r) v := by
  unfold kill
  cases hc : (r.bs.contains id || r.refs.contains id) with
  | true => trivial
  | false =>
    rw [Bool.or_eq_false_iff] at hc
    exact RVRel_repl hb hw hV hfresh (contains_false hc.1) (contains_false hc.2) h

def killB (id : Nat) (b : Blk N) : Blk N := b.map (kill id) (fun l => l)

/-- Block id gives way to block nid, which may lie in its place: append. -/
theorem RelE.replace (h : RelE io w0 σ E a w) {id nid : Nat} {b b' : Blk N} {V : Value} (hb : look σ.own id = some b) (hw : w.grownBy w' (blkOf (E id)))
    (hV : ∀ g, blkOf V = some g → (blkOf (E id) = some g ∨ w.heap.size ≤ g) ∧ g < w'.heap.size) (hfresh : look (del id σ.own) nid = none) (hpin : b.pinned = false)
    (hno : ∀ j bj, look σ.own j = some bj → j ≠ id → (∃ l, bj = .cells l) ∨ id ∉ bj.bs)
    (hb' : BlkRel w' (ins nid b' (del id (mapO (killB id) σ.own))) (updE E nid V) nid b') :
    RelE io w0 { regs := σ.regs.map (Slot.map (kill id)), own := ins nid b' (del id (mapO (killB id) σ.own)) } (updE E nid V) a w' := by
  have hV1 : ∀ g, blkOf V = some g → blkOf (E id) = some g ∨ w.heap.size ≤ g := fun g hg => (hV g hg).1
  -- the killed list names the same blocks
  have hlook : ∀ j, look (ins nid b' (del id (mapO (killB id) σ.own))) j = if nid = j then some b' else if id = j then none else (look σ.own j).map (killB id) := by
    intro j; rw [look_ins, look_del, look_mapO]
  have hlook' : ∀ j, look (ins nid b' (del id σ.own)) j = if nid = j then some b' else if id = j then none else look σ.own j := by
    intro j; rw [look_ins, look_del]
  have hsome : ∀ j, (look (ins nid b' (del id (mapO (killB id) σ.own))) j).isSome = (look (ins nid b' (del id σ.own)) j).isSome := by
    intro j
    rw [hlook, hlook']
    split
    · rfl
    · split
      · rfl
      · cases look σ.own j <;> rfl
  have hrowk : ∀ j n t, isRow (ins nid b' (del id σ.own)) j n t → isRow (ins nid b' (del id (mapO (killB id) σ.own))) j n t := by
    rintro j n t ⟨e, xs, bs, p, k1, k2⟩
    rw [hlook'] at k1
    by_cases hj : nid = j
    · rw [if_pos hj] at k1
      exact ⟨e, xs, bs, p, by rw [hlook, if_pos hj]; exact k1, k2⟩
    · rw [if_neg hj] at k1
      by_cases hi : id = j
      · rw [if_pos hi] at k1; cases k1
      · rw [if_neg hi] at k1
        exact ⟨e, xs, bs, p, by rw [hlook, if_neg hj, if_neg hi, k1]; rfl, k2⟩
  have hboxk : ∀ j, isBox (ins nid b' (del id σ.own)) j → isBox (ins nid b' (del id (mapO (killB id) σ.own))) j := by
    rintro j hj
    by_cases hn : nid = j
    · rcases hj with ⟨t, x, bs, k1⟩ | ⟨l, k1⟩ | ⟨kt, vt, es, k1⟩
      · rw [hlook', if_pos hn] at k1
        exact .inl ⟨t, x, bs, by rw [hlook, if_pos hn]; exact k1⟩
      · rw [hlook', if_pos hn] at k1
        exact .inr (.inl ⟨l, by rw [hlook, if_pos hn]; exact k1⟩)
      · rw [hlook', if_pos hn] at k1
        exact .inr (.inr ⟨kt, vt, es, by rw [hlook, if_pos hn]; exact k1⟩)
    · by_cases hi : id = j
      · rcases hj with ⟨t, x, bs, k1⟩ | ⟨l, k1⟩ | ⟨kt, vt, es, k1⟩ <;> (rw [hlook', if_neg hn, if_pos hi] at k1; cases k1)
      · rcases hj with ⟨t, x, bs, k1⟩ | ⟨l, k1⟩ | ⟨kt, vt, es, k1⟩
        · rw [hlook', if_neg hn, if_neg hi] at k1
          exact .inl ⟨t, x, bs, by rw [hlook, if_neg hn, if_neg hi, k1]; rfl⟩
        · rw [hlook', if_neg hn, if_neg hi] at k1
          exact .inr (.inl ⟨l.map (kill id), by rw [hlook, if_neg hn, if_neg hi, k1]; rfl⟩)
        · rw [hlook', if_neg hn, if_neg hi] at k1
          exact .inr (.inr ⟨kt, vt, es, by rw [hlook, if_neg hn, if_neg hi, k1]; rfl⟩)
  have hfin : ∀ r v, RVRel w' (ins nid b' (del id σ.own)) (updE E nid V) r v → RVRel w' (ins nid b' (del id (mapO (killB id) σ.own))) (updE E nid V) r v := by
    intro r v hr
    exact RVRel_mono (fun _ _ _ _ _ hc => hc) (fun bs _ g hg => ⟨hg.1, fun j hj hjb => hg.2 j (by rw [← hsome]; exact hj) hjb⟩) (fun j n t _ hj => ⟨hrowk j n t hj, rfl⟩) (fun j _ hj => ⟨hboxk j hj, rfl⟩) hr
  have hkill : ∀ r v, RVRel w σ.own E r v → RVRel w' (ins nid b' (del id (mapO (killB id) σ.own))) (updE E nid V) (kill id r) v :=
    fun r v hr => hfin _ _ (RVRel_kill hb hw hV1 hfresh hr)
  have hok : ∀ bs, id ∉ bs → ∀ g, okb w.heap.size σ.own E bs g → okb w'.heap.size (ins nid b' (del id (mapO (killB id) σ.own))) (updE E nid V) bs g := by
    intro bs hbs g hg
    refine ⟨⟨Nat.lt_of_lt_of_le hg.1.1 hw.size, hg.1.2⟩, fun j hj hjb => ?_⟩
    rw [hsome, hlook'] at hj
    by_cases hjn : nid = j
    · subst hjn
      rw [updE_same]
      intro hgv
      rcases hV1 g hgv with h3 | h3
      · exact hg.2 id (by rw [hb]; rfl) hbs h3
      · have := hg.1.1
        omega
    · rw [updE_ne _ _ (Ne.symm hjn)]
      rw [if_neg hjn] at hj
      by_cases hji : id = j
      · rw [if_pos hji] at hj; cases hj
      · rw [if_neg hji] at hj
        exact hg.2 j hj hjb
  have hcell : ∀ bs, id ∉ bs → ∀ (a : Addr) u, okb w.heap.size σ.own E bs a.block → w.cell? a = some u → w'.cell? a = some u :=
    fun bs hbs a u hg hc => cell_grown hw (hg.2 id (by rw [hb]; rfl) hbs) hc
  have hblock : ∀ j bj, look σ.own j = some bj → j ≠ id → ∀ g, blkOf (E j) = some g → w'.heap[g]? = w.heap[g]? :=
    fun j bj hj hji g hg => hw.block g (h.blk j bj hj g hg).1 (fun e => h.sep j id bj b hj hb hji g hg e.symm)
  refine ⟨?_, ?_, h.defers, ?_, ?_, ?_, ?_, h.sc, h.nw, fun i hi => by
    obtain ⟨b0, h1, h2, h3⟩ := h.fx i hi
    have hne : i ≠ id := fun e => by subst e; rw [hb] at h1; cases h1; rw [hpin] at h3; cases h3
    have hnn : i ≠ nid := fun e => by subst e; rw [look_del, if_neg (Ne.symm hne), h1] at hfresh; cases hfresh
    refine ⟨killB id b0, by simp only [hlook, if_neg (Ne.symm hnn), if_neg (Ne.symm hne), h1]; rfl, by rw [updE_ne _ _ hnn]; exact h2, ?_⟩
    cases b0 <;> exact h3⟩
  · refine ⟨hw.os.trans h.kept.os, hw.tape.trans h.kept.tape, hw.output.trans h.kept.output, Nat.le_trans h.kept.size hw.size, fun g hg hi => ?_⟩
    rw [hw.block g (Nat.lt_of_lt_of_le hg h.kept.size) (fun e => ?_)]
    · exact h.kept.block g hg hi
    · rcases (h.blk id b hb g e.symm).2 with h3 | h3
      · omega
      · exact hi h3
  · simpa using h.size
  · intro t s hs
    simp only [List.getElem?_map] at hs
    obtain ⟨s0, hs0, rfl⟩ := Option.map_eq_some_iff.1 hs
    exact SlotRel_map hkill (h.regs t s0 hs0)
  · intro j bj hj
    simp only at hj ⊢
    by_cases hjn : nid = j
    · subst hjn
      rw [hlook, if_pos rfl] at hj
      cases hj
      exact hb'
    · rw [hlook, if_neg hjn] at hj
      by_cases hji : id = j
      · rw [if_pos hji] at hj; cases hj
      · rw [if_neg hji] at hj
        obtain ⟨b0, hb0, rfl⟩ := Option.map_eq_some_iff.1 hj
        have hold := h.own j b0 hb0
        have hE : updE E nid V j = E j := updE_ne _ _ (Ne.symm hjn)
        have hbk := hblock j b0 hb0 (Ne.symm hji)
        cases b0 with
        | row e t xs bs p =>
          have hbs : id ∉ bs := by
            rcases hno j _ hb0 (Ne.symm hji) with ⟨l, hl⟩ | hl
            · cases hl
            · exact hl
          obtain ⟨cells, k1, k2⟩ := hold
          refine ⟨cells, ?_, RowC_mono (fun x cs hx => Rep_mono (hcell bs hbs) (hok bs hbs) hx) k2⟩
          rw [hE]
          refine ⟨k1.1, ?_⟩
          rcases k1.2 with hn | ⟨g, cap, cur, hv, hbg, hg, rest⟩
          · exact .inl hn
          · refine .inr ⟨g, cap, cur, hv, hbg, ?_, rest⟩
            rw [hbk g (by rw [hv]; rfl)]
            exact hg
        | whole t x bs =>
          have hbs : id ∉ bs := by
            rcases hno j _ hb0 (Ne.symm hji) with ⟨l, hl⟩ | hl
            · cases hl
            · exact hl
          obtain ⟨g, T, arr, k1, k2, k3⟩ := hold
          refine ⟨g, T, arr, hE.trans k1, ?_, Rep_mono (hcell bs hbs) (hok bs hbs) k3⟩
          rw [hbk g (by rw [k1]; rfl)]
          exact k2
        | cells l =>
          obtain ⟨g, T, arr, k1, k2, k3, k4⟩ := hold
          refine ⟨g, T, arr, hE.trans k1, ?_, by simpa using k3, fun i r u hr hu => ?_⟩
          · rw [hbk g (by rw [k1]; rfl)]
            exact k2
          · simp only [List.getElem?_map] at hr
            obtain ⟨r0, hr0, rfl⟩ := Option.map_eq_some_iff.1 hr
            exact hkill _ _ (k4 i r0 u hr0 hu)
        | mapB kt vt es =>
          obtain ⟨g, arr, clock, k1, k2, k3⟩ := hold
          refine ⟨g, arr, clock, hE.trans k1, ?_, k3⟩
          rw [hbk g (by rw [k1]; rfl)]
          exact k2
  · intro j bj hj g hg
    simp only at hj
    by_cases hjn : nid = j
    · subst hjn
      rw [updE_same] at hg
      obtain ⟨h3, h4⟩ := hV g hg
      refine ⟨h4, ?_⟩
      rcases h3 with h3 | h3
      · exact (h.blk id b hb g h3).2
      · exact .inl (Nat.le_trans h.kept.size h3)
    · rw [updE_ne _ _ (Ne.symm hjn)] at hg
      rw [hlook, if_neg hjn] at hj
      by_cases hji : id = j
      · rw [if_pos hji] at hj; cases hj
      · rw [if_neg hji] at hj
        obtain ⟨b0, hb0, rfl⟩ := Option.map_eq_some_iff.1 hj
        exact ⟨Nat.lt_of_lt_of_le (h.blk j b0 hb0 g hg).1 hw.size, (h.blk j b0 hb0 g hg).2⟩
  · have key : ∀ j bj, look (ins nid b' (del id (mapO (killB id) σ.own))) j = some bj → j ≠ nid → ∃ b0, look σ.own j = some b0 ∧ j ≠ id := by
      intro j bj hj hjn
      rw [hlook, if_neg (Ne.symm hjn)] at hj
      by_cases hji : id = j
      · rw [if_pos hji] at hj; cases hj
      · rw [if_neg hji] at hj
        obtain ⟨b0, hb0, _⟩ := Option.map_eq_some_iff.1 hj
        exact ⟨b0, hb0, Ne.symm hji⟩
    intro i j b1 b2 h1 h2 hij g hg hg2
    simp only at h1 h2
    by_cases hin : i = nid
    · subst hin
      rw [updE_same] at hg
      have hjn : j ≠ i := Ne.symm hij
      rw [updE_ne _ _ hjn] at hg2
      obtain ⟨b0, hb0, hji⟩ := key j b2 h2 hjn
      rcases (hV g hg).1 with h3 | h3
      · exact h.sep id j b b0 hb hb0 (Ne.symm hji) g h3 hg2
      · have := (h.blk j b0 hb0 g hg2).1
        omega
    · obtain ⟨b0, hb0, hii⟩ := key i b1 h1 hin
      rw [updE_ne _ _ hin] at hg
      by_cases hjn : j = nid
      · subst hjn
        rw [updE_same] at hg2
        rcases (hV g hg2).1 with h3 | h3
        · exact h.sep i id b0 b hb0 hb hii g hg h3
        · have := (h.blk i b0 hb0 g hg).1
          omega
      · obtain ⟨b3, hb3, hjj⟩ := key j b2 h2 hjn
        rw [updE_ne _ _ hjn] at hg2
        exact h.sep i j b0 b3 hb0 hb3 hij g hg hg2

end Go.Eng
