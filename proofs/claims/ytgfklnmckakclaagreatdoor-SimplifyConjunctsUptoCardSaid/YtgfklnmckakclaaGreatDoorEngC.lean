/- The engine, part C: states and the worlds that they tell of. -/
import Derived.Test.YtgfklnmckakclaaGreatDoorEngB
set_option linter.unusedVariables false
namespace Go.Eng
variable {N : Names}

def blkOf : Value → Option Nat
  | .slice (some a) _ _ => some a.block
  | .pointer (some a) => some a.block
  | .map (some b) => some b
  | _ => none

/-- What the ids stand for, and the blocks that shared values may look into. -/
structure Env where
  val : Nat → Value
  A : Nat → Prop
instance : CoeFun Env (fun _ => Nat → Value) := ⟨Env.val⟩
/-- The old blocks that may be written, and all that may be looked into. -/
structure Io where
  p : Nat → Prop
  A : Nat → Prop
  ids : List Nat
  fix : Nat → Value

/-- A block that a value may look into: old enough, and none of the call's own but those of bs. -/
def okb (H : Nat) (own : List (Nat × Blk N)) (E : Env) (bs : List Nat) (b : Nat) : Prop :=
  (b < H ∧ E.A b) ∧ ∀ id, (look own id).isSome = true → id ∉ bs → blkOf (E id) ≠ some b

def AsV (t : Ty) (v : Value) (cs : List Value) : Prop :=
  match t with
  | .nm _ => v = .agg cs.toArray
  | _ => cs = [v]

def isRow (own : List (Nat × Blk N)) (id : Nat) (n : Nat) (t : Ty) : Prop := ∃ e xs bs p, look own id = some (.row e t xs bs p) ∧ xs.length = n
def isBox (own : List (Nat × Blk N)) (id : Nat) : Prop := (∃ t x bs, look own id = some (.whole t x bs)) ∨ (∃ l, look own id = some (.cells l)) ∨ ∃ kt vt es, look own id = some (.mapB kt vt es)

def RVRel (w : World) (own : List (Nat × Blk N)) (E : Env) : RV N → Value → Prop
  | .undef, _ => True
  | .nil, v => v = .slice none 0 0
  | .int k n, v => v = .int k n
  | .bool b, v => v = .bool b
  | .str l, v => ∃ s, v = .string s ∧ bytesL s = l
  | .data t x bs, v => ∃ cs, Rep w (okb w.heap.size own E bs) t x cs ∧ AsV t v cs
  | .own id, v => v = E id ∧ ∃ n t, isRow own id n t
  | .bptr id off, v => isBox own id ∧ ∃ g, E id = .pointer (some ⟨g, 0, none⟩) ∧ v = .pointer (some ⟨g, off, none⟩)
  | .sptr t x bs, v => ∃ ad cs, v = .pointer (some ad) ∧ okb w.heap.size own E bs ad.block ∧ Rep w (okb w.heap.size own E bs) t x cs ∧ ∀ j u, cs[j]? = some u → w.cell? (ad.add j) = some u
  | .optr id i off, v => ∃ g cap n t, isRow own id n t ∧ i < n ∧ E id = .slice (some ⟨g, 0, none⟩) n cap ∧ v = .pointer (some ⟨g, i * N.sz t + off, none⟩)
  | .fn f caps, v => v = .func (.func f) #[] (caps.map E.val).toArray ∧ ∀ id ∈ caps, isBox own id ∧ ∃ g, E id = .pointer (some ⟨g, 0, none⟩)
  | .mp id, v => isBox own id ∧ v = E id

/-- A key or a value of a map: one cell that holds no address. -/
def ScalRel : (t : Ty) → t.den N.ρ → Value → Prop
  | .int k, n, v => v = .int k n
  | .bool, b, v => v = .bool b
  | .str, l, v => ∃ s, v = .string s ∧ bytesL s = l
  | _, _, _ => False
def MapRel (kt vt : Ty) : List (kt.den N.ρ × vt.den N.ρ) → List MapEntry → Prop
  | [], es => es = []
  | x :: xs, es => ∃ e rest, es = e :: rest ∧ ScalRel kt x.1 e.key ∧ ScalRel vt x.2 e.val ∧ MapRel kt vt xs rest

def SlotRel (w : World) (own : List (Nat × Blk N)) (E : Env) : Slot N → Value → Prop
  | .one r, v => RVRel w own E r v
  | .tup l, v => ∃ vs : List Value, v = .tuple vs.toArray ∧ vs.length = l.length ∧ ∀ (i : Nat) r u, l[i]? = some r → vs[i]? = some u → RVRel w own E r u

/-- The cells of a row of values. -/
def RowC {α : Type} (R : α → List Value → Prop) : List α → List Value → Prop
  | [], cs => cs = []
  | x :: xs, cs => ∃ c1 c2, cs = c1 ++ c2 ∧ R x c1 ∧ RowC R xs c2

def BlkRel (w : World) (own : List (Nat × Blk N)) (E : Env) (id : Nat) : Blk N → Prop
  | .row e t xs bs _ => ∃ cells, w.ownsRow 0 e (N.sz t) (E id) xs.length cells ∧ RowC (Rep w (okb w.heap.size own E bs) t) xs cells
  | .whole t x bs => ∃ g T arr, E id = .pointer (some ⟨g, 0, none⟩) ∧ w.heap[g]? = some (.cells arr T (0, 0)) ∧ Rep w (okb w.heap.size own E bs) t x arr.toList
  | .cells l => ∃ g T arr, E id = .pointer (some ⟨g, 0, none⟩) ∧ w.heap[g]? = some (.cells arr T (0, 0)) ∧ arr.size = l.length ∧ ∀ (i : Nat) r u, l[i]? = some r → arr[i]? = some u → RVRel w own E r u
  | .mapB kt vt es => ∃ g arr clock, E id = .map (some g) ∧ w.heap[g]? = some (.map arr clock) ∧ MapRel kt vt es arr.toList

/-- A block that an append may not move. -/
def Blk.pinned : Blk N → Bool
  | .row _ _ _ _ p => p
  | _ => true

structure Kept (io : Io) (w0 w : World) : Prop where
  os : w.os = w0.os
  tape : w.tape = w0.tape
  output : w.output = w0.output
  size : w0.heap.size ≤ w.heap.size
  block : ∀ g, g < w0.heap.size → ¬ io.p g → w.heap[g]? = w0.heap[g]?

structure RelE (io : Io) (w0 : World) (σ : St N) (E : Env) (a : Act) (w : World) : Prop where
  kept : Kept io w0 w
  size : a.tmps.size = σ.regs.length
  defers : a.defers = []
  regs : ∀ (t : Nat) s, σ.regs[t]? = some s → SlotRel w σ.own E s (a.tmps.getD t undef)
  own : ∀ id b, look σ.own id = some b → BlkRel w σ.own E id b
  blk : ∀ id b, look σ.own id = some b → ∀ g, blkOf (E id) = some g → g < w.heap.size ∧ (w0.heap.size ≤ g ∨ io.p g)
  sep : ∀ id id' b b', look σ.own id = some b → look σ.own id' = some b' → id ≠ id' → ∀ g, blkOf (E id) = some g → blkOf (E id') ≠ some g
  sc : E.A = io.A
  nw : ∀ b, w0.heap.size ≤ b ∨ io.p b → io.A b
  fx : ∀ i ∈ io.ids, ∃ b, look σ.own i = some b ∧ E i = io.fix i ∧ b.pinned = true

def Rel (io : Io) (w0 : World) (σ : St N) (a : Act) (w : World) : Prop := ∃ E, RelE io w0 σ E a w

/-! Frames. -/
/-- Nothing that was there has turned. -/
structure Ext (w w' : World) : Prop where
  os : w'.os = w.os
  tape : w'.tape = w.tape
  output : w'.output = w.output
  size : w.heap.size ≤ w'.heap.size
  block : ∀ g, g < w.heap.size → w'.heap[g]? = w.heap[g]?

theorem Ext.refl (w : World) : Ext w w := ⟨rfl, rfl, rfl, Nat.le_refl _, fun _ _ => rfl⟩

theorem Ext.cell {w w' : World} (h : Ext w w') {a : Addr} {u : Value} (hc : w.cell? a = some u) : w'.cell? a = some u :=
  (World.cell?_of_block (w := w) (h.block _ (World.block_lt_of_cell? w a hc))).trans hc

theorem Kept.ext {io : Io} {w0 w w' : World} (h : Kept io w0 w) (he : Ext w w') : Kept io w0 w' :=
  ⟨he.os.trans h.os, he.tape.trans h.tape, he.output.trans h.output, Nat.le_trans h.size he.size,
    fun g hg hi => (he.block g (Nat.lt_of_lt_of_le hg h.size)).trans (h.block g hg hi)⟩

theorem okb_size {H H' : Nat} {own : List (Nat × Blk N)} {E : Env} {bs : List Nat} {b : Nat} (hH : H ≤ H') (h : okb H own E bs b) : okb H' own E bs b :=
  ⟨⟨Nat.lt_of_lt_of_le h.1.1 hH, h.1.2⟩, h.2⟩

/-- The relation of one value depends on the own blocks through their shapes and what they bar. -/
theorem RVRel_mono {w w' : World} {own own' : List (Nat × Blk N)} {E E' : Env} {r : RV N} {v : Value}
    (hcell : ∀ bs, (match r with | .data _ _ b => bs = b | .sptr _ _ b => bs = b | _ => False) → ∀ a u, okb w.heap.size own E bs a.block → w.cell? a = some u → w'.cell? a = some u)
    (hok : ∀ bs, (match r with | .data _ _ b => bs = b | .sptr _ _ b => bs = b | _ => False) → ∀ b, okb w.heap.size own E bs b → okb w'.heap.size own' E' bs b)
    (hrow : ∀ id n t, (match r with | .own i => id = i | .optr i _ _ => id = i | _ => False) → isRow own id n t → isRow own' id n t ∧ E' id = E id)
    (hbox : ∀ id, (match r with | .bptr i _ => id = i | .fn _ caps => id ∈ caps | .mp i => id = i | _ => False) → isBox own id → isBox own' id ∧ E' id = E id)
    (h : RVRel w own E r v) : RVRel w' own' E' r v := by
  cases r with
  | undef => trivial
  | nil => exact h
  | int k n => exact h
  | bool b => exact h
  | str l => exact h
  | data t x bs =>
    obtain ⟨cs, h1, h2⟩ := h
    exact ⟨cs, Rep_mono (hcell bs rfl) (hok bs rfl) h1, h2⟩
  | own id =>
    obtain ⟨rfl, n, t, h1⟩ := h
    obtain ⟨k1, k2⟩ := hrow id n t rfl h1
    exact ⟨k2.symm, n, t, k1⟩
  | bptr id off =>
    obtain ⟨h1, g, h2, h3⟩ := h
    obtain ⟨k1, k2⟩ := hbox id rfl h1
    exact ⟨k1, g, k2.trans h2, h3⟩
  | sptr t x bs =>
    obtain ⟨ad, cs, h1, h2, h3, h4⟩ := h
    exact ⟨ad, cs, h1, hok bs rfl _ h2, Rep_mono (hcell bs rfl) (hok bs rfl) h3, fun j u hu => hcell bs rfl _ _ (by rw [addr_add_block]; exact h2) (h4 j u hu)⟩
  | optr id i off =>
    obtain ⟨g, cap, n, t, h1, h2, h3, h4⟩ := h
    obtain ⟨k1, k2⟩ := hrow id n t rfl h1
    exact ⟨g, cap, n, t, k1, h2, k2.trans h3, h4⟩
  | fn f caps =>
    obtain ⟨h1, h2⟩ := h
    refine ⟨?_, fun id hid => ?_⟩
    · rw [h1, List.map_congr_left (fun id hid => ((hbox id hid (h2 id hid).1).2).symm)]
    · obtain ⟨h3, g, h4⟩ := h2 id hid
      obtain ⟨k1, k2⟩ := hbox id hid h3
      exact ⟨k1, g, k2.trans h4⟩
  | mp id =>
    obtain ⟨h1, rfl⟩ := h
    obtain ⟨k1, k2⟩ := hbox id rfl h1
    exact ⟨k1, k2.symm⟩

theorem RVRel_ext {w w' : World} {own : List (Nat × Blk N)} {E : Env} {r : RV N} {v : Value} (he : Ext w w') (h : RVRel w own E r v) : RVRel w' own E r v :=
  RVRel_mono (fun _ _ _ _ _ hc => he.cell hc) (fun _ _ _ hb => okb_size he.size hb) (fun _ _ _ _ h => ⟨h, rfl⟩) (fun _ _ h => ⟨h, rfl⟩) h

theorem RowC_mono {α : Type} {R R' : α → List Value → Prop} (h : ∀ x cs, R x cs → R' x cs) : ∀ {xs : List α} {cs : List Value}, RowC R xs cs → RowC R' xs cs
  | [], _, hh => hh
  | _ :: _, _, ⟨c1, c2, e, h1, h2⟩ => ⟨c1, c2, e, h _ _ h1, RowC_mono h h2⟩

theorem SlotRel_mono {w w' : World} {own own' : List (Nat × Blk N)} {E E' : Env} {s : Slot N} {v : Value} (h : ∀ r v, RVRel w own E r v → RVRel w' own' E' r v) (hs : SlotRel w own E s v) : SlotRel w' own' E' s v := by
  cases s with
  | one r => exact h _ _ hs
  | tup l =>
    obtain ⟨vs, h1, h2, h3⟩ := hs
    exact ⟨vs, h1, h2, fun i r u hr hu => h _ _ (h3 i r u hr hu)⟩

theorem look_ins {β : Type} (i : Nat) (v : β) : ∀ (l : List (Nat × β)) (j : Nat), look (ins i v l) j = if i = j then some v else look l j
  | [], j => by
    simp only [ins, look]
    by_cases h : i = j
    · simp [h]
    · have : (i == j) = false := by simpa using h
      simp [this, h]
  | (k, u) :: r, j => by
    unfold ins
    cases hik : (i == k) with
    | true =>
      have hk : i = k := by simpa using hik
      subst hk
      simp only [cond_true, look]
      by_cases h : i = j
      · simp [h]
      · have : (i == j) = false := by simpa using h
        simp [this, h]
    | false =>
      have hne : i ≠ k := by simpa using hik
      simp only [cond_false]
      cases hb : Nat.blt i k with
      | true =>
        simp only [cond_true, look]
        by_cases h : i = j
        · simp [h]
        · have : (i == j) = false := by simpa using h
          simp [this, h]
      | false =>
        simp only [cond_false, look, look_ins i v r j]
        cases hkj : (k == j) with
        | true =>
          have : k = j := by simpa using hkj
          subst this
          simp [hne]
        | false => simp

end Go.Eng
