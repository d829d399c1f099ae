/- The engine, part WE: regions whose order is open: reading operations in any order, then a tail in its order. -/
import Derived.Test.YtgfklnmckakclaaGreatDoorEngWD
set_option linter.unusedVariables false
set_option linter.unusedSimpArgs false
namespace Go.Eng
variable {N : Names} {P : Program} {τ : TypeId → Option TI} {β : Type}

structure Eff (N : Names) where
  dst : Option Nat
  s : Slot N
  ad : List (Nat × Blk N)

def applyE (σ : St N) (e : Eff N) : St N := ({ regs := σ.regs, own := insAll e.ad σ.own } : St N).put e.dst e.s
def sq (σ0 : St N) (eff : Nat → Eff N) : List Nat → St N
  | [] => σ0
  | j :: L => applyE (sq σ0 eff L) (eff j)

def predsOf (ops : List Oper) (i : Nat) : List Nat := match ops[i]? with
  | some o => (o.after.toList.filter (Region.binds .any)).map (·.on)
  | none => []
def addAll : List Nat → List Nat → List Nat
  | [], l => l
  | i :: r, l => bif l.contains i then addAll r l else addAll r (i :: l)
/-- What is done before operation i in any case. -/
def clo (ops : List Oper) : Nat → Nat → List Nat
  | 0, _ => []
  | f + 1, i => cloL (clo ops f) (predsOf ops i)
where
  cloL (g : Nat → List Nat) : List Nat → List Nat
    | [] => []
    | j :: r => addAll (j :: g j) (cloL g r)

theorem mem_addAll {i : Nat} : ∀ {l m : List Nat}, i ∈ addAll l m ↔ i ∈ l ∨ i ∈ m
  | [], m => by simp [addAll]
  | j :: r, m => by
    unfold addAll
    cases h : m.contains j with
    | true =>
      have hj : j ∈ m := List.contains_iff_mem.1 h
      simp only [cond_true, mem_addAll (l := r), List.mem_cons]
      constructor
      · rintro (h | h)
        · exact .inl (.inr h)
        · exact .inr h
      · rintro ((rfl | h) | h)
        · exact .inr hj
        · exact .inl h
        · exact .inr h
    | false =>
      simp only [cond_false, mem_addAll (l := r), List.mem_cons]
      constructor
      · rintro (h | h | h)
        · exact .inl (.inr h)
        · exact .inl (.inl h)
        · exact .inr h
      · rintro ((h | h) | h)
        · exact .inr (.inl h)
        · exact .inl h
        · exact .inr (.inr h)

/-- A set that is closed under what goes before holds the closure. -/
theorem clo_sub {ops : List Oper} {S : Nat → Prop} (hS : ∀ j, S j → ∀ k ∈ predsOf ops j, S k) : ∀ (f i : Nat), (∀ k ∈ predsOf ops i, S k) → ∀ k ∈ clo ops f i, S k
  | 0, i, h, k, hk => by cases hk
  | f + 1, i, h, k, hk => by
    have key : ∀ l, (∀ j ∈ l, S j) → ∀ k ∈ clo.cloL (clo ops f) l, S k := by
      intro l
      induction l with
      | nil => intro _ k hk; cases hk
      | cons j r ih =>
        intro hl k hk
        simp only [clo.cloL, mem_addAll, List.mem_cons] at hk
        rcases hk with (rfl | hk) | hk
        · exact hl _ List.mem_cons_self
        · exact clo_sub hS f j (hS j (hl j List.mem_cons_self)) k hk
        · exact ih (fun j hj => hl j (List.mem_cons_of_mem _ hj)) k hk
    exact key _ h k hk

theorem reg_putS {σ : St N} {d : Nat} {s : Slot N} (hd : d < σ.regs.length) (t : Nat) : (σ.putS d s).reg t = if d = t then s else σ.reg t := by
  unfold St.putS St.reg
  simp only [List.getD_eq_getElem?_getD, List.getElem?_set]
  by_cases h : d = t
  · subst h; simp [hd]
  · simp [h]

theorem applyE_regs (σ : St N) (e : Eff N) : (applyE σ e).regs.length = σ.regs.length := by
  unfold applyE St.put St.putS
  cases e.dst <;> simp
theorem sq_regs (σ0 : St N) (eff : Nat → Eff N) : ∀ L, (sq σ0 eff L).regs.length = σ0.regs.length
  | [] => rfl
  | j :: L => by rw [sq, applyE_regs, sq_regs σ0 eff L]

theorem applyE_reg {σ : St N} {e : Eff N} (hd : ∀ d, e.dst = some d → d < σ.regs.length) (t : Nat) : (applyE σ e).reg t = if e.dst = some t then e.s else σ.reg t := by
  unfold applyE
  cases h : e.dst with
  | none => rfl
  | some d =>
    simp only [St.put]
    rw [reg_putS (by exact hd d h)]
    by_cases hdt : d = t
    · simp [hdt]
    · simp [hdt]; rfl
theorem applyE_own (σ : St N) (e : Eff N) (id : Nat) : look (applyE σ e).own id = match look e.ad id with
    | some b => some b
    | none => look σ.own id := by
  have h : (applyE σ e).own = insAll e.ad σ.own := by
    unfold applyE St.put St.putS
    cases e.dst <;> rfl
  rw [h, look_insAll]
  cases look e.ad id <;> rfl

structure EffsOk (σ0 : St N) (eff : Nat → Eff N) (m : Nat) : Prop where
  dst : ∀ j, j < m → ∀ d, (eff j).dst = some d → d < σ0.regs.length
  one : ∀ i j, i < m → j < m → ∀ d, (eff i).dst = some d → (eff j).dst = some d → i = j
  ids : ∀ i j, i < m → j < m → ∀ id b b', look (eff i).ad id = some b → look (eff j).ad id = some b' → i = j
  fresh : ∀ j, j < m → ∀ id b, look (eff j).ad id = some b → look σ0.own id = none

theorem sq_reg {σ0 : St N} {eff : Nat → Eff N} {m : Nat} (h : EffsOk σ0 eff m) {t : Nat} : ∀ {L : List Nat}, (∀ j ∈ L, j < m) → (∀ j ∈ L, (eff j).dst = some t → (sq σ0 eff L).reg t = (eff j).s) ∧ ((∀ j ∈ L, (eff j).dst ≠ some t) → (sq σ0 eff L).reg t = σ0.reg t)
  | [], _ => ⟨(fun j hj => by cases hj), fun _ => rfl⟩
  | i :: L, hL => by
    have ih := sq_reg h (L := L) (t := t) (fun j hj => hL j (List.mem_cons_of_mem _ hj))
    have hr : (sq σ0 eff (i :: L)).reg t = if (eff i).dst = some t then (eff i).s else (sq σ0 eff L).reg t :=
      applyE_reg (fun d hd => by rw [sq_regs]; exact h.dst i (hL i List.mem_cons_self) d hd) t
    rw [hr]
    refine ⟨fun j hj hd => ?_, fun hn => ?_⟩
    · by_cases hi : (eff i).dst = some t
      · rw [if_pos hi, h.one i j (hL i List.mem_cons_self) (hL j hj) t hi hd]
      · rw [if_neg hi]
        rcases List.mem_cons.1 hj with rfl | hj
        · exact absurd hd hi
        · exact ih.1 j hj hd
    · rw [if_neg (hn i List.mem_cons_self)]
      exact ih.2 (fun j hj => hn j (List.mem_cons_of_mem _ hj))

theorem sq_own {σ0 : St N} {eff : Nat → Eff N} {m : Nat} (h : EffsOk σ0 eff m) {id : Nat} : ∀ {L : List Nat}, (∀ j ∈ L, j < m) → (∀ j ∈ L, ∀ b, look (eff j).ad id = some b → look (sq σ0 eff L).own id = some b) ∧ ((∀ j ∈ L, look (eff j).ad id = none) → look (sq σ0 eff L).own id = look σ0.own id)
  | [], _ => ⟨(fun j hj => by cases hj), fun _ => rfl⟩
  | i :: L, hL => by
    have ih := sq_own h (L := L) (id := id) (fun j hj => hL j (List.mem_cons_of_mem _ hj))
    have hr : look (sq σ0 eff (i :: L)).own id = match look (eff i).ad id with
        | some b => some b
        | none => look (sq σ0 eff L).own id := applyE_own _ _ _
    rw [hr]
    refine ⟨fun j hj b hb => ?_, fun hn => ?_⟩
    · cases hi : look (eff i).ad id with
      | some b' =>
        have := h.ids i j (hL i List.mem_cons_self) (hL j hj) id b' b hi hb
        subst this
        rw [hb] at hi
        exact hi.symm
      | none =>
        rcases List.mem_cons.1 hj with rfl | hj
        · rw [hb] at hi; cases hi
        · exact ih.1 j hj b hb
    · rw [hn i List.mem_cons_self]
      exact ih.2 (fun j hj => hn j (List.mem_cons_of_mem _ hj))

/-- States that tell the same. -/
theorem RelE.same {io : Io} {w0 w : World} {σ σ' : St N} {E : Env} {a : Act} (h : RelE io w0 σ E a w) (hl : σ'.regs.length = σ.regs.length) (hr : ∀ t, σ'.reg t = σ.reg t) (ho : ∀ id, look σ'.own id = look σ.own id) : RelE io w0 σ' E a w := by
  have hregs : σ'.regs = σ.regs := by
    apply List.ext_getElem?
    intro i
    have := hr i
    unfold St.reg at this
    rw [List.getD_eq_getElem?_getD, List.getD_eq_getElem?_getD] at this
    rcases Nat.lt_or_ge i σ.regs.length with hi | hi
    · rw [List.getElem?_eq_getElem (by omega), List.getElem?_eq_getElem hi] at this ⊢
      simpa using this
    · rw [List.getElem?_eq_none (by omega), List.getElem?_eq_none hi]
  have hok : ∀ bs g, okb w.heap.size σ.own E bs g → okb w.heap.size σ'.own E bs g := fun bs g hg => ⟨hg.1, fun id hid => hg.2 id (by rw [← ho]; exact hid)⟩
  have hrv : ∀ r v, RVRel w σ.own E r v → RVRel w σ'.own E r v := fun r v hr =>
    RVRel_mono (fun _ _ _ _ _ h => h) (fun bs _ g hg => hok bs g hg) (fun id n t _ ⟨e, xs, bs, p, k1, k2⟩ => ⟨⟨e, xs, bs, p, by rw [ho]; exact k1, k2⟩, rfl⟩)
      (fun id _ hb => ⟨by
        rcases hb with ⟨t, x, bs, k1⟩ | ⟨l, k1⟩ | ⟨kt, vt, es, k1⟩
        · exact .inl ⟨t, x, bs, by rw [ho]; exact k1⟩
        · exact .inr (.inl ⟨l, by rw [ho]; exact k1⟩)
        · exact .inr (.inr ⟨kt, vt, es, by rw [ho]; exact k1⟩), rfl⟩) hr
  refine ⟨h.kept, by rw [hl]; exact h.size, h.defers, ?_, ?_, ?_, ?_, h.sc, h.nw, ?_⟩
  · intro t s hs
    rw [hregs] at hs
    exact SlotRel_mono hrv (h.regs t s hs)
  · intro id b hb
    rw [ho] at hb
    have := h.own id b hb
    cases b with
    | row e t xs bs p =>
      obtain ⟨cells, k1, k2⟩ := this
      exact ⟨cells, k1, RowC_mono (fun x cs hx => Rep_mono (fun _ _ _ h => h) (hok bs) hx) k2⟩
    | whole t x bs =>
      obtain ⟨g, T, arr, k1, k2, k3⟩ := this
      exact ⟨g, T, arr, k1, k2, Rep_mono (fun _ _ _ h => h) (hok bs) k3⟩
    | cells l =>
      obtain ⟨g, T, arr, k1, k2, k3, k4⟩ := this
      exact ⟨g, T, arr, k1, k2, k3, fun i r u hi hu => hrv r u (k4 i r u hi hu)⟩
    | mapB kt vt es => exact this
  · intro id b hb
    rw [ho] at hb
    exact h.blk id b hb
  · intro i j b b' h1 h2
    rw [ho] at h1 h2
    exact h.sep i j b b' h1 h2
  · intro i hi
    obtain ⟨b, k1, k2⟩ := h.fx i hi
    exact ⟨b, by rw [ho]; exact k1, k2⟩

/-! The operations of the head, each in its own state. -/
def guardT (ops : List Oper) (o : Oper) : List Nat := match o.guard with
  | some (g, _) => (guardReg ops g).toList
  | none => []
def usesG (ops : List Oper) (o : Oper) : List Nat := guardT ops o ++ usesT o

structure AgreeG (ops : List Oper) (o : Oper) (σ σ' : St N) : Prop where
  regs : ∀ t ∈ usesG ops o, σ'.reg t = σ.reg t
  sub : Sub σ.own σ'.own
  len : σ'.regs.length = σ.regs.length

def HeadOp (P : Program) (ops : List Oper) (i : Nat) (o : Oper) (σ : St N) (e : Eff N) : Prop :=
  e.dst = o.dst ∧ ∀ σ', AgreeG ops o σ σ' → (∀ p ∈ e.ad, look σ'.own p.1 = none) → ∀ io w0 a w (K : Act → World → Prop) (Q : Exit → Act → World → Prop), Rel io w0 σ' a w → (∀ a' w', Rel io w0 (applyE σ' e) a' w' → K a' w') → wpOp P ops.toArray Q i K a w

/-- Does an operation ask whether operation i said yes? -/
def asked (i : Nat) : List Oper → Bool
  | [] => false
  | o :: r => (match o.guard with
    | some (g, _) => Nat.beq g i
    | none => false) || asked i r
def splitB (g : Bool) (s : Slot N) (k : Slot N → Option β) : Option β :=
  match g, s with
  | true, .one (.bool b) => bif b then k (.one (.bool true)) else k (.one (.bool false))
  | _, s => k s
theorem splitB_eq (g : Bool) (s : Slot N) (k : Slot N → Option β) : splitB g s k = k s := by
  unfold splitB
  split
  · rename_i b
    cases b <;> rfl
  · rfl
def drawHead (τ : TypeId → Option TI) (Φ : FuncId → Option (Spec N)) (ops : List Oper) (σ0 : St N) : List Oper → List (Eff N) → (List (Eff N) → Option β) → Option β
  | [], effs, k => k effs
  | o :: rest, effs, k =>
    drawOne (sq σ0 (fun j => effs.getD j ⟨none, .tup [], []⟩) (clo ops ops.length effs.length)) o fun s ad => splitB (asked effs.length ops) s fun s => drawHead τ Φ ops σ0 rest (effs ++ [⟨o.dst, s, ad⟩]) k
where
  drawOne (σ : St N) (o : Oper) (k : KK N β) : Option β :=
    match o.guard with
    | none => evE τ Φ o σ k
    | some (g, want) => match guardReg ops g with
      | none => k (.tup []) []
      | some d => match σ.reg d with
        | .one (.bool b) => bif want then (bif b then evE τ Φ o σ k else k (.tup []) []) else (bif b then k (.tup []) [] else evE τ Φ o σ k)
        | .tup [] => k (.tup []) []
        | _ => none

theorem reg_lt {σ : St N} {d : Nat} {s : Slot N} (h : σ.reg d = s) (hne : s ≠ .one .undef) : d < σ.regs.length := by
  rcases Nat.lt_or_ge d σ.regs.length with h' | h'
  · exact h'
  · unfold St.reg at h
    rw [List.getD_eq_getElem?_getD, List.getElem?_eq_none h'] at h
    exact absurd h.symm hne

theorem drawOne_sound (F : Fits P N τ) {Φ : FuncId → Option (Spec N)} (hΦ : ∀ f S, Φ f = some S → Good P f S) {ops : List Oper} {i : Nat} {o : Oper} (hi : ops[i]? = some o) {σ : St N} {k : KK N β} {r : β} (h : drawHead.drawOne τ Φ ops σ o k = some r) :
    ∃ s ad, k s ad = some r ∧ (∀ p ∈ ad, look σ.own p.1 = none) ∧ HeadOp P ops i o σ ⟨o.dst, s, ad⟩ := by
  have hoi : (ops.toArray)[i]? = some o := by rw [List.getElem?_toArray]; exact hi
  have run : ∀ {k : KK N β}, evE τ Φ o σ k = some r → (∀ (σ' : St N), AgreeG ops o σ σ' → ∀ io w0 a w, Rel io w0 σ' a w → Region.wanted o (yielded ops.toArray a.tmps) = true) → ∃ s ad, k s ad = some r ∧ (∀ p ∈ ad, look σ.own p.1 = none) ∧ HeadOp P ops i o σ ⟨o.dst, s, ad⟩ := by
    intro k hk hw
    obtain ⟨s, ad, h1, h2, h3⟩ := evE_does F hΦ hk
    refine ⟨s, ad, h1, h2, rfl, fun σ' hA hf io w0 a w K Q hr hK => ?_⟩
    unfold wpOp
    simp only [hoi]
    rw [if_pos (hw σ' hA io w0 a w hr)]
    exact .inl (h3 σ' ⟨fun t ht => hA.regs t (List.mem_append.2 (.inr ht)), hA.sub⟩ hf io w0 a w K Q hr hK)
  have skip : ∀ {k : KK N β}, k (.tup []) [] = some r → (∀ (σ' : St N), AgreeG ops o σ σ' → ∀ io w0 a w, Rel io w0 σ' a w → Region.wanted o (yielded ops.toArray a.tmps) = false) → ∃ s ad, k s ad = some r ∧ (∀ p ∈ ad, look σ.own p.1 = none) ∧ HeadOp P ops i o σ ⟨o.dst, s, ad⟩ := by
    intro k hk hw
    refine ⟨_, _, hk, (fun p hp => by cases hp), rfl, fun σ' hA hf io w0 a w K Q hr hK => ?_⟩
    unfold wpOp
    simp only [hoi]
    rw [if_neg (by rw [hw σ' hA io w0 a w hr]; simp)]
    exact hK _ _ (hr.skip o.dst)
  unfold drawHead.drawOne at h
  split at h
  · rename_i hg
    exact run h (fun σ' hA io w0 a w hr => by simp [Region.wanted, hg])
  · rename_i g want hg
    have hW : ∀ a : Act, Region.wanted o (yielded ops.toArray a.tmps) = (yielded ops.toArray a.tmps g == some want) := fun a => by simp [Region.wanted, hg]
    have hy : ∀ a : Act, yielded ops.toArray a.tmps g = match (guardReg ops g).bind (a.tmps[·]?) with
        | some (.bool b) => some b
        | _ => none := by
      intro a
      unfold yielded
      rw [guardReg_toArray]
      rfl
    split at h
    · rename_i hgr
      refine skip h (fun σ' hA io w0 a w hr => ?_)
      rw [hW, hy, hgr]
      rfl
    · rename_i d hgr
      have hd : d ∈ usesG ops o := List.mem_append.2 (.inl (by simp [guardT, hg, hgr]))
      split at h
      · rename_i b hb
        have hyb : ∀ (σ' : St N), AgreeG ops o σ σ' → ∀ io w0 a w, Rel io w0 σ' a w → yielded ops.toArray a.tmps g = some b := by
          rintro σ' hA io w0 a w ⟨E, hrE⟩
          obtain ⟨hv, hlt⟩ := reg_slot hrE ((hA.regs d hd).trans hb) (by simp)
          have hv : a.tmps.getD d undef = .bool b := hv
          rw [hy, hgr]
          simp only [Option.bind_some]
          rw [Array.getD_eq_getD_getElem?, Array.getElem?_eq_getElem hlt] at hv
          rw [Array.getElem?_eq_getElem hlt]
          simp only [Option.getD_some] at hv
          rw [hv]
        cases want with
        | true =>
          simp only [cond_true] at h
          cases b with
          | true => exact run h (fun σ' hA io w0 a w hr => by rw [hW, hyb σ' hA io w0 a w hr]; rfl)
          | false => exact skip h (fun σ' hA io w0 a w hr => by rw [hW, hyb σ' hA io w0 a w hr]; rfl)
        | false =>
          simp only [cond_false] at h
          cases b with
          | true => exact skip h (fun σ' hA io w0 a w hr => by rw [hW, hyb σ' hA io w0 a w hr]; rfl)
          | false => exact run h (fun σ' hA io w0 a w hr => by rw [hW, hyb σ' hA io w0 a w hr]; rfl)
      · rename_i hb
        refine skip h (fun σ' hA io w0 a w hr => ?_)
        obtain ⟨E, hrE⟩ := hr
        obtain ⟨⟨vs, hv, hl, _⟩, hlt⟩ := reg_slot hrE ((hA.regs d hd).trans hb) (by simp)
        rw [hW, hy, hgr]
        simp only [Option.bind_some]
        rw [Array.getD_eq_getD_getElem?, Array.getElem?_eq_getElem hlt] at hv
        rw [Array.getElem?_eq_getElem hlt]
        simp only [Option.getD_some] at hv
        rw [hv]
        rfl
      · cases h

/-! Any order. -/
structure DrawOk (ops : List Oper) (m : Nat) : Prop where
  fwd : ∀ i, i < ops.length → ∀ k ∈ predsOf ops i, k < i
  uses : ∀ i j o o', i < m → j < m → ops[i]? = some o → ops[j]? = some o' → ∀ d, o'.dst = some d → d ∈ usesG ops o → i = j ∨ j ∈ clo ops ops.length i ∨ i ∈ clo ops ops.length j

theorem mem_preds {ops : List Oper} {i k : Nat} : k ∈ predsOf ops i ↔ ∃ o, ops[i]? = some o ∧ ∃ e ∈ o.after, Region.binds .any e = true ∧ e.on = k := by
  unfold predsOf
  cases h : ops[i]? with
  | none => simp
  | some o => simp [List.mem_map, List.mem_filter, and_assoc]

structure Inv (io : Io) (w0 : World) (ops : List Oper) (m : Nat) (σ0 : St N) (eff : Nat → Eff N) (listed : Array Bool) (seq : List Nat) (a : Act) (w : World) : Prop where
  head : HeadInv .any ops.toArray m listed
  mem : ∀ j, j < ops.length → (listed.getD j false = true ↔ j ∈ seq)
  lt : ∀ j ∈ seq, j < m
  nodup : seq.Nodup
  rel : Rel io w0 (sq σ0 eff seq) a w

theorem range_le : ∀ (m : Nat) (l : List Nat), (∀ i, i < m → i ∈ l) → m ≤ l.length
  | 0, l, _ => Nat.zero_le _
  | m + 1, l, h => by
    have h1 : m ∈ l := h m (by omega)
    have h2 := range_le m (l.erase m) (fun i hi => (List.mem_erase_of_ne (by omega)).2 (h i (by omega)))
    rw [List.length_erase_of_mem h1] at h2
    have := List.length_pos_of_mem h1
    omega

theorem getD_bool {listed : Array Bool} {i : Nat} (hi : i < listed.size) : listed.getD i true = listed.getD i false := by
  simp [hi]

theorem wpAny_draw {ops : List Oper} {m g : Nat} {σ0 : St N} {eff : Nat → Eff N} {io : Io} {w0 : World} {Q : Exit → Act → World → Prop} (hm : m ≤ ops.length) (hD : DrawOk ops m) (hE : EffsOk σ0 eff m)
    (hH : ∀ i, i < m → ∃ o, ops[i]? = some o ∧ HeadOp P ops i o (sq σ0 eff (clo ops ops.length i)) (eff i))
    (htail : m < ops.length → Region.sinkB .any ops.toArray m = true ∧ Region.chainB .any ops.toArray m = true)
    (hend : ∀ listed seq a w, Inv io w0 ops m σ0 eff listed seq a w → seq.length = m → wpAny P .any ops.toArray Q g listed a w) :
    ∀ (f : Nat) (listed : Array Bool) (seq : List Nat) (a : Act) (w : World), f + seq.length = m → Inv io w0 ops m σ0 eff listed seq a w → wpAny P .any ops.toArray Q (f + g) listed a w
  | 0, listed, seq, a, w, hf, hI => by
    rw [Nat.zero_add]
    exact hend listed seq a w hI (by omega)
  | f + 1, listed, seq, a, w, hf, hI => by
    have hsz : listed.size = ops.length := by have := hI.head.size; simpa using this
    -- some operation of the head is open
    obtain ⟨i0, hi0, hun0, hpre0⟩ : ∃ i, i < m ∧ listed.getD i false = false ∧ ∀ k, k < i → listed.getD k false = true := by
      have hex : ∃ i, i < m ∧ listed.getD i false = false := by
        apply Classical.byContradiction
        intro hno
        have hall : ∀ i, i < m → i ∈ seq := fun i hi => by
          rw [← hI.mem i (by omega)]
          cases h : listed.getD i false with
          | true => rfl
          | false => exact absurd ⟨i, hi, h⟩ hno
        have := range_le m seq hall
        omega
      obtain ⟨i, hi⟩ := hex
      induction i using Nat.strongRecOn with
      | _ i ih =>
        by_cases h : ∃ k, k < i ∧ listed.getD k false = false
        · obtain ⟨k, hk, hk2⟩ := h
          exact ih k hk ⟨by omega, hk2⟩
        · refine ⟨i, hi.1, hi.2, fun k hk => ?_⟩
          cases h2 : listed.getD k false with
          | true => rfl
          | false => exact absurd ⟨k, hk, h2⟩ h
    have hi0s : i0 < listed.size := by omega
    have hready0 : i0 ∈ Region.ready .any ops.toArray listed := by
      rw [mem_ready]
      refine ⟨by rw [getD_bool hi0s]; exact hun0, ?_⟩
      have hlt : i0 < ops.length := by omega
      refine ⟨ops[i0], by simp [hlt], fun e he hb => ?_⟩
      exact hpre0 _ (hD.fwd i0 hlt e.on (mem_preds.2 ⟨_, by simp [hlt], e, he, hb, rfl⟩))
    rw [show f + 1 + g = (f + g) + 1 from by omega]
    refine ⟨(fun h0 => by rw [h0] at hready0; cases hready0), fun i hi => ?_⟩
    obtain ⟨hun, oi, hoi, hall⟩ := mem_ready.1 hi
    have hoi' : ops[i]? = some oi := by rw [List.getElem?_toArray] at hoi; exact hoi
    have hilt : i < ops.length := (List.getElem?_eq_some_iff.1 hoi').1
    have him : i < m := by
      rcases Nat.lt_or_ge i m with h | h
      · exact h
      · have hml : m < ops.length := by omega
        obtain ⟨hs, hc⟩ := htail hml
        exact absurd hi (tail_waits hs hc (by simpa using hml) hI.head (m - i0) i0 rfl hi0 (by rw [getD_bool hi0s]; exact hun0) i h)
    have hins : i ∉ seq := fun hm' => by
      have := (hI.mem i hilt).2 hm'
      rw [← getD_bool (by omega)] at this
      rw [this] at hun
      cases hun
    have hclosed : ∀ j, j ∈ seq → ∀ k ∈ predsOf ops j, k ∈ seq := by
      intro j hj k hk
      obtain ⟨oj, hoj, e, he, hb, rfl⟩ := mem_preds.1 hk
      have hjl : j < ops.length := (List.getElem?_eq_some_iff.1 hoj).1
      have h1 := hI.head.closed j oj (by rw [List.getElem?_toArray]; exact hoj) ((hI.mem j hjl).2 hj) e he hb
      exact (hI.mem e.on (Nat.lt_trans (hD.fwd j hjl e.on hk) hjl)).1 h1
    have hpreds : ∀ k ∈ predsOf ops i, k ∈ seq := by
      intro k hk
      obtain ⟨oj, hoj, e, he, hb, rfl⟩ := mem_preds.1 hk
      have : oj = oi := Option.some.inj (hoj.symm.trans hoi')
      subst this
      exact (hI.mem e.on (Nat.lt_trans (hD.fwd i hilt e.on hk) hilt)).1 (hall e he hb)
    have hclo : ∀ k ∈ clo ops ops.length i, k ∈ seq := clo_sub (S := fun k => k ∈ seq) hclosed _ i hpreds
    have hcloj : ∀ j ∈ seq, ∀ k ∈ clo ops ops.length j, k ∈ seq := fun j hj => clo_sub (S := fun k => k ∈ seq) hclosed _ j (hclosed j hj)
    have hback : ∀ j, j < ops.length → ∀ k ∈ clo ops ops.length j, k < j := fun j hj => clo_sub (S := fun k => k < j) (fun k hk l hl => Nat.lt_trans (hD.fwd k (by omega) l hl) hk) _ j (hD.fwd j hj)
    have hclom : ∀ k ∈ clo ops ops.length i, k < m := fun k hk => Nat.lt_trans (hback i hilt k hk) him
    obtain ⟨o, ho, hdst, hop⟩ := hH i him
    have : o = oi := Option.some.inj (ho.symm.trans hoi')
    subst this
    have hA : AgreeG ops o (sq σ0 eff (clo ops ops.length i)) (sq σ0 eff seq) := by
      refine ⟨fun t ht => ?_, fun id b hb => ?_, by rw [sq_regs, sq_regs]⟩
      · have r1 := sq_reg hE (t := t) hI.lt
        have r2 := sq_reg hE (t := t) hclom
        by_cases hx : ∃ j, j < m ∧ (eff j).dst = some t
        · obtain ⟨j, hj, hjd⟩ := hx
          obtain ⟨oj, hoj, hdj, _⟩ := hH j hj
          by_cases hjs : j ∈ seq
          · rw [r1.1 j hjs hjd]
            by_cases hjc : j ∈ clo ops ops.length i
            · rw [r2.1 j hjc hjd]
            · exfalso
              rcases hD.uses i j o oj him hj ho hoj t (by rw [← hdj]; exact hjd) ht with h | h | h
              · subst h; exact hins hjs
              · exact hjc h
              · exact hins (hcloj j hjs i h)
          · have hjc : j ∉ clo ops ops.length i := fun h => hjs (hclo j h)
            have u : ∀ (L : List Nat), (∀ k ∈ L, k < m) → j ∉ L → ∀ k ∈ L, (eff k).dst ≠ some t := fun L hL hjL k hk hkd => hjL (by rw [hE.one j k hj (hL k hk) t hjd hkd]; exact hk)
            rw [r1.2 (u seq hI.lt hjs), r2.2 (u _ hclom hjc)]
        · have u : ∀ (L : List Nat), (∀ k ∈ L, k < m) → ∀ k ∈ L, (eff k).dst ≠ some t := fun L hL k hk hkd => hx ⟨k, hL k hk, hkd⟩
          rw [r1.2 (u seq hI.lt), r2.2 (u _ hclom)]
      · have r1 := sq_own hE (id := id) hI.lt
        have r2 := sq_own hE (id := id) hclom
        by_cases hx : ∃ j ∈ clo ops ops.length i, ∃ b', look (eff j).ad id = some b'
        · obtain ⟨j, hj, b', hb'⟩ := hx
          rw [r2.1 j hj b' hb'] at hb
          rw [r1.1 j (hclo j hj) b' hb']
          exact hb
        · have hn : ∀ j ∈ clo ops ops.length i, look (eff j).ad id = none := fun j hj => by
            cases h : look (eff j).ad id with
            | none => rfl
            | some b' => exact absurd ⟨j, hj, b', h⟩ hx
          rw [r2.2 hn] at hb
          have hn1 : ∀ j ∈ seq, look (eff j).ad id = none := fun j hj => by
            cases h : look (eff j).ad id with
            | none => rfl
            | some b' =>
              have := hE.fresh j (hI.lt j hj) id b' h
              rw [hb] at this
              cases this
          rw [r1.2 hn1]
          exact hb
    have hfr : ∀ p ∈ (eff i).ad, look (sq σ0 eff seq).own p.1 = none := by
      intro p hp
      have hsome : ∃ b, look (eff i).ad p.1 = some b := look_of_mem hp
      obtain ⟨b, hb⟩ := hsome
      have r1 := sq_own hE (id := p.1) hI.lt
      rw [r1.2 (fun j hj => by
        cases h : look (eff j).ad p.1 with
        | none => rfl
        | some b' => exact absurd (hE.ids i j him (hI.lt j hj) p.1 b b' hb h) (fun e => hins (e ▸ hj)))]
      exact hE.fresh i him p.1 b hb
    refine hop (sq σ0 eff seq) hA hfr io w0 a w _ _ hI.rel (fun a' w' hr => ?_)
    refine wpAny_draw hm hD hE hH htail hend f (listed.setIfInBounds i true) (i :: seq) a' w' (by simp only [List.length_cons]; omega) ⟨hI.head.set hi him, fun j hj => ?_, fun j hj => ?_, List.nodup_cons.2 ⟨hins, hI.nodup⟩, hr⟩
    · by_cases hij : i = j
      · subst hij
        simp [hsz, hj]
      · rw [getD_set_ne false hij, hI.mem j hj, List.mem_cons]
        exact ⟨.inr, fun h => h.resolve_left (fun e => hij e.symm)⟩
    · rcases List.mem_cons.1 hj with rfl | hj
      · exact him
      · exact hI.lt j hj
where
  look_of_mem {β : Type} : ∀ {l : List (Nat × β)} {p : Nat × β}, p ∈ l → ∃ b, look l p.1 = some b
    | [], p, h => by cases h
    | (k, v) :: r, p, h => by
      unfold look
      cases hk : (k == p.1) with
      | true => exact ⟨v, rfl⟩
      | false =>
        rcases List.mem_cons.1 h with rfl | h
        · simp at hk
        · exact look_of_mem h

end Go.Eng
