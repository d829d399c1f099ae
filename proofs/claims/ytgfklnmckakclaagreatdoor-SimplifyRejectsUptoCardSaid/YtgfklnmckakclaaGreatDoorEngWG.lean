/- The engine, part WG: regions whose order is open, with stores into boxes that the region itself makes and that nothing else of the region reads. -/
import Derived.Test.YtgfklnmckakclaaGreatDoorEngWF
set_option linter.unusedVariables false
set_option linter.unusedSimpArgs false
namespace Go.Eng
variable {N : Names} {P : Program} {τ : TypeId → Option TI} {β : Type}

/-- An order in which everything stands behind what must go before. -/
inductive Lin (ops : List Oper) : List Nat → Prop
  | nil : Lin ops []
  | cons {j : Nat} {L : List Nat} : (∀ k ∈ clo ops ops.length j, k ∈ L) → j ∉ L → Lin ops L → Lin ops (j :: L)

theorem Lin.closed {ops : List Oper} : ∀ {L : List Nat}, Lin ops L → ∀ j ∈ L, ∀ k ∈ clo ops ops.length j, k ∈ L
  | _, .nil, j, hj => by cases hj
  | _, .cons h1 h2 h3, j, hj => by
    intro k hk
    rcases List.mem_cons.1 hj with rfl | hj
    · exact List.mem_cons_of_mem _ (h1 k hk)
    · exact List.mem_cons_of_mem _ (h3.closed j hj k hk)

/-- Only j of the list touches id. -/
theorem sq_one {σ0 : St N} {eff : Nat → Eff N} {id j : Nat} {b : Blk N} (hb : look (eff j).ad id = some b) : ∀ {L : List Nat}, j ∈ L → (∀ i ∈ L, ∀ b', look (eff i).ad id = some b' → i = j) → look (sq σ0 eff L).own id = some b
  | [], hj, _ => by cases hj
  | i :: L, hj, hu => by
    have hr : look (sq σ0 eff (i :: L)).own id = match look (eff i).ad id with
        | some b => some b
        | none => look (sq σ0 eff L).own id := applyE_own _ _ _
    rw [hr]
    cases hi : look (eff i).ad id with
    | some b' =>
      have := hu i List.mem_cons_self b' hi
      subst this
      rw [hb] at hi
      exact hi.symm
    | none =>
      rcases List.mem_cons.1 hj with rfl | hj
      · rw [hb] at hi; cases hi
      · exact sq_one hb hj (fun i hi => hu i (List.mem_cons_of_mem _ hi))

/-- j is the last that touches id. -/
theorem sq_last {σ0 : St N} {eff : Nat → Eff N} {ops : List Oper} {id j : Nat} {b : Blk N} (hb : look (eff j).ad id = some b) : ∀ {L : List Nat}, Lin ops L → j ∈ L → (∀ i ∈ L, ∀ b', look (eff i).ad id = some b' → i = j ∨ i ∈ clo ops ops.length j) → look (sq σ0 eff L).own id = some b
  | _, .nil, hj, _ => by cases hj
  | i :: L, .cons h1 h2 h3, hj, hu => by
    have hr : look (sq σ0 eff (i :: L)).own id = match look (eff i).ad id with
        | some b => some b
        | none => look (sq σ0 eff L).own id := applyE_own _ _ _
    rw [hr]
    cases hi : look (eff i).ad id with
    | some b' =>
      rcases hu i List.mem_cons_self b' hi with rfl | hc
      · rw [hb] at hi
        exact hi.symm
      · rcases List.mem_cons.1 hj with rfl | hj
        · rw [hb] at hi
          exact hi.symm
        · exact absurd (h3.closed j hj i hc) h2
    | none =>
      rcases List.mem_cons.1 hj with rfl | hj
      · rw [hb] at hi; cases hi
      · exact sq_last hb h3 hj (fun i hi => hu i (List.mem_cons_of_mem _ hi))

theorem sq_none {σ0 : St N} {eff : Nat → Eff N} {id : Nat} : ∀ {L : List Nat}, (∀ i ∈ L, look (eff i).ad id = none) → look (sq σ0 eff L).own id = look σ0.own id
  | [], _ => rfl
  | i :: L, hu => by
    have hr : look (sq σ0 eff (i :: L)).own id = match look (eff i).ad id with
        | some b => some b
        | none => look (sq σ0 eff L).own id := applyE_own _ _ _
    rw [hr, hu i List.mem_cons_self]
    exact sq_none (fun i hi => hu i (List.mem_cons_of_mem _ hi))

/-- The effects, with ids that an allocation and a store share. -/
structure EffsW (ops : List Oper) (σ0 : St N) (eff : Nat → Eff N) (m : Nat) : Prop where
  dst : ∀ j, j < m → ∀ d, (eff j).dst = some d → d < σ0.regs.length
  one : ∀ i j, i < m → j < m → ∀ d, (eff i).dst = some d → (eff j).dst = some d → i = j
  ids : ∀ i j, i < m → j < m → ∀ id b b', look (eff i).ad id = some b → look (eff j).ad id = some b' → i = j ∨ i ∈ clo ops ops.length j ∨ j ∈ clo ops ops.length i
  fresh : ∀ j, j < m → ∀ id b, look (eff j).ad id = some b → look σ0.own id = none

theorem sqW_reg {ops : List Oper} {σ0 : St N} {eff : Nat → Eff N} {m : Nat} (h : EffsW ops σ0 eff m) {t : Nat} : ∀ {L : List Nat}, (∀ j ∈ L, j < m) → (∀ j ∈ L, (eff j).dst = some t → (sq σ0 eff L).reg t = (eff j).s) ∧ ((∀ j ∈ L, (eff j).dst ≠ some t) → (sq σ0 eff L).reg t = σ0.reg t)
  | [], _ => ⟨(fun j hj => by cases hj), fun _ => rfl⟩
  | i :: L, hL => by
    have ih := sqW_reg h (L := L) (t := t) (fun j hj => hL j (List.mem_cons_of_mem _ hj))
    have hr : (sq σ0 eff (i :: L)).reg t = if (eff i).dst = some t then (eff i).s else (sq σ0 eff L).reg t :=
      applyE_reg (fun d hd => by rw [sq_regs]; exact h.dst i (hL i List.mem_cons_self) d hd) t
    rw [hr]
    refine ⟨fun j hj hd => ?_, fun hn => ?_⟩
    · by_cases hi : (eff i).dst = some t
      · rw [if_pos hi, h.one i j (hL i List.mem_cons_self) (hL j hj) t hi hd]
      · rw [if_neg hi]
        rcases List.mem_cons.1 hj with rfl | hj
        · exact absurd hd hi
        · exact ih.1 j hj hd
    · rw [if_neg (hn i List.mem_cons_self)]
      exact ih.2 (fun j hj => hn j (List.mem_cons_of_mem _ hj))

/-- What is carried out when operation i is next. -/
structure Before (ops : List Oper) (m i : Nat) (seq : List Nat) : Prop where
  lt : ∀ j ∈ seq, j < m
  lin : Lin ops seq
  nin : i ∉ seq
  clo : ∀ k ∈ clo ops ops.length i, k ∈ seq

def StepOp (P : Program) (ops : List Oper) (m : Nat) (σ0 : St N) (eff : Nat → Eff N) (i : Nat) : Prop :=
  ∀ seq, Before ops m i seq → ∀ io w0 a w (K : Act → World → Prop) (Q : Exit → Act → World → Prop), Rel io w0 (sq σ0 eff seq) a w → (∀ a' w', Rel io w0 (sq σ0 eff (i :: seq)) a' w' → K a' w') → wpOp P ops.toArray Q i K a w

structure InvW (io : Io) (w0 : World) (ops : List Oper) (m : Nat) (σ0 : St N) (eff : Nat → Eff N) (listed : Array Bool) (seq : List Nat) (a : Act) (w : World) : Prop where
  head : HeadInv .any ops.toArray m listed
  mem : ∀ j, j < ops.length → (listed.getD j false = true ↔ j ∈ seq)
  lt : ∀ j ∈ seq, j < m
  lin : Lin ops seq
  nodup : seq.Nodup
  rel : Rel io w0 (sq σ0 eff seq) a w

theorem wpAny_drawW {ops : List Oper} {m g : Nat} {σ0 : St N} {eff : Nat → Eff N} {io : Io} {w0 : World} {Q : Exit → Act → World → Prop} (hm : m ≤ ops.length) (hfwd : ∀ i, i < ops.length → ∀ k ∈ predsOf ops i, k < i)
    (hH : ∀ i, i < m → StepOp P ops m σ0 eff i)
    (htail : m < ops.length → Region.sinkB .any ops.toArray m = true ∧ Region.chainB .any ops.toArray m = true)
    (hend : ∀ listed seq a w, InvW io w0 ops m σ0 eff listed seq a w → seq.length = m → wpAny P .any ops.toArray Q g listed a w) :
    ∀ (f : Nat) (listed : Array Bool) (seq : List Nat) (a : Act) (w : World), f + seq.length = m → InvW io w0 ops m σ0 eff listed seq a w → wpAny P .any ops.toArray Q (f + g) listed a w
  | 0, listed, seq, a, w, hf, hI => by
    rw [Nat.zero_add]
    exact hend listed seq a w hI (by omega)
  | f + 1, listed, seq, a, w, hf, hI => by
    have hsz : listed.size = ops.length := by have := hI.head.size; simpa using this
    obtain ⟨i0, hi0, hun0, hpre0⟩ : ∃ i, i < m ∧ listed.getD i false = false ∧ ∀ k, k < i → listed.getD k false = true := by
      have hex : ∃ i, i < m ∧ listed.getD i false = false := by
        apply Classical.byContradiction
        intro hno
        have hall : ∀ i, i < m → i ∈ seq := fun i hi => by
          rw [← hI.mem i (by omega)]
          cases h : listed.getD i false with
          | true => rfl
          | false => exact absurd ⟨i, hi, h⟩ hno
        have := range_le m seq hall
        omega
      obtain ⟨i, hi⟩ := hex
      induction i using Nat.strongRecOn with
      | _ i ih =>
        by_cases h : ∃ k, k < i ∧ listed.getD k false = false
        · obtain ⟨k, hk, hk2⟩ := h
          exact ih k hk ⟨by omega, hk2⟩
        · refine ⟨i, hi.1, hi.2, fun k hk => ?_⟩
          cases h2 : listed.getD k false with
          | true => rfl
          | false => exact absurd ⟨k, hk, h2⟩ h
    have hi0s : i0 < listed.size := by omega
    have hready0 : i0 ∈ Region.ready .any ops.toArray listed := by
      rw [mem_ready]
      refine ⟨by rw [getD_bool hi0s]; exact hun0, ?_⟩
      have hlt : i0 < ops.length := by omega
      refine ⟨ops[i0], by simp [hlt], fun e he hb => ?_⟩
      exact hpre0 _ (hfwd i0 hlt e.on (mem_preds.2 ⟨_, by simp [hlt], e, he, hb, rfl⟩))
    rw [show f + 1 + g = (f + g) + 1 from by omega]
    refine ⟨(fun h0 => by rw [h0] at hready0; cases hready0), fun i hi => ?_⟩
    obtain ⟨hun, oi, hoi, hall⟩ := mem_ready.1 hi
    have hoi' : ops[i]? = some oi := by rw [List.getElem?_toArray] at hoi; exact hoi
    have hilt : i < ops.length := (List.getElem?_eq_some_iff.1 hoi').1
    have him : i < m := by
      rcases Nat.lt_or_ge i m with h | h
      · exact h
      · have hml : m < ops.length := by omega
        obtain ⟨hs, hc⟩ := htail hml
        exact absurd hi (tail_waits hs hc (by simpa using hml) hI.head (m - i0) i0 rfl hi0 (by rw [getD_bool hi0s]; exact hun0) i h)
    have hins : i ∉ seq := fun hm' => by
      have := (hI.mem i hilt).2 hm'
      rw [← getD_bool (by omega)] at this
      rw [this] at hun
      cases hun
    have hclosed : ∀ j, j ∈ seq → ∀ k ∈ predsOf ops j, k ∈ seq := by
      intro j hj k hk
      obtain ⟨oj, hoj, e, he, hb, rfl⟩ := mem_preds.1 hk
      have hjl : j < ops.length := (List.getElem?_eq_some_iff.1 hoj).1
      have h1 := hI.head.closed j oj (by rw [List.getElem?_toArray]; exact hoj) ((hI.mem j hjl).2 hj) e he hb
      exact (hI.mem e.on (Nat.lt_trans (hfwd j hjl e.on hk) hjl)).1 h1
    have hpreds : ∀ k ∈ predsOf ops i, k ∈ seq := by
      intro k hk
      obtain ⟨oj, hoj, e, he, hb, rfl⟩ := mem_preds.1 hk
      have : oj = oi := Option.some.inj (hoj.symm.trans hoi')
      subst this
      exact (hI.mem e.on (Nat.lt_trans (hfwd i hilt e.on hk) hilt)).1 (hall e he hb)
    have hclo : ∀ k ∈ clo ops ops.length i, k ∈ seq := clo_sub (S := fun k => k ∈ seq) hclosed _ i hpreds
    refine hH i him seq ⟨hI.lt, hI.lin, hins, hclo⟩ io w0 a w _ _ hI.rel (fun a' w' hr => ?_)
    refine wpAny_drawW hm hfwd hH htail hend f (listed.setIfInBounds i true) (i :: seq) a' w' (by simp only [List.length_cons]; omega) ⟨hI.head.set hi him, fun j hj => ?_, fun j hj => ?_, .cons hclo hins hI.lin, List.nodup_cons.2 ⟨hins, hI.nodup⟩, hr⟩
    · by_cases hij : i = j
      · subst hij
        simp [hsz, hj]
      · rw [getD_set_ne false hij, hI.mem j hj, List.mem_cons]
        exact ⟨.inr, fun h => h.resolve_left (fun e => hij e.symm)⟩
    · rcases List.mem_cons.1 hj with rfl | hj
      · exact him
      · exact hI.lt j hj

/-- A reading or adding operation, in its turn. -/
theorem step_head {ops : List Oper} {m : Nat} {σ0 : St N} {eff : Nat → Eff N} (hm : m ≤ ops.length) (hD : DrawOk ops m) (hE : EffsW ops σ0 eff m) (hdsts : ∀ j, j < m → ∃ o, ops[j]? = some o ∧ (eff j).dst = o.dst)
    {i : Nat} (him : i < m) {o : Oper} (ho : ops[i]? = some o) (hop : HeadOp P ops i o (sq σ0 eff (clo ops ops.length i)) (eff i))
    (hno : ∀ j ∈ clo ops ops.length i, ∀ id b, look (eff j).ad id = some b → ∀ k, k < m → ∀ b', look (eff k).ad id = some b' → k = j)
    (hfr0 : ∀ j, j < m → ∀ id b b', look (eff i).ad id = some b → look (eff j).ad id = some b' → i = j ∨ i ∈ clo ops ops.length j) : StepOp P ops m σ0 eff i := by
  intro seq hB io w0 a w K Q hrel hK
  have hilt : i < ops.length := by omega
  have hback : ∀ j, j < ops.length → ∀ k ∈ clo ops ops.length j, k < j := fun j hj => clo_sub (S := fun k => k < j) (fun k hk l hl => Nat.lt_trans (hD.fwd k (by omega) l hl) hk) _ j (hD.fwd j hj)
  have hclom : ∀ k ∈ clo ops ops.length i, k < m := fun k hk => Nat.lt_trans (hback i hilt k hk) him
  have hcloj := hB.lin.closed
  obtain ⟨_, hop⟩ := hop
  have hA : AgreeG ops o (sq σ0 eff (clo ops ops.length i)) (sq σ0 eff seq) := by
    refine ⟨fun t ht => ?_, fun id b hb => ?_, by rw [sq_regs, sq_regs]⟩
    · have r1 := sqW_reg hE (t := t) hB.lt
      have r2 := sqW_reg hE (t := t) hclom
      by_cases hx : ∃ j, j < m ∧ (eff j).dst = some t
      · obtain ⟨j, hj, hjd⟩ := hx
        obtain ⟨oj, hoj, hdj⟩ := hdsts j hj
        by_cases hjs : j ∈ seq
        · rw [r1.1 j hjs hjd]
          by_cases hjc : j ∈ clo ops ops.length i
          · rw [r2.1 j hjc hjd]
          · exfalso
            rcases hD.uses i j o oj him hj ho hoj t (by rw [← hdj]; exact hjd) ht with h | h | h
            · subst h; exact hB.nin hjs
            · exact hjc h
            · exact hB.nin (hcloj j hjs i h)
        · have hjc : j ∉ clo ops ops.length i := fun h => hjs (hB.clo j h)
          have u : ∀ (L : List Nat), (∀ k ∈ L, k < m) → j ∉ L → ∀ k ∈ L, (eff k).dst ≠ some t := fun L hL hjL k hk hkd => hjL (by rw [hE.one j k hj (hL k hk) t hjd hkd]; exact hk)
          rw [r1.2 (u seq hB.lt hjs), r2.2 (u _ hclom hjc)]
      · have u : ∀ (L : List Nat), (∀ k ∈ L, k < m) → ∀ k ∈ L, (eff k).dst ≠ some t := fun L hL k hk hkd => hx ⟨k, hL k hk, hkd⟩
        rw [r1.2 (u seq hB.lt), r2.2 (u _ hclom)]
    · by_cases hx : ∃ j ∈ clo ops ops.length i, ∃ b', look (eff j).ad id = some b'
      · obtain ⟨j, hj, b', hb'⟩ := hx
        rw [sq_one hb' hj (fun k hk b2 hb2 => hno j hj id b' hb' k (hclom k hk) b2 hb2)] at hb
        rw [sq_one hb' (hB.clo j hj) (fun k hk b2 hb2 => hno j hj id b' hb' k (hB.lt k hk) b2 hb2)]
        exact hb
      · have hn : ∀ j ∈ clo ops ops.length i, look (eff j).ad id = none := fun j hj => by
          cases h : look (eff j).ad id with
          | none => rfl
          | some b' => exact absurd ⟨j, hj, b', h⟩ hx
        rw [sq_none hn] at hb
        rw [sq_none (fun j hj => by
          cases h : look (eff j).ad id with
          | none => rfl
          | some b' =>
            have := hE.fresh j (hB.lt j hj) id b' h
            rw [hb] at this
            cases this)]
        exact hb
  have hfr : ∀ p ∈ (eff i).ad, look (sq σ0 eff seq).own p.1 = none := by
    intro p hp
    obtain ⟨b, hb⟩ := wpAny_draw.look_of_mem hp
    rw [sq_none (fun j hj => by
      cases h : look (eff j).ad p.1 with
      | none => rfl
      | some b' =>
        rcases hfr0 j (hB.lt j hj) p.1 b b' hb h with e | e
        · exact absurd (e ▸ hj) hB.nin
        · exact absurd (hcloj j hj i e) hB.nin)]
    exact hE.fresh i him p.1 b hb
  exact hop (sq σ0 eff seq) hA hfr io w0 a w K Q hrel hK

theorem regs_agree {ops : List Oper} {m : Nat} {σ0 : St N} {eff : Nat → Eff N} (hm : m ≤ ops.length) (hD : DrawOk ops m) (hE : EffsW ops σ0 eff m) (hdsts : ∀ j, j < m → ∃ o, ops[j]? = some o ∧ (eff j).dst = o.dst)
    {i : Nat} (him : i < m) {o : Oper} (ho : ops[i]? = some o) {seq : List Nat} (hB : Before ops m i seq) : ∀ t ∈ usesG ops o, (sq σ0 eff seq).reg t = (sq σ0 eff (clo ops ops.length i)).reg t := by
  intro t ht
  have hilt : i < ops.length := by omega
  have hback : ∀ j, j < ops.length → ∀ k ∈ clo ops ops.length j, k < j := fun j hj => clo_sub (S := fun k => k < j) (fun k hk l hl => Nat.lt_trans (hD.fwd k (by omega) l hl) hk) _ j (hD.fwd j hj)
  have hclom : ∀ k ∈ clo ops ops.length i, k < m := fun k hk => Nat.lt_trans (hback i hilt k hk) him
  have hcloj := hB.lin.closed
  have r1 := sqW_reg hE (t := t) hB.lt
  have r2 := sqW_reg hE (t := t) hclom
  by_cases hx : ∃ j, j < m ∧ (eff j).dst = some t
  · obtain ⟨j, hj, hjd⟩ := hx
    obtain ⟨oj, hoj, hdj⟩ := hdsts j hj
    by_cases hjs : j ∈ seq
    · rw [r1.1 j hjs hjd]
      by_cases hjc : j ∈ clo ops ops.length i
      · rw [r2.1 j hjc hjd]
      · exfalso
        rcases hD.uses i j o oj him hj ho hoj t (by rw [← hdj]; exact hjd) ht with h | h | h
        · subst h; exact hB.nin hjs
        · exact hjc h
        · exact hB.nin (hcloj j hjs i h)
    · have hjc : j ∉ clo ops ops.length i := fun h => hjs (hB.clo j h)
      have u : ∀ (L : List Nat), (∀ k ∈ L, k < m) → j ∉ L → ∀ k ∈ L, (eff k).dst ≠ some t := fun L hL hjL k hk hkd => hjL (by rw [hE.one j k hj (hL k hk) t hjd hkd]; exact hk)
      rw [r1.2 (u seq hB.lt hjs), r2.2 (u _ hclom hjc)]
  · have u : ∀ (L : List Nat), (∀ k ∈ L, k < m) → ∀ k ∈ L, (eff k).dst ≠ some t := fun L hL k hk hkd => hx ⟨k, hL k hk, hkd⟩
    rw [r1.2 (u seq hB.lt), r2.2 (u _ hclom)]

/-! Nothing looks into id. -/
def Slot.bsL : Slot N → List Nat
  | .one r => r.bs
  | .tup l => l.flatMap RV.bs
structure NoId (id : Nat) (σ : St N) : Prop where
  regs : ∀ s ∈ σ.regs, id ∉ s.bsL
  own : ∀ p ∈ σ.own, id ∉ p.2.bs
def noIdB (id : Nat) (σ : St N) : Bool := σ.regs.all (fun s => !s.bsL.contains id) && σ.own.all (fun p => !p.2.bs.contains id)
def noIdE (id : Nat) (e : Eff N) : Bool := !e.s.bsL.contains id && e.ad.all (fun p => !p.2.bs.contains id)

theorem noIdB_spec {id : Nat} {σ : St N} (h : noIdB id σ = true) : NoId id σ := by
  simp only [noIdB, Bool.and_eq_true, List.all_eq_true, Bool.not_eq_true'] at h
  exact ⟨fun s hs => contains_false (h.1 s hs), fun p hp => contains_false (h.2 p hp)⟩

theorem mem_ins {β : Type} {i : Nat} {v : β} {p : Nat × β} : ∀ {l : List (Nat × β)}, p ∈ ins i v l → p = (i, v) ∨ p ∈ l
  | [], h => by simpa [ins] using h
  | (k, u) :: r, h => by
    unfold ins at h
    cases h1 : (i == k) with
    | true =>
      rw [h1, cond_true] at h
      rcases List.mem_cons.1 h with h | h
      · exact .inl h
      · exact .inr (List.mem_cons_of_mem _ h)
    | false =>
      rw [h1, cond_false] at h
      cases h2 : Nat.blt i k with
      | true =>
        rw [h2, cond_true] at h
        rcases List.mem_cons.1 h with h | h
        · exact .inl h
        · exact .inr h
      | false =>
        rw [h2, cond_false] at h
        rcases List.mem_cons.1 h with h | h
        · exact .inr (by rw [h]; exact List.mem_cons_self)
        · rcases mem_ins h with h | h
          · exact .inl h
          · exact .inr (List.mem_cons_of_mem _ h)

theorem mem_insAll {β : Type} {p : Nat × β} : ∀ {new l : List (Nat × β)}, p ∈ insAll new l → p ∈ new ∨ p ∈ l
  | [], l, h => .inr h
  | (i, v) :: r, l, h => by
    rcases mem_ins (show p ∈ ins i v (insAll r l) from h) with h | h
    · exact .inl (by rw [h]; exact List.mem_cons_self)
    · rcases mem_insAll h with h | h
      · exact .inl (List.mem_cons_of_mem _ h)
      · exact .inr h

theorem noId_applyE {id : Nat} {σ : St N} {e : Eff N} (h : NoId id σ) (he : noIdE id e = true) : NoId id (applyE σ e) := by
  simp only [noIdE, Bool.and_eq_true, List.all_eq_true, Bool.not_eq_true'] at he
  have hown : ∀ p ∈ insAll e.ad σ.own, id ∉ p.2.bs := fun p hp => by
    rcases mem_insAll hp with hp | hp
    · exact contains_false (he.2 p hp)
    · exact h.own p hp
  unfold applyE
  cases hd : e.dst with
  | none => exact ⟨h.regs, hown⟩
  | some d =>
    refine ⟨fun s hs => ?_, hown⟩
    rcases List.mem_or_eq_of_mem_set (show s ∈ σ.regs.set d e.s from hs) with hs | hs
    · exact h.regs s hs
    · rw [hs]; exact contains_false he.1

theorem noId_sq {id m : Nat} {σ0 : St N} {eff : Nat → Eff N} (h0 : NoId id σ0) (he : ∀ j, j < m → noIdE id (eff j) = true) : ∀ {L : List Nat}, (∀ j ∈ L, j < m) → NoId id (sq σ0 eff L)
  | [], _ => h0
  | j :: L, hL => noId_applyE (noId_sq h0 he (fun k hk => hL k (List.mem_cons_of_mem _ hk))) (he j (hL j List.mem_cons_self))

theorem scrub_same {id : Nat} {s : Slot N} (h : id ∉ s.bsL) : Slot.map (scrub id) s = s := by
  have one : ∀ r : RV N, id ∉ r.bs → scrub id r = r := fun r hr => by
    unfold scrub
    rw [show r.bs.contains id = false from by
      cases hc : r.bs.contains id with
      | false => rfl
      | true => exact absurd (List.contains_iff_mem.1 hc) hr]
    rfl
  cases s with
  | one r => simp only [Slot.map, one r h]
  | tup l =>
    simp only [Slot.map]
    congr 1
    rw [List.map_congr_left (g := fun r => r) (fun r hr => one r (fun hm => h (List.mem_flatMap.2 ⟨r, hr, hm⟩)))]
    simp

/-- What a late store writes. -/
def drawStore (τ : TypeId → Option TI) (σ : St N) (o : Oper) (k : KK N β) : Option β :=
  match o.op with
  | .store t (.tmp d) y => match o.guard with
    | some _ => none
    | none => match o.dst with
      | some _ => none
      | none => match σ.reg d with
        | .one (.bptr id 0) => match look σ.own id with
          | some (.whole tb x0 []) => match τ t with
            | some ⟨tv, _⟩ => bif decide (tv = tb) && (!loose (ev σ y) && !isNilR (ev σ y)) then match toDen ([] : List (Nat × Blk N)) tb (ev σ y) with
              | some (v, b) => bif b.contains id then none else k (.tup []) [(id, .whole tb v b)]
              | none => none
              else none
            | none => none
          | _ => none
        | _ => none
  | _ => none

theorem toDen_any {own own' : List (Nat × Blk N)} {t : Ty} {r : RV N} (h : loose r = false) : toDen own t r = toDen own' t r := by
  cases r <;> first | rfl | cases h

theorem step_store (F : Fits P N τ) {Φ : FuncId → Option (Spec N)} (hΦ : ∀ f S, Φ f = some S → Good P f S) {ops : List Oper} {m : Nat} {σ0 : St N} {eff : Nat → Eff N} (hm : m ≤ ops.length) (hD : DrawOk ops m) (hE : EffsW ops σ0 eff m) (hdsts : ∀ j, j < m → ∃ o, ops[j]? = some o ∧ (eff j).dst = o.dst)
    {i : Nat} (him : i < m) {o : Oper} (ho : ops[i]? = some o) {k : KK N β} {r : β} (h : drawStore τ (sq σ0 eff (clo ops ops.length i)) o k = some r)
    (htouch : ∀ id b, look (eff i).ad id = some b → ∀ a ∈ clo ops ops.length i, ∀ b1, look (eff a).ad id = some b1 → ∀ j, j < m → ∀ b2, look (eff j).ad id = some b2 → j = a ∨ j = i)
    (hno : ∀ id b, look (eff i).ad id = some b → NoId id σ0 ∧ ∀ j, j < m → noIdE id (eff j) = true) :
    ∃ s ad, k s ad = some r ∧ (eff i = ⟨none, s, ad⟩ → o.dst = none ∧ StepOp P ops m σ0 eff i) := by
  have hilt : i < ops.length := by omega
  have hback : ∀ j, j < ops.length → ∀ k ∈ clo ops ops.length j, k < j := fun j hj => clo_sub (S := fun k => k < j) (fun k hk l hl => Nat.lt_trans (hD.fwd k (by omega) l hl) hk) _ j (hD.fwd j hj)
  unfold drawStore at h
  split at h
  · rename_i t d y hop
    split at h
    · cases h
    · rename_i hg
      split at h
      · cases h
      · rename_i hdst
        split at h
        · rename_i id hreg
          split at h
          · rename_i tb x0 hlk
            split at h
            · rename_i tv e hτ
              obtain ⟨hc, h⟩ := bif_none h
              simp only [Bool.and_eq_true, decide_eq_true_eq, Bool.not_eq_true'] at hc
              obtain ⟨rfl, hlo, hni⟩ := hc
              split at h
              · rename_i v b hv
                cases hbid : b.contains id with
                | true => rw [hbid] at h; cases h
                | false =>
                  rw [hbid, cond_false] at h
                  refine ⟨_, _, h, fun heff => ⟨hdst, ?_⟩⟩
                  have hti : look (eff i).ad id = some (.whole tv v b) := by rw [heff]; simp [look]
                  -- the allocation
                  obtain ⟨a, ha, b1, hb1⟩ : ∃ a ∈ clo ops ops.length i, ∃ b1, look (eff a).ad id = some b1 := by
                    apply Classical.byContradiction
                    intro hn
                    rw [sq_none (fun j hj => by
                      cases hl : look (eff j).ad id with
                      | none => rfl
                      | some b1 => exact absurd ⟨j, hj, b1, hl⟩ hn)] at hlk
                    rw [hE.fresh i him id _ hti] at hlk
                    cases hlk
                  have hal : a < i := hback i hilt a ha
                  have hout := htouch id _ hti a ha b1 hb1
                  have hlk' := sq_one (σ0 := σ0) hb1 ha (fun j hj b2 hb2 => by
                    have hji := hback i hilt j hj
                    rcases hout j (by omega) b2 hb2 with e | e
                    · exact e
                    · omega)
                  rw [hlk] at hlk'
                  cases hlk'
                  intro seq hB io w0 ac w K Q hrel hK
                  have hregs := regs_agree hm hD hE hdsts him ho hB
                  have hud : ∀ t', (Operand.tmp t') ∈ o.op.operands.toList → t' ∈ usesG ops o := fun t' ht' => List.mem_append.2 (.inr (List.mem_filterMap.2 ⟨_, ht', rfl⟩))
                  have hregd : (sq σ0 eff seq).reg d = .one (.bptr id 0) := by
                    rw [hregs d (hud d (by rw [hop]; simp [Op.operands]))]
                    exact hreg
                  have hevy : ev (sq σ0 eff seq) y = ev (sq σ0 eff (clo ops ops.length i)) y := by
                    cases y with
                    | tmp t' => simp only [Eng.ev, hregs t' (hud t' (by rw [hop]; simp [Op.operands]))]
                    | const c => exact ev_const _ _ c
                    | _ => rfl
                  have hown : look (sq σ0 eff seq).own id = some (.whole tv x0 []) := sq_one hb1 (hB.clo a ha) (fun j hj b2 hb2 => by
                    rcases hout j (hB.lt j hj) b2 hb2 with e | e
                    · exact e
                    · exact absurd (e ▸ hj) hB.nin)
                  obtain ⟨hn0, hne⟩ := hno id _ hti
                  have hNo : NoId id (sq σ0 eff seq) := noId_sq hn0 hne hB.lt
                  have hnb : noBs' (sq σ0 eff seq).own id = true := by
                    unfold noBs'
                    rw [List.all_eq_true]
                    intro p hp
                    have := hNo.own p hp
                    simp only [Bool.or_eq_true, Bool.not_eq_true']
                    right
                    cases hcc : p.2.bs.contains id with
                    | false => rfl
                    | true => exact absurd (List.contains_iff_mem.1 hcc) this
                  have hupd : updAt (⟨tv, v⟩ : TV N) 8 tv x0 0 = some v := by
                    simp [updAt, castTy]
                  have hev : evOp τ Φ o (sq σ0 eff seq) (fun σ => some σ) = some { regs := (sq σ0 eff seq).regs.map (Slot.map (scrub id)), own := ins id (.whole tv v b) (sq σ0 eff seq).own } := by
                    have e1 : ev (sq σ0 eff seq) (.tmp d) = .bptr id 0 := by simp only [Eng.ev, hregd]
                    have e2 : (loose (ev (sq σ0 eff seq) y) || isNilR (ev (sq σ0 eff seq) y)) = false := by rw [hevy, hlo, hni]; rfl
                    have e3 : toDen (sq σ0 eff seq).own tv (ev (sq σ0 eff seq) y) = some (v, b) := by rw [hevy, toDen_any (own' := []) hlo]; exact hv
                    unfold evOp
                    rw [hop]
                    simp only [evStore, hτ, e1, hown, e2, cond_false, e3, hnb, List.nil_append, hbid, Bool.not_false, Bool.and_self, cond_true, hupd, hdst, St.put]
                  obtain ⟨σ1, h1, h2⟩ := evOp_sound F hΦ hev
                  cases h1
                  unfold wpOp
                  have hoi : (ops.toArray)[i]? = some o := by rw [List.getElem?_toArray]; exact ho
                  simp only [hoi]
                  rw [if_pos (by simp [Region.wanted, hg])]
                  refine .inl (h2 io w0 ac w K Q hrel (fun a' w' hr => hK a' w' ?_))
                  obtain ⟨E', hE'⟩ := hr
                  have hregeq : (sq σ0 eff seq).regs.map (Slot.map (scrub id)) = (sq σ0 eff seq).regs := by
                    rw [List.map_congr_left (g := fun s => s) (fun s hs => scrub_same (hNo.regs s hs))]
                    simp
                  refine ⟨E', hE'.same ?_ (fun t' => ?_) (fun j => ?_)⟩
                  · simp only [sq, applyE_regs, List.length_map]
                  · simp only [sq, St.reg, hregeq]
                    rw [heff]
                    rfl
                  · simp only [sq]
                    rw [applyE_own, look_ins, heff]
                    simp only [look]
                    by_cases hj : id = j
                    · simp [hj]
                    · have : (id == j) = false := by simpa using hj
                      simp [this, hj]
              · cases h
            · cases h
          · cases h
        · cases h
  · cases h

/-! A region whose order is open, with late stores, followed. -/
def isStoreO (o : Oper) : Bool := match o.op with
  | .store .. => true
  | _ => false
def headLenW : List Oper → Nat
  | [] => 0
  | o :: r => bif isE o || isStoreO o then headLenW r + 1 else 0

def drawHeadW (τ : TypeId → Option TI) (Φ : FuncId → Option (Spec N)) (ops : List Oper) (σ0 : St N) : List Oper → List (Eff N) → (List (Eff N) → Option β) → Option β
  | [], effs, k => k effs
  | o :: rest, effs, k => bif isStoreO o then
      drawStore τ (sq σ0 (effAt effs) (clo ops ops.length effs.length)) o fun s ad => drawHeadW τ Φ ops σ0 rest (effs ++ [⟨none, s, ad⟩]) k
    else
      drawHead.drawOne τ Φ ops (sq σ0 (effAt effs) (clo ops ops.length effs.length)) o fun s ad => splitB (asked effs.length ops) s fun s => drawHeadW τ Φ ops σ0 rest (effs ++ [⟨o.dst, s, ad⟩]) k

def storeAt (ops : List Oper) (i : Nat) : Bool := match ops[i]? with
  | some o => isStoreO o
  | none => false
def idsE (e : Eff N) : List Nat := e.ad.map (·.1)
def effsChkW (ops : List Oper) (σ0 : St N) (effs : List (Eff N)) : Bool :=
  (effDsts effs).all (fun d => Nat.blt d σ0.regs.length) && nodupB (effDsts effs) && freshIds σ0.own (effIds effs) &&
  allLt (fun i => allLt (fun j => !meets (idsE (effAt effs i)) (idsE (effAt effs j)) || (storeAt ops i && !storeAt ops j && (clo ops ops.length i).contains j)) i) effs.length &&
  allLt (fun i => storeAt ops i || (clo ops ops.length i).all fun j => allLt (fun k => Nat.beq k j || !meets (idsE (effAt effs j)) (idsE (effAt effs k))) effs.length) effs.length &&
  allLt (fun i => !storeAt ops i || (idsE (effAt effs i)).all fun id => noIdB id σ0 && effs.all (noIdE id)) effs.length

def execDrawW (τ : TypeId → Option TI) (Φ : FuncId → Option (Spec N)) (ops : List Oper) (σ0 : St N) (k : St N → Option β) : Option β :=
  bif statOk ops (headLenW ops) then
    drawHeadW τ Φ ops σ0 (ops.take (headLenW ops)) [] fun effs =>
      bif effsChkW ops σ0 effs then execOps τ Φ ops (ops.drop (headLenW ops)) (sq σ0 (effAt effs) (downTo (headLenW ops))) k else none
  else none

/-- A region whose order is open. -/
def execDrawX (τ : TypeId → Option TI) (Φ : FuncId → Option (Spec N)) (ops : List Oper) (σ0 : St N) (k : St N → Option β) : Option β :=
  bif statOk ops (headLen ops) then execDraw τ Φ ops σ0 k else execDrawW τ Φ ops σ0 k

theorem headLenW_le : ∀ (ops : List Oper), headLenW ops ≤ ops.length
  | [] => Nat.le_refl _
  | o :: r => by
    unfold headLenW
    cases isE o || isStoreO o with
    | true => simpa using headLenW_le r
    | false => simp

theorem look_idsE {e : Eff N} {id : Nat} {b : Blk N} (h : look e.ad id = some b) : id ∈ idsE e := List.mem_map.2 ⟨_, look_mem h, rfl⟩

/-- What is known of the whole of the effects. -/
structure ChkW (ops : List Oper) (σ0 : St N) (eff : Nat → Eff N) (m : Nat) : Prop where
  dst : ∀ j, j < m → ∀ d, (eff j).dst = some d → d < σ0.regs.length
  one : ∀ i j, i < m → j < m → ∀ d, (eff i).dst = some d → (eff j).dst = some d → i = j
  fresh : ∀ j, j < m → ∀ id b, look (eff j).ad id = some b → look σ0.own id = none
  share : ∀ i j, i < m → j < i → ∀ id b b', look (eff i).ad id = some b → look (eff j).ad id = some b' → storeAt ops i = true ∧ storeAt ops j = false ∧ j ∈ clo ops ops.length i
  alone : ∀ i, i < m → storeAt ops i = false → ∀ j ∈ clo ops ops.length i, ∀ id b, look (eff j).ad id = some b → ∀ k, k < m → ∀ b', look (eff k).ad id = some b' → k = j
  noId : ∀ i, i < m → storeAt ops i = true → ∀ id b, look (eff i).ad id = some b → NoId id σ0 ∧ ∀ j, j < m → noIdE id (eff j) = true

theorem chkW_of {ops : List Oper} {σ0 : St N} {effs : List (Eff N)} (h : effsChkW ops σ0 effs = true) : ChkW ops σ0 (effAt effs) effs.length := by
  simp only [effsChkW, Bool.and_eq_true] at h
  obtain ⟨⟨⟨⟨⟨h1, h2⟩, h3⟩, h4⟩, h5⟩, h6⟩ := h
  have h2 := nodupB_spec h2
  have h3 := freshIds_spec h3
  rw [effDsts_eq] at h1 h2
  rw [effIds_eq] at h3
  have meet : ∀ {e e' : Eff N} {id : Nat} {b b' : Blk N}, look e.ad id = some b → look e'.ad id = some b' → meets (idsE e) (idsE e') = false → False := fun hb hb' hm => meets_false hm _ (look_idsE hb') (look_idsE hb)
  refine ⟨fun j hj d hd => ?_, fun i j hi hj d h7 h8 => ?_, fun j hj id b hb => ?_, fun i j hi hj id b b' hb hb' => ?_, fun i hi hs j hj id b hb k hk b' hb' => ?_, fun i hi hs id b hb => ?_⟩
  · exact Nat.le_of_ble_eq_true (List.all_eq_true.1 h1 d (List.mem_flatMap.2 ⟨_, List.mem_of_getElem? (effAt_get hj), by rw [hd]; simp⟩))
  · exact nodup_get h2 i j _ _ (effAt_get hi) (effAt_get hj) d (by rw [h7]; simp) (by rw [h8]; simp)
  · exact h3 id (List.mem_flatMap.2 ⟨_, List.mem_of_getElem? (effAt_get hj), look_idsE hb⟩)
  · have := allLt_spec (allLt_spec h4 i hi) j hj
    simp only [Bool.or_eq_true, Bool.not_eq_true', Bool.and_eq_true] at this
    rcases this with h | ⟨⟨h7, h8⟩, h9⟩
    · exact (meet hb hb' h).elim
    · exact ⟨h7, h8, List.contains_iff_mem.1 h9⟩
  · have := allLt_spec h5 i hi
    rw [hs, Bool.false_or] at this
    have := allLt_spec (List.all_eq_true.1 this j hj) k hk
    simp only [Bool.or_eq_true, Bool.not_eq_true'] at this
    rcases this with h | h
    · exact Nat.eq_of_beq_eq_true h
    · exact (meet hb hb' h).elim
  · have := allLt_spec h6 i hi
    rw [hs, Bool.not_true, Bool.false_or] at this
    have := List.all_eq_true.1 this id (look_idsE hb)
    simp only [Bool.and_eq_true] at this
    exact ⟨noIdB_spec this.1, fun j hj => List.all_eq_true.1 this.2 _ (List.mem_of_getElem? (effAt_get hj))⟩

theorem ChkW.effsW {ops : List Oper} {σ0 : St N} {eff : Nat → Eff N} {m : Nat} (h : ChkW ops σ0 eff m) : EffsW ops σ0 eff m :=
  ⟨h.dst, h.one, fun i j hi hj id b b' hb hb' => by
    rcases Nat.lt_trichotomy i j with e | e | e
    · exact .inr (.inl (h.share j i hj e id b' b hb' hb).2.2)
    · exact .inl e
    · exact .inr (.inr (h.share i j hi e id b b' hb hb').2.2), h.fresh⟩

/-- What drawHeadW has seen of operation i. -/
def SeenW (P : Program) (τ : TypeId → Option TI) (ops : List Oper) (i : Nat) (o : Oper) (σ : St N) (e : Eff N) : Prop :=
  (storeAt ops i = false ∧ HeadOp P ops i o σ e) ∨ (storeAt ops i = true ∧ drawStore τ σ o (fun s ad => some (s, ad)) = some (e.s, e.ad) ∧ e.dst = none)

theorem drawStore_par {σ : St N} {o : Oper} {k : KK N β} {r : β} (h : drawStore τ σ o k = some r) : ∃ s ad, k s ad = some r ∧ drawStore τ σ o (fun s ad => some (s, ad)) = some (s, ad) := by
  unfold drawStore at h ⊢
  split at h
  · split at h
    · cases h
    · split at h
      · cases h
      · split at h
        · split at h
          · split at h
            · obtain ⟨hc, h⟩ := bif_none h
              split at h
              · rename_i v b hv
                cases hb : b.contains _ with
                | true => rw [hb] at h; cases h
                | false =>
                  rw [hb] at h
                  refine ⟨_, _, h, ?_⟩
                  simp only [*, cond_true, cond_false]
              · cases h
            · cases h
          · cases h
        · cases h
  · cases h

theorem drawHeadW_sound (F : Fits P N τ) {Φ : FuncId → Option (Spec N)} (hΦ : ∀ f S, Φ f = some S → Good P f S) {ops : List Oper} (hfwd : ∀ i, i < ops.length → ∀ k ∈ clo ops ops.length i, k < i) {σ0 : St N} {r : β} : ∀ (todo : List Oper) (effs : List (Eff N)) (k : List (Eff N) → Option β),
    (∀ j, todo[j]? = none ∨ todo[j]? = ops[effs.length + j]?) → drawHeadW τ Φ ops σ0 todo effs k = some r →
    (∀ i, i < effs.length → ∃ o, ops[i]? = some o ∧ SeenW P τ ops i o (sq σ0 (effAt effs) (clo ops ops.length i)) (effAt effs i)) →
    ∃ all : List (Eff N), k all = some r ∧ all.length = effs.length + todo.length ∧ ∀ i, i < all.length → ∃ o, ops[i]? = some o ∧ SeenW P τ ops i o (sq σ0 (effAt all) (clo ops ops.length i)) (effAt all i)
  | [], effs, k, ht, h, hH => ⟨effs, h, rfl, hH⟩
  | o :: rest, effs, k, ht, h, hH => by
    have ho : ops[effs.length]? = some o := by
      rcases ht 0 with h0 | h0
      · simp at h0
      · simpa using h0.symm
    have hl : effs.length < ops.length := (List.getElem?_eq_some_iff.1 ho).1
    have hsa : storeAt ops effs.length = isStoreO o := by simp [storeAt, ho]
    obtain ⟨d, s, ad, h1, h3⟩ : ∃ d s ad, drawHeadW τ Φ ops σ0 rest (effs ++ [⟨d, s, ad⟩]) k = some r ∧ SeenW P τ ops effs.length o (sq σ0 (effAt effs) (clo ops ops.length effs.length)) ⟨d, s, ad⟩ := by
      unfold drawHeadW at h
      cases hs : isStoreO o with
      | true =>
        rw [hs, cond_true] at h
        obtain ⟨s, ad, h1, h2⟩ := drawStore_par h
        exact ⟨_, s, ad, h1, .inr ⟨by rw [hsa, hs], h2, rfl⟩⟩
      | false =>
        rw [hs, cond_false] at h
        obtain ⟨s, ad, h1, h2, h3⟩ := drawOne_sound F hΦ ho h
        rw [splitB_eq] at h1
        exact ⟨_, s, ad, h1, .inl ⟨by rw [hsa, hs], h3⟩⟩
    have hold : ∀ j, j < effs.length → effAt (effs ++ [⟨d, s, ad⟩]) j = effAt effs j := fun j hj => by
      unfold effAt
      rw [List.getD_eq_getElem?_getD, List.getD_eq_getElem?_getD, List.getElem?_append_left hj]
    have hnew : effAt (effs ++ [⟨d, s, ad⟩]) effs.length = ⟨d, s, ad⟩ := by
      unfold effAt
      rw [List.getD_eq_getElem?_getD, List.getElem?_append_right (Nat.le_refl _)]
      simp
    obtain ⟨all, a1, a2, a3⟩ := drawHeadW_sound F hΦ hfwd rest (effs ++ [⟨d, s, ad⟩]) k (fun j => by
      have := ht (j + 1)
      simp only [List.getElem?_cons_succ] at this
      rcases this with h | h
      · exact .inl h
      · exact .inr (by rw [h]; congr 1; simp; omega)) h1 (fun i hi => by
      rw [List.length_append, List.length_singleton] at hi
      rcases Nat.lt_or_ge i effs.length with h' | h'
      · obtain ⟨oi, o1, o2⟩ := hH i h'
        refine ⟨oi, o1, ?_⟩
        rw [hold i h', sq_congr (fun j hj => hold j (Nat.lt_trans (hfwd i (by omega) j hj) h'))]
        exact o2
      · have hi' : i = effs.length := by omega
        subst hi'
        refine ⟨o, ho, ?_⟩
        rw [hnew, sq_congr (fun j hj => hold j (hfwd _ hl j hj))]
        exact h3)
    exact ⟨all, a1, by rw [a2]; simp; omega, a3⟩

theorem max_touch {p : Nat → Bool} : ∀ (m : Nat), (∃ j, j < m ∧ p j = true) → ∃ j, j < m ∧ p j = true ∧ ∀ i, i < m → p i = true → i ≤ j
  | 0, ⟨j, hj, _⟩ => by omega
  | m + 1, ⟨j, hj, hp⟩ => by
    cases hm : p m with
    | true => exact ⟨m, by omega, hm, fun i hi _ => by omega⟩
    | false =>
      have hjm : j < m := by
        rcases Nat.lt_or_ge j m with h | h
        · exact h
        · have : j = m := by omega
          rw [this, hm] at hp
          cases hp
      obtain ⟨j', h1, h2, h3⟩ := max_touch m ⟨j, hjm, hp⟩
      refine ⟨j', by omega, h2, fun i hi hpi => ?_⟩
      rcases Nat.lt_or_ge i m with h | h
      · exact h3 i h hpi
      · have : i = m := by omega
        rw [this, hm] at hpi
        cases hpi

theorem execDrawW_sound (F : Fits P N τ) {Φ : FuncId → Option (Spec N)} (hΦ : ∀ f S, Φ f = some S → Good P f S) (hm : P.follows .mixedOrders = true) {ops : List Oper} {k : St N → Option β} {r : β} {io : Io} {w0 : World} {Q : Exit → Act → World → Prop}
    (hk : ∀ σ a w, k σ = some r → Rel io w0 σ a w → Q .normal a w) {σ : St N} (h : execDrawW τ Φ ops σ k = some r) {a : Act} {w : World} (hr : Rel io w0 σ a w) {id : Nat} : (Code.region id ops.toArray true).wp P Q a w := by
  unfold execDrawW at h
  obtain ⟨hst, h⟩ := bif_none h
  simp only [statOk, Bool.and_eq_true, Bool.or_eq_true] at hst
  obtain ⟨⟨⟨s1, s2⟩, s3⟩, s4⟩ := hst
  have hD := drawOk_of s1 s2
  have hm' := headLenW_le ops
  have hfwd : ∀ i, i < ops.length → ∀ k ∈ clo ops ops.length i, k < i := fun j hj => clo_sub (S := fun k => k < j) (fun k hk l hl => Nat.lt_trans (hD.fwd k (by omega) l hl) hk) _ j (hD.fwd j hj)
  obtain ⟨all, h1, h2, h3⟩ := drawHeadW_sound F hΦ hfwd (ops.take (headLenW ops)) [] _ (fun j => by
    rw [List.getElem?_take]
    split
    · exact .inr (by simp)
    · exact .inl rfl) h (fun i hi => by cases hi)
  have hlen : all.length = headLenW ops := by rw [h2]; simp; omega
  obtain ⟨hc, h1⟩ := bif_none h1
  have hC := chkW_of hc
  rw [hlen] at hC h3
  have hE := hC.effsW
  have hdst0 : ∀ i, i < headLenW ops → ∃ o, ops[i]? = some o ∧ (effAt all i).dst = o.dst := by
    intro i hi
    obtain ⟨o, ho, hs | ⟨_, hs, hd⟩⟩ := h3 i hi
    · exact ⟨o, ho, hs.2.1⟩
    · refine ⟨o, ho, ?_⟩
      rw [hd]
      unfold drawStore at hs
      split at hs
      · split at hs
        · cases hs
        · split at hs
          · cases hs
          · rename_i hdst
            exact hdst.symm
      · cases hs
  have hH : ∀ i, i < headLenW ops → StepOp P ops (headLenW ops) σ (effAt all) i := by
    intro i hi
    obtain ⟨o, ho, ⟨hsi, hop⟩ | ⟨hsi, hs, hd⟩⟩ := h3 i hi
    · refine step_head hm' hD hE hdst0 hi ho hop (fun j hj id b hb k hk b' hb' => hC.alone i hi hsi j hj id b hb k hk b' hb') (fun j hj id b b' hb hb' => ?_)
      rcases Nat.lt_trichotomy i j with e | e | e
      · exact .inr (hC.share j i hj e id b' b hb' hb).2.2
      · exact .inl e
      · have := (hC.share i j hi e id b b' hb hb').1
        rw [hsi] at this
        cases this
    · obtain ⟨s, ad, e1, e2⟩ := step_store F hΦ hm' hD hE hdst0 hi ho hs (fun id b hb a ha b1 hb1 j hj b2 hb2 => by
        have hai := hfwd i (by omega) a ha
        have hna := (hC.share i a hi hai id b b1 hb hb1).2.1
        rcases Nat.lt_trichotomy j i with e | e | e
        · have hnj := (hC.share i j hi e id b b2 hb hb2).2.1
          rcases Nat.lt_trichotomy j a with e' | e' | e'
          · have := (hC.share a j (by omega) e' id b1 b2 hb1 hb2).1
            rw [hna] at this
            cases this
          · exact .inl e'
          · have := (hC.share j a hj e' id b2 b1 hb2 hb1).1
            rw [hnj] at this
            cases this
        · exact .inr e
        · have := (hC.share j i hj e id b2 b hb2 hb).2.1
          rw [hsi] at this
          cases this) (fun id b hb => hC.noId i hi hsi id b hb)
      cases e1
      refine (e2 ?_).2
      cases heq : effAt all i with
      | mk d s ad =>
        rw [heq] at hd
        cases hd
        rfl
  have hr' : Rel io w0 σ a { w with drawn := w.drawn + 1 } := by
    obtain ⟨E, hE'⟩ := hr
    exact ⟨E, hE'.ext (Ext.drawn w)⟩
  refine wp_region_any hm ?_
  have hsz : ops.toArray.size = headLenW ops + (ops.length - headLenW ops) := by simp; omega
  rw [hsz]
  refine wpAny_drawW (σ0 := σ) (eff := effAt all) hm' hD.fwd hH (fun hlt => ?_) ?_ (headLenW ops) _ [] a _ (by simp) ⟨⟨by simp; omega, fun j oj _ hl => (by rw [getD_replicate_false] at hl; cases hl), fun t _ ht => getD_in (by simp at ht ⊢; omega) (getD_replicate_false _ _)⟩, fun j hj => ?_, (fun j hj => by cases hj), .nil, List.nodup_nil, hr'⟩
  · rcases s3 with s3 | s3
    · have := Nat.eq_of_beq_eq_true s3
      omega
    · exact s3
  · intro listed seq a w hI hl
    have hall : ∀ j, j < headLenW ops → j ∈ seq := by
      intro j hj
      apply Classical.byContradiction
      intro hn
      have h6 : (j :: seq).Nodup := List.nodup_cons.2 ⟨hn, hI.nodup⟩
      have h7 := execDraw_sound.nodup_le (headLenW ops) (j :: seq) h6 (fun x hx => by
        rcases List.mem_cons.1 hx with rfl | hx
        · exact hj
        · exact hI.lt x hx)
      simp only [List.length_cons] at h7
      omega
    have hdlin : ∀ n, n ≤ headLenW ops → Lin ops (downTo n) := by
      intro n
      induction n with
      | zero => intro _; exact .nil
      | succ n ih =>
        intro hn
        exact .cons (fun k hk => mem_downTo.2 (hfwd n (by omega) k hk)) (fun hmem => by have := mem_downTo.1 hmem; omega) (ih (by omega))
    have hrel : Rel io w0 (sq σ (effAt all) (downTo (headLenW ops))) a w := by
      obtain ⟨E, hE'⟩ := hI.rel
      have hdl : ∀ j ∈ downTo (headLenW ops), j < headLenW ops := fun j hj => mem_downTo.1 hj
      refine ⟨E, hE'.same (by rw [sq_regs, sq_regs]) (fun t => ?_) (fun id => ?_)⟩
      · have r1 := sqW_reg hE (t := t) hI.lt
        have r2 := sqW_reg hE (t := t) hdl
        by_cases hx : ∃ j, j < headLenW ops ∧ (effAt all j).dst = some t
        · obtain ⟨j, hj, hjd⟩ := hx
          rw [r1.1 j (hall j hj) hjd, r2.1 j (mem_downTo.2 hj) hjd]
        · rw [r1.2 (fun j hj hjd => hx ⟨j, hI.lt j hj, hjd⟩), r2.2 (fun j hj hjd => hx ⟨j, hdl j hj, hjd⟩)]
      · by_cases hx : ∃ j, j < headLenW ops ∧ (look (effAt all j).ad id).isSome = true
        · obtain ⟨j, hj, hjb, hmax⟩ := max_touch (p := fun j => (look (effAt all j).ad id).isSome) _ hx
          obtain ⟨b, hb⟩ := Option.isSome_iff_exists.1 hjb
          have hlast : ∀ i, i < headLenW ops → ∀ b', look (effAt all i).ad id = some b' → i = j ∨ i ∈ clo ops ops.length j := by
            intro i hi b' hb'
            have hle := hmax i hi (by simp [hb'])
            rcases Nat.lt_or_ge i j with e | e
            · exact .inr (hC.share j i hj e id b b' hb hb').2.2
            · exact .inl (by omega)
          rw [sq_last hb hI.lin (hall j hj) (fun i hi b' hb' => hlast i (hI.lt i hi) b' hb'), sq_last hb (hdlin _ (Nat.le_refl _)) (mem_downTo.2 hj) (fun i hi b' hb' => hlast i (hdl i hi) b' hb')]
        · have hn : ∀ j, j < headLenW ops → look (effAt all j).ad id = none := fun j hj => by
            cases h : look (effAt all j).ad id with
            | none => rfl
            | some b => exact absurd ⟨j, hj, by simp [h]⟩ hx
          rw [sq_none (fun j hj => hn j (hI.lt j hj)), sq_none (fun j hj => hn j (hdl j hj))]
    have hlst : listed = canon ops.length (headLenW ops) := by
      have hs1 : listed.size = ops.length := by have := hI.head.size; simpa using this
      apply Array.ext
      · rw [hs1]; simp [canon]; omega
      · intro j hj1 hj2
        have hj : j < ops.length := by omega
        have hg : listed.getD j false = listed[j] := by simp [hj1]
        have hmem := hI.mem j hj
        rw [hg] at hmem
        rcases Nat.lt_or_ge j (headLenW ops) with h' | h'
        · rw [hmem.2 (hall j h')]
          simp [canon, List.getElem_append, h']
        · have : listed[j] = false := by
            cases hv : listed[j] with
            | false => rfl
            | true =>
              have := hI.lt j (hmem.1 hv)
              omega
          rw [this]
          simp only [canon, List.getElem_toArray, List.getElem_append, List.length_replicate]
          rw [dif_neg (by omega)]
          simp
    have hlst2 := execOps_sound (ops := ops) (Q := Q) F hΦ hk (ops.drop (headLenW ops)) _ h1 a w hrel
    have := wpAny_of_seq (P := P) (md := .any) (ops := ops.toArray) (Q' := Q) (ops.drop (headLenW ops)) (headLenW ops) listed a w (fun j => by simp) (by rw [hlst, List.length_drop]; exact s4) hlst2
    rw [List.length_drop] at this
    exact this
  · rw [getD_replicate_false]
    simp

theorem execDrawX_sound (F : Fits P N τ) {Φ : FuncId → Option (Spec N)} (hΦ : ∀ f S, Φ f = some S → Good P f S) (hm : P.follows .mixedOrders = true) {ops : List Oper} {k : St N → Option β} {r : β} {io : Io} {w0 : World} {Q : Exit → Act → World → Prop}
    (hk : ∀ σ a w, k σ = some r → Rel io w0 σ a w → Q .normal a w) {σ : St N} (h : execDrawX τ Φ ops σ k = some r) {a : Act} {w : World} (hr : Rel io w0 σ a w) {id : Nat} : (Code.region id ops.toArray true).wp P Q a w := by
  unfold execDrawX at h
  cases hs : statOk ops (headLen ops) with
  | true => rw [hs] at h; exact execDraw_sound F hΦ hm hk h hr
  | false => rw [hs] at h; exact execDrawW_sound F hΦ hm hk h hr

end Go.Eng
