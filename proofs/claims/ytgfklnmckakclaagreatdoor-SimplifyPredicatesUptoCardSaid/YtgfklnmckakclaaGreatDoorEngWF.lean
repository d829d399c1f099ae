/- The engine, part WF: a region whose order is open, followed. -/
import Derived.Test.YtgfklnmckakclaaGreatDoorEngWE
set_option linter.unusedVariables false
set_option linter.unusedSimpArgs false
namespace Go.Eng
variable {N : Names} {P : Program} {τ : TypeId → Option TI} {β : Type}

def isE (o : Oper) : Bool := match o.op with
  | .move _ => true
  | .assign _ => true
  | .load _ _ => true
  | .nilCheck _ => true
  | .binOp .. => true
  | .unOp .. => true
  | .convert .. => true
  | .slice .. => true
  | .pick .. => true
  | .alloc _ => true
  | .build .. => true
  | .buildSlice .. => true
  | .fieldAddr .. => true
  | .field .. => true
  | .indexAddr .. => true
  | .index .. => true
  | .extract .. => true
  | .call c => match c.callee with
    | .value _ => true
    | .builtin .len => true
    | .builtin .min => true
    | .builtin .max => true
    | _ => false
  | _ => false
def headLen : List Oper → Nat
  | [] => 0
  | o :: r => bif isE o then headLen r + 1 else 0

def allLt (f : Nat → Bool) : Nat → Bool
  | 0 => true
  | n + 1 => f n && allLt f n
theorem allLt_spec {f : Nat → Bool} : ∀ {n : Nat}, allLt f n = true → ∀ i, i < n → f i = true
  | 0, _, i, hi => by omega
  | n + 1, h, i, hi => by
    simp only [allLt, Bool.and_eq_true] at h
    rcases Nat.lt_or_ge i n with h' | h'
    · exact allLt_spec h.2 i h'
    · rw [show i = n from by omega]
      exact h.1

def fwdOk (ops : List Oper) : Bool := allLt (fun i => (predsOf ops i).all fun k => Nat.blt k i) ops.length
def usesOk (ops : List Oper) (m : Nat) : Bool := allLt (fun i => allLt (fun j => match ops[i]?, ops[j]? with
  | some o, some o' => match o'.dst with
    | some d => !(usesG ops o).contains d || (Nat.beq i j || ((clo ops ops.length i).contains j || (clo ops ops.length j).contains i))
    | none => true
  | _, _ => true) m) m
def canon (n m : Nat) : Array Bool := (List.replicate m true ++ List.replicate (n - m) false).toArray
def statOk (ops : List Oper) (m : Nat) : Bool :=
  fwdOk ops && usesOk ops m && (Nat.beq m ops.length || (Region.sinkB .any ops.toArray m && Region.chainB .any ops.toArray m)) && Region.seqB .any ops.toArray (ops.length - m) m (canon ops.length m)
def effDsts : List (Eff N) → List Nat
  | [] => []
  | e :: r => match e.dst with
    | some d => d :: effDsts r
    | none => effDsts r
def effIds : List (Eff N) → List Nat
  | [] => []
  | e :: r => e.ad.map (·.1) ++ effIds r
def effsChk (σ0 : St N) (effs : List (Eff N)) : Bool :=
  (effDsts effs).all (fun d => Nat.blt d σ0.regs.length) && nodupB (effDsts effs) && nodupB (effIds effs) && freshIds σ0.own (effIds effs)
def downTo : Nat → List Nat
  | 0 => []
  | n + 1 => n :: downTo n
def effAt (effs : List (Eff N)) (j : Nat) : Eff N := effs.getD j ⟨none, .tup [], []⟩

def execDraw (τ : TypeId → Option TI) (Φ : FuncId → Option (Spec N)) (ops : List Oper) (σ0 : St N) (k : St N → Option β) : Option β :=
  bif statOk ops (headLen ops) then
    drawHead τ Φ ops σ0 (ops.take (headLen ops)) [] fun effs =>
      bif effsChk σ0 effs then execOps τ Φ ops (ops.drop (headLen ops)) (sq σ0 (effAt effs) (downTo (headLen ops))) k else none
  else none

theorem mem_downTo {n i : Nat} : i ∈ downTo n ↔ i < n := by
  induction n with
  | zero => simp [downTo]
  | succ n ih => simp only [downTo, List.mem_cons, ih]; omega

theorem headLen_le : ∀ (ops : List Oper), headLen ops ≤ ops.length
  | [] => Nat.le_refl _
  | o :: r => by
    unfold headLen
    cases isE o with
    | true => simpa using headLen_le r
    | false => simp

theorem drawOk_of {ops : List Oper} {m : Nat} (h1 : fwdOk ops = true) (h2 : usesOk ops m = true) : DrawOk ops m := by
  refine ⟨fun i hi k hk => ?_, fun i j o o' hi hj ho ho' d hd hu => ?_⟩
  · have := allLt_spec h1 i hi
    exact Nat.le_of_ble_eq_true (List.all_eq_true.1 this k hk)
  · have := allLt_spec (allLt_spec h2 i hi) j hj
    simp only [ho, ho', hd, Bool.or_eq_true, Bool.not_eq_true'] at this
    rcases this with h | h | h | h
    · exact absurd hu (contains_false h)
    · exact .inl (Nat.eq_of_beq_eq_true h)
    · exact .inr (.inl (List.contains_iff_mem.1 h))
    · exact .inr (.inr (List.contains_iff_mem.1 h))

theorem nodup_get {α : Type} {f : α → List Nat} : ∀ {l : List α}, (l.flatMap f).Nodup → ∀ (i j : Nat) x y, l[i]? = some x → l[j]? = some y → ∀ k, k ∈ f x → k ∈ f y → i = j
  | [], _, i, j, x, y, hi, hj, k, hx, hy => by simp at hi
  | a :: l, h, i, j, x, y, hi, hj, k, hx, hy => by
    rw [List.flatMap_cons, List.nodup_append] at h
    cases i with
    | zero =>
      simp only [List.getElem?_cons_zero, Option.some.injEq] at hi
      subst hi
      cases j with
      | zero => rfl
      | succ j =>
        have hj : l[j]? = some y := by simpa using hj
        exact absurd rfl (h.2.2 k hx k (List.mem_flatMap.2 ⟨y, List.mem_of_getElem? hj, hy⟩))
    | succ i =>
      have hi : l[i]? = some x := by simpa using hi
      cases j with
      | zero =>
        simp only [List.getElem?_cons_zero, Option.some.injEq] at hj
        subst hj
        exact absurd rfl (h.2.2 k hy k (List.mem_flatMap.2 ⟨x, List.mem_of_getElem? hi, hx⟩))
      | succ j =>
        have hj : l[j]? = some y := by simpa using hj
        rw [nodup_get h.2.1 i j x y hi hj k hx hy]

theorem effDsts_eq : ∀ (effs : List (Eff N)), effDsts effs = effs.flatMap (fun e => e.dst.toList)
  | [] => rfl
  | e :: r => by
    unfold effDsts
    cases h : e.dst <;> simp [List.flatMap_cons, effDsts_eq r, h]
theorem effIds_eq : ∀ (effs : List (Eff N)), effIds effs = effs.flatMap (fun e => e.ad.map (·.1))
  | [] => rfl
  | e :: r => by simp [effIds, List.flatMap_cons, effIds_eq r]

theorem effAt_get {effs : List (Eff N)} {j : Nat} (h : j < effs.length) : effs[j]? = some (effAt effs j) := by
  unfold effAt
  rw [List.getD_eq_getElem?_getD, List.getElem?_eq_getElem h]
  rfl

theorem effsOk_of {σ0 : St N} {effs : List (Eff N)} (h : effsChk σ0 effs = true) : EffsOk σ0 (effAt effs) effs.length := by
  simp only [effsChk, Bool.and_eq_true] at h
  obtain ⟨⟨⟨h1, h2⟩, h3⟩, h4⟩ := h
  have h2 := nodupB_spec h2
  have h3 := nodupB_spec h3
  have h4 := freshIds_spec h4
  rw [effDsts_eq] at h1 h2
  rw [effIds_eq] at h3 h4
  refine ⟨fun j hj d hd => ?_, fun i j hi hj d h5 h6 => ?_, fun i j hi hj id b b' h5 h6 => ?_, fun j hj id b hb => ?_⟩
  · exact Nat.le_of_ble_eq_true (List.all_eq_true.1 h1 d (List.mem_flatMap.2 ⟨_, List.mem_of_getElem? (effAt_get hj), by rw [hd]; simp⟩))
  · exact nodup_get h2 i j _ _ (effAt_get hi) (effAt_get hj) d (by rw [h5]; simp) (by rw [h6]; simp)
  · exact nodup_get h3 i j _ _ (effAt_get hi) (effAt_get hj) id (List.mem_map.2 ⟨_, look_mem h5, rfl⟩) (List.mem_map.2 ⟨_, look_mem h6, rfl⟩)
  · exact h4 id (List.mem_flatMap.2 ⟨_, List.mem_of_getElem? (effAt_get hj), List.mem_map.2 ⟨_, look_mem hb, rfl⟩⟩)

theorem sq_congr {σ0 : St N} {eff eff' : Nat → Eff N} : ∀ {L : List Nat}, (∀ j ∈ L, eff j = eff' j) → sq σ0 eff L = sq σ0 eff' L
  | [], _ => rfl
  | j :: L, h => by
    rw [sq, sq, h j List.mem_cons_self, sq_congr (fun k hk => h k (List.mem_cons_of_mem _ hk))]

theorem drawHead_sound (F : Fits P N τ) {Φ : FuncId → Option (Spec N)} (hΦ : ∀ f S, Φ f = some S → Good P f S) {ops : List Oper} (hfwd : ∀ i, i < ops.length → ∀ k ∈ clo ops ops.length i, k < i) {σ0 : St N} {r : β} : ∀ (todo : List Oper) (effs : List (Eff N)) (k : List (Eff N) → Option β),
    (∀ j, todo[j]? = none ∨ todo[j]? = ops[effs.length + j]?) → drawHead τ Φ ops σ0 todo effs k = some r →
    (∀ i, i < effs.length → ∃ o, ops[i]? = some o ∧ HeadOp P ops i o (sq σ0 (effAt effs) (clo ops ops.length i)) (effAt effs i)) →
    ∃ all : List (Eff N), k all = some r ∧ all.length = effs.length + todo.length ∧ ∀ i, i < all.length → ∃ o, ops[i]? = some o ∧ HeadOp P ops i o (sq σ0 (effAt all) (clo ops ops.length i)) (effAt all i)
  | [], effs, k, ht, h, hH => ⟨effs, h, rfl, hH⟩
  | o :: rest, effs, k, ht, h, hH => by
    have ho : ops[effs.length]? = some o := by
      rcases ht 0 with h0 | h0
      · simp at h0
      · simpa using h0.symm
    have hl : effs.length < ops.length := (List.getElem?_eq_some_iff.1 ho).1
    unfold drawHead at h
    obtain ⟨s, ad, h1, h2, h3⟩ := drawOne_sound F hΦ ho h
    rw [splitB_eq] at h1
    have hold : ∀ j, j < effs.length → effAt (effs ++ [⟨o.dst, s, ad⟩]) j = effAt effs j := fun j hj => by
      unfold effAt
      rw [List.getD_eq_getElem?_getD, List.getD_eq_getElem?_getD, List.getElem?_append_left hj]
    have hnew : effAt (effs ++ [⟨o.dst, s, ad⟩]) effs.length = ⟨o.dst, s, ad⟩ := by
      unfold effAt
      rw [List.getD_eq_getElem?_getD, List.getElem?_append_right (Nat.le_refl _)]
      simp
    obtain ⟨all, a1, a2, a3⟩ := drawHead_sound F hΦ hfwd rest (effs ++ [⟨o.dst, s, ad⟩]) k (fun j => by
      have := ht (j + 1)
      simp only [List.getElem?_cons_succ] at this
      rcases this with h | h
      · exact .inl h
      · exact .inr (by rw [h]; congr 1; simp; omega)) h1 (fun i hi => by
      rw [List.length_append, List.length_singleton] at hi
      rcases Nat.lt_or_ge i effs.length with h' | h'
      · obtain ⟨oi, o1, o2⟩ := hH i h'
        refine ⟨oi, o1, ?_⟩
        rw [hold i h', sq_congr (fun j hj => hold j (Nat.lt_trans (hfwd i (by omega) j hj) h'))]
        exact o2
      · have hi' : i = effs.length := by omega
        subst hi'
        refine ⟨o, ho, ?_⟩
        rw [hnew, sq_congr (fun j hj => hold j (hfwd _ hl j hj))]
        exact h3)
    exact ⟨all, a1, by rw [a2]; simp; omega, a3⟩

theorem Ext.drawn (w : World) : Ext w { w with drawn := w.drawn + 1 } := ⟨rfl, rfl, rfl, Nat.le_refl _, fun _ _ => rfl⟩

theorem execDraw_sound (F : Fits P N τ) {Φ : FuncId → Option (Spec N)} (hΦ : ∀ f S, Φ f = some S → Good P f S) (hm : P.follows .mixedOrders = true) {ops : List Oper} {k : St N → Option β} {r : β} {io : Io} {w0 : World} {Q : Exit → Act → World → Prop}
    (hk : ∀ σ a w, k σ = some r → Rel io w0 σ a w → Q .normal a w) {σ : St N} (h : execDraw τ Φ ops σ k = some r) {a : Act} {w : World} (hr : Rel io w0 σ a w) {id : Nat} : (Code.region id ops.toArray true).wp P Q a w := by
  unfold execDraw at h
  obtain ⟨hst, h⟩ := bif_none h
  simp only [statOk, Bool.and_eq_true, Bool.or_eq_true] at hst
  obtain ⟨⟨⟨s1, s2⟩, s3⟩, s4⟩ := hst
  have hD := drawOk_of s1 s2
  have hm' := headLen_le ops
  have hfwd : ∀ i, i < ops.length → ∀ k ∈ clo ops ops.length i, k < i := fun j hj => clo_sub (S := fun k => k < j) (fun k hk l hl => Nat.lt_trans (hD.fwd k (by omega) l hl) hk) _ j (hD.fwd j hj)
  obtain ⟨all, h1, h2, h3⟩ := drawHead_sound F hΦ hfwd (ops.take (headLen ops)) [] _ (fun j => by
    rw [List.getElem?_take]
    split
    · exact .inr (by simp)
    · exact .inl rfl) h (fun i hi => by cases hi)
  have hlen : all.length = headLen ops := by rw [h2]; simp; omega
  obtain ⟨hc, h1⟩ := bif_none h1
  have hE := effsOk_of hc
  rw [hlen] at hE h3
  have hr' : Rel io w0 σ a { w with drawn := w.drawn + 1 } := by
    obtain ⟨E, hE'⟩ := hr
    exact ⟨E, hE'.ext (Ext.drawn w)⟩
  refine wp_region_any hm ?_
  have hsz : ops.toArray.size = headLen ops + (ops.length - headLen ops) := by simp; omega
  rw [hsz]
  refine wpAny_draw (σ0 := σ) (eff := effAt all) hm' hD hE h3 (fun hlt => ?_) ?_ (headLen ops) _ [] a _ (by simp) ⟨⟨by simp; omega, fun j oj _ hl => (by rw [getD_replicate_false] at hl; cases hl), fun t _ ht => getD_in (by simp at ht ⊢; omega) (getD_replicate_false _ _)⟩, fun j hj => ?_, (fun j hj => by cases hj), List.nodup_nil, hr'⟩
  · rcases s3 with s3 | s3
    · have := Nat.eq_of_beq_eq_true s3
      omega
    · exact s3
  · -- the head is done
    intro listed seq a w hI hl
    have hall : ∀ j, j < headLen ops → j ∈ seq := by
      intro j hj
      apply Classical.byContradiction
      intro hn
      have h5 : ∀ m (l : List Nat), l.Nodup → (∀ x ∈ l, x < m) → j < m → j ∉ l → l.length < m := by
        intro m l hnd hlt hjm hjl
        have h6 : (j :: l).Nodup := List.nodup_cons.2 ⟨hjl, hnd⟩
        have h7 := nodup_le m (j :: l) h6 (fun x hx => by
          rcases List.mem_cons.1 hx with rfl | hx
          · exact hjm
          · exact hlt x hx)
        simp only [List.length_cons] at h7
        omega
      have := h5 _ seq hI.nodup hI.lt hj hn
      omega
    have hrel : Rel io w0 (sq σ (effAt all) (downTo (headLen ops))) a w := by
      obtain ⟨E, hE'⟩ := hI.rel
      have hdl : ∀ j ∈ downTo (headLen ops), j < headLen ops := fun j hj => mem_downTo.1 hj
      refine ⟨E, hE'.same (by rw [sq_regs, sq_regs]) (fun t => ?_) (fun id => ?_)⟩
      · have r1 := sq_reg hE (t := t) hI.lt
        have r2 := sq_reg hE (t := t) hdl
        by_cases hx : ∃ j, j < headLen ops ∧ (effAt all j).dst = some t
        · obtain ⟨j, hj, hjd⟩ := hx
          rw [r1.1 j (hall j hj) hjd, r2.1 j (mem_downTo.2 hj) hjd]
        · rw [r1.2 (fun j hj hjd => hx ⟨j, hI.lt j hj, hjd⟩), r2.2 (fun j hj hjd => hx ⟨j, hdl j hj, hjd⟩)]
      · have r1 := sq_own hE (id := id) hI.lt
        have r2 := sq_own hE (id := id) hdl
        by_cases hx : ∃ j, j < headLen ops ∧ ∃ b, look (effAt all j).ad id = some b
        · obtain ⟨j, hj, b, hb⟩ := hx
          rw [r1.1 j (hall j hj) b hb, r2.1 j (mem_downTo.2 hj) b hb]
        · have hn : ∀ j, j < headLen ops → look (effAt all j).ad id = none := fun j hj => by
            cases h : look (effAt all j).ad id with
            | none => rfl
            | some b => exact absurd ⟨j, hj, b, h⟩ hx
          rw [r1.2 (fun j hj => hn j (hI.lt j hj)), r2.2 (fun j hj => hn j (hdl j hj))]
    have hlst : listed = canon ops.length (headLen ops) := by
      have hs1 : listed.size = ops.length := by have := hI.head.size; simpa using this
      apply Array.ext
      · rw [hs1]; simp [canon]; omega
      · intro j hj1 hj2
        have hj : j < ops.length := by omega
        have hg : listed.getD j false = listed[j] := by simp [hj1]
        have hmem := hI.mem j hj
        rw [hg] at hmem
        rcases Nat.lt_or_ge j (headLen ops) with h' | h'
        · rw [hmem.2 (hall j h')]
          simp [canon, List.getElem_append, h']
        · have : listed[j] = false := by
            cases hv : listed[j] with
            | false => rfl
            | true =>
              have := hI.lt j (hmem.1 hv)
              omega
          rw [this]
          simp only [canon, List.getElem_toArray, List.getElem_append, List.length_replicate]
          rw [dif_neg (by omega)]
          simp
    have hlst2 := execOps_sound (ops := ops) (Q := Q) F hΦ hk (ops.drop (headLen ops)) _ h1 a w hrel
    have := wpAny_of_seq (P := P) (md := .any) (ops := ops.toArray) (Q' := Q) (ops.drop (headLen ops)) (headLen ops) listed a w (fun j => by simp) (by rw [hlst, List.length_drop]; exact s4) hlst2
    rw [List.length_drop] at this
    exact this
  · rw [getD_replicate_false]
    simp
where
  nodup_le : ∀ (m : Nat) (l : List Nat), l.Nodup → (∀ x ∈ l, x < m) → l.length ≤ m
    | 0, l, _, h => by
      cases l with
      | nil => exact Nat.le_refl _
      | cons x r => have := h x List.mem_cons_self; omega
    | m + 1, l, hn, h => by
      have h1 := nodup_le m (l.erase m) (hn.erase m) (fun x hx => by
        have h2 := h x (List.mem_of_mem_erase hx)
        have h3 : x ≠ m := fun e => by
          subst e
          exact (List.Nodup.not_mem_erase hn) hx
        omega)
      have h4 := List.length_erase_le (a := m) (l := l)
      by_cases hm : m ∈ l
      · rw [List.length_erase_of_mem hm] at h1
        omega
      · rw [List.erase_of_not_mem hm] at h1
        omega

end Go.Eng
