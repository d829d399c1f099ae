/- The engine, part WE: regions whose order is open: reading operations in any order, then a tail in its order.
The engine, part WF: a region whose order is open, followed.
The engine, part WG: regions whose order is open, with stores into boxes and rows that what is not forced ahead of them does not read.
The engine, part X: code, cut at the heads of its loops and at joins.
The engine, part Y: a function's own side: how it begins and how it ends.
The engine, part Z: from a function's code to what its callers may know. -/
import Derived.Test.YtlkllggdiakpbaaGreatDoorEngine3
import Derived.Scope
set_option linter.unusedVariables false
set_option linter.unusedSimpArgs false
namespace Go.Eng
variable {N : Names} {P : Program} {τ : TypeId → Option TI} {β : Type}
structure Eff (N : Names) where
 dst : Option Nat
 s : Slot N
 ad : List (Nat × Blk N)
def applyE (σ : St N) (e : Eff N) : St N := ({ regs := σ.regs, own := insAll e.ad σ.own } : St N).put e.dst e.s
def sq (σ0 : St N) (eff : Nat → Eff N) : List Nat → St N
 | [] => σ0
 | j :: L => applyE (sq σ0 eff L) (eff j)
def predsOf (ops : List Oper) (i : Nat) : List Nat := match ops[i]? with
 | some o => (o.after.toList.filter (Region.binds .any)).map (·.on)
 | none => []
def addAll : List Nat → List Nat → List Nat
 | [], l => l
 | i :: r, l => bif l.contains i then addAll r l else addAll r (i :: l)
/-! What is done before operation i in any case: bits of a number, row by row. -/
def rowM (T : List Nat) (n : Nat) : List Nat → Nat
 | [] => 0
 | j :: r => Nat.lor (Nat.lor (2 ^ j) (bif Nat.blt j n then T.getD (n - 1 - j) 0 else 0)) (rowM T n r)
def extM (ops : List Oper) (n : Nat) (T : List Nat) : List Nat := rowM T n (predsOf ops n) :: T
def cloM (ops : List Oper) : Nat → List Nat
 | 0 => []
 | n + 1 => extM ops n (cloM ops n)
def bitsDown (m : Nat) : Nat → List Nat
 | 0 => []
 | k + 1 => bif m.testBit k then k :: bitsDown m k else bitsDown m k
def clo (ops : List Oper) (_ i : Nat) : List Nat := bitsDown ((cloM ops (i + 1)).headD 0) i
def CloR (ops : List Oper) (j k : Nat) : Prop := ∀ S : Nat → Prop, (∀ j, S j → ∀ k ∈ predsOf ops j, S k) → (∀ k ∈ predsOf ops j, S k) → S k
theorem rowM_bit {ops : List Oper} {T : List Nat} {n : Nat} (hT : ∀ j, j < n → ∀ k, (T.getD (n - 1 - j) 0).testBit k = true → CloR ops j k) {i : Nat} : ∀ (l : List Nat), (∀ j ∈ l, j ∈ predsOf ops i) → ∀ k, (rowM T n l).testBit k = true → CloR ops i k
 | [], _, k, h => by simp [rowM] at h
 | j :: r, hl, k, h => by
  have h : (Nat.lor (Nat.lor (2 ^ j) (bif Nat.blt j n then T.getD (n - 1 - j) 0 else 0)) (rowM T n r)).testBit k = true := h
  rw [show ∀ a b, Nat.lor a b = a ||| b from fun _ _ => rfl, show ∀ a b, Nat.lor a b = a ||| b from fun _ _ => rfl, Nat.testBit_or, Nat.testBit_or, Bool.or_eq_true, Bool.or_eq_true] at h
  rcases h with (h | h) | h
  ·rw [Nat.testBit_two_pow, decide_eq_true_eq] at h
   subst h
   exact fun S _ hp => hp _ (hl _ List.mem_cons_self)
  ·cases hb : Nat.blt j n with
   | false => rw [hb] at h; simp at h
   | true =>
    rw [hb, cond_true] at h
    have hj : j < n := by simpa [Nat.blt_eq] using hb
    exact fun S hS hp => hT j hj k h S hS (hS j (hp j (hl _ List.mem_cons_self)))
  ·exact rowM_bit hT r (fun j hj => hl j (List.mem_cons_of_mem _ hj)) k h
theorem cloM_bit {ops : List Oper} : ∀ (n : Nat), ∀ j, j < n → ∀ k, ((cloM ops n).getD (n - 1 - j) 0).testBit k = true → CloR ops j k
 | 0, j, hj => by omega
 | n + 1, j, hj => by
  intro k h
  by_cases e : j = n
  ·subst e
   rw [show j + 1 - 1 - j = 0 from by omega] at h
   exact rowM_bit (cloM_bit j) _ (fun _ h => h) k h
  ·rw [show n + 1 - 1 - j = (n - 1 - j) + 1 from by omega] at h
   exact cloM_bit n j (by omega) k h
theorem mem_bitsDown {m : Nat} : ∀ {n k : Nat}, k ∈ bitsDown m n → m.testBit k = true
 | 0, k, h => by cases h
 | n + 1, k, h => by
  unfold bitsDown at h
  cases hb : m.testBit n with
  | false => rw [hb, cond_false] at h; exact mem_bitsDown h
  | true =>
   rw [hb, cond_true] at h
   rcases List.mem_cons.1 h with rfl | h
   ·exact hb
   ·exact mem_bitsDown h
theorem clo_sub {ops : List Oper} {S : Nat → Prop} (hS : ∀ j, S j → ∀ k ∈ predsOf ops j, S k) (f i : Nat) (h : ∀ k ∈ predsOf ops i, S k) (k : Nat) (hk : k ∈ clo ops f i) : S k := by
 have h1 := mem_bitsDown hk
 refine cloM_bit (ops := ops) (i + 1) i (by omega) k ?_ S hS h
 rw [show i + 1 - 1 - i = 0 from by omega]
 have : (cloM ops (i + 1)).headD 0 = (cloM ops (i + 1)).getD 0 0 := rfl
 rw [← this]
 exact h1
theorem reg_putS {σ : St N} {d : Nat} {s : Slot N} (hd : d < σ.regs.length) (t : Nat) : (σ.putS d s).reg t = if d = t then s else σ.reg t := by
 unfold St.putS St.reg
 simp only [List.getD_eq_getElem?_getD, List.getElem?_set]
 by_cases h : d = t
 ·subst h; simp [hd]
 ·simp [h]
theorem applyE_regs (σ : St N) (e : Eff N) : (applyE σ e).regs.length = σ.regs.length := by
 unfold applyE St.put St.putS
 cases e.dst <;> simp
theorem sq_regs (σ0 : St N) (eff : Nat → Eff N) : ∀ L, (sq σ0 eff L).regs.length = σ0.regs.length
 | [] => rfl
 | j :: L => by rw [sq, applyE_regs, sq_regs σ0 eff L]
theorem applyE_reg {σ : St N} {e : Eff N} (hd : ∀ d, e.dst = some d → d < σ.regs.length) (t : Nat) : (applyE σ e).reg t = if e.dst = some t then e.s else σ.reg t := by
 unfold applyE
 cases h : e.dst with
 | none => rfl
 | some d =>
  simp only [St.put]
  rw [reg_putS (by exact hd d h)]
  by_cases hdt : d = t
  ·simp [hdt]
  ·simp [hdt]; rfl
theorem applyE_own (σ : St N) (e : Eff N) (id : Nat) : look (applyE σ e).own id = match look e.ad id with
  | some b => some b
  | none => look σ.own id := by
 have h : (applyE σ e).own = insAll e.ad σ.own := by
  unfold applyE St.put St.putS
  cases e.dst <;> rfl
 rw [h, look_insAll]
 cases look e.ad id <;> rfl
structure EffsOk (σ0 : St N) (eff : Nat → Eff N) (m : Nat) : Prop where
 dst : ∀ j, j < m → ∀ d, (eff j).dst = some d → d < σ0.regs.length
 one : ∀ i j, i < m → j < m → ∀ d, (eff i).dst = some d → (eff j).dst = some d → i = j
 ids : ∀ i j, i < m → j < m → ∀ id b b', look (eff i).ad id = some b → look (eff j).ad id = some b' → i = j
 fresh : ∀ j, j < m → ∀ id b, look (eff j).ad id = some b → look σ0.own id = none
theorem sq_reg {σ0 : St N} {eff : Nat → Eff N} {m : Nat} (h : EffsOk σ0 eff m) {t : Nat} : ∀ {L : List Nat}, (∀ j ∈ L, j < m) → (∀ j ∈ L, (eff j).dst = some t → (sq σ0 eff L).reg t = (eff j).s) ∧ ((∀ j ∈ L, (eff j).dst ≠ some t) → (sq σ0 eff L).reg t = σ0.reg t)
 | [], _ => ⟨(fun j hj => by cases hj), fun _ => rfl⟩
 | i :: L, hL => by
  have ih := sq_reg h (L := L) (t := t) (fun j hj => hL j (List.mem_cons_of_mem _ hj))
  have hr : (sq σ0 eff (i :: L)).reg t = if (eff i).dst = some t then (eff i).s else (sq σ0 eff L).reg t :=
   applyE_reg (fun d hd => by rw [sq_regs]; exact h.dst i (hL i List.mem_cons_self) d hd) t
  rw [hr]
  refine ⟨fun j hj hd => ?_, fun hn => ?_⟩
  ·by_cases hi : (eff i).dst = some t
   ·rw [if_pos hi, h.one i j (hL i List.mem_cons_self) (hL j hj) t hi hd]
   ·rw [if_neg hi]
    rcases List.mem_cons.1 hj with rfl | hj
    ·exact absurd hd hi
    ·exact ih.1 j hj hd
  ·rw [if_neg (hn i List.mem_cons_self)]
   exact ih.2 (fun j hj => hn j (List.mem_cons_of_mem _ hj))
theorem sq_own {σ0 : St N} {eff : Nat → Eff N} {m : Nat} (h : EffsOk σ0 eff m) {id : Nat} : ∀ {L : List Nat}, (∀ j ∈ L, j < m) → (∀ j ∈ L, ∀ b, look (eff j).ad id = some b → look (sq σ0 eff L).own id = some b) ∧ ((∀ j ∈ L, look (eff j).ad id = none) → look (sq σ0 eff L).own id = look σ0.own id)
 | [], _ => ⟨(fun j hj => by cases hj), fun _ => rfl⟩
 | i :: L, hL => by
  have ih := sq_own h (L := L) (id := id) (fun j hj => hL j (List.mem_cons_of_mem _ hj))
  have hr : look (sq σ0 eff (i :: L)).own id = match look (eff i).ad id with
    | some b => some b
    | none => look (sq σ0 eff L).own id := applyE_own _ _ _
  rw [hr]
  refine ⟨fun j hj b hb => ?_, fun hn => ?_⟩
  ·cases hi : look (eff i).ad id with
   | some b' =>
    have := h.ids i j (hL i List.mem_cons_self) (hL j hj) id b' b hi hb
    subst this
    rw [hb] at hi
    exact hi.symm
   | none =>
    rcases List.mem_cons.1 hj with rfl | hj
    ·rw [hb] at hi; cases hi
    ·exact ih.1 j hj b hb
  ·rw [hn i List.mem_cons_self]
   exact ih.2 (fun j hj => hn j (List.mem_cons_of_mem _ hj))
theorem RelE.same {io : Io} {w0 w : World} {σ σ' : St N} {E : Env} {a : Act} (h : RelE io w0 σ E a w) (hl : σ'.regs.length = σ.regs.length) (hr : ∀ t, σ'.reg t = σ.reg t) (ho : ∀ id, look σ'.own id = look σ.own id) : RelE io w0 σ' E a w := by
 have hregs : σ'.regs = σ.regs := by
  apply List.ext_getElem?
  intro i
  have := hr i
  unfold St.reg at this
  rw [List.getD_eq_getElem?_getD, List.getD_eq_getElem?_getD] at this
  rcases Nat.lt_or_ge i σ.regs.length with hi | hi
  ·rw [List.getElem?_eq_getElem (by omega), List.getElem?_eq_getElem hi] at this ⊢
   simpa using this
  ·rw [List.getElem?_eq_none (by omega), List.getElem?_eq_none hi]
 have hok : ∀ bs g, okb w.heap.size σ.own E bs g → okb w.heap.size σ'.own E bs g := fun bs g hg => ⟨hg.1, fun id hid => hg.2 id (by rw [← ho]; exact hid)⟩
 have hrv : ∀ r v, RVRel w σ.own E r v → RVRel w σ'.own E r v := fun r v hr =>
  RVRel_mono (fun _ _ _ _ _ h => h) (fun bs _ g hg => hok bs g hg) (fun id n t _ ⟨e, xs, bs, p, k1, k2⟩ => ⟨⟨e, xs, bs, p, by rw [ho]; exact k1, k2⟩, rfl⟩)
   (fun id _ hb => ⟨by
    rcases hb with ⟨t, x, bs, k1⟩ | ⟨l, k1⟩ | ⟨kt, vt, es, k1⟩ | ⟨n, l, k1⟩
    ·exact .inl ⟨t, x, bs, by rw [ho]; exact k1⟩
    ·exact .inr (.inl ⟨l, by rw [ho]; exact k1⟩)
    ·exact .inr (.inr (.inl ⟨kt, vt, es, by rw [ho]; exact k1⟩))
    ·exact .inr (.inr (.inr ⟨n, l, by rw [ho]; exact k1⟩)), rfl⟩) hr
 refine ⟨h.kept, by rw [hl]; exact h.size, h.defers, ?_, ?_, ?_, ?_, h.sc, h.nw, ?_⟩
 ·intro t s hs
  rw [hregs] at hs
  exact SlotRel_mono hrv (h.regs t s hs)
 ·intro id b hb
  rw [ho] at hb
  have := h.own id b hb
  cases b with
  | row e t xs bs p =>
   obtain ⟨cells, k1, k2⟩ := this
   exact ⟨cells, k1, RowC_mono (fun x cs hx => Rep_mono (fun _ _ _ h => h) (hok bs) hx) k2⟩
  | whole t x bs =>
   obtain ⟨g, T, arr, k1, k2, k3⟩ := this
   exact ⟨g, T, arr, k1, k2, Rep_mono (fun _ _ _ h => h) (hok bs) k3⟩
  | cells l =>
   obtain ⟨g, T, arr, k1, k2, k3, k4⟩ := this
   exact ⟨g, T, arr, k1, k2, k3, fun i r u hi hu => hrv r u (k4 i r u hi hu)⟩
  | mapB kt vt es => exact this
  | vals n l =>
   obtain ⟨arr, k1, k2, k3, k4⟩ := this
   exact ⟨arr, k1, k2, k3, fun i r u hi hu => hrv r u (k4 i r u hi hu)⟩
 ·intro id b hb
  rw [ho] at hb
  exact h.blk id b hb
 ·intro i j b b' h1 h2
  rw [ho] at h1 h2
  exact h.sep i j b b' h1 h2
 ·intro i hi
  obtain ⟨b, k1, k2⟩ := h.fx i hi
  exact ⟨b, by rw [ho]; exact k1, k2⟩
/-! The operations of the head, each in its own state. -/
def guardT (ops : List Oper) (o : Oper) : List Nat := match o.guard with
 | some (g, _) => (guardReg ops g).toList
 | none => []
def usesG (ops : List Oper) (o : Oper) : List Nat := guardT ops o ++ usesT o
structure AgreeG (ops : List Oper) (o : Oper) (σ σ' : St N) : Prop where
 regs : ∀ t ∈ usesG ops o, σ'.reg t = σ.reg t
 sub : Sub σ.own σ'.own
 len : σ'.regs.length = σ.regs.length
def HeadOp (P : Program) (ops : List Oper) (i : Nat) (o : Oper) (σ : St N) (e : Eff N) : Prop :=
 e.dst = o.dst ∧ ∀ σ', AgreeG ops o σ σ' → (∀ p ∈ e.ad, look σ'.own p.1 = none) → ∀ io w0 a w (K : Act → World → Prop) (Q : Exit → Act → World → Prop), Rel io w0 σ' a w → (∀ a' w', Rel io w0 (applyE σ' e) a' w' → K a' w') → wpOp P ops.toArray Q i K a w
def asked (i : Nat) : List Oper → Bool
 | [] => false
 | o :: r => (match o.guard with
  | some (g, _) => Nat.beq g i
  | none => false) || asked i r
def splitB (g : Bool) (s : Slot N) (k : Slot N → Option β) : Option β :=
 match g, s with
 | true, .one (.bool b) => bif b then k (.one (.bool true)) else k (.one (.bool false))
 | _, s => k s
theorem splitB_eq (g : Bool) (s : Slot N) (k : Slot N → Option β) : splitB g s k = k s := by
 unfold splitB
 split
 ·rename_i b
  cases b <;> rfl
 ·rfl
def drawHead (τ : TypeId → Option TI) (Φ : FuncId → Option (Spec N)) (ops : List Oper) (σ0 : St N) : List Oper → List (Eff N) → (List (Eff N) → Option β) → Option β
 | [], effs, k => k effs
 | o :: rest, effs, k =>
  drawOne (sq σ0 (fun j => effs.getD j ⟨none, .tup [], []⟩) (clo ops ops.length effs.length)) o fun s ad => splitB (asked effs.length ops) s fun s => drawHead τ Φ ops σ0 rest (effs ++ [⟨o.dst, s, ad⟩]) k
where
 drawOne (σ : St N) (o : Oper) (k : KK N β) : Option β :=
  match o.guard with
  | none => evE τ Φ o σ k
  | some (g, want) => match guardReg ops g with
   | none => k (.tup []) []
   | some d => match σ.reg d with
    | .one (.bool b) => bif want then (bif b then evE τ Φ o σ k else k (.tup []) []) else (bif b then k (.tup []) [] else evE τ Φ o σ k)
    | .tup [] => k (.tup []) []
    | _ => none
def ParD (τ : TypeId → Option TI) (Φ : FuncId → Option (Spec N)) (ops : List Oper) (o : Oper) (σ : St N) (s : Slot N) (ad : List (Nat × Blk N)) : Prop :=
 ∀ σ' : St N, AgreeG ops o σ σ' → (∀ p ∈ ad, look σ'.own p.1 = none) → ∀ {β' : Type} (k' : KK N β'), drawHead.drawOne τ Φ ops σ' o k' = k' s ad
theorem drawOne_sound (F : Fits P N τ) {Φ : FuncId → Option (Spec N)} (hΦ : ∀ f S, Φ f = some S → Good P (f % 1000000) S) {ops : List Oper} {i : Nat} {o : Oper} (hi : ops[i]? = some o) {σ : St N} {k : KK N β} {r : β} (h : drawHead.drawOne τ Φ ops σ o k = some r) :
  ∃ s ad, k s ad = some r ∧ (∀ p ∈ ad, look σ.own p.1 = none) ∧ HeadOp P ops i o σ ⟨o.dst, s, ad⟩ ∧ ParD τ Φ ops o σ s ad := by
 have hoi : (ops.toArray)[i]? = some o := by rw [List.getElem?_toArray]; exact hi
 have run : ∀ {k : KK N β}, evE τ Φ o σ k = some r → (∀ (σ' : St N), AgreeG ops o σ σ' → ∀ io w0 a w, Rel io w0 σ' a w → Region.wanted o (yielded ops.toArray a.tmps) = true) → (∀ (σ' : St N), AgreeG ops o σ σ' → ∀ {β' : Type} (k' : KK N β'), drawHead.drawOne τ Φ ops σ' o k' = evE τ Φ o σ' k') → ∃ s ad, k s ad = some r ∧ (∀ p ∈ ad, look σ.own p.1 = none) ∧ HeadOp P ops i o σ ⟨o.dst, s, ad⟩ ∧ ParD τ Φ ops o σ s ad := by
  intro k hk hw hdr
  obtain ⟨s, ad, h1, h2, h3⟩ := evE_does F hΦ hk
  refine ⟨s, ad, h1, h2, ⟨rfl, fun σ' hA hf io w0 a w K Q hr hK => ?_⟩, fun σ' hA hf {β'} k' => (hdr σ' hA k').trans ((h3 σ' ⟨fun t ht => hA.regs t (List.mem_append.2 (.inr ht)), hA.sub⟩ hf).2 k')⟩
  unfold wpOp
  simp only [hoi]
  rw [if_pos (hw σ' hA io w0 a w hr)]
  exact .inl ((h3 σ' ⟨fun t ht => hA.regs t (List.mem_append.2 (.inr ht)), hA.sub⟩ hf).1 io w0 a w K Q hr hK)
 have skip : ∀ {k : KK N β}, k (.tup []) [] = some r → (∀ (σ' : St N), AgreeG ops o σ σ' → ∀ io w0 a w, Rel io w0 σ' a w → Region.wanted o (yielded ops.toArray a.tmps) = false) → (∀ (σ' : St N), AgreeG ops o σ σ' → ∀ {β' : Type} (k' : KK N β'), drawHead.drawOne τ Φ ops σ' o k' = k' (.tup []) []) → ∃ s ad, k s ad = some r ∧ (∀ p ∈ ad, look σ.own p.1 = none) ∧ HeadOp P ops i o σ ⟨o.dst, s, ad⟩ ∧ ParD τ Φ ops o σ s ad := by
  intro k hk hw hdr
  refine ⟨_, _, hk, (fun p hp => by cases hp), ⟨rfl, fun σ' hA hf io w0 a w K Q hr hK => ?_⟩, fun σ' hA hf {β'} k' => hdr σ' hA k'⟩
  unfold wpOp
  simp only [hoi]
  rw [if_neg (by rw [hw σ' hA io w0 a w hr]; simp)]
  exact hK _ _ (hr.skip o.dst)
 unfold drawHead.drawOne at h
 split at h
 ·rename_i hg
  exact run h (fun σ' hA io w0 a w hr => by simp [Region.wanted, hg]) (fun σ' hA {β'} k' => by simp only [drawHead.drawOne, hg])
 ·rename_i g want hg
  have hW : ∀ a : Act, Region.wanted o (yielded ops.toArray a.tmps) = (yielded ops.toArray a.tmps g == some want) := fun a => by simp [Region.wanted, hg]
  have hy : ∀ a : Act, yielded ops.toArray a.tmps g = match (guardReg ops g).bind (a.tmps[·]?) with
    | some (.bool b) => some b
    | _ => none := by
   intro a
   unfold yielded
   rw [guardReg_toArray]
   rfl
  split at h
  ·rename_i hgr
   refine skip h (fun σ' hA io w0 a w hr => ?_) (fun σ' hA {β'} k' => by simp only [drawHead.drawOne, hg, hgr])
   rw [hW, hy, hgr]
   rfl
  ·rename_i d hgr
   have hd : d ∈ usesG ops o := List.mem_append.2 (.inl (by simp [guardT, hg, hgr]))
   split at h
   ·rename_i b hb
    have hyb : ∀ (σ' : St N), AgreeG ops o σ σ' → ∀ io w0 a w, Rel io w0 σ' a w → yielded ops.toArray a.tmps g = some b := by
     rintro σ' hA io w0 a w ⟨E, hrE⟩
     obtain ⟨hv, hlt⟩ := reg_slot hrE ((hA.regs d hd).trans hb) (by simp)
     have hv : a.tmps.getD d undef = .bool b := hv
     rw [hy, hgr]
     simp only [Option.bind_some]
     rw [Array.getD_eq_getD_getElem?, Array.getElem?_eq_getElem hlt] at hv
     rw [Array.getElem?_eq_getElem hlt]
     simp only [Option.getD_some] at hv
     rw [hv]
    cases want with
    | true =>
     simp only [cond_true] at h
     cases b with
     | true => exact run h (fun σ' hA io w0 a w hr => by rw [hW, hyb σ' hA io w0 a w hr]; rfl) (fun σ' hA {β'} k' => by simp only [drawHead.drawOne, hg, hgr, (hA.regs d hd).trans hb, cond_true, cond_false])
     | false => exact skip h (fun σ' hA io w0 a w hr => by rw [hW, hyb σ' hA io w0 a w hr]; rfl) (fun σ' hA {β'} k' => by simp only [drawHead.drawOne, hg, hgr, (hA.regs d hd).trans hb, cond_true, cond_false])
    | false =>
     simp only [cond_false] at h
     cases b with
     | true => exact skip h (fun σ' hA io w0 a w hr => by rw [hW, hyb σ' hA io w0 a w hr]; rfl) (fun σ' hA {β'} k' => by simp only [drawHead.drawOne, hg, hgr, (hA.regs d hd).trans hb, cond_true, cond_false])
     | false => exact run h (fun σ' hA io w0 a w hr => by rw [hW, hyb σ' hA io w0 a w hr]; rfl) (fun σ' hA {β'} k' => by simp only [drawHead.drawOne, hg, hgr, (hA.regs d hd).trans hb, cond_true, cond_false])
   ·rename_i hb
    refine skip h (fun σ' hA io w0 a w hr => ?_) (fun σ' hA {β'} k' => by simp only [drawHead.drawOne, hg, hgr, (hA.regs d hd).trans hb])
    obtain ⟨E, hrE⟩ := hr
    obtain ⟨⟨vs, hv, hl, _⟩, hlt⟩ := reg_slot hrE ((hA.regs d hd).trans hb) (by simp)
    rw [hW, hy, hgr]
    simp only [Option.bind_some]
    rw [Array.getD_eq_getD_getElem?, Array.getElem?_eq_getElem hlt] at hv
    rw [Array.getElem?_eq_getElem hlt]
    simp only [Option.getD_some] at hv
    rw [hv]
    rfl
   ·cases h
/-! Any order. -/
structure DrawOk (ops : List Oper) (m : Nat) : Prop where
 fwd : ∀ i, i < ops.length → ∀ k ∈ predsOf ops i, k < i
 uses : ∀ i j o o', i < m → j < m → ops[i]? = some o → ops[j]? = some o' → ∀ d, o'.dst = some d → d ∈ usesG ops o → i = j ∨ j ∈ clo ops ops.length i ∨ i ∈ clo ops ops.length j
theorem mem_preds {ops : List Oper} {i k : Nat} : k ∈ predsOf ops i ↔ ∃ o, ops[i]? = some o ∧ ∃ e ∈ o.after, Region.binds .any e = true ∧ e.on = k := by
 unfold predsOf
 cases h : ops[i]? with
 | none => simp
 | some o => simp [List.mem_map, List.mem_filter, and_assoc]
structure Inv (io : Io) (w0 : World) (ops : List Oper) (m : Nat) (σ0 : St N) (eff : Nat → Eff N) (listed : Array Bool) (seq : List Nat) (a : Act) (w : World) : Prop where
 head : HeadInv .any ops.toArray m listed
 mem : ∀ j, j < ops.length → (listed.getD j false = true ↔ j ∈ seq)
 lt : ∀ j ∈ seq, j < m
 nodup : seq.Nodup
 rel : Rel io w0 (sq σ0 eff seq) a w
theorem range_le : ∀ (m : Nat) (l : List Nat), (∀ i, i < m → i ∈ l) → m ≤ l.length
 | 0, l, _ => Nat.zero_le _
 | m + 1, l, h => by
  have h1 : m ∈ l := h m (by omega)
  have h2 := range_le m (l.erase m) (fun i hi => (List.mem_erase_of_ne (by omega)).2 (h i (by omega)))
  rw [List.length_erase_of_mem h1] at h2
  have := List.length_pos_of_mem h1
  omega
theorem getD_bool {listed : Array Bool} {i : Nat} (hi : i < listed.size) : listed.getD i true = listed.getD i false := by
 simp [hi]
theorem wpAny_draw {ops : List Oper} {m g : Nat} {σ0 : St N} {eff : Nat → Eff N} {io : Io} {w0 : World} {Q : Exit → Act → World → Prop} (hm : m ≤ ops.length) (hD : DrawOk ops m) (hE : EffsOk σ0 eff m)
  (hH : ∀ i, i < m → ∃ o, ops[i]? = some o ∧ HeadOp P ops i o (sq σ0 eff (clo ops ops.length i)) (eff i))
  (htail : m < ops.length → Region.sinkB .any ops.toArray m = true ∧ Region.chainB .any ops.toArray m = true)
  (hend : ∀ listed seq a w, Inv io w0 ops m σ0 eff listed seq a w → seq.length = m → wpAny P .any ops.toArray Q g listed a w) :
  ∀ (f : Nat) (listed : Array Bool) (seq : List Nat) (a : Act) (w : World), f + seq.length = m → Inv io w0 ops m σ0 eff listed seq a w → wpAny P .any ops.toArray Q (f + g) listed a w
 | 0, listed, seq, a, w, hf, hI => by
  rw [Nat.zero_add]
  exact hend listed seq a w hI (by omega)
 | f + 1, listed, seq, a, w, hf, hI => by
  have hsz : listed.size = ops.length := by have := hI.head.size; simpa using this
  -- some operation of the head is open
  obtain ⟨i0, hi0, hun0, hpre0⟩ : ∃ i, i < m ∧ listed.getD i false = false ∧ ∀ k, k < i → listed.getD k false = true := by
   have hex : ∃ i, i < m ∧ listed.getD i false = false := by
    apply Classical.byContradiction
    intro hno
    have hall : ∀ i, i < m → i ∈ seq := fun i hi => by
     rw [← hI.mem i (by omega)]
     cases h : listed.getD i false with
     | true => rfl
     | false => exact absurd ⟨i, hi, h⟩ hno
    have := range_le m seq hall
    omega
   obtain ⟨i, hi⟩ := hex
   induction i using Nat.strongRecOn with
   | _ i ih =>
    by_cases h : ∃ k, k < i ∧ listed.getD k false = false
    ·obtain ⟨k, hk, hk2⟩ := h
     exact ih k hk ⟨by omega, hk2⟩
    ·refine ⟨i, hi.1, hi.2, fun k hk => ?_⟩
     cases h2 : listed.getD k false with
     | true => rfl
     | false => exact absurd ⟨k, hk, h2⟩ h
  have hi0s : i0 < listed.size := by omega
  have hready0 : i0 ∈ Region.ready .any ops.toArray listed := by
   rw [mem_ready]
   refine ⟨by rw [getD_bool hi0s]; exact hun0, ?_⟩
   have hlt : i0 < ops.length := by omega
   refine ⟨ops[i0], by simp [hlt], fun e he hb => ?_⟩
   exact hpre0 _ (hD.fwd i0 hlt e.on (mem_preds.2 ⟨_, by simp [hlt], e, he, hb, rfl⟩))
  rw [show f + 1 + g = (f + g) + 1 from by omega]
  refine ⟨(fun h0 => by rw [h0] at hready0; cases hready0), fun i hi => ?_⟩
  obtain ⟨hun, oi, hoi, hall⟩ := mem_ready.1 hi
  have hoi' : ops[i]? = some oi := by rw [List.getElem?_toArray] at hoi; exact hoi
  have hilt : i < ops.length := (List.getElem?_eq_some_iff.1 hoi').1
  have him : i < m := by
   rcases Nat.lt_or_ge i m with h | h
   ·exact h
   ·have hml : m < ops.length := by omega
    obtain ⟨hs, hc⟩ := htail hml
    exact absurd hi (tail_waits hs hc (by simpa using hml) hI.head (m - i0) i0 rfl hi0 (by rw [getD_bool hi0s]; exact hun0) i h)
  have hins : i ∉ seq := fun hm' => by
   have := (hI.mem i hilt).2 hm'
   rw [← getD_bool (by omega)] at this
   rw [this] at hun
   cases hun
  have hclosed : ∀ j, j ∈ seq → ∀ k ∈ predsOf ops j, k ∈ seq := by
   intro j hj k hk
   obtain ⟨oj, hoj, e, he, hb, rfl⟩ := mem_preds.1 hk
   have hjl : j < ops.length := (List.getElem?_eq_some_iff.1 hoj).1
   have h1 := hI.head.closed j oj (by rw [List.getElem?_toArray]; exact hoj) ((hI.mem j hjl).2 hj) e he hb
   exact (hI.mem e.on (Nat.lt_trans (hD.fwd j hjl e.on hk) hjl)).1 h1
  have hpreds : ∀ k ∈ predsOf ops i, k ∈ seq := by
   intro k hk
   obtain ⟨oj, hoj, e, he, hb, rfl⟩ := mem_preds.1 hk
   have : oj = oi := Option.some.inj (hoj.symm.trans hoi')
   subst this
   exact (hI.mem e.on (Nat.lt_trans (hD.fwd i hilt e.on hk) hilt)).1 (hall e he hb)
  have hclo : ∀ k ∈ clo ops ops.length i, k ∈ seq := clo_sub (S := fun k => k ∈ seq) hclosed _ i hpreds
  have hcloj : ∀ j ∈ seq, ∀ k ∈ clo ops ops.length j, k ∈ seq := fun j hj => clo_sub (S := fun k => k ∈ seq) hclosed _ j (hclosed j hj)
  have hback : ∀ j, j < ops.length → ∀ k ∈ clo ops ops.length j, k < j := fun j hj => clo_sub (S := fun k => k < j) (fun k hk l hl => Nat.lt_trans (hD.fwd k (by omega) l hl) hk) _ j (hD.fwd j hj)
  have hclom : ∀ k ∈ clo ops ops.length i, k < m := fun k hk => Nat.lt_trans (hback i hilt k hk) him
  obtain ⟨o, ho, hdst, hop⟩ := hH i him
  have : o = oi := Option.some.inj (ho.symm.trans hoi')
  subst this
  have hA : AgreeG ops o (sq σ0 eff (clo ops ops.length i)) (sq σ0 eff seq) := by
   refine ⟨fun t ht => ?_, fun id b hb => ?_, by rw [sq_regs, sq_regs]⟩
   ·have r1 := sq_reg hE (t := t) hI.lt
    have r2 := sq_reg hE (t := t) hclom
    by_cases hx : ∃ j, j < m ∧ (eff j).dst = some t
    ·obtain ⟨j, hj, hjd⟩ := hx
     obtain ⟨oj, hoj, hdj, _⟩ := hH j hj
     by_cases hjs : j ∈ seq
     ·rw [r1.1 j hjs hjd]
      by_cases hjc : j ∈ clo ops ops.length i
      ·rw [r2.1 j hjc hjd]
      ·exfalso
       rcases hD.uses i j o oj him hj ho hoj t (by rw [← hdj]; exact hjd) ht with h | h | h
       ·subst h; exact hins hjs
       ·exact hjc h
       ·exact hins (hcloj j hjs i h)
     ·have hjc : j ∉ clo ops ops.length i := fun h => hjs (hclo j h)
      have u : ∀ (L : List Nat), (∀ k ∈ L, k < m) → j ∉ L → ∀ k ∈ L, (eff k).dst ≠ some t := fun L hL hjL k hk hkd => hjL (by rw [hE.one j k hj (hL k hk) t hjd hkd]; exact hk)
      rw [r1.2 (u seq hI.lt hjs), r2.2 (u _ hclom hjc)]
    ·have u : ∀ (L : List Nat), (∀ k ∈ L, k < m) → ∀ k ∈ L, (eff k).dst ≠ some t := fun L hL k hk hkd => hx ⟨k, hL k hk, hkd⟩
     rw [r1.2 (u seq hI.lt), r2.2 (u _ hclom)]
   ·have r1 := sq_own hE (id := id) hI.lt
    have r2 := sq_own hE (id := id) hclom
    by_cases hx : ∃ j ∈ clo ops ops.length i, ∃ b', look (eff j).ad id = some b'
    ·obtain ⟨j, hj, b', hb'⟩ := hx
     rw [r2.1 j hj b' hb'] at hb
     rw [r1.1 j (hclo j hj) b' hb']
     exact hb
    ·have hn : ∀ j ∈ clo ops ops.length i, look (eff j).ad id = none := fun j hj => by
      cases h : look (eff j).ad id with
      | none => rfl
      | some b' => exact absurd ⟨j, hj, b', h⟩ hx
     rw [r2.2 hn] at hb
     have hn1 : ∀ j ∈ seq, look (eff j).ad id = none := fun j hj => by
      cases h : look (eff j).ad id with
      | none => rfl
      | some b' =>
       have := hE.fresh j (hI.lt j hj) id b' h
       rw [hb] at this
       cases this
     rw [r1.2 hn1]
     exact hb
  have hfr : ∀ p ∈ (eff i).ad, look (sq σ0 eff seq).own p.1 = none := by
   intro p hp
   have hsome : ∃ b, look (eff i).ad p.1 = some b := look_of_mem hp
   obtain ⟨b, hb⟩ := hsome
   have r1 := sq_own hE (id := p.1) hI.lt
   rw [r1.2 (fun j hj => by
    cases h : look (eff j).ad p.1 with
    | none => rfl
    | some b' => exact absurd (hE.ids i j him (hI.lt j hj) p.1 b b' hb h) (fun e => hins (e ▸ hj)))]
   exact hE.fresh i him p.1 b hb
  refine hop (sq σ0 eff seq) hA hfr io w0 a w _ _ hI.rel (fun a' w' hr => ?_)
  refine wpAny_draw hm hD hE hH htail hend f (listed.setIfInBounds i true) (i :: seq) a' w' (by simp only [List.length_cons]; omega) ⟨hI.head.set hi him, fun j hj => ?_, fun j hj => ?_, List.nodup_cons.2 ⟨hins, hI.nodup⟩, hr⟩
  ·by_cases hij : i = j
   ·subst hij
    simp [hsz, hj]
   ·rw [getD_set_ne false hij, hI.mem j hj, List.mem_cons]
    exact ⟨.inr, fun h => h.resolve_left (fun e => hij e.symm)⟩
  ·rcases List.mem_cons.1 hj with rfl | hj
   ·exact him
   ·exact hI.lt j hj
where
 look_of_mem {β : Type} : ∀ {l : List (Nat × β)} {p : Nat × β}, p ∈ l → ∃ b, look l p.1 = some b
  | [], p, h => by cases h
  | (k, v) :: r, p, h => by
   unfold look
   cases hk : (k == p.1) with
   | true => exact ⟨v, rfl⟩
   | false =>
    rcases List.mem_cons.1 h with rfl | h
    ·simp at hk
    ·exact look_of_mem h
end Go.Eng

set_option linter.unusedVariables false
set_option linter.unusedSimpArgs false
namespace Go.Eng
variable {N : Names} {P : Program} {τ : TypeId → Option TI} {β : Type}
def isE (o : Oper) : Bool := match o.op with
 | .move _ => true
 | .assign _ => true
 | .load _ _ => true
 | .nilCheck _ => true
 | .binOp .. => true
 | .unOp .. => true
 | .convert .. => true
 | .slice .. => true
 | .pick .. => true
 | .alloc _ => true
 | .build .. => true
 | .buildSlice .. => true
 | .makeSlice .. => true
 | .fieldAddr .. => true
 | .field .. => true
 | .indexAddr .. => true
 | .index .. => true
 | .extract .. => true
 | .call c => match c.callee with
  | .value _ => true
  | .builtin .len => true
  | .builtin .min => true
  | .builtin .max => true
  | _ => false
 | _ => false
def headLen : List Oper → Nat
 | [] => 0
 | o :: r => bif isE o then headLen r + 1 else 0
def allLt (f : Nat → Bool) : Nat → Bool
 | 0 => true
 | n + 1 => f n && allLt f n
theorem allLt_spec {f : Nat → Bool} : ∀ {n : Nat}, allLt f n = true → ∀ i, i < n → f i = true
 | 0, _, i, hi => by omega
 | n + 1, h, i, hi => by
  simp only [allLt, Bool.and_eq_true] at h
  rcases Nat.lt_or_ge i n with h' | h'
  ·exact allLt_spec h.2 i h'
  ·rw [show i = n from by omega]
   exact h.1
def fwdOk (ops : List Oper) : Bool := allLt (fun i => (predsOf ops i).all fun k => Nat.blt k i) ops.length
def usesOk (ops : List Oper) (m : Nat) : Bool := allLt (fun i => allLt (fun j => match ops[i]?, ops[j]? with
 | some o, some o' => match o'.dst with
  | some d => !(usesG ops o).contains d || (Nat.beq i j || ((clo ops ops.length i).contains j || (clo ops ops.length j).contains i))
  | none => true
 | _, _ => true) m) m
def canon (n m : Nat) : Array Bool := (List.replicate m true ++ List.replicate (n - m) false).toArray
def statOk (ops : List Oper) (m : Nat) : Bool :=
 fwdOk ops && usesOk ops m && (Nat.beq m ops.length || (Region.sinkB .any ops.toArray m && Region.chainB .any ops.toArray m)) && Region.seqB .any ops.toArray (ops.length - m) m (canon ops.length m)
def effDsts : List (Eff N) → List Nat
 | [] => []
 | e :: r => match e.dst with
  | some d => d :: effDsts r
  | none => effDsts r
def effIds : List (Eff N) → List Nat
 | [] => []
 | e :: r => e.ad.map (·.1) ++ effIds r
def effsChk (σ0 : St N) (effs : List (Eff N)) : Bool :=
 (effDsts effs).all (fun d => Nat.blt d σ0.regs.length) && nodupB (effDsts effs) && nodupB (effIds effs) && freshIds σ0.own (effIds effs)
def downTo : Nat → List Nat
 | 0 => []
 | n + 1 => n :: downTo n
def effAt (effs : List (Eff N)) (j : Nat) : Eff N := effs.getD j ⟨none, .tup [], []⟩
def drawHeadC (τ : TypeId → Option TI) (Φ : FuncId → Option (Spec N)) (ops : List Oper) (σ0 : St N) : List Oper → List (Eff N) → St N → (List (Eff N) → Option β) → Option β
 | [], effs, _, k => k effs
 | o :: rest, effs, cur, k =>
  drawHead.drawOne τ Φ ops (bif Nat.beq (clo ops ops.length effs.length).length effs.length then cur else sq σ0 (effAt effs) (clo ops ops.length effs.length)) o fun s ad => splitB (asked effs.length ops) s fun s => drawHeadC τ Φ ops σ0 rest (effs ++ [⟨o.dst, s, ad⟩]) (applyE cur ⟨o.dst, s, ad⟩) k
def execDraw (τ : TypeId → Option TI) (Φ : FuncId → Option (Spec N)) (ops : List Oper) (m : Nat) (σ0 : St N) (k : St N → Option β) : Option β :=
 bif statOk ops (m) then
  drawHeadC τ Φ ops σ0 (ops.take (m)) [] σ0 fun effs =>
   bif effsChk σ0 effs then execOps τ Φ ops (ops.drop (m)) (sq σ0 (effAt effs) (downTo (m))) k else none
 else none
theorem mem_downTo {n i : Nat} : i ∈ downTo n ↔ i < n := by
 induction n with
 | zero => simp [downTo]
 | succ n ih => simp only [downTo, List.mem_cons, ih]; omega
def tailFrom (ops : List Oper) : Nat → Nat
 | 0 => 0
 | t + 1 => bif Nat.beq (clo ops ops.length t).length t then tailFrom ops t else t + 1
def headLenT (ops : List Oper) : Nat := Nat.min (headLen ops) (tailFrom ops ops.length)
theorem headLen_le : ∀ (ops : List Oper), headLen ops ≤ ops.length
 | [] => Nat.le_refl _
 | o :: r => by
  unfold headLen
  cases isE o with
  | true => simpa using headLen_le r
  | false => simp
theorem drawOk_of {ops : List Oper} {m : Nat} (h1 : fwdOk ops = true) (h2 : usesOk ops m = true) : DrawOk ops m := by
 refine ⟨fun i hi k hk => ?_, fun i j o o' hi hj ho ho' d hd hu => ?_⟩
 ·have := allLt_spec h1 i hi
  exact Nat.le_of_ble_eq_true (List.all_eq_true.1 this k hk)
 ·have := allLt_spec (allLt_spec h2 i hi) j hj
  simp only [ho, ho', hd, Bool.or_eq_true, Bool.not_eq_true'] at this
  rcases this with h | h | h | h
  ·exact absurd hu (contains_false h)
  ·exact .inl (Nat.eq_of_beq_eq_true h)
  ·exact .inr (.inl (List.contains_iff_mem.1 h))
  ·exact .inr (.inr (List.contains_iff_mem.1 h))
theorem nodup_get {α : Type} {f : α → List Nat} : ∀ {l : List α}, (l.flatMap f).Nodup → ∀ (i j : Nat) x y, l[i]? = some x → l[j]? = some y → ∀ k, k ∈ f x → k ∈ f y → i = j
 | [], _, i, j, x, y, hi, hj, k, hx, hy => by simp at hi
 | a :: l, h, i, j, x, y, hi, hj, k, hx, hy => by
  rw [List.flatMap_cons, List.nodup_append] at h
  cases i with
  | zero =>
   simp only [List.getElem?_cons_zero, Option.some.injEq] at hi
   subst hi
   cases j with
   | zero => rfl
   | succ j =>
    have hj : l[j]? = some y := by simpa using hj
    exact absurd rfl (h.2.2 k hx k (List.mem_flatMap.2 ⟨y, List.mem_of_getElem? hj, hy⟩))
  | succ i =>
   have hi : l[i]? = some x := by simpa using hi
   cases j with
   | zero =>
    simp only [List.getElem?_cons_zero, Option.some.injEq] at hj
    subst hj
    exact absurd rfl (h.2.2 k hy k (List.mem_flatMap.2 ⟨x, List.mem_of_getElem? hi, hx⟩))
   | succ j =>
    have hj : l[j]? = some y := by simpa using hj
    rw [nodup_get h.2.1 i j x y hi hj k hx hy]
theorem effDsts_eq : ∀ (effs : List (Eff N)), effDsts effs = effs.flatMap (fun e => e.dst.toList)
 | [] => rfl
 | e :: r => by
  unfold effDsts
  cases h : e.dst <;> simp [List.flatMap_cons, effDsts_eq r, h]
theorem effIds_eq : ∀ (effs : List (Eff N)), effIds effs = effs.flatMap (fun e => e.ad.map (·.1))
 | [] => rfl
 | e :: r => by simp [effIds, List.flatMap_cons, effIds_eq r]
theorem effAt_get {effs : List (Eff N)} {j : Nat} (h : j < effs.length) : effs[j]? = some (effAt effs j) := by
 unfold effAt
 rw [List.getD_eq_getElem?_getD, List.getElem?_eq_getElem h]
 rfl
theorem effsOk_of {σ0 : St N} {effs : List (Eff N)} (h : effsChk σ0 effs = true) : EffsOk σ0 (effAt effs) effs.length := by
 simp only [effsChk, Bool.and_eq_true] at h
 obtain ⟨⟨⟨h1, h2⟩, h3⟩, h4⟩ := h
 have h2 := nodupB_spec h2
 have h3 := nodupB_spec h3
 have h4 := freshIds_spec h4
 rw [effDsts_eq] at h1 h2
 rw [effIds_eq] at h3 h4
 refine ⟨fun j hj d hd => ?_, fun i j hi hj d h5 h6 => ?_, fun i j hi hj id b b' h5 h6 => ?_, fun j hj id b hb => ?_⟩
 ·exact Nat.le_of_ble_eq_true (List.all_eq_true.1 h1 d (List.mem_flatMap.2 ⟨_, List.mem_of_getElem? (effAt_get hj), by rw [hd]; simp⟩))
 ·exact nodup_get h2 i j _ _ (effAt_get hi) (effAt_get hj) d (by rw [h5]; simp) (by rw [h6]; simp)
 ·exact nodup_get h3 i j _ _ (effAt_get hi) (effAt_get hj) id (List.mem_map.2 ⟨_, look_mem h5, rfl⟩) (List.mem_map.2 ⟨_, look_mem h6, rfl⟩)
 ·exact h4 id (List.mem_flatMap.2 ⟨_, List.mem_of_getElem? (effAt_get hj), List.mem_map.2 ⟨_, look_mem hb, rfl⟩⟩)
theorem sq_congr {σ0 : St N} {eff eff' : Nat → Eff N} : ∀ {L : List Nat}, (∀ j ∈ L, eff j = eff' j) → sq σ0 eff L = sq σ0 eff' L
 | [], _ => rfl
 | j :: L, h => by
  rw [sq, sq, h j List.mem_cons_self, sq_congr (fun k hk => h k (List.mem_cons_of_mem _ hk))]
theorem bitsDown_le (m : Nat) : ∀ n, (bitsDown m n).length ≤ n
 | 0 => Nat.le_refl _
 | n + 1 => by
  unfold bitsDown
  cases m.testBit n with
  | true => simpa using bitsDown_le m n
  | false => exact Nat.le_succ_of_le (bitsDown_le m n)
theorem bitsDown_all {m : Nat} : ∀ {n : Nat}, (bitsDown m n).length = n → bitsDown m n = downTo n
 | 0, _ => rfl
 | n + 1, h => by
  unfold bitsDown at h ⊢
  cases hb : m.testBit n with
  | true =>
   rw [hb, cond_true, List.length_cons] at h
   rw [cond_true, bitsDown_all (Nat.succ.inj h)]
   rfl
  | false =>
   rw [hb, cond_false] at h
   have := bitsDown_le m n
   omega
theorem drawHeadC_eq {τ : TypeId → Option TI} {Φ : FuncId → Option (Spec N)} {ops : List Oper} {σ0 : St N} : ∀ (todo : List Oper) (effs : List (Eff N)) (cur : St N) (k : List (Eff N) → Option β), cur = sq σ0 (effAt effs) (downTo effs.length) →
  drawHeadC τ Φ ops σ0 todo effs cur k = drawHead τ Φ ops σ0 todo effs k
 | [], effs, cur, k, _ => rfl
 | o :: rest, effs, cur, k, hc => by
  unfold drawHeadC drawHead
  have e1 : (bif Nat.beq (clo ops ops.length effs.length).length effs.length then cur else sq σ0 (effAt effs) (clo ops ops.length effs.length)) = sq σ0 (effAt effs) (clo ops ops.length effs.length) := by
   cases hb : Nat.beq (clo ops ops.length effs.length).length effs.length with
   | false => rfl
   | true =>
    rw [cond_true, hc]
    congr 1
    exact (bitsDown_all (Nat.eq_of_beq_eq_true hb)).symm
  rw [e1]
  have e2 : ∀ (s : Slot N) (ad : List (Nat × Blk N)), drawHeadC τ Φ ops σ0 rest (effs ++ [⟨o.dst, s, ad⟩]) (applyE cur ⟨o.dst, s, ad⟩) k = drawHead τ Φ ops σ0 rest (effs ++ [⟨o.dst, s, ad⟩]) k := fun s ad => by
   refine drawHeadC_eq rest _ _ k ?_
   rw [List.length_append, List.length_singleton]
   have hnew : effAt (effs ++ [⟨o.dst, s, ad⟩]) effs.length = ⟨o.dst, s, ad⟩ := by
    unfold effAt
    rw [List.getD_eq_getElem?_getD, List.getElem?_append_right (Nat.le_refl _)]
    simp
   show _ = applyE (sq σ0 _ (downTo effs.length)) (effAt _ effs.length)
   rw [hnew, hc]
   congr 1
   refine sq_congr (fun j hj => ?_)
   have hj := mem_downTo.1 hj
   unfold effAt
   rw [List.getD_eq_getElem?_getD, List.getD_eq_getElem?_getD, List.getElem?_append_left hj]
  simp only [e2]
  rfl
theorem drawHead_sound (F : Fits P N τ) {Φ : FuncId → Option (Spec N)} (hΦ : ∀ f S, Φ f = some S → Good P (f % 1000000) S) {ops : List Oper} (hfwd : ∀ i, i < ops.length → ∀ k ∈ clo ops ops.length i, k < i) {σ0 : St N} {r : β} : ∀ (todo : List Oper) (effs : List (Eff N)) (k : List (Eff N) → Option β),
  (∀ j, todo[j]? = none ∨ todo[j]? = ops[effs.length + j]?) → drawHead τ Φ ops σ0 todo effs k = some r →
  (∀ i, i < effs.length → ∃ o, ops[i]? = some o ∧ HeadOp P ops i o (sq σ0 (effAt effs) (clo ops ops.length i)) (effAt effs i)) →
  ∃ all : List (Eff N), k all = some r ∧ all.length = effs.length + todo.length ∧ ∀ i, i < all.length → ∃ o, ops[i]? = some o ∧ HeadOp P ops i o (sq σ0 (effAt all) (clo ops ops.length i)) (effAt all i)
 | [], effs, k, ht, h, hH => ⟨effs, h, rfl, hH⟩
 | o :: rest, effs, k, ht, h, hH => by
  have ho : ops[effs.length]? = some o := by
   rcases ht 0 with h0 | h0
   ·simp at h0
   ·simpa using h0.symm
  have hl : effs.length < ops.length := (List.getElem?_eq_some_iff.1 ho).1
  unfold drawHead at h
  obtain ⟨s, ad, h1, h2, h3, _⟩ := drawOne_sound F hΦ ho h
  rw [splitB_eq] at h1
  have hold : ∀ j, j < effs.length → effAt (effs ++ [⟨o.dst, s, ad⟩]) j = effAt effs j := fun j hj => by
   unfold effAt
   rw [List.getD_eq_getElem?_getD, List.getD_eq_getElem?_getD, List.getElem?_append_left hj]
  have hnew : effAt (effs ++ [⟨o.dst, s, ad⟩]) effs.length = ⟨o.dst, s, ad⟩ := by
   unfold effAt
   rw [List.getD_eq_getElem?_getD, List.getElem?_append_right (Nat.le_refl _)]
   simp
  obtain ⟨all, a1, a2, a3⟩ := drawHead_sound F hΦ hfwd rest (effs ++ [⟨o.dst, s, ad⟩]) k (fun j => by
   have := ht (j + 1)
   simp only [List.getElem?_cons_succ] at this
   rcases this with h | h
   ·exact .inl h
   ·exact .inr (by rw [h]; congr 1; simp; omega)) h1 (fun i hi => by
   rw [List.length_append, List.length_singleton] at hi
   rcases Nat.lt_or_ge i effs.length with h' | h'
   ·obtain ⟨oi, o1, o2⟩ := hH i h'
    refine ⟨oi, o1, ?_⟩
    rw [hold i h', sq_congr (fun j hj => hold j (Nat.lt_trans (hfwd i (by omega) j hj) h'))]
    exact o2
   ·have hi' : i = effs.length := by omega
    subst hi'
    refine ⟨o, ho, ?_⟩
    rw [hnew, sq_congr (fun j hj => hold j (hfwd _ hl j hj))]
    exact h3)
  exact ⟨all, a1, by rw [a2]; simp; omega, a3⟩
theorem Ext.drawn (w : World) : Ext w { w with drawn := w.drawn + 1 } := ⟨rfl, rfl, rfl, Nat.le_refl _, fun _ _ => rfl⟩
theorem execDraw_sound (F : Fits P N τ) {Φ : FuncId → Option (Spec N)} (hΦ : ∀ f S, Φ f = some S → Good P (f % 1000000) S) (hm : P.follows .mixedOrders = true) {ops : List Oper} {k : St N → Option β} {r : β} {io : Io} {w0 : World} {Q : Exit → Act → World → Prop}
  (hk : ∀ σ a w, k σ = some r → Rel io w0 σ a w → Q .normal a w) {σ : St N} {m : Nat} (hm' : m ≤ ops.length) (h : execDraw τ Φ ops m σ k = some r) {a : Act} {w : World} (hr : Rel io w0 σ a w) {id : Nat} : (Code.region id ops.toArray true).wp P Q a w := by
 unfold execDraw at h
 simp only [drawHeadC_eq (σ0 := σ) _ _ _ _ (show σ = sq σ (effAt ([] : List (Eff N))) (downTo 0) from rfl)] at h
 obtain ⟨hst, h⟩ := bif_none h
 simp only [statOk, Bool.and_eq_true, Bool.or_eq_true] at hst
 obtain ⟨⟨⟨s1, s2⟩, s3⟩, s4⟩ := hst
 have hD := drawOk_of s1 s2
 have hfwd : ∀ i, i < ops.length → ∀ k ∈ clo ops ops.length i, k < i := fun j hj => clo_sub (S := fun k => k < j) (fun k hk l hl => Nat.lt_trans (hD.fwd k (by omega) l hl) hk) _ j (hD.fwd j hj)
 obtain ⟨all, h1, h2, h3⟩ := drawHead_sound F hΦ hfwd (ops.take m) [] _ (fun j => by
  rw [List.getElem?_take]
  split
  ·exact .inr (by simp)
  ·exact .inl rfl) h (fun i hi => by cases hi)
 have hlen : all.length = m := by rw [h2]; simp; omega
 obtain ⟨hc, h1⟩ := bif_none h1
 have hE := effsOk_of hc
 rw [hlen] at hE h3
 have hr' : Rel io w0 σ a { w with drawn := w.drawn + 1 } := by
  obtain ⟨E, hE'⟩ := hr
  exact ⟨E, hE'.ext (Ext.drawn w)⟩
 refine wp_region_any hm ?_
 have hsz : ops.toArray.size = m + (ops.length - m) := by simp; omega
 rw [hsz]
 refine wpAny_draw (σ0 := σ) (eff := effAt all) hm' hD hE h3 (fun hlt => ?_) ?_ m _ [] a _ (by simp) ⟨⟨by simp; omega, fun j oj _ hl => (by rw [getD_replicate_false] at hl; cases hl), fun t _ ht => getD_in (by simp at ht ⊢; omega) (getD_replicate_false _ _)⟩, fun j hj => ?_, (fun j hj => by cases hj), List.nodup_nil, hr'⟩
 ·rcases s3 with s3 | s3
  ·have := Nat.eq_of_beq_eq_true s3
   omega
  ·exact s3
 ·-- the head is done
  intro listed seq a w hI hl
  have hall : ∀ j, j < m → j ∈ seq := by
   intro j hj
   apply Classical.byContradiction
   intro hn
   have h5 : ∀ m (l : List Nat), l.Nodup → (∀ x ∈ l, x < m) → j < m → j ∉ l → l.length < m := by
    intro m l hnd hlt hjm hjl
    have h6 : (j :: l).Nodup := List.nodup_cons.2 ⟨hjl, hnd⟩
    have h7 := nodup_le m (j :: l) h6 (fun x hx => by
     rcases List.mem_cons.1 hx with rfl | hx
     ·exact hjm
     ·exact hlt x hx)
    simp only [List.length_cons] at h7
    omega
   have := h5 _ seq hI.nodup hI.lt hj hn
   omega
  have hrel : Rel io w0 (sq σ (effAt all) (downTo m)) a w := by
   obtain ⟨E, hE'⟩ := hI.rel
   have hdl : ∀ j ∈ downTo m, j < m := fun j hj => mem_downTo.1 hj
   refine ⟨E, hE'.same (by rw [sq_regs, sq_regs]) (fun t => ?_) (fun id => ?_)⟩
   ·have r1 := sq_reg hE (t := t) hI.lt
    have r2 := sq_reg hE (t := t) hdl
    by_cases hx : ∃ j, j < m ∧ (effAt all j).dst = some t
    ·obtain ⟨j, hj, hjd⟩ := hx
     rw [r1.1 j (hall j hj) hjd, r2.1 j (mem_downTo.2 hj) hjd]
    ·rw [r1.2 (fun j hj hjd => hx ⟨j, hI.lt j hj, hjd⟩), r2.2 (fun j hj hjd => hx ⟨j, hdl j hj, hjd⟩)]
   ·have r1 := sq_own hE (id := id) hI.lt
    have r2 := sq_own hE (id := id) hdl
    by_cases hx : ∃ j, j < m ∧ ∃ b, look (effAt all j).ad id = some b
    ·obtain ⟨j, hj, b, hb⟩ := hx
     rw [r1.1 j (hall j hj) b hb, r2.1 j (mem_downTo.2 hj) b hb]
    ·have hn : ∀ j, j < m → look (effAt all j).ad id = none := fun j hj => by
      cases h : look (effAt all j).ad id with
      | none => rfl
      | some b => exact absurd ⟨j, hj, b, h⟩ hx
     rw [r1.2 (fun j hj => hn j (hI.lt j hj)), r2.2 (fun j hj => hn j (hdl j hj))]
  have hlst : listed = canon ops.length m := by
   have hs1 : listed.size = ops.length := by have := hI.head.size; simpa using this
   apply Array.ext
   ·rw [hs1]; simp [canon]; omega
   ·intro j hj1 hj2
    have hj : j < ops.length := by omega
    have hg : listed.getD j false = listed[j] := by simp [hj1]
    have hmem := hI.mem j hj
    rw [hg] at hmem
    rcases Nat.lt_or_ge j m with h' | h'
    ·rw [hmem.2 (hall j h')]
     simp [canon, List.getElem_append, h']
    ·have : listed[j] = false := by
      cases hv : listed[j] with
      | false => rfl
      | true =>
       have := hI.lt j (hmem.1 hv)
       omega
     rw [this]
     simp only [canon, List.getElem_toArray, List.getElem_append, List.length_replicate]
     rw [dif_neg (by omega)]
     simp
  have hlst2 := execOps_sound (ops := ops) (Q := Q) F hΦ hk (ops.drop m) _ h1 a w hrel
  have := wpAny_of_seq (P := P) (md := .any) (ops := ops.toArray) (Q' := Q) (ops.drop m) m listed a w (fun j => by simp) (by rw [hlst, List.length_drop]; exact s4) hlst2
  rw [List.length_drop] at this
  exact this
 ·rw [getD_replicate_false]
  simp
where
 nodup_le : ∀ (m : Nat) (l : List Nat), l.Nodup → (∀ x ∈ l, x < m) → l.length ≤ m
  | 0, l, _, h => by
   cases l with
   | nil => exact Nat.le_refl _
   | cons x r => have := h x List.mem_cons_self; omega
  | m + 1, l, hn, h => by
   have h1 := nodup_le m (l.erase m) (hn.erase m) (fun x hx => by
    have h2 := h x (List.mem_of_mem_erase hx)
    have h3 : x ≠ m := fun e => by
     subst e
     exact (List.Nodup.not_mem_erase hn) hx
    omega)
   have h4 := List.length_erase_le (a := m) (l := l)
   by_cases hm : m ∈ l
   ·rw [List.length_erase_of_mem hm] at h1
    omega
   ·rw [List.erase_of_not_mem hm] at h1
    omega
end Go.Eng

set_option linter.unusedVariables false
set_option linter.unusedSimpArgs false
namespace Go.Eng
variable {N : Names} {P : Program} {τ : TypeId → Option TI} {β : Type}
inductive Lin (ops : List Oper) : List Nat → Prop
 | nil : Lin ops []
 | cons {j : Nat} {L : List Nat} : (∀ k ∈ clo ops ops.length j, k ∈ L) → j ∉ L → Lin ops L → Lin ops (j :: L)
theorem Lin.closed {ops : List Oper} : ∀ {L : List Nat}, Lin ops L → ∀ j ∈ L, ∀ k ∈ clo ops ops.length j, k ∈ L
 | _, .nil, j, hj => by cases hj
 | _, .cons h1 h2 h3, j, hj => by
  intro k hk
  rcases List.mem_cons.1 hj with rfl | hj
  ·exact List.mem_cons_of_mem _ (h1 k hk)
  ·exact List.mem_cons_of_mem _ (h3.closed j hj k hk)
theorem sq_one {σ0 : St N} {eff : Nat → Eff N} {id j : Nat} {b : Blk N} (hb : look (eff j).ad id = some b) : ∀ {L : List Nat}, j ∈ L → (∀ i ∈ L, ∀ b', look (eff i).ad id = some b' → i = j) → look (sq σ0 eff L).own id = some b
 | [], hj, _ => by cases hj
 | i :: L, hj, hu => by
  have hr : look (sq σ0 eff (i :: L)).own id = match look (eff i).ad id with
    | some b => some b
    | none => look (sq σ0 eff L).own id := applyE_own _ _ _
  rw [hr]
  cases hi : look (eff i).ad id with
  | some b' =>
   have := hu i List.mem_cons_self b' hi
   subst this
   rw [hb] at hi
   exact hi.symm
  | none =>
   rcases List.mem_cons.1 hj with rfl | hj
   ·rw [hb] at hi; cases hi
   ·exact sq_one hb hj (fun i hi => hu i (List.mem_cons_of_mem _ hi))
theorem sq_last {σ0 : St N} {eff : Nat → Eff N} {ops : List Oper} {id j : Nat} {b : Blk N} (hb : look (eff j).ad id = some b) : ∀ {L : List Nat}, Lin ops L → j ∈ L → (∀ i ∈ L, ∀ b', look (eff i).ad id = some b' → i = j ∨ i ∈ clo ops ops.length j) → look (sq σ0 eff L).own id = some b
 | _, .nil, hj, _ => by cases hj
 | i :: L, .cons h1 h2 h3, hj, hu => by
  have hr : look (sq σ0 eff (i :: L)).own id = match look (eff i).ad id with
    | some b => some b
    | none => look (sq σ0 eff L).own id := applyE_own _ _ _
  rw [hr]
  cases hi : look (eff i).ad id with
  | some b' =>
   rcases hu i List.mem_cons_self b' hi with rfl | hc
   ·rw [hb] at hi
    exact hi.symm
   ·rcases List.mem_cons.1 hj with rfl | hj
    ·rw [hb] at hi
     exact hi.symm
    ·exact absurd (h3.closed j hj i hc) h2
  | none =>
   rcases List.mem_cons.1 hj with rfl | hj
   ·rw [hb] at hi; cases hi
   ·exact sq_last hb h3 hj (fun i hi => hu i (List.mem_cons_of_mem _ hi))
theorem sq_none {σ0 : St N} {eff : Nat → Eff N} {id : Nat} : ∀ {L : List Nat}, (∀ i ∈ L, look (eff i).ad id = none) → look (sq σ0 eff L).own id = look σ0.own id
 | [], _ => rfl
 | i :: L, hu => by
  have hr : look (sq σ0 eff (i :: L)).own id = match look (eff i).ad id with
    | some b => some b
    | none => look (sq σ0 eff L).own id := applyE_own _ _ _
  rw [hr, hu i List.mem_cons_self]
  exact sq_none (fun i hi => hu i (List.mem_cons_of_mem _ hi))
def isStoreO (o : Oper) : Bool := match o.op with
 | .store .. => true
 | _ => false
def storeAt (ops : List Oper) (i : Nat) : Bool := match ops[i]? with
 | some o => isStoreO o
 | none => false
structure EffsW (ops : List Oper) (σ0 : St N) (eff : Nat → Eff N) (m : Nat) : Prop where
 dst : ∀ j, j < m → ∀ d, (eff j).dst = some d → d < σ0.regs.length
 one : ∀ i j, i < m → j < m → ∀ d, (eff i).dst = some d → (eff j).dst = some d → i = j
 ids : ∀ i j, i < m → j < m → ∀ id b b', look (eff i).ad id = some b → look (eff j).ad id = some b' → i = j ∨ i ∈ clo ops ops.length j ∨ j ∈ clo ops ops.length i
 fresh : ∀ j, j < m → storeAt ops j = false → ∀ id b, look (eff j).ad id = some b → look σ0.own id = none
theorem sqW_reg {ops : List Oper} {σ0 : St N} {eff : Nat → Eff N} {m : Nat} (h : EffsW ops σ0 eff m) {t : Nat} : ∀ {L : List Nat}, (∀ j ∈ L, j < m) → (∀ j ∈ L, (eff j).dst = some t → (sq σ0 eff L).reg t = (eff j).s) ∧ ((∀ j ∈ L, (eff j).dst ≠ some t) → (sq σ0 eff L).reg t = σ0.reg t)
 | [], _ => ⟨(fun j hj => by cases hj), fun _ => rfl⟩
 | i :: L, hL => by
  have ih := sqW_reg h (L := L) (t := t) (fun j hj => hL j (List.mem_cons_of_mem _ hj))
  have hr : (sq σ0 eff (i :: L)).reg t = if (eff i).dst = some t then (eff i).s else (sq σ0 eff L).reg t :=
   applyE_reg (fun d hd => by rw [sq_regs]; exact h.dst i (hL i List.mem_cons_self) d hd) t
  rw [hr]
  refine ⟨fun j hj hd => ?_, fun hn => ?_⟩
  ·by_cases hi : (eff i).dst = some t
   ·rw [if_pos hi, h.one i j (hL i List.mem_cons_self) (hL j hj) t hi hd]
   ·rw [if_neg hi]
    rcases List.mem_cons.1 hj with rfl | hj
    ·exact absurd hd hi
    ·exact ih.1 j hj hd
  ·rw [if_neg (hn i List.mem_cons_self)]
   exact ih.2 (fun j hj => hn j (List.mem_cons_of_mem _ hj))
structure Before (ops : List Oper) (m i : Nat) (seq : List Nat) : Prop where
 lt : ∀ j ∈ seq, j < m
 lin : Lin ops seq
 nin : i ∉ seq
 clo : ∀ k ∈ clo ops ops.length i, k ∈ seq
def StepOp (P : Program) (ops : List Oper) (m : Nat) (σ0 : St N) (eff : Nat → Eff N) (i : Nat) : Prop :=
 ∀ seq, Before ops m i seq → ∀ io w0 a w (K : Act → World → Prop) (Q : Exit → Act → World → Prop), Rel io w0 (sq σ0 eff seq) a w → (∀ a' w', Rel io w0 (sq σ0 eff (i :: seq)) a' w' → K a' w') → wpOp P ops.toArray Q i K a w
structure InvW (io : Io) (w0 : World) (ops : List Oper) (m : Nat) (σ0 : St N) (eff : Nat → Eff N) (listed : Array Bool) (seq : List Nat) (a : Act) (w : World) : Prop where
 head : HeadInv .any ops.toArray m listed
 mem : ∀ j, j < ops.length → (listed.getD j false = true ↔ j ∈ seq)
 lt : ∀ j ∈ seq, j < m
 lin : Lin ops seq
 nodup : seq.Nodup
 rel : Rel io w0 (sq σ0 eff seq) a w
theorem wpAny_drawW {ops : List Oper} {m g : Nat} {σ0 : St N} {eff : Nat → Eff N} {io : Io} {w0 : World} {Q : Exit → Act → World → Prop} (hm : m ≤ ops.length) (hfwd : ∀ i, i < ops.length → ∀ k ∈ predsOf ops i, k < i)
  (hH : ∀ i, i < m → StepOp P ops m σ0 eff i)
  (htail : m < ops.length → Region.sinkB .any ops.toArray m = true ∧ Region.chainB .any ops.toArray m = true)
  (hend : ∀ listed seq a w, InvW io w0 ops m σ0 eff listed seq a w → seq.length = m → wpAny P .any ops.toArray Q g listed a w) :
  ∀ (f : Nat) (listed : Array Bool) (seq : List Nat) (a : Act) (w : World), f + seq.length = m → InvW io w0 ops m σ0 eff listed seq a w → wpAny P .any ops.toArray Q (f + g) listed a w
 | 0, listed, seq, a, w, hf, hI => by
  rw [Nat.zero_add]
  exact hend listed seq a w hI (by omega)
 | f + 1, listed, seq, a, w, hf, hI => by
  have hsz : listed.size = ops.length := by have := hI.head.size; simpa using this
  obtain ⟨i0, hi0, hun0, hpre0⟩ : ∃ i, i < m ∧ listed.getD i false = false ∧ ∀ k, k < i → listed.getD k false = true := by
   have hex : ∃ i, i < m ∧ listed.getD i false = false := by
    apply Classical.byContradiction
    intro hno
    have hall : ∀ i, i < m → i ∈ seq := fun i hi => by
     rw [← hI.mem i (by omega)]
     cases h : listed.getD i false with
     | true => rfl
     | false => exact absurd ⟨i, hi, h⟩ hno
    have := range_le m seq hall
    omega
   obtain ⟨i, hi⟩ := hex
   induction i using Nat.strongRecOn with
   | _ i ih =>
    by_cases h : ∃ k, k < i ∧ listed.getD k false = false
    ·obtain ⟨k, hk, hk2⟩ := h
     exact ih k hk ⟨by omega, hk2⟩
    ·refine ⟨i, hi.1, hi.2, fun k hk => ?_⟩
     cases h2 : listed.getD k false with
     | true => rfl
     | false => exact absurd ⟨k, hk, h2⟩ h
  have hi0s : i0 < listed.size := by omega
  have hready0 : i0 ∈ Region.ready .any ops.toArray listed := by
   rw [mem_ready]
   refine ⟨by rw [getD_bool hi0s]; exact hun0, ?_⟩
   have hlt : i0 < ops.length := by omega
   refine ⟨ops[i0], by simp [hlt], fun e he hb => ?_⟩
   exact hpre0 _ (hfwd i0 hlt e.on (mem_preds.2 ⟨_, by simp [hlt], e, he, hb, rfl⟩))
  rw [show f + 1 + g = (f + g) + 1 from by omega]
  refine ⟨(fun h0 => by rw [h0] at hready0; cases hready0), fun i hi => ?_⟩
  obtain ⟨hun, oi, hoi, hall⟩ := mem_ready.1 hi
  have hoi' : ops[i]? = some oi := by rw [List.getElem?_toArray] at hoi; exact hoi
  have hilt : i < ops.length := (List.getElem?_eq_some_iff.1 hoi').1
  have him : i < m := by
   rcases Nat.lt_or_ge i m with h | h
   ·exact h
   ·have hml : m < ops.length := by omega
    obtain ⟨hs, hc⟩ := htail hml
    exact absurd hi (tail_waits hs hc (by simpa using hml) hI.head (m - i0) i0 rfl hi0 (by rw [getD_bool hi0s]; exact hun0) i h)
  have hins : i ∉ seq := fun hm' => by
   have := (hI.mem i hilt).2 hm'
   rw [← getD_bool (by omega)] at this
   rw [this] at hun
   cases hun
  have hclosed : ∀ j, j ∈ seq → ∀ k ∈ predsOf ops j, k ∈ seq := by
   intro j hj k hk
   obtain ⟨oj, hoj, e, he, hb, rfl⟩ := mem_preds.1 hk
   have hjl : j < ops.length := (List.getElem?_eq_some_iff.1 hoj).1
   have h1 := hI.head.closed j oj (by rw [List.getElem?_toArray]; exact hoj) ((hI.mem j hjl).2 hj) e he hb
   exact (hI.mem e.on (Nat.lt_trans (hfwd j hjl e.on hk) hjl)).1 h1
  have hpreds : ∀ k ∈ predsOf ops i, k ∈ seq := by
   intro k hk
   obtain ⟨oj, hoj, e, he, hb, rfl⟩ := mem_preds.1 hk
   have : oj = oi := Option.some.inj (hoj.symm.trans hoi')
   subst this
   exact (hI.mem e.on (Nat.lt_trans (hfwd i hilt e.on hk) hilt)).1 (hall e he hb)
  have hclo : ∀ k ∈ clo ops ops.length i, k ∈ seq := clo_sub (S := fun k => k ∈ seq) hclosed _ i hpreds
  refine hH i him seq ⟨hI.lt, hI.lin, hins, hclo⟩ io w0 a w _ _ hI.rel (fun a' w' hr => ?_)
  refine wpAny_drawW hm hfwd hH htail hend f (listed.setIfInBounds i true) (i :: seq) a' w' (by simp only [List.length_cons]; omega) ⟨hI.head.set hi him, fun j hj => ?_, fun j hj => ?_, .cons hclo hins hI.lin, List.nodup_cons.2 ⟨hins, hI.nodup⟩, hr⟩
  ·by_cases hij : i = j
   ·subst hij
    simp [hsz, hj]
   ·rw [getD_set_ne false hij, hI.mem j hj, List.mem_cons]
    exact ⟨.inr, fun h => h.resolve_left (fun e => hij e.symm)⟩
  ·rcases List.mem_cons.1 hj with rfl | hj
   ·exact him
   ·exact hI.lt j hj
def delS (H : List Nat) (σ : St N) : St N := { σ with own := delL H σ.own }
theorem step_head {ops : List Oper} {m : Nat} {σ0 : St N} {eff : Nat → Eff N} (hm : m ≤ ops.length) (hD : DrawOk ops m) (hE : EffsW ops σ0 eff m) (hdsts : ∀ j, j < m → ∃ o, ops[j]? = some o ∧ (eff j).dst = o.dst)
  {i : Nat} (him : i < m) (hsi : storeAt ops i = false) {o : Oper} (ho : ops[i]? = some o) {H : List Nat} (hop : HeadOp P ops i o (delS H (sq σ0 eff (clo ops ops.length i))) (eff i))
  (hH : ∀ k, k < m → storeAt ops k = true → i ∉ clo ops ops.length k → ∀ id b, look (eff k).ad id = some b → id ∈ H)
  (hshare : ∀ k j, k < m → j < k → ∀ id b b', look (eff k).ad id = some b → look (eff j).ad id = some b' → storeAt ops k = true ∧ storeAt ops j = false ∧ j ∈ clo ops ops.length k) : StepOp P ops m σ0 eff i := by
 intro seq hB io w0 a w K Q hrel hK
 have hilt : i < ops.length := by omega
 have hback : ∀ j, j < ops.length → ∀ k ∈ clo ops ops.length j, k < j := fun j hj => clo_sub (S := fun k => k < j) (fun k hk l hl => Nat.lt_trans (hD.fwd k (by omega) l hl) hk) _ j (hD.fwd j hj)
 have hclom : ∀ k ∈ clo ops ops.length i, k < m := fun k hk => Nat.lt_trans (hback i hilt k hk) him
 have hcloj := hB.lin.closed
 obtain ⟨_, hop⟩ := hop
 -- who of the list touches id
 have htouch : ∀ id, id ∉ H → ∀ k ∈ seq, ∀ b, look (eff k).ad id = some b → storeAt ops k = false := by
  intro id hid k hk b hb
  cases hs : storeAt ops k with
  | false => rfl
  | true => exact absurd (hH k (hB.lt k hk) hs (fun hm => hB.nin (hcloj k hk i hm)) id b hb) hid
 have huniq : ∀ id j k, j < m → k < m → storeAt ops j = false → storeAt ops k = false → ∀ b b', look (eff j).ad id = some b → look (eff k).ad id = some b' → j = k := by
  intro id j k hj hk hsj hsk b b' hb hb'
  rcases Nat.lt_trichotomy j k with e | e | e
  ·have := (hshare k j hk e id b' b hb' hb).1
   rw [hsk] at this
   cases this
  ·exact e
  ·have := (hshare j k hj e id b b' hb hb').1
   rw [hsj] at this
   cases this
 have hA : AgreeG ops o (delS H (sq σ0 eff (clo ops ops.length i))) (sq σ0 eff seq) := by
  refine ⟨fun t ht => ?_, fun id b hb => ?_, by show (sq σ0 eff seq).regs.length = (sq σ0 eff (clo ops ops.length i)).regs.length; rw [sq_regs, sq_regs]⟩
  ·show (sq σ0 eff seq).reg t = (sq σ0 eff (clo ops ops.length i)).reg t
   have r1 := sqW_reg hE (t := t) hB.lt
   have r2 := sqW_reg hE (t := t) hclom
   by_cases hx : ∃ j, j < m ∧ (eff j).dst = some t
   ·obtain ⟨j, hj, hjd⟩ := hx
    obtain ⟨oj, hoj, hdj⟩ := hdsts j hj
    by_cases hjs : j ∈ seq
    ·rw [r1.1 j hjs hjd]
     by_cases hjc : j ∈ clo ops ops.length i
     ·rw [r2.1 j hjc hjd]
     ·exfalso
      rcases hD.uses i j o oj him hj ho hoj t (by rw [← hdj]; exact hjd) ht with h | h | h
      ·subst h; exact hB.nin hjs
      ·exact hjc h
      ·exact hB.nin (hcloj j hjs i h)
    ·have hjc : j ∉ clo ops ops.length i := fun h => hjs (hB.clo j h)
     have u : ∀ (L : List Nat), (∀ k ∈ L, k < m) → j ∉ L → ∀ k ∈ L, (eff k).dst ≠ some t := fun L hL hjL k hk hkd => hjL (by rw [hE.one j k hj (hL k hk) t hjd hkd]; exact hk)
     rw [r1.2 (u seq hB.lt hjs), r2.2 (u _ hclom hjc)]
   ·have u : ∀ (L : List Nat), (∀ k ∈ L, k < m) → ∀ k ∈ L, (eff k).dst ≠ some t := fun L hL k hk hkd => hx ⟨k, hL k hk, hkd⟩
    rw [r1.2 (u seq hB.lt), r2.2 (u _ hclom)]
  ·have hb : look (delL H (sq σ0 eff (clo ops ops.length i)).own) id = some b := hb
   rw [look_delL] at hb
   by_cases hidH : id ∈ H
   ·rw [if_pos hidH] at hb; cases hb
   rw [if_neg hidH] at hb
   have ht := htouch id hidH
   by_cases hx : ∃ k ∈ seq, ∃ b', look (eff k).ad id = some b'
   ·obtain ⟨k, hk, b', hb'⟩ := hx
    have hsk := ht k hk b' hb'
    have hon : ∀ j ∈ seq, ∀ b2, look (eff j).ad id = some b2 → j = k := fun j hj b2 hb2 => huniq id j k (hB.lt j hj) (hB.lt k hk) (ht j hj b2 hb2) hsk b2 b' hb2 hb'
    have hkc : k ∈ clo ops ops.length i := by
     apply Classical.byContradiction
     intro hkc
     rw [sq_none (fun j hj => by
      cases h : look (eff j).ad id with
      | none => rfl
      | some b2 => exact absurd (hon j (hB.clo j hj) b2 h ▸ hj) hkc)] at hb
     rw [hE.fresh k (hB.lt k hk) hsk id b' hb'] at hb
     cases hb
    rw [sq_one hb' hkc (fun j hj b2 hb2 => hon j (hB.clo j hj) b2 hb2)] at hb
    rw [sq_one hb' hk hon]
    exact hb
   ·have hn : ∀ j ∈ seq, look (eff j).ad id = none := fun j hj => by
     cases h : look (eff j).ad id with
     | none => rfl
     | some b' => exact absurd ⟨j, hj, b', h⟩ hx
    rw [sq_none (fun j hj => hn j (hB.clo j hj))] at hb
    rw [sq_none hn]
    exact hb
 have hfr : ∀ p ∈ (eff i).ad, look (sq σ0 eff seq).own p.1 = none := by
  intro p hp
  obtain ⟨b, hb⟩ := wpAny_draw.look_of_mem hp
  rw [sq_none (fun j hj => by
   cases h : look (eff j).ad p.1 with
   | none => rfl
   | some b' =>
    rcases Nat.lt_trichotomy i j with e | e | e
    ·exact absurd (hcloj j hj i (hshare j i (hB.lt j hj) e p.1 b' b h hb).2.2) hB.nin
    ·exact absurd (e ▸ hj) hB.nin
    ·have := (hshare i j him e p.1 b b' hb h).1
     rw [hsi] at this
     cases this)]
  exact hE.fresh i him hsi p.1 b hb
 exact hop (sq σ0 eff seq) hA hfr io w0 a w K Q hrel hK
theorem regs_agree {ops : List Oper} {m : Nat} {σ0 : St N} {eff : Nat → Eff N} (hm : m ≤ ops.length) (hD : DrawOk ops m) (hE : EffsW ops σ0 eff m) (hdsts : ∀ j, j < m → ∃ o, ops[j]? = some o ∧ (eff j).dst = o.dst)
  {i : Nat} (him : i < m) {o : Oper} (ho : ops[i]? = some o) {seq : List Nat} (hB : Before ops m i seq) : ∀ t ∈ usesG ops o, (sq σ0 eff seq).reg t = (sq σ0 eff (clo ops ops.length i)).reg t := by
 intro t ht
 have hilt : i < ops.length := by omega
 have hback : ∀ j, j < ops.length → ∀ k ∈ clo ops ops.length j, k < j := fun j hj => clo_sub (S := fun k => k < j) (fun k hk l hl => Nat.lt_trans (hD.fwd k (by omega) l hl) hk) _ j (hD.fwd j hj)
 have hclom : ∀ k ∈ clo ops ops.length i, k < m := fun k hk => Nat.lt_trans (hback i hilt k hk) him
 have hcloj := hB.lin.closed
 have r1 := sqW_reg hE (t := t) hB.lt
 have r2 := sqW_reg hE (t := t) hclom
 by_cases hx : ∃ j, j < m ∧ (eff j).dst = some t
 ·obtain ⟨j, hj, hjd⟩ := hx
  obtain ⟨oj, hoj, hdj⟩ := hdsts j hj
  by_cases hjs : j ∈ seq
  ·rw [r1.1 j hjs hjd]
   by_cases hjc : j ∈ clo ops ops.length i
   ·rw [r2.1 j hjc hjd]
   ·exfalso
    rcases hD.uses i j o oj him hj ho hoj t (by rw [← hdj]; exact hjd) ht with h | h | h
    ·subst h; exact hB.nin hjs
    ·exact hjc h
    ·exact hB.nin (hcloj j hjs i h)
  ·have hjc : j ∉ clo ops ops.length i := fun h => hjs (hB.clo j h)
   have u : ∀ (L : List Nat), (∀ k ∈ L, k < m) → j ∉ L → ∀ k ∈ L, (eff k).dst ≠ some t := fun L hL hjL k hk hkd => hjL (by rw [hE.one j k hj (hL k hk) t hjd hkd]; exact hk)
   rw [r1.2 (u seq hB.lt hjs), r2.2 (u _ hclom hjc)]
 ·have u : ∀ (L : List Nat), (∀ k ∈ L, k < m) → ∀ k ∈ L, (eff k).dst ≠ some t := fun L hL k hk hkd => hx ⟨k, hL k hk, hkd⟩
  rw [r1.2 (u seq hB.lt), r2.2 (u _ hclom)]
/-! Nothing looks into id. -/
def Slot.bsL : Slot N → List Nat
 | .one r => r.bs
 | .tup l => l.flatMap RV.bs
structure NoId (id : Nat) (σ : St N) : Prop where
 regs : ∀ s ∈ σ.regs, id ∉ s.bsL
 own : ∀ p ∈ σ.own, id ∉ p.2.bs
def noIdB (id : Nat) (σ : St N) : Bool := σ.regs.all (fun s => !s.bsL.contains id) && σ.own.all (fun p => !p.2.bs.contains id)
def noIdE (id : Nat) (e : Eff N) : Bool := !e.s.bsL.contains id && e.ad.all (fun p => !p.2.bs.contains id)
theorem noIdB_spec {id : Nat} {σ : St N} (h : noIdB id σ = true) : NoId id σ := by
 simp only [noIdB, Bool.and_eq_true, List.all_eq_true, Bool.not_eq_true'] at h
 exact ⟨fun s hs => contains_false (h.1 s hs), fun p hp => contains_false (h.2 p hp)⟩
theorem mem_ins {β : Type} {i : Nat} {v : β} {p : Nat × β} : ∀ {l : List (Nat × β)}, p ∈ ins i v l → p = (i, v) ∨ p ∈ l
 | [], h => by simpa [ins] using h
 | (k, u) :: r, h => by
  unfold ins at h
  cases h1 : (i == k) with
  | true =>
   rw [h1, cond_true] at h
   rcases List.mem_cons.1 h with h | h
   ·exact .inl h
   ·exact .inr (List.mem_cons_of_mem _ h)
  | false =>
   rw [h1, cond_false] at h
   cases h2 : Nat.blt i k with
   | true =>
    rw [h2, cond_true] at h
    rcases List.mem_cons.1 h with h | h
    ·exact .inl h
    ·exact .inr h
   | false =>
    rw [h2, cond_false] at h
    rcases List.mem_cons.1 h with h | h
    ·exact .inr (by rw [h]; exact List.mem_cons_self)
    ·rcases mem_ins h with h | h
     ·exact .inl h
     ·exact .inr (List.mem_cons_of_mem _ h)
theorem mem_insAll {β : Type} {p : Nat × β} : ∀ {new l : List (Nat × β)}, p ∈ insAll new l → p ∈ new ∨ p ∈ l
 | [], l, h => .inr h
 | (i, v) :: r, l, h => by
  rcases mem_ins (show p ∈ ins i v (insAll r l) from h) with h | h
  ·exact .inl (by rw [h]; exact List.mem_cons_self)
  ·rcases mem_insAll h with h | h
   ·exact .inl (List.mem_cons_of_mem _ h)
   ·exact .inr h
theorem noId_applyE {id : Nat} {σ : St N} {e : Eff N} (h : NoId id σ) (he : noIdE id e = true) : NoId id (applyE σ e) := by
 simp only [noIdE, Bool.and_eq_true, List.all_eq_true, Bool.not_eq_true'] at he
 have hown : ∀ p ∈ insAll e.ad σ.own, id ∉ p.2.bs := fun p hp => by
  rcases mem_insAll hp with hp | hp
  ·exact contains_false (he.2 p hp)
  ·exact h.own p hp
 unfold applyE
 cases hd : e.dst with
 | none => exact ⟨h.regs, hown⟩
 | some d =>
  refine ⟨fun s hs => ?_, hown⟩
  rcases List.mem_or_eq_of_mem_set (show s ∈ σ.regs.set d e.s from hs) with hs | hs
  ·exact h.regs s hs
  ·rw [hs]; exact contains_false he.1
theorem noId_sq {id m : Nat} {σ0 : St N} {eff : Nat → Eff N} (h0 : NoId id σ0) (he : ∀ j, j < m → noIdE id (eff j) = true) : ∀ {L : List Nat}, (∀ j ∈ L, j < m) → NoId id (sq σ0 eff L)
 | [], _ => h0
 | j :: L, hL => noId_applyE (noId_sq h0 he (fun k hk => hL k (List.mem_cons_of_mem _ hk))) (he j (hL j List.mem_cons_self))
theorem scrub_same {id : Nat} {s : Slot N} (h : id ∉ s.bsL) : Slot.map (scrub id) s = s := by
 have one : ∀ r : RV N, id ∉ r.bs → scrub id r = r := fun r hr => by
  unfold scrub
  rw [show r.bs.contains id = false from by
   cases hc : r.bs.contains id with
   | false => rfl
   | true => exact absurd (List.contains_iff_mem.1 hc) hr]
  rfl
 cases s with
 | one r => simp only [Slot.map, one r h]
 | tup l =>
  simp only [Slot.map]
  congr 1
  rw [List.map_congr_left (g := fun r => r) (fun r hr => one r (fun hm => h (List.mem_flatMap.2 ⟨r, hr, hm⟩)))]
  simp
def drawStore (τ : TypeId → Option TI) (σ : St N) (o : Oper) (k : KK N β) : Option β :=
 match o.op with
 | .store t (.tmp d) y => match o.guard with
  | some _ => none
  | none => match o.dst with
   | some _ => none
   | none => match σ.reg d with
    | .one (.bptr id 0) => match look σ.own id with
     | some (.whole tb x0 []) => match τ t with
      | some ⟨tv, _⟩ => bif decide (tv = tb) && (!loose (ev σ y) && !isNilR (ev σ y)) then match toDen ([] : List (Nat × Blk N)) tb (ev σ y) with
       | some (v, b) => bif (addB [] b).contains id then none else k (.tup []) [(id, .whole tb v (addB [] b))]
       | none => none
       else none
      | none => none
     | _ => none
    | .one (.optr id i off) => match look σ.own id with
     | some (.row e ty xs bs p) => match τ t with
      | some ⟨tv, _⟩ => match toDen ([] : List (Nat × Blk N)) tv (ev σ y) with
       | some (v, []) => bif bs.contains id then none else match updAt ⟨tv, v⟩ 8 ty (xs.getD i (N.dflt ty)) off with
        | some x' => k (.tup []) [(id, .row e ty (xs.set i x') bs p)]
        | none => none
       | _ => none
      | none => none
     | _ => none
    | _ => none
 | _ => none
theorem toDen_any {own : List (Nat × Blk N)} {t : Ty} {r : RV N} {y : t.den N.ρ × List Nat} (hv : toDen ([] : List (Nat × Blk N)) t r = some y) : toDen own t r = some y ∧ isMp r = false := by
 cases r <;> first | exact ⟨hv, rfl⟩ | (have h2 : (none : Option (t.den N.ρ × List Nat)) = some y := hv; cases h2)
theorem step_store (F : Fits P N τ) {Φ : FuncId → Option (Spec N)} (hΦ : ∀ f S, Φ f = some S → Good P (f % 1000000) S) {ops : List Oper} {m : Nat} {σ0 : St N} {eff : Nat → Eff N} (hm : m ≤ ops.length) (hD : DrawOk ops m) (hE : EffsW ops σ0 eff m) (hdsts : ∀ j, j < m → ∃ o, ops[j]? = some o ∧ (eff j).dst = o.dst)
  {i : Nat} (him : i < m) {o : Oper} (ho : ops[i]? = some o) {k : KK N β} {r : β} (h : drawStore τ (sq σ0 eff (clo ops ops.length i)) o k = some r)
  (htouch : ∀ id b, look (eff i).ad id = some b → ∀ j, j < m → j ≠ i → ∀ b2, look (eff j).ad id = some b2 → j ∈ clo ops ops.length i ∧ ∀ j', j' < m → j' ≠ i → ∀ b3, look (eff j').ad id = some b3 → j' = j)
  (hno : ∀ id b, look (eff i).ad id = some b → NoId id σ0 ∧ ∀ j, j < m → noIdE id (eff j) = true) :
  ∃ s ad, k s ad = some r ∧ (eff i = ⟨none, s, ad⟩ → o.dst = none ∧ StepOp P ops m σ0 eff i) := by
 have hilt : i < ops.length := by omega
 have hback : ∀ j, j < ops.length → ∀ k ∈ clo ops ops.length j, k < j := fun j hj => clo_sub (S := fun k => k < j) (fun k hk l hl => Nat.lt_trans (hD.fwd k (by omega) l hl) hk) _ j (hD.fwd j hj)
 -- what is found under an id that the store touches
 have hsame : ∀ id b, look (eff i).ad id = some b → ∀ seq, Before ops m i seq → look (sq σ0 eff seq).own id = look (sq σ0 eff (clo ops ops.length i)).own id := by
  intro id b hb seq hB
  by_cases hx : ∃ j, j < m ∧ j ≠ i ∧ ∃ b2, look (eff j).ad id = some b2
  ·obtain ⟨j, hj, hji, b2, hb2⟩ := hx
   obtain ⟨t1, t2⟩ := htouch id b hb j hj hji b2 hb2
   rw [sq_one hb2 (hB.clo j t1) (fun k hk b3 hb3 => t2 k (hB.lt k hk) (fun e => hB.nin (e ▸ hk)) b3 hb3),
    sq_one hb2 t1 (fun k hk b3 hb3 => t2 k (hB.lt k (hB.clo k hk)) (fun e => hB.nin (e ▸ hB.clo k hk)) b3 hb3)]
  ·have hn : ∀ j, j < m → j ≠ i → look (eff j).ad id = none := fun j hj hji => by
    cases h : look (eff j).ad id with
    | none => rfl
    | some b2 => exact absurd ⟨j, hj, hji, b2, h⟩ hx
   rw [sq_none (fun j hj => hn j (hB.lt j hj) (fun e => hB.nin (e ▸ hj))), sq_none (fun j hj => hn j (hB.lt j (hB.clo j hj)) (fun e => hB.nin (e ▸ hB.clo j hj)))]
 -- the store, carried out
 have fin : ∀ {t : TypeId} {d : Nat} {y : Operand} {id : Nat} {b : Blk N} {s : Slot N} {ad : List (Nat × Blk N)}, o.op = .store t (.tmp d) y → o.guard = none → o.dst = none → (eff i = ⟨none, s, ad⟩) → ad = [(id, b)] → s = .tup [] →
   (∀ seq, Before ops m i seq → (sq σ0 eff seq).reg d = (sq σ0 eff (clo ops ops.length i)).reg d → ev (sq σ0 eff seq) y = ev (sq σ0 eff (clo ops ops.length i)) y → noBs' (sq σ0 eff seq).own id = true → look (sq σ0 eff seq).own id = look (sq σ0 eff (clo ops ops.length i)).own id →
    evOp τ Φ o (sq σ0 eff seq) (fun σ => some σ) = some { regs := (sq σ0 eff seq).regs.map (Slot.map (scrub id)), own := ins id b (sq σ0 eff seq).own }) → StepOp P ops m σ0 eff i := by
  intro t d y id b s ad hop hg hdst heff had hs hev
  subst had hs
  have hti : look (eff i).ad id = some b := by rw [heff]; simp [look]
  intro seq hB io w0 ac w K Q hrel hK
  have hregs := regs_agree hm hD hE hdsts him ho hB
  have hud : ∀ t', (Operand.tmp t') ∈ o.op.operands.toList → t' ∈ usesG ops o := fun t' ht' => List.mem_append.2 (.inr (List.mem_filterMap.2 ⟨_, ht', rfl⟩))
  have hregd := hregs d (hud d (by rw [hop]; simp [Op.operands]))
  have hevy : ev (sq σ0 eff seq) y = ev (sq σ0 eff (clo ops ops.length i)) y := by
   cases y with
   | tmp t' => simp only [Eng.ev, hregs t' (hud t' (by rw [hop]; simp [Op.operands]))]
   | const c => exact ev_const _ _ c
   | _ => rfl
  obtain ⟨hn0, hne⟩ := hno id _ hti
  have hNo : NoId id (sq σ0 eff seq) := noId_sq hn0 hne hB.lt
  have hnb : noBs' (sq σ0 eff seq).own id = true := by
   unfold noBs'
   rw [List.all_eq_true]
   intro p hp
   have := hNo.own p hp
   simp only [Bool.or_eq_true, Bool.not_eq_true']
   right
   cases hcc : p.2.bs.contains id with
   | false => rfl
   | true => exact absurd (List.contains_iff_mem.1 hcc) this
  obtain ⟨σ1, h1, h2⟩ := evOp_sound F hΦ (hev seq hB hregd hevy hnb (hsame id b hti seq hB))
  cases h1
  unfold wpOp
  have hoi : (ops.toArray)[i]? = some o := by rw [List.getElem?_toArray]; exact ho
  simp only [hoi]
  rw [if_pos (by simp [Region.wanted, hg])]
  refine .inl (h2 io w0 ac w K Q hrel (fun a' w' hr => hK a' w' ?_))
  obtain ⟨E', hE'⟩ := hr
  have hregeq : (sq σ0 eff seq).regs.map (Slot.map (scrub id)) = (sq σ0 eff seq).regs := by
   rw [List.map_congr_left (g := fun s => s) (fun s hs => scrub_same (hNo.regs s hs))]
   simp
  refine ⟨E', hE'.same ?_ (fun t' => ?_) (fun j => ?_)⟩
  ·simp only [sq, applyE_regs, List.length_map]
  ·simp only [sq, St.reg, hregeq]
   rw [heff]
   rfl
  ·simp only [sq]
   rw [applyE_own, look_ins, heff]
   simp only [look]
   by_cases hj : id = j
   ·simp [hj]
   ·have : (id == j) = false := by simpa using hj
    simp [this, hj]
 unfold drawStore at h
 split at h
 ·rename_i t d y hop
  split at h
  ·cases h
  ·rename_i hg
   split at h
   ·cases h
   ·rename_i hdst
    split at h
    ·rename_i id hreg
     split at h
     ·rename_i tb x0 hlk
      split at h
      ·rename_i tv e hτ
       obtain ⟨hc, h⟩ := bif_none h
       simp only [Bool.and_eq_true, decide_eq_true_eq, Bool.not_eq_true'] at hc
       obtain ⟨rfl, hlo, hni⟩ := hc
       split at h
       ·rename_i v b hv
        cases hbid : (addB [] b).contains id with
        | true => rw [hbid] at h; cases h
        | false =>
         rw [hbid, cond_false] at h
         refine ⟨_, _, h, fun heff => ⟨hdst, fin hop hg hdst heff rfl rfl (fun seq hB hrd hevy hnb hown => ?_)⟩⟩
         have hupd : updAt (⟨tv, v⟩ : TV N) 8 tv x0 0 = some v := by
          simp [updAt, castTy]
         have e1 : ev (sq σ0 eff seq) (.tmp d) = .bptr id 0 := by simp only [Eng.ev, hrd, hreg]
         have e2 : (loose (ev (sq σ0 eff seq) y) || isNilR (ev (sq σ0 eff seq) y) || isMp (ev (sq σ0 eff seq) y)) = false := by rw [hevy, hlo, hni, (toDen_any (own := []) hv).2]; rfl
         have e3 : toDen (sq σ0 eff seq).own tv (ev (sq σ0 eff seq) y) = some (v, b) := by rw [hevy]; exact (toDen_any hv).1
         unfold evOp
         rw [hop]
         simp only [evStore, hτ, e1, hown, hlk, e2, cond_false, e3, hnb, hbid, Bool.not_false, Bool.and_self, cond_true, hupd, hdst, St.put]
       ·cases h
      ·cases h
     ·cases h
    ·rename_i id ix off hreg
     split at h
     ·rename_i el ty xs bs p hlk
      split at h
      ·rename_i tv e hτ
       split at h
       ·rename_i v hv
        cases hbid : bs.contains id with
        | true => rw [hbid] at h; cases h
        | false =>
         rw [hbid, cond_false] at h
         split at h
         ·rename_i x' hx'
          refine ⟨_, _, h, fun heff => ⟨hdst, fin hop hg hdst heff rfl rfl (fun seq hB hrd hevy hnb hown => ?_)⟩⟩
          have e1 : ev (sq σ0 eff seq) (.tmp d) = .optr id ix off := by simp only [Eng.ev, hrd, hreg]
          have e3 : toDen (sq σ0 eff seq).own tv (ev (sq σ0 eff seq) y) = some (v, []) := by rw [hevy]; exact (toDen_any hv).1
          unfold evOp
          rw [hop]
          simp only [evStore, hτ, e1, hown, hlk, e3, hnb, addB, hbid, Bool.not_false, Bool.and_self, cond_true, hx', hdst, St.put]
         ·cases h
       ·cases h
      ·cases h
     ·cases h
    ·cases h
 ·cases h
/-! A region whose order is open, with late stores, followed. -/
def headLenW0 : List Oper → Nat
 | [] => 0
 | o :: r => bif isE o || isStoreO o then headLenW0 r + 1 else 0
def headLenW (ops : List Oper) : Nat := Nat.min (headLenW0 ops) (tailFrom ops ops.length)
def drawHeadW (τ : TypeId → Option TI) (Φ : FuncId → Option (Spec N)) (ops : List Oper) (σ0 : St N) : List Oper → List (Eff N) → (List (Eff N) → Option β) → Option β
 | [], effs, k => k effs
 | o :: rest, effs, k => bif isStoreO o then
   drawStore τ (sq σ0 (effAt effs) (clo ops ops.length effs.length)) o fun s ad => drawHeadW τ Φ ops σ0 rest (effs ++ [⟨none, s, ad⟩]) k
  else
   drawHead.drawOne τ Φ ops (sq σ0 (effAt effs) (clo ops ops.length effs.length)) o fun s ad => splitB (asked effs.length ops) s fun s => drawHeadW τ Φ ops σ0 rest (effs ++ [⟨o.dst, s, ad⟩]) k
def idsE (e : Eff N) : List Nat := e.ad.map (·.1)
def gather (f : Nat → List Nat) : Nat → List Nat
 | 0 => []
 | n + 1 => f n ++ gather f n
theorem mem_gather {f : Nat → List Nat} {x : Nat} : ∀ {n i : Nat}, i < n → x ∈ f i → x ∈ gather f n
 | 0, i, h, _ => by omega
 | n + 1, i, h, hx => by
  rcases Nat.lt_or_ge i n with h' | h'
  ·exact List.mem_append.2 (.inr (mem_gather h' hx))
  ·have : i = n := by omega
   subst this
   exact List.mem_append.2 (.inl hx)
def hotJ (ops : List Oper) (effs : List (Eff N)) (j : Nat) : List Nat :=
 gather (fun i => bif storeAt ops i && !(clo ops ops.length i).contains j then idsE (effAt effs i) else []) effs.length
def isOk : Option Unit → Bool
 | some _ => true
 | none => false
def coldJ (τ : TypeId → Option TI) (Φ : FuncId → Option (Spec N)) (ops : List Oper) (σ0 : St N) (effs : List (Eff N)) (j : Nat) : Bool :=
 match hotJ ops effs j with
 | [] => true
 | H => match ops[j]? with
  | some o => isOk (drawHead.drawOne τ Φ ops (delS H (sq σ0 (effAt effs) (clo ops ops.length j))) o fun _ ad => bif meets H (ad.map (·.1)) then none else some ())
  | none => false
def effsChkW (τ : TypeId → Option TI) (Φ : FuncId → Option (Spec N)) (ops : List Oper) (σ0 : St N) (effs : List (Eff N)) : Bool :=
 (effDsts effs).all (fun d => Nat.blt d σ0.regs.length) && nodupB (effDsts effs) && allLt (fun j => storeAt ops j || freshIds σ0.own (idsE (effAt effs j))) effs.length &&
 allLt (fun i => allLt (fun j => !meets (idsE (effAt effs i)) (idsE (effAt effs j)) || (storeAt ops i && !storeAt ops j && (clo ops ops.length i).contains j)) i) effs.length &&
 allLt (fun j => storeAt ops j || coldJ τ Φ ops σ0 effs j) effs.length &&
 allLt (fun i => !storeAt ops i || (idsE (effAt effs i)).all fun id => noIdB id σ0 && effs.all (noIdE id)) effs.length
def execDrawW (τ : TypeId → Option TI) (Φ : FuncId → Option (Spec N)) (ops : List Oper) (σ0 : St N) (k : St N → Option β) : Option β :=
 bif statOk ops (headLenW ops) then
  drawHeadW τ Φ ops σ0 (ops.take (headLenW ops)) [] fun effs =>
   bif effsChkW τ Φ ops σ0 effs then execOps τ Φ ops (ops.drop (headLenW ops)) (sq σ0 (effAt effs) (downTo (headLenW ops))) k else none
 else none
def execDrawX (τ : TypeId → Option TI) (Φ : FuncId → Option (Spec N)) (ops : List Oper) (σ0 : St N) (k : St N → Option β) : Option β :=
 bif statOk ops (headLenT ops) then execDraw τ Φ ops (headLenT ops) σ0 k else bif statOk ops (headLen ops) then execDraw τ Φ ops (headLen ops) σ0 k else execDrawW τ Φ ops σ0 k
theorem headLenW0_le : ∀ (ops : List Oper), headLenW0 ops ≤ ops.length
 | [] => Nat.le_refl _
 | o :: r => by
  unfold headLenW0
  cases isE o || isStoreO o with
  | true => simpa using headLenW0_le r
  | false => simp
theorem headLenW_le (ops : List Oper) : headLenW ops ≤ ops.length := Nat.le_trans (Nat.min_le_left _ _) (headLenW0_le ops)
theorem look_idsE {e : Eff N} {id : Nat} {b : Blk N} (h : look e.ad id = some b) : id ∈ idsE e := List.mem_map.2 ⟨_, look_mem h, rfl⟩
structure ChkW (τ : TypeId → Option TI) (Φ : FuncId → Option (Spec N)) (ops : List Oper) (σ0 : St N) (effs : List (Eff N)) : Prop where
 dst : ∀ j, j < effs.length → ∀ d, (effAt effs j).dst = some d → d < σ0.regs.length
 one : ∀ i j, i < effs.length → j < effs.length → ∀ d, (effAt effs i).dst = some d → (effAt effs j).dst = some d → i = j
 fresh : ∀ j, j < effs.length → storeAt ops j = false → ∀ id b, look (effAt effs j).ad id = some b → look σ0.own id = none
 share : ∀ i j, i < effs.length → j < i → ∀ id b b', look (effAt effs i).ad id = some b → look (effAt effs j).ad id = some b' → storeAt ops i = true ∧ storeAt ops j = false ∧ j ∈ clo ops ops.length i
 cold : ∀ i, i < effs.length → storeAt ops i = false → coldJ τ Φ ops σ0 effs i = true
 noId : ∀ i, i < effs.length → storeAt ops i = true → ∀ id b, look (effAt effs i).ad id = some b → NoId id σ0 ∧ ∀ j, j < effs.length → noIdE id (effAt effs j) = true
theorem chkW_of {Φ : FuncId → Option (Spec N)} {ops : List Oper} {σ0 : St N} {effs : List (Eff N)} (h : effsChkW τ Φ ops σ0 effs = true) : ChkW τ Φ ops σ0 effs := by
 simp only [effsChkW, Bool.and_eq_true] at h
 obtain ⟨⟨⟨⟨⟨h1, h2⟩, h3⟩, h4⟩, h5⟩, h6⟩ := h
 have h2 := nodupB_spec h2
 rw [effDsts_eq] at h1 h2
 have meet : ∀ {e e' : Eff N} {id : Nat} {b b' : Blk N}, look e.ad id = some b → look e'.ad id = some b' → meets (idsE e) (idsE e') = false → False := fun hb hb' hm => meets_false hm _ (look_idsE hb') (look_idsE hb)
 refine ⟨fun j hj d hd => ?_, fun i j hi hj d h7 h8 => ?_, fun j hj hs id b hb => ?_, fun i j hi hj id b b' hb hb' => ?_, fun i hi hs => ?_, fun i hi hs id b hb => ?_⟩
 ·exact Nat.le_of_ble_eq_true (List.all_eq_true.1 h1 d (List.mem_flatMap.2 ⟨_, List.mem_of_getElem? (effAt_get hj), by rw [hd]; simp⟩))
 ·exact nodup_get h2 i j _ _ (effAt_get hi) (effAt_get hj) d (by rw [h7]; simp) (by rw [h8]; simp)
 ·have := allLt_spec h3 j hj
  rw [hs, Bool.false_or] at this
  exact freshIds_spec this id (look_idsE hb)
 ·have := allLt_spec (allLt_spec h4 i hi) j hj
  simp only [Bool.or_eq_true, Bool.not_eq_true', Bool.and_eq_true] at this
  rcases this with h | ⟨⟨h7, h8⟩, h9⟩
  ·exact (meet hb hb' h).elim
  ·exact ⟨h7, h8, List.contains_iff_mem.1 h9⟩
 ·have := allLt_spec h5 i hi
  rw [hs, Bool.false_or] at this
  exact this
 ·have := allLt_spec h6 i hi
  rw [hs, Bool.not_true, Bool.false_or] at this
  have := List.all_eq_true.1 this id (look_idsE hb)
  simp only [Bool.and_eq_true] at this
  exact ⟨noIdB_spec this.1, fun j hj => List.all_eq_true.1 this.2 _ (List.mem_of_getElem? (effAt_get hj))⟩
theorem ChkW.effsW {Φ : FuncId → Option (Spec N)} {ops : List Oper} {σ0 : St N} {effs : List (Eff N)} (h : ChkW τ Φ ops σ0 effs) : EffsW ops σ0 (effAt effs) effs.length :=
 ⟨h.dst, h.one, fun i j hi hj id b b' hb hb' => by
  rcases Nat.lt_trichotomy i j with e | e | e
  ·exact .inr (.inl (h.share j i hj e id b' b hb' hb).2.2)
  ·exact .inl e
  ·exact .inr (.inr (h.share i j hi e id b b' hb hb').2.2), h.fresh⟩
def SeenW (P : Program) (τ : TypeId → Option TI) (Φ : FuncId → Option (Spec N)) (ops : List Oper) (i : Nat) (o : Oper) (σ : St N) (e : Eff N) : Prop :=
 (storeAt ops i = false ∧ HeadOp P ops i o σ e ∧ ParD τ Φ ops o σ e.s e.ad ∧ ∀ p ∈ e.ad, look σ.own p.1 = none) ∨ (storeAt ops i = true ∧ drawStore τ σ o (fun s ad => some (s, ad)) = some (e.s, e.ad) ∧ e.dst = none)
theorem bif_not {b : Bool} {x : Option β} {y : β} (h : (bif b then none else x) = some y) : b = false ∧ x = some y := by
 cases b with
 | true => cases h
 | false => exact ⟨rfl, h⟩
theorem drawStore_par {σ : St N} {o : Oper} {k : KK N β} {r : β} (h : drawStore τ σ o k = some r) : ∃ s ad, k s ad = some r ∧ drawStore τ σ o (fun s ad => some (s, ad)) = some (s, ad) := by
 unfold drawStore at h ⊢
 split at h
 ·split at h
  ·cases h
  ·split at h
   ·cases h
   ·split at h
    ·split at h
     ·split at h
      ·obtain ⟨hc, h⟩ := bif_none h
       split at h
       ·rename_i v b hv
        cases hb : (addB [] b).contains _ with
        | true => rw [hb] at h; cases h
        | false =>
         rw [hb] at h
         refine ⟨_, _, h, ?_⟩
         simp only [*, cond_true, cond_false]
       ·cases h
      ·cases h
     ·cases h
    ·split at h
     ·split at h
      ·split at h
       ·obtain ⟨hb, h⟩ := bif_not h
        split at h
        ·refine ⟨_, _, h, ?_⟩
         simp only [*, cond_true, cond_false]
        ·cases h
       ·cases h
      ·cases h
     ·cases h
    ·cases h
 ·cases h
theorem drawHeadW_sound (F : Fits P N τ) {Φ : FuncId → Option (Spec N)} (hΦ : ∀ f S, Φ f = some S → Good P (f % 1000000) S) {ops : List Oper} (hfwd : ∀ i, i < ops.length → ∀ k ∈ clo ops ops.length i, k < i) {σ0 : St N} {r : β} : ∀ (todo : List Oper) (effs : List (Eff N)) (k : List (Eff N) → Option β),
  (∀ j, todo[j]? = none ∨ todo[j]? = ops[effs.length + j]?) → drawHeadW τ Φ ops σ0 todo effs k = some r →
  (∀ i, i < effs.length → ∃ o, ops[i]? = some o ∧ SeenW P τ Φ ops i o (sq σ0 (effAt effs) (clo ops ops.length i)) (effAt effs i)) →
  ∃ all : List (Eff N), k all = some r ∧ all.length = effs.length + todo.length ∧ ∀ i, i < all.length → ∃ o, ops[i]? = some o ∧ SeenW P τ Φ ops i o (sq σ0 (effAt all) (clo ops ops.length i)) (effAt all i)
 | [], effs, k, ht, h, hH => ⟨effs, h, rfl, hH⟩
 | o :: rest, effs, k, ht, h, hH => by
  have ho : ops[effs.length]? = some o := by
   rcases ht 0 with h0 | h0
   ·simp at h0
   ·simpa using h0.symm
  have hl : effs.length < ops.length := (List.getElem?_eq_some_iff.1 ho).1
  have hsa : storeAt ops effs.length = isStoreO o := by simp [storeAt, ho]
  obtain ⟨d, s, ad, h1, h3⟩ : ∃ d s ad, drawHeadW τ Φ ops σ0 rest (effs ++ [⟨d, s, ad⟩]) k = some r ∧ SeenW P τ Φ ops effs.length o (sq σ0 (effAt effs) (clo ops ops.length effs.length)) ⟨d, s, ad⟩ := by
   unfold drawHeadW at h
   cases hs : isStoreO o with
   | true =>
    rw [hs, cond_true] at h
    obtain ⟨s, ad, h1, h2⟩ := drawStore_par h
    exact ⟨_, s, ad, h1, .inr ⟨by rw [hsa, hs], h2, rfl⟩⟩
   | false =>
    rw [hs, cond_false] at h
    obtain ⟨s, ad, h1, h2, h3, h4⟩ := drawOne_sound F hΦ ho h
    rw [splitB_eq] at h1
    exact ⟨_, s, ad, h1, .inl ⟨by rw [hsa, hs], h3, h4, h2⟩⟩
  have hold : ∀ j, j < effs.length → effAt (effs ++ [⟨d, s, ad⟩]) j = effAt effs j := fun j hj => by
   unfold effAt
   rw [List.getD_eq_getElem?_getD, List.getD_eq_getElem?_getD, List.getElem?_append_left hj]
  have hnew : effAt (effs ++ [⟨d, s, ad⟩]) effs.length = ⟨d, s, ad⟩ := by
   unfold effAt
   rw [List.getD_eq_getElem?_getD, List.getElem?_append_right (Nat.le_refl _)]
   simp
  obtain ⟨all, a1, a2, a3⟩ := drawHeadW_sound F hΦ hfwd rest (effs ++ [⟨d, s, ad⟩]) k (fun j => by
   have := ht (j + 1)
   simp only [List.getElem?_cons_succ] at this
   rcases this with h | h
   ·exact .inl h
   ·exact .inr (by rw [h]; congr 1; simp; omega)) h1 (fun i hi => by
   rw [List.length_append, List.length_singleton] at hi
   rcases Nat.lt_or_ge i effs.length with h' | h'
   ·obtain ⟨oi, o1, o2⟩ := hH i h'
    refine ⟨oi, o1, ?_⟩
    rw [hold i h', sq_congr (fun j hj => hold j (Nat.lt_trans (hfwd i (by omega) j hj) h'))]
    exact o2
   ·have hi' : i = effs.length := by omega
    subst hi'
    refine ⟨o, ho, ?_⟩
    rw [hnew, sq_congr (fun j hj => hold j (hfwd _ hl j hj))]
    exact h3)
  exact ⟨all, a1, by rw [a2]; simp; omega, a3⟩
theorem max_touch {p : Nat → Bool} : ∀ (m : Nat), (∃ j, j < m ∧ p j = true) → ∃ j, j < m ∧ p j = true ∧ ∀ i, i < m → p i = true → i ≤ j
 | 0, ⟨j, hj, _⟩ => by omega
 | m + 1, ⟨j, hj, hp⟩ => by
  cases hm : p m with
  | true => exact ⟨m, by omega, hm, fun i hi _ => by omega⟩
  | false =>
   have hjm : j < m := by
    rcases Nat.lt_or_ge j m with h | h
    ·exact h
    ·have : j = m := by omega
     rw [this, hm] at hp
     cases hp
   obtain ⟨j', h1, h2, h3⟩ := max_touch m ⟨j, hjm, hp⟩
   refine ⟨j', by omega, h2, fun i hi hpi => ?_⟩
   rcases Nat.lt_or_ge i m with h | h
   ·exact h3 i h hpi
   ·have : i = m := by omega
    rw [this, hm] at hpi
    cases hpi
theorem execDrawW_sound (F : Fits P N τ) {Φ : FuncId → Option (Spec N)} (hΦ : ∀ f S, Φ f = some S → Good P (f % 1000000) S) (hm : P.follows .mixedOrders = true) {ops : List Oper} {k : St N → Option β} {r : β} {io : Io} {w0 : World} {Q : Exit → Act → World → Prop}
  (hk : ∀ σ a w, k σ = some r → Rel io w0 σ a w → Q .normal a w) {σ : St N} (h : execDrawW τ Φ ops σ k = some r) {a : Act} {w : World} (hr : Rel io w0 σ a w) {id : Nat} : (Code.region id ops.toArray true).wp P Q a w := by
 unfold execDrawW at h
 obtain ⟨hst, h⟩ := bif_none h
 simp only [statOk, Bool.and_eq_true, Bool.or_eq_true] at hst
 obtain ⟨⟨⟨s1, s2⟩, s3⟩, s4⟩ := hst
 have hD := drawOk_of s1 s2
 have hm' := headLenW_le ops
 have hfwd : ∀ i, i < ops.length → ∀ k ∈ clo ops ops.length i, k < i := fun j hj => clo_sub (S := fun k => k < j) (fun k hk l hl => Nat.lt_trans (hD.fwd k (by omega) l hl) hk) _ j (hD.fwd j hj)
 obtain ⟨all, h1, h2, h3⟩ := drawHeadW_sound F hΦ hfwd (ops.take (headLenW ops)) [] _ (fun j => by
  rw [List.getElem?_take]
  split
  ·exact .inr (by simp)
  ·exact .inl rfl) h (fun i hi => by cases hi)
 have hlen : all.length = headLenW ops := by rw [h2]; simp; omega
 obtain ⟨hc, h1⟩ := bif_none h1
 have hC := chkW_of hc
 rw [hlen] at h3
 have hE := hC.effsW
 rw [hlen] at hE
 have hshare : ∀ i j, i < headLenW ops → j < i → ∀ id b b', look (effAt all i).ad id = some b → look (effAt all j).ad id = some b' → storeAt ops i = true ∧ storeAt ops j = false ∧ j ∈ clo ops ops.length i := fun i j hi => hC.share i j (by omega)
 have hdst0 : ∀ i, i < headLenW ops → ∃ o, ops[i]? = some o ∧ (effAt all i).dst = o.dst := by
  intro i hi
  obtain ⟨o, ho, hs | ⟨_, hs, hd⟩⟩ := h3 i hi
  ·exact ⟨o, ho, hs.2.1.1⟩
  ·refine ⟨o, ho, ?_⟩
   rw [hd]
   unfold drawStore at hs
   split at hs
   ·split at hs
    ·cases hs
    ·split at hs
     ·cases hs
     ·rename_i hdst
      exact hdst.symm
   ·cases hs
 have hH : ∀ i, i < headLenW ops → StepOp P ops (headLenW ops) σ (effAt all) i := by
  intro i hi
  obtain ⟨o, ho, ⟨hsi, hop⟩ | ⟨hsi, hs, hd⟩⟩ := h3 i hi
  ·have hdel : ∃ H : List Nat, HeadOp P ops i o (delS H (sq σ (effAt all) (clo ops ops.length i))) (effAt all i) ∧ ∀ k, k < headLenW ops → storeAt ops k = true → i ∉ clo ops ops.length k → ∀ id b, look (effAt all k).ad id = some b → id ∈ H := by
    have hcold := hC.cold i (by omega) hsi
    have hin : ∀ k, k < headLenW ops → storeAt ops k = true → i ∉ clo ops ops.length k → ∀ id b, look (effAt all k).ad id = some b → id ∈ hotJ ops all i := by
     intro k hk hs hn id b hb
     refine mem_gather (i := k) (by omega) ?_
     have hc' : (clo ops ops.length k).contains i = false := by
      cases hh : (clo ops ops.length k).contains i with
      | false => rfl
      | true => exact absurd (List.contains_iff_mem.1 hh) hn
     rw [hs, hc']
     exact look_idsE hb
    refine ⟨hotJ ops all i, ?_, hin⟩
    unfold coldJ at hcold
    split at hcold
    ·rename_i hH0
     rw [hH0]
     exact hop.1
    ·generalize hotJ ops all i = H at *
     rw [ho] at hcold
     simp only at hcold
     cases hdr : drawHead.drawOne τ Φ ops (delS H (sq σ (effAt all) (clo ops ops.length i))) o (fun _ ad => bif meets H (ad.map (·.1)) then none else some ()) with
     | none => rw [hdr] at hcold; cases hcold
     | some u =>
      obtain ⟨s', ad', k1, k2, k3, k4⟩ := drawOne_sound F hΦ ho hdr
      have hmeet : meets H (ad'.map (·.1)) = false := by
       cases hmm : meets H (ad'.map (·.1)) with
       | false => rfl
       | true => rw [hmm] at k1; cases k1
      have hA1 : AgreeG ops o (delS H (sq σ (effAt all) (clo ops ops.length i))) (sq σ (effAt all) (clo ops ops.length i)) := ⟨fun t ht => rfl, fun id b hb => by
       have hb : look (delL H (sq σ (effAt all) (clo ops ops.length i)).own) id = some b := hb
       rw [look_delL] at hb
       split at hb
       ·cases hb
       ·exact hb, rfl⟩
      have hf1 : ∀ p ∈ ad', look (sq σ (effAt all) (clo ops ops.length i)).own p.1 = none := by
       intro p hp
       have h5 : look (delL H (sq σ (effAt all) (clo ops ops.length i)).own) p.1 = none := k2 p hp
       rw [look_delL, if_neg (fun hm => meets_false hmeet _ (List.mem_map.2 ⟨p, hp, rfl⟩) hm)] at h5
       exact h5
      have e5 := k4 _ hA1 hf1 (fun s ad => some (s, ad))
      have e6 := hop.2.1 (sq σ (effAt all) (clo ops ops.length i)) ⟨fun t ht => rfl, fun id b hb => hb, rfl⟩ hop.2.2 (fun s ad => some (s, ad))
      rw [e5] at e6
      simp only [Option.some.injEq, Prod.mk.injEq] at e6
      have e7 : effAt all i = ⟨o.dst, s', ad'⟩ := by
       have hd := hop.1.1
       cases heq : effAt all i with
       | mk d s ad =>
        rw [heq] at hd e6
        obtain ⟨e8, e9⟩ := e6
        cases hd
        cases e8
        cases e9
        rfl
      rw [e7]
      exact k3
   obtain ⟨H, hop', hH⟩ := hdel
   exact step_head hm' hD hE hdst0 hi hsi ho hop' hH hshare
  ·have hEop : ∀ id b, look (effAt all i).ad id = some b → ∀ j, j < headLenW ops → j ≠ i → ∀ b2, look (effAt all j).ad id = some b2 → storeAt ops j = false ∧ j ∈ clo ops ops.length i := by
    intro id b hb j hj hji b2 hb2
    rcases Nat.lt_trichotomy j i with e | e | e
    ·exact (hshare i j hi e id b b2 hb hb2).2
    ·exact absurd e hji
    ·have := (hshare j i hj e id b2 b hb2 hb).2.1
     rw [hsi] at this
     cases this
   obtain ⟨s, ad, e1, e2⟩ := step_store F hΦ hm' hD hE hdst0 hi ho hs (fun id b hb j hj hji b2 hb2 => ⟨(hEop id b hb j hj hji b2 hb2).2, fun j' hj' hji' b3 hb3 => by
    have h5 := (hEop id b hb j hj hji b2 hb2).1
    have h6 := (hEop id b hb j' hj' hji' b3 hb3).1
    rcases Nat.lt_trichotomy j' j with e | e | e
    ·have := (hshare j j' hj e id b2 b3 hb2 hb3).1
     rw [h5] at this
     cases this
    ·exact e
    ·have := (hshare j' j hj' e id b3 b2 hb3 hb2).1
     rw [h6] at this
     cases this⟩) (fun id b hb => by
    obtain ⟨n1, n2⟩ := hC.noId i (by omega) hsi id b hb
    exact ⟨n1, fun j hj => n2 j (by omega)⟩)
   cases e1
   refine (e2 ?_).2
   cases heq : effAt all i with
   | mk d s ad =>
    rw [heq] at hd
    cases hd
    rfl
 have hr' : Rel io w0 σ a { w with drawn := w.drawn + 1 } := by
  obtain ⟨E, hE'⟩ := hr
  exact ⟨E, hE'.ext (Ext.drawn w)⟩
 refine wp_region_any hm ?_
 have hsz : ops.toArray.size = headLenW ops + (ops.length - headLenW ops) := by simp; omega
 rw [hsz]
 refine wpAny_drawW (σ0 := σ) (eff := effAt all) hm' hD.fwd hH (fun hlt => ?_) ?_ (headLenW ops) _ [] a _ (by simp) ⟨⟨by simp; omega, fun j oj _ hl => (by rw [getD_replicate_false] at hl; cases hl), fun t _ ht => getD_in (by simp at ht ⊢; omega) (getD_replicate_false _ _)⟩, fun j hj => ?_, (fun j hj => by cases hj), .nil, List.nodup_nil, hr'⟩
 ·rcases s3 with s3 | s3
  ·have := Nat.eq_of_beq_eq_true s3
   omega
  ·exact s3
 ·intro listed seq a w hI hl
  have hall : ∀ j, j < headLenW ops → j ∈ seq := by
   intro j hj
   apply Classical.byContradiction
   intro hn
   have h6 : (j :: seq).Nodup := List.nodup_cons.2 ⟨hn, hI.nodup⟩
   have h7 := execDraw_sound.nodup_le (ops := ops) (m := headLenW ops) (headLenW ops) (j :: seq) h6 (fun x hx => by
    rcases List.mem_cons.1 hx with rfl | hx
    ·exact hj
    ·exact hI.lt x hx)
   simp only [List.length_cons] at h7
   omega
  have hdlin : ∀ n, n ≤ headLenW ops → Lin ops (downTo n) := by
   intro n
   induction n with
   | zero => intro _; exact .nil
   | succ n ih =>
    intro hn
    exact .cons (fun k hk => mem_downTo.2 (hfwd n (by omega) k hk)) (fun hmem => by have := mem_downTo.1 hmem; omega) (ih (by omega))
  have hrel : Rel io w0 (sq σ (effAt all) (downTo (headLenW ops))) a w := by
   obtain ⟨E, hE'⟩ := hI.rel
   have hdl : ∀ j ∈ downTo (headLenW ops), j < headLenW ops := fun j hj => mem_downTo.1 hj
   refine ⟨E, hE'.same (by rw [sq_regs, sq_regs]) (fun t => ?_) (fun id => ?_)⟩
   ·have r1 := sqW_reg hE (t := t) hI.lt
    have r2 := sqW_reg hE (t := t) hdl
    by_cases hx : ∃ j, j < headLenW ops ∧ (effAt all j).dst = some t
    ·obtain ⟨j, hj, hjd⟩ := hx
     rw [r1.1 j (hall j hj) hjd, r2.1 j (mem_downTo.2 hj) hjd]
    ·rw [r1.2 (fun j hj hjd => hx ⟨j, hI.lt j hj, hjd⟩), r2.2 (fun j hj hjd => hx ⟨j, hdl j hj, hjd⟩)]
   ·by_cases hx : ∃ j, j < headLenW ops ∧ (look (effAt all j).ad id).isSome = true
    ·obtain ⟨j, hj, hjb, hmax⟩ := max_touch (p := fun j => (look (effAt all j).ad id).isSome) _ hx
     obtain ⟨b, hb⟩ := Option.isSome_iff_exists.1 hjb
     have hlast : ∀ i, i < headLenW ops → ∀ b', look (effAt all i).ad id = some b' → i = j ∨ i ∈ clo ops ops.length j := by
      intro i hi b' hb'
      have hle := hmax i hi (by simp [hb'])
      rcases Nat.lt_or_ge i j with e | e
      ·exact .inr (hshare j i hj e id b b' hb hb').2.2
      ·exact .inl (by omega)
     rw [sq_last hb hI.lin (hall j hj) (fun i hi b' hb' => hlast i (hI.lt i hi) b' hb'), sq_last hb (hdlin _ (Nat.le_refl _)) (mem_downTo.2 hj) (fun i hi b' hb' => hlast i (hdl i hi) b' hb')]
    ·have hn : ∀ j, j < headLenW ops → look (effAt all j).ad id = none := fun j hj => by
      cases h : look (effAt all j).ad id with
      | none => rfl
      | some b => exact absurd ⟨j, hj, by simp [h]⟩ hx
     rw [sq_none (fun j hj => hn j (hI.lt j hj)), sq_none (fun j hj => hn j (hdl j hj))]
  have hlst : listed = canon ops.length (headLenW ops) := by
   have hs1 : listed.size = ops.length := by have := hI.head.size; simpa using this
   apply Array.ext
   ·rw [hs1]; simp [canon]; omega
   ·intro j hj1 hj2
    have hj : j < ops.length := by omega
    have hg : listed.getD j false = listed[j] := by simp [hj1]
    have hmem := hI.mem j hj
    rw [hg] at hmem
    rcases Nat.lt_or_ge j (headLenW ops) with h' | h'
    ·rw [hmem.2 (hall j h')]
     simp [canon, List.getElem_append, h']
    ·have : listed[j] = false := by
      cases hv : listed[j] with
      | false => rfl
      | true =>
       have := hI.lt j (hmem.1 hv)
       omega
     rw [this]
     simp only [canon, List.getElem_toArray, List.getElem_append, List.length_replicate]
     rw [dif_neg (by omega)]
     simp
  have hlst2 := execOps_sound (ops := ops) (Q := Q) F hΦ hk (ops.drop (headLenW ops)) _ h1 a w hrel
  have := wpAny_of_seq (P := P) (md := .any) (ops := ops.toArray) (Q' := Q) (ops.drop (headLenW ops)) (headLenW ops) listed a w (fun j => by simp) (by rw [hlst, List.length_drop]; exact s4) hlst2
  rw [List.length_drop] at this
  exact this
 ·rw [getD_replicate_false]
  simp
theorem execDrawX_sound (F : Fits P N τ) {Φ : FuncId → Option (Spec N)} (hΦ : ∀ f S, Φ f = some S → Good P (f % 1000000) S) (hm : P.follows .mixedOrders = true) {ops : List Oper} {k : St N → Option β} {r : β} {io : Io} {w0 : World} {Q : Exit → Act → World → Prop}
  (hk : ∀ σ a w, k σ = some r → Rel io w0 σ a w → Q .normal a w) {σ : St N} (h : execDrawX τ Φ ops σ k = some r) {a : Act} {w : World} (hr : Rel io w0 σ a w) {id : Nat} : (Code.region id ops.toArray true).wp P Q a w := by
 unfold execDrawX at h
 cases ht : statOk ops (headLenT ops) with
 | true => rw [ht] at h; exact execDraw_sound F hΦ hm hk (Nat.le_trans (Nat.min_le_left _ _) (headLen_le ops)) h hr
 | false =>
  rw [ht, cond_false] at h
  cases hs : statOk ops (headLen ops) with
  | true => rw [hs] at h; exact execDraw_sound F hΦ hm hk (headLen_le ops) h hr
  | false => rw [hs] at h; exact execDrawW_sound F hΦ hm hk h hr
end Go.Eng

set_option linter.unusedVariables false
set_option linter.unusedSimpArgs false
namespace Go.Eng
variable {N : Names} {P : Program} {β : Type}
structure Ctx (N : Names) where
 τ : TypeId → Option TI
 Φ : FuncId → Option (Spec N)
 K : Nat → Option (List Nat)
 pins : List Nat
 gh : Nat
structure Conts (N : Names) (β : Type) where
 norm : St N → Option β
 exit : Nat → St N → Option β
 ret : St N → Option β
def startId : Code → Option Nat
 | .region id _ _ => some id
 | .seq a _ => startId a
 | .block _ c => startId c
 | .scope c => startId c
 | _ => none
def Ctx.cutOf (X : Ctx N) (c : Code) : Option (Nat × List Nat) := match startId c with
 | some id => match X.K id with
  | some keep => some (id, keep)
  | none => none
 | none => none
variable (X : Ctx N) (g : Nat → St N → Option β)
def Ctx.cutK (c : Code) (k : St N → Option β) : St N → Option β := match X.cutOf c with
 | some (id, keep) => fun σ => g id (Eng.norm X.pins keep σ)
 | none => k
def exec : Code → Conts N β → St N → Option β
 | .skip, C, σ => C.norm σ
 | .label _, C, σ => C.norm σ
 | .region _ ops false, C, σ => execOps X.τ X.Φ ops.toList ops.toList σ C.norm
 | .region _ ops true, C, σ => execDrawX X.τ X.Φ ops.toList σ C.norm
 | .seq a b, C, σ => exec a { C with norm := X.cutK g b (exec b C) } σ
 | .cond c t e, C, σ => match ev σ c with
  | .bool b => bif b then exec t C σ else exec e C σ
  | _ => none
 | .block i c, C, σ => exec c { C with exit := fun j σ => bif j == i then C.norm σ else C.exit j σ } σ
 | .loop c, C, σ => X.cutK g c (fun _ => none) σ
 | .exit i, C, σ => C.exit i σ
 | .ret, C, σ => C.ret σ
 | .scope c, C, σ => exec c C σ
 | _, _, _ => none
def has (id : Nat) : Code → Bool
 | .seq a b => has id a || (startId b == some id || has id b)
 | .cond _ t e => has id t || has id e
 | .block _ c => has id c
 | .loop c => startId c == some id || has id c
 | .scope c => has id c
 | _ => false
def occ (X : Ctx N) : Code → List Nat
 | .seq a b => occ X a ++ (((X.cutOf b).map (·.1)).toList ++ occ X b)
 | .cond _ t e => occ X t ++ occ X e
 | .block _ c => occ X c
 | .loop c => ((X.cutOf c).map (·.1)).toList ++ occ X c
 | .scope c => occ X c
 | _ => []
def find (id : Nat) : Code → Conts N β → Option (St N → Option β)
 | .seq a b, C => match find id a { C with norm := X.cutK g b (exec X g b C) } with
  | some k => some k
  | none => bif startId b == some id then some (exec X g b C) else find id b C
 | .cond _ t e, C => match find id t C with
  | some k => some k
  | none => find id e C
 | .block i c, C => find id c { C with exit := fun j σ => bif j == i then C.norm σ else C.exit j σ }
 | .loop c, C => bif startId c == some id then some (exec X g c { C with norm := X.cutK g c (fun _ => none) }) else find id c { C with norm := X.cutK g c (fun _ => none) }
 | .scope c, C => find id c C
 | _, _ => none
def Seg (body : Code) (C : Conts N β) (id : Nat) (σ : St N) : Option β := match X.K id with
 | none => none
 | some _ => match find X g id body C with
  | some k => k σ
  | none => none
def tbl (body : Code) (C : Conts N β) : Nat → Nat → St N → Option β
 | 0, _, _ => none
 | n + 1, id, σ => Seg X (tbl body C n) body C id σ
/-! What stands at a place. -/
def LoopW (P : Program) (c : Code) (Q : Exit → Act → World → Prop) (a : Act) (w : World) : Prop :=
 ∀ (b : Frame) (k : List Item) (cs : List Frame), ∃ e a' w', Q e a' w' ∧ Arrives P (lone (b.at a (.code c :: .inLoop c :: k)) cs w) b k cs e a' w'
theorem loopW_round {c : Code} {Q : Exit → Act → World → Prop} {a : Act} {w : World} (h : c.wp P (Exit.then (LoopW P c Q) Q) a w) : LoopW P c Q a w := by
 intro b k cs
 obtain ⟨e, a₁, w₁, hq, harr⟩ := h b (.inLoop c :: k) cs
 cases e with
 | normal =>
  obtain ⟨e₂, a₂, w₂, hq₂, harr₂⟩ := hq b k cs
  exact ⟨e₂, a₂, w₂, hq₂, .of_steps (Steps.trans harr (.one step_inLoop)) harr₂⟩
 | exit id => exact ⟨_, a₁, w₁, hq, .pass (x := .inLoop c) rfl (fun _ _ => .inl (by simp)) harr⟩
 | goto l => exact ⟨_, a₁, w₁, hq, .pass (x := .inLoop c) rfl (fun _ _ => .inl (by simp)) harr⟩
 | ret => exact ⟨_, a₁, w₁, hq, .pass (x := .inLoop c) rfl (fun _ _ => .inl (by simp)) harr⟩
 | panic ch => exact ⟨_, a₁, w₁, hq, .pass (x := .inLoop c) rfl (fun _ _ => .inl (by simp)) harr⟩
 | outgrown => exact ⟨_, a₁, w₁, hq, .pass (x := .inLoop c) rfl (fun _ _ => .inl (by simp)) harr⟩
theorem loopW_wp {c : Code} {Q : Exit → Act → World → Prop} {a : Act} {w : World} (h : LoopW P c Q a w) : (Code.loop c).wp P Q a w := by
 intro b k cs
 obtain ⟨e, a', w', hq, harr⟩ := h b k cs
 exact ⟨e, a', w', hq, .of_steps (.one step_loop) harr⟩
def At (P : Program) (id : Nat) : Code → (Exit → Act → World → Prop) → Act → World → Prop
 | .seq x y, Q, a, w => if has id x = true then At P id x (Exit.then (y.wp P Q) Q) a w else if startId y = some id then y.wp P Q a w else At P id y Q a w
 | .cond _ t e, Q, a, w => if has id t = true then At P id t Q a w else At P id e Q a w
 | .block i c, Q, a, w => At P id c (Exit.inBlock i Q) a w
 | .loop c, Q, a, w => if startId c = some id then LoopW P c Q a w else At P id c (Exit.then (LoopW P c Q) Q) a w
 | .scope c, Q, a, w => At P id c (Exit.noGoto Q) a w
 | _, _, _, _ => True
variable {X g}
variable {io : Io} {w0 : World} {r : β}
def CutsOk (P : Program) (X : Ctx N) (g : Nat → St N → Option β) (io : Io) (w0 : World) (r : β) (c : Code) (Q : Exit → Act → World → Prop) : Prop :=
 ∀ id ∈ occ X c, ∀ σ a w, g id σ = some r → Rel io w0 σ a w → At P id c Q a w
structure ConOk (io : Io) (w0 : World) (r : β) (C : Conts N β) (Q : Exit → Act → World → Prop) : Prop where
 norm : ∀ σ a w, C.norm σ = some r → Rel io w0 σ a w → Q .normal a w
 exit : ∀ i σ a w, C.exit i σ = some r → Rel io w0 σ a w → Q (.exit i) a w
 ret : ∀ σ a w, C.ret σ = some r → Rel io w0 σ a w → Q .ret a w
theorem cutOf_some {c : Code} {id : Nat} {keep : List Nat} (h : X.cutOf c = some (id, keep)) : startId c = some id ∧ X.K id = some keep := by
 unfold Ctx.cutOf at h
 split at h
 ·rename_i id' hs
  split at h
  ·rename_i keep' hk
   cases h
   exact ⟨hs, hk⟩
  ·cases h
 ·cases h
theorem cutOf_of {c : Code} {id : Nat} {keep : List Nat} (h1 : startId c = some id) (h2 : X.K id = some keep) : X.cutOf c = some (id, keep) := by
 unfold Ctx.cutOf
 rw [h1]
 simp only [h2]
theorem has_of_occ {id : Nat} : ∀ {c : Code}, id ∈ occ X c → has id c = true
 | .seq a b, h => by
  simp only [occ, List.mem_append, Option.mem_toList, Option.map_eq_some_iff] at h
  simp only [has, Bool.or_eq_true, beq_iff_eq]
  rcases h with h | ⟨⟨i, k⟩, h, rfl⟩ | h
  ·exact .inl (has_of_occ h)
  ·exact .inr (.inl (cutOf_some h).1)
  ·exact .inr (.inr (has_of_occ h))
 | .cond _ t e, h => by
  simp only [occ, List.mem_append] at h
  simp only [has, Bool.or_eq_true]
  exact h.imp has_of_occ has_of_occ
 | .block _ c, h => has_of_occ (c := c) h
 | .scope c, h => has_of_occ (c := c) h
 | .loop c, h => by
  simp only [occ, List.mem_append, Option.mem_toList, Option.map_eq_some_iff] at h
  simp only [has, Bool.or_eq_true, beq_iff_eq]
  rcases h with ⟨⟨i, k⟩, h, rfl⟩ | h
  ·exact .inl (cutOf_some h).1
  ·exact .inr (has_of_occ h)
theorem occ_of_has {id : Nat} {keep : List Nat} (hK : X.K id = some keep) : ∀ {c : Code}, has id c = true → id ∈ occ X c
 | .seq a b, h => by
  simp only [has, Bool.or_eq_true, beq_iff_eq] at h
  simp only [occ, List.mem_append, Option.mem_toList, Option.map_eq_some_iff]
  rcases h with h | h | h
  ·exact .inl (occ_of_has hK h)
  ·exact .inr (.inl ⟨(id, keep), cutOf_of h hK, rfl⟩)
  ·exact .inr (.inr (occ_of_has hK h))
 | .cond _ t e, h => by
  simp only [has, Bool.or_eq_true] at h
  simp only [occ, List.mem_append]
  exact h.imp (occ_of_has hK) (occ_of_has hK)
 | .block _ c, h => occ_of_has (c := c) hK h
 | .scope c, h => occ_of_has (c := c) hK h
 | .loop c, h => by
  simp only [has, Bool.or_eq_true, beq_iff_eq] at h
  simp only [occ, List.mem_append, Option.mem_toList, Option.map_eq_some_iff]
  rcases h with h | h
  ·exact .inl ⟨(id, keep), cutOf_of h hK, rfl⟩
  ·exact .inr (occ_of_has hK h)
theorem K_of_occ {id : Nat} : ∀ {c : Code}, id ∈ occ X c → ∃ keep, X.K id = some keep
 | .seq a b, h => by
  simp only [occ, List.mem_append, Option.mem_toList, Option.map_eq_some_iff] at h
  rcases h with h | ⟨⟨i, k⟩, h, rfl⟩ | h
  ·exact K_of_occ h
  ·exact ⟨k, (cutOf_some h).2⟩
  ·exact K_of_occ h
 | .cond _ t e, h => by
  simp only [occ, List.mem_append] at h
  exact h.elim K_of_occ K_of_occ
 | .block _ c, h => K_of_occ (c := c) h
 | .scope c, h => K_of_occ (c := c) h
 | .loop c, h => by
  simp only [occ, List.mem_append, Option.mem_toList, Option.map_eq_some_iff] at h
  rcases h with ⟨⟨i, k⟩, h, rfl⟩ | h
  ·exact ⟨k, (cutOf_some h).2⟩
  ·exact K_of_occ h
theorem find_has {id : Nat} : ∀ {c : Code} {C : Conts N β} {k : St N → Option β}, find X g id c C = some k → has id c = true
 | .seq a b, C, k, h => by
  simp only [find] at h
  simp only [has, Bool.or_eq_true]
  split at h
  ·rename_i k' hk
   exact .inl (find_has hk)
  ·cases hs : (startId b == some id) with
   | true => exact .inr (.inl rfl)
   | false =>
    rw [hs] at h
    exact .inr (.inr (find_has (c := b) (C := C) (k := k) h))
 | .cond _ t e, C, k, h => by
  simp only [find] at h
  simp only [has, Bool.or_eq_true]
  split at h
  ·rename_i k' hk
   exact .inl (find_has hk)
  ·exact .inr (find_has h)
 | .block _ c, C, k, h => find_has (c := c) h
 | .scope c, C, k, h => find_has (c := c) h
 | .loop c, C, k, h => by
  simp only [find] at h
  simp only [has, Bool.or_eq_true]
  cases hs : (startId c == some id) with
  | true => exact .inl rfl
  | false =>
   rw [hs] at h
   exact .inr (find_has (c := c) (k := k) h)
section
variable {Q : Exit → Act → World → Prop}
theorem CutsOk.left {x y : Code} (h : CutsOk P X g io w0 r (.seq x y) Q) : CutsOk P X g io w0 r x (Exit.then (y.wp P Q) Q) := by
 intro id hid σ a w h1 h2
 have := h id (by simp only [occ, List.mem_append]; exact .inl hid) σ a w h1 h2
 simpa only [At, has_of_occ hid, if_true] using this
theorem CutsOk.right {x y : Code} (h : CutsOk P X g io w0 r (.seq x y) Q) (hn : (occ X (.seq x y)).Nodup) : CutsOk P X g io w0 r y Q := by
 intro id hid σ a w h1 h2
 have := h id (by simp only [occ, List.mem_append]; exact .inr (.inr hid)) σ a w h1 h2
 obtain ⟨keep, hK⟩ := K_of_occ hid
 simp only [occ] at hn
 rw [List.nodup_append] at hn
 have hx : has id x ≠ true := fun hx => hn.2.2 id (occ_of_has hK hx) id (List.mem_append.2 (.inr hid)) rfl
 have hs : startId y ≠ some id := fun hs => by
  rw [List.nodup_append] at hn
  exact hn.2.1.2.2 id (by rw [cutOf_of hs hK]; simp) id hid rfl
 simpa only [At, if_neg hx, if_neg hs] using this
theorem CutsOk.mid {x y : Code} (h : CutsOk P X g io w0 r (.seq x y) Q) (hn : (occ X (.seq x y)).Nodup) {id : Nat} {keep : List Nat} (hc : X.cutOf y = some (id, keep)) {σ : St N} {a : Act} {w : World} (h1 : g id σ = some r) (h2 : Rel io w0 σ a w) : y.wp P Q a w := by
 obtain ⟨hs, hK⟩ := cutOf_some hc
 have := h id (by simp only [occ, hc, List.mem_append]; exact .inr (.inl (by simp))) σ a w h1 h2
 simp only [occ] at hn
 rw [List.nodup_append] at hn
 have hx : has id x ≠ true := fun hx => hn.2.2 id (occ_of_has hK hx) id (List.mem_append.2 (.inl (by rw [hc]; simp))) rfl
 simpa only [At, if_neg hx, if_pos hs] using this
theorem CutsOk.loopHead {c : Code} (h : CutsOk P X g io w0 r (.loop c) Q) {id : Nat} {keep : List Nat} (hc : X.cutOf c = some (id, keep)) {σ : St N} {a : Act} {w : World} (h1 : g id σ = some r) (h2 : Rel io w0 σ a w) : LoopW P c Q a w := by
 obtain ⟨hs, hK⟩ := cutOf_some hc
 have := h id (by simp only [occ, hc, List.mem_append]; exact .inl (by simp)) σ a w h1 h2
 simpa only [At, if_pos hs] using this
theorem CutsOk.inLoop {c : Code} (h : CutsOk P X g io w0 r (.loop c) Q) (hn : (occ X (.loop c)).Nodup) : CutsOk P X g io w0 r c (Exit.then (LoopW P c Q) Q) := by
 intro id hid σ a w h1 h2
 have := h id (by simp only [occ, List.mem_append]; exact .inr hid) σ a w h1 h2
 obtain ⟨keep, hK⟩ := K_of_occ hid
 simp only [occ] at hn
 rw [List.nodup_append] at hn
 have hs : startId c ≠ some id := fun hs => hn.2.2 id (by rw [cutOf_of hs hK]; simp) id hid rfl
 simpa only [At, if_neg hs] using this
theorem cutK_ok {c : Code} {k : St N → Option β} {R : Act → World → Prop} (h1 : ∀ id keep, X.cutOf c = some (id, keep) → ∀ σ a w, g id σ = some r → Rel io w0 σ a w → R a w) (h2 : ∀ σ a w, k σ = some r → Rel io w0 σ a w → R a w) (hp : io.ids = X.pins) :
  ∀ σ a w, X.cutK g c k σ = some r → Rel io w0 σ a w → R a w := by
 intro σ a w h hr
 rcases hc : X.cutOf c with _ | ⟨id, keep⟩
 ·simp only [Ctx.cutK, hc] at h
  exact h2 σ a w h hr
 ·simp only [Ctx.cutK, hc] at h
  refine h1 id keep hc _ a w h ?_
  rw [← hp]
  exact hr.norm keep
theorem exec_sound (F : Fits P N X.τ) (hΦ : ∀ f S, X.Φ f = some S → Good P (f % 1000000) S) (hm : P.follows .mixedOrders = true) (hp : io.ids = X.pins) : ∀ (c : Code) (C : Conts N β) (Q : Exit → Act → World → Prop) (σ : St N), CutsOk P X g io w0 r c Q → (occ X c).Nodup → ConOk io w0 r C Q →
  exec X g c C σ = some r → ∀ a w, Rel io w0 σ a w → c.wp P Q a w
 | .skip, C, Q, σ, hc, hn, hC, h, a, w, hr => wp_skip (hC.norm σ a w h hr)
 | .label _, C, Q, σ, hc, hn, hC, h, a, w, hr => wp_label (hC.norm σ a w h hr)
 | .region _ ops false, C, Q, σ, hc, hn, hC, h, a, w, hr => by
  simp only [exec] at h
  have := execOps_sound (ops := ops.toList) (Q := Q) F hΦ (fun σ a w h1 h2 => hC.norm σ a w h1 h2) ops.toList σ h a w hr
  exact wp_region_list this
 | .region rid ops true, C, Q, σ, hc, hn, hC, h, a, w, hr => by
  simp only [exec] at h
  have := execDrawX_sound (id := rid) (ops := ops.toList) (Q := Q) F hΦ hm (fun σ a w h1 h2 => hC.norm σ a w h1 h2) h hr
  exact this
 | .seq x y, C, Q, σ, hc, hn, hC, h, a, w, hr => by
  have hn' := hn
  simp only [occ] at hn'
  rw [List.nodup_append, List.nodup_append] at hn'
  simp only [exec] at h
  refine wp_seq (exec_sound F hΦ hm hp x { C with norm := X.cutK g y (exec X g y C) } _ σ hc.left hn'.1 ⟨?_, fun i σ a w h1 h2 => hC.exit i σ a w h1 h2, fun σ a w h1 h2 => hC.ret σ a w h1 h2⟩ h a w hr)
  exact cutK_ok (R := y.wp P Q) (fun id keep hcut σ a w h1 h2 => hc.mid hn hcut h1 h2) (fun σ a w h1 h2 => exec_sound F hΦ hm hp y C Q σ (hc.right hn) hn'.2.1.2.1 hC h1 a w h2) hp
 | .cond c t e, C, Q, σ, hc, hn, hC, h, a, w, hr => by
  have hn' := hn
  simp only [occ] at hn'
  rw [List.nodup_append] at hn'
  simp only [exec] at h
  split at h
  ·rename_i b hb
   have hv : a.eval c = .bool b := by
    obtain ⟨E, hE⟩ := hr
    have := hE.ev c
    rw [hb] at this
    exact this
   have hct : CutsOk P X g io w0 r t Q := fun id hid σ a w h1 h2 => by
    have := hc id (by simp only [occ, List.mem_append]; exact .inl hid) σ a w h1 h2
    simpa only [At, has_of_occ hid, if_true] using this
   have hce : CutsOk P X g io w0 r e Q := fun id hid σ a w h1 h2 => by
    have := hc id (by simp only [occ, List.mem_append]; exact .inr hid) σ a w h1 h2
    obtain ⟨keep, hK⟩ := K_of_occ hid
    have hx : has id t ≠ true := fun hx => hn'.2.2 id (occ_of_has hK hx) id hid rfl
    simpa only [At, if_neg hx] using this
   cases b with
   | true => exact wp_cond_true hv (exec_sound F hΦ hm hp t C Q σ hct hn'.1 hC h a w hr)
   | false => exact wp_cond_false hv (exec_sound F hΦ hm hp e C Q σ hce hn'.2.1 hC h a w hr)
  ·cases h
 | .block i c, C, Q, σ, hc, hn, hC, h, a, w, hr => by
  simp only [exec] at h
  refine wp_block (exec_sound F hΦ hm hp c { C with exit := fun j σ => bif j == i then C.norm σ else C.exit j σ } _ σ hc hn ⟨fun σ a w h1 h2 => hC.norm σ a w h1 h2, fun j σ a w h1 h2 => ?_, fun σ a w h1 h2 => hC.ret σ a w h1 h2⟩ h a w hr)
  simp only [Exit.inBlock]
  cases hj : (j == i) with
  | true =>
   simp only [hj, cond_true] at h1
   rw [if_pos (by simpa using hj)]
   exact hC.norm σ a w h1 h2
  | false =>
   simp only [hj, cond_false] at h1
   rw [if_neg (by simpa using hj)]
   exact hC.exit j σ a w h1 h2
 | .loop c, C, Q, σ, hc, hn, hC, h, a, w, hr => by
  simp only [exec] at h
  exact loopW_wp (cutK_ok (R := LoopW P c Q) (fun id keep hcut σ a w h1 h2 => hc.loopHead hcut h1 h2) (fun σ a w h1 _ => by cases h1) hp σ a w h hr)
 | .exit i, C, Q, σ, hc, hn, hC, h, a, w, hr => wp_exit (hC.exit i σ a w h hr)
 | .ret, C, Q, σ, hc, hn, hC, h, a, w, hr => wp_ret (hC.ret σ a w h hr)
 | .scope c, C, Q, σ, hc, hn, hC, h, a, w, hr => by
  simp only [exec] at h
  exact wp_scope_straight (exec_sound F hΦ hm hp c _ _ σ hc hn ⟨fun σ a w h1 h2 => hC.norm σ a w h1 h2, fun i σ a w h1 h2 => hC.exit i σ a w h1 h2, fun σ a w h1 h2 => hC.ret σ a w h1 h2⟩ h a w hr)
 | .rangeFunc .., C, Q, σ, hc, hn, hC, h, a, w, hr => by cases h
 | .goto _, C, Q, σ, hc, hn, hC, h, a, w, hr => by cases h
 | .refuse _, C, Q, σ, hc, hn, hC, h, a, w, hr => by cases h
theorem find_sound (F : Fits P N X.τ) (hΦ : ∀ f S, X.Φ f = some S → Good P (f % 1000000) S) (hm : P.follows .mixedOrders = true) (hp : io.ids = X.pins) {id : Nat} {keep : List Nat} (hK : X.K id = some keep) : ∀ (c : Code) (C : Conts N β) (Q : Exit → Act → World → Prop) (k : St N → Option β), CutsOk P X g io w0 r c Q → (occ X c).Nodup → ConOk io w0 r C Q →
  find X g id c C = some k → ∀ σ a w, k σ = some r → Rel io w0 σ a w → At P id c Q a w
 | .seq x y, C, Q, k, hc, hn, hC, h, σ, a, w, hk, hr => by
  have hn' := hn
  simp only [occ] at hn'
  rw [List.nodup_append, List.nodup_append] at hn'
  simp only [find] at h
  simp only [At]
  have hCx : ConOk io w0 r { C with norm := X.cutK g y (exec X g y C) } (Exit.then (y.wp P Q) Q) :=
   ⟨cutK_ok (R := y.wp P Q) (fun id keep hcut σ a w h1 h2 => hc.mid hn hcut h1 h2) (fun σ a w h1 h2 => exec_sound F hΦ hm hp y C Q σ (hc.right hn) hn'.2.1.2.1 hC h1 a w h2) hp, fun i σ a w h1 h2 => hC.exit i σ a w h1 h2, fun σ a w h1 h2 => hC.ret σ a w h1 h2⟩
  split at h
  ·rename_i k' hk'
   cases h
   rw [if_pos (find_has hk')]
   exact find_sound F hΦ hm hp hK x { C with norm := X.cutK g y (exec X g y C) } _ k hc.left hn'.1 hCx hk' σ a w hk hr
  ·cases hs : (startId y == some id) with
   | true =>
    rw [hs] at h
    cases h
    have hs : startId y = some id := by simpa using hs
    have hx : has id x ≠ true := fun hx => hn'.2.2 id (occ_of_has hK hx) id (List.mem_append.2 (.inl (by rw [cutOf_of hs hK]; simp))) rfl
    rw [if_neg hx, if_pos hs]
    exact exec_sound F hΦ hm hp y C Q σ (hc.right hn) hn'.2.1.2.1 hC hk a w hr
   | false =>
    rw [hs] at h
    have h : find X g id y C = some k := h
    have hs : startId y ≠ some id := by simpa using hs
    have hx : has id x ≠ true := fun hx => hn'.2.2 id (occ_of_has hK hx) id (List.mem_append.2 (.inr (occ_of_has hK (find_has h)))) rfl
    rw [if_neg hx, if_neg hs]
    exact find_sound F hΦ hm hp hK y C Q k (hc.right hn) hn'.2.1.2.1 hC h σ a w hk hr
 | .cond c t e, C, Q, k, hc, hn, hC, h, σ, a, w, hk, hr => by
  have hn' := hn
  simp only [occ] at hn'
  rw [List.nodup_append] at hn'
  simp only [find] at h
  simp only [At]
  split at h
  ·rename_i k' hk'
   cases h
   rw [if_pos (find_has hk')]
   refine find_sound F hΦ hm hp hK t C Q k (fun id hid σ a w h1 h2 => ?_) hn'.1 hC hk' σ a w hk hr
   have := hc id (by simp only [occ, List.mem_append]; exact .inl hid) σ a w h1 h2
   simpa only [At, has_of_occ hid, if_true] using this
  ·have hx : has id t ≠ true := fun hx => hn'.2.2 id (occ_of_has hK hx) id (occ_of_has hK (find_has h)) rfl
   rw [if_neg hx]
   refine find_sound F hΦ hm hp hK e C Q k (fun id hid σ a w h1 h2 => ?_) hn'.2.1 hC h σ a w hk hr
   have := hc id (by simp only [occ, List.mem_append]; exact .inr hid) σ a w h1 h2
   obtain ⟨keep', hK'⟩ := K_of_occ hid
   have hx : has id t ≠ true := fun hx => hn'.2.2 id (occ_of_has hK' hx) id hid rfl
   simpa only [At, if_neg hx] using this
 | .block i c, C, Q, k, hc, hn, hC, h, σ, a, w, hk, hr => by
  simp only [find] at h
  refine find_sound F hΦ hm hp hK c { C with exit := fun j σ => bif j == i then C.norm σ else C.exit j σ } (Exit.inBlock i Q) k hc hn ⟨fun σ a w h1 h2 => hC.norm σ a w h1 h2, fun j σ a w h1 h2 => ?_, fun σ a w h1 h2 => hC.ret σ a w h1 h2⟩ h σ a w hk hr
  simp only [Exit.inBlock]
  cases hj : (j == i) with
  | true =>
   simp only [hj, cond_true] at h1
   rw [if_pos (by simpa using hj)]
   exact hC.norm σ a w h1 h2
  | false =>
   simp only [hj, cond_false] at h1
   rw [if_neg (by simpa using hj)]
   exact hC.exit j σ a w h1 h2
 | .loop c, C, Q, k, hc, hn, hC, h, σ, a, w, hk, hr => by
  have hn' := hn
  simp only [occ] at hn'
  rw [List.nodup_append] at hn'
  simp only [find] at h
  simp only [At]
  have hCc : ConOk io w0 r { C with norm := X.cutK g c (fun _ => none) } (Exit.then (LoopW P c Q) Q) :=
   ⟨cutK_ok (R := LoopW P c Q) (fun id keep hcut σ a w h1 h2 => hc.loopHead hcut h1 h2) (fun σ a w h1 _ => by cases h1) hp, fun i σ a w h1 h2 => hC.exit i σ a w h1 h2, fun σ a w h1 h2 => hC.ret σ a w h1 h2⟩
  cases hs : (startId c == some id) with
  | true =>
   rw [hs] at h
   cases h
   rw [if_pos (by simpa using hs)]
   exact loopW_round (exec_sound F hΦ hm hp c { C with norm := X.cutK g c (fun _ => none) } _ σ (hc.inLoop hn) hn'.2.1 hCc hk a w hr)
  | false =>
   rw [hs] at h
   rw [if_neg (by simpa using hs)]
   exact find_sound F hΦ hm hp hK c { C with norm := X.cutK g c (fun _ => none) } _ k (hc.inLoop hn) hn'.2.1 hCc h σ a w hk hr
 | .scope c, C, Q, k, hc, hn, hC, h, σ, a, w, hk, hr => by
  simp only [find] at h
  exact find_sound F hΦ hm hp hK c _ (Exit.noGoto Q) k hc hn ⟨fun σ a w h1 h2 => hC.norm σ a w h1 h2, fun i σ a w h1 h2 => hC.exit i σ a w h1 h2, fun σ a w h1 h2 => hC.ret σ a w h1 h2⟩ h σ a w hk hr
theorem tbl_ok (F : Fits P N X.τ) (hΦ : ∀ f S, X.Φ f = some S → Good P (f % 1000000) S) (hm : P.follows .mixedOrders = true) (hp : io.ids = X.pins) {body : Code} {C : Conts N β} (hn : (occ X body).Nodup) (hC : ConOk io w0 r C Q) : ∀ n, CutsOk P X (tbl X body C n) io w0 r body Q
 | 0 => fun id _ σ a w h _ => by cases h
 | n + 1 => fun id hid σ a w h hr => by
  simp only [tbl, Seg] at h
  split at h
  ·cases h
  ·rename_i keep hK
   split at h
   ·rename_i k hk
    exact find_sound F hΦ hm hp hK body C Q k (tbl_ok F hΦ hm hp hn hC n) hn hC hk σ a w h hr
   ·cases h
theorem body_sound (F : Fits P N X.τ) (hΦ : ∀ f S, X.Φ f = some S → Good P (f % 1000000) S) (hm : P.follows .mixedOrders = true) (hp : io.ids = X.pins) {body : Code} {C : Conts N β} (hn : (occ X body).Nodup) (hC : ConOk io w0 r C Q) {n : Nat} {σ : St N}
  (h : exec X (tbl X body C n) body C σ = some r) {a : Act} {w : World} (hr : Rel io w0 σ a w) : body.wp P Q a w :=
 exec_sound F hΦ hm hp body C Q σ (tbl_ok F hΦ hm hp hn hC n) hn hC h a w hr
end
end Go.Eng

set_option linter.unusedVariables false
set_option linter.unusedSimpArgs false
namespace Go.Eng
variable {N : Names} {P : Program} {β : Type} {io : Io} {w0 w w' : World} {σ : St N} {E : Env} {a : Act}
def pid (i : Nat) : Nat := 900000 + 1000 * i
def cid (i j : Nat) : Nat := 900001 + 1000 * i + j
def initCells (i : Nat) : Nat → (l : List CK) → HC N.ρ l → List (RV N)
 | _, [], _ => []
 | j, .c t :: l, x => (bif isNm t then .undef else ofDen t x.1 []) :: initCells i (j + 1) l x.2
 | j, .o _ _ :: l, x => .own (cid i j) :: initCells i (j + 1) l x.2
 | j, .f f js :: l, x => .fn f (js.map pid) :: initCells i (j + 1) l x.2
def initCellOwn (i : Nat) : Nat → (l : List CK) → HC N.ρ l → List (Nat × Blk N)
 | _, [], _ => []
 | j, .c _ :: l, x => initCellOwn i (j + 1) l x.2
 | j, .o el e :: l, x => (cid i j, .row el e x.1 [] false) :: initCellOwn i (j + 1) l x.2
 | j, .f _ _ :: l, x => initCellOwn i (j + 1) l x.2
def cellIds (i : Nat) : Nat → List CK → List Nat
 | _, [] => []
 | j, .c _ :: l => cellIds i (j + 1) l
 | j, .o _ _ :: l => cid i j :: cellIds i (j + 1) l
 | j, .f _ _ :: l => cellIds i (j + 1) l
def initOwn : Nat → (ps : List PK) → HIn N.ρ ps → List (Nat × Blk N)
 | _, [], _ => []
 | i, .v _ :: ps, x => initOwn (i + 1) ps x.2
 | i, .io el e :: ps, x => (pid i, .row el e x.1 [] true) :: initOwn (i + 1) ps x.2
 | i, .bw t :: ps, x => (pid i, .whole t x.1 []) :: initOwn (i + 1) ps x.2
 | i, .bc l :: ps, x => (pid i, .cells (initCells i 0 l x.1)) :: (initCellOwn i 0 l x.1 ++ initOwn (i + 1) ps x.2)
 | i, .fv _ :: ps, x => initOwn (i + 1) ps x.2
 | i, .fb f :: ps, x => (pid i, .cells [.fn f [pid i]]) :: initOwn (i + 1) ps x.2
 | i, .ag n l :: ps, x => (pid i, .vals n (initCells i 0 l x.1)) :: (initCellOwn i 0 l x.1 ++ initOwn (i + 1) ps x.2)
 | i, .go el e :: ps, x => (pid i, .row el e x.1 [] false) :: initOwn (i + 1) ps x.2
 | i, .fn _ _ :: ps, x => initOwn (i + 1) ps x.2
 | i, .rp _ :: ps, x => initOwn (i + 1) ps x.2
def initRegs : Nat → (ps : List PK) → HIn N.ρ ps → List (RV N)
 | _, [], _ => []
 | i, .v t :: ps, x => ofDen t x.1 [] :: initRegs (i + 1) ps x.2
 | i, .io _ _ :: ps, x => .own (pid i) :: initRegs (i + 1) ps x.2
 | i, .bw _ :: ps, x => .bptr (pid i) 0 :: initRegs (i + 1) ps x.2
 | i, .bc _ :: ps, x => .bptr (pid i) 0 :: initRegs (i + 1) ps x.2
 | i, .fv f :: ps, x => .fn f [] :: initRegs (i + 1) ps x.2
 | i, .fb _ :: ps, x => .bptr (pid i) 0 :: initRegs (i + 1) ps x.2
 | i, .ag _ _ :: ps, x => .mp (pid i) :: initRegs (i + 1) ps x.2
 | i, .go _ _ :: ps, x => .own (pid i) :: initRegs (i + 1) ps x.2
 | i, .fn f js :: ps, x => .fn f (js.map pid) :: initRegs (i + 1) ps x.2
 | i, .rp t :: ps, x => .sptr t x.1 [] :: initRegs (i + 1) ps x.2
def initIds : Nat → List PK → List Nat
 | _, [] => []
 | i, .v _ :: ps => initIds (i + 1) ps
 | i, .io _ _ :: ps => pid i :: initIds (i + 1) ps
 | i, .bw _ :: ps => pid i :: initIds (i + 1) ps
 | i, .bc l :: ps => pid i :: (cellIds i 0 l ++ initIds (i + 1) ps)
 | i, .fv _ :: ps => initIds (i + 1) ps
 | i, .fb _ :: ps => pid i :: initIds (i + 1) ps
 | i, .ag _ l :: ps => pid i :: (cellIds i 0 l ++ initIds (i + 1) ps)
 | i, .go _ _ :: ps => pid i :: initIds (i + 1) ps
 | i, .fn _ _ :: ps => initIds (i + 1) ps
 | i, .rp _ :: ps => initIds (i + 1) ps
def pinIds : Nat → List PK → List Nat
 | _, [] => []
 | i, .v _ :: ps => pinIds (i + 1) ps
 | i, .fv _ :: ps => pinIds (i + 1) ps
 | i, .ag _ _ :: ps => pinIds (i + 1) ps
 | i, .go _ _ :: ps => pinIds (i + 1) ps
 | i, .fn _ _ :: ps => pinIds (i + 1) ps
 | i, .rp _ :: ps => pinIds (i + 1) ps
 | i, _ :: ps => pid i :: pinIds (i + 1) ps
def init (ps : List PK) (ntmps gh : Nat) (x : HIn N.ρ ps) : St N := { regs := ((initRegs 0 ps x).take (ps.length - gh)).map Slot.one ++ List.replicate (ntmps - (ps.length - gh)) (.tup []), own := initOwn 0 ps x }
def pinned1 : PK → Bool
 | .v _ => false
 | .fv _ => false
 | .ag _ _ => false
 | .go _ _ => false
 | .fn _ _ => false
 | .rp _ => false
 | _ => true
def boxP : PK → Bool
 | .bw _ => true
 | .bc _ => true
 | .fb _ => true
 | _ => false
def boxAt (ps0 : List PK) (j : Nat) : Bool := match ps0[j]? with
 | some p => boxP p
 | none => false
def jsOkC (ps0 : List PK) : List CK → Bool
 | [] => true
 | .f _ js :: l => js.all (boxAt ps0) && jsOkC ps0 l
 | _ :: l => jsOkC ps0 l
def jsOk (ps0 : List PK) : List PK → Bool
 | [] => true
 | .fn _ js :: ps => js.all (boxAt ps0) && jsOk ps0 ps
 | .bc l :: ps => jsOkC ps0 l && jsOk ps0 ps
 | .ag _ l :: ps => jsOkC ps0 l && jsOk ps0 ps
 | _ :: ps => jsOk ps0 ps
def BoxesAt (ps0 : List PK) (vs0 : List Value) (own' : List (Nat × Blk N)) (E' : Env) : Prop :=
 ∀ j, boxAt ps0 j = true → isBox own' (pid j) ∧ E' (pid j) = vs0.getD j undef ∧ ∃ g, E' (pid j) = .pointer (some ⟨g, 0, none⟩)
theorem closV_rel {ps0 : List PK} {vs0 : List Value} {own' : List (Nat × Blk N)} {E' : Env} (h : BoxesAt ps0 vs0 own' E') {f : FuncId} {js : List Nat} (hj : js.all (boxAt ps0) = true) : RVRel w own' E' (.fn f (js.map pid)) (closV vs0 f js) := by
 have hj := List.all_eq_true.1 hj
 refine ⟨?_, fun id hid => ?_⟩
 ·unfold closV
  rw [List.map_map, List.map_congr_left (fun j hm => (h j (hj j hm)).2.1.symm)]
  rfl
 ·obtain ⟨j, hm, rfl⟩ := List.mem_map.1 hid
  exact ⟨(h j (hj j hm)).1, (h j (hj j hm)).2.2⟩
theorem initCells_rel {ok : Nat → Prop} {i : Nat} {ps0 : List PK} {vs0 : List Value} : ∀ (l : List CK) (j : Nat) (x : HC N.ρ l) (us : List Value), HCRel w ok vs0 l x us → jsOkC ps0 l = true →
  ∃ L : List (Ent N), L.map Ent.two = initCellOwn i j l x ∧ L.map (·.1) = cellIds i j l ∧ HCBlk l us = L.flatMap (fun e => oneBlk e.2.2) ∧ us.length = (initCells i j l x).length ∧
   ∀ own' E', Stand L own' E' → BoxesAt ps0 vs0 own' E' → (∀ g, ok g → okb w.heap.size own' E' [] g) → (∀ e ∈ L, BlkRel w own' E' e.1 e.2.1) ∧ ∀ (k : Nat) r u, (initCells i j l x)[k]? = some r → us[k]? = some u → RVRel w own' E' r u
 | [], j, x, us, h, hjs => by
  rw [show us = [] from h]
  exact ⟨[], rfl, rfl, rfl, rfl, fun _ _ _ _ _ => ⟨(fun e he => by cases he), fun k r u hk _ => by simp [initCells] at hk⟩⟩
 | .c t :: l, j, x, us, h, hjs => by
  obtain ⟨u, rest, rfl, k1, k2⟩ := h
  obtain ⟨L, l1, l2, l3, l4, l5⟩ := initCells_rel (i := i) (ps0 := ps0) l (j + 1) x.2 rest k2 hjs
  refine ⟨L, l1, l2, by simpa [HCBlk, CKBlk] using l3, by simp [initCells, l4], fun own' E' hst hbx hok => ?_⟩
  obtain ⟨m1, m2⟩ := l5 own' E' hst hbx hok
  refine ⟨m1, fun k r u' hk hu => ?_⟩
  cases k with
  | zero =>
   simp only [initCells, List.getElem?_cons_zero, Option.some.injEq] at hk hu
   subst hk hu
   have hrep : Rep w ok t x.1 [u] := k1
   cases t with
   | nm n => trivial
   | _ => exact ofDen_rel (Rep_mono (fun _ _ _ h => h) hok hrep) rfl
  | succ k => exact m2 k r u' (by simpa [initCells] using hk) (by simpa using hu)
 | .o el e :: l, j, x, us, h, hjs => by
  obtain ⟨u, rest, rfl, k1, k2⟩ := h
  obtain ⟨L, l1, l2, l3, l4, l5⟩ := initCells_rel (i := i) (ps0 := ps0) l (j + 1) x.2 rest k2 hjs
  refine ⟨(cid i j, .row el e x.1 [] false, u) :: L, by simp [initCellOwn, Ent.two, l1], by simp [cellIds, l2], by simp [HCBlk, CKBlk, l3], by simp [initCells, l4], fun own' E' hst hbx hok => ?_⟩
  obtain ⟨m1, m2⟩ := l5 own' E' (fun e he => hst e (List.mem_cons_of_mem _ he)) hbx hok
  obtain ⟨s1, s2⟩ := hst _ List.mem_cons_self
  refine ⟨fun e' he => ?_, fun k r u' hk hu => ?_⟩
  ·rcases List.mem_cons.1 he with rfl | he
   ·exact ownAt_blk k1 s2 hok
   ·exact m1 e' he
  ·cases k with
   | zero =>
    simp only [initCells, List.getElem?_cons_zero, Option.some.injEq] at hk hu
    subst hk hu
    exact ⟨s2.symm, x.1.length, e, el, x.1, [], false, s1, rfl⟩
   | succ k => exact m2 k r u' (by simpa [initCells] using hk) (by simpa using hu)
 | .f f js :: l, j, x, us, h, hjs => by
  obtain ⟨u, rest, rfl, k1, k2⟩ := h
  simp only [jsOkC, Bool.and_eq_true] at hjs
  obtain ⟨L, l1, l2, l3, l4, l5⟩ := initCells_rel (i := i) (ps0 := ps0) l (j + 1) x.2 rest k2 hjs.2
  refine ⟨L, l1, l2, by simpa [HCBlk, CKBlk] using l3, by simp [initCells, l4], fun own' E' hst hbx hok => ?_⟩
  obtain ⟨m1, m2⟩ := l5 own' E' hst hbx hok
  refine ⟨m1, fun k r u' hk hu => ?_⟩
  cases k with
  | zero =>
   simp only [initCells, List.getElem?_cons_zero, Option.some.injEq] at hk hu
   subst hk hu
   rw [show u = _ from k1]
   exact closV_rel hbx hjs.1
  | succ k => exact m2 k r u' (by simpa [initCells] using hk) (by simpa using hu)
theorem init_rel {ok : Nat → Prop} {ps0 : List PK} {vs0 : List Value} : ∀ (ps : List PK) (i : Nat) (x : HIn N.ρ ps) (vs : List Value) (bl : List Nat), InRel w ok vs0 ps x vs bl → jsOk ps0 ps = true →
  ∃ L : List (Ent N), L.map Ent.two = initOwn i ps x ∧ L.map (·.1) = initIds i ps ∧ bl = L.flatMap (fun e => oneBlk e.2.2) ∧ vs.length = ps.length ∧ (initRegs i ps x).length = ps.length ∧
   (∀ (j : Nat) p v, ps[j]? = some p → vs[j]? = some v → pinned1 p = true → ∃ e ∈ L, e.1 = pid (i + j) ∧ e.2.2 = v ∧ (boxP p = true → ((∃ t x bs, e.2.1 = .whole t x bs) ∨ ∃ l, e.2.1 = .cells l) ∧ ∃ g, v = .pointer (some ⟨g, 0, none⟩))) ∧ (∀ id ∈ pinIds i ps, ∃ e ∈ L, e.1 = id ∧ e.2.1.pinned = true) ∧
   ∀ own' E', Stand L own' E' → BoxesAt ps0 vs0 own' E' → (∀ g, ok g → okb w.heap.size own' E' [] g) → (∀ e ∈ L, BlkRel w own' E' e.1 e.2.1) ∧ ∀ (k : Nat) r u, (initRegs i ps x)[k]? = some r → vs[k]? = some u → RVRel w own' E' r u
 | [], i, x, vs, bl, h, hjs => by
  obtain ⟨rfl, rfl⟩ := h
  exact ⟨[], rfl, rfl, rfl, rfl, rfl, (fun j p v hp => by simp at hp), (fun id hid => by cases hid), fun _ _ _ _ _ => ⟨(fun e he => by cases he), fun k r u hk _ => by simp [initRegs] at hk⟩⟩
 | .v t :: ps, i, x, vs, bl, h, hjs => by
  obtain ⟨v, rest, b1, b2, rfl, rfl, ⟨⟨cs, k1, k2⟩, rfl⟩, k3⟩ := h
  obtain ⟨L, l1, l2, l3, l4, l4', l5, l6, l7⟩ := init_rel (ps0 := ps0) ps (i + 1) x.2 rest b2 k3 hjs
  refine ⟨L, l1, l2, by simpa using l3, by simp [l4], by simp [initRegs, l4'], fun j p v' hp hv hpin => ?_, l6, fun own' E' hst hbx hok => ?_⟩
  ·cases j with
   | zero =>
    simp only [List.getElem?_cons_zero, Option.some.injEq] at hp
    subst hp
    cases hpin
   | succ j =>
    obtain ⟨e, e1, e2, e3, e4⟩ := l5 j p v' (by simpa using hp) (by simpa using hv) hpin
    exact ⟨e, e1, by rw [e2, show i + 1 + j = i + (j + 1) from by omega], e3, e4⟩
  ·obtain ⟨m1, m2⟩ := l7 own' E' hst hbx hok
   refine ⟨m1, fun k r u hk hu => ?_⟩
   cases k with
   | zero =>
    simp only [initRegs, List.getElem?_cons_zero, Option.some.injEq] at hk hu
    subst hk hu
    exact ofDen_rel (Rep_mono (fun _ _ _ h => h) hok k1) k2
   | succ k => exact m2 k r u (by simpa [initRegs] using hk) (by simpa using hu)
 | .io el e :: ps, i, x, vs, bl, h, hjs => by
  obtain ⟨v, rest, b1, b2, rfl, rfl, ⟨k1, rfl⟩, k3⟩ := h
  obtain ⟨L, l1, l2, l3, l4, l4', l5, l6, l7⟩ := init_rel (ps0 := ps0) ps (i + 1) x.2 rest b2 k3 hjs
  refine ⟨(pid i, .row el e x.1 [] true, v) :: L, by simp [initOwn, Ent.two, l1], by simp [initIds, l2], by simp [l3], by simp [l4], by simp [initRegs, l4'], fun j p v' hp hv hpin => ?_, fun id hid => ?_, fun own' E' hst hbx hok => ?_⟩
  ·cases j with
   | zero =>
    simp only [List.getElem?_cons_zero, Option.some.injEq] at hv
    simp only [List.getElem?_cons_zero, Option.some.injEq] at hp
    subst hp
    exact ⟨_, List.mem_cons_self, rfl, hv, fun h => by cases h⟩
   | succ j =>
    obtain ⟨e, e1, e2, e3, e4⟩ := l5 j p v' (by simpa using hp) (by simpa using hv) hpin
    exact ⟨e, List.mem_cons_of_mem _ e1, by rw [e2, show i + 1 + j = i + (j + 1) from by omega], e3, e4⟩
  ·rcases List.mem_cons.1 hid with rfl | hid
   ·exact ⟨_, List.mem_cons_self, rfl, rfl⟩
   ·obtain ⟨e, e1, e2⟩ := l6 id hid
    exact ⟨e, List.mem_cons_of_mem _ e1, e2⟩
  ·obtain ⟨m1, m2⟩ := l7 own' E' (fun e he => hst e (List.mem_cons_of_mem _ he)) hbx hok
   obtain ⟨s1, s2⟩ := hst _ List.mem_cons_self
   refine ⟨fun e' he => ?_, fun k r u hk hu => ?_⟩
   ·rcases List.mem_cons.1 he with rfl | he
    ·exact ownAt_blk k1 s2 hok
    ·exact m1 e' he
   ·cases k with
    | zero =>
     simp only [initRegs, List.getElem?_cons_zero, Option.some.injEq] at hk hu
     subst hk hu
     exact ⟨s2.symm, x.1.length, e, el, x.1, [], true, s1, rfl⟩
    | succ k => exact m2 k r u (by simpa [initRegs] using hk) (by simpa using hu)
 | .bw t :: ps, i, x, vs, bl, h, hjs => by
  obtain ⟨v, rest, b1, b2, rfl, rfl, ⟨g, T, arr, ⟨kb1, kb2⟩, k1, rfl⟩, k3⟩ := h
  obtain ⟨L, l1, l2, l3, l4, l4', l5, l6, l7⟩ := init_rel (ps0 := ps0) ps (i + 1) x.2 rest b2 k3 hjs
  refine ⟨(pid i, .whole t x.1 [], v) :: L, by simp [initOwn, Ent.two, l1], by simp [initIds, l2], by simp [l3, kb1, oneBlk, blkOf], by simp [l4], by simp [initRegs, l4'], fun j p v' hp hv hpin => ?_, fun id hid => ?_, fun own' E' hst hbx hok => ?_⟩
  ·cases j with
   | zero =>
    simp only [List.getElem?_cons_zero, Option.some.injEq] at hv
    exact ⟨_, List.mem_cons_self, rfl, hv, fun _ => ⟨.inl ⟨_, _, _, rfl⟩, g, by rw [← hv]; exact kb1⟩⟩
   | succ j =>
    obtain ⟨e, e1, e2, e3, e4⟩ := l5 j p v' (by simpa using hp) (by simpa using hv) hpin
    exact ⟨e, List.mem_cons_of_mem _ e1, by rw [e2, show i + 1 + j = i + (j + 1) from by omega], e3, e4⟩
  ·rcases List.mem_cons.1 hid with rfl | hid
   ·exact ⟨_, List.mem_cons_self, rfl, rfl⟩
   ·obtain ⟨e, e1, e2⟩ := l6 id hid
    exact ⟨e, List.mem_cons_of_mem _ e1, e2⟩
  ·obtain ⟨m1, m2⟩ := l7 own' E' (fun e he => hst e (List.mem_cons_of_mem _ he)) hbx hok
   obtain ⟨s1, s2⟩ := hst _ List.mem_cons_self
   refine ⟨fun e' he => ?_, fun k r u hk hu => ?_⟩
   ·rcases List.mem_cons.1 he with rfl | he
    ·exact ⟨g, T, arr, s2.trans kb1, kb2, Rep_mono (fun _ _ _ h => h) hok k1⟩
    ·exact m1 e' he
   ·cases k with
    | zero =>
     simp only [initRegs, List.getElem?_cons_zero, Option.some.injEq] at hk hu
     subst hk hu
     exact ⟨.inl ⟨t, x.1, [], s1⟩, g, s2.trans kb1, kb1⟩
    | succ k => exact m2 k r u (by simpa [initRegs] using hk) (by simpa using hu)
 | .fv f :: ps, i, x, vs, bl, h, hjs => by
  obtain ⟨v, rest, b1, b2, rfl, rfl, ⟨k1, rfl⟩, k3⟩ := h
  obtain ⟨L, l1, l2, l3, l4, l4', l5, l6, l7⟩ := init_rel (ps0 := ps0) ps (i + 1) x.2 rest b2 k3 hjs
  refine ⟨L, l1, l2, by simpa using l3, by simp [l4], by simp [initRegs, l4'], fun j p v' hp hv hpin => ?_, l6, fun own' E' hst hbx hok => ?_⟩
  ·cases j with
   | zero =>
    simp only [List.getElem?_cons_zero, Option.some.injEq] at hp
    subst hp
    cases hpin
   | succ j =>
    obtain ⟨e, e1, e2, e3, e4⟩ := l5 j p v' (by simpa using hp) (by simpa using hv) hpin
    exact ⟨e, e1, by rw [e2, show i + 1 + j = i + (j + 1) from by omega], e3, e4⟩
  ·obtain ⟨m1, m2⟩ := l7 own' E' hst hbx hok
   refine ⟨m1, fun k r u hk hu => ?_⟩
   cases k with
   | zero =>
    simp only [initRegs, List.getElem?_cons_zero, Option.some.injEq] at hk hu
    subst hk hu
    exact ⟨k1, fun k hk => by cases hk⟩
   | succ k => exact m2 k r u (by simpa [initRegs] using hk) (by simpa using hu)
 | .fb f :: ps, i, x, vs, bl, h, hjs => by
  obtain ⟨v, rest, b1, b2, rfl, rfl, ⟨g, T, arr, ⟨kb1, kb2⟩, k1, rfl⟩, k3⟩ := h
  obtain ⟨L, l1, l2, l3, l4, l4', l5, l6, l7⟩ := init_rel (ps0 := ps0) ps (i + 1) x.2 rest b2 k3 hjs
  refine ⟨(pid i, .cells [.fn f [pid i]], v) :: L, by simp [initOwn, Ent.two, l1], by simp [initIds, l2], by simp [l3, kb1, oneBlk, blkOf], by simp [l4], by simp [initRegs, l4'], fun j p v' hp hv hpin => ?_, fun id hid => ?_, fun own' E' hst hbx hok => ?_⟩
  ·cases j with
   | zero =>
    simp only [List.getElem?_cons_zero, Option.some.injEq] at hv
    exact ⟨_, List.mem_cons_self, rfl, hv, fun _ => ⟨.inr ⟨_, rfl⟩, g, by rw [← hv]; exact kb1⟩⟩
   | succ j =>
    obtain ⟨e, e1, e2, e3, e4⟩ := l5 j p v' (by simpa using hp) (by simpa using hv) hpin
    exact ⟨e, List.mem_cons_of_mem _ e1, by rw [e2, show i + 1 + j = i + (j + 1) from by omega], e3, e4⟩
  ·rcases List.mem_cons.1 hid with rfl | hid
   ·exact ⟨_, List.mem_cons_self, rfl, rfl⟩
   ·obtain ⟨e, e1, e2⟩ := l6 id hid
    exact ⟨e, List.mem_cons_of_mem _ e1, e2⟩
  ·obtain ⟨m1, m2⟩ := l7 own' E' (fun e he => hst e (List.mem_cons_of_mem _ he)) hbx hok
   obtain ⟨s1, s2⟩ := hst _ List.mem_cons_self
   refine ⟨fun e' he => ?_, fun k r u hk hu => ?_⟩
   ·rcases List.mem_cons.1 he with rfl | he
    ·refine ⟨g, T, arr, s2.trans kb1, kb2, by rw [k1]; rfl, fun k r u hk hu => ?_⟩
     subst k1
     cases k with
     | zero =>
      simp only [List.getElem?_cons_zero, Option.some.injEq] at hk
      subst hk
      exact self_rel ⟨_, s1⟩ s2 kb1 (Option.some.inj hu).symm
     | succ k => simp at hk
    ·exact m1 e' he
   ·cases k with
    | zero =>
     simp only [initRegs, List.getElem?_cons_zero, Option.some.injEq] at hk hu
     subst hk hu
     exact ⟨.inr (.inl ⟨_, s1⟩), g, s2.trans kb1, kb1⟩
    | succ k => exact m2 k r u (by simpa [initRegs] using hk) (by simpa using hu)
 | .bc l :: ps, i, x, vs, bl, h, hjs => by
  simp only [jsOk, Bool.and_eq_true] at hjs
  obtain ⟨v, rest, b1, b2, rfl, rfl, ⟨g, T, arr, ⟨kb1, kb2⟩, k1, rfl⟩, k3⟩ := h
  obtain ⟨L, l1, l2, l3, l4, l4', l5, l6, l7⟩ := init_rel (ps0 := ps0) ps (i + 1) x.2 rest b2 k3 hjs.2
  obtain ⟨M, m1, m2, m3, m4, m5⟩ := initCells_rel (i := i) (ps0 := ps0) l 0 x.1 arr.toList k1 hjs.1
  refine ⟨(pid i, .cells (initCells i 0 l x.1), v) :: (M ++ L), by simp [initOwn, Ent.two, l1, m1], by simp [initIds, l2, m2], by simp [l3, m3, kb1, oneBlk, blkOf], by simp [l4], by simp [initRegs, l4'], fun j p v' hp hv hpin => ?_, fun id hid => ?_, fun own' E' hst hbx hok => ?_⟩
  ·cases j with
   | zero =>
    simp only [List.getElem?_cons_zero, Option.some.injEq] at hv
    exact ⟨_, List.mem_cons_self, rfl, hv, fun _ => ⟨.inr ⟨_, rfl⟩, g, by rw [← hv]; exact kb1⟩⟩
   | succ j =>
    obtain ⟨e, e1, e2, e3, e4⟩ := l5 j p v' (by simpa using hp) (by simpa using hv) hpin
    exact ⟨e, List.mem_cons_of_mem _ (List.mem_append.2 (.inr e1)), by rw [e2, show i + 1 + j = i + (j + 1) from by omega], e3, e4⟩
  ·rcases List.mem_cons.1 hid with rfl | hid
   ·exact ⟨_, List.mem_cons_self, rfl, rfl⟩
   ·obtain ⟨e, e1, e2⟩ := l6 id hid
    exact ⟨e, List.mem_cons_of_mem _ (List.mem_append.2 (.inr e1)), e2⟩
  ·obtain ⟨q1, q2⟩ := l7 own' E' (fun e he => hst e (List.mem_cons_of_mem _ (List.mem_append.2 (.inr he)))) hbx hok
   obtain ⟨c1, c2⟩ := m5 own' E' (fun e he => hst e (List.mem_cons_of_mem _ (List.mem_append.2 (.inl he)))) hbx hok
   obtain ⟨s1, s2⟩ := hst _ List.mem_cons_self
   refine ⟨fun e' he => ?_, fun k r u hk hu => ?_⟩
   ·rcases List.mem_cons.1 he with rfl | he
    ·exact ⟨g, T, arr, s2.trans kb1, kb2, by simpa using m4, fun k r u hk hu => c2 k r u hk (by simpa using hu)⟩
    ·rcases List.mem_append.1 he with he | he
     ·exact c1 e' he
     ·exact q1 e' he
   ·cases k with
    | zero =>
     simp only [initRegs, List.getElem?_cons_zero, Option.some.injEq] at hk hu
     subst hk hu
     exact ⟨.inr (.inl ⟨_, s1⟩), g, s2.trans kb1, kb1⟩
    | succ k => exact q2 k r u (by simpa [initRegs] using hk) (by simpa using hu)
 | .fn f js :: ps, i, x, vs, bl, h, hjs => by
  simp only [jsOk, Bool.and_eq_true] at hjs
  obtain ⟨v, rest, b1, b2, rfl, rfl, ⟨k1, rfl⟩, k3⟩ := h
  obtain ⟨L, l1, l2, l3, l4, l4', l5, l6, l7⟩ := init_rel (ps0 := ps0) ps (i + 1) x.2 rest b2 k3 hjs.2
  refine ⟨L, l1, l2, by simpa using l3, by simp [l4], by simp [initRegs, l4'], fun j p v' hp hv hpin => ?_, l6, fun own' E' hst hbx hok => ?_⟩
  ·cases j with
   | zero =>
    simp only [List.getElem?_cons_zero, Option.some.injEq] at hp
    subst hp
    cases hpin
   | succ j =>
    obtain ⟨e, e1, e2, e3, e4⟩ := l5 j p v' (by simpa using hp) (by simpa using hv) hpin
    exact ⟨e, e1, by rw [e2, show i + 1 + j = i + (j + 1) from by omega], e3, e4⟩
  ·obtain ⟨m1, m2⟩ := l7 own' E' hst hbx hok
   refine ⟨m1, fun k r u hk hu => ?_⟩
   cases k with
   | zero =>
    simp only [initRegs, List.getElem?_cons_zero, Option.some.injEq] at hk hu
    subst hk hu
    rw [show v = _ from k1]
    exact closV_rel hbx hjs.1
   | succ k => exact m2 k r u (by simpa [initRegs] using hk) (by simpa using hu)
 | .rp t :: ps, i, x, vs, bl, h, hjs => by
  obtain ⟨v, rest, b1, b2, rfl, rfl, ⟨⟨ad, cs, k1, k2, k2', k2''⟩, rfl⟩, k3⟩ := h
  obtain ⟨L, l1, l2, l3, l4, l4', l5, l6, l7⟩ := init_rel (ps0 := ps0) ps (i + 1) x.2 rest b2 k3 hjs
  refine ⟨L, l1, l2, by simpa using l3, by simp [l4], by simp [initRegs, l4'], fun j p v' hp hv hpin => ?_, l6, fun own' E' hst hbx hok => ?_⟩
  ·cases j with
   | zero =>
    simp only [List.getElem?_cons_zero, Option.some.injEq] at hp
    subst hp
    cases hpin
   | succ j =>
    obtain ⟨e, e1, e2, e3, e4⟩ := l5 j p v' (by simpa using hp) (by simpa using hv) hpin
    exact ⟨e, e1, by rw [e2, show i + 1 + j = i + (j + 1) from by omega], e3, e4⟩
  ·obtain ⟨m1, m2⟩ := l7 own' E' hst hbx hok
   refine ⟨m1, fun k r u hk hu => ?_⟩
   cases k with
   | zero =>
    simp only [initRegs, List.getElem?_cons_zero, Option.some.injEq] at hk hu
    subst hk hu
    exact ⟨ad, cs, k1, hok _ k2, Rep_mono (fun _ _ _ h => h) hok k2', k2''⟩
   | succ k => exact m2 k r u (by simpa [initRegs] using hk) (by simpa using hu)
 | .go el e :: ps, i, x, vs, bl, h, hjs => by
  obtain ⟨v, rest, b1, b2, rfl, rfl, ⟨k1, rfl⟩, k3⟩ := h
  obtain ⟨L, l1, l2, l3, l4, l4', l5, l6, l7⟩ := init_rel (ps0 := ps0) ps (i + 1) x.2 rest b2 k3 hjs
  refine ⟨(pid i, .row el e x.1 [] false, v) :: L, by simp [initOwn, Ent.two, l1], by simp [initIds, l2], by simp [l3], by simp [l4], by simp [initRegs, l4'], fun j p v' hp hv hpin => ?_, fun id hid => ?_, fun own' E' hst hbx hok => ?_⟩
  ·cases j with
   | zero =>
    simp only [List.getElem?_cons_zero, Option.some.injEq] at hp
    subst hp
    cases hpin
   | succ j =>
    obtain ⟨e, e1, e2, e3, e4⟩ := l5 j p v' (by simpa using hp) (by simpa using hv) hpin
    exact ⟨e, List.mem_cons_of_mem _ e1, by rw [e2, show i + 1 + j = i + (j + 1) from by omega], e3, e4⟩
  ·obtain ⟨e, e1, e2⟩ := l6 id hid
   exact ⟨e, List.mem_cons_of_mem _ e1, e2⟩
  ·obtain ⟨m1, m2⟩ := l7 own' E' (fun e he => hst e (List.mem_cons_of_mem _ he)) hbx hok
   obtain ⟨s1, s2⟩ := hst _ List.mem_cons_self
   refine ⟨fun e' he => ?_, fun k r u hk hu => ?_⟩
   ·rcases List.mem_cons.1 he with rfl | he
    ·exact ownAt_blk k1 s2 hok
    ·exact m1 e' he
   ·cases k with
    | zero =>
     simp only [initRegs, List.getElem?_cons_zero, Option.some.injEq] at hk hu
     subst hk hu
     exact ⟨s2.symm, x.1.length, e, el, x.1, [], false, s1, rfl⟩
    | succ k => exact m2 k r u (by simpa [initRegs] using hk) (by simpa using hu)
 | .ag n l :: ps, i, x, vs, bl, h, hjs => by
  simp only [jsOk, Bool.and_eq_true] at hjs
  obtain ⟨v, rest, b1, b2, rfl, rfl, ⟨cs, k1, k1', rfl⟩, k3⟩ := h
  obtain ⟨L, l1, l2, l3, l4, l4', l5, l6, l7⟩ := init_rel (ps0 := ps0) ps (i + 1) x.2 rest b2 k3 hjs.2
  obtain ⟨M, m1, m2, m3, m4, m5⟩ := initCells_rel (i := i) (ps0 := ps0) l 0 x.1 cs k1' hjs.1
  refine ⟨(pid i, .vals n (initCells i 0 l x.1), v) :: (M ++ L), by simp [initOwn, Ent.two, l1, m1], by simp [initIds, l2, m2], by simp [l3, m3, k1, oneBlk, blkOf], by simp [l4], by simp [initRegs, l4'], fun j p v' hp hv hpin => ?_, fun id hid => ?_, fun own' E' hst hbx hok => ?_⟩
  ·cases j with
   | zero =>
    simp only [List.getElem?_cons_zero, Option.some.injEq] at hp
    subst hp
    cases hpin
   | succ j =>
    obtain ⟨e, e1, e2, e3, e4⟩ := l5 j p v' (by simpa using hp) (by simpa using hv) hpin
    exact ⟨e, List.mem_cons_of_mem _ (List.mem_append.2 (.inr e1)), by rw [e2, show i + 1 + j = i + (j + 1) from by omega], e3, e4⟩
  ·obtain ⟨e, e1, e2⟩ := l6 id hid
   exact ⟨e, List.mem_cons_of_mem _ (List.mem_append.2 (.inr e1)), e2⟩
  ·obtain ⟨q1, q2⟩ := l7 own' E' (fun e he => hst e (List.mem_cons_of_mem _ (List.mem_append.2 (.inr he)))) hbx hok
   obtain ⟨c1, c2⟩ := m5 own' E' (fun e he => hst e (List.mem_cons_of_mem _ (List.mem_append.2 (.inl he)))) hbx hok
   obtain ⟨s1, s2⟩ := hst _ List.mem_cons_self
   refine ⟨fun e' he => ?_, fun k r u hk hu => ?_⟩
   ·rcases List.mem_cons.1 he with rfl | he
    ·exact ⟨cs.toArray, s2.trans k1, by simpa using m4, fun u hu => HCRel_one l x.1 cs k1' u (by simpa using hu), fun k r u hk hu => c2 k r u hk (by simpa using hu)⟩
    ·rcases List.mem_append.1 he with he | he
     ·exact c1 e' he
     ·exact q1 e' he
   ·cases k with
    | zero =>
     simp only [initRegs, List.getElem?_cons_zero, Option.some.injEq] at hk hu
     subst hk hu
     exact ⟨.inr (.inr (.inr ⟨n, _, s1⟩)), s2.symm⟩
    | succ k => exact q2 k r u (by simpa [initRegs] using hk) (by simpa using hu)
/-! The end. -/
def eqNats : List Nat → List Nat → Bool
 | [], [] => true
 | a :: l, b :: m => Nat.beq a b && eqNats l m
 | _, _ => false
theorem eqNats_spec : ∀ {l m : List Nat}, eqNats l m = true → l = m
 | [], [], _ => rfl
 | [], _ :: _, h => by cases h
 | _ :: _, [], h => by cases h
 | a :: l, b :: m, h => by
  simp only [eqNats, Bool.and_eq_true] at h
  rw [Nat.eq_of_beq_eq_true h.1, eqNats_spec h.2]
def selfFk (ps0 : List PK) (f : FuncId) (js : List Nat) : RV N → Bool
 | .fn f' caps => Nat.beq f' f && eqNats caps (js.map pid) && js.all (boxAt ps0)
 | _ => false
def noFk (f : FuncId) (js : List Nat) : RV N → Bool
 | .fn f' [] => Nat.beq f' f && eqNats js []
 | _ => false
theorem noFk_rel {own : List (Nat × Blk N)} (f : FuncId) (js : List Nat) (r : RV N) (u : Value) (h : noFk f js r = true) (hr : RVRel w own E r u) : u = closV [] f js := by
 unfold noFk at h
 split at h
 ·simp only [Bool.and_eq_true] at h
  obtain rfl := Nat.eq_of_beq_eq_true h.1
  obtain rfl := eqNats_spec h.2
  exact hr.1
 ·cases h
def outPs (ps0 : List PK) (own : List (Nat × Blk N)) : Nat → (ps : List PK) → Option (HOut N.ρ ps × List Nat × List Nat)
 | _, [] => some ((), [], [])
 | i, .v _ :: ps => outPs ps0 own (i + 1) ps
 | i, .io el e :: ps => match look own (pid i) with
  | some (.row el' e' xs bs _) => bif eqB el' el then match castTy N (.sl e') (.sl e) xs, outPs ps0 own (i + 1) ps with
   | some xs, some (y, B, R) => some ((xs, y), bs ++ B, pid i :: R)
   | _, _ => none
   else none
  | _ => none
 | i, .bw t :: ps => match look own (pid i) with
  | some (.whole t' x bs) => match castTy N t' t x, outPs ps0 own (i + 1) ps with
   | some x, some (y, B, R) => some ((x, y), bs ++ B, pid i :: R)
   | _, _ => none
  | _ => none
 | i, .bc l :: ps => match look own (pid i) with
  | some (.cells rs) => match cellsIn (selfFk ps0) own l rs, outPs ps0 own (i + 1) ps with
   | some (x, b, J), some (y, B, R) => some ((x, y), b ++ B, pid i :: (J ++ R))
   | _, _ => none
  | _ => none
 | i, .fv _ :: ps => outPs ps0 own (i + 1) ps
 | i, .fb f :: ps => match look own (pid i) with
  | some (.cells rs) => bif selfIs f (pid i) rs then match outPs ps0 own (i + 1) ps with
   | some (y, B, R) => some (((), y), B, pid i :: R)
   | none => none
   else none
  | _ => none
 | i, .ag _ _ :: ps => outPs ps0 own (i + 1) ps
 | i, .go _ _ :: ps => outPs ps0 own (i + 1) ps
 | i, .fn _ _ :: ps => outPs ps0 own (i + 1) ps
 | i, .rp _ :: ps => outPs ps0 own (i + 1) ps
def resRV (τ : TypeId → Option TI) (σ : St N) : ResultVar → Option (RV N)
 | .tmp t => some (ev σ (.tmp t))
 | .cell a t => match τ t with
  | some ⟨.nm n, _⟩ => match ev σ (.tmp a) with
   | .bptr id 0 => match look σ.own id with
    | some (.whole (.nm m) x bs) => bif Nat.beq m n then some (ofDen (.nm m) x bs) else none
    | _ => none
   | _ => none
  | none => none
  | some _ => match ev σ (.tmp a) with
   | .bptr id 0 => match look σ.own id with
    | some (.cells [r]) => some r
    | some (.whole ty x bs) => bif isNm ty then none else some (ofDen ty x bs)
    | _ => none
   | _ => none
def resCs (τ : TypeId → Option TI) (σ : St N) : ResultVar → Option (Nat × List (RV N))
 | .tmp _ => none
 | .cell a t => match τ t with
  | some ⟨.nm n, _⟩ => match ev σ (.tmp a) with
   | .bptr id 0 => match look σ.own id with
    | some (.cells l) => bif Nat.beq l.length (N.size n) && l.all cellK then some (n, l) else none
    | _ => none
   | _ => none
  | _ => none
def resRVs (τ : TypeId → Option TI) (σ : St N) : Nat → List ResultVar → Option (List (RV N) × List (Nat × Blk N))
 | _, [] => some ([], [])
 | i, r :: l => match resCs τ σ r with
  | some (n, cs) => match look σ.own (700000 + i), resRVs τ { σ with own := ins (700000 + i) (.vals n cs) σ.own } (i + 1) l with
   | none, some (y, ad) => some (.mp (700000 + i) :: y, ad ++ [(700000 + i, .vals n cs)])
   | _, _ => none
  | none => match resRV τ σ r, resRVs τ σ (i + 1) l with
   | some x, some (y, ad) => some (x :: y, ad)
   | _, _ => none
def resPs (σ : St N) : (rs : List RK) → List (RV N) → Option (HRes N.ρ rs × List Nat × List Nat)
 | [], [] => some ((), [], [])
 | .v t :: rs, d :: ds => match toDen σ.own t d, resPs σ rs ds with
  | some (x, b), some (y, B, R) => some ((x, y), b ++ B, R)
  | _, _ => none
 | .own el e :: rs, d :: ds => match d with
  | .own j => match look σ.own j with
   | some (.row el' e' xs bs false) => bif eqB el' el then match castTy N (.sl e') (.sl e) xs, resPs σ rs ds with
    | some xs, some (y, B, R) => some ((xs, y), bs ++ B, j :: R)
    | _, _ => none
    else none
   | _ => none
  | .nil => match resPs σ rs ds with
   | some (y, B, R) => some (([], y), B, R)
   | none => none
  | _ => none
 | .ag n l :: rs, d :: ds => match d with
  | .mp id => match look σ.own id with
   | some (.vals m us) => bif Nat.beq m n then match cellsIn noFk σ.own l us, resPs σ rs ds with
    | some (x, b, J), some (y, B, R) => some ((x, y), b ++ B, J ++ R)
    | _, _ => none
    else none
   | _ => none
  | _ => none
 | _, _ => none
def finish (τ : TypeId → Option TI) (ps : List PK) (rs : List RK) (ds : List ResultVar) (σ : St N) : Option (HRes N.ρ rs × HOut N.ρ ps) :=
 match resRVs τ σ 0 ds with
 | none => none
 | some (ds, ad) => match resPs { σ with own := insAll ad σ.own } rs ds, outPs ps (insAll ad σ.own) 0 ps with
  | some (y, B, R), some (z, B', R') => bif nodupB (R' ++ R) && !meets (R' ++ R) (B ++ B') then some (y, z) else none
  | _, _ => none
def rvSem (tmps : Array Value) : ResultVar → Sem Value
 | .tmp t => pure (tmps.getD t undef)
 | .cell a t => do loadVar t (← asAddr (tmps.getD a undef))
theorem resRV_rel {τ : TypeId → Option TI} (F : Fits P N τ) (h : RelE io w0 σ E a w) {rv : ResultVar} {r : RV N} (hr : resRV τ σ rv = some r) : ∃ v, (rvSem a.tmps rv).run P w = .ok v w ∧ RVRel w σ.own E r v := by
 cases rv with
 | tmp t =>
  cases hr
  exact ⟨_, rfl, h.ev (.tmp t)⟩
 | cell d t =>
  simp only [resRV] at hr
  split at hr
  ·rename_i n e hτ
   split at hr
   ·rename_i id hid
    have hev := h.ev (.tmp d)
    rw [hid] at hev
    obtain ⟨_, g, e1, e2⟩ := hev
    have e2 : a.tmps.getD d undef = .pointer (some ⟨g, 0, none⟩) := e2
    split at hr
    ·rename_i m x bs hlk
     cases hm : Nat.beq m n with
     | false => rw [hm] at hr; cases hr
     | true =>
      rw [hm] at hr
      cases hr
      obtain rfl := Nat.eq_of_beq_eq_true hm
      obtain ⟨g', T, arr, c1, c2, c3⟩ := h.own id _ hlk
      rw [e1] at c1
      cases c1
      have hc : ∀ (j : Nat) u, arr.toList[j]? = some u → w.cell? ((⟨g, 0, none⟩ : Addr).add j) = some u := by
       intro j u hu
       have hadd : (⟨g, 0, none⟩ : Addr).add j = ⟨g, j, none⟩ := by unfold Addr.add; split <;> simp_all
       rw [hadd, cell_of_row w g _ arr T (0, 0) c2]
       simpa using hu
      obtain ⟨v, r1, r2⟩ := F.load hτ c3 hc
      refine ⟨v, ?_, ofDen_rel c3 r2⟩
      simp only [Instr.loadAt, Instr.sureAddr, Sem.run_bind, Sem.run_pure, Result.andThen_ok] at r1
      simpa [rvSem, e2, asAddr] using r1
    ·cases hr
   ·cases hr
  ·cases hr
  ·rename_i ti hn hτ
   obtain ⟨ty, e⟩ := ti
   have hagg : (Go.isAgg t).run P w = .ok false w := by
    rw [F.isAgg hτ w]
    cases ty with
    | nm n => exact (hn n e rfl).elim
    | _ => rfl
   split at hr
   ·rename_i id hid
    have hev := h.ev (.tmp d)
    rw [hid] at hev
    obtain ⟨_, g, e1, e2⟩ := hev
    have e2 : a.tmps.getD d undef = .pointer (some ⟨g, 0, none⟩) := e2
    have run : ∀ u, w.cell? ⟨g, 0, none⟩ = some u → (rvSem a.tmps (.cell d t)).run P w = .ok u w := by
     intro u hu
     simp [rvSem, e2, asAddr, loadVar, hagg, hu]
    have cell : ∀ {T : TypeId} {arr : Array Value} {u : Value}, w.heap[g]? = some (.cells arr T (0, 0)) → arr[0]? = some u → w.cell? ⟨g, 0, none⟩ = some u := by
     intro T arr u hg hu
     have := h.box (id := 0) hg 0 0 u (by simpa using hu)
     simpa [Addr.add] using this
    split at hr
    ·rename_i r' hlk
     cases hr
     obtain ⟨g', T, arr, c1, c2, c3, c4⟩ := h.own id _ hlk
     rw [e1] at c1
     cases c1
     have hlt : 0 < arr.size := by rw [c3]; simp
     have hu : arr[0]? = some arr[0] := Array.getElem?_eq_getElem hlt
     exact ⟨_, run _ (cell c2 hu), c4 0 r _ rfl hu⟩
    ·rename_i ty' x bs hlk
     cases hm : isNm ty' with
     | true => rw [hm] at hr; cases hr
     | false =>
      rw [hm] at hr
      cases hr
      obtain ⟨g', T, arr, c1, c2, c3⟩ := h.own id _ hlk
      rw [e1] at c1
      cases c1
      have hlen : arr.size = 1 := by
       have := Rep_length c3
       rw [Array.length_toList] at this
       rw [this]
       cases ty' with
       | nm n => cases hm
       | _ => rfl
      have hu : arr[0]? = some (arr[0]'(by omega)) := Array.getElem?_eq_getElem (by omega)
      refine ⟨_, run _ (cell c2 hu), ofDen_rel c3 ?_⟩
      have hl : arr.toList = [arr[0]'(by omega)] := by
       obtain ⟨l⟩ := arr
       match l, hlen with
       | [v], _ => rfl
      cases ty' with
      | nm n => cases hm
      | _ => exact hl
    ·cases hr
   ·cases hr
theorem insAll_append {β : Type} : ∀ (a b l : List (Nat × β)), insAll (a ++ b) l = insAll a (insAll b l)
 | [], _, _ => rfl
 | (i, v) :: a, b, l => by simp only [List.cons_append, insAll, insAll_append a b l]
theorem resCs_rel {τ : TypeId → Option TI} (F : Fits P N τ) (h : RelE io w0 σ E a w) {rv : ResultVar} {n : Nat} {l : List (RV N)} (hr : resCs τ σ rv = some (n, l)) :
  ∃ arr : Array Value, (rvSem a.tmps rv).run P w = .ok (.agg arr) w ∧ arr.size = l.length ∧ (∀ u ∈ arr.toList, u.oneCell' = true) ∧ ∀ (i : Nat) r u, l[i]? = some r → arr[i]? = some u → RVRel w σ.own E r u := by
 cases rv with
 | tmp t => cases hr
 | cell d t =>
  simp only [resCs] at hr
  split at hr
  ·rename_i n' e hτ
   split at hr
   ·rename_i id hid
    split at hr
    ·rename_i l' hlk
     obtain ⟨hc, hr⟩ := bif_none hr
     cases hr
     simp only [Bool.and_eq_true] at hc
     have hlen := Nat.eq_of_beq_eq_true hc.1
     have hev := h.ev (.tmp d)
     rw [hid] at hev
     obtain ⟨_, g, e1, e2⟩ := hev
     have e2 : a.tmps.getD d undef = .pointer (some ⟨g, 0, none⟩) := e2
     obtain ⟨g', T, arr, c1, c2, c3, c4⟩ := h.own id _ hlk
     rw [e1] at c1
     cases c1
     have hl := F.loadCells hτ (w := w) (cs := arr.toList) (ad := ⟨g, 0, none⟩) (by simpa [hlen] using c3) (fun j u hu => h.box (id := id) c2 0 j u (by simpa using hu))
     refine ⟨arr, ?_, c3, fun u hu => ?_, c4⟩
     ·simp only [Instr.loadAt, Instr.sureAddr, Sem.run_bind, Sem.run_pure, Result.andThen_ok] at hl
      simpa [rvSem, e2, asAddr] using hl
     ·obtain ⟨i, hi⟩ := List.getElem?_of_mem hu
      have hi : arr[i]? = some u := by simpa using hi
      have hlt : i < l.length := by rw [← c3]; exact (Array.getElem?_eq_some_iff.1 hi).1
      exact h.cellOne (c4 i l[i] u (List.getElem?_eq_getElem hlt) hi) (List.all_eq_true.1 hc.2 _ (List.getElem_mem hlt))
    ·cases hr
   ·cases hr
  ·cases hr
theorem resRVs_rel {τ : TypeId → Option TI} (F : Fits P N τ) : ∀ {rvs : List ResultVar} {σ : St N} {E : Env} {i : Nat} {l : List (RV N)} {ad : List (Nat × Blk N)}, RelE io w0 σ E a w → resRVs τ σ i rvs = some (l, ad) →
  ∃ (E' : Env) (us : List Value), RelE io w0 { σ with own := insAll ad σ.own } E' a w ∧ (∀ r v, RVRel w σ.own E r v → RVRel w (insAll ad σ.own) E' r v) ∧ us.length = l.length ∧ us.length = rvs.length ∧ (∀ (i : Nat) rv u, rvs[i]? = some rv → us[i]? = some u → (rvSem a.tmps rv).run P w = .ok u w) ∧
   ∀ (i : Nat) r u, l[i]? = some r → us[i]? = some u → RVRel w (insAll ad σ.own) E' r u
 | [], σ, E, i, l, ad, h, hl => by
  cases hl
  exact ⟨E, [], h, (fun _ _ h => h), rfl, rfl, (fun i rv u hi _ => by simp at hi), fun i rv u hi _ => by simp at hi⟩
 | rv :: rvs, σ, E, i, l, ad, h, hl => by
  simp only [resRVs] at hl
  split at hl
  ·rename_i n cs hcs
   split at hl
   ·rename_i y ad' hno hy
    cases hl
    obtain ⟨arr, k1, k2, k3, k4⟩ := resCs_rel F h hcs
    have hadd := h.add (Ext.refl w) (V := .agg arr) (b := .vals n cs) hno (fun g hg => by cases hg) ⟨arr, updE_same _ _ _, k2, k3, fun i r u hi hu => RVRel_ins (Ext.refl w) hno (fun g hg => by cases hg) (k4 i r u hi hu)⟩
    obtain ⟨E', us, q1, q2, q3, q4, q5, q6⟩ := resRVs_rel F hadd hy
    have hown : insAll (ad' ++ [(700000 + i, Blk.vals n cs)]) σ.own = insAll ad' (ins (700000 + i) (.vals n cs) σ.own) := by rw [insAll_append]; rfl
    refine ⟨E', .agg arr :: us, by rw [hown]; exact q1, fun r v hr => by rw [hown]; exact q2 r v (RVRel_ins (Ext.refl w) hno (fun g hg => by cases hg) hr), by simp [q3], by simp [q4], fun j rv u hj hu => ?_, fun j r u hj hu => ?_⟩
    ·cases j with
     | zero =>
      simp only [List.getElem?_cons_zero, Option.some.injEq] at hj hu
      subst hj hu
      exact k1
     | succ j => exact q5 j rv u (by simpa using hj) (by simpa using hu)
    ·rw [hown]
     cases j with
     | zero =>
      simp only [List.getElem?_cons_zero, Option.some.injEq] at hj hu
      subst hj hu
      refine q2 _ _ ⟨.inr (.inr (.inr ⟨n, cs, ?_⟩)), (updE_same _ _ _).symm⟩
      show look (ins (700000 + i) (Blk.vals n cs) σ.own) (700000 + i) = _
      rw [look_ins, if_pos rfl]
     | succ j => exact q6 j r u (by simpa using hj) (by simpa using hu)
   ·cases hl
  ·split at hl
   ·rename_i x y ad' hx hy
    cases hl
    obtain ⟨v, v1, v2⟩ := resRV_rel F h hx
    obtain ⟨E', us, q1, q2, q3, q4, q5, q6⟩ := resRVs_rel F h hy
    refine ⟨E', v :: us, q1, q2, by simp [q3], by simp [q4], fun j rv u hj hu => ?_, fun j r u hj hu => ?_⟩
    ·cases j with
     | zero =>
      simp only [List.getElem?_cons_zero, Option.some.injEq] at hj hu
      subst hj hu
      exact v1
     | succ j => exact q5 j rv u (by simpa using hj) (by simpa using hu)
    ·cases j with
     | zero =>
      simp only [List.getElem?_cons_zero, Option.some.injEq] at hj hu
      subst hj hu
      exact q2 _ _ v2
     | succ j => exact q6 j r u (by simpa using hj) (by simpa using hu)
   ·cases hl
theorem HCRel_mono {ok ok' : Nat → Prop} {vs0 : List Value} (h : ∀ g, ok g → ok' g) : ∀ {l : List CK} {x : HC N.ρ l} {us : List Value}, HCRel w ok vs0 l x us → HCRel w ok' vs0 l x us
 | [], _, _, hh => hh
 | .c t :: l, x, us, ⟨u, rest, e, k1, k2⟩ => ⟨u, rest, e, Rep_mono (fun _ _ _ h => h) h k1, HCRel_mono h k2⟩
 | .o el t :: l, x, us, ⟨u, rest, e, ⟨cells, k1, k3⟩, k2⟩ => ⟨u, rest, e, ⟨cells, k1, RowC_mono (fun x cs hx => Rep_mono (fun _ _ _ h => h) h hx) k3⟩, HCRel_mono h k2⟩
 | .f f js :: l, x, us, ⟨u, rest, e, k1, k2⟩ => ⟨u, rest, e, k1, HCRel_mono h k2⟩
theorem out_rel (h : RelE io w0 σ E a w) {okA : Nat → Prop} {B0 : List Nat} {ps0 : List PK} {vs0 : List Value} (hfk : ∀ f js r u, selfFk ps0 f js r = true → RVRel w σ.own E r u → u = closV vs0 f js) (hA : ∀ g, okb w.heap.size σ.own E B0 g → okA g) : ∀ (ps : List PK) (i : Nat) (vs : List Value) (y : HOut N.ρ ps) (B R : List Nat), outPs ps0 σ.own i ps = some (y, B, R) → (∀ k ∈ B, k ∈ B0) → vs.length = ps.length →
  (∀ (j : Nat) p v, ps[j]? = some p → vs[j]? = some v → pinned1 p = true → E (pid (i + j)) = v) →
  OutRel w okA vs0 ps y vs (R.flatMap fun id => oneBlk (E id)) ∧ ∀ id ∈ R, ∃ b, look σ.own id = some b
 | [], i, vs, y, B, R, ho, hB, hl, hv => by
  cases ho
  exact ⟨rfl, fun id hid => by cases hid⟩
 | .v t :: ps, i, vs, y, B, R, ho, hB, hl, hv => by
  match vs, hl with
  | v :: vs, hl =>
   exact out_rel h hfk hA ps (i + 1) vs y B R ho hB (by simpa using hl) (fun j p v hp hv' hpin => by
    rw [show i + 1 + j = i + (j + 1) from by omega]
    exact hv (j + 1) p v (by simpa using hp) (by simpa using hv') hpin)
 | .io el e :: ps, i, vs, y, B, R, ho, hB, hl, hv => by
  match vs, hl with
  | v :: vs, hl =>
   have hEv : E (pid i) = v := hv 0 _ v rfl rfl rfl
   simp only [outPs] at ho
   split at ho
   ·rename_i el' e' xs bs p hlk
    obtain ⟨hel, ho⟩ := bif_none ho
    obtain ⟨hel, hlt⟩ := eqB_spec hel
    subst hel
    split at ho
    ·rename_i xs' y1 B1 R1 h1 h2
     cases ho
     obtain ⟨et, rfl⟩ := castTy_some h1
     cases et
     obtain ⟨q1, q2⟩ := out_rel h hfk hA ps (i + 1) vs y1 B1 R1 h2 (fun k hk => hB k (List.mem_append.2 (.inr hk))) (by simpa using hl) (fun j p v hp hv' hpin => by
      rw [show i + 1 + j = i + (j + 1) from by omega]
      exact hv (j + 1) p v (by simpa using hp) (by simpa using hv') hpin)
     obtain ⟨cells, c1, c2⟩ := ownAt_more (fun k hk => hB k (List.mem_append.2 (.inl hk))) (h.ownAt hlk hlt)
     rw [hEv] at c1
     exact ⟨⟨v, vs, oneBlk v, _, rfl, by rw [List.flatMap_cons, hEv], ⟨⟨cells, c1, RowC_mono (fun x cs hx => Rep_mono (fun _ _ _ h => h) hA hx) c2⟩, rfl⟩, q1⟩, fun id hid => by
      rcases List.mem_cons.1 hid with rfl | hid
      ·exact ⟨_, hlk⟩
      ·exact q2 id hid⟩
    ·cases ho
   ·cases ho
 | .bw t :: ps, i, vs, y, B, R, ho, hB, hl, hv => by
  match vs, hl with
  | v :: vs, hl =>
   have hEv : E (pid i) = v := hv 0 _ v rfl rfl rfl
   simp only [outPs] at ho
   split at ho
   ·rename_i t' x bs hlk
    split at ho
    ·rename_i x' y1 B1 R1 h1 h2
     cases ho
     obtain ⟨rfl, rfl⟩ := castTy_some h1
     obtain ⟨q1, q2⟩ := out_rel h hfk hA ps (i + 1) vs y1 B1 R1 h2 (fun k hk => hB k (List.mem_append.2 (.inr hk))) (by simpa using hl) (fun j p v hp hv' hpin => by
      rw [show i + 1 + j = i + (j + 1) from by omega]
      exact hv (j + 1) p v (by simpa using hp) (by simpa using hv') hpin)
     obtain ⟨g, T, arr, c1, c2, c3⟩ := h.own _ _ hlk
     have c3 := Rep_more (fun k hk => hB k (List.mem_append.2 (.inl hk))) c3
     rw [hEv] at c1
     exact ⟨⟨v, vs, [g], _, rfl, by rw [List.flatMap_cons, hEv, c1]; rfl, ⟨g, T, arr, ⟨c1, c2⟩, Rep_mono (fun _ _ _ h => h) hA c3, rfl⟩, q1⟩, fun id hid => by
      rcases List.mem_cons.1 hid with rfl | hid
      ·exact ⟨_, hlk⟩
      ·exact q2 id hid⟩
    ·cases ho
   ·cases ho
 | .ag n l :: ps, i, vs, y, B, R, ho, hB, hl, hv => by
  match vs, hl with
  | v :: vs, hl =>
   exact out_rel h hfk hA ps (i + 1) vs y B R ho hB (by simpa using hl) (fun j p v hp hv' hpin => by
    rw [show i + 1 + j = i + (j + 1) from by omega]
    exact hv (j + 1) p v (by simpa using hp) (by simpa using hv') hpin)
 | .go el e :: ps, i, vs, y, B, R, ho, hB, hl, hv => by
  match vs, hl with
  | v :: vs, hl =>
   exact out_rel h hfk hA ps (i + 1) vs y B R ho hB (by simpa using hl) (fun j p v hp hv' hpin => by
    rw [show i + 1 + j = i + (j + 1) from by omega]
    exact hv (j + 1) p v (by simpa using hp) (by simpa using hv') hpin)
 | .fn f js :: ps, i, vs, y, B, R, ho, hB, hl, hv => by
  match vs, hl with
  | v :: vs, hl =>
   exact out_rel h hfk hA ps (i + 1) vs y B R ho hB (by simpa using hl) (fun j p v hp hv' hpin => by
    rw [show i + 1 + j = i + (j + 1) from by omega]
    exact hv (j + 1) p v (by simpa using hp) (by simpa using hv') hpin)
 | .rp t :: ps, i, vs, y, B, R, ho, hB, hl, hv => by
  match vs, hl with
  | v :: vs, hl =>
   exact out_rel h hfk hA ps (i + 1) vs y B R ho hB (by simpa using hl) (fun j p v hp hv' hpin => by
    rw [show i + 1 + j = i + (j + 1) from by omega]
    exact hv (j + 1) p v (by simpa using hp) (by simpa using hv') hpin)
 | .fv f :: ps, i, vs, y, B, R, ho, hB, hl, hv => by
  match vs, hl with
  | v :: vs, hl =>
   exact out_rel h hfk hA ps (i + 1) vs y B R ho hB (by simpa using hl) (fun j p v hp hv' hpin => by
    rw [show i + 1 + j = i + (j + 1) from by omega]
    exact hv (j + 1) p v (by simpa using hp) (by simpa using hv') hpin)
 | .fb f :: ps, i, vs, y, B, R, ho, hB, hl, hv => by
  match vs, hl with
  | v :: vs, hl =>
   have hEv : E (pid i) = v := hv 0 _ v rfl rfl rfl
   simp only [outPs] at ho
   split at ho
   ·rename_i rs hlk
    obtain ⟨hf, ho⟩ := bif_none ho
    rw [selfIs_spec hf] at hlk
    split at ho
    ·rename_i y1 B1 R1 h2
     cases ho
     obtain ⟨q1, q2⟩ := out_rel h hfk hA ps (i + 1) vs y1 B R1 h2 hB (by simpa using hl) (fun j p v hp hv' hpin => by
      rw [show i + 1 + j = i + (j + 1) from by omega]
      exact hv (j + 1) p v (by simpa using hp) (by simpa using hv') hpin)
     obtain ⟨g, T, arr, c1, c2, c3, c4⟩ := h.own _ _ hlk
     rw [hEv] at c1
     refine ⟨⟨v, vs, [g], _, rfl, by rw [List.flatMap_cons, hEv, c1]; rfl, ⟨g, T, arr, ⟨c1, c2⟩, ?_, rfl⟩, q1⟩, fun id hid => ?_⟩
     ·obtain ⟨l⟩ := arr
      match l, c3 with
      | [u], _ =>
       have := (c4 0 _ u rfl (by simp)).1
       rw [this, ← hEv]
       rfl
     ·rcases List.mem_cons.1 hid with rfl | hid
      ·exact ⟨_, hlk⟩
      ·exact q2 id hid
    ·cases ho
   ·cases ho
 | .bc l :: ps, i, vs, y, B, R, ho, hB, hl, hv => by
  match vs, hl with
  | v :: vs, hl =>
   have hEv : E (pid i) = v := hv 0 _ v rfl rfl rfl
   simp only [outPs] at ho
   split at ho
   ·rename_i rs hlk
    split at ho
    ·rename_i x b J y1 B1 R1 h1 h2
     cases ho
     obtain ⟨q1, q2⟩ := out_rel h hfk hA ps (i + 1) vs y1 B1 R1 h2 (fun k hk => hB k (List.mem_append.2 (.inr hk))) (by simpa using hl) (fun j p v hp hv' hpin => by
      rw [show i + 1 + j = i + (j + 1) from by omega]
      exact hv (j + 1) p v (by simpa using hp) (by simpa using hv') hpin)
     obtain ⟨g, T, arr, c1, c2, c3, c4⟩ := h.own _ _ hlk
     obtain ⟨p1, p2, p3⟩ := cellsIn_rel h (B0 := B0) hfk l rs arr.toList x b J h1 (by simpa using c3) (fun i r u hi hu => c4 i r u hi (by simpa using hu)) (fun i hi => hB i (List.mem_append.2 (.inl hi)))
     rw [hEv] at c1
     refine ⟨⟨v, vs, g :: HCBlk l arr.toList, _, rfl, ?_, ⟨g, T, arr, ⟨c1, c2⟩, HCRel_mono hA p1, rfl⟩, q1⟩, fun id hid => ?_⟩
     ·rw [List.flatMap_cons, List.flatMap_append, hEv, c1, p2]
      simp [oneBlk, blkOf]
     ·rcases List.mem_cons.1 hid with rfl | hid
      ·exact ⟨_, hlk⟩
      ·rcases List.mem_append.1 hid with hid | hid
       ·obtain ⟨b, hb, _⟩ := p3 id hid
        exact ⟨b, hb⟩
       ·exact q2 id hid
    ·cases ho
   ·cases ho
theorem resPs_rel (h : RelE io w0 σ E a w) {okA : Nat → Prop} {B0 : List Nat} (hA : ∀ g, okb w.heap.size σ.own E B0 g → okA g) : ∀ (rs : List RK) (ds : List (RV N)) (us : List Value) (y : HRes N.ρ rs) (B R : List Nat), resPs σ rs ds = some (y, B, R) → (∀ k ∈ B, k ∈ B0) →
  us.length = ds.length → (∀ (i : Nat) r u, ds[i]? = some r → us[i]? = some u → RVRel w σ.own E r u) →
  ResRel w okA rs y us (R.flatMap fun id => oneBlk (E id)) ∧ ∀ id ∈ R, ∃ b, look σ.own id = some b
 | [], [], us, y, B, R, hr, hB, hl, hu => by
  cases hr
  rw [List.eq_nil_of_length_eq_zero hl]
  exact ⟨⟨rfl, rfl⟩, fun id hid => by cases hid⟩
 | [], _ :: _, us, y, B, R, hr, hB, hl, hu => by cases hr
 | .v t :: rs, [], us, y, B, R, hr, hB, hl, hu => by cases hr
 | .own el e :: rs, [], us, y, B, R, hr, hB, hl, hu => by cases hr
 | .ag n l :: rs, [], us, y, B, R, hr, hB, hl, hu => by cases hr
 | .ag n l :: rs, d :: ds, us, y, B, R, hr, hB, hl, hu => by
  match us, hl with
  | u :: us, hl =>
   have hu0 := hu 0 d u rfl rfl
   have hus : ∀ (i : Nat) r u, ds[i]? = some r → us[i]? = some u → RVRel w σ.own E r u := fun i r u hi hu' => hu (i + 1) r u (by simpa using hi) (by simpa using hu')
   simp only [resPs] at hr
   split at hr
   ·rename_i _ id _
    split at hr
    ·rename_i m cs hlk
     obtain ⟨hm, hr⟩ := bif_none hr
     split at hr
     ·rename_i x b J y1 B1 R1 h1 h2
      cases hr
      obtain ⟨q1, q2⟩ := resPs_rel h hA rs ds us y1 B1 R1 h2 (fun k hk => hB k (List.mem_append.2 (.inr hk))) (by simpa using hl) hus
      obtain ⟨arr, c1, c2, c3, c4⟩ := h.own _ _ hlk
      obtain ⟨p1, p2, p3⟩ := cellsIn_rel h (B0 := B0) noFk_rel l cs arr.toList x b J h1 (by simpa using c2) (fun i r u hi hu => c4 i r u hi (by simpa using hu)) (fun i hi => hB i (List.mem_append.2 (.inl hi)))
      refine ⟨⟨u, us, HCBlk l arr.toList, _, rfl, ?_, ⟨arr.toList, by rw [hu0.2, c1], HCRel_mono hA p1, rfl⟩, q1⟩, fun id hid => ?_⟩
      ·rw [List.flatMap_append, p2]
      ·rcases List.mem_append.1 hid with hid | hid
       ·obtain ⟨b, hb, _⟩ := p3 id hid
        exact ⟨b, hb⟩
       ·exact q2 id hid
     ·cases hr
    ·cases hr
   ·cases hr
 | .v t :: rs, d :: ds, us, y, B, R, hr, hB, hl, hu => by
  match us, hl with
  | u :: us, hl =>
   have hu0 := hu 0 d u rfl rfl
   have hus : ∀ (i : Nat) r u, ds[i]? = some r → us[i]? = some u → RVRel w σ.own E r u := fun i r u hi hu' => hu (i + 1) r u (by simpa using hi) (by simpa using hu')
   simp only [resPs] at hr
   split at hr
   ·rename_i x b y1 B1 R1 h1 h2
    cases hr
    obtain ⟨q1, q2⟩ := resPs_rel h hA rs ds us y1 B1 R h2 (fun k hk => hB k (List.mem_append.2 (.inr hk))) (by simpa using hl) hus
    obtain ⟨cs, k1, k2⟩ := h.toDen h1 hu0
    exact ⟨⟨_, _, [], _, rfl, rfl, ⟨⟨cs, Rep_mono (fun _ _ _ h => h) hA (Rep_more (fun k hk => hB k (List.mem_append.2 (.inl hk))) k1), k2⟩, rfl⟩, q1⟩, q2⟩
   ·cases hr
 | .own el e :: rs, d :: ds, us, y, B, R, hr, hB, hl, hu => by
  match us, hl with
  | u :: us, hl =>
   have hev := hu 0 d u rfl rfl
   have hus : ∀ (i : Nat) r u, ds[i]? = some r → us[i]? = some u → RVRel w σ.own E r u := fun i r u hi hu' => hu (i + 1) r u (by simpa using hi) (by simpa using hu')
   simp only [resPs] at hr
   split at hr
   ·rename_i _ j _
    split at hr
    ·rename_i el' e' xs bs hlk
     obtain ⟨hel, hr⟩ := bif_none hr
     obtain ⟨hel, hlt⟩ := eqB_spec hel
     subst hel
     split at hr
     ·rename_i xs' y1 B1 R1 h1 h2
      cases hr
      obtain ⟨et, rfl⟩ := castTy_some h1
      cases et
      obtain ⟨q1, q2⟩ := resPs_rel h hA rs ds us y1 B1 R1 h2 (fun k hk => hB k (List.mem_append.2 (.inr hk))) (by simpa using hl) hus
      obtain ⟨cells, c1, c2⟩ := ownAt_more (fun k hk => hB k (List.mem_append.2 (.inl hk))) (h.ownAt hlk hlt)
      rw [← hev.1] at c1
      refine ⟨⟨_, _, oneBlk (E j), _, rfl, rfl, ⟨⟨cells, c1, RowC_mono (fun x cs hx => Rep_mono (fun _ _ _ h => h) hA hx) c2⟩, by rw [← hev.1]⟩, q1⟩, fun id hid => ?_⟩
      rcases List.mem_cons.1 hid with rfl | hid
      ·exact ⟨_, hlk⟩
      ·exact q2 id hid
     ·cases hr
    ·cases hr
   ·split at hr
    ·rename_i y1 B1 R1 h2
     cases hr
     obtain ⟨q1, q2⟩ := resPs_rel h hA rs ds us y1 B R h2 hB (by simpa using hl) hus
     have hev : u = .slice none 0 0 := hev
     refine ⟨⟨_, _, [], _, rfl, rfl, ⟨⟨[], ?_, rfl⟩, ?_⟩, q1⟩, q2⟩
     ·show _ ∧ w.ownsRow 0 el (N.sz e) u 0 []
      rw [hev]
      exact ⟨.inl rfl, by simp, .inl ⟨rfl, rfl⟩⟩
     ·show [] = oneBlk u
      rw [hev]
      rfl
    ·cases hr
   ·cases hr
end Go.Eng

set_option linter.unusedVariables false
set_option linter.unusedSimpArgs false
namespace Go.Eng
variable {N : Names} {P : Program}
theorem results_run {fn : Func} {ds : List ResultVar} (h : fn.results.toList = ds) (hl : ds.length ≤ 5) (tmps : Array Value) (w : World) (us : List Value) (hlen : us.length = ds.length)
  (hus : ∀ (i : Nat) rv u, ds[i]? = some rv → us[i]? = some u → (rvSem tmps rv).run P w = .ok u w) : (results fn tmps).run P w = .ok (packV us) w := by
 have hr : fn.results = ds.toArray := Array.ext' h
 have e : results fn tmps = (do let vs ← fn.results.mapM (rvSem tmps); pure (if h : vs.size = 1 then vs[0] else .tuple vs)) := by
  have hf : rvSem tmps = fun rv => match rv with
    | .tmp t => pure (tmps.getD t undef)
    | .cell a t => (do loadVar t (← asAddr (tmps.getD a undef)) : Sem Value) := (funext fun rv => by cases rv <;> rfl)
  rw [hf]
  rfl
 rw [e, hr]
 clear e
 match ds, hl, us, hlen with
 | [], _, [], _ => simp [packV]
 | [d1], _, [u1], _ =>
  have h1 := hus 0 d1 u1 rfl rfl
  simp [packV, h1]
 | [d1, d2], _, [u1, u2], _ =>
  have h1 := hus 0 d1 u1 rfl rfl
  have h2 := hus 1 d2 u2 rfl rfl
  simp [packV, h1, h2]
 | [d1, d2, d3], _, [u1, u2, u3], _ =>
  have h1 := hus 0 d1 u1 rfl rfl
  have h2 := hus 1 d2 u2 rfl rfl
  have h3 := hus 2 d3 u3 rfl rfl
  simp [packV, h1, h2, h3]
 | [d1, d2, d3, d4], _, [u1, u2, u3, u4], _ =>
  have h1 := hus 0 d1 u1 rfl rfl
  have h2 := hus 1 d2 u2 rfl rfl
  have h3 := hus 2 d3 u3 rfl rfl
  have h4 := hus 3 d4 u4 rfl rfl
  simp [packV, h1, h2, h3, h4]
 | [d1, d2, d3, d4, d5], _, [u1, u2, u3, u4, u5], _ =>
  have h1 := hus 0 d1 u1 rfl rfl
  have h2 := hus 1 d2 u2 rfl rfl
  have h3 := hus 2 d3 u3 rfl rfl
  have h4 := hus 3 d4 u4 rfl rfl
  have h5 := hus 4 d5 u5 rfl rfl
  simp [packV, h1, h2, h3, h4, h5]
structure Fn (N : Names) where
 X : Ctx N
 body : Code
 ds : List ResultVar
 ntmps : Nat
abbrev U : Slot N := .one .undef
def bodyOf (f : Func) : Code := match f.body with
 | some c => c
 | none => .skip
def Fn.C (f : Fn N) (ps : List PK) (rs : List RK) : Conts N (HRes N.ρ rs × HOut N.ρ ps) := ⟨finish f.X.τ ps rs f.ds, fun _ _ => none, finish f.X.τ ps rs f.ds⟩
def Fn.at (f : Fn N) (ps : List PK) (rs : List RK) (n id : Nat) (σ : St N) : Option (HRes N.ρ rs × HOut N.ρ ps) := tbl f.X f.body (f.C ps rs) n id σ
def Fn.from (f : Fn N) (ps : List PK) (rs : List RK) (n : Nat) (σ : St N) : Option (HRes N.ρ rs × HOut N.ρ ps) := exec f.X (f.at ps rs n) f.body (f.C ps rs) σ
def Fn.run (f : Fn N) (ps : List PK) (rs : List RK) (n : Nat) (x : HIn N.ρ ps) : Option (HRes N.ρ rs × HOut N.ρ ps) := f.from ps rs n (init ps f.ntmps f.X.gh x)
theorem callFunc_enter {P : Program} {f : FuncId} {fn : Func} {c : Code} (hf : P.funcs[f]? = some fn) (hb : fn.body = some c) (hn : (fn.name == "runtime.NumGoroutine") = false) (w : World) (args : Array Value) :
  (callFunc f args).run P w = .ok (.enter f args) w := by
 unfold callFunc
 simp only [Sem.run_bind, run_program, Result.andThen_ok, hf, hb, hn, Option.isNone_some, Bool.false_eq_true, if_false, Sem.run_pure]
theorem mem_pinIds : ∀ (ps : List PK) (i j : Nat) (p : PK), ps[j]? = some p → pinned1 p = true → pid (i + j) ∈ pinIds i ps
 | [], i, j, p, hp, _ => by simp at hp
 | q :: ps, i, 0, p, hp, hpin => by
  simp only [List.getElem?_cons_zero, Option.some.injEq] at hp
  subst hp
  cases q with
  | v t => cases hpin
  | fv f => cases hpin
  | ag n l => cases hpin
  | go el e => cases hpin
  | fn f js => cases hpin
  | rp t => cases hpin
  | _ => exact List.mem_cons_self
 | q :: ps, i, j + 1, p, hp, hpin => by
  have := mem_pinIds ps (i + 1) j p (by simpa using hp) hpin
  rw [show i + 1 + j = i + (j + 1) from by omega] at this
  cases q with
  | v t => exact this
  | fv f => exact this
  | ag n l => exact this
  | go el e => exact this
  | fn f js => exact this
  | rp t => exact this
  | _ => exact List.mem_cons_of_mem _ this
theorem good_of {f : Fn N} (F : Fits P N f.X.τ) (hm : P.follows .mixedOrders = true) (hΦ : ∀ g S, f.X.Φ g = some S → Good P (g % 1000000) S) {id : FuncId} {fn : Func} (hf : P.funcs[id]? = some fn) (hb : fn.body = some f.body) (hn : (fn.name == "runtime.NumGoroutine") = false)
  (hres : fn.results.toList = f.ds) (hl : f.ds.length ≤ 5) (ht : fn.ntmps = f.ntmps) (hocc : nodupB (occ f.X f.body) = true)
  (S : Spec N) (hgh : f.X.gh = S.gh) (hids : (nodupB (initIds 0 S.ps) && jsOk S.ps S.ps) = true) (hpins : f.X.pins = pinIds 0 S.ps)
  (hrun : ∀ x r, S.f x = some r → ∃ n, f.run S.ps S.rs n x = some (S.out r)) : Good P id S where
 enter w args := callFunc_enter hf hb hn w args
 calls w ok x vs bl r hok hin hbl hblk hr := by
  obtain ⟨n, hrun⟩ := hrun x r hr
  rw [Bool.and_eq_true] at hids
  obtain ⟨hids, hjs⟩ := hids
  obtain ⟨L, l1, l2, l3, l4, l4', l5, l6, l7⟩ := init_rel (ps0 := S.ps) S.ps 0 x vs bl hin hjs
  have hLids : (L.map (·.1)).Nodup := by rw [l2]; exact nodupB_spec hids
  let E0 : Env := ⟨valOf L, fun b => ok b ∨ b ∈ bl ∨ w.heap.size ≤ b⟩
  let io : Io := ⟨fun g => g ∈ bl, fun b => ok b ∨ b ∈ bl ∨ w.heap.size ≤ b, f.X.pins, valOf L⟩
  have hst : Stand L (initOwn 0 S.ps x) E0 := fun e he => by
   have := ent_look hLids e he
   rw [l1] at this
   exact this
  have hof : ∀ id b, look (initOwn 0 S.ps x) id = some b → ∃ e ∈ L, e.1 = id ∧ e.2.1 = b ∧ valOf L id = e.2.2 := by
   intro id b hb
   rw [← l1] at hb
   obtain ⟨e, he, rfl, rfl⟩ := look_ent hb
   exact ⟨e, he, rfl, rfl, (ent_look hLids e he).2⟩
  have hbof : ∀ id b, look (initOwn 0 S.ps x) id = some b → ∀ g, blkOf (valOf L id) = some g → g ∈ bl := by
   intro id b hb g hg
   obtain ⟨e, he, rfl, rfl, hv⟩ := hof id b hb
   rw [hv] at hg
   rw [l3]
   exact List.mem_flatMap.2 ⟨e, he, mem_oneBlk.2 hg⟩
  have hok0 : ∀ g, ok g → okb w.heap.size (initOwn 0 S.ps x) E0 [] g := fun g hg => ⟨⟨hok g hg, .inl hg⟩, fun id hid _ hg2 => by
   obtain ⟨b, hb⟩ := Option.isSome_iff_exists.1 hid
   exact (hblk g (hbof id b hb g hg2)).1 hg⟩
  have hbx : BoxesAt S.ps vs (initOwn 0 S.ps x) E0 := by
   intro j hj
   unfold boxAt at hj
   split at hj
   ·rename_i p hp
    have hlt : j < vs.length := by
     have := (List.getElem?_eq_some_iff.1 hp).1
     omega
    have hpin : pinned1 p = true := by cases p <;> first | rfl | cases hj
    obtain ⟨e, he, e1, e2, e3⟩ := l5 j p vs[j] hp (List.getElem?_eq_getElem hlt) hpin
    rw [Nat.zero_add] at e1
    obtain ⟨s1, s2⟩ := hst e he
    obtain ⟨k1, g, k2⟩ := e3 hj
    have hv : E0 (pid j) = vs[j] := by rw [← e1, ← e2]; exact s2
    refine ⟨?_, ?_, g, hv.trans k2⟩
    ·rw [← e1]
     rcases k1 with ⟨t, y, bs, k1⟩ | ⟨l, k1⟩
     ·exact .inl ⟨t, y, bs, by rw [s1, k1]⟩
     ·exact .inr (.inl ⟨l, by rw [s1, k1]⟩)
    ·rw [hv, List.getD_eq_getElem?_getD, List.getElem?_eq_getElem hlt]
     rfl
   ·cases hj
  obtain ⟨hblkR, hregs⟩ := l7 _ E0 hst hbx hok0
  have hvl : (vs.take (S.ps.length - S.gh)).length = S.ps.length - S.gh := by rw [List.length_take]; omega
  have hrel : Rel io w (init S.ps f.ntmps f.X.gh x) { tmps := (vs.take (S.ps.length - S.gh)).toArray ++ Array.replicate (fn.ntmps - (vs.take (S.ps.length - S.gh)).toArray.size) undef, defers := [] } w := by
   refine ⟨E0, ⟨⟨rfl, rfl, rfl, Nat.le_refl _, fun _ _ _ => rfl⟩, ?_, rfl, ?_, ?_, ?_, ?_, rfl, ?_, ?_⟩⟩
   ·simp [init, l4', ht, l4, hgh]
   ·intro t s hs
    simp only [init, hgh] at hs
    rcases Nat.lt_or_ge t (S.ps.length - S.gh) with hlt | hge
    ·rw [List.getElem?_append_left (by simp [l4', hlt]), List.getElem?_map, List.getElem?_take, if_pos hlt] at hs
     obtain ⟨r0, hr0, rfl⟩ := Option.map_eq_some_iff.1 hs
     have hlt' : t < vs.length := by omega
     have hv : ((vs.take (S.ps.length - S.gh)).toArray ++ Array.replicate (fn.ntmps - (vs.take (S.ps.length - S.gh)).toArray.size) undef).getD t undef = vs[t] := by
      rw [Array.getD_eq_getD_getElem?, Array.getElem?_append_left (by rw [List.size_toArray, hvl]; exact hlt)]
      rw [List.getElem?_toArray, List.getElem?_take, if_pos hlt, List.getElem?_eq_getElem hlt']
      rfl
     rw [hv]
     exact hregs t r0 _ hr0 (List.getElem?_eq_getElem hlt')
    ·rw [List.getElem?_append_right (by simp [l4', hge]), List.getElem?_replicate] at hs
     split at hs
     ·cases hs
      rename_i hlt
      refine ⟨[], ?_, rfl, fun i r u hi _ => by simp at hi⟩
      have : ((vs.take (S.ps.length - S.gh)).toArray ++ Array.replicate (fn.ntmps - (vs.take (S.ps.length - S.gh)).toArray.size) undef).getD t undef = undef := by
       rw [Array.getD_eq_getD_getElem?, Array.getElem?_append_right (by rw [List.size_toArray, hvl]; exact hge)]
       rw [Array.getElem?_replicate]
       split <;> rfl
      rw [this]
      rfl
     ·cases hs
   ·intro id b hb
    obtain ⟨e, he, rfl, rfl, _⟩ := hof id b hb
    exact hblkR e he
   ·intro id b hb g hg
    have := hbof id b hb g hg
    exact ⟨(hblk g this).2, .inr this⟩
   ·intro id id' b b' h1 h2 hne g hg
    obtain ⟨e, he, rfl, rfl, hv⟩ := hof id b h1
    obtain ⟨e', he', rfl, rfl, hv'⟩ := hof id' b' h2
    show blkOf (valOf L e'.1) ≠ some g
    have hg : blkOf (valOf L e.1) = some g := hg
    rw [hv] at hg
    rw [hv']
    exact ent_sep (by rw [← l3]; exact hbl) e he e' he' hne g hg
   ·rintro b (hb | hb)
    ·exact .inr (.inr hb)
    ·exact .inr (.inl hb)
   ·intro i hi
    obtain ⟨e, he, rfl, hp⟩ := l6 i (by rw [← hpins]; exact hi)
    obtain ⟨s1, s2⟩ := hst e he
    exact ⟨e.2.1, s1, rfl, hp⟩
  have hcon : ConOk io w (S.out r) (f.C S.ps S.rs) (bodyPost P fn fun e w' => ∃ us bl' rl, e = .returned (packV us) ∧ AfterCall S ok vs bl w w' r us bl' rl) := by
   have key : ∀ σ a w', finish f.X.τ S.ps S.rs f.ds σ = some (S.out r) → Rel io w σ a w' → a.defers = [] ∧ ∃ v, (results fn a.tmps).run P w' = .ok v w' ∧ ∃ us bl' rl, Ending.returned v = .returned (packV us) ∧ AfterCall S ok vs bl w w' r us bl' rl := by
    rintro σ a w' hfin ⟨E, hR⟩
    unfold finish at hfin
    split at hfin
    ·cases hfin
    rename_i rvs ad hrvs
    obtain ⟨E1, us, hR1, _, u1, u2, u3, u4⟩ := resRVs_rel F hR hrvs
    refine ⟨hR.defers, _, results_run hres hl _ _ us u2 u3, ?_⟩
    have hfk : ∀ f' js r u, selfFk S.ps f' js r = true → RVRel w' (insAll ad σ.own) E1 r u → u = closV vs f' js := by
     intro f' js r' u hf' hr'
     unfold selfFk at hf'
     split at hf'
     ·simp only [Bool.and_eq_true] at hf'
      obtain ⟨⟨hf1, hf2⟩, hf3⟩ := hf'
      obtain rfl := Nat.eq_of_beq_eq_true hf1
      obtain rfl := eqNats_spec hf2
      have hf3 := List.all_eq_true.1 hf3
      rw [hr'.1]
      unfold closV
      congr 2
      rw [List.map_map]
      refine List.map_congr_left (fun j hj => ?_)
      have hjb := hf3 j hj
      obtain ⟨_, b2, _⟩ := hbx j hjb
      have hpm : pid j ∈ io.ids := by
       show pid j ∈ f.X.pins
       rw [hpins]
       unfold boxAt at hjb
       split at hjb
       ·rename_i p hp
        have := mem_pinIds S.ps 0 j p hp (by cases p <;> first | rfl | cases hjb)
        rwa [Nat.zero_add] at this
       ·cases hjb
      obtain ⟨b, _, f2, _⟩ := hR1.fx _ hpm
      show E1 (pid j) = _
      rw [f2]
      exact b2
     ·cases hf'
    split at hfin
    ·rename_i y B R z B' R' h1 h2
     obtain ⟨hcond, hfin⟩ := bif_none hfin
     simp only [Bool.and_eq_true, Bool.not_eq_true'] at hcond
     have hout := Option.some.inj hfin
     have hnd := nodupB_spec hcond.1
     have hmt := meets_false hcond.2
     have hall : ∀ id ∈ R' ++ R, ∃ b, look (insAll ad σ.own) id = some b := by
      intro id hid
      rcases List.mem_append.1 hid with hid | hid
      ·exact (out_rel hR1 hfk (okA := fun _ => True) (B0 := B') (fun _ _ => trivial) S.ps 0 vs z B' R' h2 (fun _ h => h) l4 (fun j p v hp hv hpin => by
        obtain ⟨e, he, e1, e2, _⟩ := l5 j p v hp hv hpin
        have hpm : pid (0 + j) ∈ io.ids := by
         show pid (0 + j) ∈ f.X.pins
         rw [hpins]
         exact mem_pinIds S.ps 0 j p hp hpin
        obtain ⟨b, _, f2, _⟩ := hR1.fx _ hpm
        rw [f2]
        show valOf L (pid (0 + j)) = v
        rw [← e1, (ent_look hLids e he).2, e2])).2 id hid
      ·exact (resPs_rel hR1 (okA := fun _ => True) (B0 := B) (fun _ _ => trivial) S.rs rvs us y B R h1 (fun _ h => h) u1 u4).2 id hid
     have hA : ∀ g, okb w'.heap.size (insAll ad σ.own) E1 (B ++ B') g → okAfter ok w w' bl (((R'.flatMap fun id => oneBlk (E1 id))) ++ (R.flatMap fun id => oneBlk (E1 id))) g := by
      rintro g ⟨⟨g1, g2⟩, g3⟩
      refine ⟨g1, by rw [hR1.sc] at g2; exact g2, fun hm => ?_⟩
      rw [← List.flatMap_append] at hm
      obtain ⟨id, hid, hg⟩ := List.mem_flatMap.1 hm
      obtain ⟨b, hb⟩ := hall id hid
      exact g3 id (by rw [hb]; rfl) (fun hm => hmt id hm hid) (mem_oneBlk.1 hg)
     obtain ⟨q1, _⟩ := out_rel hR1 hfk hA S.ps 0 vs z B' R' h2 (fun _ h => List.mem_append.2 (.inr h)) l4 (fun j p v hp hv hpin => by
        obtain ⟨e, he, e1, e2, _⟩ := l5 j p v hp hv hpin
        have hpm : pid (0 + j) ∈ io.ids := by
         show pid (0 + j) ∈ f.X.pins
         rw [hpins]
         exact mem_pinIds S.ps 0 j p hp hpin
        obtain ⟨b, _, f2, _⟩ := hR1.fx _ hpm
        rw [f2]
        show valOf L (pid (0 + j)) = v
        rw [← e1, (ent_look hLids e he).2, e2])
     obtain ⟨q2, _⟩ := resPs_rel hR1 hA S.rs rvs us y B R h1 (fun _ h => List.mem_append.2 (.inl h)) u1 u4
     refine ⟨us, R'.flatMap fun id => oneBlk (E1 id), R.flatMap fun id => oneBlk (E1 id), rfl, ?_⟩
     refine ⟨⟨hR1.kept.os, hR1.kept.tape, hR1.kept.output, hR1.kept.size, hR1.kept.block⟩, ?_, ?_, ?_, ?_⟩
     ·rw [← hout]
      exact q1
     ·rw [← hout]
      exact q2
     ·rw [← List.flatMap_append]
      exact nodup_blks hR1 hnd hall
     ·intro g hg
      rw [← List.flatMap_append] at hg
      obtain ⟨id, hid, hg⟩ := List.mem_flatMap.1 hg
      obtain ⟨b, hb⟩ := hall id hid
      obtain ⟨k1, k2⟩ := hR1.blk id b hb g (mem_oneBlk.1 hg)
      exact ⟨k2.symm, k1⟩
    ·cases hfin
   refine ⟨fun σ a w' h1 h2 => ?_, fun i σ a w' h1 _ => (by cases h1), fun σ a w' h1 h2 => ?_⟩
   ·exact key σ a w' h1 h2
   ·exact key σ a w' h1 h2
  exact calls_of_wp hf hb (body_sound F hΦ hm rfl (nodupB_spec hocc) hcon hrun hrel)
def Fn.spec (f : Fn N) (ps : List PK) (rs : List RK) (n : Nat) : Spec N := ⟨ps, rs, HRes N.ρ rs × HOut N.ρ ps, f.run ps rs n, fun r => r, f.X.gh⟩
def Fn.specG (f : Fn N) (gh : Nat) (ps : List PK) (rs : List RK) (n : Nat) : Spec N := ⟨ps, rs, HRes N.ρ rs × HOut N.ρ ps, f.run ps rs n, fun r => r, gh⟩
def lookS : List (Nat × Spec N) → FuncId → Option (Spec N)
 | [], _ => none
 | (k, v) :: r, i => bif k == i then some v else lookS r i
inductive Goods (P : Program) : List (Nat × Spec N) → Prop
 | nil : Goods P []
 | cons' {k : Nat} {S : Spec N} {l : List (Nat × Spec N)} : Good P (k % 1000000) S → Goods P l → Goods P ((k, S) :: l)
theorem Goods.cons {P : Program} {j : Nat} {S : Spec N} {l : List (Nat × Spec N)} (h : Good P j S) (hl : Goods P l) (e : j = j % 1000000 := by rfl) : Goods P ((j, S) :: l) := .cons' (e ▸ h) hl
theorem Goods.consI {P : Program} (k : Nat) {j : Nat} {S : Spec N} {l : List (Nat × Spec N)} (h : Good P j S) (hl : Goods P l) (e : j = k % 1000000 := by rfl) : Goods P ((k, S) :: l) := .cons' (e ▸ h) hl
theorem Goods.look {P : Program} {l : List (Nat × Spec N)} (h : Goods P l) : ∀ f S, lookS l f = some S → Good P (f % 1000000) S := by
 induction h with
 | nil => intro f S hf; cases hf
 | @cons' k S' l hg _ ih =>
  intro f S hf
  simp only [lookS] at hf
  cases hk : (k == f) with
  | true =>
   rw [hk] at hf
   cases hf
   have : k = f := by simpa using hk
   rw [← this]
   exact hg
  | false =>
   rw [hk] at hf
   exact ih f S hf
theorem good_fn {f : Fn N} {ps : List PK} {rs : List RK} {k : Nat} {l : List (Nat × Spec N)} {τ : TypeId → Option TI} (F : Fits P N τ) (hτ : f.X.τ = τ) (hm : P.follows .mixedOrders = true) (hΦ : f.X.Φ = lookS l) (hg : Goods P l) {id : FuncId} {fn : Func} (hf : P.funcs[id]? = some fn) (hb : fn.body = some f.body) (hn : (fn.name == "runtime.NumGoroutine") = false)
  (hres : fn.results.toList = f.ds) (hl : Nat.ble f.ds.length 5 = true) (ht : fn.ntmps = f.ntmps) (hocc : nodupB (occ f.X f.body) = true)
  (hids : (nodupB (initIds 0 ps) && jsOk ps ps) = true) (hpins : f.X.pins = pinIds 0 ps) : Good P id (f.spec ps rs k) :=
 good_of (by rw [hτ]; exact F) hm (by rw [hΦ]; exact hg.look) hf hb hn hres (Nat.le_of_ble_eq_true hl) ht hocc _ rfl hids hpins (fun x r h => ⟨k, h⟩)
def specOf (ps : List PK) (rs : List RK) (gh : Nat) (g : HIn N.ρ ps → Option (HRes N.ρ rs × HOut N.ρ ps)) : Spec N := ⟨ps, rs, HRes N.ρ rs × HOut N.ρ ps, g, fun r => r, gh⟩
theorem good_none {id : FuncId} {fn : Func} {c : Code} (hf : P.funcs[id]? = some fn) (hb : fn.body = some c) (hn : (fn.name == "runtime.NumGoroutine") = false) (ps : List PK) (rs : List RK) (gh : Nat) : Good P id (specOf (N := N) ps rs gh fun _ => none) where
 enter w args := callFunc_enter hf hb hn w args
 calls w ok x vs bl r _ _ _ _ hr := by cases hr
theorem good_rec {f : Fn N} {ps : List PK} {rs : List RK} {k : Nat} {g : HIn N.ρ ps → Option (HRes N.ρ rs × HOut N.ρ ps)} {id : FuncId} (h : Good P id (f.spec ps rs k)) (he : ∀ x, g x = f.run ps rs k x) : Good P id (specOf ps rs f.X.gh g) := by
 have : g = f.run ps rs k := funext he
 subst this
 exact h
end Go.Eng
