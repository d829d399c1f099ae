/- The engine, part H: operands; a value read at a type. -/
import Derived.Test.YtgfklnmckakclaaGreatDoorEngG
set_option linter.unusedVariables false
set_option linter.unusedSimpArgs false
namespace Go.Eng
variable {N : Names} {io : Io} {w0 w w' : World} {σ : St N} {E : Env} {a : Act}

theorem RelE.slot (h : RelE io w0 σ E a w) (t : Nat) : SlotRel w σ.own E (σ.reg t) (a.tmps.getD t undef) := by
  unfold St.reg
  rw [List.getD_eq_getElem?_getD]
  cases hs : σ.regs[t]? with
  | none => trivial
  | some s => exact h.regs t s hs

theorem RelE.ev (h : RelE io w0 σ E a w) (x : Operand) : RVRel w σ.own E (ev σ x) (a.eval x) := by
  unfold Eng.ev
  split
  · rename_i t
    have := h.slot t
    split
    · rename_i r hr
      rw [hr] at this
      exact this
    · trivial
  · rfl
  · rfl
  · exact ⟨_, rfl, rfl⟩
  · rfl
  · trivial
  · trivial
  · exact ⟨rfl, fun _ h => by cases h⟩

theorem ofDen_rel {own : List (Nat × Blk N)} {t : Ty} {x : t.den N.ρ} {bs : List Nat} {cs : List Value} {v : Value} (hr : Rep w (okb w.heap.size own E bs) t x cs) (hv : AsV t v cs) : RVRel w own E (ofDen t x bs) v := by
  cases t with
  | int k =>
    have h1 : cs = [.int k x] := hr
    have h2 : cs = [v] := hv
    rw [h1] at h2
    exact (List.cons.inj h2).1.symm
  | bool =>
    have h1 : cs = [.bool x] := hr
    have h2 : cs = [v] := hv
    rw [h1] at h2
    exact (List.cons.inj h2).1.symm
  | str =>
    obtain ⟨s, h1, h3⟩ := hr
    have h2 : cs = [v] := hv
    rw [h1] at h2
    exact ⟨s, (List.cons.inj h2).1.symm, h3⟩
  | sl e => exact ⟨cs, hr, hv⟩
  | nm n => exact ⟨cs, hr, hv⟩
  | opq => trivial

theorem RowC_get {α : Type} {R : α → List Value → Prop} {sz : Nat} (hl : ∀ x cs, R x cs → cs.length = sz) : ∀ {xs : List α} {cells : List Value}, RowC R xs cells → ∀ (i : Nat) x, xs[i]? = some x →
    ∃ ccs, R x ccs ∧ (cells.drop (i * sz)).take sz = ccs ∧ (i + 1) * sz ≤ cells.length
  | [], _, _, i, x, hx => by simp at hx
  | y :: ys, cells, ⟨c1, c2, e, h1, h2⟩, 0, x, hx => by
    simp at hx
    subst hx
    subst e
    have := hl y c1 h1
    exact ⟨c1, h1, by rw [Nat.zero_mul, List.drop_zero, List.take_append_of_le_length (by omega), List.take_of_length_le (by omega)], by rw [List.length_append]; omega⟩
  | y :: ys, cells, ⟨c1, c2, e, h1, h2⟩, i + 1, x, hx => by
    subst e
    have hc1 := hl y c1 h1
    obtain ⟨ccs, k1, k2, k3⟩ := RowC_get hl h2 i x (by simpa using hx)
    have hm : (i + 1) * sz = sz + i * sz := by rw [Nat.add_mul, Nat.one_mul, Nat.add_comm]
    have hm2 : (i + 1 + 1) * sz = sz + (i + 1) * sz := by rw [Nat.add_mul (i + 1), Nat.one_mul, Nat.add_comm]
    refine ⟨ccs, k1, ?_, by rw [List.length_append]; omega⟩
    rw [List.drop_append, List.drop_eq_nil_of_le (by omega), List.nil_append, hc1, hm, Nat.add_sub_cancel_left]
    exact k2

theorem RowC_length {α : Type} {R : α → List Value → Prop} {sz : Nat} (hl : ∀ x cs, R x cs → cs.length = sz) : ∀ {xs : List α} {cells : List Value}, RowC R xs cells → cells.length = xs.length * sz
  | [], _, h => by rw [h]; simp
  | y :: ys, cells, ⟨c1, c2, e, h1, h2⟩ => by
    subst e
    rw [List.length_append, hl y c1 h1, RowC_length hl h2, List.length_cons, Nat.add_mul, Nat.one_mul, Nat.add_comm]

theorem take_drop_get {cs : List Value} {o n j : Nat} {u : Value} (h : ((cs.drop o).take n)[j]? = some u) : cs[o + j]? = some u := by
  rw [List.getElem?_take] at h
  split at h
  · rwa [List.getElem?_drop] at h
  · cases h

/-- A row of the call's own, read as a slice. -/
theorem RelE.rowRep (h : RelE io w0 σ E a w) {id : Nat} {e : TypeId} {t : Ty} {xs : List (t.den N.ρ)} {bs : List Nat} {p : Bool} (hb : look σ.own id = some (.row e t xs bs p)) :
    Rep w (okb w.heap.size σ.own E (id :: bs)) (.sl t) xs [E id] ∧ ∃ A cap, E id = .slice A xs.length cap := by
  obtain ⟨cells, h1, h2⟩ := h.own id _ hb
  have hlen := RowC_length (fun x cs hx => Rep_length hx) h2
  rcases h1.2 with ⟨hv, hn⟩ | ⟨g, cap, cur, hv, _, hg, hnc, hcm, hcs, ht⟩
  · refine ⟨⟨none, 0, by rw [hv, hn], by omega, fun _ => rfl, fun i x hx => ?_⟩, none, 0, by rw [hv, hn]⟩
    rw [List.eq_nil_of_length_eq_zero hn] at hx
    simp at hx
  · refine ⟨⟨some ⟨g, 0, none⟩, cap, by rw [hv], hnc, (fun h => by cases h), fun i x hx => ?_⟩, _, cap, hv⟩
    obtain ⟨ccs, k1, k2, k3⟩ := RowC_get (fun x cs hx => Rep_length hx) h2 i x hx
    have hblk : blkOf (E id) = some g := by rw [hv]; rfl
    refine ⟨⟨g, 0, none⟩, ccs, rfl, ⟨⟨(h.blk id _ hb g hblk).1, by rw [h.sc]; exact h.nw g (h.blk id _ hb g hblk).2⟩, fun j hj hjb => ?_⟩, ?_, fun j u hu => ?_⟩
    · intro hg2
      obtain ⟨bj, hbj⟩ := Option.isSome_iff_exists.1 hj
      have hne : id ≠ j := fun e => hjb (by rw [e]; exact List.mem_cons_self)
      exact h.sep id j _ bj hb hbj hne g hblk hg2
    · exact Rep_mono (fun _ _ _ h => h) (fun b hb => ⟨hb.1, fun j hj hjb => hb.2 j hj (fun hm => hjb (List.mem_cons_of_mem _ hm))⟩) k1
    · rw [← k2] at hu
      have h3 := take_drop_get hu
      rw [← ht, List.getElem?_take] at h3
      split at h3
      · have hadd : (⟨g, 0, none⟩ : Addr).add (i * N.sz t + j) = ⟨g, i * N.sz t + j, none⟩ := by unfold Addr.add; split <;> simp_all
        rw [hadd, cell_of_row w g _ cur e (0, 0) hg]
        simpa using h3
      · cases h3

/-- A value read at a type. -/
theorem RelE.toDen (h : RelE io w0 σ E a w) {t : Ty} {r : RV N} {v : Value} {x : t.den N.ρ} {bs : List Nat} (hd : toDen σ.own t r = some (x, bs)) (hr : RVRel w σ.own E r v) :
    ∃ cs, Rep w (okb w.heap.size σ.own E bs) t x cs ∧ AsV t v cs := by
  have cast : ∀ (t' : Ty) (x' : t'.den N.ρ) (bs' : List Nat) cs, (castTy N t' t x').map (fun y => (y, bs')) = some (x, bs) → Rep w (okb w.heap.size σ.own E bs') t' x' cs → AsV t' v cs → ∃ cs, Rep w (okb w.heap.size σ.own E bs) t x cs ∧ AsV t v cs := by
    intro t' x' bs' cs hc hrep hv
    obtain ⟨y, hy, hp⟩ := Option.map_eq_some_iff.1 hc
    cases hp
    obtain ⟨e, rfl⟩ := castTy_some hy
    subst e
    exact ⟨cs, hrep, hv⟩
  cases r with
  | undef => cases hd
  | nil =>
    cases t with
    | sl e =>
      cases hd
      exact ⟨[v], ⟨none, 0, by rw [show v = _ from hr]; rfl, Nat.le_refl _, fun _ => rfl, fun i x hx => by simp at hx⟩, rfl⟩
    | _ => cases hd
  | int k n => exact cast (.int k) n [] [v] hd (by rw [show v = _ from hr]; rfl) rfl
  | bool b => exact cast .bool b [] [v] hd (by rw [show v = _ from hr]; rfl) rfl
  | str l =>
    obtain ⟨s, hv, hs⟩ := hr
    exact cast .str l [] [v] hd ⟨s, by rw [hv], hs⟩ rfl
  | data t' x' bs' =>
    obtain ⟨cs, h1, h2⟩ := hr
    exact cast t' x' bs' cs hd h1 h2
  | own id =>
    simp only [Eng.toDen] at hd
    split at hd
    · rename_i e t' xs bs' p hl
      obtain ⟨h1, h2⟩ := hr
      obtain ⟨h3, _⟩ := h.rowRep hl
      rw [← h1] at h3
      exact cast (.sl t') xs (id :: bs') [v] hd h3 rfl
    · cases hd
  | bptr id off => cases hd
  | sptr t x bs => cases hd
  | optr id i off => cases hd
  | fn f caps => cases hd
  | mp id => cases hd

end Go.Eng
