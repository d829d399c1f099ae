/- The engine, part L: loads, cuts, conversions, lengths. -/
import Derived.Test.YtgfklnmckakclaaGreatDoorEngK
import Derived.Lib.ConvBytes
import Derived.Laws.BytesArg
set_option linter.unusedVariables false
set_option linter.unusedSimpArgs false
namespace Go.Eng
variable {N : Names} {P : Program} {τ : TypeId → Option TI} {β : Type}

theorem okb_more {H : Nat} {own : List (Nat × Blk N)} {E : Env} {bs bs' : List Nat} (hs : ∀ i ∈ bs, i ∈ bs') {b : Nat} (h : okb H own E bs b) : okb H own E bs' b :=
  ⟨h.1, fun j hj hjb => h.2 j hj (fun hm => hjb (hs j hm))⟩

theorem Rep_more {w : World} {own : List (Nat × Blk N)} {E : Env} {bs bs' : List Nat} (hs : ∀ i ∈ bs, i ∈ bs') {t : Ty} {x : t.den N.ρ} {cs : List Value} (h : Rep w (okb w.heap.size own E bs) t x cs) : Rep w (okb w.heap.size own E bs') t x cs :=
  Rep_mono (fun _ _ _ h => h) (fun _ hb => okb_more hs hb) h
theorem RepLL_more {w : World} {own : List (Nat × Blk N)} {E : Env} {bs bs' : List Nat} (hs : ∀ i ∈ bs, i ∈ bs') {ts : List Ty} {x : HL N.ρ ts} {cs : List Value} (h : RepL w (okb w.heap.size own E bs) (RepN w (okb w.heap.size own E bs)) ts x cs) :
    RepL w (okb w.heap.size own E bs') (RepN w (okb w.heap.size own E bs')) ts x cs :=
  RepLL_mono (fun _ _ _ h => h) (fun _ hb => okb_more hs hb) h

/-- A struct put together out of its cells. -/
def implL (g : (t : Ty) → List (RV N) → Option (t.den N.ρ × List Nat)) : (ts : List Ty) → List (RV N) → Option (HL N.ρ ts × List Nat)
  | [], [] => some ((), [])
  | [], _ => none
  | t :: ts, l => match g t (l.take (N.sz t)), implL g ts (l.drop (N.sz t)) with
    | some p, some q => some ((p.1, q.1), p.2 ++ q.2)
    | _, _ => none

def oneDen (own : List (Nat × Blk N)) (t : Ty) (l : List (RV N)) : Option (t.den N.ρ × List Nat) :=
  match l with
  | [r] => toDen own t r
  | _ => none

def impl (own : List (Nat × Blk N)) : Nat → (t : Ty) → List (RV N) → Option (t.den N.ρ × List Nat)
  | 0, _, _ => none
  | f + 1, .nm n, l => (implL (impl own f) (N.body n) l).map fun p => (N.re n p.1, p.2)
  | _ + 1, t, l => oneDen own t l

theorem implL_rel {w : World} {own : List (Nat × Blk N)} {E : Env} {g : (t : Ty) → List (RV N) → Option (t.den N.ρ × List Nat)}
    (hg : ∀ (t : Ty) (l : List (RV N)) x bs (vs : List Value), g t l = some (x, bs) → vs.length = l.length → (∀ (i : Nat) r u, l[i]? = some r → vs[i]? = some u → RVRel w own E r u) → Rep w (okb w.heap.size own E bs) t x vs) :
    ∀ (ts : List Ty) (l : List (RV N)) (x : HL N.ρ ts) (bs : List Nat) (vs : List Value), implL g ts l = some (x, bs) → vs.length = l.length → (∀ (i : Nat) r u, l[i]? = some r → vs[i]? = some u → RVRel w own E r u) →
      RepL w (okb w.heap.size own E bs) (RepN w (okb w.heap.size own E bs)) ts x vs
  | [], l, x, bs, vs, h, hl, hr => by
    cases l with
    | nil => exact List.eq_nil_of_length_eq_zero hl
    | cons r l => cases h
  | t :: ts, l, x, bs, vs, h, hl, hr => by
    simp only [implL] at h
    split at h
    · rename_i p q hp hq
      cases h
      refine ⟨vs.take (N.sz t), vs.drop (N.sz t), (List.take_append_drop _ _).symm, ?_, ?_⟩
      · refine Rep_more (fun i hi => List.mem_append.2 (.inl hi)) (hg t _ p.1 p.2 _ hp (by simp [hl]) (fun i r u hi hu => ?_))
        rw [List.getElem?_take] at hi hu
        split at hi
        · rename_i hlt
          rw [if_pos hlt] at hu
          exact hr i r u hi hu
        · cases hi
      · refine RepLL_more (fun i hi => List.mem_append.2 (.inr hi)) (implL_rel hg ts _ q.1 q.2 _ hq (by simp [hl]) (fun i r u hi hu => ?_))
        rw [List.getElem?_drop] at hi hu
        exact hr _ r u hi hu
    · cases h

theorem RelE.impl {io : Io} {w0 w : World} {σ : St N} {E : Env} {a : Act} (h : RelE io w0 σ E a w) : ∀ (f : Nat) (t : Ty) (l : List (RV N)) x bs (vs : List Value), impl σ.own f t l = some (x, bs) → vs.length = l.length →
    (∀ (i : Nat) r u, l[i]? = some r → vs[i]? = some u → RVRel w σ.own E r u) → Rep w (okb w.heap.size σ.own E bs) t x vs := by
  intro f
  have flat : ∀ (t : Ty), (∀ n, t ≠ .nm n) → ∀ (l : List (RV N)) x bs (vs : List Value), oneDen σ.own t l = some (x, bs) → vs.length = l.length →
      (∀ (i : Nat) r u, l[i]? = some r → vs[i]? = some u → RVRel w σ.own E r u) → Rep w (okb w.heap.size σ.own E bs) t x vs := by
    intro t hn l x bs vs hi hl hr
    unfold oneDen at hi
    split at hi
    · rename_i r
      match vs, hl with
      | [u], _ =>
        obtain ⟨cs, k1, k2⟩ := h.toDen hi (hr 0 r u rfl rfl)
        have := AsV_ty k1 hn k2
        rw [← this]
        exact k1
    · cases hi
  induction f with
  | zero => intro t l x bs vs hi; cases hi
  | succ f ih =>
    intro t l x bs vs hi hl hr
    cases t with
    | nm n =>
      simp only [Eng.impl, Option.map_eq_some_iff] at hi
      obtain ⟨p, hp, hq⟩ := hi
      cases hq
      refine RepN_close ?_
      rw [N.un_re]
      exact implL_rel ih (N.body n) l p.1 p.2 vs hp hl hr
    | _ => exact flat _ (fun n hn => by cases hn) l x bs vs hi hl hr

def evLoad (τ : TypeId → Option TI) (own : List (Nat × Blk N)) (t : TypeId) (x : RV N) (k : KK N β) : Option β :=
  match τ t with
  | some ⟨ty, _⟩ => match x with
    | .sptr t' v bs => match subAt ty 8 t' v 0 with
      | some y => k (.one (ofDen ty y bs)) []
      | none => none
    | .optr id i off => match look own id with
      | some (.row _ e xs bs _) => match subAt ty 8 e (xs.getD i (N.dflt e)) off with
        | some y => k (.one (ofDen ty y bs)) []
        | none => none
      | _ => none
    | .bptr id off => match look own id with
      | some (.whole t' v bs) => match subAt ty 8 t' v off with
        | some y => k (.one (ofDen ty y bs)) []
        | none => none
      | some (.cells l) => match ty with
        | .nm n => match impl own 8 (.nm n) ((l.drop off).take (N.size n)) with
          | some (y, bs) => k (.one (.data (.nm n) y bs)) []
          | none => none
        | _ => match l[off]? with
          | some r => k (.one r) []
          | none => none
      | _ => none
    | _ => none
  | none => none

/-- The cells of a box of the call's own. -/
theorem RelE.box {io : Io} {w0 w : World} {σ : St N} {E : Env} {a : Act} (h : RelE io w0 σ E a w) {id g : Nat} {T : TypeId} {arr : Array Value} (hg : w.heap[g]? = some (.cells arr T (0, 0))) (off : Nat) :
    ∀ (j : Nat) u, ((arr.toList.drop off))[j]? = some u → w.cell? ((⟨g, off, none⟩ : Addr).add j) = some u := by
  intro j u hu
  rw [add_lit', cell_of_row w g _ arr T (0, 0) hg]
  rw [List.getElem?_drop] at hu
  simpa using hu

theorem evLoad_sound (F : Fits P N τ) {σ : St N} {t : TypeId} {x : Operand} {k : KK N β} {r : β} (h : evLoad τ σ.own t (ev σ x) k = some r) :
    ∃ s ad, k s ad = some r ∧ Does P σ (fun a => Instr.loadAt t (a.eval x)) s ad := by
  unfold evLoad at h
  split at h
  · rename_i ty e hτ
    split at h
    · rename_i t' v bs hx
      split at h
      · rename_i y hy
        refine ⟨_, _, h, Does.pure fun io w0 E a w hr => ?_⟩
        have hx' := hr.ev x
        rw [hx] at hx'
        obtain ⟨ad, cs, h1, h2, h3, h4⟩ := hx'
        obtain ⟨k1, k2⟩ := subAt_rep 8 t' v 0 y cs hy h3
        obtain ⟨u, p1, p2⟩ := F.load hτ (w := w) (ad := ad) k1 (fun j u hu => h4 j u (by have := take_drop_get hu; simpa using this))
        exact ⟨u, by rw [h1]; exact p1, ofDen_rel k1 p2⟩
      · cases h
    · rename_i id i off hx
      split at h
      · rename_i e' ty' xs bs p hl
        split at h
        · rename_i y hy
          refine ⟨_, _, h, Does.pure fun io w0 E a w hr => ?_⟩
          have hx' := hr.ev x
          rw [hx] at hx'
          obtain ⟨g, cap, n, t', ⟨e2, xs2, bs2, p2, q1, q2⟩, h2, h3, h4⟩ := hx'
          rw [hl] at q1
          cases q1
          obtain ⟨cells, c1, c2⟩ := hr.own id _ hl
          have hlt : i < xs.length := by omega
          obtain ⟨ccs, d1, d2, d3⟩ := RowC_get (fun x cs hx => Rep_length hx) c2 i xs[i] (List.getElem?_eq_getElem hlt)
          rw [List.getD_eq_getElem?_getD, List.getElem?_eq_getElem hlt] at hy
          obtain ⟨k1, k2⟩ := subAt_rep 8 ty' _ off y ccs hy d1
          rcases c1.2 with ⟨hv, hn⟩ | ⟨g', cap', cur, hv, _, hg, _, _, _, ht⟩
          · rw [h3] at hv; cases hv
          · rw [h3] at hv
            simp only [Value.slice.injEq, Option.some.injEq, Addr.mk.injEq] at hv
            obtain ⟨⟨rfl, _⟩, _, rfl⟩ := hv
            obtain ⟨u, p1, p2⟩ := F.load hτ (w := w) (ad := ⟨g, i * N.sz ty' + off, none⟩) k1 (fun j u hu => by
              have h5 := take_drop_get hu
              rw [← d2] at h5
              have h6 := take_drop_get h5
              rw [← ht, List.getElem?_take] at h6
              split at h6
              · rw [add_lit', cell_of_row w g _ cur e' (0, 0) hg, show i * N.sz ty' + off + j = i * N.sz ty' + (off + j) from by omega]
                simpa using h6
              · cases h6)
            exact ⟨u, by rw [h4]; exact p1, ofDen_rel k1 p2⟩
        · cases h
      · cases h
    · rename_i id off hx
      split at h
      · rename_i t' v bs hl
        split at h
        · rename_i y hy
          refine ⟨_, _, h, Does.pure fun io w0 E a w hr => ?_⟩
          have hx' := hr.ev x
          rw [hx] at hx'
          obtain ⟨h1, g, h2, h3⟩ := hx'
          obtain ⟨g', T, arr, c1, c2, c3⟩ := hr.own id _ hl
          rw [h2] at c1
          cases c1
          obtain ⟨k1, k2⟩ := subAt_rep 8 t' v off y _ hy c3
          obtain ⟨u, p1, p2⟩ := F.load hτ (w := w) (ad := ⟨g, off, none⟩) k1 (fun j u hu => hr.box (id := id) c2 off j u (by rw [List.getElem?_take] at hu; split at hu; exact hu; cases hu))
          exact ⟨u, by rw [h3]; exact p1, ofDen_rel k1 p2⟩
        · cases h
      · rename_i l hl
        have hbox : ∀ {io w0 E a w}, RelE io w0 σ E a w → ∃ g T arr, a.eval x = .pointer (some ⟨g, off, none⟩) ∧ w.heap[g]? = some (.cells arr T (0, 0)) ∧ arr.size = l.length ∧ ∀ (i : Nat) r u, l[i]? = some r → arr[i]? = some u → RVRel w σ.own E r u := by
          intro io w0 E a w hr
          have hx' := hr.ev x
          rw [hx] at hx'
          obtain ⟨h1, g, h2, h3⟩ := hx'
          obtain ⟨g', T, arr, c1, c2, c3, c4⟩ := hr.own id _ hl
          rw [h2] at c1
          cases c1
          exact ⟨g, T, arr, h3, c2, c3, c4⟩
        split at h
        · rename_i n
          split at h
          · rename_i y bs hy
            refine ⟨_, _, h, Does.pure fun io w0 E a w hr => ?_⟩
            obtain ⟨g, T, arr, h3, c2, c3, c4⟩ := hbox hr
            have k1 : Rep w (okb w.heap.size σ.own E bs) (.nm n) y ((arr.toList.drop off).take (N.size n)) := hr.impl 8 (.nm n) _ y bs _ hy (by simp [c3]) (fun i r u hi hu => by
              rw [List.getElem?_take] at hi hu
              split at hi
              · rename_i hlt
                rw [if_pos hlt, List.getElem?_drop] at hu
                rw [List.getElem?_drop] at hi
                exact c4 _ r u hi (by simpa using hu)
              · cases hi)
            obtain ⟨u, p1, p2⟩ := F.load hτ (w := w) (ad := ⟨g, off, none⟩) k1 (fun j u hu => hr.box (id := id) c2 off j u (by rw [List.getElem?_take] at hu; split at hu; exact hu; cases hu))
            exact ⟨u, by rw [h3]; exact p1, _, k1, p2⟩
          · cases h
        · rename_i hnn
          split at h
          · rename_i r' hr'
            refine ⟨_, _, h, Does.pure fun io w0 E a w hr => ?_⟩
            obtain ⟨g, T, arr, h3, c2, c3, c4⟩ := hbox hr
            have hlt : off < arr.size := by rw [c3]; exact (List.getElem?_eq_some_iff.1 hr').1
            have hc : w.cell? ⟨g, off, none⟩ = some arr[off] := by rw [cell_of_row w g _ arr T (0, 0) c2]; simp [hlt]
            have ha : (isAgg t).run P w = .ok false w := by
              have := F.isAgg hτ w
              cases ty with
              | nm n => exact absurd rfl (hnn n)
              | _ => exact this
            refine ⟨arr[off], ?_, c4 off r' _ hr' (by simp [hlt])⟩
            rw [h3]
            simp [Instr.loadAt, Instr.sureAddr, loadVar, ha, Go.load, Sem.run, hc]
          · cases h
      · cases h
    · cases h
  · cases h

end Go.Eng
