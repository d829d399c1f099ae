/- The engine, part O: new boxes and rows. -/
import Derived.Test.YtgfklnmckakclaaGreatDoorEngN
import Derived.Laws.OwnMore
import Derived.Laws.MakeOwn
import Derived.Maps.AppendAt
set_option linter.unusedVariables false
set_option linter.unusedSimpArgs false
namespace Go.Eng
variable {N : Names} {P : Program} {τ : TypeId → Option TI} {β : Type}

theorem Ext.alloc (w : World) (o : Obj) : Ext w (w.alloc o) :=
  ⟨rfl, rfl, rfl, by simp, fun g hg => RowKit.Below.heap_alloc w o g hg⟩
theorem Ext.trans {a b c : World} (h : Ext a b) (k : Ext b c) : Ext a c :=
  ⟨k.os.trans h.os, k.tape.trans h.tape, k.output.trans h.output, Nat.le_trans h.size k.size, fun g hg => (k.block g (Nat.lt_of_lt_of_le hg h.size)).trans (h.block g hg)⟩
theorem Ext.grown {w w' : World} (h : w.grownBy w' none) : Ext w w' :=
  ⟨h.os, h.tape, h.output, h.size, fun g hg => h.block g hg (by simp)⟩

theorem run_newVar (w : World) (t : TypeId) (v : Value) : (newVar t v).run P w = .ok ⟨w.heap.size, 0, none⟩ (w.alloc (.cells v.cells t)) := by
  simp [newVar, newRow]

/-- What is in the old world stands behind a new block. -/
theorem Rep_new {w w' : World} {own : List (Nat × Blk N)} {E : Env} {id : Nat} {b : Blk N} {V : Value} (he : Ext w w') (hV : ∀ g, blkOf V = some g → w.heap.size ≤ g) {bs : List Nat} {t : Ty} {x : t.den N.ρ} {cs : List Value}
    (h : Rep w (okb w.heap.size own E bs) t x cs) : Rep w' (okb w'.heap.size (ins id b own) (updE E id V) bs) t x cs :=
  Rep_mono (fun _ _ _ hc => he.cell hc) (fun _ hb => okb_ins he.size hV hb) h

/-- What can lie in one cell and is not a value of a told type. -/
def loose : RV N → Bool
  | .own _ => true
  | .fn _ _ => true
  | .bptr _ _ => true
  | _ => false

theorem loose_cells {w : World} {own : List (Nat × Blk N)} {E : Env} {r : RV N} {v : Value} (hl : loose r = true) (hr : RVRel w own E r v) (hE : ∀ id, (∃ n t, isRow own id n t) → (E id).cells = #[E id]) : v.cells = #[v] := by
  cases r <;> try (cases hl; done)
  case own id => obtain ⟨rfl, h⟩ := hr; exact hE id h
  case fn f caps => rw [hr.1]; rfl
  case bptr id off => obtain ⟨_, g, _, rfl⟩ := hr; rfl

theorem RelE.rowVal {io : Io} {w0 w : World} {σ : St N} {E : Env} {a : Act} (h : RelE io w0 σ E a w) (id : Nat) (hr : ∃ n t, isRow σ.own id n t) : (E id).cells = #[E id] := by
  obtain ⟨n, t, e, xs, bs, p, h1, _⟩ := hr
  obtain ⟨_, A, cap, hv⟩ := h.rowRep h1
  rw [hv]
  rfl

def evBox (τ : TypeId → Option TI) (own : List (Nat × Blk N)) (t : TypeId) (dst : Option Nat) (r : RV N) (k : KK N β) : Option β :=
  match dst with
  | none => none
  | some d => match look own (1000 + d) with
    | some _ => none
    | none => bif loose r then k (.one (.bptr (1000 + d) 0)) [(1000 + d, .cells [r])] else match τ t with
      | some ⟨ty, _⟩ => match toDen own ty r with
        | some (x, bs) => k (.one (.bptr (1000 + d) 0)) [(1000 + d, .whole ty x bs)]
        | none => none
      | none => none

theorem evBox_sound (F : Fits P N τ) {σ : St N} {t : TypeId} {dst : Option Nat} {x : Operand} {k : KK N β} {r : β} (h : evBox τ σ.own t dst (ev σ x) k = some r) :
    ∃ s ad, k s ad = some r ∧ Does P σ (fun a => Instr.box t (a.eval x)) s ad := by
  unfold evBox at h
  split at h
  · cases h
  · rename_i d
    split at h
    · cases h
    · rename_i hl
      have hrun : ∀ (a : Act) (w : World), (Instr.box t (a.eval x)).run P w = .ok (.pointer (some ⟨w.heap.size, 0, none⟩)) (w.alloc (.cells (a.eval x).cells t)) := by
        intro a w
        simp only [Instr.box, Sem.run_bind, run_newVar, Result.andThen_ok, Sem.run_pure]
      have hVg : ∀ w : World, ∀ o : Obj, ∀ g, blkOf (.pointer (some ⟨w.heap.size, 0, none⟩)) = some g → w.heap.size ≤ g ∧ g < (w.alloc o).heap.size := by
        intro w o g hg
        cases hg
        exact ⟨Nat.le_refl _, by simp⟩
      cases hlo : loose (ev σ x) with
      | true =>
        rw [hlo] at h
        refine ⟨_, _, h, fun io w0 E a w hr => ?_⟩
        have hx := hr.ev x
        have hc := loose_cells hlo hx hr.rowVal
        have he := Ext.alloc w (.cells (a.eval x).cells t)
        have hadd := hr.add he (V := .pointer (some ⟨w.heap.size, 0, none⟩)) (b := .cells [ev σ x]) hl (hVg w _) ⟨w.heap.size, t, (a.eval x).cells, updE_same _ _ _, heap_alloc_new w _, by rw [hc]; rfl, fun i r u hi hu => by
          match i, hi with
          | 0, hi =>
            rw [hc] at hu
            simp only [List.getElem?_cons_zero, Option.some.injEq] at hi
            subst hi
            have : a.eval x = u := by simpa using hu
            subst this
            exact RVRel_ins he hl (fun g hg => (hVg w (.cells #[] t) g hg).1) hx⟩
        exact ⟨_, _, _, hrun a w, hadd, .inr (.inl ⟨_, by rw [show insAll [(1000 + d, Blk.cells [ev σ x])] σ.own = ins _ _ σ.own from rfl, look_ins, if_pos rfl]⟩), w.heap.size, updE_same _ _ _, rfl⟩
      | false =>
        rw [hlo] at h
        simp only [cond_false] at h
        split at h
        · rename_i ty e hτ
          split at h
          · rename_i y bs hy
            refine ⟨_, _, h, fun io w0 E a w hr => ?_⟩
            obtain ⟨cs, h1, h2⟩ := hr.toDen hy (hr.ev x)
            have hc := AsV_cells h1 h2
            have he := Ext.alloc w (.cells (a.eval x).cells t)
            have hadd := hr.add he (V := .pointer (some ⟨w.heap.size, 0, none⟩)) (b := .whole ty y bs) hl (hVg w _) ⟨w.heap.size, t, (a.eval x).cells, updE_same _ _ _, heap_alloc_new w _, by
              rw [hc]
              exact Rep_new he (fun g hg => (hVg w (.cells #[] t) g hg).1) h1⟩
            exact ⟨_, _, _, hrun a w, hadd, .inl ⟨_, _, _, by rw [show insAll [(1000 + d, Blk.whole ty y bs)] σ.own = ins _ _ σ.own from rfl, look_ins, if_pos rfl]⟩, w.heap.size, updE_same _ _ _, rfl⟩
          · cases h
        · cases h

def evAlloc (τ : TypeId → Option TI) (own : List (Nat × Blk N)) (t : TypeId) (dst : Option Nat) (k : KK N β) : Option β :=
  match dst with
  | none => none
  | some d => match look own (1000 + d) with
    | some _ => none
    | none => match τ t with
      | some ⟨.sl e, el⟩ => match look own (2000 + d) with
        | some _ => none
        | none => k (.one (.bptr (1000 + d) 0)) [(1000 + d, .cells [.own (2000 + d)]), (2000 + d, .row el e [] [] false)]
      | some ⟨.opq, _⟩ => k (.one (.bptr (1000 + d) 0)) [(1000 + d, .cells [.undef])]
      | some ⟨ty, _⟩ => k (.one (.bptr (1000 + d) 0)) [(1000 + d, .whole ty (N.dflt ty) [])]
      | none => none

theorem run_alloc (F : Fits P N τ) {t : TypeId} {ty : Ty} {e : TypeId} (hτ : τ t = some ⟨ty, e⟩) (w : World) : ∃ zc : Array Value, (Instr.alloc t true (.tuple #[])).run P w = .ok (.pointer (some ⟨w.heap.size, 0, none⟩)) (w.alloc (.cells zc t)) ∧ (∀ w ok, Rep w ok ty (N.dflt ty) zc.toList) ∧ zc.size = N.sz ty := by
  obtain ⟨i, z, zc, h1, h2, h3, h4, h5, h6, h7⟩ := F.info hτ
  refine ⟨zc, ?_, h7, ?_⟩
  · subst h5
    simp only [Instr.alloc, zeroValue, typeInfo, Sem.run_bind, run_program, h1, h2, Result.andThen_ok, Sem.run_pure, run_newVar]
  · have := Rep_length (h7 w (fun _ => True))
    simpa using this

theorem evAlloc_sound (F : Fits P N τ) {σ : St N} {t : TypeId} {dst : Option Nat} {k : KK N β} {r : β} (h : evAlloc τ σ.own t dst k = some r) :
    ∃ s ad, k s ad = some r ∧ Does P σ (fun a => Instr.alloc t true (.tuple #[])) s ad := by
  unfold evAlloc at h
  split at h
  · cases h
  · rename_i d
    split at h
    · cases h
    · rename_i hl
      have hVg : ∀ w : World, ∀ o : Obj, ∀ g, blkOf (.pointer (some ⟨w.heap.size, 0, none⟩)) = some g → w.heap.size ≤ g ∧ g < (w.alloc o).heap.size := by
        intro w o g hg
        cases hg
        exact ⟨Nat.le_refl _, by simp⟩
      have hwhole : ∀ ty e, τ t = some ⟨ty, e⟩ → k (.one (.bptr (1000 + d) 0)) [(1000 + d, .whole ty (N.dflt ty) [])] = some r → ∃ s ad, k s ad = some r ∧ Does P σ (fun a => Instr.alloc t true (.tuple #[])) s ad := by
        intro ty e hτ h
        refine ⟨_, _, h, fun io w0 E a w hr => ?_⟩
        obtain ⟨zc, z1, z2, z3⟩ := run_alloc F hτ w
        have he := Ext.alloc w (.cells zc t)
        have hadd := hr.add he (V := .pointer (some ⟨w.heap.size, 0, none⟩)) (b := .whole ty (N.dflt ty) []) hl (hVg w _) ⟨w.heap.size, t, zc, updE_same _ _ _, heap_alloc_new w _, z2 _ _⟩
        exact ⟨_, _, _, z1, hadd, .inl ⟨_, _, _, by rw [show insAll [(1000 + d, Blk.whole ty (N.dflt ty) [])] σ.own = ins _ _ σ.own from rfl, look_ins, if_pos rfl]⟩, w.heap.size, updE_same _ _ _, rfl⟩
      split at h
      · rename_i e el hτ
        split at h
        · cases h
        · rename_i hl2
          refine ⟨_, _, h, fun io w0 E a w hr => ?_⟩
          obtain ⟨zc, z1, z2, z3⟩ := run_alloc F hτ w
          have he := Ext.alloc w (.cells zc t)
          -- the row first: nil, no block
          have hadd1 := hr.add (Ext.refl w) (V := .slice none 0 0) (b := .row el e [] [] false) hl2 (fun g hg => by cases hg) ⟨[], by rw [updE_same]; exact ⟨by simp, .inl ⟨rfl, rfl⟩⟩, rfl⟩
          have hl' : look (ins (2000 + d) (Blk.row el e [] [] false) σ.own) (1000 + d) = none := by
            rw [look_ins, if_neg (by omega)]
            exact hl
          have hzc : zc = #[.slice none 0 0] := by
            obtain ⟨A, cap, c1, c2, c3, c4⟩ := z2 w (fun _ => True)
            have hi := F.sl t e el hτ
            obtain ⟨_, _, i, i1, i2, _⟩ := hi
            obtain ⟨i', z', zc', j1, j2, j3, j4, j5, j6, j7⟩ := F.info hτ
            rw [i1] at j1; cases j1
            rw [i2] at j2; cases j2
            have hrun : (Instr.alloc t true (.tuple #[])).run P w = .ok (.pointer (some ⟨w.heap.size, 0, none⟩)) (w.alloc (.cells #[.slice none 0 0] t)) := by
              simp only [Instr.alloc, zeroValue, typeInfo, Sem.run_bind, run_program, i1, i2, Result.andThen_ok, Sem.run_pure, run_newVar]
              rfl
            rw [hrun] at z1
            have hh := congrArg (fun W : World => W.heap[w.heap.size]?) (Result.ok.inj z1).2
            simp only [heap_alloc_new, Option.some.injEq, Obj.cells.injEq] at hh
            exact hh.1.symm
          have hadd2 := hadd1.add he (V := .pointer (some ⟨w.heap.size, 0, none⟩)) (b := .cells [.own (2000 + d)]) hl' (hVg w _) ⟨w.heap.size, t, zc, updE_same _ _ _, heap_alloc_new w _, by rw [hzc]; rfl, fun i r u hi hu => by
            match i, hi with
            | 0, hi =>
              rw [hzc] at hu
              simp only [List.getElem?_cons_zero, Option.some.injEq] at hi
              subst hi
              have : Value.slice none 0 0 = u := by simpa using hu
              subst this
              refine ⟨by rw [updE_ne _ _ (by omega), updE_same], 0, e, el, [], [], false, ?_, rfl⟩
              rw [look_ins, if_neg (by omega), look_ins, if_pos rfl]⟩
          exact ⟨_, _, _, z1, hadd2, .inr (.inl ⟨_, by rw [show insAll [(1000 + d, Blk.cells [RV.own (2000 + d)]), (2000 + d, Blk.row el e [] [] false)] σ.own = ins _ _ (ins _ _ σ.own) from rfl, look_ins, if_pos rfl]⟩), w.heap.size, updE_same _ _ _, rfl⟩
      · rename_i e hτ
        refine ⟨_, _, h, fun io w0 E a w hr => ?_⟩
        obtain ⟨zc, z1, z2, z3⟩ := run_alloc F hτ w
        have he := Ext.alloc w (.cells zc t)
        have hadd := hr.add he (V := .pointer (some ⟨w.heap.size, 0, none⟩)) (b := .cells [.undef]) hl (hVg w _) ⟨w.heap.size, t, zc, updE_same _ _ _, heap_alloc_new w _, z3, fun i r u hi hu => by
          match i, hi with
          | 0, hi =>
            simp only [List.getElem?_cons_zero, Option.some.injEq] at hi
            subst hi
            trivial⟩
        exact ⟨_, _, _, z1, hadd, .inr (.inl ⟨_, by rw [show insAll [(1000 + d, Blk.cells [RV.undef])] σ.own = ins _ _ σ.own from rfl, look_ins, if_pos rfl]⟩), w.heap.size, updE_same _ _ _, rfl⟩
      · rename_i ty e _ _ hτ
        exact hwhole _ _ hτ h
      · cases h

/-- A new row with its values. -/
theorem Does.row {σ : St N} {run : Act → Sem Value} {d : Nat} {el : TypeId} {ty : Ty} {xs : List (ty.den N.ρ)} {bs : List Nat} (hl : look σ.own (1000 + d) = none)
    (h : ∀ io w0 E a w, RelE io w0 σ E a w → ∃ V w' cells, (run a).run P w = .ok V w' ∧ Ext w w' ∧ (∀ g, blkOf V = some g → w.heap.size ≤ g) ∧ w'.ownsRow 0 el (N.sz ty) V xs.length cells ∧
      RowC (Rep w (okb w.heap.size σ.own E bs) ty) xs cells) :
    Does P σ run (.one (.own (1000 + d))) [(1000 + d, .row el ty xs bs false)] := by
  intro io w0 E a w hr
  obtain ⟨V, w', cells, h1, h2, h3, h4, h5⟩ := h io w0 E a w hr
  have hadd := hr.add h2 (V := V) (b := .row el ty xs bs false) hl (fun g hg => ⟨h3 g hg, by
    rcases h4.2 with ⟨rfl, _⟩ | ⟨g', cap, cur, rfl, _, hg', _⟩
    · cases hg
    · cases hg
      exact (Array.getElem?_eq_some_iff.1 hg').1⟩) ⟨cells, by rw [updE_same]; exact h4, RowC_mono (fun x cs hx => Rep_new h2 h3 hx) h5⟩
  exact ⟨V, w', _, h1, hadd, (updE_same _ _ _).symm, xs.length, ty, el, xs, bs, false, by rw [show insAll [(1000 + d, Blk.row el ty xs bs false)] σ.own = ins _ _ σ.own from rfl, look_ins, if_pos rfl], rfl⟩

def sameLen (σ : St N) (l c : Operand) : Bool :=
  match l, c with
  | .tmp i, .tmp j => i == j
  | .const (.int _ a), .const (.int _ b) => decide (a = b)
  | _, _ => false
def isZero : Operand → Bool
  | .const (.int _ 0) => true
  | _ => false

def evMake (τ : TypeId → Option TI) (σ : St N) (t : TypeId) (dst : Option Nat) (l c : Operand) (k : KK N β) : Option β :=
  match dst with
  | none => none
  | some d => match look σ.own (1000 + d) with
    | some _ => none
    | none => match τ t with
      | some ⟨.sl e, el⟩ => match ev σ l, ev σ c with
        | .int _ n, .int _ m =>
          bif sameLen σ l c then (if 0 ≤ m then if m ≤ (lim : Int) then k (.one (.own (1000 + d))) [(1000 + d, .row el e (List.replicate m.toNat (N.dflt e)) [] false)] else none else none)
          else bif isZero l then (if 0 ≤ m then if m ≤ (lim : Int) then k (.one (.own (1000 + d))) [(1000 + d, .row el e [] [] false)] else none else none)
          else none
        | _, _ => none
      | _ => none

theorem evMake_sound (F : Fits P N τ) {σ : St N} {t : TypeId} {dst : Option Nat} {l c : Operand} {k : KK N β} {r : β} (h : evMake τ σ t dst l c k = some r) :
    ∃ s ad, k s ad = some r ∧ Does P σ (fun a => Instr.makeSlice t (a.eval l) (a.eval c)) s ad := by
  unfold evMake at h
  split at h
  · cases h
  · rename_i d
    split at h
    · cases h
    · rename_i hl
      split at h
      · rename_i e el hτ
        obtain ⟨u1, ⟨e', u2⟩, _⟩ := F.sl t e el hτ
        obtain ⟨i, z, zc, i1, i2, i3, i4, i5, i6, i7⟩ := F.info u2
        have hpos := F.pos u2
        split at h
        · rename_i k1 n k2 m hn hm
          have hb : ∀ {m : Int}, 0 ≤ m → m ≤ (lim : Int) → i.bytes * m.toNat ≤ 281474976710656 ∧ m.toNat ≤ maxLen := by
            intro m h0 h1
            unfold lim at h1
            refine ⟨?_, by simp only [maxLen]; omega⟩
            calc i.bytes * m.toNat ≤ 32768 * 4294967296 := Nat.mul_le_mul i4 (by omega)
              _ ≤ 281474976710656 := by decide
          cases hs : sameLen σ l c with
          | true =>
            rw [hs] at h
            simp only [cond_true] at h
            split at h
            · rename_i h0
              split at h
              · rename_i h1
                refine ⟨_, _, h, Does.row hl fun io w0 E a w hr => ?_⟩
                have hl' := hr.ev l
                have hc' := hr.ev c
                rw [hn] at hl'
                rw [hm] at hc'
                have hnm : n = m := by
                  unfold sameLen at hs
                  split at hs
                  · rename_i p q
                    have : p = q := by simpa using hs
                    subst this
                    rw [hn] at hm
                    cases hm
                    rfl
                  · rename_i p1 p q1 q
                    have : p = q := by simpa using hs
                    subst this
                    cases hn
                    cases hm
                    rfl
                  · cases hs
                subst hnm
                obtain ⟨b1, b2⟩ := hb h0 h1
                obtain ⟨w', r1, r2, r3⟩ := run_make_full (P := P) w 0 t el i z (N.sz e) u1 i1 i2 i3 k1 k2 n.toNat b1 b2 (Nat.zero_le _)
                have hnn : ((n.toNat : Nat) : Int) = n := Int.toNat_of_nonneg h0
                rw [hnn] at r1
                have hz : z.cells.size = N.sz e := by
                  have := Rep_length (i7 w (fun _ => True))
                  rw [i5]
                  simpa using this
                refine ⟨_, w', _, by rw [show a.eval l = _ from hl', show a.eval c = _ from hc']; exact r1, Ext.grown r3, (fun g hg => by cases hg; exact Nat.le_refl _), by rw [List.length_replicate]; exact r2, ?_⟩
                refine RowC_replicate (zc := z.cells.toList) (by rw [i5]; exact i7 _ _) n.toNat _ ?_ ?_
                · have := r2.1
                  rw [this]
                  simp [hz]
                · unfold madeCells
                  exact range_cells _ z.cells (by rw [hz]; exact hpos)
              · cases h
            · cases h
          | false =>
            rw [hs] at h
            simp only [cond_false] at h
            obtain ⟨hz0, h⟩ := bif_none h
            split at h
            · rename_i h0
              split at h
              · rename_i h1
                refine ⟨_, _, h, Does.row hl fun io w0 E a w hr => ?_⟩
                have hl' := hr.ev l
                have hc' := hr.ev c
                rw [hn] at hl'
                rw [hm] at hc'
                have hn0 : n = 0 := by
                  unfold isZero at hz0
                  split at hz0
                  · cases hn
                    rfl
                  · cases hz0
                subst hn0
                obtain ⟨b1, b2⟩ := hb h0 h1
                obtain ⟨w', r1, r2, r3⟩ := run_make_own (P := P) w 0 t el i z (N.sz e) u1 i1 i2 i3 k1 k2 m.toNat b1 b2 (Nat.zero_le _)
                have hmm : ((m.toNat : Nat) : Int) = m := Int.toNat_of_nonneg h0
                rw [hmm] at r1
                exact ⟨_, w', _, by rw [show a.eval l = _ from hl', show a.eval c = _ from hc']; exact r1, Ext.grown r3, (fun g hg => by cases hg; exact Nat.le_refl _), r2, rfl⟩
              · cases h
            · cases h
        · cases h
      · cases h

end Go.Eng
