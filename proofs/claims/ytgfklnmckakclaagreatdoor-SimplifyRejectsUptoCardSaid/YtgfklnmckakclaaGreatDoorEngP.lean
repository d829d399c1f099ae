/- The engine, part P: slice literals, append, stores. -/
import Derived.Test.YtgfklnmckakclaaGreatDoorEngO
import Derived.Lib.AppendStr
set_option linter.unusedVariables false
set_option linter.unusedSimpArgs false
namespace Go.Eng
variable {N : Names} {P : Program} {τ : TypeId → Option TI} {β : Type}

def setParts (own : List (Nat × Blk N)) (ρ : Operand → RV N) (e : Ty) : List (Nat × Operand) → List (e.den N.ρ) → List Nat → Option (List (e.den N.ρ) × List Nat)
  | [], xs, bs => some (xs, bs)
  | (i, o) :: r, xs, bs => match toDen own e (ρ o) with
    | some (y, b) => bif Nat.blt i xs.length then setParts own ρ e r (xs.set i y) (bs ++ b) else none
    | none => none

theorem splice_nil (cs vs : List Value) (off : Nat) : splice cs (off + 0) vs = splice cs off vs := rfl

theorem setParts_rel {io : Io} {w0 w : World} {σ : St N} {E : Env} {a : Act} (hr : RelE io w0 σ E a w) {e : Ty} {sz : Nat} (hsz : sz = N.sz e) :
    ∀ (parts : List (Nat × Operand)) (xs ys : List (e.den N.ρ)) (bs bs' : List Nat) (cs : List Value), setParts σ.own (ev σ) e parts xs bs = some (ys, bs') → RowC (Rep w (okb w.heap.size σ.own E bs) e) xs cs →
      ∃ ds, Instr.fill (fun i => some (i * sz, sz)) cs.toArray (parts.map fun p => (p.1, a.eval p.2)) = some ds.toArray ∧ RowC (Rep w (okb w.heap.size σ.own E bs') e) ys ds ∧ ys.length = xs.length
  | [], xs, ys, bs, bs', cs, h, hx => by
    cases h
    exact ⟨cs, rfl, hx, rfl⟩
  | (i, o) :: r, xs, ys, bs, bs', cs, h, hx => by
    simp only [setParts] at h
    split at h
    · rename_i z b hz
      obtain ⟨hlt, h⟩ := bif_none h
      have hlt : i < xs.length := by simpa [Nat.blt_eq] using hlt
      obtain ⟨vs, v1, v2⟩ := hr.toDen hz (hr.ev o)
      have v3 := AsV_cells v1 v2
      have v4 := Rep_length v1
      have hxm := RowC_mono (fun x cs hx => Rep_more (bs' := bs ++ b) (fun i hi => List.mem_append.2 (.inl hi)) hx) hx
      have hvm := Rep_more (bs' := bs ++ b) (fun i hi => List.mem_append.2 (.inr hi)) v1
      obtain ⟨k1, k2⟩ := RowC_upd (x' := z) (off := 0) (vs := vs) (fun x cs hx => Rep_length hx) hxm i xs[i] (List.getElem?_eq_getElem hlt) (fun ccs hccs => by
        have l1 := Rep_length hccs
        refine ⟨?_, by omega⟩
        have : splice ccs 0 vs = vs := by
          unfold splice
          rw [List.take_zero, List.nil_append, List.drop_eq_nil_of_le (by omega), List.append_nil]
        rw [this]
        exact hvm)
      rw [Nat.add_zero] at k1 k2
      obtain ⟨ds, d1, d2, d3⟩ := setParts_rel hr hsz r (xs.set i z) ys (bs ++ b) bs' _ h k1
      refine ⟨ds, ?_, d2, by rw [d3]; simp⟩
      rw [List.map_cons, fill_step rfl (by rw [hsz, ← v4, ← v3]; simp) (by rw [hsz]; simp; omega)]
      rw [show (cs.toArray).toList = cs from rfl, v3, hsz]
      rw [hsz] at d1
      exact d1
    · cases h

def evBuildSlice (τ : TypeId → Option TI) (σ : St N) (t : TypeId) (len : Nat) (parts : List (Nat × Operand)) (dst : Option Nat) (k : KK N β) : Option β :=
  match dst with
  | none => none
  | some d => match look σ.own (1000 + d) with
    | some _ => none
    | none => match τ t with
      | some ⟨.sl e, el⟩ => bif Nat.ble (len * N.sz e) 16777216 then match setParts σ.own (ev σ) e parts (List.replicate len (N.dflt e)) [] with
        | some (xs, bs) => k (.one (.own (1000 + d))) [(1000 + d, .row el e xs bs false)]
        | none => none
        else none
      | _ => none

theorem evBuildSlice_sound (F : Fits P N τ) {σ : St N} {t : TypeId} {len : Nat} {parts : Array (Nat × Operand)} {dst : Option Nat} {k : KK N β} {r : β} (h : evBuildSlice τ σ t len parts.toList dst k = some r) :
    ∃ s ad, k s ad = some r ∧ Does P σ (fun a => Instr.buildSlice t len (parts.map fun (i, x) => (i, a.eval x))) s ad := by
  unfold evBuildSlice at h
  split at h
  · cases h
  · rename_i d
    split at h
    · cases h
    · rename_i hl
      split at h
      · rename_i e el hτ
        obtain ⟨hbig, h⟩ := bif_none h
        have hbig : len * N.sz e ≤ 16777216 := Nat.le_of_ble_eq_true hbig
        split at h
        · rename_i xs bs hx
          refine ⟨_, _, h, Does.row hl fun io w0 E a w hr => ?_⟩
          obtain ⟨u1, ⟨e', u2⟩, _⟩ := F.sl t e el hτ
          obtain ⟨i, z, zc, i1, i2, i3, i4, i5, i6, i7⟩ := F.info u2
          have hpos := F.pos u2
          have hz : z.cells.size = N.sz e := by
            have := Rep_length (i7 w (fun _ => True))
            rw [i5]
            simpa using this
          have hlm : (parts.map fun (x : Nat × Operand) => (x.1, a.eval x.2)).toList = parts.toList.map (fun p => (p.1, a.eval p.2)) := by simp
          have hcells0 : RowC (Rep w (okb w.heap.size σ.own E []) e) (List.replicate len (N.dflt e)) ((Array.range (len * i.size)).map (z.cells[· % z.cells.size]!)).toList := by
            refine RowC_replicate (zc := z.cells.toList) (by rw [i5]; exact i7 _ _) len _ ?_ ?_
            · simp [hz, i3]
            · exact range_cells _ z.cells (by rw [hz]; exact hpos)
          obtain ⟨ds, d1, d2, d3⟩ := setParts_rel hr rfl parts.toList _ xs [] bs _ hx hcells0
          rw [List.length_replicate] at d3
          have hds : ds.length = len * N.sz e := by rw [RowC_length (fun x cs hx => Rep_length hx) d2, d3]
          have hown : (w.alloc (.cells ds.toArray el)).ownsRow 0 el (N.sz e) (.slice (some ⟨w.heap.size, 0, none⟩) len len) xs.length ds := by
            refine ⟨by rw [hds, d3], .inr ⟨w.heap.size, len, ds.toArray, by rw [d3], Nat.zero_le _, heap_alloc_new w _, by omega, ?_, by simp [hds], ?_⟩⟩
            · have : len ≤ len * N.sz e := Nat.le_mul_of_pos_right _ hpos
              simp only [maxLen]
              omega
            · rw [d3, ← hds]
              simp
          refine ⟨.slice (some ⟨w.heap.size, 0, none⟩) len len, w.alloc (.cells ds.toArray el), ds, ?_, Ext.alloc w _, (fun g hg => by cases hg; exact Nat.le_refl _), hown, d2⟩
          by_cases h0 : len = 0
          · subst h0
            have hd0 : ds = [] := List.eq_nil_of_length_eq_zero (by rw [hds, Nat.zero_mul])
            subst hd0
            have hf0 : Instr.fill (fun i => some (i * N.sz e, N.sz e)) #[] (parts.map fun (x : Nat × Operand) => (x.1, a.eval x.2)).toList = some #[] := by
              rw [hlm]
              have := d1
              simpa using this
            have hs0 := F.sizeOf u2 w
            show (Instr.buildSlice t 0 (parts.map fun (x : Nat × Operand) => (x.1, a.eval x.2))).run P w = _
            simp only [Instr.buildSlice, Sem.run_bind, run_underlying u1, Result.andThen_ok, hs0, Nat.zero_mul]
            simp only [show ¬ (0 > 2 ^ 24) from by decide, if_false, if_true, Sem.run_pure, Result.andThen_ok, Array.range_zero', Array.map_empty, List.map_toArray, List.map_nil]
            rw [hf0]
            simp [newRow]
          · have hsm : ¬ len * i.size > 2 ^ 24 := by rw [i3]; omega
            have hnz : ¬ len * i.size = 0 := by
              rw [i3]
              intro h
              rcases Nat.mul_eq_zero.1 h with h | h
              · exact h0 h
              · omega
            refine run_buildSlice w t el len _ ds.toArray i z u1 i1 i2 hsm hnz ?_
            rw [i3]
            rw [i3] at d1
            rw [hlm]
            exact d1
        · cases h
      · cases h

/-! append -/
theorem flatRep {w : World} {ok : Nat → Prop} {e : Ty} {A : Addr} : ∀ (ys : List (e.den N.ρ)) (o : Nat), (∀ i y, ys[i]? = some y → ∃ ccs, Rep w ok e y ccs ∧ ∀ (j : Nat) u, ccs[j]? = some u → w.cell? (A.add ((o + i) * N.sz e + j)) = some u) →
    ∃ news, RowC (Rep w ok e) ys news ∧ ∀ (j : Nat) u, news[j]? = some u → w.cell? (A.add (o * N.sz e + j)) = some u
  | [], o, _ => ⟨[], rfl, fun j u hu => by simp at hu⟩
  | y :: ys, o, h => by
    obtain ⟨c1, h1, h2⟩ := h 0 y rfl
    obtain ⟨c2, k1, k2⟩ := flatRep ys (o + 1) (fun i z hz => by
      obtain ⟨ccs, g1, g2⟩ := h (i + 1) z (by simpa using hz)
      exact ⟨ccs, g1, fun j u hu => by rw [show o + 1 + i = o + (i + 1) from by omega]; exact g2 j u hu⟩)
    have hl := Rep_length h1
    refine ⟨c1 ++ c2, ⟨c1, c2, rfl, h1, k1⟩, fun j u hu => ?_⟩
    by_cases hj : j < c1.length
    · rw [List.getElem?_append_left hj] at hu
      have := h2 j u hu
      simpa using this
    · rw [List.getElem?_append_right (by omega)] at hu
      have := k2 _ u hu
      rw [show (o + 1) * N.sz e + (j - c1.length) = o * N.sz e + j from by rw [Nat.add_mul, Nat.one_mul]; omega] at this
      exact this

theorem RowC_one {w : World} {ok : Nat → Prop} {e : Ty} : ∀ {ys : List (e.den N.ρ)} {news : List Value}, RowC (Rep w ok e) ys news → ∀ u ∈ news, u.oneCell' = true
  | [], news, h => by rw [show news = [] from h]; intro u hu; cases hu
  | y :: ys, news, ⟨c1, c2, e', h1, h2⟩ => by
    subst e'
    intro u hu
    rcases List.mem_append.1 hu with hu | hu
    · exact Rep_one h1 u hu
    · exact RowC_one h2 u hu

theorem run_append_zero (t ty el : TypeId) (w : World) (h1 : P.underlying t = some (.slice el)) (i : TypeInfo) (h2 : P.info? el = some i) (base : Option Addr) (n cap : Nat) (hn : n ≤ cap) (c : Nat) :
    (Builtin.append_ #[t, t] ty #[.slice base n cap, .slice none 0 c]).run P w = .ok (.slice base n cap) w := by
  cases base with
  | none => simp [Builtin.append_, run_underlying h1, sizeOf, typeInfo, h2, Builtin.lenOf, Builtin.firstCells, loadCells, loadCellsFrom, hn]
  | some b => simp [Builtin.append_, run_underlying h1, sizeOf, typeInfo, h2, Builtin.lenOf, Builtin.firstCells, loadCells, loadCellsFrom, hn, storeCells]

/-- append onto what the call owns: the machine's side. -/
theorem run_appendOwn (F : Fits P N τ) {io : Io} {w0 w : World} {σ : St N} {E : Env} {a : Act} (hr : RelE io w0 σ E a w) {t ty el : TypeId} {e : Ty} (hτ : τ t = some ⟨.sl e, el⟩)
    {v : Value} {n : Nat} {cells : List Value} (hown : w.ownsRow 0 el (N.sz e) v n cells) {ys : List (e.den N.ρ)} {bs : List Nat} {x : Value} {cs : List Value} (hx : Rep w (okb w.heap.size σ.own E bs) (.sl e) ys cs) (hxv : cs = [x]) (hlim : n + ys.length ≤ lim) :
    ∃ v' w' news, (Builtin.append_ #[t, t] ty #[v, x]).run P w = .ok v' w' ∧ w'.ownsRow 0 el (N.sz e) v' (n + ys.length) (cells ++ news) ∧ w.grownBy w' (blkOf v) ∧ (∀ g, blkOf v' = some g → (blkOf v = some g ∨ w.heap.size ≤ g) ∧ g < w'.heap.size) ∧
      RowC (Rep w (okb w.heap.size σ.own E bs) e) ys news := by
  obtain ⟨u1, ⟨e', u2⟩, _⟩ := F.sl t e el hτ
  obtain ⟨i, z, zc, i1, i2, i3, i4, i5, i6, i7⟩ := F.info u2
  have hpos := F.pos u2
  have hz : z.cells.size = N.sz e := by
    have := Rep_length (i7 w (fun _ => True))
    rw [i5]
    simpa using this
  obtain ⟨A, cap, c1, c2, c2', c3⟩ := hx
  rw [hxv] at c1
  have c5 : x = .slice A ys.length cap := (List.cons.inj c1).1
  have hblk : v.ownBlock = blkOf v := by
    rcases hown.2 with ⟨rfl, _⟩ | ⟨g, cap, cur, rfl, _⟩ <;> rfl
  have hin : ∀ (v' : Value) (w' : World) m ds, w'.ownsRow 0 el (N.sz e) v' m ds → ∀ g, blkOf v' = some g → g < w'.heap.size := by
    intro v' w' m ds ho g hg
    rcases ho.2 with ⟨rfl, _⟩ | ⟨g', cap, cur, rfl, _, hg', _⟩
    · cases hg
    · cases hg
      exact (Array.getElem?_eq_some_iff.1 hg').1
  cases A with
  | none =>
    have hy : ys = [] := List.eq_nil_of_length_eq_zero (by have := c2' rfl; omega)
    subst hy
    have hnc : ∃ base n' cap', v = .slice base n' cap' ∧ n' ≤ cap' := by
      rcases hown.2 with ⟨rfl, _⟩ | ⟨g, cap, cur, rfl, _, _, h, _⟩
      · exact ⟨none, 0, 0, rfl, Nat.le_refl _⟩
      · exact ⟨_, n, cap, rfl, h⟩
    obtain ⟨base, n', cap', rfl, hnc⟩ := hnc
    refine ⟨_, w, [], by rw [c5]; exact run_append_zero t ty el w u1 i i1 base n' cap' hnc cap, by simpa using hown, ⟨rfl, rfl, rfl, Nat.le_refl _, fun _ _ _ => rfl⟩, fun g hg => ⟨.inl hg, hin _ _ _ _ hown g hg⟩, rfl⟩
  | some ad =>
    obtain ⟨news, n1, n2⟩ := flatRep (A := ad) ys 0 (fun i y hy => by
      obtain ⟨ad', ccs, d1, d2, d3, d4⟩ := c3 i y hy
      cases d1
      exact ⟨ccs, d3, fun j u hu => by rw [Nat.zero_add]; exact d4 j u hu⟩)
    have hnl := RowC_length (fun x cs hx => Rep_length hx) n1
    have hb : (n + ys.length) * i.bytes ≤ 140737488355328 := by
      calc (n + ys.length) * i.bytes ≤ 4294967296 * 32768 := Nat.mul_le_mul hlim i4
        _ ≤ 140737488355328 := by decide
    obtain ⟨v', w', r1, r2, r3, r4, r5⟩ := run_append_own_at (P := P) w 0 t ty el i z (N.sz e) i.bytes u1 i1 i2 i3 rfl hz hpos v n cells hown ad ys.length cap news hnl (fun j u hu => by have := n2 j u hu; simpa using this) (RowC_one n1)
      (by unfold lim at hlim; simp only [maxLen]; omega) hb (Nat.zero_le _)
    have hblk' : v'.ownBlock = blkOf v' := by
      rcases r2.2 with ⟨rfl, _⟩ | ⟨g, cap, cur, rfl, _⟩ <;> rfl
    refine ⟨v', w', news, by rw [c5]; exact r1, r2, by rw [← hblk]; exact r3, fun g hg => ⟨?_, hin _ _ _ _ r2 g hg⟩, n1⟩
    rw [hblk', hblk] at r5
    rcases r5 with r5 | r5
    · exact .inl (by rw [← r5]; exact hg)
    · rw [hg] at r5
      cases r5
      exact .inr (Nat.le_refl _)

end Go.Eng
