/- The engine, part Q: append and stores, on the state. -/
import Derived.Test.YtgfklnmckakclaaGreatDoorEngP
set_option linter.unusedVariables false
set_option linter.unusedSimpArgs false
namespace Go.Eng
variable {N : Names} {P : Program} {τ : TypeId → Option TI} {β : Type}

open Lib in
theorem run_append_str_at (w : World) (t u ty e : TypeId) (i : TypeInfo) (z : Value) (ht : P.underlying t = some (.slice e)) (hu : P.underlying u = some .string) (hi : P.info? e = some i) (hz : i.zero = some z) (hz1 : z.cells.size = 1)
    (hsize : i.size = 1) (v : Value) (n : Nat) (xs : List Value) (hown : w.ownsRow 0 e 1 v n xs) (s : ByteArray)
    (h63 : n + s.size ≤ maxLen) (hbytes : (n + s.size) * i.bytes ≤ 140737488355328) :
    ∃ v' w', (Builtin.append_ #[t, u] ty #[v, .string s]).run P w = .ok v' w' ∧ w'.ownsRow 0 e 1 v' (n + s.size) (xs ++ strCells s) ∧ w.grownBy w' v.ownBlock ∧ (v'.ownBlock = v.ownBlock ∨ v'.ownBlock = some w.heap.size) := by
  have hsmall : n + s.size ≤ 9223372036854775807 := by simp only [maxLen] at h63; omega
  have hxl : xs.length = n := by simpa using hown.1
  have hlen : (xs ++ strCells s).length = (n + s.size) * 1 := by rw [List.length_append, hxl, strCells_length, Nat.mul_one]
  have grown : ∀ (old : Nat), old < n + s.size → ∀ (row : Option Nat),
      (w.drew.alloc (.cells (xs.toArray ++ (strCells s).toArray ++ Builtin.zeroCells z.cells (grownCap w (n + s.size) old e - (n + s.size))) e)).ownsRow 0 e 1
        (.slice (some ⟨w.heap.size, 0, none⟩) (n + s.size) (grownCap w (n + s.size) old e)) (n + s.size) (xs ++ strCells s) ∧
      w.grownBy (w.drew.alloc (.cells (xs.toArray ++ (strCells s).toArray ++ Builtin.zeroCells z.cells (grownCap w (n + s.size) old e - (n + s.size))) e)) row := by
    intro old ho row
    have hge := grownCap_ge w (n + s.size) old e
    have hcm : grownCap w (n + s.size) old e ≤ maxLen := grownCap_le_maxLen w (n + s.size) old e h63
    refine ⟨⟨hlen, .inr ⟨w.heap.size, _, _, rfl, Nat.zero_le _, heap_alloc_new w.drew _, hge, hcm, ?_, ?_⟩⟩, ⟨rfl, rfl, rfl, by simp, fun k hk _ => RowKit.Below.heap_alloc w.drew _ k hk⟩⟩
    · simp only [Array.size_append, List.size_toArray, size_zeroCells, hz1, hxl, strCells_length]
      omega
    · simp only [Array.toList_append, List.append_assoc]
      rw [← List.append_assoc, ← hlen]
      exact List.take_left
  rcases hown.2 with ⟨rfl, rfl⟩ | ⟨g, cap, cur, rfl, hbg, hg, hnc, hcm, hcs, htake⟩
  · have hx : xs = [] := List.eq_nil_of_length_eq_zero hxl
    subst hx
    by_cases hm : s.size = 0
    · have hn : strCells s = [] := List.eq_nil_of_length_eq_zero (by rw [strCells_length]; exact hm)
      refine ⟨.slice none 0 0, w, ?_, by rw [hm, hn]; exact World.ownsRow_nil w 0 e 1, ⟨rfl, rfl, rfl, Nat.le_refl _, fun _ _ _ => rfl⟩, .inl rfl⟩
      have hf := run_firstCells_string (P := P) w 1 s
      rw [hm] at hf
      simp [Builtin.append_, run_underlying ht, run_underlying hu, sizeOf, typeInfo, hi, hsize, Builtin.lenOf, hm, hf]
    · have hr := run_append_nil_string (P := P) w t u ty e i z ht hu hi hz s (by omega) (by omega) (by have h := hbytes; simp only [Nat.zero_add] at h; omega)
      have hgr := grown 0 (by omega) (Value.ownBlock (.slice none 0 0))
      simp only [Nat.zero_add, List.nil_append, Array.empty_append] at hgr ⊢
      have e1 : (s.data.map fun b => Value.int .u8 b.toNat) = (strCells s).toArray := by
        apply Array.ext'
        simp [strCells]
      rw [e1] at hr
      exact ⟨_, _, hr, hgr.1, hgr.2, .inr rfl⟩
  · by_cases hroom : n + s.size ≤ cap
    · have hcs' : cur.size = cap := by simpa using hcs
      have hr := run_append_room_string (P := P) w t u ty e i ht hu hi hsize g n cap cur hg s hroom (by omega)
      refine ⟨_, _, hr, ⟨hlen, .inr ⟨g, cap, _, rfl, hbg, setRow_heap w g cur _ e _ hg, hroom, hcm, ?_, ?_⟩⟩, ⟨rfl, rfl, rfl, by simp, fun k _ hk => setRow_other w g k _ (fun e => hk (by simp [Value.ownBlock, e]))⟩, .inl rfl⟩
      · simp only [List.size_toArray, List.length_append, List.length_take, List.length_drop, Array.length_toList, strCells_length]
        omega
      · have ht' : cur.toList.take n = xs := by simpa using htake
        rw [ht', ← hlen]
        exact List.take_left
    · have holds : ∀ j u, xs[j]? = some u → w.cell? ((⟨g, 0, none⟩ : Addr).add j) = some u := hown.cells (g := g) rfl
      have hr := run_append_grow_string (P := P) w t u ty e i z ht hu hi hz ⟨g, 0, none⟩ n cap xs (by rw [hsize]; simpa using hxl) holds s (by omega) (by omega) (growslice_fits (by omega) hbytes)
      have hgr := grown cap (by omega) (Value.ownBlock (.slice (some ⟨g, 0, none⟩) n cap))
      exact ⟨_, _, hr, hgr.1, hgr.2, .inr rfl⟩

/-- append, whatever is appended: the machine's side. -/
def appSrc (τ : TypeId → Option TI) (own : List (Nat × Blk N)) (t t2 : TypeId) (e : Ty) (x : RV N) : Option (List (e.den N.ρ) × List Nat) :=
  bif t == t2 then toDen own (.sl e) x else match τ t2 with
    | some ⟨.str, _⟩ => match x with
      | .str l => (castTy N (.sl (.int .u8)) (.sl e) l).map fun y => (y, [])
      | _ => none
    | _ => none

theorem run_appendAny (F : Fits P N τ) {io : Io} {w0 w : World} {σ : St N} {E : Env} {a : Act} (hr : RelE io w0 σ E a w) {t t2 ty el : TypeId} {e : Ty} (hτ : τ t = some ⟨.sl e, el⟩)
    {v : Value} {n : Nat} {cells : List Value} (hown : w.ownsRow 0 el (N.sz e) v n cells) {ys : List (e.den N.ρ)} {bs : List Nat} {x : Operand} (hx : appSrc τ σ.own t t2 e (ev σ x) = some (ys, bs)) (hlim : n + ys.length ≤ lim) :
    ∃ v' w' news, (Builtin.append_ #[t, t2] ty #[v, a.eval x]).run P w = .ok v' w' ∧ w'.ownsRow 0 el (N.sz e) v' (n + ys.length) (cells ++ news) ∧ w.grownBy w' (blkOf v) ∧ (∀ g, blkOf v' = some g → (blkOf v = some g ∨ w.heap.size ≤ g) ∧ g < w'.heap.size) ∧
      RowC (Rep w (okb w.heap.size σ.own E bs) e) ys news := by
  unfold appSrc at hx
  cases htt : (t == t2) with
  | true =>
    rw [htt] at hx
    have : t = t2 := by simpa using htt
    subst this
    obtain ⟨cs, h1, h2⟩ := hr.toDen hx (hr.ev x)
    exact run_appendOwn F hr hτ hown h1 h2 hlim
  | false =>
    rw [htt] at hx
    simp only [cond_false] at hx
    split at hx
    · rename_i e2 hτ2
      split at hx
      · rename_i l hl
        obtain ⟨y, hy, hp⟩ := Option.map_eq_some_iff.1 hx
        cases hp
        obtain ⟨et, rfl⟩ := castTy_some hy
        cases et
        have hx' := hr.ev x
        rw [hl] at hx'
        obtain ⟨s, k1, k2⟩ := hx'
        subst k2
        obtain ⟨u1, ⟨e', u2⟩, _⟩ := F.sl t _ el hτ
        obtain ⟨i, z, zc, i1, i2, i3, i4, i5, i6, i7⟩ := F.info u2
        have hz : z.cells.size = 1 := by
          have := Rep_length (i7 w (fun _ => True))
          rw [i5]
          simpa [Names.sz] using this
        have hlim' : n + s.size ≤ lim := by
          have : (bytesL s).length = s.size := bytesL_length s
          have h' : n + (bytesL s).length ≤ lim := hlim
          omega
        have hb : (n + s.size) * i.bytes ≤ 140737488355328 := by
          calc (n + s.size) * i.bytes ≤ 4294967296 * 32768 := Nat.mul_le_mul hlim' i4
            _ ≤ 140737488355328 := by decide
        obtain ⟨v', w', r1, r2, r3, r5⟩ := run_append_str_at (P := P) w t t2 ty el i z u1 (F.str t2 e2 hτ2).1 i1 i2 hz i3 v n cells hown s (by unfold lim at hlim'; simp only [maxLen]; omega) hb
        have hblk : v.ownBlock = blkOf v := by
          rcases hown.2 with ⟨rfl, _⟩ | ⟨g, cap, cur, rfl, _⟩ <;> rfl
        have hblk' : v'.ownBlock = blkOf v' := by
          rcases r2.2 with ⟨rfl, _⟩ | ⟨g, cap, cur, rfl, _⟩ <;> rfl
        have hrow : RowC (Rep (N := N) w (okb w.heap.size σ.own E []) (.int .u8)) (bytesL s) (Lib.strCells s) := by
          unfold bytesL Lib.strCells
          generalize s.data.toList = l
          induction l with
          | nil => rfl
          | cons b l ih => exact ⟨[.int .u8 b.toNat], _, rfl, rfl, ih⟩
        refine ⟨v', w', Lib.strCells s, by rw [k1]; exact r1, ?_, by rw [← hblk]; exact r3, fun g hg => ⟨?_, ?_⟩, hrow⟩
        · show w'.ownsRow 0 el 1 v' (n + (bytesL s).length) _
          rw [bytesL_length]
          exact r2
        · rw [hblk', hblk] at r5
          rcases r5 with r5 | r5
          · exact .inl (by rw [← r5]; exact hg)
          · rw [hg] at r5
            cases r5
            exact .inr (Nat.le_refl _)
        · rcases r2.2 with ⟨rfl, _⟩ | ⟨g', cap, cur, rfl, _, hg', _⟩
          · cases hg
          · cases hg
            exact (Array.getElem?_eq_some_iff.1 hg').1
      · cases hx
    · cases hx

/-- What an operation that writes does. -/
def DoesW (P : Program) (σ : St N) (run : Act → Sem Value) (s : Slot N) (σ' : St N) : Prop :=
  ∀ io w0 E a w, RelE io w0 σ E a w → ∃ v w' E', (run a).run P w = .ok v w' ∧ RelE io w0 σ' E' a w' ∧ SlotRel w' σ'.own E' s v

/-- No other block looks into id; boxes of single cells are dealt with by themselves. -/
def noBs (own : List (Nat × Blk N)) (id : Nat) : Bool :=
  own.all fun p => p.1 == id || match p.2 with
    | .cells _ => true
    | b => !b.bs.contains id
/-- No other block looks into id. -/
def noBs' (own : List (Nat × Blk N)) (id : Nat) : Bool :=
  own.all fun p => p.1 == id || !p.2.bs.contains id

theorem noBs_spec {own : List (Nat × Blk N)} {id : Nat} (h : noBs own id = true) : ∀ j bj, look own j = some bj → j ≠ id → (∃ l, bj = .cells l) ∨ id ∉ bj.bs := by
  intro j bj hj hne
  have := List.all_eq_true.1 h _ (look_mem hj)
  simp only [Bool.or_eq_true, beq_iff_eq, hne, false_or] at this
  cases bj with
  | cells l => exact .inl ⟨l, rfl⟩
  | mapB kt vt es => exact .inr (fun hm => by cases hm)
  | row e t xs bs p => exact .inr (fun hm => by simp [Blk.bs] at this; exact this hm)
  | whole t x bs => exact .inr (fun hm => by simp [Blk.bs] at this; exact this hm)
theorem noBs'_spec {own : List (Nat × Blk N)} {id : Nat} (h : noBs' own id = true) : ∀ j bj, look own j = some bj → j ≠ id → id ∉ bj.bs := by
  intro j bj hj hne hm
  have := List.all_eq_true.1 h _ (look_mem hj)
  simp only [Bool.or_eq_true, beq_iff_eq, hne, false_or] at this
  rw [List.contains_iff_mem.2 hm] at this
  cases this

def evAppend (τ : TypeId → Option TI) (σ : St N) (t t2 : TypeId) (dst : Option Nat) (s x : RV N) (k : Slot N → St N → Option β) : Option β :=
  match dst with
  | none => none
  | some d => match τ t with
    | some ⟨.sl e, el⟩ => match appSrc τ σ.own t t2 e x with
      | none => none
      | some (ys, b) => match s with
        | .nil => match look σ.own (1000 + d) with
          | some _ => none
          | none => if ys.length ≤ lim then k (.one (.own (1000 + d))) { σ with own := ins (1000 + d) (.row el e ys b false) σ.own } else none
        | .own id => match look σ.own id with
          | some (.row el' e' xs bs false) => bif el' == el && !(bs ++ b).contains id && noBs σ.own id then match castTy N (.sl e') (.sl e) xs, look (del id σ.own) (1000 + d) with
            | some xs, none => if xs.length + ys.length ≤ lim then
                k (.one (.own (1000 + d))) { regs := σ.regs.map (Slot.map (kill id)), own := ins (1000 + d) (.row el e (xs ++ ys) (bs ++ b) false) (del id (mapO (killB id) σ.own)) }
              else none
            | _, _ => none
            else none
          | _ => none
        | _ => none
    | _ => none

theorem okb_killed {H H' : Nat} {own : List (Nat × Blk N)} {E : Env} {id nid : Nat} {b b' : Blk N} {V : Value} (hH : H ≤ H') (hb : look own id = some b) (hV1 : ∀ g, blkOf V = some g → blkOf (E id) = some g ∨ H ≤ g) {bs : List Nat} (hbs : id ∉ bs) {g : Nat}
    (hg : okb H own E bs g) : okb H' (ins nid b' (del id (mapO (killB id) own))) (updE E nid V) bs g := by
  refine ⟨⟨Nat.lt_of_lt_of_le hg.1.1 hH, hg.1.2⟩, fun j hj hjb => ?_⟩
  rw [look_ins, look_del, look_mapO] at hj
  by_cases hjn : nid = j
  · subst hjn
    rw [updE_same]
    intro hgv
    rcases hV1 g hgv with h3 | h3
    · exact hg.2 id (by rw [hb]; rfl) hbs h3
    · have := hg.1.1
      omega
  · rw [updE_ne _ _ (Ne.symm hjn)]
    rw [if_neg hjn] at hj
    by_cases hji : id = j
    · rw [if_pos hji] at hj; cases hj
    · rw [if_neg hji] at hj
      refine hg.2 j ?_ hjb
      cases hl : look own j with
      | none => rw [hl] at hj; cases hj
      | some _ => rfl

theorem evAppend_sound (F : Fits P N τ) {σ : St N} {t t2 ty : TypeId} {dst : Option Nat} {s x : Operand} {k : Slot N → St N → Option β} {r : β} (h : evAppend τ σ t t2 dst (ev σ s) (ev σ x) k = some r) :
    ∃ sl σ', k sl σ' = some r ∧ DoesW P σ (fun a => Builtin.append_ #[t, t2] ty #[a.eval s, a.eval x]) sl σ' := by
  unfold evAppend at h
  split at h
  · cases h
  · rename_i d
    split at h
    · rename_i e el hτ
      split at h
      · cases h
      · rename_i ys b hx
        split at h
        · rename_i hs
          split at h
          · cases h
          · rename_i hl
            split at h
            · rename_i hlim
              refine ⟨_, _, h, fun io w0 E a w hr => ?_⟩
              have hs' := hr.ev s
              rw [hs] at hs'
              have hv : a.eval s = .slice none 0 0 := hs'
              obtain ⟨v', w', news, r1, r2, r3, r4, r5⟩ := run_appendAny F (ty := ty) hr hτ (v := .slice none 0 0) (n := 0) (cells := []) ⟨by simp, .inl ⟨rfl, rfl⟩⟩ hx (by omega)
              have he : Ext w w' := Ext.grown r3
              rw [Nat.zero_add, List.nil_append] at r2
              have hV : ∀ g, blkOf v' = some g → w.heap.size ≤ g ∧ g < w'.heap.size := fun g hg => by
                obtain ⟨q1, q2⟩ := r4 g hg
                rcases q1 with q1 | q1
                · cases q1
                · exact ⟨q1, q2⟩
              have hadd := hr.add he (V := v') (b := .row el e ys b false) hl hV ⟨news, by rw [updE_same]; exact r2, RowC_mono (fun x cs hx => Rep_new he (fun g hg => (hV g hg).1) hx) r5⟩
              exact ⟨v', w', _, by show (Builtin.append_ #[t, t2] ty #[a.eval s, a.eval x]).run P w = _; rw [hv]; exact r1, hadd, (updE_same _ _ _).symm, ys.length, e, el, ys, b, false, by rw [look_ins, if_pos rfl], rfl⟩
            · cases h
        · rename_i id hs
          split at h
          · rename_i el' e' xs bs hl
            obtain ⟨hc, h2⟩ := bif_none h
            clear h
            simp only [Bool.and_eq_true, beq_iff_eq, Bool.not_eq_true'] at hc
            obtain ⟨⟨hel, hcon⟩, hno⟩ := hc
            subst hel
            split at h2
            · rename_i xs' hxs hfresh
              obtain ⟨et, rfl⟩ := castTy_some hxs
              cases et
              split at h2
              · rename_i hlim
                refine ⟨_, _, h2, fun io w0 E a w hr => ?_⟩
                have hs' := hr.ev s
                rw [hs] at hs'
                have hv : a.eval s = E id := hs'.1
                obtain ⟨cells, c1, c2⟩ := hr.own id _ hl
                obtain ⟨v', w', news, r1, r2, r3, r4, r5⟩ := run_appendAny F (ty := ty) hr hτ c1 hx hlim
                have hnot := contains_false hcon
                have hn1 : id ∉ bs := fun hm => hnot (List.mem_append.2 (.inl hm))
                have hn2 : id ∉ b := fun hm => hnot (List.mem_append.2 (.inr hm))
                have hV1 : ∀ g, blkOf v' = some g → blkOf (E id) = some g ∨ w.heap.size ≤ g := fun g hg => (r4 g hg).1
                have tr : ∀ bs0, id ∉ bs0 → (∀ i ∈ bs0, i ∈ bs ++ b) → ∀ (x : e.den N.ρ) cs, Rep w (okb w.heap.size σ.own E bs0) e x cs →
                    Rep w' (okb w'.heap.size (ins (1000 + d) (.row el' e (xs ++ ys) (bs ++ b) false) (del id (mapO (killB id) σ.own))) (updE E (1000 + d) v') (bs ++ b)) e x cs := by
                  intro bs0 h0 hsub x cs hx
                  exact Rep_mono (fun a u hb hc => cell_grown r3 (hb.2 id (by rw [hl]; rfl) h0) hc)
                    (fun g hg => okb_more hsub (okb_killed r3.size hl hV1 h0 hg)) hx
                have hrep := hr.replace hl r3 r4 hfresh rfl (b' := .row el' e (xs ++ ys) (bs ++ b) false) (noBs_spec hno) ⟨cells ++ news, by rw [updE_same, List.length_append]; exact r2,
                  RowC_append (RowC_mono (tr bs hn1 (fun i hi => List.mem_append.2 (.inl hi))) c2) (RowC_mono (tr b hn2 (fun i hi => List.mem_append.2 (.inr hi))) r5)⟩
                exact ⟨v', w', _, by show (Builtin.append_ #[t, t2] ty #[a.eval s, a.eval x]).run P w = _; rw [hv]; exact r1, hrep, (updE_same _ _ _).symm, _, e, el', xs ++ ys, bs ++ b, false, by rw [look_ins, if_pos rfl], rfl⟩
              · cases h2
            · cases h2
          · cases h
        · cases h
    · cases h

end Go.Eng
