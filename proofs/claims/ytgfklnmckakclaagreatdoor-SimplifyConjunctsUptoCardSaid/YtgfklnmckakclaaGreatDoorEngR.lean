/- The engine, part R: stores. -/
import Derived.Test.YtgfklnmckakclaaGreatDoorEngQ
set_option linter.unusedVariables false
set_option linter.unusedSimpArgs false
namespace Go.Eng
variable {N : Names} {P : Program} {τ : TypeId → Option TI} {β : Type}

def explL (g : (t : Ty) → t.den N.ρ → Option (List (RV N))) : (ts : List Ty) → HL N.ρ ts → Option (List (RV N))
  | [], _ => some []
  | t :: ts, x => match g t x.1, explL g ts x.2 with
    | some l, some m => some (l ++ m)
    | _, _ => none

/-- The cells of a value, each by itself. -/
def expl (bs : List Nat) : Nat → (t : Ty) → t.den N.ρ → Option (List (RV N))
  | _, .int k, n => some [.int k n]
  | _, .bool, b => some [.bool b]
  | _, .str, l => some [.str l]
  | _, .sl e, x => some [.data (.sl e) x bs]
  | _, .opq, _ => some [.undef]
  | 0, .nm _, _ => none
  | f + 1, .nm n, x => explL (expl bs f) (N.body n) (N.un n x)

theorem explL_rel {w : World} {own : List (Nat × Blk N)} {E : Env} {bs : List Nat} {g : (t : Ty) → t.den N.ρ → Option (List (RV N))}
    (hg : ∀ (t : Ty) (x : t.den N.ρ) l cs, g t x = some l → Rep w (okb w.heap.size own E bs) t x cs → l.length = cs.length ∧ ∀ (i : Nat) r u, l[i]? = some r → cs[i]? = some u → RVRel w own E r u) :
    ∀ (ts : List Ty) (x : HL N.ρ ts) (l : List (RV N)) (cs : List Value), explL g ts x = some l → RepL w (okb w.heap.size own E bs) (RepN w (okb w.heap.size own E bs)) ts x cs → l.length = cs.length ∧ ∀ (i : Nat) r u, l[i]? = some r → cs[i]? = some u → RVRel w own E r u
  | [], _, l, cs, h, hr => by
    cases h
    rw [show cs = [] from hr]
    exact ⟨rfl, fun i r u hi _ => by simp at hi⟩
  | t :: ts, x, l, cs, h, ⟨c1, c2, e, h1, h2⟩ => by
    subst e
    simp only [explL] at h
    split at h
    · rename_i l1 l2 e1 e2
      cases h
      obtain ⟨k1, k2⟩ := hg t x.1 l1 c1 e1 h1
      obtain ⟨k3, k4⟩ := explL_rel hg ts x.2 l2 c2 e2 h2
      refine ⟨by simp [k1, k3], fun i r u hi hu => ?_⟩
      by_cases hlt : i < l1.length
      · rw [List.getElem?_append_left hlt] at hi
        rw [List.getElem?_append_left (by omega)] at hu
        exact k2 i r u hi hu
      · rw [List.getElem?_append_right (by omega)] at hi
        rw [List.getElem?_append_right (by omega), ← k1] at hu
        exact k4 _ r u hi hu
    · cases h

theorem expl_rel {w : World} {own : List (Nat × Blk N)} {E : Env} {bs : List Nat} : ∀ (f : Nat) (t : Ty) (x : t.den N.ρ) (l : List (RV N)) (cs : List Value), expl bs f t x = some l → Rep w (okb w.heap.size own E bs) t x cs →
    l.length = cs.length ∧ ∀ (i : Nat) r u, l[i]? = some r → cs[i]? = some u → RVRel w own E r u := by
  intro f
  have flat : ∀ (t : Ty) (x : t.den N.ρ) (cs : List Value) (u : Value), cs = [u] → Rep w (okb w.heap.size own E bs) t x cs → AsV t u cs → ∀ l, l = [ofDen t x bs] → l.length = cs.length ∧ ∀ (i : Nat) r u, l[i]? = some r → cs[i]? = some u → RVRel w own E r u := by
    intro t x cs u hc hr hv l hl
    have := ofDen_rel hr hv
    subst hc
    subst hl
    refine ⟨rfl, fun i r u' hi hu => ?_⟩
    match i, hi with
    | 0, hi =>
      simp only [List.getElem?_cons_zero, Option.some.injEq] at hi hu
      subst hi
      subst hu
      exact this
  induction f with
  | zero =>
    intro t x l cs h hr
    cases t with
    | nm n => cases h
    | int k => exact flat (.int k) x cs _ hr hr hr l (Option.some.inj h).symm
    | bool => exact flat .bool x cs _ hr hr hr l (Option.some.inj h).symm
    | str => obtain ⟨s, e, h2⟩ := hr; exact flat .str x cs _ e ⟨s, e, h2⟩ e l (Option.some.inj h).symm
    | sl e' => obtain ⟨A, cap, e, h2⟩ := hr; exact flat (.sl e') x cs _ e ⟨A, cap, e, h2⟩ e l (Option.some.inj h).symm
    | opq => obtain ⟨v, e, h2⟩ := hr; exact flat .opq x cs _ e ⟨v, e, h2⟩ e l (Option.some.inj h).symm
  | succ f ih =>
    intro t x l cs h hr
    cases t with
    | nm n => exact explL_rel ih (N.body n) (N.un n x) l cs h (RepN_open hr)
    | int k => exact flat (.int k) x cs _ hr hr hr l (Option.some.inj h).symm
    | bool => exact flat .bool x cs _ hr hr hr l (Option.some.inj h).symm
    | str => obtain ⟨s, e, h2⟩ := hr; exact flat .str x cs _ e ⟨s, e, h2⟩ e l (Option.some.inj h).symm
    | sl e' => obtain ⟨A, cap, e, h2⟩ := hr; exact flat (.sl e') x cs _ e ⟨A, cap, e, h2⟩ e l (Option.some.inj h).symm
    | opq => obtain ⟨v, e, h2⟩ := hr; exact flat .opq x cs _ e ⟨v, e, h2⟩ e l (Option.some.inj h).symm

def DoesS (P : Program) (σ : St N) (run : Act → Sem Unit) (σ' : St N) : Prop :=
  ∀ io w0 E a w, RelE io w0 σ E a w → ∃ w' E', (run a).run P w = .ok () w' ∧ RelE io w0 σ' E' a w'

def isNilR : RV N → Bool
  | .nil => true
  | _ => false

/-- The cells of what is stored. -/
def storeVals (own : List (Nat × Blk N)) (tv : Ty) (v : RV N) : Option (List (RV N)) :=
  match tv with
  | .nm n => match toDen own (.nm n) v with
    | some (y, b) => expl b 8 (.nm n) y
    | none => none
  | .opq => bif loose v then some [v] else none
  | tv => bif loose v || isNilR v then some [v] else match toDen own tv v with
    | some (y, b) => some [ofDen tv y b]
    | none => none

def evStore (τ : TypeId → Option TI) (σ : St N) (t : TypeId) (addr v : RV N) (k : St N → Option β) : Option β :=
  match τ t with
  | none => none
  | some ⟨tv, _⟩ => match addr with
    | .optr id i off => match look σ.own id with
      | some (.row e ty xs bs p) => match toDen σ.own tv v with
        | some (y, b) => bif noBs' σ.own id && !(bs ++ b).contains id then match updAt ⟨tv, y⟩ 8 ty (xs.getD i (N.dflt ty)) off with
          | some x' => k { regs := σ.regs.map (Slot.map (scrub id)), own := ins id (.row e ty (xs.set i x') (bs ++ b) p) σ.own }
          | none => none
          else none
        | none => none
      | _ => none
    | .bptr id off => match look σ.own id with
      | some (.whole tb x bs) => bif loose v || isNilR v then match expl bs 8 tb x, storeVals σ.own tv v with
          | some l, some vs => bif noBs' σ.own id && !(Blk.cells (l.take off ++ vs ++ l.drop (off + vs.length))).bs.contains id && Nat.ble (off + vs.length) l.length then
              k { regs := σ.regs.map (Slot.map (scrub id)), own := ins id (.cells (l.take off ++ vs ++ l.drop (off + vs.length))) σ.own }
            else none
          | _, _ => none
        else match toDen σ.own tv v with
          | some (y, b) => bif noBs' σ.own id && !(bs ++ b).contains id then match updAt ⟨tv, y⟩ 8 tb x off with
            | some x' => k { regs := σ.regs.map (Slot.map (scrub id)), own := ins id (.whole tb x' (bs ++ b)) σ.own }
            | none => none
            else none
          | none => none
      | some (.cells l) => match storeVals σ.own tv v with
        | some vs => bif noBs' σ.own id && !(Blk.cells (l.take off ++ vs ++ l.drop (off + vs.length))).bs.contains id && Nat.ble (off + vs.length) l.length then
            k { regs := σ.regs.map (Slot.map (scrub id)), own := ins id (.cells (l.take off ++ vs ++ l.drop (off + vs.length))) σ.own }
          else none
        | none => none
      | _ => none
    | _ => none

theorem okb_same {H H' : Nat} {own : List (Nat × Blk N)} {E : Env} {id : Nat} {b b' : Blk N} (hH : H ≤ H') (hb : look own id = some b) {bs : List Nat} {g : Nat} (hg : okb H own E bs g) : okb H' (ins id b' own) E bs g := by
  refine ⟨⟨Nat.lt_of_lt_of_le hg.1.1 hH, hg.1.2⟩, fun j hj hjb => hg.2 j ?_ hjb⟩
  rw [look_ins] at hj
  by_cases h : id = j
  · subst h; rw [hb]; rfl
  · rw [if_neg h] at hj; exact hj

theorem splice_take {cs vs : List Value} {o m : Nat} (h : o + vs.length ≤ m) : (splice cs o vs).take m = splice (cs.take m) o vs := by
  unfold splice
  by_cases hm : m ≤ cs.length
  · rw [List.take_append, List.take_append, List.take_take, List.length_take, List.length_append, List.length_take]
    rw [List.drop_take]
    have h1 : vs.take (m - min o cs.length) = vs := List.take_of_length_le (by omega)
    rw [h1, show m - (min o cs.length + vs.length) = m - (o + vs.length) from by omega]
    congr 2
    rw [List.take_take, Nat.min_comm]
  · have h1 : cs.take m = cs := List.take_of_length_le (by omega)
    rw [h1]
    apply List.take_of_length_le
    simp only [List.length_append, List.length_take, List.length_drop]
    omega

theorem storeVals_rel {io : Io} {w0 w : World} {σ : St N} {E : Env} {a : Act} (hr : RelE io w0 σ E a w) (F : Fits P N τ) {t : TypeId} {tv : Ty} {e : TypeId} (hτ : τ t = some ⟨tv, e⟩) {x : Operand} {vs : List (RV N)} (h : storeVals σ.own tv (ev σ x) = some vs) :
    ∃ cs : List Value, (a.eval x).cells.toList = cs ∧ cs.length = vs.length ∧ cs.length = N.sz tv ∧ (∀ u ∈ cs, u.oneCell' = true) ∧ ∀ (i : Nat) r u, vs[i]? = some r → cs[i]? = some u → RVRel w σ.own E r u := by
  have hl : ∀ {tv : Ty}, N.sz tv = 1 → loose (ev σ x) = true → vs = [ev σ x] → ∃ cs : List Value, (a.eval x).cells.toList = cs ∧ cs.length = vs.length ∧ cs.length = N.sz tv ∧ (∀ u ∈ cs, u.oneCell' = true) ∧ ∀ (i : Nat) r u, vs[i]? = some r → cs[i]? = some u → RVRel w σ.own E r u := by
    intro tv hs hlo hv
    subst hv
    have hx := hr.ev x
    have hc := loose_cells hlo hx hr.rowVal
    refine ⟨[a.eval x], by rw [hc], rfl, hs.symm, fun u hu => ?_, fun i r u hi hu => ?_⟩
    · simp at hu
      subst hu
      generalize ev σ x = q at hlo hx
      cases q <;> try (cases hlo; done)
      case own id =>
        obtain ⟨e1, n, t, e', xs, bs, p, h1, _⟩ := hx
        obtain ⟨_, A, cap, hv⟩ := hr.rowRep h1
        rw [e1, hv]; rfl
      case fn f caps => rw [hx.1]; rfl
      case bptr id off => obtain ⟨_, g, _, hv⟩ := hx; rw [hv]; rfl
    · match i, hi with
      | 0, hi =>
        simp only [List.getElem?_cons_zero, Option.some.injEq] at hi hu
        subst hi
        subst hu
        exact hx
  have hn : ∀ {tv : Ty}, N.sz tv = 1 → isNilR (ev σ x) = true → vs = [ev σ x] → ∃ cs : List Value, (a.eval x).cells.toList = cs ∧ cs.length = vs.length ∧ cs.length = N.sz tv ∧ (∀ u ∈ cs, u.oneCell' = true) ∧ ∀ (i : Nat) r u, vs[i]? = some r → cs[i]? = some u → RVRel w σ.own E r u := by
    intro tv hs hlo hv
    subst hv
    have hx := hr.ev x
    have hxn : ev σ x = .nil := by
      generalize ev σ x = q at hlo
      cases q <;> first | rfl | cases hlo
    rw [hxn] at hx
    have hv : a.eval x = .slice none 0 0 := hx
    rw [hxn, hv]
    refine ⟨[.slice none 0 0], rfl, rfl, hs.symm, fun u hu => by simp at hu; subst hu; rfl, fun i r u hi hu => ?_⟩
    match i, hi with
    | 0, hi =>
      simp only [List.getElem?_cons_zero, Option.some.injEq] at hi hu
      subst hi
      subst hu
      rfl
  have hd : ∀ {tv : Ty}, (∀ n, tv ≠ .nm n) → N.sz tv = 1 → ∀ y b, toDen σ.own tv (ev σ x) = some (y, b) → vs = [ofDen tv y b] → ∃ cs : List Value, (a.eval x).cells.toList = cs ∧ cs.length = vs.length ∧ cs.length = N.sz tv ∧ (∀ u ∈ cs, u.oneCell' = true) ∧ ∀ (i : Nat) r u, vs[i]? = some r → cs[i]? = some u → RVRel w σ.own E r u := by
    intro tv hnn hs y b hy hv
    obtain ⟨cs, h1, h2⟩ := hr.toDen hy (hr.ev x)
    have h3 := AsV_cells h1 h2
    have h4 := AsV_ty h1 hnn h2
    subst hv
    refine ⟨cs, h3, by rw [h4]; rfl, Rep_length h1, Rep_one h1, fun i r u hi hu => ?_⟩
    rw [h4] at hu
    match i, hi with
    | 0, hi =>
      simp only [List.getElem?_cons_zero, Option.some.injEq] at hi hu
      subst hi
      subst hu
      exact ofDen_rel h1 h2
  have hgen : ∀ {tv : Ty}, (∀ n, tv ≠ .nm n) → N.sz tv = 1 → (bif loose (ev σ x) || isNilR (ev σ x) then some [ev σ x] else match toDen σ.own tv (ev σ x) with | some (y, b) => some [ofDen tv y b] | none => none) = some vs → ∃ cs : List Value, (a.eval x).cells.toList = cs ∧ cs.length = vs.length ∧ cs.length = N.sz tv ∧ (∀ u ∈ cs, u.oneCell' = true) ∧ ∀ (i : Nat) r u, vs[i]? = some r → cs[i]? = some u → RVRel w σ.own E r u := by
    intro tv hnn hs h
    cases hlo : loose (ev σ x) with
    | true => rw [hlo] at h; exact hl hs hlo (Option.some.inj h).symm
    | false =>
      cases hni : isNilR (ev σ x) with
      | true => rw [hlo, hni] at h; exact hn hs hni (Option.some.inj h).symm
      | false =>
        rw [hlo, hni] at h
        simp only [Bool.or_self, cond_false] at h
        split at h
        · rename_i y b hy
          exact hd hnn hs y b hy (Option.some.inj h).symm
        · cases h
  cases tv with
  | nm n =>
    simp only [storeVals] at h
    split at h
    · rename_i y b hy
      obtain ⟨cs, h1, h2⟩ := hr.toDen hy (hr.ev x)
      obtain ⟨k1, k2⟩ := expl_rel 8 (.nm n) y vs cs h h1
      exact ⟨cs, AsV_cells h1 h2, k1.symm, Rep_length h1, Rep_one h1, k2⟩
    · cases h
  | opq =>
    simp only [storeVals] at h
    cases hlo : loose (ev σ x) with
    | true => rw [hlo] at h; exact hl rfl hlo (Option.some.inj h).symm
    | false => rw [hlo] at h; cases h
  | int k => exact hgen (fun n hn => by cases hn) rfl h
  | bool => exact hgen (fun n hn => by cases hn) rfl h
  | str => exact hgen (fun n hn => by cases hn) rfl h
  | sl e => exact hgen (fun n hn => by cases hn) rfl h

theorem RowC_trans {α : Type} {R R' : α → List Value → Prop} {xs : List α} {cs : List Value} (h : ∀ x cs, R x cs → R' x cs) (hx : RowC R xs cs) : RowC R' xs cs := RowC_mono h hx

theorem splice_ofCells {arr : Array Value} {o : Nat} {vs : List Value} (h : o + vs.length ≤ arr.size) : (splice arr.toList o vs).toArray.size = arr.size := by
  have := splice_length (cs := arr.toList) (vs := vs) (off := o) (by simpa using h)
  simpa using this

theorem splice_get {arr : Array Value} {o : Nat} {vs : List Value} (h : o + vs.length ≤ arr.size) (i : Nat) : (splice arr.toList o vs).toArray[i]? = if i < o then arr[i]? else if i < o + vs.length then vs[i - o]? else arr[i]? := by
  have ho : (arr.toList.take o).length = o := by simp; omega
  rw [List.getElem?_toArray]
  unfold splice
  by_cases h1 : i < o
  · rw [if_pos h1, List.append_assoc, List.getElem?_append_left (by omega), List.getElem?_take, if_pos h1]
    simp
  · rw [if_neg h1, List.append_assoc, List.getElem?_append_right (by omega), ho]
    by_cases h2 : i < o + vs.length
    · rw [if_pos h2, List.getElem?_append_left (by omega)]
    · rw [if_neg h2, List.getElem?_append_right (by omega), List.getElem?_drop]
      rw [show o + vs.length + (i - o - vs.length) = i from by omega]
      simp

theorem listSplice_get {β : Type} {l vs : List β} {o : Nat} (h : o + vs.length ≤ l.length) (i : Nat) : (l.take o ++ vs ++ l.drop (o + vs.length))[i]? = if i < o then l[i]? else if i < o + vs.length then vs[i - o]? else l[i]? := by
  have ho : (l.take o).length = o := by simp; omega
  by_cases h1 : i < o
  · rw [if_pos h1, List.append_assoc, List.getElem?_append_left (by omega), List.getElem?_take, if_pos h1]
  · rw [if_neg h1, List.append_assoc, List.getElem?_append_right (by omega), ho]
    by_cases h2 : i < o + vs.length
    · rw [if_pos h2, List.getElem?_append_left (by omega)]
    · rw [if_neg h2, List.getElem?_append_right (by omega), List.getElem?_drop]
      rw [show o + vs.length + (i - o - vs.length) = i from by omega]

/-- A store into single cells. -/
theorem store_cells (F : Fits P N τ) {σ : St N} {t : TypeId} {tv : Ty} {e : TypeId} (hτ : τ t = some ⟨tv, e⟩) {ad x : Operand} {id off : Nat} (had : ev σ ad = .bptr id off) {b0 : Blk N} (hb0 : look σ.own id = some b0)
    {l vs : List (RV N)} (hl : ∀ {io w0 E a w}, RelE io w0 σ E a w → BlkRel w σ.own E id (.cells l)) (hbox : sameShape b0 (.cells l)) (hvs : storeVals σ.own tv (ev σ x) = some vs)
    (hno : noBs' σ.own id = true) (hcon : (Blk.cells (l.take off ++ vs ++ l.drop (off + vs.length))).bs.contains id = false) (hlen : off + vs.length ≤ l.length) :
    DoesS P σ (fun a => Instr.storeAt t (a.eval ad) (a.eval x)) { regs := σ.regs.map (Slot.map (scrub id)), own := ins id (.cells (l.take off ++ vs ++ l.drop (off + vs.length))) σ.own } := by
  intro io w0 E a w hr
  have had' := hr.ev ad
  rw [had] at had'
  obtain ⟨_, g, h2, h3⟩ := had'
  obtain ⟨g', T, arr, c1, c2, c3, c4⟩ := hl hr
  rw [h2] at c1
  cases c1
  obtain ⟨cs, s1, s2, s3, s4, s5⟩ := storeVals_rel hr F hτ hvs
  have hs := F.sizeOf hτ w
  have hst := run_storeCells_at P g off T cs 0 arr w c2 (by omega) s4
  simp only [Nat.add_zero] at hst
  have hrun : (Instr.storeAt t (a.eval ad) (a.eval x)).run P w = .ok () (w.setRow g (splice arr.toList off cs).toArray) := by
    have hsz : (a.eval x).cells.size = N.sz tv := by rw [← s3, ← s1]; simp
    rw [h3]
    simp only [Instr.storeAt, Instr.sureAddr, storeVar, Sem.run_bind, Sem.run_pure, Result.andThen_ok, hs, s1]
    rw [if_neg (by rw [hsz]; simp)]
    exact hst
  have hw : w.grownBy (w.setRow g (splice arr.toList off cs).toArray) (blkOf (E id)) := by rw [h2]; exact setRow_grown w g _
  have hlook : look (ins id (Blk.cells (l.take off ++ vs ++ l.drop (off + vs.length))) σ.own) id = some (Blk.cells (l.take off ++ vs ++ l.drop (off + vs.length))) := by rw [look_ins, if_pos rfl]
  have hsh : sameShape b0 (Blk.cells (l.take off ++ vs ++ l.drop (off + vs.length))) := by
    cases b0 with
    | row e t xs bs p => exact hbox.elim
    | _ => trivial
  have hrv : ∀ r v, id ∉ r.bs → RVRel w σ.own E r v → RVRel (w.setRow g (splice arr.toList off cs).toArray) (ins id (Blk.cells (l.take off ++ vs ++ l.drop (off + vs.length))) σ.own) E r v := by
    intro r v hbs h
    refine RVRel_mono ?_ ?_ (fun j n t _ hj => ⟨isRow_shape hb0 hsh hj, rfl⟩) (fun j _ hj => ⟨isBox_shape hb0 hsh hj, rfl⟩) h
    · intro bs hbs' a u hb hc
      refine cell_grown hw (hb.2 id (by rw [hb0]; rfl) ?_) hc
      cases r <;> first | exact hbs'.elim | (subst hbs'; exact hbs)
    · intro bs _ g hg
      exact okb_same hw.size hb0 hg
  have hst := hr.store hb0 hsh (fun _ => rfl) hw (noBs'_spec hno) ⟨g, T, _, h2, setRow_heap w g arr _ T (0, 0) c2, by
    rw [splice_ofCells (by omega)]
    simp only [List.length_append, List.length_take, List.length_drop]
    omega, fun i r u hi hu => by
    have hmem : id ∉ r.bs := fun hm => contains_false hcon (List.mem_flatMap.2 ⟨r, List.mem_of_getElem? hi, hm⟩)
    rw [listSplice_get hlen] at hi
    rw [splice_get (by omega)] at hu
    split at hi
    · rename_i h5
      rw [if_pos h5] at hu
      exact hrv r u hmem (c4 i r u hi hu)
    · rename_i h5
      rw [if_neg h5] at hu
      split at hi
      · rename_i h6
        rw [if_pos (by omega)] at hu
        exact hrv r u hmem (s5 _ r u hi hu)
      · rename_i h6
        rw [if_neg (by omega)] at hu
        exact hrv r u hmem (c4 i r u hi hu)⟩
  exact ⟨_, E, hrun, hst⟩

theorem evStore_sound (F : Fits P N τ) {σ : St N} {t : TypeId} {ad x : Operand} {k : St N → Option β} {r : β} (h : evStore τ σ t (ev σ ad) (ev σ x) k = some r) :
    ∃ σ', k σ' = some r ∧ DoesS P σ (fun a => Instr.storeAt t (a.eval ad) (a.eval x)) σ' := by
  unfold evStore at h
  split at h
  · cases h
  · rename_i tv e hτ
    split at h
    · rename_i id i off had
      split at h
      · rename_i e' ty xs bs p hl
        split at h
        · rename_i y b hy
          obtain ⟨hc, h2⟩ := bif_none h
          clear h
          simp only [Bool.and_eq_true, Bool.not_eq_true'] at hc
          obtain ⟨hno, hcon⟩ := hc
          have hnot := contains_false hcon
          have hn1 : id ∉ bs := fun hm => hnot (List.mem_append.2 (.inl hm))
          have hn2 : id ∉ b := fun hm => hnot (List.mem_append.2 (.inr hm))
          split at h2
          · rename_i x' hx'
            refine ⟨_, h2, fun io w0 E a w hr => ?_⟩
            have had' := hr.ev ad
            rw [had] at had'
            obtain ⟨g, cap, n, t', ⟨e2, xs2, bs2, p2, q1, q2⟩, k2, k3, k4⟩ := had'
            rw [hl] at q1
            cases q1
            subst q2
            obtain ⟨cells, c1, c2⟩ := hr.own id _ hl
            obtain ⟨vs, v1, v2⟩ := hr.toDen hy (hr.ev x)
            rcases c1.2 with ⟨hv, hn⟩ | ⟨g', cap', cur, hv, hb0, hg, hnc, hcm, hcs, ht⟩
            · rw [k3] at hv; cases hv
            · rw [k3] at hv
              simp only [Value.slice.injEq, Option.some.injEq, Addr.mk.injEq] at hv
              obtain ⟨⟨rfl, _⟩, _, rfl⟩ := hv
              rw [List.getD_eq_getElem?_getD, List.getElem?_eq_getElem k2] at hx'
              have hrowlen := RowC_length (fun x cs hx => Rep_length hx) c2
              -- fits
              obtain ⟨ccs, d1, d2, d3⟩ := RowC_get (fun x cs hx => Rep_length hx) c2 i xs[i] (List.getElem?_eq_getElem k2)
              have hany : ∀ ccs, Rep w (fun _ => True) ty xs[i] ccs → off + vs.length ≤ ccs.length := fun ccs hccs =>
                (updAt_rep (v := ⟨tv, y⟩) (Rep_mono (fun _ _ _ h => h) (fun _ _ => trivial) v1) 8 ty _ off x' ccs hx' hccs).2
              have hfit1 := hany ccs (Rep_mono (fun _ _ _ h => h) (fun _ _ => trivial) d1)
              have hccl := Rep_length d1
              have hm1 : (i + 1) * N.sz ty = i * N.sz ty + N.sz ty := by rw [Nat.add_mul, Nat.one_mul]
              have hfit : i * N.sz ty + off + vs.length ≤ cur.size := by
                have h5 : cells.length ≤ cur.size := by rw [← ht, List.length_take]; simp; omega
                omega
              have hrun := F.store hτ (w := w) v1 v2 (g := g) (off := i * N.sz ty + off) hg hfit
              have hw : w.grownBy (w.setRow g (splice cur.toList (i * N.sz ty + off) vs).toArray) (blkOf (E id)) := by rw [k3]; exact setRow_grown w g _
              have tr : ∀ bs0, id ∉ bs0 → (∀ i ∈ bs0, i ∈ bs ++ b) → ∀ (t : Ty) (x : t.den N.ρ) cs, Rep w (okb w.heap.size σ.own E bs0) t x cs →
                  Rep (w.setRow g (splice cur.toList (i * N.sz ty + off) vs).toArray) (okb (w.setRow g (splice cur.toList (i * N.sz ty + off) vs).toArray).heap.size (ins id (.row e' ty (xs.set i x') (bs ++ b) p) σ.own) E (bs ++ b)) t x cs := by
                intro bs0 h0 hsub t x cs hx
                exact Rep_mono (fun a u hb hc => cell_grown hw (hb.2 id (by rw [hl]; rfl) h0) hc) (fun g hg => okb_more hsub (okb_same hw.size hl hg)) hx
              have hrow := RowC_mono (fun x cs hx => tr bs hn1 (fun i hi => List.mem_append.2 (.inl hi)) ty x cs hx) c2
              have hval := tr b hn2 (fun i hi => List.mem_append.2 (.inr hi)) tv y vs v1
              obtain ⟨u1, u2⟩ := RowC_upd (x' := x') (off := off) (vs := vs) (fun x cs hx => Rep_length hx) hrow i xs[i] (List.getElem?_eq_getElem k2) (fun ccs hccs => updAt_rep (v := ⟨tv, y⟩) hval 8 ty _ off x' ccs hx' hccs)
              have hst := hr.store hl (b' := .row e' ty (xs.set i x') (bs ++ b) p) ⟨rfl, by simp⟩ (fun h => h) hw (noBs'_spec hno) ⟨splice cells (i * N.sz ty + off) vs, ⟨by rw [splice_length u2, List.length_set]; exact hrowlen, .inr ⟨g, cap, _, by rw [List.length_set]; exact k3, hb0, setRow_heap w g cur _ e' (0, 0) hg, by rw [List.length_set]; exact hnc, hcm, by rw [splice_ofCells hfit]; exact hcs, by
                rw [List.length_set]
                show (splice cur.toList (i * N.sz ty + off) vs).take (xs.length * N.sz ty) = _
                rw [splice_take (by omega), ht]⟩⟩, u1⟩
              exact ⟨_, E, by show (Instr.storeAt t (a.eval ad) (a.eval x)).run P w = _; rw [k4]; exact hrun, hst⟩
          · cases h2
        · cases h
      · cases h
    · rename_i id off had
      split at h
      · rename_i tb xv bs hl
        cases hlo : (loose (ev σ x) || isNilR (ev σ x)) with
        | true =>
          rw [hlo] at h
          simp only [cond_true] at h
          split at h
          · rename_i l vs hx hvs
            obtain ⟨hc, h2⟩ := bif_none h
            clear h
            simp only [Bool.and_eq_true, Bool.not_eq_true'] at hc
            obtain ⟨⟨hno, hcon⟩, hlen⟩ := hc
            exact ⟨_, h2, store_cells F hτ had hl (fun hr => by
              obtain ⟨g, T, arr, c1, c2, c3⟩ := hr.own id _ hl
              obtain ⟨k1, k2⟩ := expl_rel 8 tb xv l _ hx c3
              exact ⟨g, T, arr, c1, c2, by simpa using k1.symm, fun i r u hi hu => k2 i r u hi (by simpa using hu)⟩) trivial hvs hno hcon (Nat.le_of_ble_eq_true hlen)⟩
          · cases h
        | false =>
          rw [hlo] at h
          simp only [cond_false] at h
          split at h
          · rename_i y b hy
            obtain ⟨hc, h2⟩ := bif_none h
            clear h
            simp only [Bool.and_eq_true, Bool.not_eq_true'] at hc
            obtain ⟨hno, hcon⟩ := hc
            have hnot := contains_false hcon
            have hn1 : id ∉ bs := fun hm => hnot (List.mem_append.2 (.inl hm))
            have hn2 : id ∉ b := fun hm => hnot (List.mem_append.2 (.inr hm))
            split at h2
            · rename_i x' hx'
              refine ⟨_, h2, fun io w0 E a w hr => ?_⟩
              have had' := hr.ev ad
              rw [had] at had'
              obtain ⟨_, g, k2, k3⟩ := had'
              obtain ⟨g', T, arr, c1, c2, c3⟩ := hr.own id _ hl
              rw [k2] at c1
              cases c1
              obtain ⟨vs, v1, v2⟩ := hr.toDen hy (hr.ev x)
              have hfit1 := (updAt_rep (v := ⟨tv, y⟩) (Rep_mono (fun _ _ _ h => h) (fun _ _ => trivial) v1) 8 tb _ off x' _ hx' (Rep_mono (ok' := fun _ => True) (fun _ _ _ h => h) (fun _ _ => trivial) c3)).2
              have hfit : off + vs.length ≤ arr.size := by simpa using hfit1
              have hrun := F.store hτ (w := w) v1 v2 (g := g) (off := off) c2 hfit
              have hw : w.grownBy (w.setRow g (splice arr.toList off vs).toArray) (blkOf (E id)) := by rw [k2]; exact setRow_grown w g _
              have tr : ∀ bs0, id ∉ bs0 → (∀ i ∈ bs0, i ∈ bs ++ b) → ∀ (t : Ty) (x : t.den N.ρ) cs, Rep w (okb w.heap.size σ.own E bs0) t x cs →
                  Rep (w.setRow g (splice arr.toList off vs).toArray) (okb (w.setRow g (splice arr.toList off vs).toArray).heap.size (ins id (.whole tb x' (bs ++ b)) σ.own) E (bs ++ b)) t x cs := by
                intro bs0 h0 hsub t x cs hx
                exact Rep_mono (fun a u hb hc => cell_grown hw (hb.2 id (by rw [hl]; rfl) h0) hc) (fun g hg => okb_more hsub (okb_same hw.size hl hg)) hx
              have hbase := tr bs hn1 (fun i hi => List.mem_append.2 (.inl hi)) tb xv _ c3
              have hval := tr b hn2 (fun i hi => List.mem_append.2 (.inr hi)) tv y vs v1
              have hst := hr.store hl (b' := .whole tb x' (bs ++ b)) trivial (fun h => h) hw (noBs'_spec hno) ⟨g, T, _, k2, setRow_heap w g arr _ T (0, 0) c2, (updAt_rep (v := ⟨tv, y⟩) hval 8 tb _ off x' _ hx' hbase).1⟩
              exact ⟨_, E, by show (Instr.storeAt t (a.eval ad) (a.eval x)).run P w = _; rw [k3]; exact hrun, hst⟩
            · cases h2
          · cases h
      · rename_i l hl
        split at h
        · rename_i vs hvs
          obtain ⟨hc, h2⟩ := bif_none h
          clear h
          simp only [Bool.and_eq_true, Bool.not_eq_true'] at hc
          obtain ⟨⟨hno, hcon⟩, hlen⟩ := hc
          exact ⟨_, h2, store_cells F hτ had hl (fun hr => hr.own id _ hl) trivial hvs hno hcon (Nat.le_of_ble_eq_true hlen)⟩
        · cases h
      · cases h
    · cases h

end Go.Eng
