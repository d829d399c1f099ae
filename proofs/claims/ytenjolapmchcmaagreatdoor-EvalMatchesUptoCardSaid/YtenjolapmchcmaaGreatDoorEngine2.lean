/- The engine, part KV: structs that are known cell by cell.
The engine, part L: loads, cuts, conversions, lengths.
The engine, part M: cuts, conversions, lengths.
The engine, part N: literals, new rows and boxes.
The engine, part O: new boxes and rows.
The engine, part P: slice literals, append, stores.
The engine, part Q: append and stores, on the state.
The engine, part R: stores.
The engine, part RC: copy.
The engine, part S: several own blocks are handed to a call and come back turned. -/
import Derived.Test.YtenjolapmchcmaaGreatDoorEngine1
import Derived.Lib.ConvBytes
import Derived.Laws.BytesArg
import Derived.Laws.OwnMore
import Derived.Laws.MakeOwn
import Derived.Maps.AppendAt
import Derived.Lib.AppendStr
set_option linter.unusedVariables false
set_option linter.unusedSimpArgs false
namespace Go.Eng
variable {N : Names} {P : Program} {τ : TypeId → Option TI} {β : Type} {io : Io} {w0 w w' : World} {σ : St N} {E : Env} {a : Act}
theorem look_insAll {β : Type} : ∀ (new l : List (Nat × β)) (j : Nat), look (insAll new l) j = match look new j with
  | some b => some b
  | none => look l j
 | [], l, j => rfl
 | (i, v) :: r, l, j => by
  simp only [insAll, look_ins, look_insAll r l j, look]
  cases h : (i == j) with
  | true =>
   have : i = j := by simpa using h
   simp [this]
  | false =>
   have : i ≠ j := by simpa using h
   simp [this]
def tyAt : List Ty → Nat → Option Ty
 | [], _ => none
 | t :: _, 0 => some t
 | _ :: ts, i + 1 => tyAt ts i
theorem FieldsFit_ty : ∀ (ts : List Ty) (off : Nat) (fs : List Field) (i : Nat) (t : Ty), FieldsFit N τ ts off fs → tyAt ts i = some t → ∃ f e, fs[i]? = some f ∧ f.offset = off + offL N ts i ∧ τ f.type = some ⟨t, e⟩
 | [], _, _, _, _, _, h => by cases h
 | _ :: _, _, [], _, _, hf, _ => hf.elim
 | t :: ts, off, f :: fs, 0, t', hf, h => by
  cases h
  obtain ⟨f1, ⟨e, f2⟩, _⟩ := hf
  exact ⟨f, e, rfl, by simp [offL, f1], f2⟩
 | t :: ts, off, f :: fs, i + 1, t', hf, h => by
  obtain ⟨_, _, _, _, f5⟩ := hf
  obtain ⟨f', e, h1, h2, h3⟩ := FieldsFit_ty ts _ fs i t' f5 h
  exact ⟨f', e, by simpa using h1, by rw [h2]; simp [offL, Nat.add_assoc], h3⟩
theorem AsV_cells {w : World} {ok : Nat → Prop} {t : Ty} {x : t.den N.ρ} {v : Value} {cs : List Value} (hr : Rep w ok t x cs) (hv : AsV t v cs) : v.cells.toList = cs := by
 cases t with
 | nm n => rw [show v = _ from hv]; rfl
 | _ =>
  have hv' : cs = [v] := hv
  have hone := Rep_one hr v (by rw [hv']; simp)
  rw [hv']
  cases v <;> first | rfl | cases hone
def loose : RV N → Bool
 | .own _ => true
 | .fn _ _ => true
 | .bptr _ _ => true
 | _ => false
def isNilR : RV N → Bool
 | .nil => true
 | _ => false
def explL (g : (t : Ty) → t.den N.ρ → Option (List (RV N))) : (ts : List Ty) → HL N.ρ ts → Option (List (RV N))
 | [], _ => some []
 | t :: ts, x => match g t x.1, explL g ts x.2 with
  | some l, some m => some (l ++ m)
  | _, _ => none
def expl (bs : List Nat) : Nat → (t : Ty) → t.den N.ρ → Option (List (RV N))
 | _, .int k, n => some [.int k n]
 | _, .bool, b => some [.bool b]
 | _, .str, l => some [.str l]
 | _, .sl e, x => some [.data (.sl e) x bs]
 | _, .opq, _ => some [.undef]
 | 0, .nm _, _ => none
 | f + 1, .nm n, x => explL (expl bs f) (N.body n) (N.un n x)
theorem explL_rel {w : World} {own : List (Nat × Blk N)} {E : Env} {bs : List Nat} {g : (t : Ty) → t.den N.ρ → Option (List (RV N))}
  (hg : ∀ (t : Ty) (x : t.den N.ρ) l cs, g t x = some l → Rep w (okb w.heap.size own E bs) t x cs → l.length = cs.length ∧ ∀ (i : Nat) r u, l[i]? = some r → cs[i]? = some u → RVRel w own E r u) :
  ∀ (ts : List Ty) (x : HL N.ρ ts) (l : List (RV N)) (cs : List Value), explL g ts x = some l → RepL w (okb w.heap.size own E bs) (RepN w (okb w.heap.size own E bs)) ts x cs → l.length = cs.length ∧ ∀ (i : Nat) r u, l[i]? = some r → cs[i]? = some u → RVRel w own E r u
 | [], _, l, cs, h, hr => by
  cases h
  rw [show cs = [] from hr]
  exact ⟨rfl, fun i r u hi _ => by simp at hi⟩
 | t :: ts, x, l, cs, h, ⟨c1, c2, e, h1, h2⟩ => by
  subst e
  simp only [explL] at h
  split at h
  ·rename_i l1 l2 e1 e2
   cases h
   obtain ⟨k1, k2⟩ := hg t x.1 l1 c1 e1 h1
   obtain ⟨k3, k4⟩ := explL_rel hg ts x.2 l2 c2 e2 h2
   refine ⟨by simp [k1, k3], fun i r u hi hu => ?_⟩
   by_cases hlt : i < l1.length
   ·rw [List.getElem?_append_left hlt] at hi
    rw [List.getElem?_append_left (by omega)] at hu
    exact k2 i r u hi hu
   ·rw [List.getElem?_append_right (by omega)] at hi
    rw [List.getElem?_append_right (by omega), ← k1] at hu
    exact k4 _ r u hi hu
  ·cases h
theorem expl_rel {w : World} {own : List (Nat × Blk N)} {E : Env} {bs : List Nat} : ∀ (f : Nat) (t : Ty) (x : t.den N.ρ) (l : List (RV N)) (cs : List Value), expl bs f t x = some l → Rep w (okb w.heap.size own E bs) t x cs →
  l.length = cs.length ∧ ∀ (i : Nat) r u, l[i]? = some r → cs[i]? = some u → RVRel w own E r u := by
 intro f
 have flat : ∀ (t : Ty) (x : t.den N.ρ) (cs : List Value) (u : Value), cs = [u] → Rep w (okb w.heap.size own E bs) t x cs → AsV t u cs → ∀ l, l = [ofDen t x bs] → l.length = cs.length ∧ ∀ (i : Nat) r u, l[i]? = some r → cs[i]? = some u → RVRel w own E r u := by
  intro t x cs u hc hr hv l hl
  have := ofDen_rel hr hv
  subst hc
  subst hl
  refine ⟨rfl, fun i r u' hi hu => ?_⟩
  match i, hi with
  | 0, hi =>
   simp only [List.getElem?_cons_zero, Option.some.injEq] at hi hu
   subst hi
   subst hu
   exact this
 induction f with
 | zero =>
  intro t x l cs h hr
  cases t with
  | nm n => cases h
  | int k => exact flat (.int k) x cs _ hr hr hr l (Option.some.inj h).symm
  | bool => exact flat .bool x cs _ hr hr hr l (Option.some.inj h).symm
  | str => obtain ⟨s, e, h2⟩ := hr; exact flat .str x cs _ e ⟨s, e, h2⟩ e l (Option.some.inj h).symm
  | sl e' => obtain ⟨A, cap, e, h2⟩ := hr; exact flat (.sl e') x cs _ e ⟨A, cap, e, h2⟩ e l (Option.some.inj h).symm
  | opq => obtain ⟨v, e, h2⟩ := hr; exact flat .opq x cs _ e ⟨v, e, h2⟩ e l (Option.some.inj h).symm
 | succ f ih =>
  intro t x l cs h hr
  cases t with
  | nm n => exact explL_rel ih (N.body n) (N.un n x) l cs h (RepN_open hr)
  | int k => exact flat (.int k) x cs _ hr hr hr l (Option.some.inj h).symm
  | bool => exact flat .bool x cs _ hr hr hr l (Option.some.inj h).symm
  | str => obtain ⟨s, e, h2⟩ := hr; exact flat .str x cs _ e ⟨s, e, h2⟩ e l (Option.some.inj h).symm
  | sl e' => obtain ⟨A, cap, e, h2⟩ := hr; exact flat (.sl e') x cs _ e ⟨A, cap, e, h2⟩ e l (Option.some.inj h).symm
  | opq => obtain ⟨v, e, h2⟩ := hr; exact flat .opq x cs _ e ⟨v, e, h2⟩ e l (Option.some.inj h).symm
def freshIds (own : List (Nat × Blk N)) : List Nat → Bool
 | [] => true
 | i :: r => (match look own i with | none => true | some _ => false) && freshIds own r
theorem freshIds_spec {own : List (Nat × Blk N)} : ∀ {l : List Nat}, freshIds own l = true → ∀ i ∈ l, look own i = none
 | [], _, i, hi => by cases hi
 | x :: l, h, i, hi => by
  simp only [freshIds, Bool.and_eq_true] at h
  rcases List.mem_cons.1 hi with rfl | hi
  ·cases hl : look own i with
   | none => rfl
   | some b => rw [hl] at h; exact absurd h.1 (by simp)
  ·exact freshIds_spec h.2 i hi
theorem loose_cells {w : World} {own : List (Nat × Blk N)} {E : Env} {r : RV N} {v : Value} (hl : loose r = true) (hr : RVRel w own E r v) (hE : ∀ id, (∃ n t, isRow own id n t) → (E id).cells = #[E id]) : v.cells = #[v] := by
 cases r <;> try (cases hl; done)
 case own id => obtain ⟨rfl, h⟩ := hr; exact hE id h
 case fn f caps => rw [hr.1]; rfl
 case bptr id off => obtain ⟨_, g, _, rfl⟩ := hr; rfl
theorem RelE.rowVal {io : Io} {w0 w : World} {σ : St N} {E : Env} {a : Act} (h : RelE io w0 σ E a w) (id : Nat) (hr : ∃ n t, isRow σ.own id n t) : (E id).cells = #[E id] := by
 obtain ⟨n, t, e, xs, bs, p, h1, _⟩ := hr
 obtain ⟨_, A, cap, hv⟩ := h.rowRep h1
 rw [hv]
 rfl
def storeVals (own : List (Nat × Blk N)) (tv : Ty) (v : RV N) : Option (List (RV N)) :=
 match tv with
 | .nm n => match v with
  | .mp id => match look own id with
   | some (.vals m l) => bif Nat.beq m n && Nat.beq l.length (N.size n) then some l else none
   | _ => none
  | v => match toDen own (.nm n) v with
   | some (y, b) => expl b 8 (.nm n) y
   | none => none
 | .opq => bif loose v then some [v] else none
 | tv => bif loose v || isNilR v then some [v] else match toDen own tv v with
  | some (y, b) => some [ofDen tv y b]
  | none => none
theorem storeVals_rv (hr : RelE io w0 σ E a w) {tv : Ty} {rx : RV N} {vx : Value} (hx0 : RVRel w σ.own E rx vx) {vs : List (RV N)} (h : storeVals σ.own tv rx = some vs) :
  ∃ cs : List Value, (vx).cells.toList = cs ∧ cs.length = vs.length ∧ cs.length = N.sz tv ∧ (∀ u ∈ cs, u.oneCell' = true) ∧ ∀ (i : Nat) r u, vs[i]? = some r → cs[i]? = some u → RVRel w σ.own E r u := by
 have hl : ∀ {tv : Ty}, N.sz tv = 1 → loose (rx) = true → vs = [rx] → ∃ cs : List Value, (vx).cells.toList = cs ∧ cs.length = vs.length ∧ cs.length = N.sz tv ∧ (∀ u ∈ cs, u.oneCell' = true) ∧ ∀ (i : Nat) r u, vs[i]? = some r → cs[i]? = some u → RVRel w σ.own E r u := by
  intro tv hs hlo hv
  subst hv
  have hx := hx0
  have hc := loose_cells hlo hx hr.rowVal
  refine ⟨[vx], by rw [hc], rfl, hs.symm, fun u hu => ?_, fun i r u hi hu => ?_⟩
  ·simp at hu
   subst hu
   generalize rx = q at hlo hx
   cases q <;> try (cases hlo; done)
   case own id =>
    obtain ⟨e1, n, t, e', xs, bs, p, h1, _⟩ := hx
    obtain ⟨_, A, cap, hv⟩ := hr.rowRep h1
    rw [e1, hv]; rfl
   case fn f caps => rw [hx.1]; rfl
   case bptr id off => obtain ⟨_, g, _, hv⟩ := hx; rw [hv]; rfl
  ·match i, hi with
   | 0, hi =>
    simp only [List.getElem?_cons_zero, Option.some.injEq] at hi hu
    subst hi
    subst hu
    exact hx
 have hn : ∀ {tv : Ty}, N.sz tv = 1 → isNilR (rx) = true → vs = [rx] → ∃ cs : List Value, (vx).cells.toList = cs ∧ cs.length = vs.length ∧ cs.length = N.sz tv ∧ (∀ u ∈ cs, u.oneCell' = true) ∧ ∀ (i : Nat) r u, vs[i]? = some r → cs[i]? = some u → RVRel w σ.own E r u := by
  intro tv hs hlo hv
  subst hv
  have hx := hx0
  have hxn : rx = .nil := by
   generalize rx = q at hlo
   cases q <;> first | rfl | cases hlo
  rw [hxn] at hx
  have hv : vx = .slice none 0 0 := hx
  rw [hxn, hv]
  refine ⟨[.slice none 0 0], rfl, rfl, hs.symm, fun u hu => by simp at hu; subst hu; rfl, fun i r u hi hu => ?_⟩
  match i, hi with
  | 0, hi =>
   simp only [List.getElem?_cons_zero, Option.some.injEq] at hi hu
   subst hi
   subst hu
   rfl
 have hd : ∀ {tv : Ty}, (∀ n, tv ≠ .nm n) → N.sz tv = 1 → ∀ y b, toDen σ.own tv (rx) = some (y, b) → vs = [ofDen tv y b] → ∃ cs : List Value, (vx).cells.toList = cs ∧ cs.length = vs.length ∧ cs.length = N.sz tv ∧ (∀ u ∈ cs, u.oneCell' = true) ∧ ∀ (i : Nat) r u, vs[i]? = some r → cs[i]? = some u → RVRel w σ.own E r u := by
  intro tv hnn hs y b hy hv
  obtain ⟨cs, h1, h2⟩ := hr.toDen hy (hx0)
  have h3 := AsV_cells h1 h2
  have h4 := AsV_ty h1 hnn h2
  subst hv
  refine ⟨cs, h3, by rw [h4]; rfl, Rep_length h1, Rep_one h1, fun i r u hi hu => ?_⟩
  rw [h4] at hu
  match i, hi with
  | 0, hi =>
   simp only [List.getElem?_cons_zero, Option.some.injEq] at hi hu
   subst hi
   subst hu
   exact ofDen_rel h1 h2
 have hgen : ∀ {tv : Ty}, (∀ n, tv ≠ .nm n) → N.sz tv = 1 → (bif loose (rx) || isNilR (rx) then some [rx] else match toDen σ.own tv (rx) with | some (y, b) => some [ofDen tv y b] | none => none) = some vs → ∃ cs : List Value, (vx).cells.toList = cs ∧ cs.length = vs.length ∧ cs.length = N.sz tv ∧ (∀ u ∈ cs, u.oneCell' = true) ∧ ∀ (i : Nat) r u, vs[i]? = some r → cs[i]? = some u → RVRel w σ.own E r u := by
  intro tv hnn hs h
  cases hlo : loose (rx) with
  | true => rw [hlo] at h; exact hl hs hlo (Option.some.inj h).symm
  | false =>
   cases hni : isNilR (rx) with
   | true => rw [hlo, hni] at h; exact hn hs hni (Option.some.inj h).symm
   | false =>
    rw [hlo, hni] at h
    simp only [Bool.or_self, cond_false] at h
    split at h
    ·rename_i y b hy
     exact hd hnn hs y b hy (Option.some.inj h).symm
    ·cases h
 cases tv with
 | nm n =>
  simp only [storeVals] at h
  split at h
  ·split at h
   ·rename_i id _ m l hlk
    obtain ⟨hc, h⟩ := bif_none h
    simp only [Bool.and_eq_true] at hc
    cases h
    obtain ⟨arr, k1, k2, k3, k4⟩ := hr.own id _ hlk
    refine ⟨arr.toList, by rw [hx0.2, k1]; rfl, by simpa using k2, by rw [Array.length_toList, k2]; exact Nat.eq_of_beq_eq_true hc.2, k3, fun i r u hi hu => k4 i r u hi (by simpa using hu)⟩
   ·cases h
  ·split at h
   ·rename_i y b hy
    obtain ⟨cs, h1, h2⟩ := hr.toDen hy (hx0)
    obtain ⟨k1, k2⟩ := expl_rel 8 (.nm n) y vs cs h h1
    exact ⟨cs, AsV_cells h1 h2, k1.symm, Rep_length h1, Rep_one h1, k2⟩
   ·cases h
 | opq =>
  simp only [storeVals] at h
  cases hlo : loose (rx) with
  | true => rw [hlo] at h; exact hl rfl hlo (Option.some.inj h).symm
  | false => rw [hlo] at h; cases h
 | int k => exact hgen (fun n hn => by cases hn) rfl h
 | bool => exact hgen (fun n hn => by cases hn) rfl h
 | str => exact hgen (fun n hn => by cases hn) rfl h
 | sl e => exact hgen (fun n hn => by cases hn) rfl h
def cellK : RV N → Bool
 | .int _ _ => true
 | .bool _ => true
 | .str _ => true
 | .nil => true
 | .own _ => true
 | .bptr _ _ => true
 | .fn _ _ => true
 | .data t _ _ => match t with
  | .nm _ => false
  | _ => true
 | _ => false
theorem RelE.cellOne (h : RelE io w0 σ E a w) {r : RV N} {v : Value} (hr : RVRel w σ.own E r v) (hc : cellK r = true) : v.oneCell' = true := by
 cases r with
 | int k n => rw [show v = _ from hr]; rfl
 | bool b => rw [show v = _ from hr]; rfl
 | str l => obtain ⟨s, e, _⟩ := hr; rw [e]; rfl
 | nil => rw [show v = _ from hr]; rfl
 | own id =>
  obtain ⟨rfl, n, t, e, xs, bs, p, h1, _⟩ := hr
  obtain ⟨_, A, cap, hv⟩ := h.rowRep h1
  rw [hv]; rfl
 | bptr id off => obtain ⟨_, g, _, rfl⟩ := hr; rfl
 | fn f caps => rw [hr.1]; rfl
 | data t x bs =>
  obtain ⟨cs, h1, h2⟩ := hr
  have hn : ∀ n, t ≠ .nm n := fun n e => by subst e; cases hc
  have := AsV_ty h1 hn h2
  exact Rep_one h1 v (by rw [this]; simp)
 | undef => cases hc
 | sptr t x bs => cases hc
 | optr id i off => cases hc
 | osl id lo n => cases hc
 | mp id => cases hc
 | nilf => cases hc
def nilRows (d : Nat) : Nat → List (Option (TypeId × Ty)) → List (RV N) → List (RV N) × List (Nat × Blk N)
 | j, some (el, e) :: ts, .nil :: l => match nilRows d (j + 1) ts l with
  | (m, es) => (.own (2000 + d + 10000 * j) :: m, (2000 + d + 10000 * j, .row el e [] [] false) :: es)
 | j, _ :: ts, r :: l => match nilRows d (j + 1) ts l with
  | (m, es) => (r :: m, es)
 | _, _, l => (l, [])
theorem nilRows_spec (d : Nat) : ∀ (j : Nat) (ts : List (Option (TypeId × Ty))) (l m : List (RV N)) (es : List (Nat × Blk N)), nilRows d j ts l = (m, es) →
  m.length = l.length ∧ (es.map (·.1)).Nodup ∧ (∀ p ∈ es, 2000 + d + 10000 * j ≤ p.1 ∧ ∃ el e, p.2 = .row el e [] [] false) ∧
  ∀ (i : Nat) r, m[i]? = some r → l[i]? = some r ∨ (l[i]? = some .nil ∧ ∃ p ∈ es, r = .own p.1)
 | j, [], l, m, es, h => by
  have h : (l, []) = (m, es) := by cases l <;> exact h
  cases h
  exact ⟨rfl, List.nodup_nil, (fun p hp => by cases hp), fun i r hr => .inl hr⟩
 | j, t :: ts, [], m, es, h => by
  have h : (([] : List (RV N)), ([] : List (Nat × Blk N))) = (m, es) := by
   rcases t with _ | ⟨el, e⟩ <;> exact h
  cases h
  exact ⟨rfl, List.nodup_nil, (fun p hp => by cases hp), fun i r hr => .inl hr⟩
 | j, t :: ts, x :: l, m, es, h => by
  have plain : (match nilRows d (j + 1) ts l with | (m, es) => (x :: m, es)) = (m, es) → m.length = (x :: l).length ∧ (es.map (·.1)).Nodup ∧ (∀ p ∈ es, 2000 + d + 10000 * j ≤ p.1 ∧ ∃ el e, p.2 = .row el e [] [] false) ∧
    ∀ (i : Nat) r, m[i]? = some r → (x :: l)[i]? = some r ∨ ((x :: l)[i]? = some .nil ∧ ∃ p ∈ es, r = .own p.1) := by
   intro h
   split at h
   rename_i m1 es1 h1
   cases h
   obtain ⟨k1, k2, k3, k4⟩ := nilRows_spec d (j + 1) ts l m1 es h1
   refine ⟨by simp [k1], k2, fun p hp => ⟨by have := (k3 p hp).1; omega, (k3 p hp).2⟩, fun i r hr => ?_⟩
   cases i with
   | zero => exact .inl (by simpa using hr)
   | succ i => simpa using k4 i r (by simpa using hr)
  rcases t with _ | ⟨el, e⟩
  ·exact plain h
  ·cases x with
   | nil =>
    simp only [nilRows] at h
    generalize h1 : nilRows d (j + 1) ts l = q at h
    obtain ⟨m1, es1⟩ := q
    cases h
    obtain ⟨k1, k2, k3, k4⟩ := nilRows_spec d (j + 1) ts l m1 es1 h1
    refine ⟨by simp [k1], ?_, fun p hp => ?_, fun i r hr => ?_⟩
    ·rw [List.map_cons, List.nodup_cons]
     refine ⟨fun hm => ?_, k2⟩
     obtain ⟨p, hp, e1⟩ := List.mem_map.1 hm
     have := (k3 p hp).1
     simp only at e1
     omega
    ·rcases List.mem_cons.1 hp with rfl | hp
     ·exact ⟨Nat.le_refl _, el, e, rfl⟩
     ·exact ⟨by have := (k3 p hp).1; omega, (k3 p hp).2⟩
    ·cases i with
     | zero =>
      right
      refine ⟨rfl, _, List.mem_cons_self, ?_⟩
      simpa using hr.symm
     | succ i =>
      rcases k4 i r (by simpa using hr) with h2 | ⟨h2, p, hp, h3⟩
      ·exact .inl (by simpa using h2)
      ·exact .inr ⟨by simpa using h2, p, List.mem_cons_of_mem _ hp, h3⟩
   | _ => exact plain h
theorem RelE.addNils (h : RelE io w0 σ E a w) : ∀ (es : List (Nat × Blk N)), (es.map (·.1)).Nodup → (∀ p ∈ es, look σ.own p.1 = none ∧ ∃ el e, p.2 = .row el e [] [] false) →
  ∃ E', RelE io w0 { σ with own := insAll es σ.own } E' a w ∧ (∀ p ∈ es, look (insAll es σ.own) p.1 = some p.2 ∧ E' p.1 = .slice none 0 0) ∧ (∀ r v, RVRel w σ.own E r v → RVRel w (insAll es σ.own) E' r v) ∧ ∀ id, id ∉ es.map (·.1) → look (insAll es σ.own) id = look σ.own id
 | [], _, _ => ⟨E, h, (fun p hp => by cases hp), fun r v hr => hr, fun id _ => rfl⟩
 | (i, b) :: es, hn, hes => by
  rw [List.map_cons, List.nodup_cons] at hn
  obtain ⟨E1, h1, h2, h3, h4⟩ := h.addNils es hn.2 (fun p hp => hes p (List.mem_cons_of_mem _ hp))
  obtain ⟨hno, el, e, hb⟩ := hes (i, b) List.mem_cons_self
  simp only at hno hb
  subst hb
  have hno1 : look (insAll es σ.own) i = none := (h4 i hn.1).trans hno
  have hV : ∀ g, blkOf (.slice none 0 0) = some g → w.heap.size ≤ g := fun g hg => by cases hg
  have hadd := h1.add (Ext.refl w) (V := .slice none 0 0) (b := .row el e [] [] false) hno1 (fun g hg => by cases hg) ⟨[], by rw [updE_same]; exact ⟨by simp, .inl ⟨rfl, rfl⟩⟩, rfl⟩
  refine ⟨_, hadd, fun p hp => ?_, fun r v hr => RVRel_ins (Ext.refl w) hno1 hV (h3 r v hr), fun id hid => ?_⟩
  ·rcases List.mem_cons.1 hp with rfl | hp
   ·exact ⟨by simp only [insAll, look_ins, if_true], updE_same _ _ _⟩
   ·have hne : p.1 ≠ i := fun e => hn.1 (e ▸ List.mem_map.2 ⟨p, hp, rfl⟩)
    obtain ⟨k1, k2⟩ := h2 p hp
    exact ⟨by simp only [insAll]; rw [look_ins, if_neg (Ne.symm hne)]; exact k1, by rw [updE_ne _ _ hne]; exact k2⟩
  ·rw [List.map_cons, List.mem_cons, not_or] at hid
   simp only [insAll]
   rw [look_ins, if_neg (Ne.symm hid.1)]
   exact h4 id hid.2
theorem nils_rel {es : List (Nat × Blk N)} {own : List (Nat × Blk N)} {E' : Env} {m l : List (RV N)} {cs : List Value} (hes : ∀ p ∈ es, look own p.1 = some p.2 ∧ E' p.1 = .slice none 0 0) (hrow : ∀ p ∈ es, ∃ el e, p.2 = .row el e [] [] false)
  (hm : ∀ (i : Nat) r, m[i]? = some r → l[i]? = some r ∨ (l[i]? = some .nil ∧ ∃ p ∈ es, r = .own p.1)) (hl : ∀ (i : Nat) r u, l[i]? = some r → cs[i]? = some u → RVRel w own E' r u) :
  ∀ (i : Nat) r u, m[i]? = some r → cs[i]? = some u → RVRel w own E' r u := by
 intro i r u hi hu
 rcases hm i r hi with h1 | ⟨h1, p, hp, rfl⟩
 ·exact hl i r u h1 hu
 ·have hu2 : u = .slice none 0 0 := hl i _ u h1 hu
  obtain ⟨k1, k2⟩ := hes p hp
  obtain ⟨el, e, k3⟩ := hrow p hp
  rw [k3] at k1
  exact ⟨by rw [hu2, k2], 0, e, el, [], [], false, k1, rfl⟩
def outVals (own : List (Nat × Blk N)) (dst : Option Nat) (n : Nat) (l : List (RV N)) (k : KK N β) : Option β :=
 match dst with
 | some d => match look own (1000 + d) with
  | none => match nilRows d 0 (N.rowsAt n) l with
   | (m, es) => bif Nat.beq l.length (N.size n) && l.all cellK && freshIds own (es.map (·.1)) then k (.one (.mp (1000 + d))) ((1000 + d, .vals n m) :: es) else none
  | some _ => none
 | none => none
theorem Does.vals {run : Act → Sem Value} {dst : Option Nat} {n : Nat} {l : List (RV N)} {k : KK N β} {r : β} (h : outVals σ.own dst n l k = some r)
  (hrun : l.length = N.size n → ∀ io w0 E a w, RelE io w0 σ E a w → ∃ cs : List Value, (run a).run P w = .ok (.agg cs.toArray) w ∧ cs.length = l.length ∧ ∀ (i : Nat) r u, l[i]? = some r → cs[i]? = some u → RVRel w σ.own E r u) :
  ∃ s ad, k s ad = some r ∧ Does P σ run s ad := by
 unfold outVals at h
 split at h
 ·rename_i d
  split at h
  ·rename_i hl
   split at h
   rename_i m es hes
   obtain ⟨hc, h⟩ := bif_none h
   simp only [Bool.and_eq_true] at hc
   obtain ⟨⟨hc1, hc2⟩, hc3⟩ := hc
   refine ⟨_, _, h, fun io w0 E a w hr => ?_⟩
   obtain ⟨cs, r1, r2, r3⟩ := hrun (Nat.eq_of_beq_eq_true hc1) io w0 E a w hr
   obtain ⟨k1, k2, k3, k4⟩ := nilRows_spec d 0 _ _ _ _ hes
   have hfr := freshIds_spec hc3
   obtain ⟨E1, h1, h2, h3, h4⟩ := hr.addNils es k2 (fun p hp => ⟨hfr _ (List.mem_map.2 ⟨p, hp, rfl⟩), (k3 p hp).2⟩)
   have hlen : l.length = N.size n := Nat.eq_of_beq_eq_true hc1
   have hno : look (insAll es σ.own) (1000 + d) = none := by
    rw [h4]
    ·exact hl
    ·intro hm
     obtain ⟨p, hp, e⟩ := List.mem_map.1 hm
     have := (k3 p hp).1
     omega
   have hcell := nils_rel (w := w) h2 (fun p hp => (k3 p hp).2) k4 (fun i r u hi hu => h3 r u (r3 i r u hi hu))
   have hadd := h1.add (Ext.refl w) (V := .agg cs.toArray) (b := .vals n m) hno (fun g hg => by cases hg) ⟨cs.toArray, updE_same _ _ _, by simp [r2, k1], fun u hu => by
    obtain ⟨i, hi⟩ := List.getElem?_of_mem hu
    have hi : cs[i]? = some u := by simpa using hi
    have hlt : i < l.length := by rw [← r2]; exact (List.getElem?_eq_some_iff.1 hi).1
    exact hr.cellOne (r3 i l[i] u (List.getElem?_eq_getElem hlt) hi) (List.all_eq_true.1 hc2 _ (List.getElem_mem hlt)), fun i r u hi hu => RVRel_ins (Ext.refl w) hno (fun g hg => by cases hg) (hcell i r u hi (by simpa using hu))⟩
   refine ⟨_, w, _, r1, hadd, ?_⟩
   show isBox _ _ ∧ _
   refine ⟨.inr (.inr (.inr ⟨n, m, ?_⟩)), (updE_same _ _ _).symm⟩
   show look (ins (1000 + d) (Blk.vals n m) (insAll es σ.own)) (1000 + d) = _
   rw [look_ins, if_pos rfl]
  ·cases h
 ·cases h
def evField (τ : TypeId → Option TI) (own : List (Nat × Blk N)) (xt : TypeId) (dst : Option Nat) (x : RV N) (f : Nat) (k : KK N β) : Option β :=
 match x with
 | .data t v bs => match τ xt with
  | some ⟨.nm m, e⟩ => bif Nat.beq e 0 then match castTy N t (.nm m) v with
   | some v => match hlGet (N.body m) (N.un m v) f with
    | some tv => k (.one (ofDen tv.t tv.x bs)) []
    | none => none
   | none => none
   else none
  | _ => none
 | .mp id => match look own id with
  | some (.vals m' l) => match τ xt with
   | some ⟨.nm m, e⟩ => bif Nat.beq e 0 && Nat.beq m' m then match tyAt (N.body m) f with
    | some (.nm n) => outVals own dst n ((l.drop (offL N (N.body m) f)).take (N.size n)) k
    | some _ => match l[offL N (N.body m) f]? with
     | some r => k (.one r) []
     | none => none
    | none => none
    else none
   | _ => none
  | _ => none
 | _ => none
theorem evField_sound (F : Fits P N τ) {σ : St N} {xt : TypeId} {x : Operand} {dst : Option Nat} {f : Nat} {k : KK N β} {r : β} (h : evField τ σ.own xt dst (ev σ x) f k = some r) :
  ∃ s ad, k s ad = some r ∧ Does P σ (fun a => Instr.field xt (a.eval x) f) s ad := by
 unfold evField at h
 split at h
 ·rename_i t v bs hx
  split at h
  ·rename_i m e hτ
   obtain ⟨he, h⟩ := bif_none h
   split at h
   ·rename_i v' hv'
    split at h
    ·rename_i tv htv
     refine ⟨_, _, h, Does.pure fun io w0 E a w hr => ?_⟩
     have hx' := hr.ev x
     rw [hx] at hx'
     obtain ⟨cs, h1, h2⟩ := hx'
     obtain ⟨et, rfl⟩ := castTy_some hv'
     subst et
     obtain ⟨fs, u1, u2, _⟩ := F.nm xt m e hτ
     have u1 := u1.struct (Nat.eq_of_beq_eq_true he)
     obtain ⟨k1, k2⟩ := hlGet_rep (N.body m) (N.un m v) f tv cs htv (RepN_open h1)
     obtain ⟨fd, e', g1, g2, g3, g4⟩ := FieldsFit_get _ 0 _ _ f tv u2 htv
     rw [Nat.zero_add] at g2
     obtain ⟨u, p1, p2⟩ := F.part (w := w) g3 k1 k2
     have g1' : fs[f]? = some fd := by simpa using g1
     refine ⟨u, ?_, ofDen_rel k1 p2⟩
     rw [show a.eval x = _ from h2]
     simp only [Instr.field, Sem.run_bind, run_underlying u1, Result.andThen_ok, g1', asAgg, g2]
     exact p1
    ·cases h
   ·cases h
  ·cases h
 ·rename_i id hx
  split at h
  ·rename_i m' l hlk
   split at h
   ·rename_i m e hτ
    obtain ⟨he, h⟩ := bif_none h
    simp only [Bool.and_eq_true] at he
    obtain ⟨he, hm⟩ := he
    obtain rfl := Nat.eq_of_beq_eq_true hm
    have hv : ∀ {io w0 E a w}, RelE io w0 σ E a w → ∃ arr : Array Value, a.eval x = .agg arr ∧ arr.size = l.length ∧ ∀ (i : Nat) r u, l[i]? = some r → arr[i]? = some u → RVRel w σ.own E r u := by
     intro io w0 E a w hr
     have hx' := hr.ev x
     rw [hx] at hx'
     obtain ⟨arr, k1, k2, k3, k4⟩ := hr.own id _ hlk
     exact ⟨arr, hx'.2.trans k1, k2, k4⟩
    obtain ⟨fs, u1, u2, _⟩ := F.nm xt m' e hτ
    have u1 := u1.struct (Nat.eq_of_beq_eq_true he)
    split at h
    ·rename_i n hty
     refine Does.vals h (fun _ io w0 E a w hr => ?_)
     obtain ⟨arr, k1, k2, k3⟩ := hv hr
     obtain ⟨fd, e', g1, g2, g3⟩ := FieldsFit_ty _ 0 _ f _ u2 hty
     rw [Nat.zero_add] at g2
     have g1' : fs[f]? = some fd := by simpa using g1
     have hs := F.sizeOf g3 w
     have ha := F.isAgg g3 w
     refine ⟨((arr.toList.drop (offL N (N.body m') f)).take (N.size n)), ?_, by simp [k2], fun i r u hi hu => ?_⟩
     ·rw [k1]
      simp only [Instr.field, Sem.run_bind, run_underlying u1, Result.andThen_ok, g1', asAgg, g2]
      simp only [Go.part, Sem.run_bind, ha, Result.andThen_ok, hs, if_true, Sem.run_pure]
      congr 2
      obtain ⟨arr⟩ := arr
      rw [List.extract_toArray]
      congr 1
      simp [List.extract_eq_take_drop, Names.sz]
     ·rw [List.getElem?_take] at hi hu
      split at hi
      ·rename_i hlt
       rw [if_pos hlt, List.getElem?_drop] at hu
       rw [List.getElem?_drop] at hi
       exact k3 _ r u hi (by simpa using hu)
      ·cases hi
    ·rename_i ty hnn hty
     split at h
     ·rename_i r' hr'
      refine ⟨_, _, h, Does.pure fun io w0 E a w hr => ?_⟩
      obtain ⟨arr, k1, k2, k3⟩ := hv hr
      obtain ⟨fd, e', g1, g2, g3⟩ := FieldsFit_ty _ 0 _ f _ u2 hty
      rw [Nat.zero_add] at g2
      have g1' : fs[f]? = some fd := by simpa using g1
      have ha := F.isAgg g3 w
      have ha : (Go.isAgg fd.type).run P w = .ok false w := by
       cases ty with
       | nm n => exact absurd rfl (hnn n)
       | _ => exact ha
      have hlt : offL N (N.body m') f < arr.size := by rw [k2]; exact (List.getElem?_eq_some_iff.1 hr').1
      refine ⟨arr[offL N (N.body m') f], ?_, k3 _ r' _ hr' (by simp [hlt])⟩
      rw [k1]
      simp only [Instr.field, Sem.run_bind, run_underlying u1, Result.andThen_ok, g1', asAgg, g2]
      simp [Go.part, ha, hlt]
     ·cases h
    ·cases h
   ·cases h
  ·cases h
 ·cases h
def zeroCells (N : Names) : Nat → Ty → List (RV N)
 | _, .int k => [.int k 0]
 | _, .bool => [.bool false]
 | _, .str => [.str []]
 | _, .sl _ => [.nil]
 | _, .opq => [.undef]
 | 0, .nm _ => []
 | f + 1, .nm n => (N.body n).flatMap (zeroCells N f)
theorem zeroCells_rel {own : List (Nat × Blk N)} : ∀ (f : Nat) (t : Ty) (cs : List Value), zeroOk N f t cs = true → (zeroCells N f t).length = cs.length ∧ ∀ (i : Nat) r u, (zeroCells N f t)[i]? = some r → cs[i]? = some u → RVRel w own E r u := by
 have one : ∀ (f : Nat) (r0 : RV N) (u0 : Value), RVRel w own E r0 u0 → ([r0] : List (RV N)).length = [u0].length ∧ ∀ (i : Nat) r u, [r0][i]? = some r → [u0][i]? = some u → RVRel w own E r u := by
  intro f r0 u0 h
  refine ⟨rfl, fun i r u hi hu => ?_⟩
  match i, hi with
  | 0, hi =>
   simp only [List.getElem?_cons_zero, Option.some.injEq] at hi hu
   subst hi hu
   exact h
 have flat : ∀ (f : Nat) (t : Ty), (∀ n, t ≠ .nm n) → ∀ cs, zeroOk N f t cs = true → (zeroCells N f t).length = cs.length ∧ ∀ (i : Nat) r u, (zeroCells N f t)[i]? = some r → cs[i]? = some u → RVRel w own E r u := by
  intro f t hn cs h
  unfold zeroOk at h
  split at h
  ·simp only [Bool.and_eq_true, decide_eq_true_eq] at h
   obtain ⟨rfl, rfl⟩ := h
   have this : ∀ kk, zeroCells N f (.int kk) = [RV.int kk 0] := fun kk => by cases f <;> rfl
   rw [this]
   exact one 0 _ _ rfl
  ·rename_i b
   cases b with
   | true => cases h
   | false =>
    have : zeroCells N f .bool = [RV.bool false] := by cases f <;> rfl
    rw [this]
    exact one 0 _ _ rfl
  ·rename_i s
   have : zeroCells N f .str = [RV.str []] := by cases f <;> rfl
   rw [this]
   refine one 0 _ _ ⟨s, rfl, ?_⟩
   simp only [List.isEmpty_iff] at h
   unfold bytesL
   rw [h]
   rfl
  ·rename_i e
   have : zeroCells N f (.sl e) = [RV.nil] := by cases f <;> rfl
   rw [this]
   exact one 0 _ _ rfl
  ·have : zeroCells N f .opq = [RV.undef] := by cases f <;> rfl
   rw [this]
   exact one 0 _ _ trivial
  ·rename_i n
   exact (hn n rfl).elim
  ·cases h
 intro f
 induction f with
 | zero =>
  intro t cs h
  cases t with
  | nm n => cases h
  | _ => exact flat 0 _ (fun n hn => by cases hn) cs h
 | succ f ih =>
  intro t cs h
  cases t with
  | nm n =>
   have h2 : zeroL (zeroOk N f) N.sz (N.body n) cs = true := by
    have e : zeroOk N (f + 1) (.nm n) cs = zeroL (zeroOk N f) N.sz (N.body n) cs := by unfold zeroOk; rfl
    rw [← e]; exact h
   clear h
   show ((N.body n).flatMap (zeroCells N f)).length = _ ∧ _
   show _ ∧ ∀ (i : Nat) r u, ((N.body n).flatMap (zeroCells N f))[i]? = some r → cs[i]? = some u → RVRel w own E r u
   generalize N.body n = ts at h2 ⊢
   rename zeroL (zeroOk N f) N.sz ts cs = true => h
   induction ts generalizing cs with
   | nil =>
    simp only [zeroL, List.isEmpty_iff] at h
    rw [h]
    exact ⟨rfl, fun i r u hi _ => by simp at hi⟩
   | cons t ts ih2 =>
    simp only [zeroL, Bool.and_eq_true] at h
    obtain ⟨k1, k2⟩ := ih t _ h.1
    obtain ⟨k3, k4⟩ := ih2 (cs.drop (N.sz t)) h.2
    have hc : cs = cs.take (N.sz t) ++ cs.drop (N.sz t) := (List.take_append_drop _ cs).symm
    refine ⟨?_, fun i r u hi hu => ?_⟩
    ·rw [List.flatMap_cons, List.length_append, k1, k3, ← List.length_append, List.take_append_drop]
    ·rw [List.flatMap_cons] at hi
     rw [hc] at hu
     by_cases hlt : i < (zeroCells N f t).length
     ·rw [List.getElem?_append_left hlt] at hi
      rw [List.getElem?_append_left (by rw [← k1]; exact hlt)] at hu
      exact k2 i r u hi hu
     ·rw [List.getElem?_append_right (by omega)] at hi
      rw [List.getElem?_append_right (by rw [← k1]; omega), ← k1] at hu
      exact k4 _ r u hi hu
  | _ => exact flat (f + 1) _ (fun n hn => by cases hn) cs h
end Go.Eng

set_option linter.unusedVariables false
set_option linter.unusedSimpArgs false
namespace Go.Eng
variable {N : Names} {P : Program} {τ : TypeId → Option TI} {β : Type}
def evLoad (τ : TypeId → Option TI) (own : List (Nat × Blk N)) (t : TypeId) (dst : Option Nat) (x : RV N) (k : KK N β) : Option β :=
 match τ t with
 | some ⟨ty, _⟩ => match x with
  | .sptr t' v bs => match subAt ty 8 t' v 0 with
   | some y => k (.one (ofDen ty y bs)) []
   | none => none
  | .optr id i off => match look own id with
   | some (.row e' e xs bs _) => match subAt ty 8 e (xs.getD i (N.dflt e)) off with
    | some y => k (.one (ofDen ty y bs)) []
    | none => evLoadArr ty e' e xs bs i off k
   | _ => none
  | .bptr id off => match look own id with
   | some (.whole t' v bs) => match subAt ty 8 t' v off with
    | some y => k (.one (ofDen ty y bs)) []
    | none => none
   | some (.cells l) => match ty with
    | .nm n => bif (N.rowsAt n).isEmpty then match impl own 8 (.nm n) ((l.drop off).take (N.size n)) with
      | some (y, bs) => k (.one (.data (.nm n) y bs)) []
      | none => none
     else outVals own dst n ((l.drop off).take (N.size n)) k
    | _ => match l[off]? with
     | some r => k (.one r) []
     | none => none
   | _ => none
  | _ => none
 | none => none
theorem RelE.box {io : Io} {w0 w : World} {σ : St N} {E : Env} {a : Act} (h : RelE io w0 σ E a w) {id g : Nat} {T : TypeId} {arr : Array Value} (hg : w.heap[g]? = some (.cells arr T (0, 0))) (off : Nat) :
  ∀ (j : Nat) u, ((arr.toList.drop off))[j]? = some u → w.cell? ((⟨g, off, none⟩ : Addr).add j) = some u := by
 intro j u hu
 rw [add_lit', cell_of_row w g _ arr T (0, 0) hg]
 rw [List.getElem?_drop] at hu
 simpa using hu
theorem evLoad_sound (F : Fits P N τ) {σ : St N} {t : TypeId} {dst : Option Nat} {x : Operand} {k : KK N β} {r : β} (h : evLoad τ σ.own t dst (ev σ x) k = some r) :
  ∃ s ad, k s ad = some r ∧ Does P σ (fun a => Instr.loadAt t (a.eval x)) s ad := by
 unfold evLoad at h
 split at h
 ·rename_i ty e hτ
  split at h
  ·rename_i t' v bs hx
   split at h
   ·rename_i y hy
    refine ⟨_, _, h, Does.pure fun io w0 E a w hr => ?_⟩
    have hx' := hr.ev x
    rw [hx] at hx'
    obtain ⟨ad, cs, h1, h2, h3, h4⟩ := hx'
    obtain ⟨k1, k2⟩ := subAt_rep 8 t' v 0 y cs hy h3
    obtain ⟨u, p1, p2⟩ := F.load hτ (w := w) (ad := ad) k1 (fun j u hu => h4 j u (by have := take_drop_get hu; simpa using this))
    exact ⟨u, by rw [h1]; exact p1, ofDen_rel k1 p2⟩
   ·cases h
  ·rename_i id i off hx
   split at h
   ·rename_i e' ty' xs bs p hl
    split at h
    ·rename_i y hy
     refine ⟨_, _, h, Does.pure fun io w0 E a w hr => ?_⟩
     have hx' := hr.ev x
     rw [hx] at hx'
     obtain ⟨g, cap, n, t', ⟨e2, xs2, bs2, p2, q1, q2⟩, h2, h3, h4⟩ := hx'
     rw [hl] at q1
     cases q1
     obtain ⟨cells, c1, c2⟩ := hr.own id _ hl
     have hlt : i < xs.length := by omega
     obtain ⟨ccs, d1, d2, d3⟩ := RowC_get (fun x cs hx => Rep_length hx) c2 i xs[i] (List.getElem?_eq_getElem hlt)
     rw [List.getD_eq_getElem?_getD, List.getElem?_eq_getElem hlt] at hy
     obtain ⟨k1, k2⟩ := subAt_rep 8 ty' _ off y ccs hy d1
     rcases c1.2 with ⟨hv, hn⟩ | ⟨g', cap', cur, T0, fz, hv, hg, _, _, _, _, _, ht⟩
     ·rw [h3] at hv; cases hv
     ·rw [h3] at hv
      simp only [Value.slice.injEq, Option.some.injEq, Addr.mk.injEq] at hv
      obtain ⟨⟨rfl, _⟩, _, rfl⟩ := hv
      obtain ⟨u, p1, p2⟩ := F.load hτ (w := w) (ad := ⟨g, i * N.sz ty' + off, none⟩) k1 (fun j u hu => by
       have h5 := take_drop_get hu
       rw [← d2] at h5
       have h6 := take_drop_get h5
       rw [← ht, List.getElem?_take] at h6
       split at h6
       ·rw [add_lit', cell_of_row w g _ cur _ _ hg, show i * N.sz ty' + off + j = i * N.sz ty' + (off + j) from by omega]
        simpa using h6
       ·cases h6)
      exact ⟨u, by rw [h4]; exact p1, ofDen_rel k1 p2⟩
    ·obtain ⟨n, y, rfl, rfl, rfl, h1, _, h3⟩ := evLoadArr_some h
     refine ⟨_, _, h1, Does.pure fun io w0 E a w hr => ?_⟩
     have hx' := hr.ev x
     rw [hx] at hx'
     obtain ⟨g, cap, n', t', ⟨e2, xs2, bs2, p2, q1, q2⟩, g2, g3, g4⟩ := hx'
     rw [hl] at q1
     cases q1
     obtain ⟨cells, c1, c2⟩ := hr.own id _ hl
     have hrep := h3 c1 (by rw [g3]; exact fun e => by cases e) c2
     rcases c1.2 with ⟨hv, hn⟩ | ⟨g', cap', cur, T0, fz, hv, hg, _, _, _, _, _, ht⟩
     ·rw [g3] at hv; cases hv
     ·rw [g3] at hv
      simp only [Value.slice.injEq, Option.some.injEq, Addr.mk.injEq] at hv
      obtain ⟨⟨rfl, _⟩, _, rfl⟩ := hv
      obtain ⟨u, p1, p2⟩ := F.load hτ (w := w) (ad := ⟨g, 0 * N.sz ty' + 0, none⟩) hrep (fun j u hu => by
       rw [← ht, List.getElem?_take] at hu
       split at hu
       ·rw [add_lit', cell_of_row w g _ cur _ _ hg, show 0 * N.sz ty' + 0 + j = j from by omega]
        simpa using hu
       ·cases hu)
      exact ⟨u, by rw [g4]; exact p1, cells, hrep, p2⟩
   ·cases h
  ·rename_i id off hx
   split at h
   ·rename_i t' v bs hl
    split at h
    ·rename_i y hy
     refine ⟨_, _, h, Does.pure fun io w0 E a w hr => ?_⟩
     have hx' := hr.ev x
     rw [hx] at hx'
     obtain ⟨h1, g, h2, h3⟩ := hx'
     obtain ⟨g', T, arr, c1, c2, c3⟩ := hr.own id _ hl
     rw [h2] at c1
     cases c1
     obtain ⟨k1, k2⟩ := subAt_rep 8 t' v off y _ hy c3
     obtain ⟨u, p1, p2⟩ := F.load hτ (w := w) (ad := ⟨g, off, none⟩) k1 (fun j u hu => hr.box (id := id) c2 off j u (by rw [List.getElem?_take] at hu; split at hu; exact hu; cases hu))
     exact ⟨u, by rw [h3]; exact p1, ofDen_rel k1 p2⟩
    ·cases h
   ·rename_i l hl
    have hbox : ∀ {io w0 E a w}, RelE io w0 σ E a w → ∃ g T arr, a.eval x = .pointer (some ⟨g, off, none⟩) ∧ w.heap[g]? = some (.cells arr T (0, 0)) ∧ arr.size = l.length ∧ ∀ (i : Nat) r u, l[i]? = some r → arr[i]? = some u → RVRel w σ.own E r u := by
     intro io w0 E a w hr
     have hx' := hr.ev x
     rw [hx] at hx'
     obtain ⟨h1, g, h2, h3⟩ := hx'
     obtain ⟨g', T, arr, c1, c2, c3, c4⟩ := hr.own id _ hl
     rw [h2] at c1
     cases c1
     exact ⟨g, T, arr, h3, c2, c3, c4⟩
    split at h
    ·rename_i n
     cases hd : (N.rowsAt n).isEmpty with
     | true =>
      rw [hd, cond_true] at h
      split at h
      ·rename_i y bs hy
       refine ⟨_, _, h, Does.pure fun io w0 E a w hr => ?_⟩
       obtain ⟨g, T, arr, h3, c2, c3, c4⟩ := hbox hr
       have k1 : Rep w (okb w.heap.size σ.own E bs) (.nm n) y ((arr.toList.drop off).take (N.size n)) := hr.impl 8 (.nm n) _ y bs _ hy (by simp [c3]) (fun i r u hi hu => by
        rw [List.getElem?_take] at hi hu
        split at hi
        ·rename_i hlt
         rw [if_pos hlt, List.getElem?_drop] at hu
         rw [List.getElem?_drop] at hi
         exact c4 _ r u hi (by simpa using hu)
        ·cases hi)
       obtain ⟨u, p1, p2⟩ := F.load hτ (w := w) (ad := ⟨g, off, none⟩) k1 (fun j u hu => hr.box (id := id) c2 off j u (by rw [List.getElem?_take] at hu; split at hu; exact hu; cases hu))
       exact ⟨u, by rw [h3]; exact p1, _, k1, p2⟩
      ·cases h
     | false =>
      rw [hd, cond_false] at h
      refine Does.vals h (fun hlen io w0 E a w hr => ?_)
      obtain ⟨g, T, arr, h3, c2, c3, c4⟩ := hbox hr
      have hcl : ((arr.toList.drop off).take (N.size n)).length = ((l.drop off).take (N.size n)).length := by simp [c3]
      refine ⟨_, ?_, hcl, fun i r u hi hu => ?_⟩
      ·rw [h3]
       exact F.loadCells hτ (hcl.trans hlen) (fun j u hu => hr.box (id := id) c2 off j u (by rw [List.getElem?_take] at hu; split at hu; exact hu; cases hu))
      ·rw [List.getElem?_take] at hi hu
       split at hi
       ·rename_i hlt
        rw [if_pos hlt, List.getElem?_drop] at hu
        rw [List.getElem?_drop] at hi
        exact c4 _ r u hi (by simpa using hu)
       ·cases hi
    ·rename_i hnn
     split at h
     ·rename_i r' hr'
      refine ⟨_, _, h, Does.pure fun io w0 E a w hr => ?_⟩
      obtain ⟨g, T, arr, h3, c2, c3, c4⟩ := hbox hr
      have hlt : off < arr.size := by rw [c3]; exact (List.getElem?_eq_some_iff.1 hr').1
      have hc : w.cell? ⟨g, off, none⟩ = some arr[off] := by rw [cell_of_row w g _ arr T (0, 0) c2]; simp [hlt]
      have ha : (isAgg t).run P w = .ok false w := by
       have := F.isAgg hτ w
       cases ty with
       | nm n => exact absurd rfl (hnn n)
       | _ => exact this
      refine ⟨arr[off], ?_, c4 off r' _ hr' (by simp [hlt])⟩
      rw [h3]
      simp [Instr.loadAt, Instr.sureAddr, loadVar, ha, Go.load, Sem.run, hc]
     ·cases h
   ·cases h
  ·cases h
 ·cases h
end Go.Eng

set_option linter.unusedVariables false
set_option linter.unusedSimpArgs false
namespace Go.Eng
variable {N : Names} {P : Program} {τ : TypeId → Option TI} {β : Type}
def cutLo (σ : St N) : Option Operand → Option Int
 | none => some 0
 | some o => match ev σ o with
  | .int _ n => some n
  | _ => none
def cutHi (σ : St N) (len : Nat) : Option Operand → Option Int
 | none => some len
 | some o => match ev σ o with
  | .int _ n => some n
  | _ => none
theorem cutLo_rel {σ : St N} {lo : Option Operand} {l : Int} (h : cutLo σ lo = some l) (w : World) (io w0 E) (a : Act) (hr : RelE io w0 σ E a w) : (lo = none ∧ l = 0) ∨ ∃ o k, lo = some o ∧ a.eval o = .int k l := by
 unfold cutLo at h
 split at h
 ·cases h; exact .inl ⟨rfl, rfl⟩
 ·rename_i o
  split at h
  ·rename_i k n hn
   cases h
   have := hr.ev o
   rw [hn] at this
   exact .inr ⟨o, k, rfl, this⟩
  ·cases h
theorem cutHi_rel {σ : St N} {len : Nat} {hi : Option Operand} {l : Int} (h : cutHi σ len hi = some l) (w : World) (io w0 E) (a : Act) (hr : RelE io w0 σ E a w) : (hi = none ∧ l = len) ∨ ∃ o k, hi = some o ∧ a.eval o = .int k l := by
 unfold cutHi at h
 split at h
 ·cases h; exact .inl ⟨rfl, rfl⟩
 ·rename_i o
  split at h
  ·rename_i k n hn
   cases h
   have := hr.ev o
   rw [hn] at this
   exact .inr ⟨o, k, rfl, this⟩
  ·cases h
def oslAt (N : Names) (dst : Option Nat) : Bool := match dst with
 | some d => N.oslD d
 | none => false
def evSliceO (σ : St N) (e : Ty) (x : RV N) (lo hi : Option Operand) (k : KK N β) : Option β :=
 match x with
 | .own id => match look σ.own id with
  | some (.row _ e' xs _ _) => bif decide (e' = e) then match cutLo σ lo, cutHi σ xs.length hi with
   | some a, some b => if 0 ≤ a then if a ≤ b then if b ≤ (xs.length : Int) then k (.one (.osl id a.toNat (b - a).toNat)) [] else none else none else none
   | _, _ => none
   else none
  | _ => none
 | _ => none
def evSlice (τ : TypeId → Option TI) (σ : St N) (t : TypeId) (dst : Option Nat) (x : RV N) (lo hi : Option Operand) (k : KK N β) : Option β :=
 match τ t with
 | some ⟨.str, _⟩ => match x with
  | .str l => match cutLo σ lo, cutHi σ l.length hi with
   | some a, some b => if 0 ≤ a then if a ≤ b then if b ≤ (l.length : Int) then k (.one (.str ((l.take b.toNat).drop a.toNat))) [] else none else none else none
   | _, _ => none
  | _ => none
 | some ⟨.sl e, _⟩ => bif oslAt N dst then evSliceO σ e x lo hi k else match toDen σ.own (.sl e) x with
  | some (l, bs) => match cutLo σ lo, cutHi σ l.length hi with
   | some a, some b => if 0 ≤ a then if a ≤ b then if b ≤ (l.length : Int) then k (.one (.data (.sl e) ((l.take b.toNat).drop a.toNat) bs)) [] else none else none else none
   | _, _ => none
  | none => none
 | some ⟨.nm n, e⟩ => evSliceArr σ.own n e x lo hi k
 | _ => none
theorem run_sliceBounds {b : Bool} {len cap : Nat} {lo hi : Option Operand} {a : Act} {l h : Int} (hl : (lo = none ∧ l = 0) ∨ ∃ o k, lo = some o ∧ a.eval o = .int k l) (hh : (hi = none ∧ h = len) ∨ ∃ o k, hi = some o ∧ a.eval o = .int k h)
  (h0 : 0 ≤ l) (h1 : l ≤ h) (h2 : h ≤ len) (hc : len ≤ cap) (w : World) :
  (Instr.sliceBounds b len cap (lo.map a.eval) (hi.map a.eval) none).run P w = .ok (l.toNat, h.toNat, cap) w := by
 have eh : (h.toNat : Int) = h := Int.toNat_of_nonneg (by omega)
 rcases hl with ⟨rfl, rfl⟩ | ⟨o, k, rfl, ho⟩ <;> rcases hh with ⟨rfl, rfl⟩ | ⟨o', k', rfl, ho'⟩
 ·simp [Instr.sliceBounds]
 ·simp only [Instr.sliceBounds, Option.map_some, Option.map_none, ho', Sem.run_bind, Sem.run_pure, Result.andThen_ok, run_sliceBound w k' h cap _ (by omega) (by omega)]
  simp
 ·have := run_sliceBound (P := P) w k l len (if (none : Option Value).isSome then .slice3C else .sliceB) h0 (by omega)
  simp only [Instr.sliceBounds, Option.map_some, Option.map_none, ho, Sem.run_bind, Sem.run_pure, Result.andThen_ok, this]
  simp
 ·have := run_sliceBound (P := P) w k l h.toNat (if (none : Option Value).isSome then .slice3C else .sliceB) h0 (by omega)
  simp only [Instr.sliceBounds, Option.map_some, Option.map_none, ho, ho', Sem.run_bind, Sem.run_pure, Result.andThen_ok, run_sliceBound w k' h cap _ (by omega) (by omega), this]
theorem extract_bytesL (s : ByteArray) (l h : Nat) : bytesL (s.extract l h) = ((bytesL s).take h).drop l := by
 simp only [bytesL, ByteArray.data_extract, Array.toList_extract, List.extract_eq_take_drop, List.map_take, List.map_drop]
 rw [List.drop_take]
theorem evSliceO_sound (F : Fits P N τ) {σ : St N} {t : TypeId} {e : Ty} {el : TypeId} (hτ : τ t = some ⟨.sl e, el⟩) {x : Operand} {lo hi : Option Operand} {k : KK N β} {r : β} (h : evSliceO σ e (ev σ x) lo hi k = some r) :
  ∃ s ad, k s ad = some r ∧ Does P σ (fun a => Instr.sliceAt t (a.eval x) (lo.map a.eval) (hi.map a.eval) none) s ad := by
 unfold evSliceO at h
 split at h
 ·rename_i id hx
  split at h
  ·rename_i e1 e' xs bs p hl
   obtain ⟨he, h3⟩ := bif_none h
   clear h
   have h := h3
   clear h3
   have he : e' = e := by simpa using he
   subst he
   split at h
   ·rename_i p q hp hq
    split at h
    ·rename_i h0
     split at h
     ·rename_i h1
      split at h
      ·rename_i h2
       refine ⟨_, _, h, Does.pure fun io w0 E a w hr => ?_⟩
       have hx' := hr.ev x
       rw [hx] at hx'
       obtain ⟨k1, _⟩ := hx'
       obtain ⟨_, A, cap, k2⟩ := hr.rowRep hl
       have hcap : xs.length ≤ cap := by
        obtain ⟨cells, g1, _⟩ := hr.own id _ hl
        rcases g1.2 with ⟨hv, hn⟩ | ⟨g, cap', cur, _, _, hv, _, _, _, hnc, _⟩
        ·omega
        ·rw [k2] at hv; cases hv; exact hnc
       obtain ⟨u1, ⟨e2, u2⟩, _⟩ := F.sl t e' el hτ
       have hb := run_sliceBounds (P := P) (b := true) (cutLo_rel hp w io w0 E a hr) (cutHi_rel hq w io w0 E a hr) h0 h1 h2 hcap w
       have hs := F.sizeOf u2 w
       have hqp : (q - p).toNat = q.toNat - p.toNat := by omega
       refine ⟨_, ?_, A, cap, xs.length, e', ⟨e1, xs, bs, _, hl, rfl⟩, by omega, k2, rfl⟩
       rw [k1, k2, hqp]
       simp only [Instr.sliceAt, Instr.slice, Sem.run_bind, run_underlying u1, Result.andThen_ok, Sem.run_pure, hb, hs]
      ·cases h
     ·cases h
    ·cases h
   ·cases h
  ·cases h
 ·cases h
theorem evSlice_sound (F : Fits P N τ) {σ : St N} {t : TypeId} {dst : Option Nat} {x : Operand} {lo hi : Option Operand} {k : KK N β} {r : β} (h : evSlice τ σ t dst (ev σ x) lo hi k = some r) :
  ∃ s ad, k s ad = some r ∧ Does P σ (fun a => Instr.sliceAt t (a.eval x) (lo.map a.eval) (hi.map a.eval) none) s ad := by
 unfold evSlice at h
 split at h
 ·rename_i el hτ
  split at h
  ·rename_i l hx
   split at h
   ·rename_i p q hp hq
    split at h
    ·rename_i h0
     split at h
     ·rename_i h1
      split at h
      ·rename_i h2
       refine ⟨_, _, h, Does.pure fun io w0 E a w hr => ?_⟩
       have hx' := hr.ev x
       rw [hx] at hx'
       obtain ⟨s, k1, k2⟩ := hx'
       subst k2
       rw [bytesL_length] at h2 hq
       have hb := run_sliceBounds (P := P) (b := false) (cutLo_rel hp w io w0 E a hr) (cutHi_rel hq w io w0 E a hr) h0 h1 h2 (Nat.le_refl _) w
       refine ⟨.string (s.extract p.toNat q.toNat), ?_, _, rfl, extract_bytesL s _ _⟩
       rw [k1]
       simp only [Instr.sliceAt, Instr.slice, Sem.run_bind, run_underlying (F.str t el hτ).1, Result.andThen_ok, Option.isSome_none, Bool.false_eq_true, if_false, Sem.run_pure, hb]
      ·cases h
     ·cases h
    ·cases h
   ·cases h
  ·cases h
 ·rename_i e el hτ
  cases ho : oslAt N dst with
  | true =>
   rw [ho, cond_true] at h
   exact evSliceO_sound F hτ h
  | false =>
   rw [ho, cond_false] at h
   split at h
   ·rename_i l bs hx
    split at h
    ·rename_i p q hp hq
     split at h
     ·rename_i h0
      split at h
      ·rename_i h1
       split at h
       ·rename_i h2
        refine ⟨_, _, h, Does.pure fun io w0 E a w hr => ?_⟩
        obtain ⟨cs, ⟨A, cap, c1, c2, c2', c3⟩, k2⟩ := hr.toDen hx (hr.ev x)
        have c4 : cs = [a.eval x] := k2
        rw [c1] at c4
        have c5 : a.eval x = .slice A l.length cap := (List.cons.inj c4).1.symm
        obtain ⟨u1, ⟨e', u2⟩, _⟩ := F.sl t e el hτ
        have hb := run_sliceBounds (P := P) (b := true) (cutLo_rel hp w io w0 E a hr) (cutHi_rel hq w io w0 E a hr) h0 h1 h2 c2 w
        have hs := F.sizeOf u2 w
        have hlen : ((l.take q.toNat).drop p.toNat).length = q.toNat - p.toNat := by rw [List.length_drop, List.length_take]; omega
        refine ⟨.slice (if cap = p.toNat then A else A.map (·.add (p.toNat * N.sz e))) (q.toNat - p.toNat) (cap - p.toNat), ?_, _, ⟨if cap = p.toNat then A else A.map (·.add (p.toNat * N.sz e)), cap - p.toNat, by rw [hlen], by rw [hlen]; omega, fun hA => ?_, fun i y hy => ?_⟩, rfl⟩
        ·rw [c5]
         simp only [Instr.sliceAt, Instr.slice, Sem.run_bind, run_underlying u1, Result.andThen_ok, Sem.run_pure, hb, hs]
        ·split at hA
         ·omega
         ·rw [Option.map_eq_none_iff] at hA
          have := c2' hA
          omega
        ·have hilt : i < ((l.take q.toNat).drop p.toNat).length := (List.getElem?_eq_some_iff.1 hy).1
         rw [hlen] at hilt
         rw [List.getElem?_drop, List.getElem?_take] at hy
         rw [if_pos (by omega)] at hy
         obtain ⟨ad, ccs, d1, d2, d3, d4⟩ := c3 _ y hy
         refine ⟨ad.add (p.toNat * N.sz e), ccs, ?_, by rw [addr_add_block]; exact d2, d3, fun j u hu => ?_⟩
         ·rw [if_neg (by omega), d1]; rfl
         ·rw [addr_add_add, ← Nat.add_assoc, ← Nat.add_mul]
          exact d4 j u hu
       ·cases h
      ·cases h
     ·cases h
    ·cases h
   ·cases h
 ·rename_i n e hτ
  exact evSliceArr_sound F hτ h
 ·cases h
def byteOf (n : Int) : Int := ((n.toNat % 256 : Nat) : Int)
theorem bytesL_strOfNums (xs : List Int) : bytesL (strOfNums xs) = xs.map byteOf := by
 unfold bytesL
 rw [strOfNums_data, List.map_map]
 apply List.map_congr_left
 intro n _
 simp [byteOf, UInt8.toNat_ofNat']
def isSome' {α : Type} : Option α → Bool
 | some _ => true
 | none => false
def evConvert (τ : TypeId → Option TI) (own : List (Nat × Blk N)) (src dst : TypeId) (x : RV N) (k : KK N β) : Option β :=
 bif isSome' (τ src) then match τ dst with
 | some ⟨.int k', _⟩ => match x with
  | .int _ n => k (.one (.int k' (k'.wrap n))) []
  | _ => none
 | some ⟨.str, _⟩ => match x with
  | .str l => k (.one (.str l)) []
  | .int _ _ => none
  | x => match τ src with
   | some ⟨.sl (.int .u8), _⟩ => match toDen own (.sl (.int .u8)) x with
    | some (l, _) => k (.one (.str (l.map byteOf))) []
    | none => none
   | _ => none
 | some ⟨.sl (.int .u8), _⟩ => match x with
  | .str l => k (.one (.data (.sl (.int .u8)) l [])) []
  | _ => none
 | _ => none
 else none
theorem Fits.under (F : Fits P N τ) {t : TypeId} {ti : TI} (h : τ t = some ti) : ∃ d, P.underlying t = some d := by
 obtain ⟨ty, e⟩ := ti
 cases ty with
 | int k => exact ⟨_, (F.int t k e h).1⟩
 | bool => exact ⟨_, (F.bool t e h).1⟩
 | str => exact ⟨_, (F.str t e h).1⟩
 | sl ty => exact ⟨_, (F.sl t ty e h).1⟩
 | nm n => obtain ⟨fs, h1, _⟩ := F.nm t n e h; exact h1.under
 | opq => obtain ⟨⟨d, h1, _⟩, _⟩ := F.opq t e h; exact ⟨_, h1⟩
theorem run_bytesL (F : Fits P N τ) {src dst e e' el : TypeId} {w : World} {ok : Nat → Prop} {l : List Int} {A : Option Addr} {cap : Nat} (hs : τ src = some ⟨.sl (.int .u8), e⟩) (hd : τ dst = some ⟨.str, e'⟩)
  (hrep : Rep (N := N) w ok (.sl (.int .u8)) l [.slice A l.length cap]) : ∃ s, (convert src dst (.slice A l.length cap)).run P w = .ok (.string s) w ∧ bytesL s = l.map byteOf := by
 obtain ⟨u1, ⟨e2, u2⟩, _⟩ := F.sl src _ e hs
 have he := (F.int e .u8 e2 u2).1
 have hd' := (F.str dst e' hd).1
 obtain ⟨A', cap', c1, c2, c2', c3⟩ := hrep
 simp only [List.cons.injEq, Value.slice.injEq, and_true] at c1
 obtain ⟨rfl, _, rfl⟩ := c1
 cases A with
 | none =>
  have hl : l = [] := List.eq_nil_of_length_eq_zero (by have := c2' rfl; omega)
  subst hl
  exact ⟨ByteArray.empty, run_convert_bytes_nil w src e u1 he 0 cap dst hd', rfl⟩
 | some ad =>
  have hl : (loadCells ad l.length).run P w = .ok (l.map (Value.int .u8)).toArray w := by
   have := run_loadCells_list (P := P) w ad (l.map (Value.int .u8)) (fun j v hj => by
    rw [List.getElem?_map] at hj
    obtain ⟨n, hn, rfl⟩ := Option.map_eq_some_iff.1 hj
    obtain ⟨ad', ccs, d1, d2, d3, d4⟩ := c3 j n hn
    cases d1
    have : ccs = [.int .u8 n] := d3
    subst this
    have := d4 0 _ rfl
    simpa [Names.sz] using this)
   simpa using this
  refine ⟨strOfNums l, ?_, bytesL_strOfNums l⟩
  rw [run_convert_bytes_string w src dst e _ l.length cap u1 he hd', run_bytesToString w _ l.length cap l hl, foldl_push_bytes]
  simp [strOfNums, ByteArray.empty, ByteArray.emptyWithCapacity]
  rfl
theorem evConvert_sound (F : Fits P N τ) {σ : St N} {src dst : TypeId} {x : Operand} {k : KK N β} {r : β} (h : evConvert τ σ.own src dst (ev σ x) k = some r) :
  ∃ s ad, k s ad = some r ∧ Does P σ (fun a => convert src dst (a.eval x)) s ad := by
 unfold evConvert at h
 obtain ⟨hsrc, h⟩ := bif_none h
 obtain ⟨ti, hti⟩ : ∃ ti, τ src = some ti := by
  cases hs : τ src with
  | none => rw [hs] at hsrc; cases hsrc
  | some ti => exact ⟨ti, rfl⟩
 obtain ⟨d, hd⟩ := F.under hti
 split at h
 ·rename_i k' el hτ
  split at h
  ·rename_i k0 n hx
   refine ⟨_, _, h, Does.pure fun io w0 E a w hr => ?_⟩
   have hx' := hr.ev x
   rw [hx] at hx'
   refine ⟨.int k' (k'.wrap n), ?_, rfl⟩
   rw [show a.eval x = _ from hx']
   simp only [convert, Sem.run_bind, run_underlying hd, run_underlying (F.int dst k' el hτ).1, Result.andThen_ok]
   cases d <;> rfl
  ·cases h
 ·rename_i el hτ
  split at h
  ·rename_i l hx
   refine ⟨_, _, h, Does.pure fun io w0 E a w hr => ?_⟩
   have hx' := hr.ev x
   rw [hx] at hx'
   obtain ⟨s, k1, k2⟩ := hx'
   refine ⟨.string s, ?_, s, rfl, k2⟩
   rw [k1]
   simp only [convert, Sem.run_bind, run_underlying hd, run_underlying (F.str dst el hτ).1, Result.andThen_ok]
   cases d <;> rfl
  ·cases h
  ·rename_i x' hns hni
   split at h
   ·rename_i el' hτ'
    split at h
    ·rename_i l bs hl
     refine ⟨_, _, h, Does.pure fun io w0 E a w hr => ?_⟩
     obtain ⟨cs, hrep, k2⟩ := hr.toDen hl (hr.ev x)
     obtain ⟨A, cap, c1, c2, c2', c3⟩ := hrep
     have c4 : cs = [a.eval x] := k2
     rw [c1] at c4
     have c5 : a.eval x = .slice A l.length cap := (List.cons.inj c4).1.symm
     obtain ⟨s, r1, r2⟩ := run_bytesL F (e' := el) (el := el) (w := w) hτ' hτ (l := l) (A := A) (cap := cap) ⟨A, cap, rfl, c2, c2', c3⟩
     exact ⟨_, by rw [c5]; exact r1, s, rfl, r2⟩
    ·cases h
   ·cases h
 ·rename_i el hτ
  split at h
  ·rename_i l hx
   refine ⟨_, _, h, fun io w0 E a w hr => ?_⟩
   have hx' := hr.ev x
   rw [hx] at hx'
   obtain ⟨s, k1, k2⟩ := hx'
   obtain ⟨u1, ⟨e2, u2⟩, _⟩ := F.sl dst _ el hτ
   have he := (F.int el .u8 e2 u2).1
   have hrun := Lib.run_convert_string_bytes (P := P) w src dst el s hd u1 he
   have hext : Ext w (Lib.bytesWorld w el s) := ⟨rfl, rfl, rfl, by simp [Lib.bytesWorld, World.freeze, World.alloc, World.drew, -World.alloc_eq, -World.drew_eq], fun g hg => Lib.bytesWorld_at_old w el s g hg⟩
   refine ⟨_, _, E, by show (convert src dst (a.eval x)).run P w = _; rw [k1]; exact hrun, hr.ext hext, _, ⟨some ⟨w.heap.size, 0, none⟩, grownCap w s.size 0 el, ?_, ?_, (fun h => by cases h), fun i n hn => ?_⟩, rfl⟩
   ·rw [← k2, bytesL_length]
   ·rw [← k2, bytesL_length]; exact grownCap_ge w s.size 0 el
   ·have hsz : w.heap.size < (Lib.bytesWorld w el s).heap.size := (Array.getElem?_eq_some_iff.1 (Lib.bytesWorld_at_new w el s)).1
    refine ⟨⟨w.heap.size, 0, none⟩, [.int .u8 n], rfl, ⟨⟨hsz, by rw [hr.sc]; exact hr.nw _ (.inl hr.kept.size)⟩, fun j hj _ hg => ?_⟩, rfl, fun j u hu => ?_⟩
    ·obtain ⟨bj, hbj⟩ := Option.isSome_iff_exists.1 hj
     exact Nat.lt_irrefl _ (hr.blk j bj hbj _ hg).1
    ·match j, hu with
     | 0, hu =>
      simp only [List.getElem?_cons_zero, Option.some.injEq] at hu
      subst hu
      simp only [Names.sz, Nat.mul_one, Nat.add_zero]
      rw [add_lit', Nat.zero_add, cell_of_row _ _ _ _ _ _ (Lib.bytesWorld_at_new w el s)]
      rw [← k2] at hn
      simp only [bytesL, List.getElem?_map] at hn
      obtain ⟨b, hb, rfl⟩ := Option.map_eq_some_iff.1 hn
      have hlt : i < s.data.size := by simpa using (List.getElem?_eq_some_iff.1 hb).1
      simp only [Lib.bytesCells]
      rw [Array.getElem?_append_left (by simpa using hlt)]
      rw [Array.getElem?_map]
      have hb' : s.data[i]? = some b := by simpa using hb
      rw [hb']
      rfl
  ·cases h
 ·cases h
def imin (m n : Int) : Int := if n < m then n else m
def imax (m n : Int) : Int := if m < n then n else m
def evMM (lo : Bool) (x y : RV N) (k : KK N β) : Option β :=
 match x, y with
 | .int kd m, .int _ n => bif lo then k (.one (.int kd (imin m n))) [] else k (.one (.int kd (imax m n))) []
 | _, _ => none
theorem evMin_sound {σ : St N} {ts : Array TypeId} {ty : TypeId} {x y : Operand} {k : KK N β} {r : β} (h : evMM true (ev σ x) (ev σ y) k = some r) :
  ∃ s ad, k s ad = some r ∧ Does P σ (fun a => Builtin.min_ ts ty #[a.eval x, a.eval y]) s ad := by
 unfold evMM at h
 split at h
 ·rename_i kd m kd' n hx hy
  refine ⟨_, _, h, Does.pure fun io w0 E a w hr => ?_⟩
  have hx' := hr.ev x
  have hy' := hr.ev y
  rw [hx] at hx'
  rw [hy] at hy'
  have hx' : a.eval x = .int kd m := hx'
  have hy' : a.eval y = .int kd' n := hy'
  refine ⟨.int kd (imin m n), ?_, rfl⟩
  rw [hx', hy']
  simp [Builtin.min_, Builtin.min2, imin]
 ·cases h
theorem evMax_sound {σ : St N} {ts : Array TypeId} {ty : TypeId} {x y : Operand} {k : KK N β} {r : β} (h : evMM false (ev σ x) (ev σ y) k = some r) :
  ∃ s ad, k s ad = some r ∧ Does P σ (fun a => Builtin.max_ ts ty #[a.eval x, a.eval y]) s ad := by
 unfold evMM at h
 split at h
 ·rename_i kd m kd' n hx hy
  refine ⟨_, _, h, Does.pure fun io w0 E a w hr => ?_⟩
  have hx' := hr.ev x
  have hy' := hr.ev y
  rw [hx] at hx'
  rw [hy] at hy'
  have hx' : a.eval x = .int kd m := hx'
  have hy' : a.eval y = .int kd' n := hy'
  refine ⟨.int kd (imax m n), ?_, rfl⟩
  rw [hx', hy']
  simp [Builtin.max_, Builtin.max2, imax]
 ·cases h
def evLen (τ : TypeId → Option TI) (own : List (Nat × Blk N)) (t : TypeId) (x : RV N) (k : KK N β) : Option β :=
 match τ t with
 | some ⟨.str, _⟩ => match x with
  | .str l => k (.one (.int .i64 (l.length : Int))) []
  | _ => none
 | some ⟨.sl e, _⟩ => match toDen own (.sl e) x with
  | some (l, _) => k (.one (.int .i64 (l.length : Int))) []
  | none => none
 | _ => none
theorem evLen_sound (F : Fits P N τ) {σ : St N} {t ty : TypeId} {x : Operand} {k : KK N β} {r : β} (h : evLen τ σ.own t (ev σ x) k = some r) :
  ∃ s ad, k s ad = some r ∧ Does P σ (fun a => Builtin.len_ #[t] ty #[a.eval x]) s ad := by
 unfold evLen at h
 split at h
 ·rename_i el hτ
  split at h
  ·rename_i l hx
   refine ⟨_, _, h, Does.pure fun io w0 E a w hr => ?_⟩
   have hx' := hr.ev x
   rw [hx] at hx'
   obtain ⟨s, k1, k2⟩ := hx'
   refine ⟨goInt s.size, ?_, by rw [← k2, bytesL_length]; rfl⟩
   rw [k1]
   simp [Builtin.len_, run_underlying (F.str t el hτ).1]
  ·cases h
 ·rename_i e el hτ
  split at h
  ·rename_i l bs hx
   refine ⟨_, _, h, Does.pure fun io w0 E a w hr => ?_⟩
   obtain ⟨cs, ⟨A, cap, c1, c2, c2', c3⟩, k2⟩ := hr.toDen hx (hr.ev x)
   have c4 : cs = [a.eval x] := k2
   rw [c1] at c4
   have c5 : a.eval x = .slice A l.length cap := (List.cons.inj c4).1.symm
   refine ⟨goInt l.length, ?_, rfl⟩
   rw [c5]
   simp [Builtin.len_, run_underlying (F.sl t e el hτ).1]
  ·cases h
 ·cases h
end Go.Eng

set_option linter.unusedVariables false
set_option linter.unusedSimpArgs false
namespace Go.Eng
variable {N : Names} {P : Program} {τ : TypeId → Option TI} {β : Type}
theorem RowC_upd {α : Type} {R : α → List Value → Prop} {sz : Nat} (hl : ∀ x cs, R x cs → cs.length = sz) {off : Nat} {vs : List Value} {x' : α} :
  ∀ {xs : List α} {cells : List Value}, RowC R xs cells → ∀ (i : Nat) x, xs[i]? = some x → (∀ ccs, R x ccs → R x' (splice ccs off vs) ∧ off + vs.length ≤ ccs.length) → RowC R (xs.set i x') (splice cells (i * sz + off) vs) ∧ i * sz + off + vs.length ≤ cells.length
 | [], _, _, i, x, hx, _ => by simp at hx
 | y :: ys, cells, ⟨c1, c2, e, h1, h2⟩, 0, x, hx, hu => by
  simp at hx
  subst hx
  subst e
  obtain ⟨k1, k2⟩ := hu c1 h1
  refine ⟨⟨splice c1 off vs, c2, ?_, k1, h2⟩, by rw [List.length_append]; omega⟩
  rw [Nat.zero_mul, Nat.zero_add]
  unfold splice
  rw [List.take_append_of_le_length (by omega), List.drop_append_of_le_length (by omega)]
  simp
 | y :: ys, cells, ⟨c1, c2, e, h1, h2⟩, i + 1, x, hx, hu => by
  subst e
  have hc1 := hl y c1 h1
  obtain ⟨k1, k2⟩ := RowC_upd hl h2 i x (by simpa using hx) hu
  have hm : (i + 1) * sz = sz + i * sz := by rw [Nat.add_mul, Nat.one_mul, Nat.add_comm]
  refine ⟨⟨c1, splice c2 (i * sz + off) vs, ?_, h1, k1⟩, by rw [List.length_append, hm]; omega⟩
  unfold splice
  rw [hm, List.take_append, List.drop_append, List.take_of_length_le (by omega : c1.length ≤ sz + i * sz + off), List.drop_eq_nil_of_le (by omega : c1.length ≤ sz + i * sz + off + vs.length), hc1]
  simp only [List.nil_append, List.append_assoc]
  congr 3
  ·omega
  ·rw [show sz + i * sz + off + vs.length - sz = i * sz + off + vs.length from by omega]
theorem RowC_append {α : Type} {R : α → List Value → Prop} : ∀ {xs ys : List α} {cs ds : List Value}, RowC R xs cs → RowC R ys ds → RowC R (xs ++ ys) (cs ++ ds)
 | [], ys, cs, ds, h, h' => by rw [show cs = [] from h]; exact h'
 | x :: xs, ys, cs, ds, ⟨c1, c2, e, h1, h2⟩, h' => ⟨c1, c2 ++ ds, by rw [e, List.append_assoc], h1, RowC_append h2 h'⟩
theorem RowC_replicate {α : Type} {R : α → List Value → Prop} {x : α} {zc : List Value} (h : R x zc) : ∀ (n : Nat) (cs : List Value), cs.length = n * zc.length → (∀ m, m < cs.length → cs[m]? = zc[m % zc.length]?) → RowC R (List.replicate n x) cs
 | 0, cs, hl, _ => List.eq_nil_of_length_eq_zero (by simpa using hl)
 | n + 1, cs, hl, hc => by
  have hm : (n + 1) * zc.length = zc.length + n * zc.length := by rw [Nat.add_mul, Nat.one_mul, Nat.add_comm]
  refine ⟨cs.take zc.length, cs.drop zc.length, (List.take_append_drop _ _).symm, ?_, RowC_replicate h n _ (by rw [List.length_drop]; omega) (fun m hmlt => ?_)⟩
  ·have : cs.take zc.length = zc := by
    apply List.ext_getElem?
    intro m
    rw [List.getElem?_take]
    split
    ·rename_i hlt
     rw [hc m (by omega), Nat.mod_eq_of_lt hlt]
    ·rw [List.getElem?_eq_none (by omega)]
   rw [this]
   exact h
  ·rw [List.length_drop] at hmlt
   rw [List.getElem?_drop, hc _ (by omega), Nat.add_mod_left]
theorem range_cells (n : Nat) (zc : Array Value) (hz : 0 < zc.size) : ∀ m, m < ((Array.range n).map (zc[· % zc.size]!)).toList.length → ((Array.range n).map (zc[· % zc.size]!)).toList[m]? = zc.toList[m % zc.toList.length]? := by
 intro m hm
 have hlt : m < n := by simpa using hm
 have h2 : m % zc.size < zc.size := Nat.mod_lt _ hz
 simp [hlt, h2]
theorem foldl_splice (off : Nat) : ∀ (vs : List Value) (j : Nat) (cs : Array Value), off + j + vs.length ≤ cs.size →
  ((vs.zipIdx j).foldl (fun cs (x : Value × Nat) => cs.setIfInBounds (off + x.2) x.1) cs) = (splice cs.toList (off + j) vs).toArray
 | [], j, cs, h => by simp [splice]
 | v :: vs, j, cs, h => by
  simp only [List.length_cons] at h
  rw [List.zipIdx_cons, List.foldl_cons, foldl_splice off vs (j + 1) _ (by simp; omega)]
  congr 1
  simp only [splice, Array.toList_setIfInBounds, List.length_cons]
  rw [show off + j + (vs.length + 1) = off + (j + 1) + vs.length from by omega]
  rw [List.take_set, List.drop_set, if_pos (by omega)]
  have hl : off + j < cs.toList.length := by simp; omega
  rw [show off + (j + 1) = off + j + 1 from by omega, List.take_succ_eq_append_getElem hl, List.set_append_right _ _ (by simp; omega)]
  simp only [List.length_take, List.append_assoc, List.singleton_append]
  rw [show min (off + j) cs.toList.length = off + j from by omega, Nat.sub_self]
  rfl
theorem fill_step {place : Nat → Option (Nat × Nat)} {cells : Array Value} {i off size : Nat} {v : Value} {rest : List (Nat × Value)} (hp : place i = some (off, size)) (hs : v.cells.size = size) (hfit : off + size ≤ cells.size) :
  Instr.fill place cells ((i, v) :: rest) = Instr.fill place (splice cells.toList off v.cells.toList).toArray rest := by
 simp only [Instr.fill, hp]
 rw [if_neg (by simp only [Bool.or_eq_true, decide_eq_true_eq]; rintro (h | h); exact h hs; omega)]
 congr 1
 have := foldl_splice off v.cells.toList 0 cells (by simp; omega)
 rw [← Array.foldl_toList, Array.toList_zipIdx]
 exact this
def hlSet : (ts : List Ty) → HL N.ρ ts → Nat → TV N → Option (HL N.ρ ts)
 | [], _, _, _ => none
 | t :: _, x, 0, v => (castTy N v.t t v.x).map fun y => (y, x.2)
 | _ :: ts, x, i + 1, v => (hlSet ts x.2 i v).map fun y => (x.1, y)
theorem hlSet_rep {w : World} {ok : Nat → Prop} {v : TV N} {vs : List Value} (hv : Rep w ok v.t v.x vs) : ∀ (ts : List Ty) (x y : HL N.ρ ts) (i : Nat) (cs : List Value), hlSet ts x i v = some y → RepL w ok (RepN w ok) ts x cs →
  RepL w ok (RepN w ok) ts y (splice cs (offL N ts i) vs) ∧ offL N ts i + vs.length ≤ cs.length
 | [], _, _, _, _, h, _ => by cases h
 | t :: ts, x, y, 0, cs, h, ⟨c1, c2, e, h1, h2⟩ => by
  subst e
  simp only [hlSet, Option.map_eq_some_iff] at h
  obtain ⟨z, hz, rfl⟩ := h
  have hzr := castTy_rep hz hv
  have l1 := Rep_length (show Rep w ok t x.1 c1 from h1)
  have l2 := Rep_length hzr
  simp only [offL]
  refine ⟨⟨vs, c2, ?_, hzr, h2⟩, by rw [List.length_append]; omega⟩
  unfold splice
  rw [List.take_zero, List.nil_append, Nat.zero_add, List.drop_append, List.drop_eq_nil_of_le (by omega), show vs.length - c1.length = 0 from by omega]
  simp
 | t :: ts, x, y, i + 1, cs, h, ⟨c1, c2, e, h1, h2⟩ => by
  subst e
  simp only [hlSet, Option.map_eq_some_iff] at h
  obtain ⟨z, hz, rfl⟩ := h
  obtain ⟨k1, k2⟩ := hlSet_rep hv ts x.2 z i c2 hz h2
  have l1 := Rep_length (show Rep w ok t x.1 c1 from h1)
  simp only [offL]
  refine ⟨⟨c1, splice c2 (offL N ts i) vs, ?_, h1, k1⟩, by rw [List.length_append]; omega⟩
  unfold splice
  rw [List.take_append, List.drop_append, List.take_of_length_le (by omega : c1.length ≤ N.sz t + offL N ts i), List.drop_eq_nil_of_le (by omega : c1.length ≤ N.sz t + offL N ts i + vs.length), l1]
  simp only [List.nil_append, List.append_assoc]
  congr 3
  ·omega
  ·rw [show N.sz t + offL N ts i + vs.length - N.sz t = offL N ts i + vs.length from by omega]
def setFields (own : List (Nat × Blk N)) (ρ : Operand → RV N) (ts : List Ty) : List (Nat × Operand) → HL N.ρ ts → List Nat → Option (HL N.ρ ts × List Nat)
 | [], x, bs => some (x, bs)
 | (i, o) :: r, x, bs => match tyAt ts i with
  | some t => match toDen own t (ρ o) with
   | some (y, b) => match hlSet ts x i ⟨t, y⟩ with
    | some x' => setFields own ρ ts r x' (bs ++ b)
    | none => none
   | none => none
  | none => none
theorem setFields_rel {io : Io} {w0 w : World} {σ : St N} {E : Env} {a : Act} (hr : RelE io w0 σ E a w) {ts : List Ty} {fs : List Field} (hf : FieldsFit N τ ts 0 fs)
  {place : Nat → Option (Nat × Nat)} (hplace : ∀ i t, tyAt ts i = some t → place i = some (offL N ts i, N.sz t)) :
  ∀ (parts : List (Nat × Operand)) (x y : HL N.ρ ts) (bs bs' : List Nat) (cs : List Value), setFields σ.own (ev σ) ts parts x bs = some (y, bs') → RepL w (okb w.heap.size σ.own E bs) (RepN w (okb w.heap.size σ.own E bs)) ts x cs →
   ∃ ds, Instr.fill place cs.toArray (parts.map fun p => (p.1, a.eval p.2)) = some ds.toArray ∧ RepL w (okb w.heap.size σ.own E bs') (RepN w (okb w.heap.size σ.own E bs')) ts y ds
 | [], x, y, bs, bs', cs, h, hx => by
  cases h
  exact ⟨cs, rfl, hx⟩
 | (i, o) :: r, x, y, bs, bs', cs, h, hx => by
  simp only [setFields] at h
  split at h
  ·rename_i t ht
   split at h
   ·rename_i z b hz
    split at h
    ·rename_i x' hx'
     obtain ⟨vs, v1, v2⟩ := hr.toDen hz (hr.ev o)
     have v3 := AsV_cells v1 v2
     have v4 := Rep_length v1
     have hxm := RepLL_more (bs' := bs ++ b) (fun i hi => List.mem_append.2 (.inl hi)) hx
     have hvm := Rep_more (bs' := bs ++ b) (fun i hi => List.mem_append.2 (.inr hi)) v1
     obtain ⟨k1, k2⟩ := hlSet_rep (v := ⟨t, z⟩) hvm ts x x' i cs hx' hxm
     obtain ⟨ds, d1, d2⟩ := setFields_rel hr hf hplace r x' y (bs ++ b) bs' _ h k1
     refine ⟨ds, ?_, d2⟩
     rw [List.map_cons, fill_step (hplace i t ht) (by rw [← v4, ← v3]; simp) (by simp; omega)]
     rw [show (cs.toArray).toList = cs from rfl, v3]
     exact d1
    ·cases h
   ·cases h
  ·cases h
def setCells (own : List (Nat × Blk N)) (ρ : Operand → RV N) (ts : List Ty) : List (Nat × Operand) → List (RV N) → Option (List (RV N))
 | [], l => some l
 | (i, o) :: r, l => match tyAt ts i with
  | some t => match storeVals own t (ρ o) with
   | some vs => bif Nat.ble (offL N ts i + vs.length) l.length then setCells own ρ ts r (l.take (offL N ts i) ++ vs ++ l.drop (offL N ts i + vs.length)) else none
   | none => none
  | none => none
theorem cellsSplice_get {β : Type} {l vs : List β} {o : Nat} (h : o + vs.length ≤ l.length) (i : Nat) : (l.take o ++ vs ++ l.drop (o + vs.length))[i]? = if i < o then l[i]? else if i < o + vs.length then vs[i - o]? else l[i]? := by
 have ho : (l.take o).length = o := by simp; omega
 by_cases h1 : i < o
 ·rw [if_pos h1, List.append_assoc, List.getElem?_append_left (by omega), List.getElem?_take, if_pos h1]
 ·rw [if_neg h1, List.append_assoc, List.getElem?_append_right (by omega), ho]
  by_cases h2 : i < o + vs.length
  ·rw [if_pos h2, List.getElem?_append_left (by omega)]
  ·rw [if_neg h2, List.getElem?_append_right (by omega), List.getElem?_drop]
   congr 1
   omega
theorem setCells_rel {io : Io} {w0 w : World} {σ : St N} {E : Env} {a : Act} (hr : RelE io w0 σ E a w) {ts : List Ty}
  {place : Nat → Option (Nat × Nat)} (hplace : ∀ i t, tyAt ts i = some t → place i = some (offL N ts i, N.sz t)) :
  ∀ (parts : List (Nat × Operand)) (l m : List (RV N)) (cs : List Value), setCells σ.own (ev σ) ts parts l = some m → cs.length = l.length → (∀ (i : Nat) r u, l[i]? = some r → cs[i]? = some u → RVRel w σ.own E r u) →
   ∃ ds : List Value, Instr.fill place cs.toArray (parts.map fun p => (p.1, a.eval p.2)) = some ds.toArray ∧ ds.length = m.length ∧ ∀ (i : Nat) r u, m[i]? = some r → ds[i]? = some u → RVRel w σ.own E r u
 | [], l, m, cs, h, hl, hc => by
  cases h
  exact ⟨cs, rfl, hl, hc⟩
 | (i, o) :: r, l, m, cs, h, hl, hc => by
  simp only [setCells] at h
  split at h
  ·rename_i t ht
   split at h
   ·rename_i vs hvs
    obtain ⟨hle, h⟩ := bif_none h
    have hle := Nat.le_of_ble_eq_true hle
    obtain ⟨us, v1, v2, v3, v4, v5⟩ := storeVals_rv hr (hr.ev o) hvs
    have hle2 : offL N ts i + us.length ≤ cs.length := by rw [hl, v2]; exact hle
    obtain ⟨ds, d1, d2, d3⟩ := setCells_rel hr hplace r _ m (splice cs (offL N ts i) us) h (by
     rw [splice_length hle2, hl]
     simp only [List.length_append, List.length_take, List.length_drop]
     omega) (fun j q u hj hu => by
     rw [cellsSplice_get hle] at hj
     unfold splice at hu
     rw [cellsSplice_get hle2, v2] at hu
     split at hj
     ·rename_i h1
      rw [if_pos h1] at hu
      exact hc j q u hj hu
     ·rename_i h1
      rw [if_neg h1] at hu
      split at hj
      ·rename_i h2
       rw [if_pos h2] at hu
       exact v5 _ q u hj hu
      ·rename_i h2
       rw [if_neg h2] at hu
       exact hc j q u hj hu)
    refine ⟨ds, ?_, d2, d3⟩
    rw [List.map_cons, fill_step (hplace i t ht) (by rw [← v3, ← v1]; simp) (by simp; omega)]
    rw [show (cs.toArray).toList = cs from rfl, v1]
    exact d1
   ·cases h
  ·cases h
def evBuild (τ : TypeId → Option TI) (σ : St N) (t : TypeId) (dst : Option Nat) (parts : List (Nat × Operand)) (k : KK N β) : Option β :=
 match τ t with
 | some ⟨.nm n, _⟩ => bif (N.rowsAt n).isEmpty then match setFields σ.own (ev σ) (N.body n) parts (N.un n (N.dv n)) [] with
   | some (x, bs) => k (.one (.data (.nm n) (N.re n x) bs)) []
   | none => none
  else match setCells σ.own (ev σ) (N.body n) parts (zeroCells N 8 (.nm n)) with
   | some l => outVals σ.own dst n l k
   | none => none
 | _ => none
theorem places_of (F : Fits P N τ) : ∀ (ts : List Ty) (off : Nat) (fs : List Field), FieldsFit N τ ts off fs → ∃ pl, fs.mapM (fun f => (P.info? f.type).map fun i => (f.offset, i.size)) = some pl ∧ ∀ i t, tyAt ts i = some t → pl[i]? = some (off + offL N ts i, N.sz t)
 | [], off, [], _ => ⟨[], rfl, fun i t h => by cases h⟩
 | [], _, _ :: _, hf => hf.elim
 | _ :: _, _, [], hf => hf.elim
 | t :: ts, off, f :: fs, hf => by
  obtain ⟨f1, ⟨e, f2⟩, _, _, f5⟩ := hf
  obtain ⟨i, z, zc, h1, _, h3, _⟩ := F.info f2
  obtain ⟨pl, p1, p2⟩ := places_of F ts _ fs f5
  refine ⟨(f.offset, i.size) :: pl, ?_, fun j t' hj => ?_⟩
  ·simp [List.mapM_cons, h1, p1]
  ·cases j with
   | zero => cases hj; simp [offL, f1, h3]
   | succ j =>
    have := p2 j t' hj
    simp only [List.getElem?_cons_succ, this, offL, Nat.add_assoc]
theorem evBuild_sound (F : Fits P N τ) {σ : St N} {t : TypeId} {dst : Option Nat} {parts : Array (Nat × Operand)} {k : KK N β} {r : β} (h : evBuild τ σ t dst parts.toList k = some r) :
  ∃ s ad, k s ad = some r ∧ Does P σ (fun a => Instr.build t (parts.map fun (i, x) => (i, a.eval x))) s ad := by
 unfold evBuild at h
 split at h
 ·rename_i n e hτ
  cases hd : (N.rowsAt n).isEmpty with
  | true =>
   rw [hd, cond_true] at h
   split at h
   ·rename_i x bs hx
    refine ⟨_, _, h, Does.pure fun io w0 E a w hr => ?_⟩
    obtain ⟨fs, u1, u2, _, _, zc, ⟨it, i1, i2, i3, i4⟩, _, u5⟩ := F.nm t n e hτ
    rcases u1 with ⟨_, u1⟩ | ⟨len, el, ie, _, u1, ui, rfl⟩
    ·obtain ⟨pl, p1, p2⟩ := places_of F _ _ _ u2
     obtain ⟨ds, d1, d2⟩ := setFields_rel (τ := τ) hr u2 (place := fun i => pl.toArray[i]?) (fun i t' ht' => by simpa using p2 i t' ht') parts.toList _ x [] bs zc.toList hx (RepN_open (u5 w (okb w.heap.size σ.own E [])))
     refine ⟨.agg ds.toArray, ?_, ds, RepN_close (by rw [N.un_re]; exact d2), rfl⟩
     refine run_build w t _ ds.toArray ?_
     unfold Program.built
     simp only [i1, u1, i2, p1]
     rw [show (parts.map fun (x : Nat × Operand) => (x.1, a.eval x.2)).toList = parts.toList.map (fun p => (p.1, a.eval p.2)) from by simp]
     exact d1
    ·have hpl : ∀ i t, tyAt (N.body n) i = some t → (fun i => some (i * ie.size, ie.size)) i = some (offL N (N.body n) i, N.sz t) := by
      intro i t' ht'
      obtain ⟨f, e', g1, g2, g3⟩ := FieldsFit_ty _ 0 _ i t' u2 ht'
      obtain ⟨hlt, rfl⟩ := List.getElem?_eq_some_iff.1 g1
      simp only [virt, List.getElem_map, List.getElem_range', Nat.zero_add, Nat.one_mul] at g2 g3
      obtain ⟨i2, z, zc2, h1, _, h3, _⟩ := F.info g3
      rw [ui] at h1
      cases h1
      rw [← h3, ← g2]
     obtain ⟨ds, d1, d2⟩ := setFields_rel (τ := τ) hr u2 (place := fun i => some (i * ie.size, ie.size)) hpl parts.toList _ x [] bs zc.toList hx (RepN_open (u5 w (okb w.heap.size σ.own E [])))
     refine ⟨.agg ds.toArray, ?_, ds, RepN_close (by rw [N.un_re]; exact d2), rfl⟩
     refine run_build w t _ ds.toArray ?_
     unfold Program.built
     simp only [i1, u1, i2, ui]
     rw [show (parts.map fun (x : Nat × Operand) => (x.1, a.eval x.2)).toList = parts.toList.map (fun p => (p.1, a.eval p.2)) from by simp]
     exact d1
   ·cases h
  | false =>
   rw [hd, cond_false] at h
   split at h
   ·rename_i l hl
    refine Does.vals h (fun hlen io w0 E a w hr => ?_)
    obtain ⟨fs, u1, u2, _, _, zc, ⟨it, i1, i2, i3, i4⟩, _, u5⟩ := F.nm t n e hτ
    have hz := zeroCells_rel (w := w) (own := σ.own) (E := E) 8 (.nm n) zc.toList (F.zo t n e it zc hτ i1 i2)
    rcases u1 with ⟨_, u1⟩ | ⟨len, el, ie, _, u1, ui, rfl⟩
    ·obtain ⟨pl, p1, p2⟩ := places_of F _ _ _ u2
     obtain ⟨ds, d1, d2, d3⟩ := setCells_rel hr (place := fun i => pl.toArray[i]?) (fun i t' ht' => by simpa using p2 i t' ht') parts.toList _ l zc.toList hl hz.1.symm hz.2
     refine ⟨ds, ?_, d2, d3⟩
     refine run_build w t _ ds.toArray ?_
     unfold Program.built
     simp only [i1, u1, i2, p1]
     rw [show (parts.map fun (x : Nat × Operand) => (x.1, a.eval x.2)).toList = parts.toList.map (fun p => (p.1, a.eval p.2)) from by simp]
     exact d1
    ·have hpl : ∀ i t, tyAt (N.body n) i = some t → (fun i => some (i * ie.size, ie.size)) i = some (offL N (N.body n) i, N.sz t) := by
      intro i t' ht'
      obtain ⟨f, e', g1, g2, g3⟩ := FieldsFit_ty _ 0 _ i t' u2 ht'
      obtain ⟨hlt, rfl⟩ := List.getElem?_eq_some_iff.1 g1
      simp only [virt, List.getElem_map, List.getElem_range', Nat.zero_add, Nat.one_mul] at g2 g3
      obtain ⟨i2, z, zc2, h1, _, h3, _⟩ := F.info g3
      rw [ui] at h1
      cases h1
      rw [← h3, ← g2]
     obtain ⟨ds, d1, d2, d3⟩ := setCells_rel hr (place := fun i => some (i * ie.size, ie.size)) hpl parts.toList _ l zc.toList hl hz.1.symm hz.2
     refine ⟨ds, ?_, d2, d3⟩
     refine run_build w t _ ds.toArray ?_
     unfold Program.built
     simp only [i1, u1, i2, ui]
     rw [show (parts.map fun (x : Nat × Operand) => (x.1, a.eval x.2)).toList = parts.toList.map (fun p => (p.1, a.eval p.2)) from by simp]
     exact d1
   ·cases h
 ·cases h
end Go.Eng

set_option linter.unusedVariables false
set_option linter.unusedSimpArgs false
namespace Go.Eng
variable {N : Names} {P : Program} {τ : TypeId → Option TI} {β : Type}
theorem Ext.alloc (w : World) (o : Obj) : Ext w (w.alloc o) :=
 ⟨rfl, rfl, rfl, by simp, fun g hg => RowKit.Below.heap_alloc w o g hg⟩
theorem Ext.trans {a b c : World} (h : Ext a b) (k : Ext b c) : Ext a c :=
 ⟨k.os.trans h.os, k.tape.trans h.tape, k.output.trans h.output, Nat.le_trans h.size k.size, fun g hg => (k.block g (Nat.lt_of_lt_of_le hg h.size)).trans (h.block g hg)⟩
theorem Ext.grown {w w' : World} (h : w.grownBy w' none) : Ext w w' :=
 ⟨h.os, h.tape, h.output, h.size, fun g hg => h.block g hg (by simp)⟩
theorem run_newVar (w : World) (t : TypeId) (v : Value) : (newVar t v).run P w = .ok ⟨w.heap.size, 0, none⟩ (w.alloc (.cells v.cells t)) := by
 simp [newVar, newRow]
theorem Rep_new {w w' : World} {own : List (Nat × Blk N)} {E : Env} {id : Nat} {b : Blk N} {V : Value} (he : Ext w w') (hV : ∀ g, blkOf V = some g → w.heap.size ≤ g) {bs : List Nat} {t : Ty} {x : t.den N.ρ} {cs : List Value}
  (h : Rep w (okb w.heap.size own E bs) t x cs) : Rep w' (okb w'.heap.size (ins id b own) (updE E id V) bs) t x cs :=
 Rep_mono (fun _ _ _ hc => he.cell hc) (fun _ hb => okb_ins he.size hV hb) h
def allocArr (N : Names) (n : Nat) (e : TypeId) : Option (Ty × Nat) := bif Nat.beq e 0 then none else match arrOf N n with
 | some (T, len) => bif Nat.ble len maxLen then some (T, len) else none
 | none => none
theorem zeroOk_scal {w : World} {ok : Nat → Prop} {f : Nat} {T : Ty} {c : List Value} (hs : scalT T = true) (h : zeroOk N f T c = true) : Rep w ok T (N.dflt T) c := by
 unfold zeroOk at h
 split at h
 ·simp only [Bool.and_eq_true, decide_eq_true_eq] at h
  obtain ⟨rfl, rfl⟩ := h
  rfl
 ·rename_i b
  cases b with
  | true => cases h
  | false => rfl
 ·rename_i s
  refine ⟨s, rfl, ?_⟩
  simp only [List.isEmpty_iff] at h
  unfold bytesL
  rw [h]
  rfl
 ·cases hs
 ·cases hs
 ·cases hs
 ·cases h
theorem zeroL_replicate {w : World} {ok : Nat → Prop} {T : Ty} (hs : scalT T = true) (f : Nat) : ∀ (len : Nat) (cs : List Value), zeroL (zeroOk N f) N.sz (List.replicate len T) cs = true → RowC (Rep w ok T) (List.replicate len (N.dflt T)) cs
 | 0, cs, h => by
  have : cs = [] := by simpa [zeroL] using h
  subst this
  rfl
 | len + 1, cs, h => by
  simp only [List.replicate_succ, zeroL, Bool.and_eq_true] at h
  exact ⟨cs.take (N.sz T), cs.drop (N.sz T), (List.take_append_drop _ _).symm, zeroOk_scal hs h.1, zeroL_replicate hs f len _ h.2⟩
theorem allocArr_spec (F : Fits P N τ) {t : TypeId} {n len : Nat} {e : TypeId} {T : Ty} (hτ : τ t = some ⟨.nm n, e⟩) (ha : allocArr N n e = some (T, len)) :
  len ≤ maxLen ∧ 0 < len ∧ N.body n = List.replicate len T ∧ scalT T = true := by
 unfold allocArr at ha
 cases hb : Nat.beq e 0 with
 | true => rw [hb] at ha; cases ha
 | false =>
  rw [hb] at ha
  simp only [cond_false] at ha
  split at ha
  ·rename_i T' len' h0
   obtain ⟨h1, h2⟩ := bif_none ha
   cases h2
   obtain ⟨_, _, _, _, h5, h6, h7⟩ := arrOf_spec F hτ h0 (fun e0 => by rw [e0] at hb; cases hb)
   exact ⟨Nat.le_of_ble_eq_true h1, h6, h5, h7⟩
  ·cases ha
def boxArr (N : Names) : (ty : Ty) → ty.den N.ρ → TypeId → Option (Nat × ((T : Ty) × List (T.den N.ρ)))
 | .nm n, x, e => match allocArr N n e with
  | some (T, len) => match N.lst n T x with
   | some l => some (len, ⟨T, l⟩)
   | none => none
  | none => none
 | _, _, _ => none
theorem boxArr_spec (F : Fits P N τ) {t : TypeId} {ty : Ty} {e : TypeId} {x : ty.den N.ρ} {len : Nat} {T : Ty} {l : List (T.den N.ρ)} (hτ : τ t = some ⟨ty, e⟩) (h : boxArr N ty x e = some (len, ⟨T, l⟩)) :
  len = l.length ∧ l.length ≤ maxLen ∧ 0 < l.length ∧ ∀ {w : World} {ok : Nat → Prop} {cells : List Value}, Rep w ok ty x cells → RowC (Rep w ok T) l cells := by
 unfold boxArr at h
 split at h
 ·rename_i e n x
  split at h
  ·rename_i T' len ha
   split at h
   ·rename_i l' hl
    cases h
    obtain ⟨h1, h2, h3, h4⟩ := allocArr_spec F hτ ha
    obtain ⟨l1, l2⟩ := N.lst_ok n _ x l hl
    have hll : l.length = len := by rw [l1, h3, List.length_replicate]
    exact ⟨hll.symm, by omega, by omega, fun hr => repL_rowC l _ _ _ (by rw [hll, h3]) l2 (RepN_open hr)⟩
   ·cases h
  ·cases h
 ·cases h
def evBox (τ : TypeId → Option TI) (own : List (Nat × Blk N)) (t : TypeId) (dst : Option Nat) (r : RV N) (k : KK N β) : Option β :=
 match dst with
 | none => none
 | some d => match look own (1000 + d) with
  | some _ => none
  | none => bif loose r then k (.one (.bptr (1000 + d) 0)) [(1000 + d, .cells [r])] else bif isMp r then match τ t with
    | some ⟨ty, _⟩ => match storeVals own ty r with
     | some vs => k (.one (.bptr (1000 + d) 0)) [(1000 + d, .cells vs)]
     | none => none
    | none => none
   else match τ t with
   | some ⟨ty, e⟩ => match toDen own ty r with
    | some (x, bs) => match boxArr N ty x e with
     | some (len, ⟨T, l⟩) => k (.one (.optr (1000 + d) 0 0)) [(1000 + d, .row (tagA len) T l bs true)]
     | none => k (.one (.bptr (1000 + d) 0)) [(1000 + d, .whole ty x bs)]
    | none => none
   | none => none
theorem evBox_sound (F : Fits P N τ) {σ : St N} {t : TypeId} {dst : Option Nat} {x : Operand} {k : KK N β} {r : β} (h : evBox τ σ.own t dst (ev σ x) k = some r) :
  ∃ s ad, k s ad = some r ∧ Does P σ (fun a => Instr.box t (a.eval x)) s ad := by
 unfold evBox at h
 split at h
 ·cases h
 ·rename_i d
  split at h
  ·cases h
  ·rename_i hl
   have hrun : ∀ (a : Act) (w : World), (Instr.box t (a.eval x)).run P w = .ok (.pointer (some ⟨w.heap.size, 0, none⟩)) (w.alloc (.cells (a.eval x).cells t)) := by
    intro a w
    simp only [Instr.box, Sem.run_bind, run_newVar, Result.andThen_ok, Sem.run_pure]
   have hVg : ∀ w : World, ∀ o : Obj, ∀ g, blkOf (.pointer (some ⟨w.heap.size, 0, none⟩)) = some g → w.heap.size ≤ g ∧ g < (w.alloc o).heap.size := by
    intro w o g hg
    cases hg
    exact ⟨Nat.le_refl _, by simp⟩
   cases hlo : loose (ev σ x) with
   | true =>
    rw [hlo] at h
    refine ⟨_, _, h, fun io w0 E a w hr => ?_⟩
    have hx := hr.ev x
    have hc := loose_cells hlo hx hr.rowVal
    have he := Ext.alloc w (.cells (a.eval x).cells t)
    have hadd := hr.add he (V := .pointer (some ⟨w.heap.size, 0, none⟩)) (b := .cells [ev σ x]) hl (hVg w _) ⟨w.heap.size, t, (a.eval x).cells, updE_same _ _ _, heap_alloc_new w _, by rw [hc]; rfl, fun i r u hi hu => by
     match i, hi with
     | 0, hi =>
      rw [hc] at hu
      simp only [List.getElem?_cons_zero, Option.some.injEq] at hi
      subst hi
      have : a.eval x = u := by simpa using hu
      subst this
      exact RVRel_ins he hl (fun g hg => (hVg w (.cells #[] t) g hg).1) hx⟩
    exact ⟨_, _, _, hrun a w, hadd, .inr (.inl ⟨_, by rw [show insAll [(1000 + d, Blk.cells [ev σ x])] σ.own = ins _ _ σ.own from rfl, look_ins, if_pos rfl]⟩), w.heap.size, updE_same _ _ _, rfl⟩
   | false =>
    rw [hlo] at h
    simp only [cond_false] at h
    cases hmp : isMp (ev σ x) with
    | true =>
     rw [hmp, cond_true] at h
     split at h
     ·rename_i ty e hτ
      split at h
      ·rename_i vs hvs
       refine ⟨_, _, h, fun io w0 E a w hr => ?_⟩
       obtain ⟨cs, s1, s2, s3, s4, s5⟩ := storeVals_rv hr (hr.ev x) hvs
       have he := Ext.alloc w (.cells (a.eval x).cells t)
       have hadd := hr.add he (V := .pointer (some ⟨w.heap.size, 0, none⟩)) (b := .cells vs) hl (hVg w _) ⟨w.heap.size, t, (a.eval x).cells, updE_same _ _ _, heap_alloc_new w _, by rw [← s2, ← s1]; simp, fun i r u hi hu =>
        RVRel_ins he hl (fun g hg => (hVg w (.cells #[] t) g hg).1) (s5 i r u hi (by rw [← s1]; simpa using hu))⟩
       exact ⟨_, _, _, hrun a w, hadd, .inr (.inl ⟨_, by rw [show insAll [(1000 + d, Blk.cells vs)] σ.own = ins _ _ σ.own from rfl, look_ins, if_pos rfl]⟩), w.heap.size, updE_same _ _ _, rfl⟩
      ·cases h
     ·cases h
    | false =>
    rw [hmp, cond_false] at h
    split at h
    ·rename_i ty e hτ
     split at h
     ·rename_i y bs hy
      split at h
      ·rename_i len T l hbx
       obtain ⟨rfl, q1, q2, q3⟩ := boxArr_spec F hτ hbx
       refine ⟨_, _, h, fun io w0 E a w hr => ?_⟩
       obtain ⟨cs, h1, h2⟩ := hr.toDen hy (hr.ev x)
       have hc := AsV_cells h1 h2
       have he := Ext.alloc w (.cells (a.eval x).cells t)
       have hz3 : RowC (Rep (w.alloc (.cells (a.eval x).cells t)) (okb (w.alloc (.cells (a.eval x).cells t)).heap.size (ins (1000 + d) (.row (tagA l.length) T l bs true) σ.own) (updE E (1000 + d) (.slice (some ⟨w.heap.size, 0, none⟩) l.length l.length)) bs) T) l (a.eval x).cells.toList := by
        rw [hc]
        exact q3 (Rep_new he (fun g hg => by cases hg; exact Nat.le_refl _) h1)
       have hlen := RowC_length (fun x cs hx => Rep_length hx) hz3
       have hadd := hr.add he (V := .slice (some ⟨w.heap.size, 0, none⟩) l.length l.length) (b := .row (tagA l.length) T l bs true) hl (fun g hg => by cases hg; exact ⟨Nat.le_refl _, by simp⟩)
        ⟨(a.eval x).cells.toList, by
         rw [updE_same]
         exact ⟨hlen, .inr ⟨w.heap.size, l.length, (a.eval x).cells, t, (0, 0), rfl, heap_alloc_new w _, .inl rfl, ⟨fun h => absurd h (Nat.not_lt.2 (Nat.le_trans (Nat.le_mul_of_pos_left tagM (by decide)) (two_tagA l.length))), fun _ => ⟨rfl, rfl⟩⟩, Nat.le_refl _, q1, by simpa using hlen, List.take_of_length_le (by omega)⟩⟩, hz3⟩
       refine ⟨_, _, _, hrun a w, hadd, w.heap.size, l.length, l.length, T, ?_, q2, updE_same _ _ _, by rw [Nat.zero_mul]⟩
       exact ⟨tagA l.length, l, bs, true, by rw [show insAll [(1000 + d, Blk.row (tagA l.length) T l bs true)] σ.own = ins _ _ σ.own from rfl, look_ins, if_pos rfl], rfl⟩
      refine ⟨_, _, h, fun io w0 E a w hr => ?_⟩
      obtain ⟨cs, h1, h2⟩ := hr.toDen hy (hr.ev x)
      have hc := AsV_cells h1 h2
      have he := Ext.alloc w (.cells (a.eval x).cells t)
      have hadd := hr.add he (V := .pointer (some ⟨w.heap.size, 0, none⟩)) (b := .whole ty y bs) hl (hVg w _) ⟨w.heap.size, t, (a.eval x).cells, updE_same _ _ _, heap_alloc_new w _, by
       rw [hc]
       exact Rep_new he (fun g hg => (hVg w (.cells #[] t) g hg).1) h1⟩
      exact ⟨_, _, _, hrun a w, hadd, .inl ⟨_, _, _, by rw [show insAll [(1000 + d, Blk.whole ty y bs)] σ.own = ins _ _ σ.own from rfl, look_ins, if_pos rfl]⟩, w.heap.size, updE_same _ _ _, rfl⟩
     ·cases h
    ·cases h
def evAlloc (τ : TypeId → Option TI) (own : List (Nat × Blk N)) (t : TypeId) (dst : Option Nat) (k : KK N β) : Option β :=
 match dst with
 | none => none
 | some d => match look own (1000 + d) with
  | some _ => none
  | none => match τ t with
   | some ⟨.sl e, el⟩ => match look own (2000 + d) with
    | some _ => none
    | none => k (.one (.bptr (1000 + d) 0)) [(1000 + d, .cells [.own (2000 + d)]), (2000 + d, .row el e [] [] false)]
   | some ⟨.opq, _⟩ => k (.one (.bptr (1000 + d) 0)) [(1000 + d, .cells [.undef])]
   | some ⟨.nm n, e⟩ => match allocArr N n e with
    | some (T, len) => k (.one (.optr (1000 + d) 0 0)) [(1000 + d, .row (tagA len) T (List.replicate len (N.dflt T)) [] true)]
    | none => bif (N.rowsAt n).isEmpty then k (.one (.bptr (1000 + d) 0)) [(1000 + d, .whole (.nm n) (N.dflt (.nm n)) [])] else match nilRows d 0 (N.rowsAt n) (zeroCells N 8 (.nm n)) with
    | (m, es) => bif freshIds own (es.map (·.1)) then k (.one (.bptr (1000 + d) 0)) ((1000 + d, .cells m) :: es) else none
   | some ⟨ty, _⟩ => k (.one (.bptr (1000 + d) 0)) [(1000 + d, .whole ty (N.dflt ty) [])]
   | none => none
theorem run_allocZ (F : Fits P N τ) {t : TypeId} {n : Nat} {e : TypeId} (hτ : τ t = some ⟨.nm n, e⟩) (w : World) : ∃ zc : Array Value, (Instr.alloc t true (.tuple #[])).run P w = .ok (.pointer (some ⟨w.heap.size, 0, none⟩)) (w.alloc (.cells zc t)) ∧ zeroOk N 8 (.nm n) zc.toList = true := by
 obtain ⟨fs, _, _, _, _, zc, ⟨i, h1, h2, h3, h4⟩, _, h5⟩ := F.nm t n e hτ
 refine ⟨zc, ?_, F.zo t n e i zc hτ h1 h2⟩
 simp only [Instr.alloc, zeroValue, typeInfo, Sem.run_bind, run_program, h1, h2, Result.andThen_ok, Sem.run_pure, run_newVar]
 rfl
theorem run_alloc (F : Fits P N τ) {t : TypeId} {ty : Ty} {e : TypeId} (hτ : τ t = some ⟨ty, e⟩) (w : World) : ∃ zc : Array Value, (Instr.alloc t true (.tuple #[])).run P w = .ok (.pointer (some ⟨w.heap.size, 0, none⟩)) (w.alloc (.cells zc t)) ∧ (∀ w ok, Rep w ok ty (N.dflt ty) zc.toList) ∧ zc.size = N.sz ty := by
 obtain ⟨i, z, zc, h1, h2, h3, h4, h5, h6, h7⟩ := F.info hτ
 refine ⟨zc, ?_, h7, ?_⟩
 ·subst h5
  simp only [Instr.alloc, zeroValue, typeInfo, Sem.run_bind, run_program, h1, h2, Result.andThen_ok, Sem.run_pure, run_newVar]
 ·have := Rep_length (h7 w (fun _ => True))
  simpa using this
theorem evAlloc_sound (F : Fits P N τ) {σ : St N} {t : TypeId} {dst : Option Nat} {k : KK N β} {r : β} (h : evAlloc τ σ.own t dst k = some r) :
  ∃ s ad, k s ad = some r ∧ Does P σ (fun a => Instr.alloc t true (.tuple #[])) s ad := by
 unfold evAlloc at h
 split at h
 ·cases h
 ·rename_i d
  split at h
  ·cases h
  ·rename_i hl
   have hVg : ∀ w : World, ∀ o : Obj, ∀ g, blkOf (.pointer (some ⟨w.heap.size, 0, none⟩)) = some g → w.heap.size ≤ g ∧ g < (w.alloc o).heap.size := by
    intro w o g hg
    cases hg
    exact ⟨Nat.le_refl _, by simp⟩
   have hwhole : ∀ ty e, τ t = some ⟨ty, e⟩ → k (.one (.bptr (1000 + d) 0)) [(1000 + d, .whole ty (N.dflt ty) [])] = some r → ∃ s ad, k s ad = some r ∧ Does P σ (fun a => Instr.alloc t true (.tuple #[])) s ad := by
    intro ty e hτ h
    refine ⟨_, _, h, fun io w0 E a w hr => ?_⟩
    obtain ⟨zc, z1, z2, z3⟩ := run_alloc F hτ w
    have he := Ext.alloc w (.cells zc t)
    have hadd := hr.add he (V := .pointer (some ⟨w.heap.size, 0, none⟩)) (b := .whole ty (N.dflt ty) []) hl (hVg w _) ⟨w.heap.size, t, zc, updE_same _ _ _, heap_alloc_new w _, z2 _ _⟩
    exact ⟨_, _, _, z1, hadd, .inl ⟨_, _, _, by rw [show insAll [(1000 + d, Blk.whole ty (N.dflt ty) [])] σ.own = ins _ _ σ.own from rfl, look_ins, if_pos rfl]⟩, w.heap.size, updE_same _ _ _, rfl⟩
   split at h
   ·rename_i e el hτ
    split at h
    ·cases h
    ·rename_i hl2
     refine ⟨_, _, h, fun io w0 E a w hr => ?_⟩
     obtain ⟨zc, z1, z2, z3⟩ := run_alloc F hτ w
     have he := Ext.alloc w (.cells zc t)
     -- the row first: nil, no block
     have hadd1 := hr.add (Ext.refl w) (V := .slice none 0 0) (b := .row el e [] [] false) hl2 (fun g hg => by cases hg) ⟨[], by rw [updE_same]; exact ⟨by simp, .inl ⟨rfl, rfl⟩⟩, rfl⟩
     have hl' : look (ins (2000 + d) (Blk.row el e [] [] false) σ.own) (1000 + d) = none := by
      rw [look_ins, if_neg (by omega)]
      exact hl
     have hzc : zc = #[.slice none 0 0] := by
      obtain ⟨A, cap, c1, c2, c3, c4⟩ := z2 w (fun _ => True)
      have hi := F.sl t e el hτ
      obtain ⟨_, _, i, i1, i2, _⟩ := hi
      obtain ⟨i', z', zc', j1, j2, j3, j4, j5, j6, j7⟩ := F.info hτ
      rw [i1] at j1; cases j1
      rw [i2] at j2; cases j2
      have hrun : (Instr.alloc t true (.tuple #[])).run P w = .ok (.pointer (some ⟨w.heap.size, 0, none⟩)) (w.alloc (.cells #[.slice none 0 0] t)) := by
       simp only [Instr.alloc, zeroValue, typeInfo, Sem.run_bind, run_program, i1, i2, Result.andThen_ok, Sem.run_pure, run_newVar]
       rfl
      rw [hrun] at z1
      have hh := congrArg (fun W : World => W.heap[w.heap.size]?) (Result.ok.inj z1).2
      simp only [heap_alloc_new, Option.some.injEq, Obj.cells.injEq] at hh
      exact hh.1.symm
     have hadd2 := hadd1.add he (V := .pointer (some ⟨w.heap.size, 0, none⟩)) (b := .cells [.own (2000 + d)]) hl' (hVg w _) ⟨w.heap.size, t, zc, updE_same _ _ _, heap_alloc_new w _, by rw [hzc]; rfl, fun i r u hi hu => by
      match i, hi with
      | 0, hi =>
       rw [hzc] at hu
       simp only [List.getElem?_cons_zero, Option.some.injEq] at hi
       subst hi
       have : Value.slice none 0 0 = u := by simpa using hu
       subst this
       refine ⟨by rw [updE_ne _ _ (by omega), updE_same], 0, e, el, [], [], false, ?_, rfl⟩
       rw [look_ins, if_neg (by omega), look_ins, if_pos rfl]⟩
     exact ⟨_, _, _, z1, hadd2, .inr (.inl ⟨_, by rw [show insAll [(1000 + d, Blk.cells [RV.own (2000 + d)]), (2000 + d, Blk.row el e [] [] false)] σ.own = ins _ _ (ins _ _ σ.own) from rfl, look_ins, if_pos rfl]⟩), w.heap.size, updE_same _ _ _, rfl⟩
   ·rename_i e hτ
    refine ⟨_, _, h, fun io w0 E a w hr => ?_⟩
    obtain ⟨zc, z1, z2, z3⟩ := run_alloc F hτ w
    have he := Ext.alloc w (.cells zc t)
    have hadd := hr.add he (V := .pointer (some ⟨w.heap.size, 0, none⟩)) (b := .cells [.undef]) hl (hVg w _) ⟨w.heap.size, t, zc, updE_same _ _ _, heap_alloc_new w _, z3, fun i r u hi hu => by
     match i, hi with
     | 0, hi =>
      simp only [List.getElem?_cons_zero, Option.some.injEq] at hi
      subst hi
      trivial⟩
    exact ⟨_, _, _, z1, hadd, .inr (.inl ⟨_, by rw [show insAll [(1000 + d, Blk.cells [RV.undef])] σ.own = ins _ _ σ.own from rfl, look_ins, if_pos rfl]⟩), w.heap.size, updE_same _ _ _, rfl⟩
   ·rename_i n e hτ
    split at h
    ·rename_i T len harr
     obtain ⟨q1, q2, q3, q4⟩ := allocArr_spec F hτ harr
     refine ⟨_, _, h, fun io w0 E a w hr => ?_⟩
     obtain ⟨zc, z1, z2⟩ := run_allocZ F hτ w
     have he := Ext.alloc w (.cells zc t)
     have hz3 : RowC (Rep (w.alloc (.cells zc t)) (okb (w.alloc (.cells zc t)).heap.size (ins (1000 + d) (.row (tagA len) T (List.replicate len (N.dflt T)) [] true) σ.own) (updE E (1000 + d) (.slice (some ⟨w.heap.size, 0, none⟩) len len)) []) T) (List.replicate len (N.dflt T)) zc.toList := by
      refine zeroL_replicate q4 7 len zc.toList ?_
      have h8 : zeroL (zeroOk N 7) N.sz (N.body n) zc.toList = true := z2
      rw [q3] at h8
      exact h8
     have hlen := RowC_length (fun x cs hx => Rep_length hx) hz3
     rw [List.length_replicate] at hlen
     have hadd := hr.add he (V := .slice (some ⟨w.heap.size, 0, none⟩) len len) (b := .row (tagA len) T (List.replicate len (N.dflt T)) [] true) hl (fun g hg => by cases hg; exact ⟨Nat.le_refl _, by simp⟩)
      ⟨zc.toList, by
       rw [updE_same, List.length_replicate]
       exact ⟨hlen, .inr ⟨w.heap.size, len, zc, t, (0, 0), rfl, heap_alloc_new w _, .inl rfl, ⟨fun h => absurd h (Nat.not_lt.2 (Nat.le_trans (Nat.le_mul_of_pos_left tagM (by decide)) (two_tagA len))), fun _ => ⟨rfl, rfl⟩⟩, Nat.le_refl _, q1, by simpa using hlen, List.take_of_length_le (by omega)⟩⟩, hz3⟩
     refine ⟨_, _, _, z1, hadd, w.heap.size, len, len, T, ?_, q2, updE_same _ _ _, by rw [Nat.zero_mul]⟩
     exact ⟨tagA len, List.replicate len (N.dflt T), [], true, by rw [show insAll [(1000 + d, Blk.row (tagA len) T (List.replicate len (N.dflt T)) [] true)] σ.own = ins _ _ σ.own from rfl, look_ins, if_pos rfl], List.length_replicate⟩
    ·cases hd : (N.rowsAt n).isEmpty with
     | true =>
      rw [hd, cond_true] at h
      exact hwhole _ _ hτ h
     | false =>
      rw [hd, cond_false] at h
      split at h
      rename_i m es hes
      obtain ⟨hc3, h⟩ := bif_none h
      refine ⟨_, _, h, fun io w0 E a w hr => ?_⟩
      obtain ⟨zc, z1, z2⟩ := run_allocZ F hτ w
      have he := Ext.alloc w (.cells zc t)
      obtain ⟨k1, k2, k3, k4⟩ := nilRows_spec d 0 _ _ _ _ hes
      have hfr := freshIds_spec hc3
      obtain ⟨E1, h1, h2, h3, h4⟩ := hr.addNils es k2 (fun p hp => ⟨hfr _ (List.mem_map.2 ⟨p, hp, rfl⟩), (k3 p hp).2⟩)
      have hz := zeroCells_rel (w := w) (own := insAll es σ.own) (E := E1) 8 (.nm n) zc.toList z2
      have hno : look (insAll es σ.own) (1000 + d) = none := by
       rw [h4]
       ·exact hl
       ·intro hm
        obtain ⟨p, hp, e⟩ := List.mem_map.1 hm
        have := (k3 p hp).1
        omega
      have hcell := nils_rel (w := w) h2 (fun p hp => (k3 p hp).2) k4 hz.2
      have hadd := h1.add he (V := .pointer (some ⟨w.heap.size, 0, none⟩)) (b := .cells m) hno (hVg w _) ⟨w.heap.size, t, zc, updE_same _ _ _, heap_alloc_new w _, by rw [k1, hz.1]; simp, fun i r u hi hu => RVRel_ins he hno (fun g hg => (hVg w (.cells #[] t) g hg).1) (hcell i r u hi (by simpa using hu))⟩
      exact ⟨_, _, _, z1, hadd, .inr (.inl ⟨m, by
       show look (ins (1000 + d) (Blk.cells m) (insAll es σ.own)) (1000 + d) = _
       rw [look_ins, if_pos rfl]⟩), w.heap.size, updE_same _ _ _, rfl⟩
   ·rename_i ty e _ _ _ hτ
    exact hwhole _ _ hτ h
   ·cases h
theorem Does.row {σ : St N} {run : Act → Sem Value} {d : Nat} {el : TypeId} {ty : Ty} {xs : List (ty.den N.ρ)} {bs : List Nat} (hl : look σ.own (1000 + d) = none)
  (h : ∀ io w0 E a w, RelE io w0 σ E a w → ∃ V w' cells, (run a).run P w = .ok V w' ∧ Ext w w' ∧ (∀ g, blkOf V = some g → w.heap.size ≤ g) ∧ OwnR w' el (N.sz ty) V xs.length cells ∧
   RowC (Rep w (okb w.heap.size σ.own E bs) ty) xs cells) :
  Does P σ run (.one (.own (1000 + d))) [(1000 + d, .row el ty xs bs false)] := by
 intro io w0 E a w hr
 obtain ⟨V, w', cells, h1, h2, h3, h4, h5⟩ := h io w0 E a w hr
 have hadd := hr.add h2 (V := V) (b := .row el ty xs bs false) hl (fun g hg => ⟨h3 g hg, by
  rcases h4.2 with ⟨rfl, _⟩ | ⟨g', cap, cur, _, _, rfl, hg', _⟩
  ·cases hg
  ·cases hg
   exact (Array.getElem?_eq_some_iff.1 hg').1⟩) ⟨cells, by rw [updE_same]; exact h4, RowC_mono (fun x cs hx => Rep_new h2 h3 hx) h5⟩
 exact ⟨V, w', _, h1, hadd, (updE_same _ _ _).symm, xs.length, ty, el, xs, bs, false, by rw [show insAll [(1000 + d, Blk.row el ty xs bs false)] σ.own = ins _ _ σ.own from rfl, look_ins, if_pos rfl], rfl⟩
def sameLen (σ : St N) (l c : Operand) : Bool :=
 match l, c with
 | .tmp i, .tmp j => i == j
 | .const (.int _ a), .const (.int _ b) => decide (a = b)
 | _, _ => false
def isZero : Operand → Bool
 | .const (.int _ 0) => true
 | _ => false
def litLen : Operand → Option Nat
 | .const (.int _ n) => if 0 ≤ n then some n.toNat else none
 | _ => none
theorem run_make_mid {P : Program} (w : World) (base : Nat) (t e : TypeId) (i : TypeInfo) (z : Value) (size : Nat) (ht : P.underlying t = some (.slice e)) (hi : P.info? e = some i) (hz : i.zero = some z) (hsize : i.size = size)
  (kl kc : IntKind) (n c : Nat) (hnc : n ≤ c) (hbytes : i.bytes * c ≤ 281474976710656) (h63 : c ≤ maxLen) (hbase : base ≤ w.heap.size) :
  ∃ w', (Instr.makeSlice t (.int kl (n : Int)) (.int kc (c : Int))).run P w = .ok (.slice (some ⟨w.heap.size, 0, none⟩) n c) w' ∧
   w'.ownsRow base e size (.slice (some ⟨w.heap.size, 0, none⟩) n c) n ((madeCells z.cells (c * size)).toList.take (n * size)) ∧ w.grownBy w' none := by
 subst hsize
 have h63' : (c : Int) ≤ 9223372036854775807 := by
  have h := h63
  simp [maxLen] at h
  omega
 have hb' : (i.bytes : Int) * (c : Int) ≤ 281474976710656 := by
  have h : ((i.bytes * c : Nat) : Int) ≤ 281474976710656 := by omega
  rwa [Int.natCast_mul] at h
 have hr := run_make (P := P) w t e i z ht hi hz kl kc n c (by omega) (by omega) hb' h63'
 simp only [Int.toNat_natCast] at hr
 have hnm : n * i.size ≤ c * i.size := Nat.mul_le_mul_right _ hnc
 exact ⟨_, hr, ⟨by rw [List.length_take, Array.length_toList, size_madeCells]; omega, .inr ⟨w.heap.size, c, _, rfl, hbase, heap_alloc_new w _, hnc, h63, size_madeCells _ _, rfl⟩⟩, World.grownBy_alloc w _ none⟩
def evMake (τ : TypeId → Option TI) (σ : St N) (t : TypeId) (dst : Option Nat) (l c : Operand) (k : KK N β) : Option β :=
 match dst with
 | none => none
 | some d => match look σ.own (1000 + d) with
  | some _ => none
  | none => match τ t with
   | some ⟨.sl e, el⟩ => match ev σ l, ev σ c with
    | .int _ n, .int _ m =>
     bif sameLen σ l c then (if 0 ≤ m then if m ≤ (lim : Int) then k (.one (.own (1000 + d))) [(1000 + d, .row el e (List.replicate m.toNat (N.dflt e)) [] false)] else none else none)
     else bif isZero l then (if 0 ≤ m then if m ≤ (lim : Int) then k (.one (.own (1000 + d))) [(1000 + d, .row el e [] [] false)] else none else none)
     else match litLen l with
      | some q => if (q : Int) ≤ m then if m ≤ (lim : Int) then k (.one (.own (1000 + d))) [(1000 + d, .row el e (List.replicate q (N.dflt e)) [] false)] else none else none
      | none => none
    | _, _ => none
   | _ => none
theorem evMake_sound (F : Fits P N τ) {σ : St N} {t : TypeId} {dst : Option Nat} {l c : Operand} {k : KK N β} {r : β} (h : evMake τ σ t dst l c k = some r) :
  ∃ s ad, k s ad = some r ∧ Does P σ (fun a => Instr.makeSlice t (a.eval l) (a.eval c)) s ad := by
 unfold evMake at h
 split at h
 ·cases h
 ·rename_i d
  split at h
  ·cases h
  ·rename_i hl
   split at h
   ·rename_i e el hτ
    obtain ⟨u1, ⟨e', u2⟩, _⟩ := F.sl t e el hτ
    obtain ⟨i, z, zc, i1, i2, i3, i4, i5, i6, i7⟩ := F.info u2
    have hpos := F.pos u2
    split at h
    ·rename_i k1 n k2 m hn hm
     have hb : ∀ {m : Int}, 0 ≤ m → m ≤ (lim : Int) → i.bytes * m.toNat ≤ 281474976710656 ∧ m.toNat ≤ maxLen := by
      intro m h0 h1
      unfold lim at h1
      refine ⟨?_, by simp only [maxLen]; omega⟩
      calc i.bytes * m.toNat ≤ 32768 * 4294967296 := Nat.mul_le_mul i4 (by omega)
       _ ≤ 281474976710656 := by decide
     cases hs : sameLen σ l c with
     | true =>
      rw [hs] at h
      simp only [cond_true] at h
      split at h
      ·rename_i h0
       split at h
       ·rename_i h1
        refine ⟨_, _, h, Does.row hl fun io w0 E a w hr => ?_⟩
        have hl' := hr.ev l
        have hc' := hr.ev c
        rw [hn] at hl'
        rw [hm] at hc'
        have hnm : n = m := by
         unfold sameLen at hs
         split at hs
         ·rename_i p q
          have : p = q := by simpa using hs
          subst this
          rw [hn] at hm
          cases hm
          rfl
         ·rename_i p1 p q1 q
          have : p = q := by simpa using hs
          subst this
          cases hn
          cases hm
          rfl
         ·cases hs
        subst hnm
        obtain ⟨b1, b2⟩ := hb h0 h1
        obtain ⟨w', r1, r2, r3⟩ := run_make_full (P := P) w 0 t el i z (N.sz e) u1 i1 i2 i3 k1 k2 n.toNat b1 b2 (Nat.zero_le _)
        have hnn : ((n.toNat : Nat) : Int) = n := Int.toNat_of_nonneg h0
        rw [hnn] at r1
        have hz : z.cells.size = N.sz e := by
         have := Rep_length (i7 w (fun _ => True))
         rw [i5]
         simpa using this
        refine ⟨_, w', _, by rw [show a.eval l = _ from hl', show a.eval c = _ from hc']; exact r1, Ext.grown r3, (fun g hg => by cases hg; exact Nat.le_refl _), by rw [List.length_replicate]; exact .of (F.small2 hτ) r2, ?_⟩
        refine RowC_replicate (zc := z.cells.toList) (by rw [i5]; exact i7 _ _) n.toNat _ ?_ ?_
        ·have := r2.1
         rw [this]
         simp [hz]
        ·unfold madeCells
         exact range_cells _ z.cells (by rw [hz]; exact hpos)
       ·cases h
      ·cases h
     | false =>
      rw [hs] at h
      simp only [cond_false] at h
      cases hz0 : isZero l with
      | true =>
       rw [hz0, cond_true] at h
       split at h
       ·rename_i h0
        split at h
        ·rename_i h1
         refine ⟨_, _, h, Does.row hl fun io w0 E a w hr => ?_⟩
         have hl' := hr.ev l
         have hc' := hr.ev c
         rw [hn] at hl'
         rw [hm] at hc'
         have hn0 : n = 0 := by
          unfold isZero at hz0
          split at hz0
          ·cases hn
           rfl
          ·cases hz0
         subst hn0
         obtain ⟨b1, b2⟩ := hb h0 h1
         obtain ⟨w', r1, r2, r3⟩ := run_make_own (P := P) w 0 t el i z (N.sz e) u1 i1 i2 i3 k1 k2 m.toNat b1 b2 (Nat.zero_le _)
         have hmm : ((m.toNat : Nat) : Int) = m := Int.toNat_of_nonneg h0
         rw [hmm] at r1
         exact ⟨_, w', _, by rw [show a.eval l = _ from hl', show a.eval c = _ from hc']; exact r1, Ext.grown r3, (fun g hg => by cases hg; exact Nat.le_refl _), .of (F.small2 hτ) r2, rfl⟩
        ·cases h
       ·cases h
      | false =>
       rw [hz0, cond_false] at h
       split at h
       ·rename_i q hq
        split at h
        ·rename_i h0
         split at h
         ·rename_i h1
          refine ⟨_, _, h, Does.row hl fun io w0 E a w hr => ?_⟩
          have hl' := hr.ev l
          have hc' := hr.ev c
          rw [hn] at hl'
          rw [hm] at hc'
          have hn0 : n = (q : Int) := by
           unfold litLen at hq
           split at hq
           ·split at hq
            ·cases hn
             cases hq
             omega
            ·cases hq
           ·cases hq
          subst hn0
          have hm0 : 0 ≤ m := by omega
          obtain ⟨b1, b2⟩ := hb hm0 h1
          obtain ⟨w', r1, r2, r3⟩ := run_make_mid (P := P) w 0 t el i z (N.sz e) u1 i1 i2 i3 k1 k2 q m.toNat (by omega) b1 b2 (Nat.zero_le _)
          have hmm : ((m.toNat : Nat) : Int) = m := Int.toNat_of_nonneg hm0
          rw [hmm] at r1
          have hz : z.cells.size = N.sz e := by
           have := Rep_length (i7 w (fun _ => True))
           rw [i5]
           simpa using this
          refine ⟨_, w', _, by rw [show a.eval l = _ from hl', show a.eval c = _ from hc']; exact r1, Ext.grown r3, (fun g hg => by cases hg; exact Nat.le_refl _), by rw [List.length_replicate]; exact .of (F.small2 hτ) r2, ?_⟩
          refine RowC_replicate (zc := z.cells.toList) (by rw [i5]; exact i7 _ _) q _ ?_ ?_
          ·have := r2.1
           rw [this]
           simp [hz]
          ·intro j hj
           rw [List.getElem?_take]
           have hj2 : j < q * N.sz e := by
            rw [List.length_take] at hj
            omega
           rw [if_pos hj2]
           refine range_cells _ z.cells (by rw [hz]; exact hpos) j ?_
           rw [List.length_take] at hj
           show j < (madeCells z.cells (m.toNat * N.sz e)).toList.length
           omega
         ·cases h
        ·cases h
       ·cases h
    ·cases h
   ·cases h
end Go.Eng

set_option linter.unusedVariables false
set_option linter.unusedSimpArgs false
namespace Go.Eng
variable {N : Names} {P : Program} {τ : TypeId → Option TI} {β : Type}
def setParts (own : List (Nat × Blk N)) (ρ : Operand → RV N) (e : Ty) : List (Nat × Operand) → List (e.den N.ρ) → List Nat → Option (List (e.den N.ρ) × List Nat)
 | [], xs, bs => some (xs, bs)
 | (i, o) :: r, xs, bs => match toDen own e (ρ o) with
  | some (y, b) => bif Nat.blt i xs.length then setParts own ρ e r (xs.set i y) (bs ++ b) else none
  | none => none
theorem setParts_rel {io : Io} {w0 w : World} {σ : St N} {E : Env} {a : Act} (hr : RelE io w0 σ E a w) {e : Ty} {sz : Nat} (hsz : sz = N.sz e) :
  ∀ (parts : List (Nat × Operand)) (xs ys : List (e.den N.ρ)) (bs bs' : List Nat) (cs : List Value), setParts σ.own (ev σ) e parts xs bs = some (ys, bs') → RowC (Rep w (okb w.heap.size σ.own E bs) e) xs cs →
   ∃ ds, Instr.fill (fun i => some (i * sz, sz)) cs.toArray (parts.map fun p => (p.1, a.eval p.2)) = some ds.toArray ∧ RowC (Rep w (okb w.heap.size σ.own E bs') e) ys ds ∧ ys.length = xs.length
 | [], xs, ys, bs, bs', cs, h, hx => by
  cases h
  exact ⟨cs, rfl, hx, rfl⟩
 | (i, o) :: r, xs, ys, bs, bs', cs, h, hx => by
  simp only [setParts] at h
  split at h
  ·rename_i z b hz
   obtain ⟨hlt, h⟩ := bif_none h
   have hlt : i < xs.length := by simpa [Nat.blt_eq] using hlt
   obtain ⟨vs, v1, v2⟩ := hr.toDen hz (hr.ev o)
   have v3 := AsV_cells v1 v2
   have v4 := Rep_length v1
   have hxm := RowC_mono (fun x cs hx => Rep_more (bs' := bs ++ b) (fun i hi => List.mem_append.2 (.inl hi)) hx) hx
   have hvm := Rep_more (bs' := bs ++ b) (fun i hi => List.mem_append.2 (.inr hi)) v1
   obtain ⟨k1, k2⟩ := RowC_upd (x' := z) (off := 0) (vs := vs) (fun x cs hx => Rep_length hx) hxm i xs[i] (List.getElem?_eq_getElem hlt) (fun ccs hccs => by
    have l1 := Rep_length hccs
    refine ⟨?_, by omega⟩
    have : splice ccs 0 vs = vs := by
     unfold splice
     rw [List.take_zero, List.nil_append, List.drop_eq_nil_of_le (by omega), List.append_nil]
    rw [this]
    exact hvm)
   rw [Nat.add_zero] at k1 k2
   obtain ⟨ds, d1, d2, d3⟩ := setParts_rel hr hsz r (xs.set i z) ys (bs ++ b) bs' _ h k1
   refine ⟨ds, ?_, d2, by rw [d3]; simp⟩
   rw [List.map_cons, fill_step rfl (by rw [hsz, ← v4, ← v3]; simp) (by rw [hsz]; simp; omega)]
   rw [show (cs.toArray).toList = cs from rfl, v3, hsz]
   rw [hsz] at d1
   exact d1
  ·cases h
def evBuildSlice (τ : TypeId → Option TI) (σ : St N) (t : TypeId) (len : Nat) (parts : List (Nat × Operand)) (dst : Option Nat) (k : KK N β) : Option β :=
 match dst with
 | none => none
 | some d => match look σ.own (1000 + d) with
  | some _ => none
  | none => match τ t with
   | some ⟨.sl e, el⟩ => bif Nat.ble (len * N.sz e) 16777216 then match setParts σ.own (ev σ) e parts (List.replicate len (N.dflt e)) [] with
    | some (xs, bs) => k (.one (.own (1000 + d))) [(1000 + d, .row el e xs bs false)]
    | none => none
    else none
   | _ => none
theorem evBuildSlice_sound (F : Fits P N τ) {σ : St N} {t : TypeId} {len : Nat} {parts : Array (Nat × Operand)} {dst : Option Nat} {k : KK N β} {r : β} (h : evBuildSlice τ σ t len parts.toList dst k = some r) :
  ∃ s ad, k s ad = some r ∧ Does P σ (fun a => Instr.buildSlice t len (parts.map fun (i, x) => (i, a.eval x))) s ad := by
 unfold evBuildSlice at h
 split at h
 ·cases h
 ·rename_i d
  split at h
  ·cases h
  ·rename_i hl
   split at h
   ·rename_i e el hτ
    obtain ⟨hbig, h⟩ := bif_none h
    have hbig : len * N.sz e ≤ 16777216 := Nat.le_of_ble_eq_true hbig
    split at h
    ·rename_i xs bs hx
     refine ⟨_, _, h, Does.row hl fun io w0 E a w hr => ?_⟩
     obtain ⟨u1, ⟨e', u2⟩, _⟩ := F.sl t e el hτ
     obtain ⟨i, z, zc, i1, i2, i3, i4, i5, i6, i7⟩ := F.info u2
     have hpos := F.pos u2
     have hz : z.cells.size = N.sz e := by
      have := Rep_length (i7 w (fun _ => True))
      rw [i5]
      simpa using this
     have hlm : (parts.map fun (x : Nat × Operand) => (x.1, a.eval x.2)).toList = parts.toList.map (fun p => (p.1, a.eval p.2)) := by simp
     have hcells0 : RowC (Rep w (okb w.heap.size σ.own E []) e) (List.replicate len (N.dflt e)) ((Array.range (len * i.size)).map (z.cells[· % z.cells.size]!)).toList := by
      refine RowC_replicate (zc := z.cells.toList) (by rw [i5]; exact i7 _ _) len _ ?_ ?_
      ·simp [hz, i3]
      ·exact range_cells _ z.cells (by rw [hz]; exact hpos)
     obtain ⟨ds, d1, d2, d3⟩ := setParts_rel hr rfl parts.toList _ xs [] bs _ hx hcells0
     rw [List.length_replicate] at d3
     have hds : ds.length = len * N.sz e := by rw [RowC_length (fun x cs hx => Rep_length hx) d2, d3]
     have hown : (w.alloc (.cells ds.toArray el)).ownsRow 0 el (N.sz e) (.slice (some ⟨w.heap.size, 0, none⟩) len len) xs.length ds := by
      refine ⟨by rw [hds, d3], .inr ⟨w.heap.size, len, ds.toArray, by rw [d3], Nat.zero_le _, heap_alloc_new w _, by omega, ?_, by simp [hds], ?_⟩⟩
      ·have : len ≤ len * N.sz e := Nat.le_mul_of_pos_right _ hpos
       simp only [maxLen]
       omega
      ·rw [d3, ← hds]
       simp
     refine ⟨.slice (some ⟨w.heap.size, 0, none⟩) len len, w.alloc (.cells ds.toArray el), ds, ?_, Ext.alloc w _, (fun g hg => by cases hg; exact Nat.le_refl _), .of (F.small2 hτ) hown, d2⟩
     by_cases h0 : len = 0
     ·subst h0
      have hd0 : ds = [] := List.eq_nil_of_length_eq_zero (by rw [hds, Nat.zero_mul])
      subst hd0
      have hf0 : Instr.fill (fun i => some (i * N.sz e, N.sz e)) #[] (parts.map fun (x : Nat × Operand) => (x.1, a.eval x.2)).toList = some #[] := by
       rw [hlm]
       have := d1
       simpa using this
      have hs0 := F.sizeOf u2 w
      show (Instr.buildSlice t 0 (parts.map fun (x : Nat × Operand) => (x.1, a.eval x.2))).run P w = _
      simp only [Instr.buildSlice, Sem.run_bind, run_underlying u1, Result.andThen_ok, hs0, Nat.zero_mul]
      simp only [show ¬ (0 > 2 ^ 24) from by decide, if_false, if_true, Sem.run_pure, Result.andThen_ok, Array.range_zero', Array.map_empty, List.map_toArray, List.map_nil]
      rw [hf0]
      simp [newRow]
     ·have hsm : ¬ len * i.size > 2 ^ 24 := by rw [i3]; omega
      have hnz : ¬ len * i.size = 0 := by
       rw [i3]
       intro h
       rcases Nat.mul_eq_zero.1 h with h | h
       ·exact h0 h
       ·omega
      refine run_buildSlice w t el len _ ds.toArray i z u1 i1 i2 hsm hnz ?_
      rw [i3]
      rw [i3] at d1
      rw [hlm]
      exact d1
    ·cases h
   ·cases h
/-! append -/
theorem flatRep {w : World} {ok : Nat → Prop} {e : Ty} {A : Addr} : ∀ (ys : List (e.den N.ρ)) (o : Nat), (∀ i y, ys[i]? = some y → ∃ ccs, Rep w ok e y ccs ∧ ∀ (j : Nat) u, ccs[j]? = some u → w.cell? (A.add ((o + i) * N.sz e + j)) = some u) →
  ∃ news, RowC (Rep w ok e) ys news ∧ ∀ (j : Nat) u, news[j]? = some u → w.cell? (A.add (o * N.sz e + j)) = some u
 | [], o, _ => ⟨[], rfl, fun j u hu => by simp at hu⟩
 | y :: ys, o, h => by
  obtain ⟨c1, h1, h2⟩ := h 0 y rfl
  obtain ⟨c2, k1, k2⟩ := flatRep ys (o + 1) (fun i z hz => by
   obtain ⟨ccs, g1, g2⟩ := h (i + 1) z (by simpa using hz)
   exact ⟨ccs, g1, fun j u hu => by rw [show o + 1 + i = o + (i + 1) from by omega]; exact g2 j u hu⟩)
  have hl := Rep_length h1
  refine ⟨c1 ++ c2, ⟨c1, c2, rfl, h1, k1⟩, fun j u hu => ?_⟩
  by_cases hj : j < c1.length
  ·rw [List.getElem?_append_left hj] at hu
   have := h2 j u hu
   simpa using this
  ·rw [List.getElem?_append_right (by omega)] at hu
   have := k2 _ u hu
   rw [show (o + 1) * N.sz e + (j - c1.length) = o * N.sz e + j from by rw [Nat.add_mul, Nat.one_mul]; omega] at this
   exact this
theorem RowC_one {w : World} {ok : Nat → Prop} {e : Ty} : ∀ {ys : List (e.den N.ρ)} {news : List Value}, RowC (Rep w ok e) ys news → ∀ u ∈ news, u.oneCell' = true
 | [], news, h => by rw [show news = [] from h]; intro u hu; cases hu
 | y :: ys, news, ⟨c1, c2, e', h1, h2⟩ => by
  subst e'
  intro u hu
  rcases List.mem_append.1 hu with hu | hu
  ·exact Rep_one h1 u hu
  ·exact RowC_one h2 u hu
theorem run_append_zero (t ty el : TypeId) (w : World) (h1 : P.underlying t = some (.slice el)) (i : TypeInfo) (h2 : P.info? el = some i) (base : Option Addr) (n cap : Nat) (hn : n ≤ cap) (c : Nat) :
  (Builtin.append_ #[t, t] ty #[.slice base n cap, .slice none 0 c]).run P w = .ok (.slice base n cap) w := by
 cases base with
 | none => simp [Builtin.append_, run_underlying h1, sizeOf, typeInfo, h2, Builtin.lenOf, Builtin.firstCells, loadCells, loadCellsFrom, hn]
 | some b => simp [Builtin.append_, run_underlying h1, sizeOf, typeInfo, h2, Builtin.lenOf, Builtin.firstCells, loadCells, loadCellsFrom, hn, storeCells]
theorem run_appendOwn (F : Fits P N τ) {io : Io} {w0 w : World} {σ : St N} {E : Env} {a : Act} (hr : RelE io w0 σ E a w) {t ty el : TypeId} {e : Ty} (hτ : τ t = some ⟨.sl e, el⟩)
  {v : Value} {n : Nat} {cells : List Value} (hown : w.ownsRow 0 el (N.sz e) v n cells) {ys : List (e.den N.ρ)} {bs : List Nat} {x : Value} {cs : List Value} (hx : Rep w (okb w.heap.size σ.own E bs) (.sl e) ys cs) (hxv : cs = [x]) (hlim : n + ys.length ≤ lim) :
  ∃ v' w' news, (Builtin.append_ #[t, t] ty #[v, x]).run P w = .ok v' w' ∧ w'.ownsRow 0 el (N.sz e) v' (n + ys.length) (cells ++ news) ∧ w.grownBy w' (blkOf v) ∧ (∀ g, blkOf v' = some g → (blkOf v = some g ∨ w.heap.size ≤ g) ∧ g < w'.heap.size) ∧
   RowC (Rep w (okb w.heap.size σ.own E bs) e) ys news := by
 obtain ⟨u1, ⟨e', u2⟩, _⟩ := F.sl t e el hτ
 obtain ⟨i, z, zc, i1, i2, i3, i4, i5, i6, i7⟩ := F.info u2
 have hpos := F.pos u2
 have hz : z.cells.size = N.sz e := by
  have := Rep_length (i7 w (fun _ => True))
  rw [i5]
  simpa using this
 obtain ⟨A, cap, c1, c2, c2', c3⟩ := hx
 rw [hxv] at c1
 have c5 : x = .slice A ys.length cap := (List.cons.inj c1).1
 have hblk : v.ownBlock = blkOf v := by
  rcases hown.2 with ⟨rfl, _⟩ | ⟨g, cap, cur, rfl, _⟩ <;> rfl
 have hin : ∀ (v' : Value) (w' : World) m ds, w'.ownsRow 0 el (N.sz e) v' m ds → ∀ g, blkOf v' = some g → g < w'.heap.size := by
  intro v' w' m ds ho g hg
  rcases ho.2 with ⟨rfl, _⟩ | ⟨g', cap, cur, rfl, _, hg', _⟩
  ·cases hg
  ·cases hg
   exact (Array.getElem?_eq_some_iff.1 hg').1
 cases A with
 | none =>
  have hy : ys = [] := List.eq_nil_of_length_eq_zero (by have := c2' rfl; omega)
  subst hy
  have hnc : ∃ base n' cap', v = .slice base n' cap' ∧ n' ≤ cap' := by
   rcases hown.2 with ⟨rfl, _⟩ | ⟨g, cap, cur, rfl, _, _, h, _⟩
   ·exact ⟨none, 0, 0, rfl, Nat.le_refl _⟩
   ·exact ⟨_, n, cap, rfl, h⟩
  obtain ⟨base, n', cap', rfl, hnc⟩ := hnc
  refine ⟨_, w, [], by rw [c5]; exact run_append_zero t ty el w u1 i i1 base n' cap' hnc cap, by simpa using hown, ⟨rfl, rfl, rfl, Nat.le_refl _, fun _ _ _ => rfl⟩, fun g hg => ⟨.inl hg, hin _ _ _ _ hown g hg⟩, rfl⟩
 | some ad =>
  obtain ⟨news, n1, n2⟩ := flatRep (A := ad) ys 0 (fun i y hy => by
   obtain ⟨ad', ccs, d1, d2, d3, d4⟩ := c3 i y hy
   cases d1
   exact ⟨ccs, d3, fun j u hu => by rw [Nat.zero_add]; exact d4 j u hu⟩)
  have hnl := RowC_length (fun x cs hx => Rep_length hx) n1
  have hb : (n + ys.length) * i.bytes ≤ 140737488355328 := by
   calc (n + ys.length) * i.bytes ≤ 4294967296 * 32768 := Nat.mul_le_mul hlim i4
    _ ≤ 140737488355328 := by decide
  obtain ⟨v', w', r1, r2, r3, r4, r5⟩ := run_append_own_at (P := P) w 0 t ty el i z (N.sz e) i.bytes u1 i1 i2 i3 rfl hz hpos v n cells hown ad ys.length cap news hnl (fun j u hu => by have := n2 j u hu; simpa using this) (RowC_one n1)
   (by unfold lim at hlim; simp only [maxLen]; omega) hb (Nat.zero_le _)
  have hblk' : v'.ownBlock = blkOf v' := by
   rcases r2.2 with ⟨rfl, _⟩ | ⟨g, cap, cur, rfl, _⟩ <;> rfl
  refine ⟨v', w', news, by rw [c5]; exact r1, r2, by rw [← hblk]; exact r3, fun g hg => ⟨?_, hin _ _ _ _ r2 g hg⟩, n1⟩
  rw [hblk', hblk] at r5
  rcases r5 with r5 | r5
  ·exact .inl (by rw [← r5]; exact hg)
  ·rw [hg] at r5
   cases r5
   exact .inr (Nat.le_refl _)
end Go.Eng

set_option linter.unusedVariables false
set_option linter.unusedSimpArgs false
namespace Go.Eng
variable {N : Names} {P : Program} {τ : TypeId → Option TI} {β : Type}
open Lib in
theorem run_append_str_at (w : World) (t u ty e : TypeId) (i : TypeInfo) (z : Value) (ht : P.underlying t = some (.slice e)) (hu : P.underlying u = some .string) (hi : P.info? e = some i) (hz : i.zero = some z) (hz1 : z.cells.size = 1)
  (hsize : i.size = 1) (v : Value) (n : Nat) (xs : List Value) (hown : w.ownsRow 0 e 1 v n xs) (s : ByteArray)
  (h63 : n + s.size ≤ maxLen) (hbytes : (n + s.size) * i.bytes ≤ 140737488355328) :
  ∃ v' w', (Builtin.append_ #[t, u] ty #[v, .string s]).run P w = .ok v' w' ∧ w'.ownsRow 0 e 1 v' (n + s.size) (xs ++ strCells s) ∧ w.grownBy w' v.ownBlock ∧ (v'.ownBlock = v.ownBlock ∨ v'.ownBlock = some w.heap.size) := by
 have hsmall : n + s.size ≤ 9223372036854775807 := by simp only [maxLen] at h63; omega
 have hxl : xs.length = n := by simpa using hown.1
 have hlen : (xs ++ strCells s).length = (n + s.size) * 1 := by rw [List.length_append, hxl, strCells_length, Nat.mul_one]
 have grown : ∀ (old : Nat), old < n + s.size → ∀ (row : Option Nat),
   (w.drew.alloc (.cells (xs.toArray ++ (strCells s).toArray ++ Builtin.zeroCells z.cells (grownCap w (n + s.size) old e - (n + s.size))) e)).ownsRow 0 e 1
    (.slice (some ⟨w.heap.size, 0, none⟩) (n + s.size) (grownCap w (n + s.size) old e)) (n + s.size) (xs ++ strCells s) ∧
   w.grownBy (w.drew.alloc (.cells (xs.toArray ++ (strCells s).toArray ++ Builtin.zeroCells z.cells (grownCap w (n + s.size) old e - (n + s.size))) e)) row := by
  intro old ho row
  have hge := grownCap_ge w (n + s.size) old e
  have hcm : grownCap w (n + s.size) old e ≤ maxLen := grownCap_le_maxLen w (n + s.size) old e h63
  refine ⟨⟨hlen, .inr ⟨w.heap.size, _, _, rfl, Nat.zero_le _, heap_alloc_new w.drew _, hge, hcm, ?_, ?_⟩⟩, ⟨rfl, rfl, rfl, by simp, fun k hk _ => RowKit.Below.heap_alloc w.drew _ k hk⟩⟩
  ·simp only [Array.size_append, List.size_toArray, size_zeroCells, hz1, hxl, strCells_length]
   omega
  ·simp only [Array.toList_append, List.append_assoc]
   rw [← List.append_assoc, ← hlen]
   exact List.take_left
 rcases hown.2 with ⟨rfl, rfl⟩ | ⟨g, cap, cur, rfl, hbg, hg, hnc, hcm, hcs, htake⟩
 ·have hx : xs = [] := List.eq_nil_of_length_eq_zero hxl
  subst hx
  by_cases hm : s.size = 0
  ·have hn : strCells s = [] := List.eq_nil_of_length_eq_zero (by rw [strCells_length]; exact hm)
   refine ⟨.slice none 0 0, w, ?_, by rw [hm, hn]; exact World.ownsRow_nil w 0 e 1, ⟨rfl, rfl, rfl, Nat.le_refl _, fun _ _ _ => rfl⟩, .inl rfl⟩
   have hf := run_firstCells_string (P := P) w 1 s
   rw [hm] at hf
   simp [Builtin.append_, run_underlying ht, run_underlying hu, sizeOf, typeInfo, hi, hsize, Builtin.lenOf, hm, hf]
  ·have hr := run_append_nil_string (P := P) w t u ty e i z ht hu hi hz s (by omega) (by omega) (by have h := hbytes; simp only [Nat.zero_add] at h; omega)
   have hgr := grown 0 (by omega) (Value.ownBlock (.slice none 0 0))
   simp only [Nat.zero_add, List.nil_append, Array.empty_append] at hgr ⊢
   have e1 : (s.data.map fun b => Value.int .u8 b.toNat) = (strCells s).toArray := by
    apply Array.ext'
    simp [strCells]
   rw [e1] at hr
   exact ⟨_, _, hr, hgr.1, hgr.2, .inr rfl⟩
 ·by_cases hroom : n + s.size ≤ cap
  ·have hcs' : cur.size = cap := by simpa using hcs
   have hr := run_append_room_string (P := P) w t u ty e i ht hu hi hsize g n cap cur hg s hroom (by omega)
   refine ⟨_, _, hr, ⟨hlen, .inr ⟨g, cap, _, rfl, hbg, setRow_heap w g cur _ e _ hg, hroom, hcm, ?_, ?_⟩⟩, ⟨rfl, rfl, rfl, by simp, fun k _ hk => setRow_other w g k _ (fun e => hk (by simp [Value.ownBlock, e]))⟩, .inl rfl⟩
   ·simp only [List.size_toArray, List.length_append, List.length_take, List.length_drop, Array.length_toList, strCells_length]
    omega
   ·have ht' : cur.toList.take n = xs := by simpa using htake
    rw [ht', ← hlen]
    exact List.take_left
  ·have holds : ∀ j u, xs[j]? = some u → w.cell? ((⟨g, 0, none⟩ : Addr).add j) = some u := hown.cells (g := g) rfl
   have hr := run_append_grow_string (P := P) w t u ty e i z ht hu hi hz ⟨g, 0, none⟩ n cap xs (by rw [hsize]; simpa using hxl) holds s (by omega) (by omega) (growslice_fits (by omega) hbytes)
   have hgr := grown cap (by omega) (Value.ownBlock (.slice (some ⟨g, 0, none⟩) n cap))
   exact ⟨_, _, hr, hgr.1, hgr.2, .inr rfl⟩
def appSrc (τ : TypeId → Option TI) (own : List (Nat × Blk N)) (t t2 : TypeId) (e : Ty) (x : RV N) : Option (List (e.den N.ρ) × List Nat) :=
 bif t == t2 then toDen own (.sl e) x else match τ t2 with
  | some ⟨.str, _⟩ => match x with
   | .str l => (castTy N (.sl (.int .u8)) (.sl e) l).map fun y => (y, [])
   | _ => none
  | _ => none
theorem run_appendAny (F : Fits P N τ) {io : Io} {w0 w : World} {σ : St N} {E : Env} {a : Act} (hr : RelE io w0 σ E a w) {t t2 ty el : TypeId} {e : Ty} (hτ : τ t = some ⟨.sl e, el⟩)
  {v : Value} {n : Nat} {cells : List Value} (hown : w.ownsRow 0 el (N.sz e) v n cells) {ys : List (e.den N.ρ)} {bs : List Nat} {x : Operand} (hx : appSrc τ σ.own t t2 e (ev σ x) = some (ys, bs)) (hlim : n + ys.length ≤ lim) :
  ∃ v' w' news, (Builtin.append_ #[t, t2] ty #[v, a.eval x]).run P w = .ok v' w' ∧ w'.ownsRow 0 el (N.sz e) v' (n + ys.length) (cells ++ news) ∧ w.grownBy w' (blkOf v) ∧ (∀ g, blkOf v' = some g → (blkOf v = some g ∨ w.heap.size ≤ g) ∧ g < w'.heap.size) ∧
   RowC (Rep w (okb w.heap.size σ.own E bs) e) ys news := by
 unfold appSrc at hx
 cases htt : (t == t2) with
 | true =>
  rw [htt] at hx
  have : t = t2 := by simpa using htt
  subst this
  obtain ⟨cs, h1, h2⟩ := hr.toDen hx (hr.ev x)
  exact run_appendOwn F hr hτ hown h1 h2 hlim
 | false =>
  rw [htt] at hx
  simp only [cond_false] at hx
  split at hx
  ·rename_i e2 hτ2
   split at hx
   ·rename_i l hl
    obtain ⟨y, hy, hp⟩ := Option.map_eq_some_iff.1 hx
    cases hp
    obtain ⟨et, rfl⟩ := castTy_some hy
    cases et
    have hx' := hr.ev x
    rw [hl] at hx'
    obtain ⟨s, k1, k2⟩ := hx'
    subst k2
    obtain ⟨u1, ⟨e', u2⟩, _⟩ := F.sl t _ el hτ
    obtain ⟨i, z, zc, i1, i2, i3, i4, i5, i6, i7⟩ := F.info u2
    have hz : z.cells.size = 1 := by
     have := Rep_length (i7 w (fun _ => True))
     rw [i5]
     simpa [Names.sz] using this
    have hlim' : n + s.size ≤ lim := by
     have : (bytesL s).length = s.size := bytesL_length s
     have h' : n + (bytesL s).length ≤ lim := hlim
     omega
    have hb : (n + s.size) * i.bytes ≤ 140737488355328 := by
     calc (n + s.size) * i.bytes ≤ 4294967296 * 32768 := Nat.mul_le_mul hlim' i4
      _ ≤ 140737488355328 := by decide
    obtain ⟨v', w', r1, r2, r3, r5⟩ := run_append_str_at (P := P) w t t2 ty el i z u1 (F.str t2 e2 hτ2).1 i1 i2 hz i3 v n cells hown s (by unfold lim at hlim'; simp only [maxLen]; omega) hb
    have hblk : v.ownBlock = blkOf v := by
     rcases hown.2 with ⟨rfl, _⟩ | ⟨g, cap, cur, rfl, _⟩ <;> rfl
    have hblk' : v'.ownBlock = blkOf v' := by
     rcases r2.2 with ⟨rfl, _⟩ | ⟨g, cap, cur, rfl, _⟩ <;> rfl
    have hrow : RowC (Rep (N := N) w (okb w.heap.size σ.own E []) (.int .u8)) (bytesL s) (Lib.strCells s) := by
     unfold bytesL Lib.strCells
     generalize s.data.toList = l
     induction l with
     | nil => rfl
     | cons b l ih => exact ⟨[.int .u8 b.toNat], _, rfl, rfl, ih⟩
    refine ⟨v', w', Lib.strCells s, by rw [k1]; exact r1, ?_, by rw [← hblk]; exact r3, fun g hg => ⟨?_, ?_⟩, hrow⟩
    ·show w'.ownsRow 0 el 1 v' (n + (bytesL s).length) _
     rw [bytesL_length]
     exact r2
    ·rw [hblk', hblk] at r5
     rcases r5 with r5 | r5
     ·exact .inl (by rw [← r5]; exact hg)
     ·rw [hg] at r5
      cases r5
      exact .inr (Nat.le_refl _)
    ·rcases r2.2 with ⟨rfl, _⟩ | ⟨g', cap, cur, rfl, _, hg', _⟩
     ·cases hg
     ·cases hg
      exact (Array.getElem?_eq_some_iff.1 hg').1
   ·cases hx
  ·cases hx
def DoesW (P : Program) (σ : St N) (run : Act → Sem Value) (s : Slot N) (σ' : St N) : Prop :=
 ∀ io w0 E a w, RelE io w0 σ E a w → ∃ v w' E', (run a).run P w = .ok v w' ∧ RelE io w0 σ' E' a w' ∧ SlotRel w' σ'.own E' s v
def noBs (own : List (Nat × Blk N)) (id : Nat) : Bool :=
 own.all fun p => p.1 == id || match p.2 with
  | .cells _ => true
  | .vals _ _ => true
  | b => !b.bs.contains id
def noBs' (own : List (Nat × Blk N)) (id : Nat) : Bool :=
 own.all fun p => p.1 == id || !p.2.bs.contains id
theorem noBs_spec {own : List (Nat × Blk N)} {id : Nat} (h : noBs own id = true) : ∀ j bj, look own j = some bj → j ≠ id → bj.loc ∨ id ∉ bj.bs := by
 intro j bj hj hne
 have := List.all_eq_true.1 h _ (look_mem hj)
 simp only [Bool.or_eq_true, beq_iff_eq, hne, false_or] at this
 cases bj with
 | cells l => exact .inl (.inl ⟨l, rfl⟩)
 | vals n l => exact .inl (.inr ⟨n, l, rfl⟩)
 | mapB kt vt es => exact .inr (fun hm => by cases hm)
 | row e t xs bs p => exact .inr (fun hm => by simp [Blk.bs] at this; exact this hm)
 | whole t x bs => exact .inr (fun hm => by simp [Blk.bs] at this; exact this hm)
theorem noBs'_spec {own : List (Nat × Blk N)} {id : Nat} (h : noBs' own id = true) : ∀ j bj, look own j = some bj → j ≠ id → id ∉ bj.bs := by
 intro j bj hj hne hm
 have := List.all_eq_true.1 h _ (look_mem hj)
 simp only [Bool.or_eq_true, beq_iff_eq, hne, false_or] at this
 rw [List.contains_iff_mem.2 hm] at this
 cases this
def addB (bs : List Nat) : List Nat → List Nat
 | [] => bs
 | j :: r => bif bs.contains j then addB bs r else addB (bs ++ [j]) r
theorem mem_addB {i : Nat} : ∀ {bs b : List Nat}, i ∈ addB bs b ↔ i ∈ bs ∨ i ∈ b
 | bs, [] => by simp [addB]
 | bs, j :: r => by
  unfold addB
  cases h : bs.contains j with
  | true =>
   have hj : j ∈ bs := List.contains_iff_mem.1 h
   rw [cond_true, mem_addB, List.mem_cons]
   constructor
   ·rintro (h1 | h1)
    ·exact .inl h1
    ·exact .inr (.inr h1)
   ·rintro (h1 | h1 | h1)
    ·exact .inl h1
    ·exact .inl (h1 ▸ hj)
    ·exact .inr h1
  | false =>
   rw [cond_false, mem_addB, List.mem_append, List.mem_singleton, List.mem_cons]
   constructor
   ·rintro ((h1 | h1) | h1)
    ·exact .inl h1
    ·exact .inr (.inl h1)
    ·exact .inr (.inr h1)
   ·rintro (h1 | h1 | h1)
    ·exact .inl (.inl h1)
    ·exact .inl (.inr h1)
    ·exact .inr h1
def evAppend (τ : TypeId → Option TI) (σ : St N) (t t2 : TypeId) (dst : Option Nat) (s x : RV N) (k : Slot N → St N → Option β) : Option β :=
 match dst with
 | none => none
 | some d => match τ t with
  | some ⟨.sl e, el⟩ => match appSrc τ σ.own t t2 e x with
   | none => none
   | some (ys, b) => match s with
    | .nil => match look σ.own (1000 + d) with
     | some _ => none
     | none => if ys.length ≤ lim then k (.one (.own (1000 + d))) { σ with own := ins (1000 + d) (.row el e ys b false) σ.own } else none
    | .own id => match look σ.own id with
     | some (.row el' e' xs bs false) => bif eqB el' el && !(addB bs b).contains id && noBs σ.own id then match castTy N (.sl e') (.sl e) xs, look (del id σ.own) (1000 + d) with
      | some xs, none => if xs.length + ys.length ≤ lim then
        k (.one (.own (1000 + d))) { regs := σ.regs.map (Slot.map (kill id)), own := ins (1000 + d) (.row el e (xs ++ ys) (addB bs b) false) (del id (mapO (killB id) σ.own)) }
       else none
      | _, _ => none
      else none
     | _ => none
    | _ => none
  | _ => none
theorem okb_killed {H H' : Nat} {own : List (Nat × Blk N)} {E : Env} {id nid : Nat} {b b' : Blk N} {V : Value} (hH : H ≤ H') (hb : look own id = some b) (hV1 : ∀ g, blkOf V = some g → blkOf (E id) = some g ∨ H ≤ g) {bs : List Nat} (hbs : id ∉ bs) {g : Nat}
  (hg : okb H own E bs g) : okb H' (ins nid b' (del id (mapO (killB id) own))) (updE E nid V) bs g := by
 refine ⟨⟨Nat.lt_of_lt_of_le hg.1.1 hH, hg.1.2⟩, fun j hj hjb => ?_⟩
 rw [look_ins, look_del, look_mapO] at hj
 by_cases hjn : nid = j
 ·subst hjn
  rw [updE_same]
  intro hgv
  rcases hV1 g hgv with h3 | h3
  ·exact hg.2 id (by rw [hb]; rfl) hbs h3
  ·have := hg.1.1
   omega
 ·rw [updE_ne _ _ (Ne.symm hjn)]
  rw [if_neg hjn] at hj
  by_cases hji : id = j
  ·rw [if_pos hji] at hj; cases hj
  ·rw [if_neg hji] at hj
   refine hg.2 j ?_ hjb
   cases hl : look own j with
   | none => rw [hl] at hj; cases hj
   | some _ => rfl
theorem evAppend_sound (F : Fits P N τ) {σ : St N} {t t2 ty : TypeId} {dst : Option Nat} {s x : Operand} {k : Slot N → St N → Option β} {r : β} (h : evAppend τ σ t t2 dst (ev σ s) (ev σ x) k = some r) :
  ∃ sl σ', k sl σ' = some r ∧ DoesW P σ (fun a => Builtin.append_ #[t, t2] ty #[a.eval s, a.eval x]) sl σ' := by
 unfold evAppend at h
 split at h
 ·cases h
 ·rename_i d
  split at h
  ·rename_i e el hτ
   split at h
   ·cases h
   ·rename_i ys b hx
    split at h
    ·rename_i hs
     split at h
     ·cases h
     ·rename_i hl
      split at h
      ·rename_i hlim
       refine ⟨_, _, h, fun io w0 E a w hr => ?_⟩
       have hs' := hr.ev s
       rw [hs] at hs'
       have hv : a.eval s = .slice none 0 0 := hs'
       obtain ⟨v', w', news, r1, r2, r3, r4, r5⟩ := run_appendAny F (ty := ty) hr hτ (v := .slice none 0 0) (n := 0) (cells := []) ⟨by simp, .inl ⟨rfl, rfl⟩⟩ hx (by omega)
       have he : Ext w w' := Ext.grown r3
       rw [Nat.zero_add, List.nil_append] at r2
       have hV : ∀ g, blkOf v' = some g → w.heap.size ≤ g ∧ g < w'.heap.size := fun g hg => by
        obtain ⟨q1, q2⟩ := r4 g hg
        rcases q1 with q1 | q1
        ·cases q1
        ·exact ⟨q1, q2⟩
       have hadd := hr.add he (V := v') (b := .row el e ys b false) hl hV ⟨news, by rw [updE_same]; exact .of (F.small2 hτ) r2, RowC_mono (fun x cs hx => Rep_new he (fun g hg => (hV g hg).1) hx) r5⟩
       exact ⟨v', w', _, by show (Builtin.append_ #[t, t2] ty #[a.eval s, a.eval x]).run P w = _; rw [hv]; exact r1, hadd, (updE_same _ _ _).symm, ys.length, e, el, ys, b, false, by rw [look_ins, if_pos rfl], rfl⟩
      ·cases h
    ·rename_i id hs
     split at h
     ·rename_i el' e' xs bs hl
      obtain ⟨hc, h2⟩ := bif_none h
      clear h
      simp only [Bool.and_eq_true, beq_iff_eq, Bool.not_eq_true'] at hc
      obtain ⟨⟨hel, hcon⟩, hno⟩ := hc
      obtain ⟨hel, hlt⟩ := eqB_spec hel
      subst hel
      split at h2
      ·rename_i xs' hxs hfresh
       obtain ⟨et, rfl⟩ := castTy_some hxs
       cases et
       split at h2
       ·rename_i hlim
        refine ⟨_, _, h2, fun io w0 E a w hr => ?_⟩
        have hs' := hr.ev s
        rw [hs] at hs'
        have hv : a.eval s = E id := hs'.1
        obtain ⟨cells, c1, c2⟩ := hr.own id _ hl
        obtain ⟨v', w', news, r1, r2, r3, r4, r5⟩ := run_appendAny F (ty := ty) hr hτ (c1.strict hlt) hx hlim
        have hnot := contains_false hcon
        have hn1 : id ∉ bs := fun hm => hnot (mem_addB.2 (.inl hm))
        have hn2 : id ∉ b := fun hm => hnot (mem_addB.2 (.inr hm))
        have hV1 : ∀ g, blkOf v' = some g → blkOf (E id) = some g ∨ w.heap.size ≤ g := fun g hg => (r4 g hg).1
        have tr : ∀ bs0, id ∉ bs0 → (∀ i ∈ bs0, i ∈ addB bs b) → ∀ (x : e.den N.ρ) cs, Rep w (okb w.heap.size σ.own E bs0) e x cs →
          Rep w' (okb w'.heap.size (ins (1000 + d) (.row el' e (xs ++ ys) (addB bs b) false) (del id (mapO (killB id) σ.own))) (updE E (1000 + d) v') (addB bs b)) e x cs := by
         intro bs0 h0 hsub x cs hx
         exact Rep_mono (fun a u hb hc => cell_grown r3 (hb.2 id (by rw [hl]; rfl) h0) hc)
          (fun g hg => okb_more hsub (okb_killed r3.size hl hV1 h0 hg)) hx
        have hrep := hr.replace hl r3 r4 hfresh rfl (b' := .row el' e (xs ++ ys) (addB bs b) false) (noBs_spec hno) ⟨cells ++ news, by rw [updE_same, List.length_append]; exact .of (F.small2 hτ) r2,
         RowC_append (RowC_mono (tr bs hn1 (fun i hi => mem_addB.2 (.inl hi))) c2) (RowC_mono (tr b hn2 (fun i hi => mem_addB.2 (.inr hi))) r5)⟩
        exact ⟨v', w', _, by show (Builtin.append_ #[t, t2] ty #[a.eval s, a.eval x]).run P w = _; rw [hv]; exact r1, hrep, (updE_same _ _ _).symm, _, e, el', xs ++ ys, addB bs b, false, by rw [look_ins, if_pos rfl], rfl⟩
       ·cases h2
      ·cases h2
     ·cases h
    ·cases h
  ·cases h
def bytesDst (τ : TypeId → Option TI) (t : TypeId) : Option TypeId := match τ t with
 | some ⟨.sl (.int .u8), el⟩ => some el
 | _ => none
def evConv (τ : TypeId → Option TI) (σ : St N) (src t : TypeId) (dst : Option Nat) (x : RV N) (k : KK N β) : Option β :=
 match dst with
 | none => evConvert τ σ.own src t x k
 | some d => match bytesDst τ t with
  | none => evConvert τ σ.own src t x k
  | some el => match x with
   | .str l => match look σ.own (1000 + d) with
    | some _ => none
    | none => bif isSome' (τ src) then if l.length ≤ lim then k (.one (.own (1000 + d))) [(1000 + d, .row (el + tagM) (.int .u8) l [] false)] else none else none
   | x => evConvert τ σ.own src t x k
theorem bytesDst_spec {t : TypeId} {el : TypeId} (h : bytesDst τ t = some el) : τ t = some ⟨.sl (.int .u8), el⟩ := by
 unfold bytesDst at h
 split at h
 ·rename_i e hτ
  cases h
  exact hτ
 ·cases h
theorem evConv_sound (F : Fits P N τ) {σ : St N} {src t : TypeId} {dst : Option Nat} {x : Operand} {k : KK N β} {r : β} (h : evConv τ σ src t dst (ev σ x) k = some r) :
  ∃ s ad, k s ad = some r ∧ Does P σ (fun a => convert src t (a.eval x)) s ad := by
 unfold evConv at h
 split at h
 ·exact evConvert_sound F h
 ·rename_i d
  split at h
  ·exact evConvert_sound F h
  ·rename_i el hel
   have hτ := bytesDst_spec hel
   split at h
   ·rename_i l hx
    split at h
    ·cases h
    ·rename_i hl
     obtain ⟨hsrc, h⟩ := bif_none h
     split at h
     ·rename_i hlim
      refine ⟨_, _, h, Does.row hl fun io w0 E a w hr => ?_⟩
      obtain ⟨ti, hti⟩ : ∃ ti, τ src = some ti := by
       cases hs : τ src with
       | none => rw [hs] at hsrc; cases hsrc
       | some ti => exact ⟨ti, rfl⟩
      obtain ⟨dsc, hd⟩ := F.under hti
      have hx' := hr.ev x
      rw [hx] at hx'
      obtain ⟨s, k1, k2⟩ := hx'
      obtain ⟨u1, ⟨e2, u2⟩, _⟩ := F.sl t _ el hτ
      have he := (F.int el .u8 e2 u2).1
      have hrun := Lib.run_convert_string_bytes (P := P) w src t el s hd u1 he
      have hext : Ext w (Lib.bytesWorld w el s) := ⟨rfl, rfl, rfl, by simp [Lib.bytesWorld, World.freeze, World.alloc, World.drew, -World.alloc_eq, -World.drew_eq], fun g hg => Lib.bytesWorld_at_old w el s g hg⟩
      have hsz : s.size = l.length := by rw [← k2, bytesL_length]
      have hge := grownCap_ge w s.size 0 el
      have hm : s.size ≤ maxLen := by rw [hsz]; unfold lim at hlim; simp only [maxLen]; omega
      have hcm := grownCap_le_maxLen w s.size 0 el hm
      have hcs : (Lib.bytesCells w el s).size = grownCap w s.size 0 el := by
       have : s.data.size = s.size := rfl
       simp only [Lib.bytesCells, Array.size_append, Array.size_map, Array.size_replicate]
       omega
      have h1 : N.sz (.int .u8) = 1 := rfl
      refine ⟨_, Lib.bytesWorld w el s, Lib.strCells s, by rw [k1]; exact hrun, hext, (fun g hg => by cases hg; exact Nat.le_refl _), ⟨?_, .inr ⟨w.heap.size, grownCap w s.size 0 el, Lib.bytesCells w el s, el, ((Lib.bytesCells w el s).size, (Lib.bytesCells w el s).size + 1), by rw [hsz], Lib.bytesWorld_at_new w el s, .inr ⟨Nat.le_add_left _ _, Nat.le_refl _⟩, ⟨fun hlt => absurd hlt (Nat.not_lt.2 (Nat.le_add_left _ _)), fun h2 => absurd (F.small _ _ _ (bytesDst_spec hel)) (Nat.not_lt.2 (Nat.le_of_add_le_add_right (by rw [Nat.two_mul] at h2; exact h2)))⟩, by omega, hcm, by rw [hcs, h1, Nat.mul_one], ?_⟩⟩, ?_⟩
      ·rw [Lib.strCells_length, h1, hsz, Nat.mul_one]
      ·rw [h1, Nat.mul_one, ← hsz]
       unfold Lib.bytesCells Lib.strCells
       rw [Array.toList_append, Array.toList_map]
       rw [List.take_append_of_le_length (by rw [List.length_map, Array.length_toList]; exact Nat.le_refl _)]
       exact List.take_of_length_le (by rw [List.length_map, Array.length_toList]; exact Nat.le_refl _)
      ·rw [← k2]
       unfold bytesL Lib.strCells
       generalize s.data.toList = l
       induction l with
       | nil => rfl
       | cons b l ih => exact ⟨[.int .u8 b.toNat], _, rfl, rfl, ih⟩
     ·cases h
   ·exact evConvert_sound F h
end Go.Eng

set_option linter.unusedVariables false
set_option linter.unusedSimpArgs false
namespace Go.Eng
variable {N : Names} {P : Program} {τ : TypeId → Option TI} {β : Type}
def DoesS (P : Program) (σ : St N) (run : Act → Sem Unit) (σ' : St N) : Prop :=
 ∀ io w0 E a w, RelE io w0 σ E a w → ∃ w' E', (run a).run P w = .ok () w' ∧ RelE io w0 σ' E' a w'
def evStore (τ : TypeId → Option TI) (σ : St N) (t : TypeId) (addr v : RV N) (k : St N → Option β) : Option β :=
 match τ t with
 | none => none
 | some ⟨tv, _⟩ => match addr with
  | .optr id i off => match look σ.own id with
   | some (.row e ty xs bs p) => match toDen σ.own tv v with
    | some (y, b) => bif noBs' σ.own id && !(addB bs b).contains id then match updAt ⟨tv, y⟩ 8 ty (xs.getD i (N.dflt ty)) off with
     | some x' => k { regs := σ.regs.map (Slot.map (scrub id)), own := ins id (.row e ty (xs.set i x') (addB bs b) p) σ.own }
     | none => match storeArr tv y e ty i off with
      | some l => k { regs := σ.regs.map (Slot.map (scrub id)), own := ins id (.row e ty l (addB bs b) p) σ.own }
      | none => none
     else none
    | none => none
   | _ => none
  | .bptr id off => match look σ.own id with
   | some (.whole tb x bs) => bif loose v || isNilR v || isMp v then match expl bs 8 tb x, storeVals σ.own tv v with
     | some l, some vs => bif noBs' σ.own id && !(Blk.cells (l.take off ++ vs ++ l.drop (off + vs.length))).bs.contains id && Nat.ble (off + vs.length) l.length then
       k { regs := σ.regs.map (Slot.map (scrub id)), own := ins id (.cells (l.take off ++ vs ++ l.drop (off + vs.length))) σ.own }
      else none
     | _, _ => none
    else match toDen σ.own tv v with
     | some (y, b) => bif noBs' σ.own id && !(addB bs b).contains id then match updAt ⟨tv, y⟩ 8 tb x off with
      | some x' => k { regs := σ.regs.map (Slot.map (scrub id)), own := ins id (.whole tb x' (addB bs b)) σ.own }
      | none => none
      else none
     | none => none
   | some (.cells l) => match storeVals σ.own tv v with
    | some vs => bif noBs' σ.own id && !(Blk.cells (l.take off ++ vs ++ l.drop (off + vs.length))).bs.contains id && Nat.ble (off + vs.length) l.length then
      k { regs := σ.regs.map (Slot.map (scrub id)), own := ins id (.cells (l.take off ++ vs ++ l.drop (off + vs.length))) σ.own }
     else none
    | none => none
   | _ => none
  | _ => none
theorem okb_same {H H' : Nat} {own : List (Nat × Blk N)} {E : Env} {id : Nat} {b b' : Blk N} (hH : H ≤ H') (hb : look own id = some b) {bs : List Nat} {g : Nat} (hg : okb H own E bs g) : okb H' (ins id b' own) E bs g := by
 refine ⟨⟨Nat.lt_of_lt_of_le hg.1.1 hH, hg.1.2⟩, fun j hj hjb => hg.2 j ?_ hjb⟩
 rw [look_ins] at hj
 by_cases h : id = j
 ·subst h; rw [hb]; rfl
 ·rw [if_neg h] at hj; exact hj
theorem splice_take {cs vs : List Value} {o m : Nat} (h : o + vs.length ≤ m) : (splice cs o vs).take m = splice (cs.take m) o vs := by
 unfold splice
 by_cases hm : m ≤ cs.length
 ·rw [List.take_append, List.take_append, List.take_take, List.length_take, List.length_append, List.length_take]
  rw [List.drop_take]
  have h1 : vs.take (m - min o cs.length) = vs := List.take_of_length_le (by omega)
  rw [h1, show m - (min o cs.length + vs.length) = m - (o + vs.length) from by omega]
  congr 2
  rw [List.take_take, Nat.min_comm]
 ·have h1 : cs.take m = cs := List.take_of_length_le (by omega)
  rw [h1]
  apply List.take_of_length_le
  simp only [List.length_append, List.length_take, List.length_drop]
  omega
theorem splice_ofCells {arr : Array Value} {o : Nat} {vs : List Value} (h : o + vs.length ≤ arr.size) : (splice arr.toList o vs).toArray.size = arr.size := by
 have := splice_length (cs := arr.toList) (vs := vs) (off := o) (by simpa using h)
 simpa using this
theorem splice_get {arr : Array Value} {o : Nat} {vs : List Value} (h : o + vs.length ≤ arr.size) (i : Nat) : (splice arr.toList o vs).toArray[i]? = if i < o then arr[i]? else if i < o + vs.length then vs[i - o]? else arr[i]? := by
 have ho : (arr.toList.take o).length = o := by simp; omega
 rw [List.getElem?_toArray]
 unfold splice
 by_cases h1 : i < o
 ·rw [if_pos h1, List.append_assoc, List.getElem?_append_left (by omega), List.getElem?_take, if_pos h1]
  simp
 ·rw [if_neg h1, List.append_assoc, List.getElem?_append_right (by omega), ho]
  by_cases h2 : i < o + vs.length
  ·rw [if_pos h2, List.getElem?_append_left (by omega)]
  ·rw [if_neg h2, List.getElem?_append_right (by omega), List.getElem?_drop]
   rw [show o + vs.length + (i - o - vs.length) = i from by omega]
   simp
theorem listSplice_get {β : Type} {l vs : List β} {o : Nat} (h : o + vs.length ≤ l.length) (i : Nat) : (l.take o ++ vs ++ l.drop (o + vs.length))[i]? = if i < o then l[i]? else if i < o + vs.length then vs[i - o]? else l[i]? := by
 have ho : (l.take o).length = o := by simp; omega
 by_cases h1 : i < o
 ·rw [if_pos h1, List.append_assoc, List.getElem?_append_left (by omega), List.getElem?_take, if_pos h1]
 ·rw [if_neg h1, List.append_assoc, List.getElem?_append_right (by omega), ho]
  by_cases h2 : i < o + vs.length
  ·rw [if_pos h2, List.getElem?_append_left (by omega)]
  ·rw [if_neg h2, List.getElem?_append_right (by omega), List.getElem?_drop]
   rw [show o + vs.length + (i - o - vs.length) = i from by omega]
theorem store_cells (F : Fits P N τ) {σ : St N} {t : TypeId} {tv : Ty} {e : TypeId} (hτ : τ t = some ⟨tv, e⟩) {ad x : Operand} {id off : Nat} (had : ev σ ad = .bptr id off) {b0 : Blk N} (hb0 : look σ.own id = some b0)
  {l vs : List (RV N)} (hl : ∀ {io w0 E a w}, RelE io w0 σ E a w → BlkRel w σ.own E id (.cells l)) (hbox : sameShape b0 (.cells l)) (hvs : storeVals σ.own tv (ev σ x) = some vs)
  (hno : noBs' σ.own id = true) (hcon : (Blk.cells (l.take off ++ vs ++ l.drop (off + vs.length))).bs.contains id = false) (hlen : off + vs.length ≤ l.length) :
  DoesS P σ (fun a => Instr.storeAt t (a.eval ad) (a.eval x)) { regs := σ.regs.map (Slot.map (scrub id)), own := ins id (.cells (l.take off ++ vs ++ l.drop (off + vs.length))) σ.own } := by
 intro io w0 E a w hr
 have had' := hr.ev ad
 rw [had] at had'
 obtain ⟨_, g, h2, h3⟩ := had'
 obtain ⟨g', T, arr, c1, c2, c3, c4⟩ := hl hr
 rw [h2] at c1
 cases c1
 obtain ⟨cs, s1, s2, s3, s4, s5⟩ := storeVals_rv hr (hr.ev x) hvs
 have hs := F.sizeOf hτ w
 have hst := run_storeCells_at P g off T cs 0 arr w c2 (by omega) s4
 simp only [Nat.add_zero] at hst
 have hrun : (Instr.storeAt t (a.eval ad) (a.eval x)).run P w = .ok () (w.setRow g (splice arr.toList off cs).toArray) := by
  have hsz : (a.eval x).cells.size = N.sz tv := by rw [← s3, ← s1]; simp
  rw [h3]
  simp only [Instr.storeAt, Instr.sureAddr, storeVar, Sem.run_bind, Sem.run_pure, Result.andThen_ok, hs, s1]
  rw [if_neg (by rw [hsz]; simp)]
  exact hst
 have hw : w.grownBy (w.setRow g (splice arr.toList off cs).toArray) (blkOf (E id)) := by rw [h2]; exact setRow_grown w g _
 have hlook : look (ins id (Blk.cells (l.take off ++ vs ++ l.drop (off + vs.length))) σ.own) id = some (Blk.cells (l.take off ++ vs ++ l.drop (off + vs.length))) := by rw [look_ins, if_pos rfl]
 have hsh : sameShape b0 (Blk.cells (l.take off ++ vs ++ l.drop (off + vs.length))) := by
  cases b0 with
  | row e t xs bs p => exact hbox.elim
  | _ => trivial
 have hrv : ∀ r v, id ∉ r.bs → RVRel w σ.own E r v → RVRel (w.setRow g (splice arr.toList off cs).toArray) (ins id (Blk.cells (l.take off ++ vs ++ l.drop (off + vs.length))) σ.own) E r v := by
  intro r v hbs h
  refine RVRel_mono ?_ ?_ (fun j n t _ hj => ⟨isRow_shape hb0 hsh hj, rfl⟩) (fun j _ hj => ⟨isBox_shape hb0 hsh hj, rfl⟩) h
  ·intro bs hbs' a u hb hc
   refine cell_grown hw (hb.2 id (by rw [hb0]; rfl) ?_) hc
   cases r <;> first | exact hbs'.elim | (subst hbs'; exact hbs)
  ·intro bs _ g hg
   exact okb_same hw.size hb0 hg
 have hst := hr.store hb0 hsh (fun _ => rfl) hw (noBs'_spec hno) ⟨g, T, _, h2, setRow_heap w g arr _ T (0, 0) c2, by
  rw [splice_ofCells (by omega)]
  simp only [List.length_append, List.length_take, List.length_drop]
  omega, fun i r u hi hu => by
  have hmem : id ∉ r.bs := fun hm => contains_false hcon (List.mem_flatMap.2 ⟨r, List.mem_of_getElem? hi, hm⟩)
  rw [listSplice_get hlen] at hi
  rw [splice_get (by omega)] at hu
  split at hi
  ·rename_i h5
   rw [if_pos h5] at hu
   exact hrv r u hmem (c4 i r u hi hu)
  ·rename_i h5
   rw [if_neg h5] at hu
   split at hi
   ·rename_i h6
    rw [if_pos (by omega)] at hu
    exact hrv r u hmem (s5 _ r u hi hu)
   ·rename_i h6
    rw [if_neg (by omega)] at hu
    exact hrv r u hmem (c4 i r u hi hu)⟩
 exact ⟨_, E, hrun, hst⟩
theorem evStore_sound (F : Fits P N τ) {σ : St N} {t : TypeId} {ad x : Operand} {k : St N → Option β} {r : β} (h : evStore τ σ t (ev σ ad) (ev σ x) k = some r) :
  ∃ σ', k σ' = some r ∧ DoesS P σ (fun a => Instr.storeAt t (a.eval ad) (a.eval x)) σ' := by
 unfold evStore at h
 split at h
 ·cases h
 ·rename_i tv e hτ
  split at h
  ·rename_i id i off had
   split at h
   ·rename_i e' ty xs bs p hl
    split at h
    ·rename_i y b hy
     obtain ⟨hc, h2⟩ := bif_none h
     clear h
     simp only [Bool.and_eq_true, Bool.not_eq_true'] at hc
     obtain ⟨hno, hcon⟩ := hc
     have hnot := contains_false hcon
     have hn1 : id ∉ bs := fun hm => hnot (mem_addB.2 (.inl hm))
     have hn2 : id ∉ b := fun hm => hnot (mem_addB.2 (.inr hm))
     split at h2
     ·rename_i x' hx'
      refine ⟨_, h2, fun io w0 E a w hr => ?_⟩
      have had' := hr.ev ad
      rw [had] at had'
      obtain ⟨g, cap, n, t', ⟨e2, xs2, bs2, p2, q1, q2⟩, k2, k3, k4⟩ := had'
      rw [hl] at q1
      cases q1
      subst q2
      obtain ⟨cells, c1, c2⟩ := hr.own id _ hl
      obtain ⟨vs, v1, v2⟩ := hr.toDen hy (hr.ev x)
      rcases c1.2 with ⟨hv, hn⟩ | ⟨g', cap', cur, T0, fz, hv, hg, hfz, hT0, hnc, hcm, hcs, ht⟩
      ·rw [k3] at hv; cases hv
      ·rw [k3] at hv
       simp only [Value.slice.injEq, Option.some.injEq, Addr.mk.injEq] at hv
       obtain ⟨⟨rfl, _⟩, _, rfl⟩ := hv
       rw [List.getD_eq_getElem?_getD, List.getElem?_eq_getElem k2] at hx'
       have hrowlen := RowC_length (fun x cs hx => Rep_length hx) c2
       -- fits
       obtain ⟨ccs, d1, d2, d3⟩ := RowC_get (fun x cs hx => Rep_length hx) c2 i xs[i] (List.getElem?_eq_getElem k2)
       have hany : ∀ ccs, Rep w (fun _ => True) ty xs[i] ccs → off + vs.length ≤ ccs.length := fun ccs hccs =>
        (updAt_rep (v := ⟨tv, y⟩) (Rep_mono (fun _ _ _ h => h) (fun _ _ => trivial) v1) 8 ty _ off x' ccs hx' hccs).2
       have hfit1 := hany ccs (Rep_mono (fun _ _ _ h => h) (fun _ _ => trivial) d1)
       have hccl := Rep_length d1
       have hm1 : (i + 1) * N.sz ty = i * N.sz ty + N.sz ty := by rw [Nat.add_mul, Nat.one_mul]
       have hfit : i * N.sz ty + off + vs.length ≤ cur.size := by
        have h5 : cells.length ≤ cur.size := by rw [← ht, List.length_take]; simp; omega
        omega
       have hrun := F.store hτ (w := w) v1 v2 (g := g) (off := i * N.sz ty + off) hg (hfz.imp (fun h => h) (fun h => h.2)) hfit
       have hw : w.grownBy (w.setRow g (splice cur.toList (i * N.sz ty + off) vs).toArray) (blkOf (E id)) := by rw [k3]; exact setRow_grown w g _
       have tr : ∀ bs0, id ∉ bs0 → (∀ i ∈ bs0, i ∈ addB bs b) → ∀ (t : Ty) (x : t.den N.ρ) cs, Rep w (okb w.heap.size σ.own E bs0) t x cs →
         Rep (w.setRow g (splice cur.toList (i * N.sz ty + off) vs).toArray) (okb (w.setRow g (splice cur.toList (i * N.sz ty + off) vs).toArray).heap.size (ins id (.row e' ty (xs.set i x') (addB bs b) p) σ.own) E (addB bs b)) t x cs := by
        intro bs0 h0 hsub t x cs hx
        exact Rep_mono (fun a u hb hc => cell_grown hw (hb.2 id (by rw [hl]; rfl) h0) hc) (fun g hg => okb_more hsub (okb_same hw.size hl hg)) hx
       have hrow := RowC_mono (fun x cs hx => tr bs hn1 (fun i hi => mem_addB.2 (.inl hi)) ty x cs hx) c2
       have hval := tr b hn2 (fun i hi => mem_addB.2 (.inr hi)) tv y vs v1
       obtain ⟨u1, u2⟩ := RowC_upd (x' := x') (off := off) (vs := vs) (fun x cs hx => Rep_length hx) hrow i xs[i] (List.getElem?_eq_getElem k2) (fun ccs hccs => updAt_rep (v := ⟨tv, y⟩) hval 8 ty _ off x' ccs hx' hccs)
       have hst := hr.store hl (b' := .row e' ty (xs.set i x') (addB bs b) p) ⟨rfl, by simp⟩ (fun h => h) hw (noBs'_spec hno) ⟨splice cells (i * N.sz ty + off) vs, ⟨by rw [splice_length u2, List.length_set]; exact hrowlen, .inr ⟨g, cap, _, T0, fz, by rw [List.length_set]; exact k3, setRow_heap w g cur _ T0 fz hg, hfz.imp (fun h => h) (fun h => ⟨h.1, by rw [splice_ofCells hfit]; exact h.2⟩), by rw [List.length_set]; exact hT0, by rw [List.length_set]; exact hnc, hcm, by rw [splice_ofCells hfit]; exact hcs, by
        rw [List.length_set]
        show (splice cur.toList (i * N.sz ty + off) vs).take (xs.length * N.sz ty) = _
        rw [splice_take (by omega), ht]⟩⟩, u1⟩
       exact ⟨_, E, by show (Instr.storeAt t (a.eval ad) (a.eval x)).run P w = _; rw [k4]; exact hrun, hst⟩
     ·split at h2
      ·rename_i l hsa
       obtain ⟨rfl, rfl, len, hlen, rfl, hll, hrowl⟩ := storeArr_some hsa
       refine ⟨_, h2, fun io w0 E a w hr => ?_⟩
       have had' := hr.ev ad
       rw [had] at had'
       obtain ⟨g, cap, n, t', ⟨e2, xs2, bs2, p2, q1, q2⟩, k2, k3, k4⟩ := had'
       rw [hl] at q1
       cases q1
       subst q2
       obtain ⟨cells, c1, c2⟩ := hr.own id _ hl
       obtain ⟨vs, v1, v2⟩ := hr.toDen hy (hr.ev x)
       rcases c1.2 with ⟨hv, hn⟩ | ⟨g', cap', cur, T0, fz, hv, hg, hfz, hT0, hnc, hcm, hcs, ht⟩
       ·rw [k3] at hv; cases hv
       ·rw [k3] at hv
        simp only [Value.slice.injEq, Option.some.injEq, Addr.mk.injEq] at hv
        obtain ⟨⟨rfl, _⟩, _, rfl⟩ := hv
        obtain ⟨t1, t2⟩ := hT0.2 (two_tagA len)
        have hxl : xs.length = len := (tagA_inj t2).symm
        have hvs := RowC_length (fun x cs hx => Rep_length hx) (hrowl v1)
        have hfit : 0 + vs.length ≤ cur.size := by rw [hvs, hll, hcs, t1, hxl]; omega
        have hrun := F.store hτ (w := w) v1 v2 (g := g) (off := 0) hg (hfz.imp (fun h => h) (fun h => h.2)) hfit
        have hw : w.grownBy (w.setRow g (splice cur.toList 0 vs).toArray) (blkOf (E id)) := by rw [k3]; exact setRow_grown w g _
        have tr : ∀ bs0, id ∉ bs0 → (∀ i ∈ bs0, i ∈ addB bs b) → ∀ (t : Ty) (x : t.den N.ρ) cs, Rep w (okb w.heap.size σ.own E bs0) t x cs →
          Rep (w.setRow g (splice cur.toList 0 vs).toArray) (okb (w.setRow g (splice cur.toList 0 vs).toArray).heap.size (ins id (.row (tagA len) ty l (addB bs b) p) σ.own) E (addB bs b)) t x cs := by
         intro bs0 h0 hsub t x cs hx
         exact Rep_mono (fun a u hb hc => cell_grown hw (hb.2 id (by rw [hl]; rfl) h0) hc) (fun g hg => okb_more hsub (okb_same hw.size hl hg)) hx
        have hval := tr b hn2 (fun i hi => mem_addB.2 (.inr hi)) tv y vs v1
        have hsp : splice cur.toList 0 vs = vs ++ cur.toList.drop vs.length := by simp [splice]
        have hst := hr.store hl (b' := .row (tagA len) ty l (addB bs b) p) ⟨rfl, by omega⟩ (fun h => h) hw (noBs'_spec hno) ⟨vs, ⟨by rw [hvs], .inr ⟨g, cap, _, T0, fz, by rw [hll, ← hxl]; exact k3, setRow_heap w g cur _ T0 fz hg, hfz.imp (fun h => h) (fun h => ⟨h.1, by rw [splice_ofCells hfit]; exact h.2⟩), by have h9 := hT0; rw [hxl] at h9; rw [hll]; exact h9, by rw [hll, ← hxl]; exact hnc, hcm, by rw [splice_ofCells hfit]; exact hcs, by
         show (splice cur.toList 0 vs).take (l.length * N.sz ty) = _
         rw [hsp, List.take_append_of_le_length (by omega), List.take_of_length_le (by omega)]⟩⟩, hrowl hval⟩
        refine ⟨_, E, ?_, hst⟩
        show (Instr.storeAt t (a.eval ad) (a.eval x)).run P w = _
        rw [k4, Nat.zero_mul]
        exact hrun
      ·cases h2
    ·cases h
   ·cases h
  ·rename_i id off had
   split at h
   ·rename_i tb xv bs hl
    cases hlo : (loose (ev σ x) || isNilR (ev σ x) || isMp (ev σ x)) with
    | true =>
     rw [hlo] at h
     simp only [cond_true] at h
     split at h
     ·rename_i l vs hx hvs
      obtain ⟨hc, h2⟩ := bif_none h
      clear h
      simp only [Bool.and_eq_true, Bool.not_eq_true'] at hc
      obtain ⟨⟨hno, hcon⟩, hlen⟩ := hc
      exact ⟨_, h2, store_cells F hτ had hl (fun hr => by
       obtain ⟨g, T, arr, c1, c2, c3⟩ := hr.own id _ hl
       obtain ⟨k1, k2⟩ := expl_rel 8 tb xv l _ hx c3
       exact ⟨g, T, arr, c1, c2, by simpa using k1.symm, fun i r u hi hu => k2 i r u hi (by simpa using hu)⟩) trivial hvs hno hcon (Nat.le_of_ble_eq_true hlen)⟩
     ·cases h
    | false =>
     rw [hlo] at h
     simp only [cond_false] at h
     split at h
     ·rename_i y b hy
      obtain ⟨hc, h2⟩ := bif_none h
      clear h
      simp only [Bool.and_eq_true, Bool.not_eq_true'] at hc
      obtain ⟨hno, hcon⟩ := hc
      have hnot := contains_false hcon
      have hn1 : id ∉ bs := fun hm => hnot (mem_addB.2 (.inl hm))
      have hn2 : id ∉ b := fun hm => hnot (mem_addB.2 (.inr hm))
      split at h2
      ·rename_i x' hx'
       refine ⟨_, h2, fun io w0 E a w hr => ?_⟩
       have had' := hr.ev ad
       rw [had] at had'
       obtain ⟨_, g, k2, k3⟩ := had'
       obtain ⟨g', T, arr, c1, c2, c3⟩ := hr.own id _ hl
       rw [k2] at c1
       cases c1
       obtain ⟨vs, v1, v2⟩ := hr.toDen hy (hr.ev x)
       have hfit1 := (updAt_rep (v := ⟨tv, y⟩) (Rep_mono (fun _ _ _ h => h) (fun _ _ => trivial) v1) 8 tb _ off x' _ hx' (Rep_mono (ok' := fun _ => True) (fun _ _ _ h => h) (fun _ _ => trivial) c3)).2
       have hfit : off + vs.length ≤ arr.size := by simpa using hfit1
       have hrun := F.store hτ (w := w) v1 v2 (g := g) (off := off) c2 (.inl rfl) hfit
       have hw : w.grownBy (w.setRow g (splice arr.toList off vs).toArray) (blkOf (E id)) := by rw [k2]; exact setRow_grown w g _
       have tr : ∀ bs0, id ∉ bs0 → (∀ i ∈ bs0, i ∈ addB bs b) → ∀ (t : Ty) (x : t.den N.ρ) cs, Rep w (okb w.heap.size σ.own E bs0) t x cs →
         Rep (w.setRow g (splice arr.toList off vs).toArray) (okb (w.setRow g (splice arr.toList off vs).toArray).heap.size (ins id (.whole tb x' (addB bs b)) σ.own) E (addB bs b)) t x cs := by
        intro bs0 h0 hsub t x cs hx
        exact Rep_mono (fun a u hb hc => cell_grown hw (hb.2 id (by rw [hl]; rfl) h0) hc) (fun g hg => okb_more hsub (okb_same hw.size hl hg)) hx
       have hbase := tr bs hn1 (fun i hi => mem_addB.2 (.inl hi)) tb xv _ c3
       have hval := tr b hn2 (fun i hi => mem_addB.2 (.inr hi)) tv y vs v1
       have hst := hr.store hl (b' := .whole tb x' (addB bs b)) trivial (fun h => h) hw (noBs'_spec hno) ⟨g, T, _, k2, setRow_heap w g arr _ T (0, 0) c2, (updAt_rep (v := ⟨tv, y⟩) hval 8 tb _ off x' _ hx' hbase).1⟩
       exact ⟨_, E, by show (Instr.storeAt t (a.eval ad) (a.eval x)).run P w = _; rw [k3]; exact hrun, hst⟩
      ·cases h2
     ·cases h
   ·rename_i l hl
    split at h
    ·rename_i vs hvs
     obtain ⟨hc, h2⟩ := bif_none h
     clear h
     simp only [Bool.and_eq_true, Bool.not_eq_true'] at hc
     obtain ⟨⟨hno, hcon⟩, hlen⟩ := hc
     exact ⟨_, h2, store_cells F hτ had hl (fun hr => hr.own id _ hl) trivial hvs hno hcon (Nat.le_of_ble_eq_true hlen)⟩
    ·cases h
   ·cases h
  ·cases h
end Go.Eng

set_option linter.unusedVariables false
set_option linter.unusedSimpArgs false
namespace Go.Eng
variable {N : Names} {P : Program} {τ : TypeId → Option TI} {β : Type}
def cpyL {α : Type} (xs ys : List α) : List α := ys.take xs.length ++ xs.drop ys.length
theorem cpyL_length {α : Type} (xs ys : List α) : (cpyL xs ys).length = xs.length := by
 simp only [cpyL, List.length_append, List.length_take, List.length_drop]
 omega
theorem cpyL_min {α : Type} (xs ys : List α) : cpyL xs ys = ys.take (min ys.length xs.length) ++ xs.drop (min ys.length xs.length) := by
 unfold cpyL
 by_cases h : ys.length ≤ xs.length
 ·rw [Nat.min_eq_left h, List.take_of_length_le h, List.take_of_length_le (Nat.le_refl _)]
 ·rw [Nat.min_eq_right (by omega), List.drop_eq_nil_of_le (by omega), List.drop_eq_nil_of_le (Nat.le_refl _)]
def evCopy (τ : TypeId → Option TI) (σ : St N) (t t2 : TypeId) (x y : RV N) (k : Slot N → St N → Option β) : Option β :=
 match τ t with
 | some ⟨.sl e, _⟩ => match x with
  | .own id => match look σ.own id with
   | some (.row e' ty xs bs p) => match castTy N (.sl ty) (.sl e) xs, appSrc τ σ.own t t2 e y with
    | some xs, some (ys, b) => bif noBs' σ.own id && !(addB bs b).contains id then
      k (.one (.int .i64 ((min ys.length xs.length : Nat) : Int))) { regs := σ.regs.map (Slot.map (scrub id)), own := ins id (.row e' e (cpyL xs ys) (addB bs b) p) σ.own }
     else none
    | _, _ => none
   | _ => none
  | _ => none
 | _ => none
def putL {α : Type} (xs : List α) (lo n : Nat) (ys : List α) : List α := xs.take lo ++ ys.take (min ys.length n) ++ xs.drop (lo + min ys.length n)
theorem putL_length {α : Type} {xs : List α} {lo n : Nat} {ys : List α} (h : lo + n ≤ xs.length) : (putL xs lo n ys).length = xs.length := by
 simp only [putL, List.length_append, List.length_take, List.length_drop]
 omega
def evCopyO (τ : TypeId → Option TI) (σ : St N) (t t2 : TypeId) (x y : RV N) (k : Slot N → St N → Option β) : Option β :=
 match τ t with
 | some ⟨.sl e, _⟩ => match x with
  | .osl id lo n => match look σ.own id with
   | some (.row e' ty xs bs p) => match castTy N (.sl ty) (.sl e) xs, appSrc τ σ.own t t2 e y with
    | some xs, some (ys, b) => bif noBs' σ.own id && !(addB bs b).contains id then
      k (.one (.int .i64 ((min ys.length n : Nat) : Int))) { regs := σ.regs.map (Slot.map (scrub id)), own := ins id (.row e' e (putL xs lo n ys) (addB bs b) p) σ.own }
     else none
    | _, _ => none
   | _ => none
  | x => evCopy τ σ t t2 x y k
 | _ => none
theorem RowC_take {α : Type} {R : α → List Value → Prop} {sz : Nat} (hl : ∀ x cs, R x cs → cs.length = sz) : ∀ (m : Nat) {xs : List α} {cs : List Value}, RowC R xs cs → RowC R (xs.take m) (cs.take (m * sz))
 | 0, xs, cs, h => by
  rw [Nat.zero_mul, List.take_zero, List.take_zero]
  rfl
 | m + 1, [], cs, h => by
  rw [show cs = [] from h]
  simp only [List.take_nil]
  rfl
 | m + 1, x :: xs, cs, ⟨c1, c2, e, h1, h2⟩ => by
  subst e
  have h3 := hl x c1 h1
  refine ⟨c1, c2.take (m * sz), ?_, h1, RowC_take hl m h2⟩
  rw [Nat.add_mul, Nat.one_mul, Nat.add_comm (m * sz) sz, ← h3, List.take_length_add_append]
theorem RowC_drop {α : Type} {R : α → List Value → Prop} {sz : Nat} (hl : ∀ x cs, R x cs → cs.length = sz) : ∀ (m : Nat) {xs : List α} {cs : List Value}, RowC R xs cs → RowC R (xs.drop m) (cs.drop (m * sz))
 | 0, xs, cs, h => by rw [Nat.zero_mul]; exact h
 | m + 1, [], cs, h => by
  rw [show cs = [] from h]
  simp only [List.drop_nil]
  rfl
 | m + 1, x :: xs, cs, ⟨c1, c2, e, h1, h2⟩ => by
  subst e
  have h3 := hl x c1 h1
  rw [List.drop_succ_cons, Nat.add_mul, Nat.one_mul, Nat.add_comm (m * sz) sz, ← h3, ← List.drop_drop, List.drop_left]
  rw [h3]
  exact RowC_drop hl m h2
theorem run_copySrc (F : Fits P N τ) {io : Io} {w0 w : World} {σ : St N} {E : Env} {a : Act} (hr : RelE io w0 σ E a w) {t t2 el : TypeId} {e : Ty} (hτ : τ t = some ⟨.sl e, el⟩) {y : Operand} {ys : List (e.den N.ρ)} {b : List Nat}
  (hy : appSrc τ σ.own t t2 e (ev σ y) = some (ys, b)) : (Builtin.lenOf (a.eval y)).run P w = .ok ys.length w ∧ ∀ m, m ≤ ys.length →
   ∃ news, RowC (Rep w (okb w.heap.size σ.own E b) e) (ys.take m) news ∧ news.length = m * N.sz e ∧ (Builtin.firstCells (N.sz e) m (a.eval y)).run P w = .ok news.toArray w := by
 unfold appSrc at hy
 cases htt : (t == t2) with
 | true =>
  rw [htt] at hy
  have hy : toDen σ.own (.sl e) (ev σ y) = some (ys, b) := hy
  obtain ⟨cs, v1, v2⟩ := hr.toDen hy (hr.ev y)
  obtain ⟨A, scap, s1, s2, s2', s3⟩ := v1
  have s4 : cs = [a.eval y] := v2
  rw [s1] at s4
  have s5 : a.eval y = .slice A ys.length scap := (List.cons.inj s4).1.symm
  refine ⟨by rw [s5]; rfl, fun m hm => ?_⟩
  rw [s5]
  cases A with
  | none =>
   have hy0 : ys = [] := List.eq_nil_of_length_eq_zero (by have := s2' rfl; omega)
   subst hy0
   have hm0 : m = 0 := by simpa using hm
   subst hm0
   exact ⟨[], rfl, by simp, by simp [Builtin.firstCells]⟩
  | some ad =>
   obtain ⟨news, n1, n2⟩ := flatRep (A := ad) (ys.take m) 0 (fun i y hy => by
    rw [List.getElem?_take] at hy
    split at hy
    ·obtain ⟨ad', ccs, d1, d2, d3, d4⟩ := s3 i y hy
     cases d1
     exact ⟨ccs, d3, fun j u hu => by rw [Nat.zero_add]; exact d4 j u hu⟩
    ·cases hy)
   have hnl := RowC_length (fun x cs hx => Rep_length hx) n1
   rw [List.length_take, Nat.min_eq_left hm] at hnl
   exact ⟨news, n1, hnl, run_firstCells_some w (N.sz e) _ ad ys.length scap news hnl (fun j u hu => by have := n2 j u hu; simpa using this)⟩
 | false =>
  rw [htt] at hy
  simp only [cond_false] at hy
  split at hy
  ·rename_i e2 hτ2
   split at hy
   ·rename_i l hl
    obtain ⟨y', hy', hp⟩ := Option.map_eq_some_iff.1 hy
    cases hp
    obtain ⟨et, rfl⟩ := castTy_some hy'
    cases et
    have hx' := hr.ev y
    rw [hl] at hx'
    obtain ⟨s, k1, k2⟩ := hx'
    subst k2
    refine ⟨by rw [k1]; show _ = Result.ok (bytesL s).length w; rw [bytesL_length]; rfl, fun m hm => ?_⟩
    have hm : m ≤ (bytesL s).length := hm
    rw [bytesL_length] at hm
    refine ⟨((s.data.toList.take m).map fun b => Value.int .u8 b.toNat), ?_, ?_, ?_⟩
    ·show RowC _ ((bytesL s).take m) _
     unfold bytesL
     rw [← List.map_take]
     generalize s.data.toList.take m = l
     induction l with
     | nil => rfl
     | cons b l ih => exact ⟨[.int .u8 b.toNat], _, rfl, rfl, ih⟩
    ·have : s.data.toList.length = s.size := rfl
     simp only [List.length_map, List.length_take, Names.sz]
     omega
    ·rw [k1]
     simp only [Builtin.firstCells, Sem.run_pure]
     congr 1
     apply Array.ext'
     simp [ByteArray.data_extract, Array.toList_extract, List.extract_eq_take_drop]
   ·cases hy
  ·cases hy
theorem evCopy_sound (F : Fits P N τ) {σ : St N} {t t2 ty : TypeId} {x y : Operand} {k : Slot N → St N → Option β} {r : β} (h : evCopy τ σ t t2 (ev σ x) (ev σ y) k = some r) :
  ∃ sl σ', k sl σ' = some r ∧ DoesW P σ (fun a => Builtin.copy_ #[t, t2] ty #[a.eval x, a.eval y]) sl σ' := by
 unfold evCopy at h
 split at h
 ·rename_i e el hτ
  obtain ⟨u1, ⟨e1, u2⟩, _⟩ := F.sl t e el hτ
  split at h
  ·rename_i id hx
   split at h
   ·rename_i e' ty' xs0 bs p hl
    split at h
    ·rename_i xs ys b hxs hy
     obtain ⟨hc, h2⟩ := bif_none h
     clear h
     obtain ⟨et, rfl⟩ := castTy_some hxs
     cases et
     simp only [Bool.and_eq_true, Bool.not_eq_true'] at hc
     obtain ⟨hno, hcon⟩ := hc
     have hnot := contains_false hcon
     have hn1 : id ∉ bs := fun hm => hnot (mem_addB.2 (.inl hm))
     have hn2 : id ∉ b := fun hm => hnot (mem_addB.2 (.inr hm))
     refine ⟨_, _, h2, fun io w0 E a w hr => ?_⟩
     have hx' := hr.ev x
     rw [hx] at hx'
     obtain ⟨k1, _⟩ := hx'
     obtain ⟨cells, c1, c2⟩ := hr.own id _ hl
     obtain ⟨hlen, hsrc⟩ := run_copySrc F hr hτ hy
     have hs := F.sizeOf u2 w
     have hrowlen := RowC_length (fun x cs hx => Rep_length hx) c2
     rcases c1.2 with ⟨hv, hn⟩ | ⟨g, cap, cur, T0, fz, hv, hg, hfz, hT0, hnc, hcm, hcs, ht⟩
     ·have hst := hr.store hl (w' := w) (b' := .row e' e (cpyL xs0 ys) (addB bs b) p) ⟨rfl, by simp [cpyL_length]⟩ (fun h => h) ⟨rfl, rfl, rfl, Nat.le_refl _, fun _ _ _ => rfl⟩ (noBs'_spec hno)
       ⟨[], by
        have h0 : (cpyL xs0 ys).length = 0 := by rw [cpyL_length]; exact hn
        rw [h0]
        exact ⟨by simp, .inl ⟨hv, rfl⟩⟩, by
        have h0 : cpyL xs0 ys = [] := List.eq_nil_of_length_eq_zero (by rw [cpyL_length]; exact hn)
        rw [h0]
        rfl⟩
      refine ⟨.int .i64 ((min ys.length xs0.length : Nat) : Int), w, E, ?_, hst, rfl⟩
      show (Builtin.copy_ #[t, t2] ty #[a.eval x, a.eval y]).run P w = _
      have hm : Nat.min ys.length 0 = 0 := Nat.min_eq_right (Nat.zero_le _)
      have hm' : min ys.length xs0.length = 0 := by rw [hn]; exact hm
      obtain ⟨news, n1, n2, n3⟩ := hsrc 0 (Nat.zero_le _)
      have hnews : news = [] := List.eq_nil_of_length_eq_zero (by rw [n2, Nat.zero_mul])
      subst hnews
      rw [k1, hv, hm']
      simp only [Builtin.copy_, List.getElem?_toArray, List.getElem?_cons_zero, List.getElem?_cons_succ, Sem.run_bind, run_underlying u1, Result.andThen_ok, hlen, hs, hm, n3, Sem.run_pure, goInt]
     ·obtain ⟨news, n1, n2, n3⟩ := hsrc (min ys.length xs0.length) (Nat.min_le_left _ _)
      have hfit : news.length ≤ cur.size := by
       rw [n2, hcs]
       exact Nat.mul_le_mul_right _ (Nat.le_trans (Nat.min_le_right _ _) hnc)
      have hsc := run_storeCells_M P g 0 T0 fz news 0 cur w hg (hfz.imp (fun h => h) (fun h => h.2)) (by simpa using hfit) (RowC_one n1)
      simp only [Nat.add_zero, List.take_zero, List.nil_append, Nat.zero_add] at hsc
      have hw : w.grownBy (w.setRow g (news ++ cur.toList.drop news.length).toArray) (blkOf (E id)) := by rw [hv]; exact setRow_grown w g _
      have tr : ∀ bs0, id ∉ bs0 → (∀ i ∈ bs0, i ∈ addB bs b) → ∀ (t : Ty) (x : t.den N.ρ) cs, Rep w (okb w.heap.size σ.own E bs0) t x cs →
        Rep (w.setRow g (news ++ cur.toList.drop news.length).toArray) (okb (w.setRow g (news ++ cur.toList.drop news.length).toArray).heap.size (ins id (.row e' e (cpyL xs0 ys) (addB bs b) p) σ.own) E (addB bs b)) t x cs := by
       intro bs0 h0 hsub t x cs hx
       exact Rep_mono (fun a u hb hc => cell_grown hw (hb.2 id (by rw [hl]; rfl) h0) hc) (fun g hg => okb_more hsub (okb_same hw.size hl hg)) hx
      have hrow := RowC_drop (fun x cs hx => Rep_length hx) (min ys.length xs0.length) (RowC_mono (fun x cs hx => tr bs hn1 (fun i hi => mem_addB.2 (.inl hi)) e x cs hx) c2)
      have hval := RowC_mono (fun x cs hx => tr b hn2 (fun i hi => mem_addB.2 (.inr hi)) e x cs hx) n1
      have hall := RowC_append hval hrow
      rw [← cpyL_min] at hall
      have hsize : (news ++ cur.toList.drop news.length).toArray.size = cur.size := by
       simp only [List.size_toArray, List.length_append, List.length_drop, Array.length_toList]
       omega
      have hst := hr.store hl (b' := .row e' e (cpyL xs0 ys) (addB bs b) p) ⟨rfl, by simp [cpyL_length]⟩ (fun h => h) hw (noBs'_spec hno)
       ⟨news ++ cells.drop (min ys.length xs0.length * N.sz e), ⟨RowC_length (fun x cs hx => Rep_length hx) hall, .inr ⟨g, cap, _, T0, fz, by rw [cpyL_length]; exact hv, setRow_heap w g cur _ T0 fz hg, hfz.imp (fun h => h) (fun h => ⟨h.1, by rw [hsize]; exact h.2⟩), by rw [cpyL_length]; exact hT0, by rw [cpyL_length]; exact hnc, hcm, by rw [hsize]; exact hcs, by
        rw [cpyL_length]
        have hle : news.length ≤ xs0.length * N.sz e := by rw [n2]; exact Nat.mul_le_mul_right _ (Nat.min_le_right _ _)
        show (news ++ cur.toList.drop news.length).take (xs0.length * N.sz e) = _
        rw [List.take_append, List.take_of_length_le hle, ← n2, ← ht, List.drop_take]⟩⟩, hall⟩
      refine ⟨.int .i64 ((min ys.length xs0.length : Nat) : Int), _, E, ?_, hst, rfl⟩
      show (Builtin.copy_ #[t, t2] ty #[a.eval x, a.eval y]).run P w = _
      have n3 : (Builtin.firstCells (N.sz e) (Nat.min ys.length xs0.length) (a.eval y)).run P w = .ok news.toArray w := n3
      have hsc' : (storeCells ⟨g, 0, none⟩ news.toArray.toList 0).run P w = .ok () (w.setRow g (news ++ cur.toList.drop news.length).toArray) := hsc
      rw [k1, hv]
      simp only [Builtin.copy_, List.getElem?_toArray, List.getElem?_cons_zero, List.getElem?_cons_succ, Sem.run_bind, run_underlying u1, Result.andThen_ok, hlen, hs, n3, hsc', Sem.run_pure, goInt]
    ·cases h
   ·cases h
  ·cases h
 ·cases h
theorem evCopyO_sound (F : Fits P N τ) {σ : St N} {t t2 ty : TypeId} {x y : Operand} {k : Slot N → St N → Option β} {r : β} (h : evCopyO τ σ t t2 (ev σ x) (ev σ y) k = some r) :
  ∃ sl σ', k sl σ' = some r ∧ DoesW P σ (fun a => Builtin.copy_ #[t, t2] ty #[a.eval x, a.eval y]) sl σ' := by
 unfold evCopyO at h
 split at h
 ·rename_i e el hτ
  obtain ⟨u1, ⟨e1, u2⟩, _⟩ := F.sl t e el hτ
  split at h
  ·rename_i id lo n hx
   split at h
   ·rename_i e' ty' xs0 bs p hl
    split at h
    ·rename_i xs ys b hxs hy
     obtain ⟨hc, h2⟩ := bif_none h
     clear h
     obtain ⟨et, rfl⟩ := castTy_some hxs
     cases et
     simp only [Bool.and_eq_true, Bool.not_eq_true'] at hc
     obtain ⟨hno, hcon⟩ := hc
     have hnot := contains_false hcon
     have hn1 : id ∉ bs := fun hm => hnot (mem_addB.2 (.inl hm))
     have hn2 : id ∉ b := fun hm => hnot (mem_addB.2 (.inr hm))
     refine ⟨_, _, h2, fun io w0 E a w hr => ?_⟩
     have hx' := hr.ev x
     rw [hx] at hx'
     obtain ⟨A, cap, m, t', ⟨e2, xs2, bs2, p2, q1, q2⟩, k1, k2, k3⟩ := hx'
     rw [hl] at q1
     cases q1
     subst q2
     obtain ⟨cells, c1, c2⟩ := hr.own id _ hl
     obtain ⟨hlen, hsrc⟩ := run_copySrc F hr hτ hy
     have hs := F.sizeOf u2 w
     have hpl : (putL xs0 lo n ys).length = xs0.length := putL_length k1
     have hrowlen := RowC_length (fun x cs hx => Rep_length hx) c2
     obtain ⟨news, n1, n2, n3⟩ := hsrc (min ys.length n) (Nat.min_le_left _ _)
     have n3 : (Builtin.firstCells (N.sz e) (Nat.min ys.length n) (a.eval y)).run P w = .ok news.toArray w := n3
     rcases c1.2 with ⟨hv, hn⟩ | ⟨g, cap', cur, T0, fz, hv, hg, hfz, hT0, hnc, hcm, hcs, ht⟩
     ·rw [k2] at hv
      simp only [Value.slice.injEq] at hv
      obtain ⟨rfl, _, rfl⟩ := hv
      have hn0 : n = 0 := by omega
      have hlo : lo = 0 := by omega
      subst hn0 hlo
      have hnil : putL xs0 0 0 ys = xs0 := by simp [putL]
      have hst := hr.store hl (w' := w) (b' := .row e' e (putL xs0 0 0 ys) (addB bs b) p) ⟨rfl, by rw [hpl]⟩ (fun h => h) ⟨rfl, rfl, rfl, Nat.le_refl _, fun _ _ _ => rfl⟩ (noBs'_spec hno)
       ⟨[], by
        rw [hpl, hn]
        exact ⟨by simp, .inl ⟨by rw [k2, hn], rfl⟩⟩, by
        have h0 : putL xs0 0 0 ys = [] := List.eq_nil_of_length_eq_zero (by rw [hpl]; exact hn)
        rw [h0]
        rfl⟩
      refine ⟨.int .i64 ((min ys.length 0 : Nat) : Int), w, E, ?_, hst, rfl⟩
      show (Builtin.copy_ #[t, t2] ty #[a.eval x, a.eval y]).run P w = _
      rw [k3]
      simp only [Builtin.copy_, List.getElem?_toArray, List.getElem?_cons_zero, List.getElem?_cons_succ, Sem.run_bind, run_underlying u1, Result.andThen_ok, hlen, hs, n3, Sem.run_pure, goInt, if_true]
     ·rw [k2] at hv
      simp only [Value.slice.injEq] at hv
      obtain ⟨rfl, _, rfl⟩ := hv
      have hmn : min ys.length n ≤ n := Nat.min_le_right _ _
      have e3 : (lo + min ys.length n) * N.sz e = lo * N.sz e + news.length := by rw [Nat.add_mul, n2]
      have hle : lo * N.sz e + news.length ≤ xs0.length * N.sz e := by rw [← e3]; exact Nat.mul_le_mul_right _ (by omega)
      have hcap : xs0.length * N.sz e ≤ cur.size := by rw [hcs]; exact Nat.mul_le_mul_right _ hnc
      have hfit : lo * N.sz e + news.length ≤ cur.size := by omega
      have hsc : (storeCells (if cap = lo then (⟨g, 0, none⟩ : Addr) else ⟨g, lo * N.sz e, none⟩) news 0).run P w = .ok () (w.setRow g (splice cur.toList (lo * N.sz e) news).toArray) := by
       by_cases hcl : cap = lo
       ·have hz : min ys.length n = 0 := by omega
        have hnews : news = [] := List.eq_nil_of_length_eq_zero (by rw [n2, hz, Nat.zero_mul])
        subst hnews
        simp only [storeCells, splice, List.append_nil, List.length_nil, Nat.add_zero, List.take_append_drop, Array.toArray_toList]
        rw [setRow_self w g cur T0 fz hg]
        rfl
       ·rw [if_neg hcl]
        have := run_storeCells_M P g (lo * N.sz e) T0 fz news 0 cur w hg (hfz.imp (fun h => h) (fun h => h.2)) (by simpa using hfit) (RowC_one n1)
        simpa [splice] using this
      have hw : w.grownBy (w.setRow g (splice cur.toList (lo * N.sz e) news).toArray) (blkOf (E id)) := by rw [k2]; exact setRow_grown w g _
      have tr : ∀ bs0, id ∉ bs0 → (∀ i ∈ bs0, i ∈ addB bs b) → ∀ (t : Ty) (x : t.den N.ρ) cs, Rep w (okb w.heap.size σ.own E bs0) t x cs →
        Rep (w.setRow g (splice cur.toList (lo * N.sz e) news).toArray) (okb (w.setRow g (splice cur.toList (lo * N.sz e) news).toArray).heap.size (ins id (.row e' e (putL xs0 lo n ys) (addB bs b) p) σ.own) E (addB bs b)) t x cs := by
       intro bs0 h0 hsub t x cs hx
       exact Rep_mono (fun a u hb hc => cell_grown hw (hb.2 id (by rw [hl]; rfl) h0) hc) (fun g hg => okb_more hsub (okb_same hw.size hl hg)) hx
      have hrow := RowC_mono (fun x cs hx => tr bs hn1 (fun i hi => mem_addB.2 (.inl hi)) e x cs hx) c2
      have hval := RowC_mono (fun x cs hx => tr b hn2 (fun i hi => mem_addB.2 (.inr hi)) e x cs hx) n1
      have hall := RowC_append (RowC_append (RowC_take (fun x cs hx => Rep_length hx) lo hrow) hval) (RowC_drop (fun x cs hx => Rep_length hx) (lo + min ys.length n) hrow)
      have hcells : cells.take (lo * N.sz e) ++ news ++ cells.drop ((lo + min ys.length n) * N.sz e) = splice cells (lo * N.sz e) news := by rw [e3]; rfl
      rw [hcells] at hall
      have hst := hr.store hl (b' := .row e' e (putL xs0 lo n ys) (addB bs b) p) ⟨rfl, by rw [hpl]⟩ (fun h => h) hw (noBs'_spec hno)
       ⟨splice cells (lo * N.sz e) news, ⟨RowC_length (fun x cs hx => Rep_length hx) hall, .inr ⟨g, cap, _, T0, fz, by rw [hpl]; exact k2, setRow_heap w g cur _ T0 fz hg, hfz.imp (fun h => h) (fun h => ⟨h.1, by rw [splice_ofCells hfit]; exact h.2⟩), by rw [hpl]; exact hT0, by rw [hpl]; exact hnc, hcm, by rw [splice_ofCells hfit]; exact hcs, by
        rw [hpl]
        show (splice cur.toList (lo * N.sz e) news).take (xs0.length * N.sz e) = _
        rw [splice_take hle, ht]⟩⟩, hall⟩
      refine ⟨.int .i64 ((min ys.length n : Nat) : Int), _, E, ?_, hst, rfl⟩
      show (Builtin.copy_ #[t, t2] ty #[a.eval x, a.eval y]).run P w = _
      have hbase : (if cap = lo then some (⟨g, 0, none⟩ : Addr) else (some (⟨g, 0, none⟩ : Addr)).map (·.add (lo * N.sz e))) = some (if cap = lo then (⟨g, 0, none⟩ : Addr) else ⟨g, lo * N.sz e, none⟩) := by
       split
       ·rfl
       ·rw [Option.map_some, add_lit', Nat.zero_add]
      have hsc' : (storeCells (if cap = lo then (⟨g, 0, none⟩ : Addr) else ⟨g, lo * N.sz e, none⟩) news.toArray.toList 0).run P w = .ok () (w.setRow g (splice cur.toList (lo * N.sz e) news).toArray) := hsc
      rw [k3, hbase]
      simp only [Builtin.copy_, List.getElem?_toArray, List.getElem?_cons_zero, List.getElem?_cons_succ, Sem.run_bind, run_underlying u1, Result.andThen_ok, hlen, hs, n3, hsc', Sem.run_pure, goInt]
    ·cases h
   ·cases h
  ·exact evCopy_sound F h
 ·cases h
end Go.Eng

set_option linter.unusedVariables false
set_option linter.unusedSimpArgs false
namespace Go.Eng
variable {N : Names} {io : Io} {w0 w w' : World} {σ : St N} {E : Env} {a : Act}
def delL {β : Type} : List Nat → List (Nat × β) → List (Nat × β)
 | [], l => l
 | i :: r, l => del i (delL r l)
theorem look_delL {β : Type} (D : List Nat) (l : List (Nat × β)) (j : Nat) : look (delL D l) j = if j ∈ D then none else look l j := by
 induction D with
 | nil => simp [delL]
 | cons i r ih =>
  simp only [delL, look_del, ih, List.mem_cons]
  by_cases h : i = j
  ·simp [h]
  ·simp [h, Ne.symm h]
def meets (D l : List Nat) : Bool := l.any fun i => D.contains i
theorem meets_false {D l : List Nat} (h : meets D l = false) : ∀ i ∈ l, i ∉ D := by
 intro i hi hd
 have := List.any_eq_false.1 h i hi
 exact this (List.contains_iff_mem.2 hd)
def killD (D U : List Nat) (r : RV N) : RV N := bif meets D r.bs || meets U r.refs then .undef else r
def killDB (D U : List Nat) (b : Blk N) : Blk N := b.map (killD D U) (fun l => l)
def noBsD (own : List (Nat × Blk N)) (D : List Nat) : Bool :=
 own.all fun p => D.contains p.1 || match p.2 with
  | .cells _ => true
  | .vals _ _ => true
  | b => !meets D b.bs
theorem noBsD_spec {own : List (Nat × Blk N)} {D : List Nat} (h : noBsD own D = true) : ∀ j bj, look own j = some bj → j ∉ D → bj.loc ∨ ∀ i ∈ bj.bs, i ∉ D := by
 intro j bj hj hne
 have := List.all_eq_true.1 h _ (look_mem hj)
 have hc : D.contains j = false := by
  cases hh : D.contains j with
  | false => rfl
  | true => exact absurd (List.contains_iff_mem.1 hh) hne
 simp only [Bool.or_eq_true, hc, Bool.false_eq_true, false_or] at this
 cases bj with
 | cells l => exact .inl (.inl ⟨l, rfl⟩)
 | vals n l => exact .inl (.inr ⟨n, l, rfl⟩)
 | mapB kt vt es => exact .inr (fun i hi => by cases hi)
 | row e t xs bs p => exact .inr (meets_false (by simpa [Blk.bs] using this))
 | whole t x bs => exact .inr (meets_false (by simpa [Blk.bs] using this))
structure HavocW (own : List (Nat × Blk N)) (E : Env) (D : List Nat) (w w' : World) : Prop where
 os : w'.os = w.os
 tape : w'.tape = w.tape
 output : w'.output = w.output
 size : w.heap.size ≤ w'.heap.size
 block : ∀ g, g < w.heap.size → (∀ id ∈ D, (look own id).isSome = true → blkOf (E id) ≠ some g) → w'.heap[g]? = w.heap[g]?
def envOf (E : Env) (new : List (Nat × Blk N)) (V : Nat → Value) : Env := { E with val := fun i => if (look new i).isSome then V i else E i }
theorem envOf_new {new : List (Nat × Blk N)} {V : Nat → Value} {i : Nat} {b : Blk N} (h : look new i = some b) : envOf E new V i = V i := by simp [envOf, h]
theorem envOf_old {new : List (Nat × Blk N)} {V : Nat → Value} {i : Nat} (h : look new i = none) : envOf E new V i = E i := by simp [envOf, h]
structure NewOk (own : List (Nat × Blk N)) (E : Env) (D U : List Nat) (new : List (Nat × Blk N)) (V : Nat → Value) (w w' : World) : Prop where
 blk : ∀ id b, look new id = some b → ∀ g, blkOf (V id) = some g → g < w'.heap.size ∧ ((∃ d ∈ D, (look own d).isSome = true ∧ blkOf (E d) = some g) ∨ w.heap.size ≤ g)
 sep : ∀ id id' b b', look new id = some b → look new id' = some b' → id ≠ id' → ∀ g, blkOf (V id) = some g → blkOf (V id') ≠ some g
 fresh : ∀ id b, look new id = some b → id ∈ D ∨ look own id = none
 stay : ∀ id ∈ D, id ∉ U → ∀ b, look own id = some b → ∃ b', look new id = some b' ∧ sameShape b b' ∧ V id = E id ∧ (b.pinned = true → b'.pinned = true)
 moved : ∀ id ∈ U, ∀ b, look own id = some b → b.pinned = false
theorem RelE.havoc (h : RelE io w0 σ E a w) {D U : List Nat} {new : List (Nat × Blk N)} {V : Nat → Value} (hw : HavocW σ.own E D w w') (hn : NewOk σ.own E D U new V w w')
  (hno : ∀ j bj, look σ.own j = some bj → j ∉ D → bj.loc ∨ ∀ i ∈ bj.bs, i ∉ D)
  (hb' : ∀ id b, look new id = some b → BlkRel w' (insAll new (delL D (mapO (killDB D U) σ.own))) (envOf E new V) id b) :
  RelE io w0 { regs := σ.regs.map (Slot.map (killD D U)), own := insAll new (delL D (mapO (killDB D U) σ.own)) } (envOf E new V) a w' := by
 have hlook : ∀ j, look (insAll new (delL D (mapO (killDB D U) σ.own))) j = match look new j with
   | some b => some b
   | none => if j ∈ D then none else (look σ.own j).map (killDB D U) := by
  intro j
  rw [look_insAll, look_delL, look_mapO]
  cases look new j <;> rfl
 have hold : ∀ j b, look new j = none → look (insAll new (delL D (mapO (killDB D U) σ.own))) j = some b → j ∉ D ∧ ∃ b0, look σ.own j = some b0 ∧ b = killDB D U b0 := by
  intro j b hnj hj
  rw [hlook, hnj] at hj
  simp only at hj
  by_cases hd : j ∈ D
  ·rw [if_pos hd] at hj; cases hj
  ·rw [if_neg hd] at hj
   obtain ⟨b0, hb0, rfl⟩ := Option.map_eq_some_iff.1 hj
   exact ⟨hd, b0, hb0, rfl⟩
 -- blocks of D
 have hDblk : ∀ d ∈ D, (look σ.own d).isSome = true → ∀ g, blkOf (E d) = some g → g < w.heap.size ∧ (w0.heap.size ≤ g ∨ io.p g) := by
  intro d _ hs g hg
  obtain ⟨b, hb⟩ := Option.isSome_iff_exists.1 hs
  exact h.blk d b hb g hg
 have hok : ∀ bs, (∀ i ∈ bs, i ∉ D) → ∀ g, okb w.heap.size σ.own E bs g → okb w'.heap.size (insAll new (delL D (mapO (killDB D U) σ.own))) (envOf E new V) bs g := by
  intro bs hbs g hg
  refine ⟨⟨Nat.lt_of_lt_of_le hg.1.1 hw.size, hg.1.2⟩, fun j hj hjb => ?_⟩
  cases hnj : look new j with
  | some b =>
   rw [envOf_new hnj]
   intro hgv
   rcases (hn.blk j b hnj g hgv).2 with ⟨d, hd, hs, hg2⟩ | h3
   ·exact hg.2 d hs (fun hm => hbs d hm hd) hg2
   ·have := hg.1.1
    omega
  | none =>
   rw [envOf_old hnj]
   obtain ⟨b, hb⟩ := Option.isSome_iff_exists.1 hj
   obtain ⟨_, b0, hb0, _⟩ := hold j b hnj hb
   exact hg.2 j (by rw [hb0]; rfl) hjb
 have hcell : ∀ bs, (∀ i ∈ bs, i ∉ D) → ∀ (a : Addr) u, okb w.heap.size σ.own E bs a.block → w.cell? a = some u → w'.cell? a = some u := by
  intro bs hbs a u hg hc
  refine (World.cell?_of_block (w := w) (hw.block _ hg.1.1 (fun d hd hs => ?_))).trans hc
  exact hg.2 d hs (fun hm => hbs d hm hd)
 have hrow : ∀ j n t, j ∉ U → isRow σ.own j n t → isRow (insAll new (delL D (mapO (killDB D U) σ.own))) j n t ∧ envOf E new V j = E j := by
  intro j n t hju hj
  obtain ⟨b, hb⟩ := isRow_some hj
  by_cases hd : j ∈ D
  ·obtain ⟨b', h1, h2, h3, _⟩ := hn.stay j hd hju b hb
   refine ⟨?_, by rw [envOf_new h1, h3]⟩
   obtain ⟨e, xs, bs, p, k1, k2⟩ := hj
   rw [k1] at hb
   cases hb
   cases b' with
   | row e' t' xs' bs' p' =>
    obtain ⟨rfl, hl⟩ := h2
    exact ⟨e', xs', bs', p', by rw [hlook, h1], by omega⟩
   | whole t x bs => exact h2.elim
   | cells l => exact h2.elim
   | mapB kt vt es => exact h2.elim
   | vals n l => exact h2.elim
  ·have hnj : look new j = none := by
    cases hl : look new j with
    | none => rfl
    | some b' =>
     rcases hn.fresh j b' hl with h1 | h1
     ·exact absurd h1 hd
     ·rw [hb] at h1; cases h1
   obtain ⟨e, xs, bs, p, k1, k2⟩ := hj
   exact ⟨⟨e, xs, bs, p, by rw [hlook, hnj]; simp [hd, k1, killDB, Blk.map], k2⟩, envOf_old hnj⟩
 have hbox : ∀ j, j ∉ U → isBox σ.own j → isBox (insAll new (delL D (mapO (killDB D U) σ.own))) j ∧ envOf E new V j = E j := by
  intro j hju hj
  obtain ⟨b, hb⟩ := isBox_some hj
  by_cases hd : j ∈ D
  ·obtain ⟨b', h1, h2, h3, _⟩ := hn.stay j hd hju b hb
   refine ⟨?_, by rw [envOf_new h1, h3]⟩
   cases b' with
   | row e' t' xs' bs' p' =>
    rcases hj with ⟨t, x, bs, k1⟩ | ⟨l, k1⟩ | ⟨kt, vt, es, k1⟩ | ⟨n, l, k1⟩ <;> (rw [k1] at hb; cases hb; exact h2.elim)
   | whole t x bs => exact .inl ⟨t, x, bs, by rw [hlook, h1]⟩
   | cells l => exact .inr (.inl ⟨l, by rw [hlook, h1]⟩)
   | mapB kt vt es => exact .inr (.inr (.inl ⟨kt, vt, es, by rw [hlook, h1]⟩))
   | vals n l => exact .inr (.inr (.inr ⟨n, l, by rw [hlook, h1]⟩))
  ·have hnj : look new j = none := by
    cases hl : look new j with
    | none => rfl
    | some b' =>
     rcases hn.fresh j b' hl with h1 | h1
     ·exact absurd h1 hd
     ·rw [hb] at h1; cases h1
   refine ⟨?_, envOf_old hnj⟩
   rcases hj with ⟨t, x, bs, k1⟩ | ⟨l, k1⟩ | ⟨kt, vt, es, k1⟩ | ⟨n, l, k1⟩
   ·exact .inl ⟨t, x, bs, by rw [hlook, hnj]; simp [hd, k1, killDB, Blk.map]⟩
   ·exact .inr (.inl ⟨l.map (killD D U), by rw [hlook, hnj]; simp [hd, k1, killDB, Blk.map]⟩)
   ·exact .inr (.inr (.inl ⟨kt, vt, es, by rw [hlook, hnj]; simp [hd, k1, killDB, Blk.map]⟩))
   ·exact .inr (.inr (.inr ⟨n, l.map (killD D U), by rw [hlook, hnj]; simp [hd, k1, killDB, Blk.map]⟩))
 have hkill : ∀ r v, RVRel w σ.own E r v → RVRel w' (insAll new (delL D (mapO (killDB D U) σ.own))) (envOf E new V) (killD D U r) v := by
  intro r v h
  unfold killD
  cases hc : (meets D r.bs || meets U r.refs) with
  | true => trivial
  | false =>
   rw [Bool.or_eq_false_iff] at hc
   have h1 := meets_false hc.1
   have h2 := meets_false hc.2
   refine RVRel_mono ?_ ?_ ?_ ?_ h
   ·intro bs hbs a u
    cases r <;> first | exact hbs.elim | (subst hbs; exact hcell _ h1 a u)
   ·intro bs hbs g
    cases r <;> first | exact hbs.elim | (subst hbs; exact hok _ h1 g)
   ·intro j n t hj hr
    cases r <;> first | exact hj.elim | (subst hj; exact hrow _ n t (h2 _ (by simp [RV.refs])) hr)
   ·intro j hj hr
    cases r <;> first | exact hj.elim | (subst hj; exact hbox _ (h2 _ (by simp [RV.refs])) hr) | exact hbox j (h2 j hj) hr
 have hblock : ∀ j bj, look σ.own j = some bj → j ∉ D → ∀ g, blkOf (E j) = some g → w'.heap[g]? = w.heap[g]? := by
  intro j bj hj hjd g hg
  refine hw.block g (h.blk j bj hj g hg).1 (fun d hd hs hg2 => ?_)
  obtain ⟨bd, hbd⟩ := Option.isSome_iff_exists.1 hs
  exact h.sep j d bj bd hj hbd (fun e => hjd (e ▸ hd)) g hg hg2
 refine ⟨?_, by simpa using h.size, h.defers, ?_, ?_, ?_, ?_, h.sc, h.nw, fun i hi => by
  obtain ⟨b0, h1, h2, h3⟩ := h.fx i hi
  have hiu : i ∉ U := fun hu => by rw [hn.moved i hu b0 h1] at h3; cases h3
  by_cases hd : i ∈ D
  ·obtain ⟨b', k1, k2, k3, k4⟩ := hn.stay i hd hiu b0 h1
   exact ⟨b', by rw [hlook, k1], by rw [envOf_new k1, k3]; exact h2, k4 h3⟩
  ·have hni : look new i = none := by
    cases hl : look new i with
    | none => rfl
    | some b' =>
     rcases hn.fresh i b' hl with h4 | h4
     ·exact absurd h4 hd
     ·rw [h1] at h4; cases h4
   refine ⟨killDB D U b0, by rw [hlook, hni]; simp [hd, h1], by rw [envOf_old hni]; exact h2, ?_⟩
   cases b0 <;> exact h3⟩
 ·refine ⟨hw.os.trans h.kept.os, hw.tape.trans h.kept.tape, hw.output.trans h.kept.output, Nat.le_trans h.kept.size hw.size, fun g hg hi => ?_⟩
  rw [hw.block g (Nat.lt_of_lt_of_le hg h.kept.size) (fun d hd hs hg2 => ?_)]
  ·exact h.kept.block g hg hi
  ·rcases (hDblk d hd hs g hg2).2 with h3 | h3
   ·omega
   ·exact hi h3
 ·intro t s hs
  simp only [List.getElem?_map] at hs
  obtain ⟨s0, hs0, rfl⟩ := Option.map_eq_some_iff.1 hs
  exact SlotRel_map hkill (h.regs t s0 hs0)
 ·intro j bj hj
  simp only at hj ⊢
  cases hnj : look new j with
  | some b =>
   rw [hlook, hnj] at hj
   cases hj
   exact hb' j _ hnj
  | none =>
   obtain ⟨hjd, b0, hb0, rfl⟩ := hold j bj hnj hj
   have hE := envOf_old (E := E) (V := V) hnj
   have hbk := hblock j b0 hb0 hjd
   have hol := h.own j b0 hb0
   have hno' := hno j b0 hb0 hjd
   cases b0 with
   | row e t xs bs p =>
    have hbs : ∀ i ∈ bs, i ∉ D := by
     rcases hno' with (⟨l, hl⟩ | ⟨n, l, hl⟩) | hl
     ·cases hl
     ·cases hl
     ·exact hl
    obtain ⟨cells, k1, k2⟩ := hol
    refine ⟨cells, ?_, RowC_mono (fun x cs hx => Rep_mono (hcell bs hbs) (hok bs hbs) hx) k2⟩
    rw [hE]
    refine ⟨k1.1, ?_⟩
    rcases k1.2 with hn | ⟨g, cap, cur, T0, fz, hv, hg, rest⟩
    ·exact .inl hn
    ·refine .inr ⟨g, cap, cur, T0, fz, hv, ?_, rest⟩
     rw [hbk g (by rw [hv]; rfl)]
     exact hg
   | whole t x bs =>
    have hbs : ∀ i ∈ bs, i ∉ D := by
     rcases hno' with (⟨l, hl⟩ | ⟨n, l, hl⟩) | hl
     ·cases hl
     ·cases hl
     ·exact hl
    obtain ⟨g, T, arr, k1, k2, k3⟩ := hol
    refine ⟨g, T, arr, hE.trans k1, ?_, Rep_mono (hcell bs hbs) (hok bs hbs) k3⟩
    rw [hbk g (by rw [k1]; rfl)]
    exact k2
   | cells l =>
    obtain ⟨g, T, arr, k1, k2, k3, k4⟩ := hol
    refine ⟨g, T, arr, hE.trans k1, ?_, by simpa using k3, fun i r u hr hu => ?_⟩
    ·rw [hbk g (by rw [k1]; rfl)]
     exact k2
    ·simp only [List.getElem?_map] at hr
     obtain ⟨r0, hr0, rfl⟩ := Option.map_eq_some_iff.1 hr
     exact hkill _ _ (k4 i r0 u hr0 hu)
   | mapB kt vt es =>
    obtain ⟨g, arr, clock, k1, k2, k3⟩ := hol
    refine ⟨g, arr, clock, hE.trans k1, ?_, k3⟩
    rw [hbk g (by rw [k1]; rfl)]
    exact k2
   | vals n l =>
    obtain ⟨arr, k1, k2, k3, k4⟩ := hol
    refine ⟨arr, hE.trans k1, by simpa using k2, k3, fun i r u hr hu => ?_⟩
    simp only [List.getElem?_map] at hr
    obtain ⟨r0, hr0, rfl⟩ := Option.map_eq_some_iff.1 hr
    exact hkill _ _ (k4 i r0 u hr0 hu)
 ·intro j bj hj g hg
  simp only at hj
  cases hnj : look new j with
  | some b =>
   rw [envOf_new hnj] at hg
   obtain ⟨h4, h3⟩ := hn.blk j b hnj g hg
   refine ⟨h4, ?_⟩
   rcases h3 with ⟨d, hd, hs, hg2⟩ | h3
   ·exact (hDblk d hd hs g hg2).2
   ·exact .inl (Nat.le_trans h.kept.size h3)
  | none =>
   rw [envOf_old hnj] at hg
   obtain ⟨hjd, b0, hb0, _⟩ := hold j bj hnj hj
   exact ⟨Nat.lt_of_lt_of_le (h.blk j b0 hb0 g hg).1 hw.size, (h.blk j b0 hb0 g hg).2⟩
 ·intro i j b1 b2 h1 h2 hij g hg hg2
  simp only at h1 h2
  have cross : ∀ i j bi bj, look new i = some bi → look new j = none → look (insAll new (delL D (mapO (killDB D U) σ.own))) j = some bj → ∀ g, blkOf (V i) = some g → blkOf (E j) = some g → False := by
   intro i j bi bj hi hj hjl g hg hg2
   obtain ⟨hjd, b0, hb0, _⟩ := hold j bj hj hjl
   rcases (hn.blk i bi hi g hg).2 with ⟨d, hd, hs, hg3⟩ | h3
   ·obtain ⟨bd, hbd⟩ := Option.isSome_iff_exists.1 hs
    exact h.sep d j bd b0 hbd hb0 (fun e => hjd (e ▸ hd)) g hg3 hg2
   ·have := (h.blk j b0 hb0 g hg2).1
    omega
  cases hni : look new i with
  | some bi =>
   rw [envOf_new hni] at hg
   cases hnj : look new j with
   | some bj =>
    rw [envOf_new hnj] at hg2
    exact hn.sep i j bi bj hni hnj hij g hg hg2
   | none =>
    rw [envOf_old hnj] at hg2
    exact cross i j bi b2 hni hnj h2 g hg hg2
  | none =>
   rw [envOf_old hni] at hg
   cases hnj : look new j with
   | some bj =>
    rw [envOf_new hnj] at hg2
    exact cross j i bj b1 hnj hni h1 g hg2 hg
   | none =>
    rw [envOf_old hnj] at hg2
    obtain ⟨_, b3, hb3, _⟩ := hold i b1 hni h1
    obtain ⟨_, b4, hb4, _⟩ := hold j b2 hnj h2
    exact h.sep i j b3 b4 hb3 hb4 hij g hg hg2
end Go.Eng
