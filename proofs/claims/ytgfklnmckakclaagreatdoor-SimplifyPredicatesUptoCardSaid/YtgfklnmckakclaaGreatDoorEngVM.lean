/- The engine, part VM: maps of plain keys and plain values. -/
import Derived.Test.YtgfklnmckakclaaGreatDoorEngV
import Derived.MapFrom
set_option linter.unusedVariables false
set_option linter.unusedSimpArgs false
namespace Go.Eng
variable {N : Names} {P : Program} {τ : TypeId → Option TI} {β : Type}

def scal : Ty → Bool
  | .int _ => true
  | .bool => true
  | .str => true
  | _ => false
def keyEq : (t : Ty) → t.den N.ρ → t.den N.ρ → Bool
  | .int _, a, b => decide (a = b)
  | .bool, a, b => decide (a = b)
  | .str, a, b => decide (a = b)
  | _, _, _ => false
def mfind {α β : Type} (eq : α → α → Bool) : List (α × β) → α → Option β
  | [], _ => none
  | (k, z) :: r, x => bif eq x k then some z else mfind eq r x
def mset {α β : Type} (eq : α → α → Bool) : List (α × β) → α → β → List (α × β)
  | [], x, y => [(x, y)]
  | (k, z) :: r, x, y => bif eq x k then (x, y) :: r else (k, z) :: mset eq r x y
def hasK {α : Type} : Option α → Bool
  | some _ => true
  | none => false
def orZ {α : Type} : Option α → α → α
  | some x, _ => x
  | none, z => z

/-- A type's shape, as a map's keys ask it. -/
def KeyDesc : Ty → TypeDesc → Prop
  | .int k, d => d = .int k
  | .bool, d => d = .bool
  | .str, d => d = .string
  | _, _ => False

theorem keyDesc (F : Fits P N τ) {t e : TypeId} {kt : Ty} (h : τ t = some ⟨kt, e⟩) (hs : scal kt = true) : ∃ d, P.underlying t = some d ∧ KeyDesc kt d := by
  cases kt with
  | int k => exact ⟨_, (F.int t k e h).1, rfl⟩
  | bool => exact ⟨_, (F.bool t e h).1, rfl⟩
  | str => exact ⟨_, (F.str t e h).1, rfl⟩
  | _ => cases hs

theorem isKey_of {kt : Ty} {d : TypeDesc} {x : kt.den N.ρ} {v : Value} (hd : KeyDesc kt d) (h : ScalRel kt x v) : MapKept.IsKey d v := by
  cases kt with
  | int k => cases hd; cases h; exact rfl
  | bool => cases hd; cases h; exact trivial
  | str => cases hd; obtain ⟨s, rfl, _⟩ := h; exact trivial
  | _ => exact h.elim

theorem scal_eq {kt : Ty} {x y : kt.den N.ρ} {v u : Value} (hx : ScalRel kt x v) (hy : ScalRel kt y u) : keyEq (N := N) kt x y = true ↔ v = u := by
  cases kt with
  | int k => cases hx; cases hy; simp [keyEq]
  | bool => cases hx; cases hy; simp [keyEq]
  | str =>
    obtain ⟨s, rfl, rfl⟩ := hx
    obtain ⟨s', rfl, rfl⟩ := hy
    simp only [keyEq, decide_eq_true_eq, Value.string.injEq]
    exact ⟨bytesL_inj, fun h => by rw [h]⟩
  | _ => exact hx.elim

theorem scal_uni {kt : Ty} {x : kt.den N.ρ} {v u : Value} (hx : ScalRel kt x v) (hy : ScalRel kt x u) : v = u := by
  cases kt with
  | int k => cases hx; cases hy; rfl
  | bool => cases hx; cases hy; rfl
  | str =>
    obtain ⟨s, rfl, h⟩ := hx
    obtain ⟨s', rfl, h'⟩ := hy
    rw [bytesL_inj (h.trans h'.symm)]
  | _ => exact hx.elim

theorem mapRel_keys {kt vt : Ty} {d : TypeDesc} (hd : KeyDesc kt d) : ∀ {es : List (kt.den N.ρ × vt.den N.ρ)} {arr : List MapEntry}, MapRel kt vt es arr → ∀ e ∈ arr, MapKept.IsKey d e.key
  | [], arr, h, e, he => by
    rw [show arr = [] from h] at he
    cases he
  | x :: xs, arr, h, e, he => by
    obtain ⟨e0, rest, rfl, h1, h2, h3⟩ := h
    rcases List.mem_cons.1 he with rfl | he
    · exact isKey_of hd h1
    · exact mapRel_keys hd h3 e he

theorem find_rel {kt vt : Ty} {d : TypeDesc} (hd : KeyDesc kt d) {x : kt.den N.ρ} {v : Value} (hx : ScalRel kt x v) : ∀ (es : List (kt.den N.ρ × vt.den N.ρ)) (arr : List MapEntry) (i : Nat), MapRel kt vt es arr →
    (mfind (keyEq (N := N) kt) es x = none ∧ Instr.findNow d v arr i = some none ∧ ∀ y u c, ScalRel vt y u → MapRel kt vt (mset (keyEq (N := N) kt) es x y) (arr ++ [⟨v, u, c⟩])) ∨
    ∃ j e z, mfind (keyEq (N := N) kt) es x = some z ∧ Instr.findNow d v arr i = some (some (i + j, e.val)) ∧ arr[j]? = some e ∧ e.key = v ∧ ScalRel vt z e.val ∧ ∀ y u, ScalRel vt y u → MapRel kt vt (mset (keyEq (N := N) kt) es x y) (arr.modify j fun e => { e with key := v, val := u })
  | [], arr, i, h => by
    rw [show arr = [] from h]
    exact .inl ⟨rfl, rfl, fun y u c hu => ⟨_, [], rfl, hx, hu, rfl⟩⟩
  | (k, z) :: xs, arr, i, h => by
    obtain ⟨e, rest, rfl, h1, h2, h3⟩ := h
    have hk := isKey_of hd hx
    have hk' := isKey_of hd h1
    obtain ⟨r, hr, hiff⟩ := MapKept.sameNow_of_keys hk hk'
    have hse := scal_eq hx h1
    cases hke : keyEq (N := N) kt x k with
    | true =>
      have hv : v = e.key := hse.1 hke
      have hrt : r = true := hiff.2 hv
      subst hrt
      refine .inr ⟨0, e, z, by simp [mfind, hke], by simp [Instr.findNow, hr], rfl, hv.symm, h2, fun y u hu => ?_⟩
      simp only [mset, hke, cond_true, List.modify_zero_cons]
      exact ⟨_, rest, rfl, hx, hu, h3⟩
    | false =>
      have hrf : r = false := by
        cases r with
        | false => rfl
        | true =>
          have := hse.2 (hiff.1 rfl)
          rw [hke] at this
          cases this
      subst hrf
      rcases find_rel hd hx xs rest (i + 1) h3 with ⟨q1, q2, q3⟩ | ⟨j, e', z', q1, q2, q3, q4, q5, q6⟩
      · refine .inl ⟨by simp [mfind, hke, q1], by simp [Instr.findNow, hr, q2], fun y u c hu => ?_⟩
        simp only [mset, hke, cond_false, List.cons_append]
        exact ⟨e, _, rfl, h1, h2, q3 y u c hu⟩
      · refine .inr ⟨j + 1, e', z', by simp [mfind, hke, q1], by simp [Instr.findNow, hr, q2]; omega, by simpa using q3, q4, q5, fun y u hu => ?_⟩
        simp only [mset, hke, cond_false, List.modify_succ_cons]
        exact ⟨e, _, rfl, h1, h2, q6 y u hu⟩

/-- A plain value, read at a plain type. -/
def toScal (t : Ty) (r : RV N) : Option (t.den N.ρ) :=
  match r with
  | .int k n => castTy N (.int k) t n
  | .bool b => castTy N .bool t b
  | .str l => castTy N .str t l
  | _ => none

theorem toScal_rel {w : World} {own : List (Nat × Blk N)} {E : Env} {t : Ty} {r : RV N} {v : Value} {x : t.den N.ρ} (h : toScal t r = some x) (hr : RVRel w own E r v) : ScalRel t x v := by
  cases r with
  | int k n => obtain ⟨e, rfl⟩ := castTy_some h; subst e; exact hr
  | bool b => obtain ⟨e, rfl⟩ := castTy_some h; subst e; exact hr
  | str l => obtain ⟨e, rfl⟩ := castTy_some h; subst e; exact hr
  | _ => cases h

theorem scal_rv {w : World} {own : List (Nat × Blk N)} {E : Env} {t : Ty} {x : t.den N.ρ} {v : Value} (h : ScalRel t x v) : RVRel w own E (ofDen t x []) v := by
  cases t with
  | int k => exact h
  | bool => exact h
  | str => exact h
  | _ => exact h.elim

/-- The key's and the value's type of a map's type. -/
def mapTys (τ : TypeId → Option TI) (t : TypeId) : Option (Ty × Ty) :=
  match τ t with
  | some ⟨.opq, e⟩ => bif decide (e = 0) then none else match τ (e / 100000), τ (e % 100000) with
    | some ⟨kt, _⟩, some ⟨vt, _⟩ => bif scal kt && scal vt then some (kt, vt) else none
    | _, _ => none
  | _ => none

theorem mapTys_spec (F : Fits P N τ) {t : TypeId} {kt vt : Ty} (h : mapTys τ t = some (kt, vt)) : ∃ k e ek ee, P.underlying t = some (.map k e) ∧ τ k = some ⟨kt, ek⟩ ∧ τ e = some ⟨vt, ee⟩ ∧ scal kt = true ∧ scal vt = true := by
  unfold mapTys at h
  split at h
  · rename_i e hτ
    cases he : decide (e = 0) with
    | true => rw [he] at h; cases h
    | false =>
      rw [he] at h
      simp only [cond_false] at h
      split at h
      · rename_i kt' ek vt' ee h1 h2
        obtain ⟨hs, h⟩ := bif_none h
        cases h
        simp only [Bool.and_eq_true] at hs
        rcases F.mp t e hτ with h0 | h0
        · exact absurd h0 (by simpa using he)
        · exact ⟨_, _, _, _, h0, h1, h2, hs.1, hs.2⟩
      · cases h
  · cases h

def evMakeMap (τ : TypeId → Option TI) (σ : St N) (t : TypeId) (res : Option Operand) (dst : Option Nat) (k : KK N β) : Option β :=
  match dst with
  | none => none
  | some d => match look σ.own (1000 + d) with
    | some _ => none
    | none => match mapTys τ t with
      | some (kt, vt) => match res with
        | none => k (.one (.mp (1000 + d))) [(1000 + d, .mapB kt vt [])]
        | some o => match ev σ o with
          | .int _ _ => k (.one (.mp (1000 + d))) [(1000 + d, .mapB kt vt [])]
          | _ => none
      | none => none

theorem evMakeMap_sound (F : Fits P N τ) {σ : St N} {t : TypeId} {res : Option Operand} {dst : Option Nat} {k : KK N β} {r : β} (h : evMakeMap τ σ t res dst k = some r) :
    ∃ s ad, k s ad = some r ∧ Does P σ (fun a => Instr.makeMap t (res.map a.eval)) s ad := by
  unfold evMakeMap at h
  split at h
  · cases h
  · rename_i d
    split at h
    · cases h
    · rename_i hl
      split at h
      · rename_i kt vt hm
        obtain ⟨kk, ee, ek, ev', hu, _⟩ := mapTys_spec F hm
        have key : (∀ io w0 E a w, RelE io w0 σ E a w → (Instr.makeMap t (res.map a.eval)).run P w = .ok (.map (some w.heap.size)) (w.alloc (.map #[] 0))) →
            k (.one (.mp (1000 + d))) [(1000 + d, .mapB kt vt [])] = some r → ∃ s ad, k s ad = some r ∧ Does P σ (fun a => Instr.makeMap t (res.map a.eval)) s ad := by
          intro hrun hk
          refine ⟨_, _, hk, fun io w0 E a w hr => ?_⟩
          have he := Ext.alloc w (.map #[] 0)
          have hadd := hr.add he (V := .map (some w.heap.size)) (b := .mapB kt vt []) hl (fun g hg => by cases hg; exact ⟨Nat.le_refl _, by simp⟩) ⟨w.heap.size, #[], 0, updE_same _ _ _, heap_alloc_new w _, rfl⟩
          exact ⟨_, _, _, hrun io w0 E a w hr, hadd, .inr (.inr ⟨kt, vt, [], by rw [show insAll [(1000 + d, Blk.mapB kt vt [])] σ.own = ins _ _ σ.own from rfl, look_ins, if_pos rfl]⟩), (updE_same _ _ _).symm⟩
        split at h
        · exact key (fun io w0 E a w hr => rfl) h
        · rename_i o
          split at h
          · rename_i k' n hn
            refine key (fun io w0 E a w hr => ?_) h
            have hv := hr.ev o
            rw [hn] at hv
            have hv : a.eval o = .int k' n := hv
            simp [Instr.makeMap, hv, run_underlying hu, asInt, asIntOf]
          · cases h
      · cases h

def evLookup (τ : TypeId → Option TI) (own : List (Nat × Blk N)) (t : TypeId) (m x : RV N) (ok : Bool) (k : KK N β) : Option β :=
  match m with
  | .mp id => match look own id with
    | some (.mapB kt vt es) => match mapTys τ t with
      | some (kt', vt') => bif decide (kt' = kt) && decide (vt' = vt) then match toScal kt x with
        | some key => bif ok then k (.tup [ofDen vt (orZ (mfind (keyEq (N := N) kt) es key) (N.dflt vt)) [], .bool (hasK (mfind (keyEq (N := N) kt) es key))]) [] else k (.one (ofDen vt (orZ (mfind (keyEq (N := N) kt) es key) (N.dflt vt)) [])) []
        | none => none
        else none
      | none => none
    | _ => none
  | _ => none

theorem zero_scal (F : Fits P N τ) {t e : TypeId} {vt : Ty} (h : τ t = some ⟨vt, e⟩) (hs : scal vt = true) : ∃ z, (∀ w, (zeroValue t).run P w = .ok z w) ∧ ScalRel vt (N.dflt vt) z := by
  obtain ⟨i, z, zc, h1, h2, h3, h4, h5, h6, h7⟩ := F.info h
  refine ⟨z, fun w => by simp [zeroValue, typeInfo, h1, h2], ?_⟩
  have h7 := h7 default (fun _ => True)
  cases vt with
  | int k =>
    have h6 : zc.toList = [z] := h6
    rw [h6] at h7
    cases h7
    exact rfl
  | bool =>
    have h6 : zc.toList = [z] := h6
    rw [h6] at h7
    cases h7
    exact rfl
  | str =>
    have h6 : zc.toList = [z] := h6
    rw [h6] at h7
    obtain ⟨s, hs, hb⟩ := h7
    cases hs
    exact ⟨s, rfl, hb⟩
  | _ => cases hs

theorem evLookup_sound (F : Fits P N τ) {σ : St N} {t : TypeId} {m x : Operand} {ok : Bool} {k : KK N β} {r : β} (h : evLookup τ σ.own t (ev σ m) (ev σ x) ok k = some r) :
    ∃ s ad, k s ad = some r ∧ Does P σ (fun a => Instr.lookup t (a.eval m) (a.eval x) ok) s ad := by
  unfold evLookup at h
  split at h
  · rename_i id hid
    split at h
    · rename_i kt vt es hlk
      split at h
      · rename_i kt' vt' hm
        obtain ⟨ht, h⟩ := bif_none h
        simp only [Bool.and_eq_true, decide_eq_true_eq] at ht
        obtain ⟨rfl, rfl⟩ := ht
        split at h
        · rename_i key hkey
          obtain ⟨kk, ee, ek, ev', hu, hτk, hτe, hsk, hsv⟩ := mapTys_spec F hm
          obtain ⟨d, hd, hkd⟩ := keyDesc F hτk hsk
          obtain ⟨z, hz, hzr⟩ := zero_scal F hτe hsv
          have run : ∀ io w0 E a w, RelE io w0 σ E a w → ∃ u, ScalRel vt' (orZ (mfind (keyEq (N := N) kt') es key) (N.dflt vt')) u ∧ (Instr.lookup t (a.eval m) (a.eval x) ok).run P w = .ok (if ok then .tuple #[u, .bool (hasK (mfind (keyEq (N := N) kt') es key))] else u) w := by
            intro io w0 E a w hr
            have hmv := hr.ev m
            rw [hid] at hmv
            obtain ⟨_, hmv⟩ := hmv
            obtain ⟨g, arr, clock, c1, c2, c3⟩ := hr.own id _ hlk
            rw [c1] at hmv
            have hx := toScal_rel hkey (hr.ev x)
            have hik := isKey_of hkd hx
            rcases find_rel hkd hx es arr.toList 0 c3 with ⟨q1, q2, q3⟩ | ⟨j, e, y, q1, q2, q3, q4, q5, q6⟩
            · refine ⟨z, by rw [q1]; exact hzr, ?_⟩
              simp [Instr.lookup, run_underlying hu, hmv, MapKept.run_getObj_map c2, MapKept.run_checkKey hd hik, MapKept.run_findKey hd q2, hz, q1, hasK]
            · refine ⟨e.val, by rw [q1]; exact q5, ?_⟩
              simp [Instr.lookup, run_underlying hu, hmv, MapKept.run_getObj_map c2, MapKept.run_checkKey hd hik, MapKept.run_findKey hd q2, q1, hasK]
          cases ok with
          | true =>
            refine ⟨_, _, h, fun io w0 E a w hr => ?_⟩
            obtain ⟨u, u1, u2⟩ := run io w0 E a w hr
            refine ⟨_, w, E, u2, hr, [u, .bool (hasK (mfind (keyEq (N := N) kt') es key))], rfl, rfl, fun i r' v hi hv => ?_⟩
            match i, hi, hv with
            | 0, hi, hv =>
              simp only [List.getElem?_cons_zero, Option.some.injEq] at hi hv
              subst hi hv
              exact scal_rv u1
            | 1, hi, hv =>
              simp only [List.getElem?_cons_succ, List.getElem?_cons_zero, Option.some.injEq] at hi hv
              subst hi hv
              exact rfl
            | n + 2, hi, hv => simp at hi
          | false =>
            refine ⟨_, _, h, fun io w0 E a w hr => ?_⟩
            obtain ⟨u, u1, u2⟩ := run io w0 E a w hr
            exact ⟨_, w, E, u2, hr, scal_rv u1⟩
        · cases h
      · cases h
    · cases h
  · cases h

def evMapUpdate (τ : TypeId → Option TI) (σ : St N) (t : TypeId) (m x y : RV N) (k : St N → Option β) : Option β :=
  match m with
  | .mp id => match look σ.own id with
    | some (.mapB kt vt es) => match mapTys τ t with
      | some (kt', vt') => bif decide (kt' = kt) && decide (vt' = vt) && noBs' σ.own id then match toScal kt x, toScal vt y with
        | some key, some v => k { regs := σ.regs.map (Slot.map (scrub id)), own := ins id (.mapB kt vt (mset (keyEq (N := N) kt) es key v)) σ.own }
        | _, _ => none
        else none
      | none => none
    | _ => none
  | _ => none

theorem grown_setBlk {w : World} {g : Nat} (o : Obj) : w.grownBy { w with heap := w.heap.setIfInBounds g o } (some g) :=
  ⟨rfl, rfl, rfl, by simp, fun k hk hne => by
    simp only
    rw [Array.getElem?_setIfInBounds_ne]
    intro e
    exact hne (by rw [e])⟩

theorem evMapUpdate_sound (F : Fits P N τ) {σ : St N} {t : TypeId} {m x y : Operand} {k : St N → Option β} {r : β} (h : evMapUpdate τ σ t (ev σ m) (ev σ x) (ev σ y) k = some r) :
    ∃ σ', k σ' = some r ∧ DoesS P σ (fun a => Instr.mapUpdate t (a.eval m) (a.eval x) (a.eval y)) σ' := by
  unfold evMapUpdate at h
  split at h
  · rename_i id hid
    split at h
    · rename_i kt vt es hlk
      split at h
      · rename_i kt' vt' hm
        obtain ⟨ht, h⟩ := bif_none h
        simp only [Bool.and_eq_true, decide_eq_true_eq] at ht
        obtain ⟨⟨rfl, rfl⟩, hno⟩ := ht
        split at h
        · rename_i key v hkey hv
          obtain ⟨kk, ee, ek, ev', hu, hτk, hτe, hsk, hsv⟩ := mapTys_spec F hm
          obtain ⟨d, hd, hkd⟩ := keyDesc F hτk hsk
          refine ⟨_, h, fun io w0 E a w hr => ?_⟩
          have hmv := hr.ev m
          rw [hid] at hmv
          obtain ⟨_, hmv⟩ := hmv
          obtain ⟨g, arr, clock, c1, c2, c3⟩ := hr.own id _ hlk
          rw [c1] at hmv
          have hx := toScal_rel hkey (hr.ev x)
          have hy := toScal_rel hv (hr.ev y)
          have hik := isKey_of hkd hx
          have hblk : blkOf (E id) = some g := by rw [c1]; rfl
          have hlt : g < w.heap.size := (Array.getElem?_eq_some_iff.1 c2).1
          have fin : ∀ o : Obj, (∃ arr' clock', o = .map arr' clock' ∧ MapRel kt' vt' (mset (keyEq (N := N) kt') es key v) arr'.toList) →
              RelE io w0 { regs := σ.regs.map (Slot.map (scrub id)), own := ins id (.mapB kt' vt' (mset (keyEq (N := N) kt') es key v)) σ.own } E a { w with heap := w.heap.setIfInBounds g o } := by
            rintro o ⟨arr', clock', rfl, ho⟩
            refine hr.store hlk trivial (fun h => h) (by rw [hblk]; exact grown_setBlk _) (noBs'_spec hno) ⟨g, arr', clock', c1, ?_, ho⟩
            simp [hlt]
          rcases find_rel hkd hx es arr.toList 0 c3 with ⟨q1, q2, q3⟩ | ⟨j, e, z, q1, q2, q3, q4, q5, q6⟩
          · refine ⟨_, E, ?_, fin (.map (arr.push { key := a.eval x, val := a.eval y, born := clock }) (clock + 1)) ⟨_, _, rfl, by simpa using q3 v (a.eval y) clock hy⟩⟩
            simp [Instr.mapUpdate, run_underlying hu, hmv, MapKept.run_getObj_map c2, MapKept.run_checkKey hd hik, MapKept.run_findKey hd q2, MapKept.run_setObj_map _ c2]
          · have hj : arr[j]? = some e := by simpa using q3
            refine ⟨_, E, ?_, fin (.map (arr.modify j fun e => { e with key := a.eval x, val := a.eval y }) clock) ⟨_, _, rfl, by simpa using q6 v (a.eval y) hy⟩⟩
            simp [Instr.mapUpdate, run_underlying hu, hmv, MapKept.run_getObj_map c2, MapKept.run_checkKey hd hik, MapKept.run_findKey hd q2, hj, q4, MapKept.run_keyThatStays hik, MapKept.run_setObj_map _ c2]
        · cases h
      · cases h
    · cases h
  · cases h

end Go.Eng
