/- The engine, part WH: regions whose order is open, with appends that take a row of the region away.
The engine, part WI: functions whose code is followed in place of a call.
The engine, part WP: functions that may throw an integer.
The engine, part X: code, cut at the heads of its loops and at joins.
The engine, part Y: a function's own side: how it begins and how it ends.
The engine, part Z: from a function's code to what its callers may know.
The engine, part ZI: a function without loops, followed in place of its call.
The engine: a program's table of types, checked by computation. -/
import Derived.Test.YtenjolapmchcmaaGreatDoorEngine4
import Derived.Scope
set_option linter.unusedVariables false
set_option linter.unusedSimpArgs false
namespace Go.Eng
variable {N : Names} {P : Program} {τ : TypeId → Option TI} {β : Type}
def klL (H : List Nat) (r : RV N) : RV N := bif meets H r.bs || meets H r.refs then .undef else r
def eraseSt (H : List Nat) (σ : St N) : St N := match H with
 | [] => σ
 | H => { regs := σ.regs.map (Slot.map (klL H)), own := delL H σ.own }
def stA (σ0 : St N) (eff : Nat → Eff N) (er : Nat → List Nat) (L : List Nat) : St N := eraseSt (L.flatMap er) (sq σ0 eff L)
def isApp (o : Oper) : Bool := match o.op with
 | .call c => match c.callee with
  | .builtin .append => true
  | _ => false
 | _ => false
def drawApp (τ : TypeId → Option TI) (σ : St N) (o : Oper) (k : Slot N → List (Nat × Blk N) → List Nat → Option β) : Option β :=
 match o.guard, o.dst, o.op with
 | none, some d, .call c => match c.callee with
  | .builtin .append => match c.args.toList, c.argTypes.toList with
   | [x, y], [t, t2] => match τ t with
    | some ⟨.sl e, el⟩ => match appSrc τ σ.own t t2 e (ev σ y) with
     | some (ys, b) => match ev σ x with
      | .own id => match look σ.own id with
       | some (.row el' e' xs bs false) => bif eqB el' el && !(addB bs b).contains id then match castTy N (.sl e') (.sl e) xs with
        | some xs => if xs.length + ys.length ≤ lim then k (.one (.own (1000 + d))) [(1000 + d, .row el e (xs ++ ys) (addB bs b) false)] [id] else none
        | none => none
        else none
       | _ => none
      | _ => none
     | none => none
    | _ => none
   | _, _ => none
  | _ => none
 | _, _, _ => none
def noRefS (id : Nat) (s : Slot N) : Bool := match s with
 | .one r => !r.bs.contains id && !r.refs.contains id
 | .tup l => l.all fun r => !r.bs.contains id && !r.refs.contains id
def noRefB (id : Nat) (b : Blk N) : Bool := !b.bs.contains id && !b.refs.contains id
abbrev EffA (N : Names) := Eff N × List Nat
def effA (l : List (EffA N)) (j : Nat) : Eff N := (l.getD j (⟨none, .tup [], []⟩, [])).1
def erA (l : List (EffA N)) (j : Nat) : List Nat := (l.getD j (⟨none, .tup [], []⟩, [])).2
def headLenA0 : List Oper → Nat
 | [] => 0
 | o :: r => bif isE o || (isApp o || isStoreO o) then headLenA0 r + 1 else 0
def headLenA (ops : List Oper) : Nat := Nat.min (headLenA0 ops) (tailFrom ops ops.length)
def drawHeadA (τ : TypeId → Option TI) (Φ : FuncId → Option (Spec N)) (ops : List Oper) (σ0 : St N) : List Oper → List (EffA N) → (List (EffA N) → Option β) → Option β
 | [], effs, k => k effs
 | o :: rest, effs, k => bif isApp o then
   drawApp τ (stA σ0 (effA effs) (erA effs) (clo ops ops.length effs.length)) o fun s ad H => drawHeadA τ Φ ops σ0 rest (effs ++ [(⟨o.dst, s, ad⟩, H)]) k
  else bif isStoreO o then
   drawStore τ (stA σ0 (effA effs) (erA effs) (clo ops ops.length effs.length)) o fun s ad => drawHeadA τ Φ ops σ0 rest (effs ++ [(⟨none, s, ad⟩, [])]) k
  else
   drawHead.drawOne τ Φ ops (stA σ0 (effA effs) (erA effs) (clo ops ops.length effs.length)) o fun s ad => splitB (asked effs.length ops) s fun s => drawHeadA τ Φ ops σ0 rest (effs ++ [(⟨o.dst, s, ad⟩, [])]) k
def besideA (ops : List Oper) (σ0 : St N) (effs : List (EffA N)) (k id i : Nat) : Bool :=
 (effA effs i).ad.all (fun p => noRefB id p.2) && ((clo ops ops.length k).contains i || (noRefS id (effA effs i).s && !(idsE (effA effs i)).contains id)) &&
 ((clo ops ops.length i).contains k || (Nat.beq i k || ((clo ops ops.length k).contains i || match ops[i]?, look (sq σ0 (effA effs) (clo ops ops.length i)).own id with
  | some o, none => (usesG ops o).all fun t => noRefS id ((sq σ0 (effA effs) (clo ops ops.length i)).reg t)
  | _, _ => false)))
def coldA (τ : TypeId → Option TI) (Φ : FuncId → Option (Spec N)) (ops : List Oper) (σ0 : St N) (effs : List (EffA N)) (j : Nat) : Bool :=
 match hotJ ops (effs.map (·.1)) j with
 | [] => true
 | H => match ops[j]? with
  | some o => !isApp o && isOk (drawHead.drawOne τ Φ ops (delS H (stA σ0 (effA effs) (erA effs) (clo ops ops.length j))) o fun _ ad => bif meets H (ad.map (·.1)) then none else some ())
  | none => false
def effsChkA (τ : TypeId → Option TI) (Φ : FuncId → Option (Spec N)) (ops : List Oper) (σ0 : St N) (effs : List (EffA N)) : Bool :=
 (effDsts (effs.map (·.1))).all (fun d => Nat.blt d σ0.regs.length) && nodupB (effDsts (effs.map (·.1))) && allLt (fun j => storeAt ops j || freshIds σ0.own (idsE (effA effs j))) effs.length &&
 allLt (fun i => allLt (fun j => !meets (idsE (effA effs i)) (idsE (effA effs j)) || (storeAt ops i && !storeAt ops j && (clo ops ops.length i).contains j)) i) effs.length &&
 allLt (fun j => storeAt ops j || coldA τ Φ ops σ0 effs j) effs.length &&
 allLt (fun i => !storeAt ops i || (idsE (effA effs i)).all fun id => noIdB id σ0 && effs.all (fun e => noIdE id e.1)) effs.length &&
 allLt (fun k => (erA effs k).all fun id => σ0.own.all (fun p => noRefB id p.2) && allLt (fun i => besideA ops σ0 effs k id i) effs.length) effs.length
def execDrawA (τ : TypeId → Option TI) (Φ : FuncId → Option (Spec N)) (ops : List Oper) (σ0 : St N) (k : St N → Option β) : Option β :=
 bif statOk ops (headLenA ops) then
  drawHeadA τ Φ ops σ0 (ops.take (headLenA ops)) [] fun effs =>
   bif effsChkA τ Φ ops σ0 effs then execOps τ Φ ops (ops.drop (headLenA ops)) (stA σ0 (effA effs) (erA effs) (downTo (headLenA ops))) k else none
 else none
def execDrawY (τ : TypeId → Option TI) (Φ : FuncId → Option (Spec N)) (ops : List Oper) (σ0 : St N) (k : St N → Option β) : Option β :=
 bif ops.any isApp && !(statOk ops (headLenT ops) || statOk ops (headLen ops)) then execDrawA τ Φ ops σ0 k else execDrawX τ Φ ops σ0 k
theorem headLenA_le (ops : List Oper) : headLenA ops ≤ ops.length :=
 Nat.le_trans (Nat.min_le_left _ _) (go ops)
where
 go : ∀ (ops : List Oper), headLenA0 ops ≤ ops.length
  | [] => Nat.le_refl _
  | o :: r => by
   unfold headLenA0
   cases isE o || (isApp o || isStoreO o) with
   | true => simpa using go r
   | false => simp
theorem meets_not {D l : List Nat} (h : ∀ i ∈ l, i ∉ D) : meets D l = false := by
 cases hm : meets D l with
 | false => rfl
 | true =>
  obtain ⟨i, hi, hd⟩ := List.any_eq_true.1 hm
  exact absurd (List.contains_iff_mem.1 hd) (h i hi)
theorem noRef_one {id : Nat} {r : RV N} (h : (!r.bs.contains id && !r.refs.contains id) = true) : id ∉ r.bs ∧ id ∉ r.refs := by
 simp only [Bool.and_eq_true, Bool.not_eq_true'] at h
 exact ⟨contains_false h.1, contains_false h.2⟩
theorem klL_same {H H' : List Nat} {r : RV N} (h : ∀ id, (id ∈ r.bs ∨ id ∈ r.refs) → (id ∈ H ↔ id ∈ H')) : klL H r = klL H' r := by
 have e : ∀ l : List Nat, (∀ id ∈ l, (id ∈ H ↔ id ∈ H')) → meets H l = meets H' l := by
  intro l hl
  cases h1 : meets H l with
  | true =>
   obtain ⟨i, hi, hd⟩ := List.any_eq_true.1 h1
   exact (List.any_eq_true.2 ⟨i, hi, List.contains_iff_mem.2 ((hl i hi).1 (List.contains_iff_mem.1 hd))⟩).symm
  | false => exact (meets_not (fun i hi hd => meets_false h1 i hi ((hl i hi).2 hd))).symm
 unfold klL
 rw [e r.bs (fun id hid => h id (.inl hid)), e r.refs (fun id hid => h id (.inr hid))]
theorem klS_same {H H' : List Nat} {s : Slot N} (h : ∀ id, noRefS id s = false → (id ∈ H ↔ id ∈ H')) : Slot.map (klL H) s = Slot.map (klL H') s := by
 have ne : ∀ (r : RV N) id, (id ∈ r.bs ∨ id ∈ r.refs) → (!r.bs.contains id && !r.refs.contains id) = false := fun r id hid => by
  cases hc : (!r.bs.contains id && !r.refs.contains id) with
  | false => rfl
  | true => obtain ⟨h1, h2⟩ := noRef_one hc; exact (hid.elim h1 h2).elim
 cases s with
 | one r => simp only [Slot.map]; rw [klL_same (fun id hid => h id (ne r id hid))]
 | tup l =>
  simp only [Slot.map]
  congr 1
  refine List.map_congr_left (fun r hr => klL_same (fun id hid => h id ?_))
  cases hc : noRefS id (.tup l) with
  | false => rfl
  | true => have := List.all_eq_true.1 hc r hr; rw [ne r id hid] at this; cases this
theorem klS_nil (s : Slot N) : Slot.map (klL []) s = s := by
 have m : ∀ l : List Nat, meets [] l = false := fun l => meets_not (fun i _ h => by cases h)
 have e : ∀ r : RV N, klL [] r = r := fun r => by simp [klL, m]
 cases s with
 | one r => simp only [Slot.map, e]
 | tup l => simp [Slot.map, List.map_congr_left (fun r _ => e r)]
theorem klS_cons {id : Nat} {H : List Nat} (s : Slot N) : Slot.map (kill id) (Slot.map (klL H) s) = Slot.map (klL (id :: H)) s := by
 have m : ∀ l : List Nat, meets (id :: H) l = (l.contains id || meets H l) := fun l => by
  induction l with
  | nil => rfl
  | cons x l ih =>
   have ih : l.any (fun i => (id :: H).contains i) = (l.contains id || l.any (fun i => H.contains i)) := ih
   show ((id :: H).contains x || l.any (fun i => (id :: H).contains i)) = ((x :: l).contains id || (H.contains x || l.any (fun i => H.contains i)))
   rw [ih, List.contains_cons, List.contains_cons, Bool.beq_comm (a := x)]
   cases (id == x) <;> cases l.contains id <;> cases H.contains x <;> rfl
 have e : ∀ r : RV N, kill id (klL H r) = klL (id :: H) r := fun r => by
  unfold klL
  rw [m, m]
  cases h : meets H r.bs || meets H r.refs with
  | true =>
   rw [show (r.bs.contains id || meets H r.bs || (r.refs.contains id || meets H r.refs)) = true from by revert h; cases meets H r.bs <;> cases meets H r.refs <;> simp]
   rfl
  | false =>
   simp only [Bool.or_eq_false_iff] at h
   rw [h.1, h.2, Bool.or_false, Bool.or_false]
   rfl
 cases s with
 | one r => simp only [Slot.map, e]
 | tup l => simp only [Slot.map, List.map_map]; congr 1; exact List.map_congr_left (fun r _ => e r)
theorem stA_eq (σ0 : St N) (eff : Nat → Eff N) (er : Nat → List Nat) (L : List Nat) : stA σ0 eff er L = { regs := (sq σ0 eff L).regs.map (Slot.map (klL (L.flatMap er))), own := delL (L.flatMap er) (sq σ0 eff L).own } := by
 unfold stA eraseSt
 split
 ·rename_i h
  rw [h, List.map_congr_left (g := fun s => s) (fun s _ => klS_nil s), List.map_id']
  rfl
 ·rfl
theorem stA_reg (σ0 : St N) (eff : Nat → Eff N) (er : Nat → List Nat) (L : List Nat) (t : Nat) : (stA σ0 eff er L).reg t = Slot.map (klL (L.flatMap er)) ((sq σ0 eff L).reg t) := by
 have hu : Slot.map (klL (L.flatMap er)) (.one .undef : Slot N) = .one .undef := by simp [Slot.map, klL]
 rw [stA_eq]
 unfold St.reg
 simp only [List.getD_eq_getElem?_getD, List.getElem?_map]
 cases (sq σ0 eff L).regs[t]? with
 | none => exact hu.symm
 | some s => rfl
theorem stA_own (σ0 : St N) (eff : Nat → Eff N) (er : Nat → List Nat) (L : List Nat) (id : Nat) : look (stA σ0 eff er L).own id = if id ∈ L.flatMap er then none else look (sq σ0 eff L).own id := by
 rw [stA_eq]
 exact look_delL _ _ _
theorem stA_regs (σ0 : St N) (eff : Nat → Eff N) (er : Nat → List Nat) (L : List Nat) : (stA σ0 eff er L).regs.length = σ0.regs.length := by
 rw [stA_eq, List.length_map, sq_regs]
structure ChkA (ops : List Oper) (σ0 : St N) (eff : Nat → Eff N) (er : Nat → List Nat) (m : Nat) : Prop where
 ok : EffsW ops σ0 eff m
 share : ShareOk ops eff m
 noId : ∀ i, i < m → storeAt ops i = true → ∀ id b, look (eff i).ad id = some b → NoId id σ0 ∧ ∀ j, j < m → noIdE id (eff j) = true
 blk0 : ∀ k, k < m → ∀ id ∈ er k, ∀ p ∈ σ0.own, noRefB id p.2 = true
 blk : ∀ k, k < m → ∀ id ∈ er k, ∀ i, i < m → ∀ p ∈ (eff i).ad, noRefB id p.2 = true
 slot : ∀ k, k < m → ∀ id ∈ er k, ∀ i, i < m → i ∈ clo ops ops.length k ∨ (noRefS id (eff i).s = true ∧ ∀ b, look (eff i).ad id ≠ some b)
 use : ∀ k, k < m → ∀ id ∈ er k, ∀ i, i < m → k ∈ clo ops ops.length i ∨ i = k ∨ i ∈ clo ops ops.length k ∨ (look (sq σ0 eff (clo ops ops.length i)).own id = none ∧ ∀ o, ops[i]? = some o → ∀ t ∈ usesG ops o, noRefS id ((sq σ0 eff (clo ops ops.length i)).reg t) = true)
theorem effA_map (effs : List (EffA N)) : effAt (effs.map (·.1)) = effA effs := by
 funext j
 unfold effAt effA
 rw [List.getD_eq_getElem?_getD, List.getD_eq_getElem?_getD, List.getElem?_map]
 cases effs[j]? <;> rfl
theorem chkA_of {Φ : FuncId → Option (Spec N)} {ops : List Oper} {σ0 : St N} {effs : List (EffA N)} (h : effsChkA τ Φ ops σ0 effs = true) : ChkA ops σ0 (effA effs) (erA effs) effs.length ∧ ∀ j, j < effs.length → storeAt ops j = false → coldA τ Φ ops σ0 effs j = true := by
 simp only [effsChkA, Bool.and_eq_true] at h
 obtain ⟨⟨⟨⟨⟨⟨h1, h2⟩, h3⟩, h4⟩, h5⟩, h6⟩, h7⟩ := h
 have h2 := nodupB_spec h2
 rw [effDsts_eq] at h1 h2
 have hget : ∀ {j}, j < effs.length → (effs.map (·.1))[j]? = some (effA effs j) := fun {j} hj => by
  rw [← effA_map]
  exact effAt_get (by simpa using hj)
 have meet : ∀ {e e' : Eff N} {id : Nat} {b b' : Blk N}, look e.ad id = some b → look e'.ad id = some b' → meets (idsE e) (idsE e') = false → False := fun hb hb' hm => meets_false hm _ (look_idsE hb') (look_idsE hb)
 have hsh : ShareOk ops (effA effs) effs.length := fun i j hi hj id b b' hb hb' => by
  have := allLt_spec (allLt_spec h4 i hi) j hj
  simp only [Bool.or_eq_true, Bool.not_eq_true', Bool.and_eq_true] at this
  rcases this with h | ⟨⟨h7, h8⟩, h9⟩
  ·exact (meet hb hb' h).elim
  ·exact ⟨h7, h8, List.contains_iff_mem.1 h9⟩
 have key2 : ∀ k, k < effs.length → ∀ id ∈ erA effs k, ∀ i, i < effs.length → _ := fun k hk id hid i hi => by
  have := List.all_eq_true.1 (allLt_spec h7 k hk) id hid
  simp only [Bool.and_eq_true] at this
  have := allLt_spec this.2 i hi
  simp only [besideA, Bool.and_eq_true] at this
  exact this
 refine ⟨⟨⟨fun j hj d hd => ?_, fun i j hi hj d h7 h8 => ?_, fun i j hi hj id b b' hb hb' => ?_, fun j hj hs id b hb => ?_⟩, hsh, fun i hi hs id b hb => ?_, fun k hk id hid => ?_, fun k hk id hid i hi => List.all_eq_true.1 (key2 k hk id hid i hi).1.1, fun k hk id hid i hi => ?_, fun k hk id hid i hi => ?_⟩, fun j hj hs => ?_⟩
 ·exact Nat.le_of_ble_eq_true (List.all_eq_true.1 h1 d (List.mem_flatMap.2 ⟨_, List.mem_of_getElem? (hget hj), by rw [hd]; simp⟩))
 ·exact nodup_get h2 i j _ _ (hget hi) (hget hj) d (by rw [h7]; simp) (by rw [h8]; simp)
 ·rcases Nat.lt_trichotomy i j with e | e | e
  ·exact .inr (.inl (hsh j i hj e id b' b hb' hb).2.2)
  ·exact .inl e
  ·exact .inr (.inr (hsh i j hi e id b b' hb hb').2.2)
 ·have := allLt_spec h3 j hj
  rw [hs, Bool.false_or] at this
  exact freshIds_spec this id (look_idsE hb)
 ·have := allLt_spec h6 i hi
  rw [hs, Bool.not_true, Bool.false_or] at this
  have := List.all_eq_true.1 this id (look_idsE hb)
  simp only [Bool.and_eq_true] at this
  refine ⟨noIdB_spec this.1, fun j hj => ?_⟩
  obtain ⟨e, he, he2⟩ := List.mem_map.1 (List.mem_of_getElem? (hget hj))
  rw [← he2]
  exact List.all_eq_true.1 this.2 e he
 ·have := List.all_eq_true.1 (allLt_spec h7 k hk) id hid
  simp only [Bool.and_eq_true] at this
  exact List.all_eq_true.1 this.1
 ·have := (key2 k hk id hid i hi).1.2
  simp only [Bool.or_eq_true, Bool.and_eq_true, Bool.not_eq_true'] at this
  rcases this with h | ⟨h, h'⟩
  ·exact .inl (List.contains_iff_mem.1 h)
  ·exact .inr ⟨h, fun b hb => contains_false h' (look_idsE hb)⟩
 ·have := (key2 k hk id hid i hi).2
  simp only [Bool.or_eq_true] at this
  rcases this with h | h | h | h
  ·exact .inl (List.contains_iff_mem.1 h)
  ·exact .inr (.inl (Nat.eq_of_beq_eq_true h))
  ·exact .inr (.inr (.inl (List.contains_iff_mem.1 h)))
  ·refine .inr (.inr (.inr ?_))
   split at h
   ·rename_i o ho hl
    refine ⟨hl, fun o' ho' t ht => ?_⟩
    cases ho.symm.trans ho'
    exact List.all_eq_true.1 h t ht
   ·cases h
 ·have := allLt_spec h5 j hj
  rw [hs, Bool.false_or] at this
  exact this
theorem mem_delL {β : Type} {p : Nat × β} : ∀ {H : List Nat} {l : List (Nat × β)}, p ∈ delL H l → p ∈ l
 | [], l, h => h
 | i :: H, l, h => mem_delL (go h)
where
 go {i : Nat} : ∀ {l : List (Nat × β)}, p ∈ del i l → p ∈ l
  | [], h => h
  | (k, v) :: r, h => by
   unfold del at h
   cases hk : (k == i) with
   | true => rw [hk, cond_true] at h; exact List.mem_cons_of_mem _ (go h)
   | false =>
    rw [hk, cond_false] at h
    rcases List.mem_cons.1 h with h | h
    ·rw [h]; exact List.mem_cons_self
    ·exact List.mem_cons_of_mem _ (go h)
section
variable {ops : List Oper} {m : Nat} {σ0 : St N} {eff : Nat → Eff N} {er : Nat → List Nat}
theorem mem_er {L : List Nat} {id : Nat} : id ∈ L.flatMap er ↔ ∃ k ∈ L, id ∈ er k := List.mem_flatMap
theorem diffA (hC : ChkA ops σ0 eff er m) {i : Nat} (him : i < m) {o : Oper} (ho : ops[i]? = some o) {seq : List Nat} (hB : Before ops m i seq) : ∀ k ∈ seq, ∀ id ∈ er k, k ∈ clo ops ops.length i ∨ (look (sq σ0 eff (clo ops ops.length i)).own id = none ∧ ∀ t ∈ usesG ops o, noRefS id ((sq σ0 eff (clo ops ops.length i)).reg t) = true) := by
 intro k hk id hid
 rcases hC.use k (hB.lt k hk) id hid i him with h | h | h | h
 ·exact .inl h
 ·subst h; exact absurd hk hB.nin
 ·exact absurd (hB.lin.closed k hk i h) hB.nin
 ·exact .inr ⟨h.1, h.2 o ho⟩
theorem agreeR (hm : m ≤ ops.length) (hD : DrawOk ops m) (hC : ChkA ops σ0 eff er m) (hdsts : ∀ j, j < m → ∃ o, ops[j]? = some o ∧ (eff j).dst = o.dst)
  {i : Nat} (him : i < m) {o : Oper} (ho : ops[i]? = some o) {seq : List Nat} (hB : Before ops m i seq) : ∀ t ∈ usesG ops o, (stA σ0 eff er seq).reg t = (stA σ0 eff er (clo ops ops.length i)).reg t := by
 intro t ht
 rw [stA_reg, stA_reg, regs_agree hm hD hC.ok hdsts him ho hB t ht]
 refine klS_same (fun id hid => ⟨fun h => ?_, fun h => ?_⟩)
 ·obtain ⟨k, hk, hki⟩ := mem_er.1 h
  rcases diffA hC him ho hB k hk id hki with h1 | h1
  ·exact mem_er.2 ⟨k, h1, hki⟩
  ·rw [h1.2 t ht] at hid
   cases hid
 ·obtain ⟨k, hk, hki⟩ := mem_er.1 h
  exact mem_er.2 ⟨k, hB.clo k hk, hki⟩
theorem ownA (hC : ChkA ops σ0 eff er m) {i : Nat} (him : i < m) {o : Oper} (ho : ops[i]? = some o) {seq : List Nat} (hB : Before ops m i seq) {id : Nat} {b : Blk N} (hb : look (stA σ0 eff er (clo ops ops.length i)).own id = some b)
  (hs : look (sq σ0 eff (clo ops ops.length i)).own id = some b → look (sq σ0 eff seq).own id = some b) : look (stA σ0 eff er seq).own id = some b := by
 rw [stA_own] at hb ⊢
 split at hb
 ·cases hb
 ·rename_i hn
  have hn2 : id ∉ seq.flatMap er := fun h => by
   obtain ⟨k, hk, hki⟩ := mem_er.1 h
   rcases diffA hC him ho hB k hk id hki with h1 | h1
   ·exact hn (mem_er.2 ⟨k, h1, hki⟩)
   ·rw [h1.1] at hb
    cases hb
  rw [if_neg hn2]
  exact hs hb
theorem agreeA (hm : m ≤ ops.length) (hD : DrawOk ops m) (hC : ChkA ops σ0 eff er m) (hdsts : ∀ j, j < m → ∃ o, ops[j]? = some o ∧ (eff j).dst = o.dst)
  {i : Nat} (him : i < m) {o : Oper} (ho : ops[i]? = some o) {H : List Nat} (hH : ∀ k, k < m → storeAt ops k = true → i ∉ clo ops ops.length k → ∀ id b, look (eff k).ad id = some b → id ∈ H)
  {seq : List Nat} (hB : Before ops m i seq) : AgreeG ops o (delS H (stA σ0 eff er (clo ops ops.length i))) (stA σ0 eff er seq) := by
 refine ⟨agreeR hm hD hC hdsts him ho hB, fun id b hb => ?_, by show _ = (stA σ0 eff er (clo ops ops.length i)).regs.length; rw [stA_regs, stA_regs]⟩
 have hb : look (delL H (stA σ0 eff er (clo ops ops.length i)).own) id = some b := hb
 rw [look_delL] at hb
 split at hb
 ·cases hb
 ·rename_i hn
  exact ownA hC him ho hB hb (own_agree hC.ok hH hC.share hB id b hn)
theorem freshA (hC : ChkA ops σ0 eff er m) {i : Nat} (him : i < m) (hsi : storeAt ops i = false) {seq : List Nat} (hB : Before ops m i seq) : ∀ p ∈ (eff i).ad, look (stA σ0 eff er seq).own p.1 = none := by
 intro p hp
 rw [stA_own]
 split
 ·rfl
 ·exact fresh_agree hC.ok him hsi hC.share hB p hp
theorem keepA (hC : ChkA ops σ0 eff er m) {i : Nat} (him : i < m) {seq : List Nat} (hB : Before ops m i seq) : (∀ id ∈ seq.flatMap er, noRefS id (eff i).s = true ∧ ∀ b, look (eff i).ad id ≠ some b) := by
 intro id hid
 obtain ⟨k, hk, hki⟩ := mem_er.1 hid
 rcases hC.slot k (hB.lt k hk) id hki i him with h | h
 ·exact absurd (hB.lin.closed k hk i h) hB.nin
 ·exact h
theorem nextA (hC : ChkA ops σ0 eff er m) {i : Nat} (him : i < m) (her : er i = []) {seq : List Nat} (hB : Before ops m i seq) : (∀ t, (stA σ0 eff er (i :: seq)).reg t = (applyE (stA σ0 eff er seq) (eff i)).reg t) ∧ ∀ id, look (stA σ0 eff er (i :: seq)).own id = look (applyE (stA σ0 eff er seq) (eff i)).own id := by
 have hkeep := keepA hC him hB
 have hfl : (i :: seq).flatMap er = seq.flatMap er := by rw [List.flatMap_cons, her, List.nil_append]
 have hd1 : ∀ d, (eff i).dst = some d → d < (stA σ0 eff er seq).regs.length := fun d hd => by rw [stA_regs]; exact hC.ok.dst i him d hd
 have hd2 : ∀ d, (eff i).dst = some d → d < (sq σ0 eff seq).regs.length := fun d hd => by rw [sq_regs]; exact hC.ok.dst i him d hd
 refine ⟨fun t => ?_, fun id => ?_⟩
 ·rw [applyE_reg hd1, stA_reg, stA_reg, hfl, sq, applyE_reg hd2]
  split
  ·rw [klS_same (H' := []) (fun id hid => ⟨fun h => absurd (hkeep id h).1 (by rw [hid]; simp), fun h => absurd h List.not_mem_nil⟩), klS_nil]
  ·rfl
 ·rw [applyE_own, stA_own, stA_own, hfl, sq, applyE_own]
  cases h : look (eff i).ad id with
  | none => rfl
  | some b => rw [if_neg (fun hm => (hkeep id hm).2 b h)]
theorem stepE (hm : m ≤ ops.length) (hD : DrawOk ops m) (hC : ChkA ops σ0 eff er m) (hdsts : ∀ j, j < m → ∃ o, ops[j]? = some o ∧ (eff j).dst = o.dst)
  {i : Nat} (him : i < m) (hsi : storeAt ops i = false) {o : Oper} (ho : ops[i]? = some o) (her : er i = []) {H : List Nat} (hop : HeadOp P ops i o (delS H (stA σ0 eff er (clo ops ops.length i))) (eff i))
  (hH : ∀ k, k < m → storeAt ops k = true → i ∉ clo ops ops.length k → ∀ id b, look (eff k).ad id = some b → id ∈ H) : StepOp P ops m (stA σ0 eff er) i := by
 intro seq hB io w0 a w K Q hrel hK
 refine hop.2 _ (agreeA hm hD hC hdsts him ho hH hB) (freshA hC him hsi hB) io w0 a w K Q hrel (fun a' w' hr => hK a' w' ?_)
 obtain ⟨E, hE⟩ := hr
 obtain ⟨n1, n2⟩ := nextA hC him her hB
 exact ⟨E, hE.same (by rw [stA_regs, applyE_regs, stA_regs]) n1 n2⟩
theorem bs_klL {H : List Nat} {r : RV N} {id : Nat} (h : id ∈ (klL H r).bs) : id ∈ r.bs := by
 unfold klL at h
 cases hb : meets H r.bs || meets H r.refs with
 | true => rw [hb] at h; cases h
 | false => rw [hb] at h; exact h
theorem stepStore (F : Fits P N τ) {Φ : FuncId → Option (Spec N)} (hΦ : ∀ f S, Φ f = some S → Good P (f % 1000000) S) (hm : m ≤ ops.length) (hD : DrawOk ops m) (hC : ChkA ops σ0 eff er m) (hdsts : ∀ j, j < m → ∃ o, ops[j]? = some o ∧ (eff j).dst = o.dst)
  {i : Nat} (him : i < m) (hsi : storeAt ops i = true) {o : Oper} (ho : ops[i]? = some o) (her : er i = []) (hd : (eff i).dst = none) (h : drawStore τ (stA σ0 eff er (clo ops ops.length i)) o (fun s ad => some (s, ad)) = some ((eff i).s, (eff i).ad)) : StepOp P ops m (stA σ0 eff er) i := by
 have hEop : ∀ id b, look (eff i).ad id = some b → ∀ j, j < m → j ≠ i → ∀ b2, look (eff j).ad id = some b2 → storeAt ops j = false ∧ j ∈ clo ops ops.length i := by
  intro id b hb j hj hji b2 hb2
  rcases Nat.lt_trichotomy j i with e | e | e
  ·exact (hC.share i j him e id b b2 hb hb2).2
  ·exact absurd e hji
  ·have := (hC.share j i hj e id b2 b hb2 hb).2.1
   rw [hsi] at this
   cases this
 refine step_store F hΦ ho h (fun seq hB => agreeR hm hD hC hdsts him ho hB) (fun id b hb seq hB b0 hb0 => ownA hC him ho hB hb0 (sq_same hC.ok him hEop hC.share hsi id b hb seq hB b0)) (fun id b hb seq hB => ?_) (fun seq hB => ?_)
 ·obtain ⟨n1, n2⟩ := hC.noId i him hsi id b hb
  have hn := noId_sq n1 n2 hB.lt
  rw [stA_eq]
  refine ⟨fun s hs => ?_, fun p hp => hn.own p (mem_delL hp)⟩
  obtain ⟨s0, hs0, rfl⟩ := List.mem_map.1 hs
  have := hn.regs s0 hs0
  cases s0 with
  | one r => exact fun h => this (bs_klL h)
  | tup l =>
   intro h
   obtain ⟨r, hr, hrb⟩ := List.mem_flatMap.1 h
   obtain ⟨r0, hr0, rfl⟩ := List.mem_map.1 hr
   exact this (List.mem_flatMap.2 ⟨r0, hr0, bs_klL hrb⟩)
 ·obtain ⟨n1, n2⟩ := nextA hC him her hB
  refine ⟨by rw [stA_regs, stA_regs], fun t => ?_, fun j => ?_⟩
  ·rw [n1]
   simp only [applyE, hd, St.put, St.reg]
  ·rw [n2, applyE_own]
   all_goals (cases look (eff i).ad j <;> rfl)
theorem mem_sq {p : Nat × Blk N} : ∀ {L : List Nat}, p ∈ (sq σ0 eff L).own → p ∈ σ0.own ∨ ∃ j ∈ L, p ∈ (eff j).ad
 | [], h => .inl h
 | j :: L, h => by
  have h : p ∈ insAll (eff j).ad (sq σ0 eff L).own := by
   unfold sq applyE St.put St.putS at h
   revert h
   cases (eff j).dst <;> exact fun h => h
  rcases mem_insAll h with h | h
  ·exact .inr ⟨j, List.mem_cons_self, h⟩
  ·rcases mem_sq h with h | ⟨k, hk, h⟩
   ·exact .inl h
   ·exact .inr ⟨k, List.mem_cons_of_mem _ hk, h⟩
theorem killB_id {id : Nat} {b : Blk N} (h : noRefB id b = true) : killB id b = b := by
 simp only [noRefB, Bool.and_eq_true, Bool.not_eq_true'] at h
 have h1 := contains_false h.1
 have h2 := contains_false h.2
 have e : ∀ l : List (RV N), (∀ r ∈ l, id ∉ r.bs ∧ id ∉ r.refs) → l.map (kill id) = l := fun l hl => by
  rw [List.map_congr_left (g := fun r => r) (fun r hr => by
   obtain ⟨h3, h4⟩ := hl r hr
   unfold kill
   rw [contains_no h3, contains_no h4]
   rfl)]
  simp
 cases b with
 | row e t xs b p => rfl
 | whole t x b => rfl
 | mapB kt vt es => rfl
 | cells l => simp only [killB, Blk.map, e l (fun r hr => ⟨fun h => h1 (List.mem_flatMap.2 ⟨r, hr, h⟩), fun h => h2 (List.mem_flatMap.2 ⟨r, hr, h⟩)⟩)]
 | vals n l => simp only [killB, Blk.map, e l (fun r hr => ⟨fun h => h1 (List.mem_flatMap.2 ⟨r, hr, h⟩), fun h => h2 (List.mem_flatMap.2 ⟨r, hr, h⟩)⟩)]
where
 contains_no {l : List Nat} {i : Nat} (h : i ∉ l) : l.contains i = false := by
  cases hc : l.contains i with
  | false => rfl
  | true => exact absurd (List.contains_iff_mem.1 hc) h
theorem appSrc_sub {own own' : List (Nat × Blk N)} (hs : Sub own own') {t t2 : TypeId} {e : Ty} {x : RV N} {y : List (e.den N.ρ) × List Nat} (h : appSrc τ own t t2 e x = some y) : appSrc τ own' t t2 e x = some y := by
 unfold appSrc at h ⊢
 cases ht : (t == t2) with
 | true => rw [ht] at h; exact toDen_sub hs h
 | false => rw [ht] at h; exact h
theorem stepApp (F : Fits P N τ) {Φ : FuncId → Option (Spec N)} (hΦ : ∀ f S, Φ f = some S → Good P (f % 1000000) S) (hm : m ≤ ops.length) (hD : DrawOk ops m) (hC : ChkA ops σ0 eff er m) (hdsts : ∀ j, j < m → ∃ o, ops[j]? = some o ∧ (eff j).dst = o.dst)
  {i : Nat} (him : i < m) {o : Oper} (hsi : storeAt ops i = false) (hH : ∀ k, k < m → storeAt ops k = true → i ∉ clo ops ops.length k → ∀ id b, look (eff k).ad id = some b → id ∈ ([] : List Nat)) (ho : ops[i]? = some o) (h : drawApp τ (stA σ0 eff er (clo ops ops.length i)) o (fun s ad H => some (s, ad, H)) = some ((eff i).s, (eff i).ad, er i)) : StepOp P ops m (stA σ0 eff er) i := by
 intro seq hB io w0 a w K Q hrel hK
 have hA : AgreeG ops o (stA σ0 eff er (clo ops ops.length i)) (stA σ0 eff er seq) := agreeA hm hD hC hdsts him ho hH hB
 have hf := freshA hC him hsi hB
 have hkeep := keepA hC him hB
 obtain ⟨o', ho', hdd⟩ := hdsts i him
 cases ho.symm.trans ho'
 have hAg : Agree o (stA σ0 eff er (clo ops ops.length i)) (stA σ0 eff er seq) := ⟨fun t ht => hA.regs t (List.mem_append.2 (.inr ht)), hA.sub⟩
 unfold drawApp at h
 split at h
 ·rename_i d c hg hdst hop
  split at h
  ·rename_i hcal
   split at h
   ·rename_i x y t t2 hargs htys
    split at h
    ·rename_i e el hτ
     split at h
     ·rename_i ys b hsrc
      split at h
      ·rename_i id hx
       split at h
       ·rename_i el' e' xs bs hlk
        obtain ⟨hc, h⟩ := bif_none h
        split at h
        ·rename_i xs' hxs
         split at h
         ·rename_i hlim
          simp only [Option.some.injEq, Prod.mk.injEq] at h
          obtain ⟨hs, had, her⟩ := h
          have hin : ∀ z, z = x ∨ z = y → z ∈ o.op.operands.toList := fun z hz => by
           rw [hop]
           simp only [Op.operands, Call.operands, hcal, Array.toList_append, hargs]
           rcases hz with rfl | rfl <;> simp
          have hx' := (hAg.ev (hin x (.inl rfl))).trans hx
          have hsrc' : appSrc τ (stA σ0 eff er seq).own t t2 e (ev (stA σ0 eff er seq) y) = some (ys, b) := by
           rw [hAg.ev (hin y (.inr rfl))]
           exact appSrc_sub hA.sub hsrc
          have hlk' := hA.sub _ _ hlk
          have hid : id ∈ er i := by rw [← her]; simp
          -- nothing looks into id
          have hno : ∀ p ∈ (stA σ0 eff er seq).own, noRefB id p.2 = true := by
           intro p hp
           rcases mem_sq (mem_delL (by rw [stA_eq] at hp; exact hp)) with hp | ⟨k, hk, hp⟩
           ·exact hC.blk0 i him id hid p hp
           ·exact hC.blk i him id hid k (hB.lt k hk) p hp
          have hnid : (1000 + d) ≠ id ∧ (1000 + d) ∉ seq.flatMap er := by
           refine ⟨fun e => ?_, fun hmem => ?_⟩
           ·have := hf (1000 + d, _) (by rw [← had]; exact List.mem_cons_self)
            rw [e, hlk'] at this
            cases this
           ·have := (hkeep _ hmem).2
            rw [← had] at this
            exact this (.row el e (xs' ++ ys) (addB bs b) false) (by simp [look])
          have hfr : look (del id (stA σ0 eff er seq).own) (1000 + d) = none := by
           rw [look_del, if_neg (Ne.symm hnid.1)]
           exact hf (1000 + d, _) (by rw [← had]; exact List.mem_cons_self)
          have hnb : noBs (stA σ0 eff er seq).own id = true := by
           refine List.all_eq_true.2 (fun p hp => ?_)
           have := hno p hp
           simp only [noRefB, Bool.and_eq_true] at this
           simp only [Bool.or_eq_true]
           right
           split
           ·rfl
           ·rfl
           ·exact this.1
          have hev : evOp τ Φ o (stA σ0 eff er seq) (fun σ => some σ) = some (({ regs := (stA σ0 eff er seq).regs.map (Slot.map (kill id)), own := ins (1000 + d) (.row el e (xs' ++ ys) (addB bs b) false) (del id (mapO (killB id) (stA σ0 eff er seq).own)) } : St N).put o.dst (.one (.own (1000 + d)))) := by
           unfold evOp
           rw [hop]
           simp only [hcal, hargs, htys, hdst, evAppend, hτ, hsrc', hx', hlk', hc, hnb, Bool.and_true, cond_true, hxs, hfr, hlim, if_true, fin2]
          obtain ⟨σ1, h1, h2⟩ := evOp_sound F hΦ hev
          cases h1
          unfold wpOp
          have hoi : (ops.toArray)[i]? = some o := by rw [List.getElem?_toArray]; exact ho
          simp only [hoi]
          rw [if_pos (by simp [Region.wanted, hg])]
          refine .inl (h2 io w0 a w K Q hrel (fun a' w' hr => hK a' w' ?_))
          obtain ⟨E', hE'⟩ := hr
          have hfl : (i :: seq).flatMap er = id :: seq.flatMap er := by rw [List.flatMap_cons, ← her]; rfl
          have hdi : (eff i).dst = some d := hdd.trans hdst
          have hd2 : ∀ d, (eff i).dst = some d → d < (sq σ0 eff seq).regs.length := fun d hd => by rw [sq_regs]; exact hC.ok.dst i him d hd
          refine ⟨E', hE'.same ?_ (fun t' => ?_) (fun j => ?_)⟩
          ·rw [stA_regs, hdst]
           simp only [St.put, St.putS, List.length_set, List.length_map]
           exact (stA_regs _ _ _ _).symm
          ·have hkreg : ∀ t, ({ regs := (stA σ0 eff er seq).regs.map (Slot.map (kill id)), own := ins (1000 + d) (.row el e (xs' ++ ys) (addB bs b) false) (del id (mapO (killB id) (stA σ0 eff er seq).own)) } : St N).reg t = Slot.map (kill id) ((stA σ0 eff er seq).reg t) := fun t => by
            have hu : Slot.map (kill id) (.one .undef : Slot N) = .one .undef := by simp [Slot.map, kill, RV.bs, RV.refs]
            unfold St.reg
            simp only [List.getD_eq_getElem?_getD, List.getElem?_map]
            cases (stA σ0 eff er seq).regs[t]? with
            | none => exact hu.symm
            | some s => rfl
           rw [hdst]
           show _ = (St.putS _ d _).reg t'
           rw [reg_putS (by simp only [List.length_map, stA_regs]; exact hC.ok.dst i him d hdi), stA_reg, hfl, sq, applyE_reg hd2, hdi, hkreg, stA_reg]
           by_cases ht : d = t'
           ·subst ht
            rw [if_pos rfl, if_pos rfl, ← hs]
            simp only [Slot.map, klL]
            rw [show meets (id :: seq.flatMap er) (RV.bs (.own (1000 + d) : RV N)) = false from rfl, show meets (id :: seq.flatMap er) (RV.refs (.own (1000 + d) : RV N)) = false from meets_not (fun j hj hm => by
             have hj : j = 1000 + d := by simpa [RV.refs] using hj
             subst hj
             rcases List.mem_cons.1 hm with hm | hm
             ·exact hnid.1 hm
             ·exact hnid.2 hm)]
            rfl
           ·rw [if_neg ht, if_neg (fun h => ht (Option.some.inj h)), klS_cons]
          ·rw [stA_own, hfl, sq, applyE_own, ← had, hdst]
           show _ = look (ins (1000 + d) _ (del id (mapO (killB id) (stA σ0 eff er seq).own))) j
           rw [look_ins, look_del, look_mapO, stA_own]
           simp only [look]
           by_cases hj : 1000 + d = j
           ·subst hj
            rw [if_pos rfl, if_neg (fun hm => (List.mem_cons.1 hm).elim hnid.1 hnid.2)]
            simp
           ·have hj2 : (1000 + d == j) = false := by simpa using hj
            rw [if_neg hj, hj2]
            simp only [cond_false]
            by_cases hji : id = j
            ·subst hji
             rw [if_pos rfl, if_pos List.mem_cons_self]
            ·rw [if_neg hji]
             by_cases hjm : j ∈ seq.flatMap er
             ·rw [if_pos hjm, if_pos (List.mem_cons_of_mem _ hjm)]; rfl
             ·rw [if_neg hjm, if_neg (fun hm => (List.mem_cons.1 hm).elim (fun e => hji e.symm) hjm)]
              cases hl : look (sq σ0 eff seq).own j with
              | none => rfl
              | some bj =>
               have hm : (j, bj) ∈ (stA σ0 eff er seq).own := look_mem (by rw [stA_own, if_neg hjm, hl])
               rw [Option.map_some, killB_id (hno _ hm)]
         ·cases h
        ·cases h
       ·cases h
      ·cases h
     ·cases h
    ·cases h
   ·cases h
  ·cases h
 ·cases h
end
def SeenA (P : Program) (τ : TypeId → Option TI) (Φ : FuncId → Option (Spec N)) (ops : List Oper) (i : Nat) (o : Oper) (σ : St N) (e : EffA N) : Prop :=
 e.1.dst = o.dst ∧ ((storeAt ops i = false ∧ e.2 = [] ∧ HeadOp P ops i o σ e.1 ∧ ParD τ Φ ops o σ e.1.s e.1.ad ∧ ∀ p ∈ e.1.ad, look σ.own p.1 = none) ∨ (storeAt ops i = true ∧ e.2 = [] ∧ drawStore τ σ o (fun s ad => some (s, ad)) = some (e.1.s, e.1.ad) ∧ e.1.dst = none) ∨
  (storeAt ops i = false ∧ isApp o = true ∧ drawApp τ σ o (fun s ad H => some (s, ad, H)) = some (e.1.s, e.1.ad, e.2)))
theorem drawApp_par {σ : St N} {o : Oper} {k : Slot N → List (Nat × Blk N) → List Nat → Option β} {r : β} (h : drawApp τ σ o k = some r) : ∃ s ad H, k s ad H = some r ∧ drawApp τ σ o (fun s ad H => some (s, ad, H)) = some (s, ad, H) := by
 unfold drawApp at h ⊢
 split at h
 ·split at h
  ·split at h
   ·split at h
    ·split at h
     ·split at h
      ·split at h
       ·obtain ⟨hc, h⟩ := bif_none h
        split at h
        ·split at h
         ·rename_i hlim
          refine ⟨_, _, _, h, ?_⟩
          simp only [*, cond_true, if_true]
         ·cases h
        ·cases h
       ·cases h
      ·cases h
     ·cases h
    ·cases h
   ·cases h
  ·cases h
 ·cases h
theorem stA_congr {σ0 : St N} {eff eff' : Nat → Eff N} {er er' : Nat → List Nat} {L : List Nat} (h : ∀ j ∈ L, eff j = eff' j) (h' : ∀ j ∈ L, er j = er' j) : stA σ0 eff er L = stA σ0 eff' er' L := by
 have e : ∀ {L : List Nat}, (∀ j ∈ L, er j = er' j) → L.flatMap er = L.flatMap er' := fun {L} h => by
  induction L with
  | nil => rfl
  | cons a L ih => rw [List.flatMap_cons, List.flatMap_cons, h a List.mem_cons_self, ih (fun j hj => h j (List.mem_cons_of_mem _ hj))]
 unfold stA
 rw [sq_congr h, e h']
theorem drawHeadA_sound (F : Fits P N τ) {Φ : FuncId → Option (Spec N)} (hΦ : ∀ f S, Φ f = some S → Good P (f % 1000000) S) {ops : List Oper} (hfwd : ∀ i, i < ops.length → ∀ k ∈ clo ops ops.length i, k < i) {σ0 : St N} {r : β} : ∀ (todo : List Oper) (effs : List (EffA N)) (k : List (EffA N) → Option β),
  (∀ j, todo[j]? = none ∨ todo[j]? = ops[effs.length + j]?) → drawHeadA τ Φ ops σ0 todo effs k = some r →
  (∀ i, i < effs.length → ∃ o, ops[i]? = some o ∧ SeenA P τ Φ ops i o (stA σ0 (effA effs) (erA effs) (clo ops ops.length i)) (effA effs i, erA effs i)) →
  ∃ all : List (EffA N), k all = some r ∧ all.length = effs.length + todo.length ∧ ∀ i, i < all.length → ∃ o, ops[i]? = some o ∧ SeenA P τ Φ ops i o (stA σ0 (effA all) (erA all) (clo ops ops.length i)) (effA all i, erA all i)
 | [], effs, k, ht, h, hH => ⟨effs, h, rfl, hH⟩
 | o :: rest, effs, k, ht, h, hH => by
  have ho : ops[effs.length]? = some o := by
   rcases ht 0 with h0 | h0
   ·simp at h0
   ·simpa using h0.symm
  have hl : effs.length < ops.length := (List.getElem?_eq_some_iff.1 ho).1
  have hsa : storeAt ops effs.length = isStoreO o := by simp [storeAt, ho]
  obtain ⟨e, h1, h3⟩ : ∃ e : EffA N, drawHeadA τ Φ ops σ0 rest (effs ++ [e]) k = some r ∧ SeenA P τ Φ ops effs.length o (stA σ0 (effA effs) (erA effs) (clo ops ops.length effs.length)) e := by
   unfold drawHeadA at h
   cases hs : isApp o with
   | true =>
    rw [hs, cond_true] at h
    obtain ⟨s, ad, H, h1, h2⟩ := drawApp_par h
    refine ⟨_, h1, rfl, .inr (.inr ⟨?_, hs, h2⟩)⟩
    rw [hsa]
    unfold isApp at hs
    unfold isStoreO
    split at hs
    ·rename_i hc; rw [hc]
    ·cases hs
   | false =>
    rw [hs, cond_false] at h
    cases hst : isStoreO o with
    | true =>
     rw [hst, cond_true] at h
     obtain ⟨s, ad, h1, h2⟩ := drawStore_par h
     have hdst : o.dst = none := by
      unfold drawStore at h2
      split at h2
      ·split at h2
       ·cases h2
       ·split at h2
        ·cases h2
        ·rename_i hdst
         exact hdst
      ·cases h2
     exact ⟨_, h1, hdst.symm, .inr (.inl ⟨by rw [hsa, hst], rfl, h2, rfl⟩)⟩
    | false =>
     rw [hst, cond_false] at h
     obtain ⟨s, ad, h1, h2, h3, h4⟩ := drawOne_sound F hΦ ho h
     rw [splitB_eq] at h1
     exact ⟨_, h1, rfl, .inl ⟨by rw [hsa, hst], rfl, h3, h4, h2⟩⟩
  have hold : ∀ j, j < effs.length → effA (effs ++ [e]) j = effA effs j ∧ erA (effs ++ [e]) j = erA effs j := fun j hj => by
   unfold effA erA
   rw [List.getD_eq_getElem?_getD, List.getD_eq_getElem?_getD, List.getElem?_append_left hj]
   exact ⟨rfl, rfl⟩
  have hnew : effA (effs ++ [e]) effs.length = e.1 ∧ erA (effs ++ [e]) effs.length = e.2 := by
   unfold effA erA
   rw [List.getD_eq_getElem?_getD, List.getElem?_append_right (Nat.le_refl _)]
   simp
  obtain ⟨all, a1, a2, a3⟩ := drawHeadA_sound F hΦ hfwd rest (effs ++ [e]) k (fun j => by
   have := ht (j + 1)
   simp only [List.getElem?_cons_succ] at this
   rcases this with h | h
   ·exact .inl h
   ·exact .inr (by rw [h]; congr 1; simp; omega)) h1 (fun i hi => by
   rw [List.length_append, List.length_singleton] at hi
   rcases Nat.lt_or_ge i effs.length with h' | h'
   ·obtain ⟨oi, o1, o2⟩ := hH i h'
    refine ⟨oi, o1, ?_⟩
    rw [(hold i h').1, (hold i h').2, stA_congr (fun j hj => (hold j (Nat.lt_trans (hfwd i (by omega) j hj) h')).1) (fun j hj => (hold j (Nat.lt_trans (hfwd i (by omega) j hj) h')).2)]
    exact o2
   ·have hi' : i = effs.length := by omega
    subst hi'
    refine ⟨o, ho, ?_⟩
    rw [hnew.1, hnew.2, stA_congr (fun j hj => (hold j (hfwd _ hl j hj)).1) (fun j hj => (hold j (hfwd _ hl j hj)).2)]
    exact h3)
  exact ⟨all, a1, by rw [a2]; simp; omega, a3⟩
theorem execDrawA_sound (F : Fits P N τ) {Φ : FuncId → Option (Spec N)} (hΦ : ∀ f S, Φ f = some S → Good P (f % 1000000) S) (hm : P.follows .mixedOrders = true) {ops : List Oper} {k : St N → Option β} {r : β} {io : Io} {w0 : World} {Q : Exit → Act → World → Prop}
  (hk : ∀ σ a w, k σ = some r → Rel io w0 σ a w → Q .normal a w) {σ : St N} (h : execDrawA τ Φ ops σ k = some r) {a : Act} {w : World} (hr : Rel io w0 σ a w) {id : Nat} : (Code.region id ops.toArray true).wp P Q a w := by
 unfold execDrawA at h
 obtain ⟨hst, h⟩ := bif_none h
 simp only [statOk, Bool.and_eq_true, Bool.or_eq_true] at hst
 obtain ⟨⟨⟨s1, s2⟩, s3⟩, s4⟩ := hst
 have hD := drawOk_of s1 s2
 have hm' := headLenA_le ops
 have hfwd : ∀ i, i < ops.length → ∀ k ∈ clo ops ops.length i, k < i := fun j hj => clo_sub (S := fun k => k < j) (fun k hk l hl => Nat.lt_trans (hD.fwd k (by omega) l hl) hk) _ j (hD.fwd j hj)
 obtain ⟨all, h1, h2, h3⟩ := drawHeadA_sound F hΦ hfwd (ops.take (headLenA ops)) [] _ (fun j => by
  rw [List.getElem?_take]
  split
  ·exact .inr (by simp)
  ·exact .inl rfl) h (fun i hi => by cases hi)
 have hlen : all.length = headLenA ops := by rw [h2]; simp; omega
 obtain ⟨hc, h1⟩ := bif_none h1
 obtain ⟨hC, hcold⟩ := chkA_of hc
 rw [hlen] at h3 hC hcold
 have hE := hC.ok
 have hdst0 : ∀ i, i < headLenA ops → ∃ o, ops[i]? = some o ∧ (effA all i).dst = o.dst := fun i hi => by
  obtain ⟨o, ho, hs⟩ := h3 i hi
  exact ⟨o, ho, hs.1⟩
 have hH : ∀ i, i < headLenA ops → StepOp P ops (headLenA ops) (stA σ (effA all) (erA all)) i := by
  intro i hi
  have hin : ∀ k, k < headLenA ops → storeAt ops k = true → i ∉ clo ops ops.length k → ∀ id b, look (effA all k).ad id = some b → id ∈ hotJ ops (all.map (·.1)) i := by
   intro k hk hs hn id b hb
   refine mem_gather (i := k) (by simp; omega) ?_
   have hc' : (clo ops ops.length k).contains i = false := by
    cases hh : (clo ops ops.length k).contains i with
    | false => rfl
    | true => exact absurd (List.contains_iff_mem.1 hh) hn
   rw [hs, hc', effA_map]
   exact look_idsE hb
  obtain ⟨o, ho, hod, ⟨hsi, he, hop⟩ | ⟨hsi, he, hs, hd⟩ | ⟨hsi, happ, hs⟩⟩ := h3 i hi
  ·have hdel : ∃ H : List Nat, HeadOp P ops i o (delS H (stA σ (effA all) (erA all) (clo ops ops.length i))) (effA all i) ∧ ∀ k, k < headLenA ops → storeAt ops k = true → i ∉ clo ops ops.length k → ∀ id b, look (effA all k).ad id = some b → id ∈ H := by
    have hcold := hcold i hi hsi
    refine ⟨hotJ ops (all.map (·.1)) i, ?_, hin⟩
    unfold coldA at hcold
    split at hcold
    ·rename_i hH0
     rw [hH0]
     exact hop.1
    ·generalize hotJ ops (all.map (·.1)) i = H at *
     rw [ho] at hcold
     simp only [Bool.and_eq_true] at hcold
     obtain ⟨_, hcold⟩ := hcold
     cases hdr : drawHead.drawOne τ Φ ops (delS H (stA σ (effA all) (erA all) (clo ops ops.length i))) o (fun _ ad => bif meets H (ad.map (·.1)) then none else some ()) with
     | none => rw [hdr] at hcold; cases hcold
     | some u => exact head_del F hΦ ho hop hdr
   obtain ⟨H, hop', hH⟩ := hdel
   exact stepE hm' hD hC hdst0 hi hsi ho he hop' hH
  ·exact stepStore F hΦ hm' hD hC hdst0 hi hsi ho he hd hs
  ·have hcold := hcold i hi hsi
   refine stepApp F hΦ hm' hD hC hdst0 hi hsi (fun k hk hks hn id b hb => ?_) ho hs
   have := hin k hk hks hn id b hb
   unfold coldA at hcold
   split at hcold
   ·rename_i hH0
    rw [hH0] at this
    exact this
   ·rw [ho] at hcold
    simp [happ] at hcold
 have hr' : Rel io w0 (stA σ (effA all) (erA all) []) a { w with drawn := w.drawn + 1 } := by
  obtain ⟨E, hE'⟩ := hr
  refine ⟨E, (hE'.ext (Ext.drawn w)).same (stA_regs _ _ _ _) (fun t => ?_) (fun id => ?_)⟩
  ·rw [stA_reg]; exact klS_nil _
  ·rw [stA_own]; rfl
 refine wp_region_any hm ?_
 have hsz : ops.toArray.size = headLenA ops + (ops.length - headLenA ops) := by simp; omega
 rw [hsz]
 refine wpAny_drawW (st := stA σ (effA all) (erA all)) hm' hD.fwd hH (fun hlt => ?_) ?_ (headLenA ops) _ [] a _ (by simp) ⟨⟨by simp; omega, fun j oj _ hl => (by rw [getD_replicate_false] at hl; cases hl), fun t _ ht => getD_in (by simp at ht ⊢; omega) (getD_replicate_false _ _)⟩, fun j hj => ?_, (fun j hj => by cases hj), .nil, List.nodup_nil, hr'⟩
 ·rcases s3 with s3 | s3
  ·have := Nat.eq_of_beq_eq_true s3
   omega
  ·exact s3
 ·intro listed seq a w hI hl
  have hall : ∀ j, j < headLenA ops → j ∈ seq := by
   intro j hj
   apply Classical.byContradiction
   intro hn
   have h6 : (j :: seq).Nodup := List.nodup_cons.2 ⟨hn, hI.nodup⟩
   have h7 := execDraw_sound.nodup_le (ops := ops) (m := headLenA ops) (headLenA ops) (j :: seq) h6 (fun x hx => by
    rcases List.mem_cons.1 hx with rfl | hx
    ·exact hj
    ·exact hI.lt x hx)
   simp only [List.length_cons] at h7
   omega
  have hmem : ∀ id, id ∈ (downTo (headLenA ops)).flatMap (erA all) ↔ id ∈ seq.flatMap (erA all) := fun id => by
   rw [mem_er, mem_er]
   exact ⟨fun ⟨k, hk, h⟩ => ⟨k, hall k (mem_downTo.1 hk), h⟩, fun ⟨k, hk, h⟩ => ⟨k, mem_downTo.2 (hI.lt k hk), h⟩⟩
  have hrel : Rel io w0 (stA σ (effA all) (erA all) (downTo (headLenA ops))) a w := by
   obtain ⟨E, hE'⟩ := hI.rel
   obtain ⟨d1, d2⟩ := sq_done hE hfwd hm' hC.share hI.lt hI.lin hall
   refine ⟨E, hE'.same (by rw [stA_regs, stA_regs]) (fun t => ?_) (fun id => ?_)⟩
   ·rw [stA_reg, stA_reg, klS_same (fun id _ => hmem id), d1]
   ·rw [stA_own, stA_own, d2]
    by_cases hid : id ∈ seq.flatMap (erA all)
    ·rw [if_pos hid, if_pos ((hmem id).2 hid)]
    ·rw [if_neg hid, if_neg (fun h => hid ((hmem id).1 h))]
  have hlst : listed = canon ops.length (headLenA ops) := by
   have hs1 : listed.size = ops.length := by have := hI.head.size; simpa using this
   apply Array.ext
   ·rw [hs1]; simp [canon]; omega
   ·intro j hj1 hj2
    have hj : j < ops.length := by omega
    have hg : listed.getD j false = listed[j] := by simp [hj1]
    have hmem := hI.mem j hj
    rw [hg] at hmem
    rcases Nat.lt_or_ge j (headLenA ops) with h' | h'
    ·rw [hmem.2 (hall j h')]
     simp [canon, List.getElem_append, h']
    ·have : listed[j] = false := by
      cases hv : listed[j] with
      | false => rfl
      | true =>
       have := hI.lt j (hmem.1 hv)
       omega
     rw [this]
     simp only [canon, List.getElem_toArray, List.getElem_append, List.length_replicate]
     rw [dif_neg (by omega)]
     simp
  have hlst2 := execOps_sound (ops := ops) (Q := Q) F hΦ hk (ops.drop (headLenA ops)) _ h1 a w hrel
  have := wpAny_of_seq (P := P) (md := .any) (ops := ops.toArray) (Q' := Q) (ops.drop (headLenA ops)) (headLenA ops) listed a w (fun j => by simp) (by rw [hlst, List.length_drop]; exact s4) hlst2
  rw [List.length_drop] at this
  exact this
 ·rw [getD_replicate_false]
  simp
theorem execDrawY_sound (F : Fits P N τ) {Φ : FuncId → Option (Spec N)} (hΦ : ∀ f S, Φ f = some S → Good P (f % 1000000) S) (hm : P.follows .mixedOrders = true) {ops : List Oper} {k : St N → Option β} {r : β} {io : Io} {w0 : World} {Q : Exit → Act → World → Prop}
  (hk : ∀ σ a w, k σ = some r → Rel io w0 σ a w → Q .normal a w) {σ : St N} (h : execDrawY τ Φ ops σ k = some r) {a : Act} {w : World} (hr : Rel io w0 σ a w) {id : Nat} : (Code.region id ops.toArray true).wp P Q a w := by
 unfold execDrawY at h
 cases ha : ops.any isApp && !(statOk ops (headLenT ops) || statOk ops (headLen ops)) with
 | true => rw [ha] at h; exact execDrawA_sound F hΦ hm hk h hr
 | false => rw [ha] at h; exact execDrawX_sound F hΦ hm hk h hr
end Go.Eng

set_option linter.unusedVariables false
set_option linter.unusedSimpArgs false
namespace Go.Eng
variable {N : Names} {P : Program} {τ : TypeId → Option TI} {β : Type}
structure Inl (N : Names) where
 run : {β : Type} → List Nat → St N → List (RV N) → (List (RV N) → St N → Option β) → Option β
def noInl : FuncId → Option (Inl N) := fun _ => none
def ListRel (w : World) (own : List (Nat × Blk N)) (E : Env) (rs : List (RV N)) (us : List Value) : Prop := us.length = rs.length ∧ ∀ (i : Nat) r v, rs[i]? = some r → us[i]? = some v → RVRel w own E r v
structure InlOk (P : Program) (f : FuncId) (I : Inl N) : Prop where
 enter : ∀ w args, (callFunc f args).run P w = .ok (.enter f args) w
 calls : ∀ {β : Type} (σ : St N) (rs : List (RV N)) (k : List (RV N) → St N → Option β) (r : β) (io : Io) (w0 : World) (E : Env) (a : Act) (w : World) (vals : List Value), I.run io.ids σ rs k = some r → RelE io w0 σ E a w → ListRel w σ.own E rs vals →
  Calls P f vals.toArray w fun e w' => ∃ us E' rs' σ', e = .returned (packV us) ∧ k rs' σ' = some r ∧ RelE io w0 σ' E' a w' ∧ ListRel w' σ'.own E' rs' us
def inlAt (I : FuncId → Option (Inl N)) (σ : St N) (o : Oper) : Option (Inl N × List Operand) := match o.op with
 | .call c => match c.callee with
  | .value f => match ev σ f with
   | .fn fid [] => (I fid).map fun J => (J, c.args.toList)
   | _ => none
  | _ => none
 | _ => none
theorem inlAt_spec {I : FuncId → Option (Inl N)} {σ : St N} {o : Oper} {J : Inl N} {os : List Operand} (h : inlAt I σ o = some (J, os)) : ∃ c f fid, o.op = .call c ∧ c.callee = .value f ∧ ev σ f = .fn fid [] ∧ I fid = some J ∧ os = c.args.toList := by
 unfold inlAt at h
 split at h
 ·rename_i c hc
  split at h
  ·rename_i f hf
   split at h
   ·rename_i fid he
    obtain ⟨J', hJ, e⟩ := Option.map_eq_some_iff.1 h
    cases e
    exact ⟨c, f, fid, hc, hf, he, hJ, rfl⟩
   ·cases h
  ·cases h
 ·cases h
def evOpI (τ : TypeId → Option TI) (Φ : FuncId → Option (Spec N)) (I : FuncId → Option (Inl N)) (pins : List Nat) (o : Oper) (σ : St N) (k : St N → Option β) : Option β :=
 match inlAt I σ o with
 | some (J, os) => J.run pins σ (os.map (ev σ)) fun rs σ' => k (σ'.put o.dst (packS rs))
 | none => evOp τ Φ o σ k
theorem evOpI_sound (F : Fits P N τ) {Φ : FuncId → Option (Spec N)} (hΦ : ∀ f S, Φ f = some S → Good P (f % 1000000) S) {I : FuncId → Option (Inl N)} (hI : ∀ f J, I f = some J → InlOk P f J) {io : Io} {pins : List Nat} (hp : io.ids = pins) {o : Oper} {σ : St N} {k : St N → Option β} {r : β}
  (h : evOpI τ Φ I pins o σ k = some r) {w0 w : World} {a : Act} {K : Act → World → Prop} {Q : Exit → Act → World → Prop} (hr : Rel io w0 σ a w) (hk : ∀ σ' a' w', k σ' = some r → Rel io w0 σ' a' w' → K a' w') : o.wp P a w K Q := by
 unfold evOpI at h
 split at h
 ·rename_i J os hJ
  obtain ⟨c, f, fid, e1, e2, e3, e4, rfl⟩ := inlAt_spec hJ
  have hJ := hI fid J e4
  obtain ⟨E, hE⟩ := hr
  subst hp
  have hfv := hE.ev f
  rw [e3] at hfv
  have hrel : ListRel w σ.own E (c.args.toList.map (ev σ)) (c.args.toList.map a.eval) := by
   refine ⟨by simp, fun i r0 v hi hv => ?_⟩
   rw [List.getElem?_map] at hi hv
   obtain ⟨x, hx, rfl⟩ := Option.map_eq_some_iff.1 hi
   obtain ⟨y, hy, rfl⟩ := Option.map_eq_some_iff.1 hv
   rw [hx] at hy
   cases hy
   exact hE.ev x
  have hc := hJ.calls σ _ _ r io w0 E a w _ h hE hrel
  have hargs : (c.args.toList.map a.eval).toArray = c.args.map a.eval := by
   generalize c.args = ar
   obtain ⟨l⟩ := ar
   simp
  rw [hargs] at hc
  have he : (execOp a.eval o).run P w = .ok (.enter fid (c.args.map a.eval)) w := by
   unfold execOp
   have hv : a.eval f = .func (.func fid) #[] #[] := hfv.1
   simp only [e1, resolve, e2, hv, Deferred.ofValue, Array.empty_append, Array.append_empty, Sem.run_bind, Sem.run_pure, Result.andThen_ok, invoke]
   exact hJ.enter w _
  unfold Oper.wp
  rw [he]
  simp only [Oper.upon]
  refine hc.mono ?_
  rintro e w' ⟨us, E', rs', σ', rfl, k1, k2, k3⟩
  exact hk _ _ _ k1 ⟨E', k2.put o.dst (packRel k3.1 k3.2)⟩
 ·obtain ⟨σ', h1, h2⟩ := evOp_sound F hΦ h
  exact h2 io w0 a w K Q hr (fun a' w' hr' => hk σ' a' w' h1 hr')
end Go.Eng

set_option linter.unusedVariables false
set_option linter.unusedSimpArgs false
namespace Go.Eng
variable {N : Names} {P : Program} {τ : TypeId → Option TI} {β : Type}
abbrev PV := TypeId × Int
def thrown (p : PV) : List PanicEntry := [{ v := .iface p.1 (.agg #[.int .i64 p.2]), recovered := false }]
def onE {α γ : Type} (e : Except PV α) (f : PV → γ) (g : α → γ) : γ := match e with
 | .error p => f p
 | .ok r => g r
def okOf {α : Type} : Except PV α → Option α
 | .ok r => some r
 | .error _ => none
structure PSpec (N : Names) where
 ps : List PK
 rs : List RK
 f : HIn N.ρ ps → Option (Except PV (HRes N.ρ rs × HOut N.ρ ps))
def PSpec.S (T : PSpec N) : Spec N := ⟨T.ps, T.rs, HRes N.ρ T.rs × HOut N.ρ T.ps, fun x => (T.f x).bind okOf, fun r => r, 0⟩
structure GoodP (P : Program) (f : FuncId) (T : PSpec N) : Prop where
 good : Good P f T.S
 throws : ∀ (w : World) (ok : Nat → Prop) (x : HIn N.ρ T.ps) (vs : List Value) (p : PV), (∀ b, ok b → b < w.heap.size) → InRel w ok vs T.ps x vs [] → T.f x = some (.error p) →
  Calls P f vs.toArray w fun e w' => e = .panicked (thrown p) ∧ Ext w w'
def noThr : FuncId → Option (PSpec N) := fun _ => none
def thrAt (T : FuncId → Option (PSpec N)) (σ : St N) (o : Oper) : Option (PSpec N × List Operand) := match o.op with
 | .call c => match c.callee with
  | .value f => match ev σ f with
   | .fn fid [] => (T fid).map fun S => (S, c.args.toList)
   | _ => none
  | _ => none
 | _ => none
theorem thrAt_spec {T : FuncId → Option (PSpec N)} {σ : St N} {o : Oper} {S : PSpec N} {os : List Operand} (h : thrAt T σ o = some (S, os)) : ∃ c f fid, o.op = .call c ∧ c.callee = .value f ∧ ev σ f = .fn fid [] ∧ T fid = some S ∧ os = c.args.toList := by
 unfold thrAt at h
 split at h
 ·rename_i c hc
  split at h
  ·rename_i f hf
   split at h
   ·rename_i fid he
    obtain ⟨J', hJ, e⟩ := Option.map_eq_some_iff.1 h
    cases e
    exact ⟨c, f, fid, hc, hf, he, hJ, rfl⟩
   ·cases h
  ·cases h
 ·cases h
def evThr (S : PSpec N) (σ : St N) (os : List Operand) (dst : Option Nat) (pan : PV → St N → Option β) (k : Slot N → St N → Option β) : Option β :=
 bif Nat.beq S.ps.length os.length then match callIn σ.own (ev σ) os S.ps os with
  | some (x, B, [], []) => bif noBsD σ.own [] && freshIds σ.own (resIds (dst.getD 0) S.rs 0) && nodupB (resIds (dst.getD 0) S.rs 0) then
    (S.f x).bind fun e => onE e (fun p => pan p σ) fun r => k (packS (resSlots B (dst.getD 0) S.rs 0 r.1)) (havR [] [] σ (callNew σ.own (ev σ) B S.ps os r.2 ++ resNew B (dst.getD 0) S.rs 0 r.1))
   else none
  | _ => none
 else none
theorem thr_enter {f : FuncId} (he : ∀ w args, (callFunc f args).run P w = .ok (.enter f args) w) {o : Oper} {c : Call} (ho : o.op = .call c) {f' : Operand} (hc : c.callee = .value f') {a : Act} {w : World} (hf : a.eval f' = .func (.func f) #[] #[])
  {K : Act → World → Prop} {Q : Exit → Act → World → Prop} (h : Calls P f (c.args.toList.map a.eval).toArray w fun e w' => (∃ v, e = .returned v ∧ K (a.put o.dst v) w') ∨ ∃ p, e = .panicked p ∧ Q (.panic p) a w') : o.wp P a w K Q := by
 have hargs : (c.args.toList.map a.eval).toArray = c.args.map a.eval := by
  generalize c.args = ar
  obtain ⟨l⟩ := ar
  simp
 rw [hargs] at h
 have he : (execOp a.eval o).run P w = .ok (.enter f (c.args.map a.eval)) w := by
  unfold execOp
  simp only [ho, resolve, hc, hf, Deferred.ofValue, Array.empty_append, Array.append_empty, Sem.run_bind, Sem.run_pure, Result.andThen_ok, invoke]
  exact he w _
 unfold Oper.wp
 rw [he]
 simp only [Oper.upon]
 refine h.mono ?_
 rintro e w' (⟨v, rfl, hv⟩ | ⟨p, rfl, hv⟩)
 ·exact hv
 ·exact hv
theorem evThr_sound {S : PSpec N} {f : FuncId} (hg : GoodP P f S) {σ : St N} {o : Oper} {c : Call} (ho : o.op = .call c) {f' : Operand} (hc : c.callee = .value f') (hfn : ev σ f' = .fn f []) {pan : PV → St N → Option β} {k : Slot N → St N → Option β} {r : β}
  (h : evThr S σ c.args.toList o.dst pan k = some r) {io : Io} {w0 w : World} {a : Act} {K : Act → World → Prop} {Q : Exit → Act → World → Prop} (hr : Rel io w0 σ a w)
  (hk : ∀ s σ' a' w', k s σ' = some r → Rel io w0 (σ'.put o.dst s) a' w' → K a' w') (hp : ∀ p σ' a' w', pan p σ' = some r → Rel io w0 σ' a' w' → Q (.panic (thrown p)) a' w') : o.wp P a w K Q := by
 obtain ⟨E, hr⟩ := hr
 unfold evThr at h
 obtain ⟨hlen, h⟩ := bif_none h
 have hlen := Nat.eq_of_beq_eq_true hlen
 split at h
 ·rename_i x B hci
  obtain ⟨hcond, h⟩ := bif_none h
  obtain ⟨y, hy, hk'⟩ := Option.bind_eq_some_iff.1 h
  have hfv := hr.ev f'
  rw [hfn] at hfv
  refine thr_enter hg.good.enter ho hc hfv.1 ?_
  have hρ : ∀ x ∈ c.args.toList, RVRel w σ.own E (ev σ x) (a.eval x) := fun x _ => hr.ev x
  cases y with
  | ok r0 =>
   have hev : evCall S.S σ (ev σ) c.args.toList o.dst k = some r := by
    unfold evCall
    rw [show callIn σ.own (ev σ) c.args.toList S.S.ps c.args.toList = some (x, B, [], []) from hci]
    simp only [Bool.and_eq_true] at hcond
    have hf0 : S.S.f x = some r0 := by
     show (S.f x).bind okOf = some r0
     rw [hy]
     rfl
    show (bif nodupB [] && !meets [] B && noBsD σ.own [] && freshIds σ.own (resIds (o.dst.getD 0) S.rs 0) && nodupB (resIds (o.dst.getD 0) S.rs 0) then _ else _) = _
    have hm : meets [] B = false := by
     unfold meets
     rw [List.any_eq_false]
     intro i hi
     simp
    rw [hm, hcond.1.1, hcond.1.2, hcond.2]
    show (S.S.f x).bind _ = _
    rw [hf0]
    exact hk'
   obtain ⟨s, σ', h1, h2, h3⟩ := evCall_sound hg.good hev
   have := h3 io w0 E a w a.eval hr hρ
   have hl : (c.args.toList.map a.eval).take (S.S.ps.length - S.S.gh) = c.args.toList.map a.eval := List.take_of_length_le (by
    rw [List.length_map]
    show c.args.toList.length ≤ S.ps.length - 0
    omega)
   rw [hl] at this
   refine this.mono ?_
   rintro e w' ⟨v, E', rfl, k1, k2⟩
   exact .inl ⟨v, rfl, hk s σ' _ _ h1 ⟨E', k1.put o.dst k2⟩⟩
  | error p =>
   obtain ⟨c1, _, _⟩ := callIn_rel hr (B0 := B) hρ S.ps c.args.toList hρ x B [] [] hci (fun _ h => h)
   have hcall := hg.throws w (okb w.heap.size σ.own E B) x _ p (fun b hb => hb.1.1) c1 hy
   refine hcall.mono ?_
   rintro e w' ⟨rfl, hx⟩
   exact .inr ⟨_, rfl, hp p σ _ _ hk' ⟨E, hr.ext hx⟩⟩
 ·cases h
def evOpP (τ : TypeId → Option TI) (Φ : FuncId → Option (Spec N)) (I : FuncId → Option (Inl N)) (T : FuncId → Option (PSpec N)) (pins : List Nat) (pan : PV → St N → Option β) (o : Oper) (σ : St N) (k : St N → Option β) : Option β :=
 match thrAt T σ o with
 | some (S, os) => evThr S σ os o.dst pan fun s σ' => k (σ'.put o.dst s)
 | none => evOpI τ Φ I pins o σ k
theorem evOpP_sound (F : Fits P N τ) {Φ : FuncId → Option (Spec N)} (hΦ : ∀ f S, Φ f = some S → Good P (f % 1000000) S) {I : FuncId → Option (Inl N)} (hI : ∀ f J, I f = some J → InlOk P f J) {T : FuncId → Option (PSpec N)} (hT : ∀ f S, T f = some S → GoodP P f S) {io : Io} {pins : List Nat} (hp : io.ids = pins) {pan : PV → St N → Option β} {o : Oper} {σ : St N} {k : St N → Option β} {r : β}
  (h : evOpP τ Φ I T pins pan o σ k = some r) {w0 w : World} {a : Act} {K : Act → World → Prop} {Q : Exit → Act → World → Prop} (hr : Rel io w0 σ a w) (hk : ∀ σ' a' w', k σ' = some r → Rel io w0 σ' a' w' → K a' w')
  (hpan : ∀ p σ' a' w', pan p σ' = some r → Rel io w0 σ' a' w' → Q (.panic (thrown p)) a' w') : o.wp P a w K Q := by
 unfold evOpP at h
 split at h
 ·rename_i S os hS
  obtain ⟨c, f, fid, e1, e2, e3, e4, rfl⟩ := thrAt_spec hS
  exact evThr_sound (hT fid S e4) e1 e2 e3 h hr (fun s σ' a' w' h1 hr' => hk _ a' w' h1 hr') hpan
 ·exact evOpI_sound F hΦ hI hp h hr hk
def execOpsP (τ : TypeId → Option TI) (Φ : FuncId → Option (Spec N)) (I : FuncId → Option (Inl N)) (T : FuncId → Option (PSpec N)) (pins : List Nat) (pan : PV → St N → Option β) (ops : List Oper) : List Oper → St N → (St N → Option β) → Option β
 | [], σ, k => k σ
 | o :: rest, σ, k => match o.guard with
  | none => evOpP τ Φ I T pins pan o σ fun σ' => execOpsP τ Φ I T pins pan ops rest σ' k
  | some (g, want) => match guardReg ops g with
   | none => execOpsP τ Φ I T pins pan ops rest (σ.put o.dst (.tup [])) k
   | some d => match σ.reg d with
    | .one (.bool b) =>
     bif b then
      (bif want then evOpP τ Φ I T pins pan o (σ.putS d (.one (.bool true))) fun σ' => execOpsP τ Φ I T pins pan ops rest σ' k
      else execOpsP τ Φ I T pins pan ops rest ((σ.putS d (.one (.bool true))).put o.dst (.tup [])) k)
     else
      (bif want then execOpsP τ Φ I T pins pan ops rest ((σ.putS d (.one (.bool false))).put o.dst (.tup [])) k
      else evOpP τ Φ I T pins pan o (σ.putS d (.one (.bool false))) fun σ' => execOpsP τ Φ I T pins pan ops rest σ' k)
    | .tup [] => execOpsP τ Φ I T pins pan ops rest (σ.put o.dst (.tup [])) k
    | _ => none
theorem execOpsP_sound (F : Fits P N τ) {Φ : FuncId → Option (Spec N)} (hΦ : ∀ f S, Φ f = some S → Good P (f % 1000000) S) {I : FuncId → Option (Inl N)} (hI : ∀ f J, I f = some J → InlOk P f J) {T : FuncId → Option (PSpec N)} (hT : ∀ f S, T f = some S → GoodP P f S) {pan : PV → St N → Option β} {ops : List Oper} {k : St N → Option β} {r : β} {io : Io} {pins : List Nat} (hp : io.ids = pins) {w0 : World} {Q : Exit → Act → World → Prop}
  (hk : ∀ σ a w, k σ = some r → Rel io w0 σ a w → Q .normal a w) (hpan : ∀ p σ a w, pan p σ = some r → Rel io w0 σ a w → Q (.panic (thrown p)) a w) : ∀ (l : List Oper) (σ : St N), execOpsP τ Φ I T pins pan ops l σ k = some r → ∀ a w, Rel io w0 σ a w → wpList P ops.toArray Q l a w
 | [], σ, h, a, w, hr => hk σ a w h hr
 | o :: rest, σ, h, a, w, hr => by
  have ih := execOpsP_sound F hΦ hI hT (ops := ops) hp hk hpan rest
  have hstep : ∀ σ0, Rel io w0 σ0 a w → (evOpP τ Φ I T pins pan o σ0 fun σ' => execOpsP τ Φ I T pins pan ops rest σ' k) = some r → o.wp P a w (wpList P ops.toArray Q rest) Q := by
   intro σ0 hr0 h0
   exact evOpP_sound F hΦ hI hT hp h0 hr0 (fun σ' a' w' h1 hr' => ih σ' h1 a' w' hr') hpan
  simp only [execOpsP] at h
  simp only [wpList]
  split at h
  ·rename_i hg
   rw [if_pos (by simp [Region.wanted, hg])]
   exact .inl (hstep σ hr h)
  ·rename_i g want hg
   have hW : Region.wanted o (yielded ops.toArray a.tmps) = (yielded ops.toArray a.tmps g == some want) := by simp [Region.wanted, hg]
   have hskip : ∀ σ0, Rel io w0 σ0 a w → Region.wanted o (yielded ops.toArray a.tmps) = false → execOpsP τ Φ I T pins pan ops rest (σ0.put o.dst (.tup [])) k = some r →
     (if Region.wanted o (yielded ops.toArray a.tmps) = true then o.wp P a w (wpList P ops.toArray Q rest) Q ∨ (o.asks P a w ∧ LetsOut Q) else wpList P ops.toArray Q rest (a.put o.dst undef) w) := by
    intro σ0 hr0 hw0 h0
    rw [hw0, if_neg (by simp)]
    exact ih _ h0 _ _ (hr0.skip o.dst)
   have hy : yielded ops.toArray a.tmps g = match (guardReg ops g).bind (a.tmps[·]?) with
     | some (.bool b) => some b
     | _ => none := by
    unfold yielded
    rw [guardReg_toArray]
    rfl
   split at h
   ·rename_i hgr
    refine hskip σ hr ?_ h
    rw [hW, hy, hgr]
    rfl
   ·rename_i d hgr
    split at h
    ·rename_i b hb
     obtain ⟨E, hrE⟩ := hr
     obtain ⟨hv, hlt⟩ := reg_slot hrE hb (by simp)
     have hv : a.tmps.getD d undef = .bool b := hv
     have hyb : yielded ops.toArray a.tmps g = some b := by
      rw [hy, hgr]
      simp only [Option.bind_some]
      rw [Array.getD_eq_getD_getElem?, Array.getElem?_eq_getElem hlt] at hv
      rw [Array.getElem?_eq_getElem hlt]
      simp only [Option.getD_some] at hv
      rw [hv]
     have hre : Rel io w0 (σ.putS d (.one (.bool b))) a w := Rel.reput ⟨E, hrE⟩ (fun E' hE' => hv)
     rw [hyb] at hW
     cases b with
     | true =>
      simp only [cond_true] at h
      cases want with
      | true =>
       rw [hW]
       exact .inl (hstep _ hre h)
      | false => exact hskip _ hre (by rw [hW]; rfl) h
     | false =>
      simp only [cond_false] at h
      cases want with
      | true => exact hskip _ hre (by rw [hW]; rfl) h
      | false =>
       rw [hW]
       exact .inl (hstep _ hre h)
    ·rename_i hb
     obtain ⟨E, hrE⟩ := hr
     obtain ⟨⟨vs, hv, hl, _⟩, hlt⟩ := reg_slot hrE hb (by simp)
     refine hskip σ ⟨E, hrE⟩ ?_ h
     rw [hW, hy, hgr]
     simp only [Option.bind_some]
     rw [Array.getD_eq_getD_getElem?, Array.getElem?_eq_getElem hlt] at hv
     rw [Array.getElem?_eq_getElem hlt]
     simp only [Option.getD_some] at hv
     rw [hv]
     rfl
    ·cases h
end Go.Eng

set_option linter.unusedVariables false
set_option linter.unusedSimpArgs false
namespace Go.Eng
variable {N : Names} {P : Program} {β : Type}
structure Ctx (N : Names) where
 τ : TypeId → Option TI
 Φ : FuncId → Option (Spec N)
 K : Nat → Option (List Nat)
 pins : List Nat
 gh : Nat
 inl : FuncId → Option (Inl N)
 thr : FuncId → Option (PSpec N)
structure Conts (N : Names) (β : Type) where
 norm : St N → Option β
 exit : Nat → St N → Option β
 ret : St N → Option β
 pan : PV → St N → Option β
def startId : Code → Option Nat
 | .region id _ _ => some id
 | .seq a _ => startId a
 | .block _ c => startId c
 | .scope c => startId c
 | _ => none
def Ctx.cutOf (X : Ctx N) (c : Code) : Option (Nat × List Nat) := match startId c with
 | some id => match X.K id with
  | some keep => some (id, keep)
  | none => none
 | none => none
variable (X : Ctx N) (g : Nat → St N → Option β)
def Ctx.cutK (c : Code) (k : St N → Option β) : St N → Option β := match X.cutOf c with
 | some (id, keep) => fun σ => g id (Eng.norm X.pins keep σ)
 | none => k
def exec : Code → Conts N β → St N → Option β
 | .skip, C, σ => C.norm σ
 | .label _, C, σ => C.norm σ
 | .region _ ops false, C, σ => execOpsP X.τ X.Φ X.inl X.thr X.pins C.pan ops.toList ops.toList σ C.norm
 | .region _ ops true, C, σ => execDrawY X.τ X.Φ ops.toList σ C.norm
 | .seq a b, C, σ => exec a { C with norm := X.cutK g b (exec b C) } σ
 | .cond c t e, C, σ => match ev σ c with
  | .bool b => bif b then exec t C σ else exec e C σ
  | _ => none
 | .block i c, C, σ => exec c { C with exit := fun j σ => bif j == i then C.norm σ else C.exit j σ } σ
 | .loop c, C, σ => X.cutK g c (fun _ => none) σ
 | .exit i, C, σ => C.exit i σ
 | .ret, C, σ => C.ret σ
 | .scope c, C, σ => exec c C σ
 | _, _, _ => none
def has (id : Nat) : Code → Bool
 | .seq a b => has id a || (startId b == some id || has id b)
 | .cond _ t e => has id t || has id e
 | .block _ c => has id c
 | .loop c => startId c == some id || has id c
 | .scope c => has id c
 | _ => false
def occ (X : Ctx N) : Code → List Nat
 | .seq a b => occ X a ++ (((X.cutOf b).map (·.1)).toList ++ occ X b)
 | .cond _ t e => occ X t ++ occ X e
 | .block _ c => occ X c
 | .loop c => ((X.cutOf c).map (·.1)).toList ++ occ X c
 | .scope c => occ X c
 | _ => []
def find (id : Nat) : Code → Conts N β → Option (St N → Option β)
 | .seq a b, C => match find id a { C with norm := X.cutK g b (exec X g b C) } with
  | some k => some k
  | none => bif startId b == some id then some (exec X g b C) else find id b C
 | .cond _ t e, C => match find id t C with
  | some k => some k
  | none => find id e C
 | .block i c, C => find id c { C with exit := fun j σ => bif j == i then C.norm σ else C.exit j σ }
 | .loop c, C => bif startId c == some id then some (exec X g c { C with norm := X.cutK g c (fun _ => none) }) else find id c { C with norm := X.cutK g c (fun _ => none) }
 | .scope c, C => find id c C
 | _, _ => none
def Seg (body : Code) (C : Conts N β) (id : Nat) (σ : St N) : Option β := match X.K id with
 | none => none
 | some _ => match find X g id body C with
  | some k => k σ
  | none => none
def tbl (body : Code) (C : Conts N β) : Nat → Nat → St N → Option β
 | 0, _, _ => none
 | n + 1, id, σ => Seg X (tbl body C n) body C id σ
/-! What stands at a place. -/
def LoopW (P : Program) (c : Code) (Q : Exit → Act → World → Prop) (a : Act) (w : World) : Prop :=
 ∀ (b : Frame) (k : List Item) (cs : List Frame), ∃ e a' w', Q e a' w' ∧ Arrives P (lone (b.at a (.code c :: .inLoop c :: k)) cs w) b k cs e a' w'
theorem loopW_round {c : Code} {Q : Exit → Act → World → Prop} {a : Act} {w : World} (h : c.wp P (Exit.then (LoopW P c Q) Q) a w) : LoopW P c Q a w := by
 intro b k cs
 obtain ⟨e, a₁, w₁, hq, harr⟩ := h b (.inLoop c :: k) cs
 cases e with
 | normal =>
  obtain ⟨e₂, a₂, w₂, hq₂, harr₂⟩ := hq b k cs
  exact ⟨e₂, a₂, w₂, hq₂, .of_steps (Steps.trans harr (.one step_inLoop)) harr₂⟩
 | exit id => exact ⟨_, a₁, w₁, hq, .pass (x := .inLoop c) rfl (fun _ _ => .inl (by simp)) harr⟩
 | goto l => exact ⟨_, a₁, w₁, hq, .pass (x := .inLoop c) rfl (fun _ _ => .inl (by simp)) harr⟩
 | ret => exact ⟨_, a₁, w₁, hq, .pass (x := .inLoop c) rfl (fun _ _ => .inl (by simp)) harr⟩
 | panic ch => exact ⟨_, a₁, w₁, hq, .pass (x := .inLoop c) rfl (fun _ _ => .inl (by simp)) harr⟩
 | outgrown => exact ⟨_, a₁, w₁, hq, .pass (x := .inLoop c) rfl (fun _ _ => .inl (by simp)) harr⟩
theorem loopW_wp {c : Code} {Q : Exit → Act → World → Prop} {a : Act} {w : World} (h : LoopW P c Q a w) : (Code.loop c).wp P Q a w := by
 intro b k cs
 obtain ⟨e, a', w', hq, harr⟩ := h b k cs
 exact ⟨e, a', w', hq, .of_steps (.one step_loop) harr⟩
def At (P : Program) (id : Nat) : Code → (Exit → Act → World → Prop) → Act → World → Prop
 | .seq x y, Q, a, w => if has id x = true then At P id x (Exit.then (y.wp P Q) Q) a w else if startId y = some id then y.wp P Q a w else At P id y Q a w
 | .cond _ t e, Q, a, w => if has id t = true then At P id t Q a w else At P id e Q a w
 | .block i c, Q, a, w => At P id c (Exit.inBlock i Q) a w
 | .loop c, Q, a, w => if startId c = some id then LoopW P c Q a w else At P id c (Exit.then (LoopW P c Q) Q) a w
 | .scope c, Q, a, w => At P id c (Exit.noGoto Q) a w
 | _, _, _, _ => True
variable {X g}
variable {io : Io} {w0 : World} {r : β}
def CutsOk (P : Program) (X : Ctx N) (g : Nat → St N → Option β) (io : Io) (w0 : World) (r : β) (c : Code) (Q : Exit → Act → World → Prop) : Prop :=
 ∀ id ∈ occ X c, ∀ σ a w, g id σ = some r → Rel io w0 σ a w → At P id c Q a w
structure ConOk (io : Io) (w0 : World) (r : β) (C : Conts N β) (Q : Exit → Act → World → Prop) : Prop where
 norm : ∀ σ a w, C.norm σ = some r → Rel io w0 σ a w → Q .normal a w
 exit : ∀ i σ a w, C.exit i σ = some r → Rel io w0 σ a w → Q (.exit i) a w
 ret : ∀ σ a w, C.ret σ = some r → Rel io w0 σ a w → Q .ret a w
 pan : ∀ p σ a w, C.pan p σ = some r → Rel io w0 σ a w → Q (.panic (thrown p)) a w
theorem cutOf_some {c : Code} {id : Nat} {keep : List Nat} (h : X.cutOf c = some (id, keep)) : startId c = some id ∧ X.K id = some keep := by
 unfold Ctx.cutOf at h
 split at h
 ·rename_i id' hs
  split at h
  ·rename_i keep' hk
   cases h
   exact ⟨hs, hk⟩
  ·cases h
 ·cases h
theorem cutOf_of {c : Code} {id : Nat} {keep : List Nat} (h1 : startId c = some id) (h2 : X.K id = some keep) : X.cutOf c = some (id, keep) := by
 unfold Ctx.cutOf
 rw [h1]
 simp only [h2]
theorem has_of_occ {id : Nat} : ∀ {c : Code}, id ∈ occ X c → has id c = true
 | .seq a b, h => by
  simp only [occ, List.mem_append, Option.mem_toList, Option.map_eq_some_iff] at h
  simp only [has, Bool.or_eq_true, beq_iff_eq]
  rcases h with h | ⟨⟨i, k⟩, h, rfl⟩ | h
  ·exact .inl (has_of_occ h)
  ·exact .inr (.inl (cutOf_some h).1)
  ·exact .inr (.inr (has_of_occ h))
 | .cond _ t e, h => by
  simp only [occ, List.mem_append] at h
  simp only [has, Bool.or_eq_true]
  exact h.imp has_of_occ has_of_occ
 | .block _ c, h => has_of_occ (c := c) h
 | .scope c, h => has_of_occ (c := c) h
 | .loop c, h => by
  simp only [occ, List.mem_append, Option.mem_toList, Option.map_eq_some_iff] at h
  simp only [has, Bool.or_eq_true, beq_iff_eq]
  rcases h with ⟨⟨i, k⟩, h, rfl⟩ | h
  ·exact .inl (cutOf_some h).1
  ·exact .inr (has_of_occ h)
theorem occ_of_has {id : Nat} {keep : List Nat} (hK : X.K id = some keep) : ∀ {c : Code}, has id c = true → id ∈ occ X c
 | .seq a b, h => by
  simp only [has, Bool.or_eq_true, beq_iff_eq] at h
  simp only [occ, List.mem_append, Option.mem_toList, Option.map_eq_some_iff]
  rcases h with h | h | h
  ·exact .inl (occ_of_has hK h)
  ·exact .inr (.inl ⟨(id, keep), cutOf_of h hK, rfl⟩)
  ·exact .inr (.inr (occ_of_has hK h))
 | .cond _ t e, h => by
  simp only [has, Bool.or_eq_true] at h
  simp only [occ, List.mem_append]
  exact h.imp (occ_of_has hK) (occ_of_has hK)
 | .block _ c, h => occ_of_has (c := c) hK h
 | .scope c, h => occ_of_has (c := c) hK h
 | .loop c, h => by
  simp only [has, Bool.or_eq_true, beq_iff_eq] at h
  simp only [occ, List.mem_append, Option.mem_toList, Option.map_eq_some_iff]
  rcases h with h | h
  ·exact .inl ⟨(id, keep), cutOf_of h hK, rfl⟩
  ·exact .inr (occ_of_has hK h)
theorem K_of_occ {id : Nat} : ∀ {c : Code}, id ∈ occ X c → ∃ keep, X.K id = some keep
 | .seq a b, h => by
  simp only [occ, List.mem_append, Option.mem_toList, Option.map_eq_some_iff] at h
  rcases h with h | ⟨⟨i, k⟩, h, rfl⟩ | h
  ·exact K_of_occ h
  ·exact ⟨k, (cutOf_some h).2⟩
  ·exact K_of_occ h
 | .cond _ t e, h => by
  simp only [occ, List.mem_append] at h
  exact h.elim K_of_occ K_of_occ
 | .block _ c, h => K_of_occ (c := c) h
 | .scope c, h => K_of_occ (c := c) h
 | .loop c, h => by
  simp only [occ, List.mem_append, Option.mem_toList, Option.map_eq_some_iff] at h
  rcases h with ⟨⟨i, k⟩, h, rfl⟩ | h
  ·exact ⟨k, (cutOf_some h).2⟩
  ·exact K_of_occ h
theorem find_has {id : Nat} : ∀ {c : Code} {C : Conts N β} {k : St N → Option β}, find X g id c C = some k → has id c = true
 | .seq a b, C, k, h => by
  simp only [find] at h
  simp only [has, Bool.or_eq_true]
  split at h
  ·rename_i k' hk
   exact .inl (find_has hk)
  ·cases hs : (startId b == some id) with
   | true => exact .inr (.inl rfl)
   | false =>
    rw [hs] at h
    exact .inr (.inr (find_has (c := b) (C := C) (k := k) h))
 | .cond _ t e, C, k, h => by
  simp only [find] at h
  simp only [has, Bool.or_eq_true]
  split at h
  ·rename_i k' hk
   exact .inl (find_has hk)
  ·exact .inr (find_has h)
 | .block _ c, C, k, h => find_has (c := c) h
 | .scope c, C, k, h => find_has (c := c) h
 | .loop c, C, k, h => by
  simp only [find] at h
  simp only [has, Bool.or_eq_true]
  cases hs : (startId c == some id) with
  | true => exact .inl rfl
  | false =>
   rw [hs] at h
   exact .inr (find_has (c := c) (k := k) h)
section
variable {Q : Exit → Act → World → Prop}
theorem CutsOk.left {x y : Code} (h : CutsOk P X g io w0 r (.seq x y) Q) : CutsOk P X g io w0 r x (Exit.then (y.wp P Q) Q) := by
 intro id hid σ a w h1 h2
 have := h id (by simp only [occ, List.mem_append]; exact .inl hid) σ a w h1 h2
 simpa only [At, has_of_occ hid, if_true] using this
theorem CutsOk.right {x y : Code} (h : CutsOk P X g io w0 r (.seq x y) Q) (hn : (occ X (.seq x y)).Nodup) : CutsOk P X g io w0 r y Q := by
 intro id hid σ a w h1 h2
 have := h id (by simp only [occ, List.mem_append]; exact .inr (.inr hid)) σ a w h1 h2
 obtain ⟨keep, hK⟩ := K_of_occ hid
 simp only [occ] at hn
 rw [List.nodup_append] at hn
 have hx : has id x ≠ true := fun hx => hn.2.2 id (occ_of_has hK hx) id (List.mem_append.2 (.inr hid)) rfl
 have hs : startId y ≠ some id := fun hs => by
  rw [List.nodup_append] at hn
  exact hn.2.1.2.2 id (by rw [cutOf_of hs hK]; simp) id hid rfl
 simpa only [At, if_neg hx, if_neg hs] using this
theorem CutsOk.mid {x y : Code} (h : CutsOk P X g io w0 r (.seq x y) Q) (hn : (occ X (.seq x y)).Nodup) {id : Nat} {keep : List Nat} (hc : X.cutOf y = some (id, keep)) {σ : St N} {a : Act} {w : World} (h1 : g id σ = some r) (h2 : Rel io w0 σ a w) : y.wp P Q a w := by
 obtain ⟨hs, hK⟩ := cutOf_some hc
 have := h id (by simp only [occ, hc, List.mem_append]; exact .inr (.inl (by simp))) σ a w h1 h2
 simp only [occ] at hn
 rw [List.nodup_append] at hn
 have hx : has id x ≠ true := fun hx => hn.2.2 id (occ_of_has hK hx) id (List.mem_append.2 (.inl (by rw [hc]; simp))) rfl
 simpa only [At, if_neg hx, if_pos hs] using this
theorem CutsOk.loopHead {c : Code} (h : CutsOk P X g io w0 r (.loop c) Q) {id : Nat} {keep : List Nat} (hc : X.cutOf c = some (id, keep)) {σ : St N} {a : Act} {w : World} (h1 : g id σ = some r) (h2 : Rel io w0 σ a w) : LoopW P c Q a w := by
 obtain ⟨hs, hK⟩ := cutOf_some hc
 have := h id (by simp only [occ, hc, List.mem_append]; exact .inl (by simp)) σ a w h1 h2
 simpa only [At, if_pos hs] using this
theorem CutsOk.inLoop {c : Code} (h : CutsOk P X g io w0 r (.loop c) Q) (hn : (occ X (.loop c)).Nodup) : CutsOk P X g io w0 r c (Exit.then (LoopW P c Q) Q) := by
 intro id hid σ a w h1 h2
 have := h id (by simp only [occ, List.mem_append]; exact .inr hid) σ a w h1 h2
 obtain ⟨keep, hK⟩ := K_of_occ hid
 simp only [occ] at hn
 rw [List.nodup_append] at hn
 have hs : startId c ≠ some id := fun hs => hn.2.2 id (by rw [cutOf_of hs hK]; simp) id hid rfl
 simpa only [At, if_neg hs] using this
theorem cutK_ok {c : Code} {k : St N → Option β} {R : Act → World → Prop} (h1 : ∀ id keep, X.cutOf c = some (id, keep) → ∀ σ a w, g id σ = some r → Rel io w0 σ a w → R a w) (h2 : ∀ σ a w, k σ = some r → Rel io w0 σ a w → R a w) (hp : io.ids = X.pins) :
  ∀ σ a w, X.cutK g c k σ = some r → Rel io w0 σ a w → R a w := by
 intro σ a w h hr
 rcases hc : X.cutOf c with _ | ⟨id, keep⟩
 ·simp only [Ctx.cutK, hc] at h
  exact h2 σ a w h hr
 ·simp only [Ctx.cutK, hc] at h
  refine h1 id keep hc _ a w h ?_
  rw [← hp]
  exact hr.norm keep
theorem exec_sound (F : Fits P N X.τ) (hΦ : ∀ f S, X.Φ f = some S → Good P (f % 1000000) S) (hI : ∀ f J, X.inl f = some J → InlOk P f J) (hT : ∀ f S, X.thr f = some S → GoodP P f S) (hm : P.follows .mixedOrders = true) (hp : io.ids = X.pins) : ∀ (c : Code) (C : Conts N β) (Q : Exit → Act → World → Prop) (σ : St N), CutsOk P X g io w0 r c Q → (occ X c).Nodup → ConOk io w0 r C Q →
  exec X g c C σ = some r → ∀ a w, Rel io w0 σ a w → c.wp P Q a w
 | .skip, C, Q, σ, hc, hn, hC, h, a, w, hr => wp_skip (hC.norm σ a w h hr)
 | .label _, C, Q, σ, hc, hn, hC, h, a, w, hr => wp_label (hC.norm σ a w h hr)
 | .region _ ops false, C, Q, σ, hc, hn, hC, h, a, w, hr => by
  simp only [exec] at h
  have := execOpsP_sound (ops := ops.toList) (Q := Q) F hΦ hI hT hp (fun σ a w h1 h2 => hC.norm σ a w h1 h2) (fun p σ a w h1 h2 => hC.pan p σ a w h1 h2) ops.toList σ h a w hr
  exact wp_region_list this
 | .region rid ops true, C, Q, σ, hc, hn, hC, h, a, w, hr => by
  simp only [exec] at h
  have := execDrawY_sound (id := rid) (ops := ops.toList) (Q := Q) F hΦ hm (fun σ a w h1 h2 => hC.norm σ a w h1 h2) h hr
  exact this
 | .seq x y, C, Q, σ, hc, hn, hC, h, a, w, hr => by
  have hn' := hn
  simp only [occ] at hn'
  rw [List.nodup_append, List.nodup_append] at hn'
  simp only [exec] at h
  refine wp_seq (exec_sound F hΦ hI hT hm hp x { C with norm := X.cutK g y (exec X g y C) } _ σ hc.left hn'.1 ⟨?_, fun i σ a w h1 h2 => hC.exit i σ a w h1 h2, fun σ a w h1 h2 => hC.ret σ a w h1 h2, fun p σ a w h1 h2 => hC.pan p σ a w h1 h2⟩ h a w hr)
  exact cutK_ok (R := y.wp P Q) (fun id keep hcut σ a w h1 h2 => hc.mid hn hcut h1 h2) (fun σ a w h1 h2 => exec_sound F hΦ hI hT hm hp y C Q σ (hc.right hn) hn'.2.1.2.1 hC h1 a w h2) hp
 | .cond c t e, C, Q, σ, hc, hn, hC, h, a, w, hr => by
  have hn' := hn
  simp only [occ] at hn'
  rw [List.nodup_append] at hn'
  simp only [exec] at h
  split at h
  ·rename_i b hb
   have hv : a.eval c = .bool b := by
    obtain ⟨E, hE⟩ := hr
    have := hE.ev c
    rw [hb] at this
    exact this
   have hct : CutsOk P X g io w0 r t Q := fun id hid σ a w h1 h2 => by
    have := hc id (by simp only [occ, List.mem_append]; exact .inl hid) σ a w h1 h2
    simpa only [At, has_of_occ hid, if_true] using this
   have hce : CutsOk P X g io w0 r e Q := fun id hid σ a w h1 h2 => by
    have := hc id (by simp only [occ, List.mem_append]; exact .inr hid) σ a w h1 h2
    obtain ⟨keep, hK⟩ := K_of_occ hid
    have hx : has id t ≠ true := fun hx => hn'.2.2 id (occ_of_has hK hx) id hid rfl
    simpa only [At, if_neg hx] using this
   cases b with
   | true => exact wp_cond_true hv (exec_sound F hΦ hI hT hm hp t C Q σ hct hn'.1 hC h a w hr)
   | false => exact wp_cond_false hv (exec_sound F hΦ hI hT hm hp e C Q σ hce hn'.2.1 hC h a w hr)
  ·cases h
 | .block i c, C, Q, σ, hc, hn, hC, h, a, w, hr => by
  simp only [exec] at h
  refine wp_block (exec_sound F hΦ hI hT hm hp c { C with exit := fun j σ => bif j == i then C.norm σ else C.exit j σ } _ σ hc hn ⟨fun σ a w h1 h2 => hC.norm σ a w h1 h2, fun j σ a w h1 h2 => ?_, fun σ a w h1 h2 => hC.ret σ a w h1 h2, fun p σ a w h1 h2 => hC.pan p σ a w h1 h2⟩ h a w hr)
  simp only [Exit.inBlock]
  cases hj : (j == i) with
  | true =>
   simp only [hj, cond_true] at h1
   rw [if_pos (by simpa using hj)]
   exact hC.norm σ a w h1 h2
  | false =>
   simp only [hj, cond_false] at h1
   rw [if_neg (by simpa using hj)]
   exact hC.exit j σ a w h1 h2
 | .loop c, C, Q, σ, hc, hn, hC, h, a, w, hr => by
  simp only [exec] at h
  exact loopW_wp (cutK_ok (R := LoopW P c Q) (fun id keep hcut σ a w h1 h2 => hc.loopHead hcut h1 h2) (fun σ a w h1 _ => by cases h1) hp σ a w h hr)
 | .exit i, C, Q, σ, hc, hn, hC, h, a, w, hr => wp_exit (hC.exit i σ a w h hr)
 | .ret, C, Q, σ, hc, hn, hC, h, a, w, hr => wp_ret (hC.ret σ a w h hr)
 | .scope c, C, Q, σ, hc, hn, hC, h, a, w, hr => by
  simp only [exec] at h
  exact wp_scope_straight (exec_sound F hΦ hI hT hm hp c _ _ σ hc hn ⟨fun σ a w h1 h2 => hC.norm σ a w h1 h2, fun i σ a w h1 h2 => hC.exit i σ a w h1 h2, fun σ a w h1 h2 => hC.ret σ a w h1 h2, fun p σ a w h1 h2 => hC.pan p σ a w h1 h2⟩ h a w hr)
 | .rangeFunc .., C, Q, σ, hc, hn, hC, h, a, w, hr => by cases h
 | .goto _, C, Q, σ, hc, hn, hC, h, a, w, hr => by cases h
 | .refuse _, C, Q, σ, hc, hn, hC, h, a, w, hr => by cases h
theorem find_sound (F : Fits P N X.τ) (hΦ : ∀ f S, X.Φ f = some S → Good P (f % 1000000) S) (hI : ∀ f J, X.inl f = some J → InlOk P f J) (hT : ∀ f S, X.thr f = some S → GoodP P f S) (hm : P.follows .mixedOrders = true) (hp : io.ids = X.pins) {id : Nat} {keep : List Nat} (hK : X.K id = some keep) : ∀ (c : Code) (C : Conts N β) (Q : Exit → Act → World → Prop) (k : St N → Option β), CutsOk P X g io w0 r c Q → (occ X c).Nodup → ConOk io w0 r C Q →
  find X g id c C = some k → ∀ σ a w, k σ = some r → Rel io w0 σ a w → At P id c Q a w
 | .seq x y, C, Q, k, hc, hn, hC, h, σ, a, w, hk, hr => by
  have hn' := hn
  simp only [occ] at hn'
  rw [List.nodup_append, List.nodup_append] at hn'
  simp only [find] at h
  simp only [At]
  have hCx : ConOk io w0 r { C with norm := X.cutK g y (exec X g y C) } (Exit.then (y.wp P Q) Q) :=
   ⟨cutK_ok (R := y.wp P Q) (fun id keep hcut σ a w h1 h2 => hc.mid hn hcut h1 h2) (fun σ a w h1 h2 => exec_sound F hΦ hI hT hm hp y C Q σ (hc.right hn) hn'.2.1.2.1 hC h1 a w h2) hp, fun i σ a w h1 h2 => hC.exit i σ a w h1 h2, fun σ a w h1 h2 => hC.ret σ a w h1 h2, fun p σ a w h1 h2 => hC.pan p σ a w h1 h2⟩
  split at h
  ·rename_i k' hk'
   cases h
   rw [if_pos (find_has hk')]
   exact find_sound F hΦ hI hT hm hp hK x { C with norm := X.cutK g y (exec X g y C) } _ k hc.left hn'.1 hCx hk' σ a w hk hr
  ·cases hs : (startId y == some id) with
   | true =>
    rw [hs] at h
    cases h
    have hs : startId y = some id := by simpa using hs
    have hx : has id x ≠ true := fun hx => hn'.2.2 id (occ_of_has hK hx) id (List.mem_append.2 (.inl (by rw [cutOf_of hs hK]; simp))) rfl
    rw [if_neg hx, if_pos hs]
    exact exec_sound F hΦ hI hT hm hp y C Q σ (hc.right hn) hn'.2.1.2.1 hC hk a w hr
   | false =>
    rw [hs] at h
    have h : find X g id y C = some k := h
    have hs : startId y ≠ some id := by simpa using hs
    have hx : has id x ≠ true := fun hx => hn'.2.2 id (occ_of_has hK hx) id (List.mem_append.2 (.inr (occ_of_has hK (find_has h)))) rfl
    rw [if_neg hx, if_neg hs]
    exact find_sound F hΦ hI hT hm hp hK y C Q k (hc.right hn) hn'.2.1.2.1 hC h σ a w hk hr
 | .cond c t e, C, Q, k, hc, hn, hC, h, σ, a, w, hk, hr => by
  have hn' := hn
  simp only [occ] at hn'
  rw [List.nodup_append] at hn'
  simp only [find] at h
  simp only [At]
  split at h
  ·rename_i k' hk'
   cases h
   rw [if_pos (find_has hk')]
   refine find_sound F hΦ hI hT hm hp hK t C Q k (fun id hid σ a w h1 h2 => ?_) hn'.1 hC hk' σ a w hk hr
   have := hc id (by simp only [occ, List.mem_append]; exact .inl hid) σ a w h1 h2
   simpa only [At, has_of_occ hid, if_true] using this
  ·have hx : has id t ≠ true := fun hx => hn'.2.2 id (occ_of_has hK hx) id (occ_of_has hK (find_has h)) rfl
   rw [if_neg hx]
   refine find_sound F hΦ hI hT hm hp hK e C Q k (fun id hid σ a w h1 h2 => ?_) hn'.2.1 hC h σ a w hk hr
   have := hc id (by simp only [occ, List.mem_append]; exact .inr hid) σ a w h1 h2
   obtain ⟨keep', hK'⟩ := K_of_occ hid
   have hx : has id t ≠ true := fun hx => hn'.2.2 id (occ_of_has hK' hx) id hid rfl
   simpa only [At, if_neg hx] using this
 | .block i c, C, Q, k, hc, hn, hC, h, σ, a, w, hk, hr => by
  simp only [find] at h
  refine find_sound F hΦ hI hT hm hp hK c { C with exit := fun j σ => bif j == i then C.norm σ else C.exit j σ } (Exit.inBlock i Q) k hc hn ⟨fun σ a w h1 h2 => hC.norm σ a w h1 h2, fun j σ a w h1 h2 => ?_, fun σ a w h1 h2 => hC.ret σ a w h1 h2, fun p σ a w h1 h2 => hC.pan p σ a w h1 h2⟩ h σ a w hk hr
  simp only [Exit.inBlock]
  cases hj : (j == i) with
  | true =>
   simp only [hj, cond_true] at h1
   rw [if_pos (by simpa using hj)]
   exact hC.norm σ a w h1 h2
  | false =>
   simp only [hj, cond_false] at h1
   rw [if_neg (by simpa using hj)]
   exact hC.exit j σ a w h1 h2
 | .loop c, C, Q, k, hc, hn, hC, h, σ, a, w, hk, hr => by
  have hn' := hn
  simp only [occ] at hn'
  rw [List.nodup_append] at hn'
  simp only [find] at h
  simp only [At]
  have hCc : ConOk io w0 r { C with norm := X.cutK g c (fun _ => none) } (Exit.then (LoopW P c Q) Q) :=
   ⟨cutK_ok (R := LoopW P c Q) (fun id keep hcut σ a w h1 h2 => hc.loopHead hcut h1 h2) (fun σ a w h1 _ => by cases h1) hp, fun i σ a w h1 h2 => hC.exit i σ a w h1 h2, fun σ a w h1 h2 => hC.ret σ a w h1 h2, fun p σ a w h1 h2 => hC.pan p σ a w h1 h2⟩
  cases hs : (startId c == some id) with
  | true =>
   rw [hs] at h
   cases h
   rw [if_pos (by simpa using hs)]
   exact loopW_round (exec_sound F hΦ hI hT hm hp c { C with norm := X.cutK g c (fun _ => none) } _ σ (hc.inLoop hn) hn'.2.1 hCc hk a w hr)
  | false =>
   rw [hs] at h
   rw [if_neg (by simpa using hs)]
   exact find_sound F hΦ hI hT hm hp hK c { C with norm := X.cutK g c (fun _ => none) } _ k (hc.inLoop hn) hn'.2.1 hCc h σ a w hk hr
 | .scope c, C, Q, k, hc, hn, hC, h, σ, a, w, hk, hr => by
  simp only [find] at h
  exact find_sound F hΦ hI hT hm hp hK c _ (Exit.noGoto Q) k hc hn ⟨fun σ a w h1 h2 => hC.norm σ a w h1 h2, fun i σ a w h1 h2 => hC.exit i σ a w h1 h2, fun σ a w h1 h2 => hC.ret σ a w h1 h2, fun p σ a w h1 h2 => hC.pan p σ a w h1 h2⟩ h σ a w hk hr
theorem tbl_ok (F : Fits P N X.τ) (hΦ : ∀ f S, X.Φ f = some S → Good P (f % 1000000) S) (hI : ∀ f J, X.inl f = some J → InlOk P f J) (hT : ∀ f S, X.thr f = some S → GoodP P f S) (hm : P.follows .mixedOrders = true) (hp : io.ids = X.pins) {body : Code} {C : Conts N β} (hn : (occ X body).Nodup) (hC : ConOk io w0 r C Q) : ∀ n, CutsOk P X (tbl X body C n) io w0 r body Q
 | 0 => fun id _ σ a w h _ => by cases h
 | n + 1 => fun id hid σ a w h hr => by
  simp only [tbl, Seg] at h
  split at h
  ·cases h
  ·rename_i keep hK
   split at h
   ·rename_i k hk
    exact find_sound F hΦ hI hT hm hp hK body C Q k (tbl_ok F hΦ hI hT hm hp hn hC n) hn hC hk σ a w h hr
   ·cases h
theorem body_sound (F : Fits P N X.τ) (hΦ : ∀ f S, X.Φ f = some S → Good P (f % 1000000) S) (hI : ∀ f J, X.inl f = some J → InlOk P f J) (hT : ∀ f S, X.thr f = some S → GoodP P f S) (hm : P.follows .mixedOrders = true) (hp : io.ids = X.pins) {body : Code} {C : Conts N β} (hn : (occ X body).Nodup) (hC : ConOk io w0 r C Q) {n : Nat} {σ : St N}
  (h : exec X (tbl X body C n) body C σ = some r) {a : Act} {w : World} (hr : Rel io w0 σ a w) : body.wp P Q a w :=
 exec_sound F hΦ hI hT hm hp body C Q σ (tbl_ok F hΦ hI hT hm hp hn hC n) hn hC h a w hr
end
end Go.Eng

set_option linter.unusedVariables false
set_option linter.unusedSimpArgs false
namespace Go.Eng
variable {N : Names} {P : Program} {β : Type} {io : Io} {w0 w w' : World} {σ : St N} {E : Env} {a : Act}
def pid (i : Nat) : Nat := 900000 + 1000 * i
def cid (i j : Nat) : Nat := 900001 + 1000 * i + j
def initCells (i : Nat) : Nat → (l : List CK) → HC N.ρ l → List (RV N)
 | _, [], _ => []
 | j, .c t :: l, x => (bif isNm t then .undef else ofDen t x.1 []) :: initCells i (j + 1) l x.2
 | j, .o _ _ :: l, x => .own (cid i j) :: initCells i (j + 1) l x.2
 | j, .f f js :: l, x => .fn f (js.map pid) :: initCells i (j + 1) l x.2
def initCellOwn (i : Nat) : Nat → (l : List CK) → HC N.ρ l → List (Nat × Blk N)
 | _, [], _ => []
 | j, .c _ :: l, x => initCellOwn i (j + 1) l x.2
 | j, .o el e :: l, x => (cid i j, .row el e x.1 [] false) :: initCellOwn i (j + 1) l x.2
 | j, .f _ _ :: l, x => initCellOwn i (j + 1) l x.2
def cellIds (i : Nat) : Nat → List CK → List Nat
 | _, [] => []
 | j, .c _ :: l => cellIds i (j + 1) l
 | j, .o _ _ :: l => cid i j :: cellIds i (j + 1) l
 | j, .f _ _ :: l => cellIds i (j + 1) l
def initOwn : Nat → (ps : List PK) → HIn N.ρ ps → List (Nat × Blk N)
 | _, [], _ => []
 | i, .v _ :: ps, x => initOwn (i + 1) ps x.2
 | i, .io el e :: ps, x => (pid i, .row el e x.1 [] true) :: initOwn (i + 1) ps x.2
 | i, .bw t :: ps, x => (pid i, .whole t x.1 []) :: initOwn (i + 1) ps x.2
 | i, .bc l :: ps, x => (pid i, .cells (initCells i 0 l x.1)) :: (initCellOwn i 0 l x.1 ++ initOwn (i + 1) ps x.2)
 | i, .fv _ :: ps, x => initOwn (i + 1) ps x.2
 | i, .fb f :: ps, x => (pid i, .cells [.fn f [pid i]]) :: initOwn (i + 1) ps x.2
 | i, .ag n l :: ps, x => (pid i, .vals n (initCells i 0 l x.1)) :: (initCellOwn i 0 l x.1 ++ initOwn (i + 1) ps x.2)
 | i, .go el e :: ps, x => (pid i, .row el e x.1 [] false) :: initOwn (i + 1) ps x.2
 | i, .fn _ _ :: ps, x => initOwn (i + 1) ps x.2
 | i, .rp _ :: ps, x => initOwn (i + 1) ps x.2
def initRegs : Nat → (ps : List PK) → HIn N.ρ ps → List (RV N)
 | _, [], _ => []
 | i, .v t :: ps, x => ofDen t x.1 [] :: initRegs (i + 1) ps x.2
 | i, .io _ _ :: ps, x => .own (pid i) :: initRegs (i + 1) ps x.2
 | i, .bw _ :: ps, x => .bptr (pid i) 0 :: initRegs (i + 1) ps x.2
 | i, .bc _ :: ps, x => .bptr (pid i) 0 :: initRegs (i + 1) ps x.2
 | i, .fv f :: ps, x => .fn f [] :: initRegs (i + 1) ps x.2
 | i, .fb _ :: ps, x => .bptr (pid i) 0 :: initRegs (i + 1) ps x.2
 | i, .ag _ _ :: ps, x => .mp (pid i) :: initRegs (i + 1) ps x.2
 | i, .go _ _ :: ps, x => .own (pid i) :: initRegs (i + 1) ps x.2
 | i, .fn f js :: ps, x => .fn f (js.map pid) :: initRegs (i + 1) ps x.2
 | i, .rp t :: ps, x => .sptr t x.1 [] :: initRegs (i + 1) ps x.2
def initIds : Nat → List PK → List Nat
 | _, [] => []
 | i, .v _ :: ps => initIds (i + 1) ps
 | i, .io _ _ :: ps => pid i :: initIds (i + 1) ps
 | i, .bw _ :: ps => pid i :: initIds (i + 1) ps
 | i, .bc l :: ps => pid i :: (cellIds i 0 l ++ initIds (i + 1) ps)
 | i, .fv _ :: ps => initIds (i + 1) ps
 | i, .fb _ :: ps => pid i :: initIds (i + 1) ps
 | i, .ag _ l :: ps => pid i :: (cellIds i 0 l ++ initIds (i + 1) ps)
 | i, .go _ _ :: ps => pid i :: initIds (i + 1) ps
 | i, .fn _ _ :: ps => initIds (i + 1) ps
 | i, .rp _ :: ps => initIds (i + 1) ps
def pinIds : Nat → List PK → List Nat
 | _, [] => []
 | i, .v _ :: ps => pinIds (i + 1) ps
 | i, .fv _ :: ps => pinIds (i + 1) ps
 | i, .ag _ _ :: ps => pinIds (i + 1) ps
 | i, .go _ _ :: ps => pinIds (i + 1) ps
 | i, .fn _ _ :: ps => pinIds (i + 1) ps
 | i, .rp _ :: ps => pinIds (i + 1) ps
 | i, _ :: ps => pid i :: pinIds (i + 1) ps
def init (ps : List PK) (ntmps gh : Nat) (x : HIn N.ρ ps) : St N := { regs := ((initRegs 0 ps x).take (ps.length - gh)).map Slot.one ++ List.replicate (ntmps - (ps.length - gh)) (.tup []), own := initOwn 0 ps x }
def pinned1 : PK → Bool
 | .v _ => false
 | .fv _ => false
 | .ag _ _ => false
 | .go _ _ => false
 | .fn _ _ => false
 | .rp _ => false
 | _ => true
def boxP : PK → Bool
 | .bw _ => true
 | .bc _ => true
 | .fb _ => true
 | _ => false
def boxAt (ps0 : List PK) (j : Nat) : Bool := match ps0[j]? with
 | some p => boxP p
 | none => false
def jsOkC (ps0 : List PK) : List CK → Bool
 | [] => true
 | .f _ js :: l => js.all (boxAt ps0) && jsOkC ps0 l
 | _ :: l => jsOkC ps0 l
def jsOk (ps0 : List PK) : List PK → Bool
 | [] => true
 | .fn _ js :: ps => js.all (boxAt ps0) && jsOk ps0 ps
 | .bc l :: ps => jsOkC ps0 l && jsOk ps0 ps
 | .ag _ l :: ps => jsOkC ps0 l && jsOk ps0 ps
 | _ :: ps => jsOk ps0 ps
def BoxesAt (ps0 : List PK) (vs0 : List Value) (own' : List (Nat × Blk N)) (E' : Env) : Prop :=
 ∀ j, boxAt ps0 j = true → isBox own' (pid j) ∧ E' (pid j) = vs0.getD j undef ∧ ∃ g, E' (pid j) = .pointer (some ⟨g, 0, none⟩)
theorem closV_rel {ps0 : List PK} {vs0 : List Value} {own' : List (Nat × Blk N)} {E' : Env} (h : BoxesAt ps0 vs0 own' E') {f : FuncId} {js : List Nat} (hj : js.all (boxAt ps0) = true) : RVRel w own' E' (.fn f (js.map pid)) (closV vs0 f js) := by
 have hj := List.all_eq_true.1 hj
 refine ⟨?_, fun id hid => ?_⟩
 ·unfold closV
  rw [List.map_map, List.map_congr_left (fun j hm => (h j (hj j hm)).2.1.symm)]
  rfl
 ·obtain ⟨j, hm, rfl⟩ := List.mem_map.1 hid
  exact ⟨(h j (hj j hm)).1, (h j (hj j hm)).2.2⟩
theorem initCells_rel {ok : Nat → Prop} {i : Nat} {ps0 : List PK} {vs0 : List Value} : ∀ (l : List CK) (j : Nat) (x : HC N.ρ l) (us : List Value), HCRel w ok vs0 l x us → jsOkC ps0 l = true →
  ∃ L : List (Ent N), L.map Ent.two = initCellOwn i j l x ∧ L.map (·.1) = cellIds i j l ∧ HCBlk l us = L.flatMap (fun e => oneBlk e.2.2) ∧ us.length = (initCells i j l x).length ∧
   ∀ own' E', Stand L own' E' → BoxesAt ps0 vs0 own' E' → (∀ g, ok g → okb w.heap.size own' E' [] g) → (∀ e ∈ L, BlkRel w own' E' e.1 e.2.1) ∧ ∀ (k : Nat) r u, (initCells i j l x)[k]? = some r → us[k]? = some u → RVRel w own' E' r u
 | [], j, x, us, h, hjs => by
  rw [show us = [] from h]
  exact ⟨[], rfl, rfl, rfl, rfl, fun _ _ _ _ _ => ⟨(fun e he => by cases he), fun k r u hk _ => by simp [initCells] at hk⟩⟩
 | .c t :: l, j, x, us, h, hjs => by
  obtain ⟨u, rest, rfl, k1, k2⟩ := h
  obtain ⟨L, l1, l2, l3, l4, l5⟩ := initCells_rel (i := i) (ps0 := ps0) l (j + 1) x.2 rest k2 hjs
  refine ⟨L, l1, l2, by simpa [HCBlk, CKBlk] using l3, by simp [initCells, l4], fun own' E' hst hbx hok => ?_⟩
  obtain ⟨m1, m2⟩ := l5 own' E' hst hbx hok
  refine ⟨m1, fun k r u' hk hu => ?_⟩
  cases k with
  | zero =>
   simp only [initCells, List.getElem?_cons_zero, Option.some.injEq] at hk hu
   subst hk hu
   have hrep : Rep w ok t x.1 [u] := k1
   cases t with
   | nm n => trivial
   | _ => exact ofDen_rel (Rep_mono (fun _ _ _ h => h) hok hrep) rfl
  | succ k => exact m2 k r u' (by simpa [initCells] using hk) (by simpa using hu)
 | .o el e :: l, j, x, us, h, hjs => by
  obtain ⟨u, rest, rfl, k1, k2⟩ := h
  obtain ⟨L, l1, l2, l3, l4, l5⟩ := initCells_rel (i := i) (ps0 := ps0) l (j + 1) x.2 rest k2 hjs
  refine ⟨(cid i j, .row el e x.1 [] false, u) :: L, by simp [initCellOwn, Ent.two, l1], by simp [cellIds, l2], by simp [HCBlk, CKBlk, l3], by simp [initCells, l4], fun own' E' hst hbx hok => ?_⟩
  obtain ⟨m1, m2⟩ := l5 own' E' (fun e he => hst e (List.mem_cons_of_mem _ he)) hbx hok
  obtain ⟨s1, s2⟩ := hst _ List.mem_cons_self
  refine ⟨fun e' he => ?_, fun k r u' hk hu => ?_⟩
  ·rcases List.mem_cons.1 he with rfl | he
   ·exact ownAt_blk k1 s2 hok
   ·exact m1 e' he
  ·cases k with
   | zero =>
    simp only [initCells, List.getElem?_cons_zero, Option.some.injEq] at hk hu
    subst hk hu
    exact ⟨s2.symm, x.1.length, e, el, x.1, [], false, s1, rfl⟩
   | succ k => exact m2 k r u' (by simpa [initCells] using hk) (by simpa using hu)
 | .f f js :: l, j, x, us, h, hjs => by
  obtain ⟨u, rest, rfl, k1, k2⟩ := h
  simp only [jsOkC, Bool.and_eq_true] at hjs
  obtain ⟨L, l1, l2, l3, l4, l5⟩ := initCells_rel (i := i) (ps0 := ps0) l (j + 1) x.2 rest k2 hjs.2
  refine ⟨L, l1, l2, by simpa [HCBlk, CKBlk] using l3, by simp [initCells, l4], fun own' E' hst hbx hok => ?_⟩
  obtain ⟨m1, m2⟩ := l5 own' E' hst hbx hok
  refine ⟨m1, fun k r u' hk hu => ?_⟩
  cases k with
  | zero =>
   simp only [initCells, List.getElem?_cons_zero, Option.some.injEq] at hk hu
   subst hk hu
   rw [show u = _ from k1]
   exact closV_rel hbx hjs.1
  | succ k => exact m2 k r u' (by simpa [initCells] using hk) (by simpa using hu)
theorem init_rel {ok : Nat → Prop} {ps0 : List PK} {vs0 : List Value} : ∀ (ps : List PK) (i : Nat) (x : HIn N.ρ ps) (vs : List Value) (bl : List Nat), InRel w ok vs0 ps x vs bl → jsOk ps0 ps = true →
  ∃ L : List (Ent N), L.map Ent.two = initOwn i ps x ∧ L.map (·.1) = initIds i ps ∧ bl = L.flatMap (fun e => oneBlk e.2.2) ∧ vs.length = ps.length ∧ (initRegs i ps x).length = ps.length ∧
   (∀ (j : Nat) p v, ps[j]? = some p → vs[j]? = some v → pinned1 p = true → ∃ e ∈ L, e.1 = pid (i + j) ∧ e.2.2 = v ∧ (boxP p = true → ((∃ t x bs, e.2.1 = .whole t x bs) ∨ ∃ l, e.2.1 = .cells l) ∧ ∃ g, v = .pointer (some ⟨g, 0, none⟩))) ∧ (∀ id ∈ pinIds i ps, ∃ e ∈ L, e.1 = id ∧ e.2.1.pinned = true) ∧
   ∀ own' E', Stand L own' E' → BoxesAt ps0 vs0 own' E' → (∀ g, ok g → okb w.heap.size own' E' [] g) → (∀ e ∈ L, BlkRel w own' E' e.1 e.2.1) ∧ ∀ (k : Nat) r u, (initRegs i ps x)[k]? = some r → vs[k]? = some u → RVRel w own' E' r u
 | [], i, x, vs, bl, h, hjs => by
  obtain ⟨rfl, rfl⟩ := h
  exact ⟨[], rfl, rfl, rfl, rfl, rfl, (fun j p v hp => by simp at hp), (fun id hid => by cases hid), fun _ _ _ _ _ => ⟨(fun e he => by cases he), fun k r u hk _ => by simp [initRegs] at hk⟩⟩
 | .v t :: ps, i, x, vs, bl, h, hjs => by
  obtain ⟨v, rest, b1, b2, rfl, rfl, ⟨⟨cs, k1, k2⟩, rfl⟩, k3⟩ := h
  obtain ⟨L, l1, l2, l3, l4, l4', l5, l6, l7⟩ := init_rel (ps0 := ps0) ps (i + 1) x.2 rest b2 k3 hjs
  refine ⟨L, l1, l2, by simpa using l3, by simp [l4], by simp [initRegs, l4'], fun j p v' hp hv hpin => ?_, l6, fun own' E' hst hbx hok => ?_⟩
  ·cases j with
   | zero =>
    simp only [List.getElem?_cons_zero, Option.some.injEq] at hp
    subst hp
    cases hpin
   | succ j =>
    obtain ⟨e, e1, e2, e3, e4⟩ := l5 j p v' (by simpa using hp) (by simpa using hv) hpin
    exact ⟨e, e1, by rw [e2, show i + 1 + j = i + (j + 1) from by omega], e3, e4⟩
  ·obtain ⟨m1, m2⟩ := l7 own' E' hst hbx hok
   refine ⟨m1, fun k r u hk hu => ?_⟩
   cases k with
   | zero =>
    simp only [initRegs, List.getElem?_cons_zero, Option.some.injEq] at hk hu
    subst hk hu
    exact ofDen_rel (Rep_mono (fun _ _ _ h => h) hok k1) k2
   | succ k => exact m2 k r u (by simpa [initRegs] using hk) (by simpa using hu)
 | .io el e :: ps, i, x, vs, bl, h, hjs => by
  obtain ⟨v, rest, b1, b2, rfl, rfl, ⟨k1, rfl⟩, k3⟩ := h
  obtain ⟨L, l1, l2, l3, l4, l4', l5, l6, l7⟩ := init_rel (ps0 := ps0) ps (i + 1) x.2 rest b2 k3 hjs
  refine ⟨(pid i, .row el e x.1 [] true, v) :: L, by simp [initOwn, Ent.two, l1], by simp [initIds, l2], by simp [l3], by simp [l4], by simp [initRegs, l4'], fun j p v' hp hv hpin => ?_, fun id hid => ?_, fun own' E' hst hbx hok => ?_⟩
  ·cases j with
   | zero =>
    simp only [List.getElem?_cons_zero, Option.some.injEq] at hv
    simp only [List.getElem?_cons_zero, Option.some.injEq] at hp
    subst hp
    exact ⟨_, List.mem_cons_self, rfl, hv, fun h => by cases h⟩
   | succ j =>
    obtain ⟨e, e1, e2, e3, e4⟩ := l5 j p v' (by simpa using hp) (by simpa using hv) hpin
    exact ⟨e, List.mem_cons_of_mem _ e1, by rw [e2, show i + 1 + j = i + (j + 1) from by omega], e3, e4⟩
  ·rcases List.mem_cons.1 hid with rfl | hid
   ·exact ⟨_, List.mem_cons_self, rfl, rfl⟩
   ·obtain ⟨e, e1, e2⟩ := l6 id hid
    exact ⟨e, List.mem_cons_of_mem _ e1, e2⟩
  ·obtain ⟨m1, m2⟩ := l7 own' E' (fun e he => hst e (List.mem_cons_of_mem _ he)) hbx hok
   obtain ⟨s1, s2⟩ := hst _ List.mem_cons_self
   refine ⟨fun e' he => ?_, fun k r u hk hu => ?_⟩
   ·rcases List.mem_cons.1 he with rfl | he
    ·exact ownAt_blk k1 s2 hok
    ·exact m1 e' he
   ·cases k with
    | zero =>
     simp only [initRegs, List.getElem?_cons_zero, Option.some.injEq] at hk hu
     subst hk hu
     exact ⟨s2.symm, x.1.length, e, el, x.1, [], true, s1, rfl⟩
    | succ k => exact m2 k r u (by simpa [initRegs] using hk) (by simpa using hu)
 | .bw t :: ps, i, x, vs, bl, h, hjs => by
  obtain ⟨v, rest, b1, b2, rfl, rfl, ⟨g, T, arr, ⟨kb1, kb2⟩, k1, rfl⟩, k3⟩ := h
  obtain ⟨L, l1, l2, l3, l4, l4', l5, l6, l7⟩ := init_rel (ps0 := ps0) ps (i + 1) x.2 rest b2 k3 hjs
  refine ⟨(pid i, .whole t x.1 [], v) :: L, by simp [initOwn, Ent.two, l1], by simp [initIds, l2], by simp [l3, kb1, oneBlk, blkOf], by simp [l4], by simp [initRegs, l4'], fun j p v' hp hv hpin => ?_, fun id hid => ?_, fun own' E' hst hbx hok => ?_⟩
  ·cases j with
   | zero =>
    simp only [List.getElem?_cons_zero, Option.some.injEq] at hv
    exact ⟨_, List.mem_cons_self, rfl, hv, fun _ => ⟨.inl ⟨_, _, _, rfl⟩, g, by rw [← hv]; exact kb1⟩⟩
   | succ j =>
    obtain ⟨e, e1, e2, e3, e4⟩ := l5 j p v' (by simpa using hp) (by simpa using hv) hpin
    exact ⟨e, List.mem_cons_of_mem _ e1, by rw [e2, show i + 1 + j = i + (j + 1) from by omega], e3, e4⟩
  ·rcases List.mem_cons.1 hid with rfl | hid
   ·exact ⟨_, List.mem_cons_self, rfl, rfl⟩
   ·obtain ⟨e, e1, e2⟩ := l6 id hid
    exact ⟨e, List.mem_cons_of_mem _ e1, e2⟩
  ·obtain ⟨m1, m2⟩ := l7 own' E' (fun e he => hst e (List.mem_cons_of_mem _ he)) hbx hok
   obtain ⟨s1, s2⟩ := hst _ List.mem_cons_self
   refine ⟨fun e' he => ?_, fun k r u hk hu => ?_⟩
   ·rcases List.mem_cons.1 he with rfl | he
    ·exact ⟨g, T, arr, s2.trans kb1, kb2, Rep_mono (fun _ _ _ h => h) hok k1⟩
    ·exact m1 e' he
   ·cases k with
    | zero =>
     simp only [initRegs, List.getElem?_cons_zero, Option.some.injEq] at hk hu
     subst hk hu
     exact ⟨.inl ⟨t, x.1, [], s1⟩, g, s2.trans kb1, kb1⟩
    | succ k => exact m2 k r u (by simpa [initRegs] using hk) (by simpa using hu)
 | .fv f :: ps, i, x, vs, bl, h, hjs => by
  obtain ⟨v, rest, b1, b2, rfl, rfl, ⟨k1, rfl⟩, k3⟩ := h
  obtain ⟨L, l1, l2, l3, l4, l4', l5, l6, l7⟩ := init_rel (ps0 := ps0) ps (i + 1) x.2 rest b2 k3 hjs
  refine ⟨L, l1, l2, by simpa using l3, by simp [l4], by simp [initRegs, l4'], fun j p v' hp hv hpin => ?_, l6, fun own' E' hst hbx hok => ?_⟩
  ·cases j with
   | zero =>
    simp only [List.getElem?_cons_zero, Option.some.injEq] at hp
    subst hp
    cases hpin
   | succ j =>
    obtain ⟨e, e1, e2, e3, e4⟩ := l5 j p v' (by simpa using hp) (by simpa using hv) hpin
    exact ⟨e, e1, by rw [e2, show i + 1 + j = i + (j + 1) from by omega], e3, e4⟩
  ·obtain ⟨m1, m2⟩ := l7 own' E' hst hbx hok
   refine ⟨m1, fun k r u hk hu => ?_⟩
   cases k with
   | zero =>
    simp only [initRegs, List.getElem?_cons_zero, Option.some.injEq] at hk hu
    subst hk hu
    exact ⟨k1, fun k hk => by cases hk⟩
   | succ k => exact m2 k r u (by simpa [initRegs] using hk) (by simpa using hu)
 | .fb f :: ps, i, x, vs, bl, h, hjs => by
  obtain ⟨v, rest, b1, b2, rfl, rfl, ⟨g, T, arr, ⟨kb1, kb2⟩, k1, rfl⟩, k3⟩ := h
  obtain ⟨L, l1, l2, l3, l4, l4', l5, l6, l7⟩ := init_rel (ps0 := ps0) ps (i + 1) x.2 rest b2 k3 hjs
  refine ⟨(pid i, .cells [.fn f [pid i]], v) :: L, by simp [initOwn, Ent.two, l1], by simp [initIds, l2], by simp [l3, kb1, oneBlk, blkOf], by simp [l4], by simp [initRegs, l4'], fun j p v' hp hv hpin => ?_, fun id hid => ?_, fun own' E' hst hbx hok => ?_⟩
  ·cases j with
   | zero =>
    simp only [List.getElem?_cons_zero, Option.some.injEq] at hv
    exact ⟨_, List.mem_cons_self, rfl, hv, fun _ => ⟨.inr ⟨_, rfl⟩, g, by rw [← hv]; exact kb1⟩⟩
   | succ j =>
    obtain ⟨e, e1, e2, e3, e4⟩ := l5 j p v' (by simpa using hp) (by simpa using hv) hpin
    exact ⟨e, List.mem_cons_of_mem _ e1, by rw [e2, show i + 1 + j = i + (j + 1) from by omega], e3, e4⟩
  ·rcases List.mem_cons.1 hid with rfl | hid
   ·exact ⟨_, List.mem_cons_self, rfl, rfl⟩
   ·obtain ⟨e, e1, e2⟩ := l6 id hid
    exact ⟨e, List.mem_cons_of_mem _ e1, e2⟩
  ·obtain ⟨m1, m2⟩ := l7 own' E' (fun e he => hst e (List.mem_cons_of_mem _ he)) hbx hok
   obtain ⟨s1, s2⟩ := hst _ List.mem_cons_self
   refine ⟨fun e' he => ?_, fun k r u hk hu => ?_⟩
   ·rcases List.mem_cons.1 he with rfl | he
    ·refine ⟨g, T, arr, s2.trans kb1, kb2, by rw [k1]; rfl, fun k r u hk hu => ?_⟩
     subst k1
     cases k with
     | zero =>
      simp only [List.getElem?_cons_zero, Option.some.injEq] at hk
      subst hk
      exact self_rel ⟨_, s1⟩ s2 kb1 (Option.some.inj hu).symm
     | succ k => simp at hk
    ·exact m1 e' he
   ·cases k with
    | zero =>
     simp only [initRegs, List.getElem?_cons_zero, Option.some.injEq] at hk hu
     subst hk hu
     exact ⟨.inr (.inl ⟨_, s1⟩), g, s2.trans kb1, kb1⟩
    | succ k => exact m2 k r u (by simpa [initRegs] using hk) (by simpa using hu)
 | .bc l :: ps, i, x, vs, bl, h, hjs => by
  simp only [jsOk, Bool.and_eq_true] at hjs
  obtain ⟨v, rest, b1, b2, rfl, rfl, ⟨g, T, arr, ⟨kb1, kb2⟩, k1, rfl⟩, k3⟩ := h
  obtain ⟨L, l1, l2, l3, l4, l4', l5, l6, l7⟩ := init_rel (ps0 := ps0) ps (i + 1) x.2 rest b2 k3 hjs.2
  obtain ⟨M, m1, m2, m3, m4, m5⟩ := initCells_rel (i := i) (ps0 := ps0) l 0 x.1 arr.toList k1 hjs.1
  refine ⟨(pid i, .cells (initCells i 0 l x.1), v) :: (M ++ L), by simp [initOwn, Ent.two, l1, m1], by simp [initIds, l2, m2], by simp [l3, m3, kb1, oneBlk, blkOf], by simp [l4], by simp [initRegs, l4'], fun j p v' hp hv hpin => ?_, fun id hid => ?_, fun own' E' hst hbx hok => ?_⟩
  ·cases j with
   | zero =>
    simp only [List.getElem?_cons_zero, Option.some.injEq] at hv
    exact ⟨_, List.mem_cons_self, rfl, hv, fun _ => ⟨.inr ⟨_, rfl⟩, g, by rw [← hv]; exact kb1⟩⟩
   | succ j =>
    obtain ⟨e, e1, e2, e3, e4⟩ := l5 j p v' (by simpa using hp) (by simpa using hv) hpin
    exact ⟨e, List.mem_cons_of_mem _ (List.mem_append.2 (.inr e1)), by rw [e2, show i + 1 + j = i + (j + 1) from by omega], e3, e4⟩
  ·rcases List.mem_cons.1 hid with rfl | hid
   ·exact ⟨_, List.mem_cons_self, rfl, rfl⟩
   ·obtain ⟨e, e1, e2⟩ := l6 id hid
    exact ⟨e, List.mem_cons_of_mem _ (List.mem_append.2 (.inr e1)), e2⟩
  ·obtain ⟨q1, q2⟩ := l7 own' E' (fun e he => hst e (List.mem_cons_of_mem _ (List.mem_append.2 (.inr he)))) hbx hok
   obtain ⟨c1, c2⟩ := m5 own' E' (fun e he => hst e (List.mem_cons_of_mem _ (List.mem_append.2 (.inl he)))) hbx hok
   obtain ⟨s1, s2⟩ := hst _ List.mem_cons_self
   refine ⟨fun e' he => ?_, fun k r u hk hu => ?_⟩
   ·rcases List.mem_cons.1 he with rfl | he
    ·exact ⟨g, T, arr, s2.trans kb1, kb2, by simpa using m4, fun k r u hk hu => c2 k r u hk (by simpa using hu)⟩
    ·rcases List.mem_append.1 he with he | he
     ·exact c1 e' he
     ·exact q1 e' he
   ·cases k with
    | zero =>
     simp only [initRegs, List.getElem?_cons_zero, Option.some.injEq] at hk hu
     subst hk hu
     exact ⟨.inr (.inl ⟨_, s1⟩), g, s2.trans kb1, kb1⟩
    | succ k => exact q2 k r u (by simpa [initRegs] using hk) (by simpa using hu)
 | .fn f js :: ps, i, x, vs, bl, h, hjs => by
  simp only [jsOk, Bool.and_eq_true] at hjs
  obtain ⟨v, rest, b1, b2, rfl, rfl, ⟨k1, rfl⟩, k3⟩ := h
  obtain ⟨L, l1, l2, l3, l4, l4', l5, l6, l7⟩ := init_rel (ps0 := ps0) ps (i + 1) x.2 rest b2 k3 hjs.2
  refine ⟨L, l1, l2, by simpa using l3, by simp [l4], by simp [initRegs, l4'], fun j p v' hp hv hpin => ?_, l6, fun own' E' hst hbx hok => ?_⟩
  ·cases j with
   | zero =>
    simp only [List.getElem?_cons_zero, Option.some.injEq] at hp
    subst hp
    cases hpin
   | succ j =>
    obtain ⟨e, e1, e2, e3, e4⟩ := l5 j p v' (by simpa using hp) (by simpa using hv) hpin
    exact ⟨e, e1, by rw [e2, show i + 1 + j = i + (j + 1) from by omega], e3, e4⟩
  ·obtain ⟨m1, m2⟩ := l7 own' E' hst hbx hok
   refine ⟨m1, fun k r u hk hu => ?_⟩
   cases k with
   | zero =>
    simp only [initRegs, List.getElem?_cons_zero, Option.some.injEq] at hk hu
    subst hk hu
    rw [show v = _ from k1]
    exact closV_rel hbx hjs.1
   | succ k => exact m2 k r u (by simpa [initRegs] using hk) (by simpa using hu)
 | .rp t :: ps, i, x, vs, bl, h, hjs => by
  obtain ⟨v, rest, b1, b2, rfl, rfl, ⟨⟨ad, cs, k1, k2, k2', k2''⟩, rfl⟩, k3⟩ := h
  obtain ⟨L, l1, l2, l3, l4, l4', l5, l6, l7⟩ := init_rel (ps0 := ps0) ps (i + 1) x.2 rest b2 k3 hjs
  refine ⟨L, l1, l2, by simpa using l3, by simp [l4], by simp [initRegs, l4'], fun j p v' hp hv hpin => ?_, l6, fun own' E' hst hbx hok => ?_⟩
  ·cases j with
   | zero =>
    simp only [List.getElem?_cons_zero, Option.some.injEq] at hp
    subst hp
    cases hpin
   | succ j =>
    obtain ⟨e, e1, e2, e3, e4⟩ := l5 j p v' (by simpa using hp) (by simpa using hv) hpin
    exact ⟨e, e1, by rw [e2, show i + 1 + j = i + (j + 1) from by omega], e3, e4⟩
  ·obtain ⟨m1, m2⟩ := l7 own' E' hst hbx hok
   refine ⟨m1, fun k r u hk hu => ?_⟩
   cases k with
   | zero =>
    simp only [initRegs, List.getElem?_cons_zero, Option.some.injEq] at hk hu
    subst hk hu
    exact ⟨ad, cs, k1, hok _ k2, Rep_mono (fun _ _ _ h => h) hok k2', k2''⟩
   | succ k => exact m2 k r u (by simpa [initRegs] using hk) (by simpa using hu)
 | .go el e :: ps, i, x, vs, bl, h, hjs => by
  obtain ⟨v, rest, b1, b2, rfl, rfl, ⟨k1, rfl⟩, k3⟩ := h
  obtain ⟨L, l1, l2, l3, l4, l4', l5, l6, l7⟩ := init_rel (ps0 := ps0) ps (i + 1) x.2 rest b2 k3 hjs
  refine ⟨(pid i, .row el e x.1 [] false, v) :: L, by simp [initOwn, Ent.two, l1], by simp [initIds, l2], by simp [l3], by simp [l4], by simp [initRegs, l4'], fun j p v' hp hv hpin => ?_, fun id hid => ?_, fun own' E' hst hbx hok => ?_⟩
  ·cases j with
   | zero =>
    simp only [List.getElem?_cons_zero, Option.some.injEq] at hp
    subst hp
    cases hpin
   | succ j =>
    obtain ⟨e, e1, e2, e3, e4⟩ := l5 j p v' (by simpa using hp) (by simpa using hv) hpin
    exact ⟨e, List.mem_cons_of_mem _ e1, by rw [e2, show i + 1 + j = i + (j + 1) from by omega], e3, e4⟩
  ·obtain ⟨e, e1, e2⟩ := l6 id hid
   exact ⟨e, List.mem_cons_of_mem _ e1, e2⟩
  ·obtain ⟨m1, m2⟩ := l7 own' E' (fun e he => hst e (List.mem_cons_of_mem _ he)) hbx hok
   obtain ⟨s1, s2⟩ := hst _ List.mem_cons_self
   refine ⟨fun e' he => ?_, fun k r u hk hu => ?_⟩
   ·rcases List.mem_cons.1 he with rfl | he
    ·exact ownAt_blk k1 s2 hok
    ·exact m1 e' he
   ·cases k with
    | zero =>
     simp only [initRegs, List.getElem?_cons_zero, Option.some.injEq] at hk hu
     subst hk hu
     exact ⟨s2.symm, x.1.length, e, el, x.1, [], false, s1, rfl⟩
    | succ k => exact m2 k r u (by simpa [initRegs] using hk) (by simpa using hu)
 | .ag n l :: ps, i, x, vs, bl, h, hjs => by
  simp only [jsOk, Bool.and_eq_true] at hjs
  obtain ⟨v, rest, b1, b2, rfl, rfl, ⟨cs, k1, k1', rfl⟩, k3⟩ := h
  obtain ⟨L, l1, l2, l3, l4, l4', l5, l6, l7⟩ := init_rel (ps0 := ps0) ps (i + 1) x.2 rest b2 k3 hjs.2
  obtain ⟨M, m1, m2, m3, m4, m5⟩ := initCells_rel (i := i) (ps0 := ps0) l 0 x.1 cs k1' hjs.1
  refine ⟨(pid i, .vals n (initCells i 0 l x.1), v) :: (M ++ L), by simp [initOwn, Ent.two, l1, m1], by simp [initIds, l2, m2], by simp [l3, m3, k1, oneBlk, blkOf], by simp [l4], by simp [initRegs, l4'], fun j p v' hp hv hpin => ?_, fun id hid => ?_, fun own' E' hst hbx hok => ?_⟩
  ·cases j with
   | zero =>
    simp only [List.getElem?_cons_zero, Option.some.injEq] at hp
    subst hp
    cases hpin
   | succ j =>
    obtain ⟨e, e1, e2, e3, e4⟩ := l5 j p v' (by simpa using hp) (by simpa using hv) hpin
    exact ⟨e, List.mem_cons_of_mem _ (List.mem_append.2 (.inr e1)), by rw [e2, show i + 1 + j = i + (j + 1) from by omega], e3, e4⟩
  ·obtain ⟨e, e1, e2⟩ := l6 id hid
   exact ⟨e, List.mem_cons_of_mem _ (List.mem_append.2 (.inr e1)), e2⟩
  ·obtain ⟨q1, q2⟩ := l7 own' E' (fun e he => hst e (List.mem_cons_of_mem _ (List.mem_append.2 (.inr he)))) hbx hok
   obtain ⟨c1, c2⟩ := m5 own' E' (fun e he => hst e (List.mem_cons_of_mem _ (List.mem_append.2 (.inl he)))) hbx hok
   obtain ⟨s1, s2⟩ := hst _ List.mem_cons_self
   refine ⟨fun e' he => ?_, fun k r u hk hu => ?_⟩
   ·rcases List.mem_cons.1 he with rfl | he
    ·exact ⟨cs.toArray, s2.trans k1, by simpa using m4, fun u hu => HCRel_one l x.1 cs k1' u (by simpa using hu), fun k r u hk hu => c2 k r u hk (by simpa using hu)⟩
    ·rcases List.mem_append.1 he with he | he
     ·exact c1 e' he
     ·exact q1 e' he
   ·cases k with
    | zero =>
     simp only [initRegs, List.getElem?_cons_zero, Option.some.injEq] at hk hu
     subst hk hu
     exact ⟨.inr (.inr (.inr ⟨n, _, s1⟩)), s2.symm⟩
    | succ k => exact q2 k r u (by simpa [initRegs] using hk) (by simpa using hu)
/-! The end. -/
def eqNats : List Nat → List Nat → Bool
 | [], [] => true
 | a :: l, b :: m => Nat.beq a b && eqNats l m
 | _, _ => false
theorem eqNats_spec : ∀ {l m : List Nat}, eqNats l m = true → l = m
 | [], [], _ => rfl
 | [], _ :: _, h => by cases h
 | _ :: _, [], h => by cases h
 | a :: l, b :: m, h => by
  simp only [eqNats, Bool.and_eq_true] at h
  rw [Nat.eq_of_beq_eq_true h.1, eqNats_spec h.2]
def selfFk (ps0 : List PK) (f : FuncId) (js : List Nat) : RV N → Bool
 | .fn f' caps => Nat.beq f' f && eqNats caps (js.map pid) && js.all (boxAt ps0)
 | _ => false
def noFk (f : FuncId) (js : List Nat) : RV N → Bool
 | .fn f' [] => Nat.beq f' f && eqNats js []
 | _ => false
theorem noFk_rel {own : List (Nat × Blk N)} (f : FuncId) (js : List Nat) (r : RV N) (u : Value) (h : noFk f js r = true) (hr : RVRel w own E r u) : u = closV [] f js := by
 unfold noFk at h
 split at h
 ·simp only [Bool.and_eq_true] at h
  obtain rfl := Nat.eq_of_beq_eq_true h.1
  obtain rfl := eqNats_spec h.2
  exact hr.1
 ·cases h
def outPs (ps0 : List PK) (own : List (Nat × Blk N)) : Nat → (ps : List PK) → Option (HOut N.ρ ps × List Nat × List Nat)
 | _, [] => some ((), [], [])
 | i, .v _ :: ps => outPs ps0 own (i + 1) ps
 | i, .io el e :: ps => match look own (pid i) with
  | some (.row el' e' xs bs _) => bif eqB el' el then match castTy N (.sl e') (.sl e) xs, outPs ps0 own (i + 1) ps with
   | some xs, some (y, B, R) => some ((xs, y), bs ++ B, pid i :: R)
   | _, _ => none
   else none
  | _ => none
 | i, .bw t :: ps => match look own (pid i) with
  | some (.whole t' x bs) => match castTy N t' t x, outPs ps0 own (i + 1) ps with
   | some x, some (y, B, R) => some ((x, y), bs ++ B, pid i :: R)
   | _, _ => none
  | _ => none
 | i, .bc l :: ps => match look own (pid i) with
  | some (.cells rs) => match cellsIn (selfFk ps0) own l rs, outPs ps0 own (i + 1) ps with
   | some (x, b, J), some (y, B, R) => some ((x, y), b ++ B, pid i :: (J ++ R))
   | _, _ => none
  | _ => none
 | i, .fv _ :: ps => outPs ps0 own (i + 1) ps
 | i, .fb f :: ps => match look own (pid i) with
  | some (.cells rs) => bif selfIs f (pid i) rs then match outPs ps0 own (i + 1) ps with
   | some (y, B, R) => some (((), y), B, pid i :: R)
   | none => none
   else none
  | _ => none
 | i, .ag _ _ :: ps => outPs ps0 own (i + 1) ps
 | i, .go _ _ :: ps => outPs ps0 own (i + 1) ps
 | i, .fn _ _ :: ps => outPs ps0 own (i + 1) ps
 | i, .rp _ :: ps => outPs ps0 own (i + 1) ps
def oneOf : Slot N → Option (RV N)
 | .one r => some r
 | _ => none
def resRV (τ : TypeId → Option TI) (σ : St N) : ResultVar → Option (RV N)
 | .tmp t => some (ev σ (.tmp t))
 | .cell a t => match τ t with
  | some ⟨.nm n, _⟩ => match ev σ (.tmp a) with
   | .bptr id 0 => match look σ.own id with
    | some (.whole (.nm m) x bs) => bif Nat.beq m n then some (ofDen (.nm m) x bs) else none
    | _ => none
   | .optr id 0 0 => match look σ.own id with
    | some (.row e' T' xs bs _) => evLoadArr (.nm n) e' T' xs bs 0 0 fun s _ => oneOf s
    | _ => none
   | _ => none
  | none => none
  | some _ => match ev σ (.tmp a) with
   | .bptr id 0 => match look σ.own id with
    | some (.cells [r]) => some r
    | some (.whole ty x bs) => bif isNm ty then none else some (ofDen ty x bs)
    | _ => none
   | _ => none
def resCs (τ : TypeId → Option TI) (σ : St N) : ResultVar → Option (Nat × List (RV N))
 | .tmp _ => none
 | .cell a t => match τ t with
  | some ⟨.nm n, _⟩ => match ev σ (.tmp a) with
   | .bptr id 0 => match look σ.own id with
    | some (.cells l) => bif Nat.beq l.length (N.size n) && l.all cellK then some (n, l) else none
    | _ => none
   | _ => none
  | _ => none
def resRVs (τ : TypeId → Option TI) (σ : St N) : Nat → List ResultVar → Option (List (RV N) × List (Nat × Blk N))
 | _, [] => some ([], [])
 | i, r :: l => match resCs τ σ r with
  | some (n, cs) => match look σ.own (700000 + i), resRVs τ { σ with own := ins (700000 + i) (.vals n cs) σ.own } (i + 1) l with
   | none, some (y, ad) => some (.mp (700000 + i) :: y, ad ++ [(700000 + i, .vals n cs)])
   | _, _ => none
  | none => match resRV τ σ r, resRVs τ σ (i + 1) l with
   | some x, some (y, ad) => some (x :: y, ad)
   | _, _ => none
def resPs (σ : St N) : (rs : List RK) → List (RV N) → Option (HRes N.ρ rs × List Nat × List Nat)
 | [], [] => some ((), [], [])
 | .v t :: rs, d :: ds => match toDen σ.own t d, resPs σ rs ds with
  | some (x, b), some (y, B, R) => some ((x, y), b ++ B, R)
  | _, _ => none
 | .own el e :: rs, d :: ds => match d with
  | .own j => match look σ.own j with
   | some (.row el' e' xs bs false) => bif eqB el' el then match castTy N (.sl e') (.sl e) xs, resPs σ rs ds with
    | some xs, some (y, B, R) => some ((xs, y), bs ++ B, j :: R)
    | _, _ => none
    else none
   | _ => none
  | .nil => match resPs σ rs ds with
   | some (y, B, R) => some (([], y), B, R)
   | none => none
  | _ => none
 | .ag n l :: rs, d :: ds => match d with
  | .mp id => match look σ.own id with
   | some (.vals m us) => bif Nat.beq m n then match cellsIn noFk σ.own l us, resPs σ rs ds with
    | some (x, b, J), some (y, B, R) => some ((x, y), b ++ B, J ++ R)
    | _, _ => none
    else none
   | _ => none
  | _ => none
 | _, _ => none
def finish (τ : TypeId → Option TI) (ps : List PK) (rs : List RK) (ds : List ResultVar) (σ : St N) : Option (HRes N.ρ rs × HOut N.ρ ps) :=
 match resRVs τ σ 0 ds with
 | none => none
 | some (ds, ad) => match resPs { σ with own := insAll ad σ.own } rs ds, outPs ps (insAll ad σ.own) 0 ps with
  | some (y, B, R), some (z, B', R') => bif nodupB (R' ++ R) && !meets (R' ++ R) (B ++ B') then some (y, z) else none
  | _, _ => none
def rvSem (tmps : Array Value) : ResultVar → Sem Value
 | .tmp t => pure (tmps.getD t undef)
 | .cell a t => do loadVar t (← asAddr (tmps.getD a undef))
theorem resRV_rel {τ : TypeId → Option TI} (F : Fits P N τ) (h : RelE io w0 σ E a w) {rv : ResultVar} {r : RV N} (hr : resRV τ σ rv = some r) : ∃ v, (rvSem a.tmps rv).run P w = .ok v w ∧ RVRel w σ.own E r v := by
 cases rv with
 | tmp t =>
  cases hr
  exact ⟨_, rfl, h.ev (.tmp t)⟩
 | cell d t =>
  simp only [resRV] at hr
  split at hr
  ·rename_i n e hτ
   split at hr
   ·rename_i id hid
    have hev := h.ev (.tmp d)
    rw [hid] at hev
    obtain ⟨_, g, e1, e2⟩ := hev
    have e2 : a.tmps.getD d undef = .pointer (some ⟨g, 0, none⟩) := e2
    split at hr
    ·rename_i m x bs hlk
     cases hm : Nat.beq m n with
     | false => rw [hm] at hr; cases hr
     | true =>
      rw [hm] at hr
      cases hr
      obtain rfl := Nat.eq_of_beq_eq_true hm
      obtain ⟨g', T, arr, c1, c2, c3⟩ := h.own id _ hlk
      rw [e1] at c1
      cases c1
      have hc : ∀ (j : Nat) u, arr.toList[j]? = some u → w.cell? ((⟨g, 0, none⟩ : Addr).add j) = some u := by
       intro j u hu
       have hadd : (⟨g, 0, none⟩ : Addr).add j = ⟨g, j, none⟩ := by unfold Addr.add; split <;> simp_all
       rw [hadd, cell_of_row w g _ arr T (0, 0) c2]
       simpa using hu
      obtain ⟨v, r1, r2⟩ := F.load hτ c3 hc
      refine ⟨v, ?_, ofDen_rel c3 r2⟩
      simp only [Instr.loadAt, Instr.sureAddr, Sem.run_bind, Sem.run_pure, Result.andThen_ok] at r1
      simpa [rvSem, e2, asAddr] using r1
    ·cases hr
   ·rename_i id hid
    have hev := h.ev (.tmp d)
    rw [hid] at hev
    obtain ⟨g, cap, n', t', ⟨e2, xs2, bs2, p2, q1, q2⟩, g2, g3, g4⟩ := hev
    have g4 : a.tmps.getD d undef = .pointer (some ⟨g, 0 * N.sz t' + 0, none⟩) := g4
    split at hr
    ·rename_i e' T' xs bs p hl
     rw [hl] at q1
     cases q1
     obtain ⟨n0, y, hn0, _, _, h1, _, h3⟩ := evLoadArr_some hr
     cases hn0
     cases h1
     obtain ⟨cells, c1, c2⟩ := h.own id _ hl
     have hrep := h3 c1 (by rw [g3]; exact fun e => by cases e) c2
     rcases c1.2 with ⟨hv, hn⟩ | ⟨g', cap', cur, T0, fz, hv, hg, _, _, _, _, _, ht⟩
     ·rw [g3] at hv; cases hv
     ·rw [g3] at hv
      simp only [Value.slice.injEq, Option.some.injEq, Addr.mk.injEq] at hv
      obtain ⟨⟨rfl, _⟩, _, rfl⟩ := hv
      obtain ⟨v, r1, r2⟩ := F.load hτ (w := w) (ad := ⟨g, 0 * N.sz t' + 0, none⟩) hrep (fun j u hu => by
       rw [← ht, List.getElem?_take] at hu
       split at hu
       ·rw [show (⟨g, 0 * N.sz t' + 0, none⟩ : Addr).add j = ⟨g, 0 * N.sz t' + 0 + j, none⟩ from by unfold Addr.add; split <;> simp_all, cell_of_row w g _ cur _ _ hg, show 0 * N.sz t' + 0 + j = j from by omega]
        simpa using hu
       ·cases hu)
      refine ⟨v, ?_, cells, hrep, r2⟩
      simp only [Instr.loadAt, Instr.sureAddr, Sem.run_bind, Sem.run_pure, Result.andThen_ok] at r1
      rw [rvSem, g4]
      simpa [asAddr] using r1
    ·cases hr
   ·cases hr
  ·cases hr
  ·rename_i ti hn hτ
   obtain ⟨ty, e⟩ := ti
   have hagg : (Go.isAgg t).run P w = .ok false w := by
    rw [F.isAgg hτ w]
    cases ty with
    | nm n => exact (hn n e rfl).elim
    | _ => rfl
   split at hr
   ·rename_i id hid
    have hev := h.ev (.tmp d)
    rw [hid] at hev
    obtain ⟨_, g, e1, e2⟩ := hev
    have e2 : a.tmps.getD d undef = .pointer (some ⟨g, 0, none⟩) := e2
    have run : ∀ u, w.cell? ⟨g, 0, none⟩ = some u → (rvSem a.tmps (.cell d t)).run P w = .ok u w := by
     intro u hu
     simp [rvSem, e2, asAddr, loadVar, hagg, hu]
    have cell : ∀ {T : TypeId} {arr : Array Value} {u : Value}, w.heap[g]? = some (.cells arr T (0, 0)) → arr[0]? = some u → w.cell? ⟨g, 0, none⟩ = some u := by
     intro T arr u hg hu
     have := h.box (id := 0) hg 0 0 u (by simpa using hu)
     simpa [Addr.add] using this
    split at hr
    ·rename_i r' hlk
     cases hr
     obtain ⟨g', T, arr, c1, c2, c3, c4⟩ := h.own id _ hlk
     rw [e1] at c1
     cases c1
     have hlt : 0 < arr.size := by rw [c3]; simp
     have hu : arr[0]? = some arr[0] := Array.getElem?_eq_getElem hlt
     exact ⟨_, run _ (cell c2 hu), c4 0 r _ rfl hu⟩
    ·rename_i ty' x bs hlk
     cases hm : isNm ty' with
     | true => rw [hm] at hr; cases hr
     | false =>
      rw [hm] at hr
      cases hr
      obtain ⟨g', T, arr, c1, c2, c3⟩ := h.own id _ hlk
      rw [e1] at c1
      cases c1
      have hlen : arr.size = 1 := by
       have := Rep_length c3
       rw [Array.length_toList] at this
       rw [this]
       cases ty' with
       | nm n => cases hm
       | _ => rfl
      have hu : arr[0]? = some (arr[0]'(by omega)) := Array.getElem?_eq_getElem (by omega)
      refine ⟨_, run _ (cell c2 hu), ofDen_rel c3 ?_⟩
      have hl : arr.toList = [arr[0]'(by omega)] := by
       obtain ⟨l⟩ := arr
       match l, hlen with
       | [v], _ => rfl
      cases ty' with
      | nm n => cases hm
      | _ => exact hl
    ·cases hr
   ·cases hr
theorem insAll_append {β : Type} : ∀ (a b l : List (Nat × β)), insAll (a ++ b) l = insAll a (insAll b l)
 | [], _, _ => rfl
 | (i, v) :: a, b, l => by simp only [List.cons_append, insAll, insAll_append a b l]
theorem resCs_rel {τ : TypeId → Option TI} (F : Fits P N τ) (h : RelE io w0 σ E a w) {rv : ResultVar} {n : Nat} {l : List (RV N)} (hr : resCs τ σ rv = some (n, l)) :
  ∃ arr : Array Value, (rvSem a.tmps rv).run P w = .ok (.agg arr) w ∧ arr.size = l.length ∧ (∀ u ∈ arr.toList, u.oneCell' = true) ∧ ∀ (i : Nat) r u, l[i]? = some r → arr[i]? = some u → RVRel w σ.own E r u := by
 cases rv with
 | tmp t => cases hr
 | cell d t =>
  simp only [resCs] at hr
  split at hr
  ·rename_i n' e hτ
   split at hr
   ·rename_i id hid
    split at hr
    ·rename_i l' hlk
     obtain ⟨hc, hr⟩ := bif_none hr
     cases hr
     simp only [Bool.and_eq_true] at hc
     have hlen := Nat.eq_of_beq_eq_true hc.1
     have hev := h.ev (.tmp d)
     rw [hid] at hev
     obtain ⟨_, g, e1, e2⟩ := hev
     have e2 : a.tmps.getD d undef = .pointer (some ⟨g, 0, none⟩) := e2
     obtain ⟨g', T, arr, c1, c2, c3, c4⟩ := h.own id _ hlk
     rw [e1] at c1
     cases c1
     have hl := F.loadCells hτ (w := w) (cs := arr.toList) (ad := ⟨g, 0, none⟩) (by simpa [hlen] using c3) (fun j u hu => h.box (id := id) c2 0 j u (by simpa using hu))
     refine ⟨arr, ?_, c3, fun u hu => ?_, c4⟩
     ·simp only [Instr.loadAt, Instr.sureAddr, Sem.run_bind, Sem.run_pure, Result.andThen_ok] at hl
      simpa [rvSem, e2, asAddr] using hl
     ·obtain ⟨i, hi⟩ := List.getElem?_of_mem hu
      have hi : arr[i]? = some u := by simpa using hi
      have hlt : i < l.length := by rw [← c3]; exact (Array.getElem?_eq_some_iff.1 hi).1
      exact h.cellOne (c4 i l[i] u (List.getElem?_eq_getElem hlt) hi) (List.all_eq_true.1 hc.2 _ (List.getElem_mem hlt))
    ·cases hr
   ·cases hr
  ·cases hr
theorem resRVs_rel {τ : TypeId → Option TI} (F : Fits P N τ) : ∀ {rvs : List ResultVar} {σ : St N} {E : Env} {i : Nat} {l : List (RV N)} {ad : List (Nat × Blk N)}, RelE io w0 σ E a w → resRVs τ σ i rvs = some (l, ad) →
  ∃ (E' : Env) (us : List Value), RelE io w0 { σ with own := insAll ad σ.own } E' a w ∧ (∀ r v, RVRel w σ.own E r v → RVRel w (insAll ad σ.own) E' r v) ∧ us.length = l.length ∧ us.length = rvs.length ∧ (∀ (i : Nat) rv u, rvs[i]? = some rv → us[i]? = some u → (rvSem a.tmps rv).run P w = .ok u w) ∧
   ∀ (i : Nat) r u, l[i]? = some r → us[i]? = some u → RVRel w (insAll ad σ.own) E' r u
 | [], σ, E, i, l, ad, h, hl => by
  cases hl
  exact ⟨E, [], h, (fun _ _ h => h), rfl, rfl, (fun i rv u hi _ => by simp at hi), fun i rv u hi _ => by simp at hi⟩
 | rv :: rvs, σ, E, i, l, ad, h, hl => by
  simp only [resRVs] at hl
  split at hl
  ·rename_i n cs hcs
   split at hl
   ·rename_i y ad' hno hy
    cases hl
    obtain ⟨arr, k1, k2, k3, k4⟩ := resCs_rel F h hcs
    have hadd := h.add (Ext.refl w) (V := .agg arr) (b := .vals n cs) hno (fun g hg => by cases hg) ⟨arr, updE_same _ _ _, k2, k3, fun i r u hi hu => RVRel_ins (Ext.refl w) hno (fun g hg => by cases hg) (k4 i r u hi hu)⟩
    obtain ⟨E', us, q1, q2, q3, q4, q5, q6⟩ := resRVs_rel F hadd hy
    have hown : insAll (ad' ++ [(700000 + i, Blk.vals n cs)]) σ.own = insAll ad' (ins (700000 + i) (.vals n cs) σ.own) := by rw [insAll_append]; rfl
    refine ⟨E', .agg arr :: us, by rw [hown]; exact q1, fun r v hr => by rw [hown]; exact q2 r v (RVRel_ins (Ext.refl w) hno (fun g hg => by cases hg) hr), by simp [q3], by simp [q4], fun j rv u hj hu => ?_, fun j r u hj hu => ?_⟩
    ·cases j with
     | zero =>
      simp only [List.getElem?_cons_zero, Option.some.injEq] at hj hu
      subst hj hu
      exact k1
     | succ j => exact q5 j rv u (by simpa using hj) (by simpa using hu)
    ·rw [hown]
     cases j with
     | zero =>
      simp only [List.getElem?_cons_zero, Option.some.injEq] at hj hu
      subst hj hu
      refine q2 _ _ ⟨.inr (.inr (.inr ⟨n, cs, ?_⟩)), (updE_same _ _ _).symm⟩
      show look (ins (700000 + i) (Blk.vals n cs) σ.own) (700000 + i) = _
      rw [look_ins, if_pos rfl]
     | succ j => exact q6 j r u (by simpa using hj) (by simpa using hu)
   ·cases hl
  ·split at hl
   ·rename_i x y ad' hx hy
    cases hl
    obtain ⟨v, v1, v2⟩ := resRV_rel F h hx
    obtain ⟨E', us, q1, q2, q3, q4, q5, q6⟩ := resRVs_rel F h hy
    refine ⟨E', v :: us, q1, q2, by simp [q3], by simp [q4], fun j rv u hj hu => ?_, fun j r u hj hu => ?_⟩
    ·cases j with
     | zero =>
      simp only [List.getElem?_cons_zero, Option.some.injEq] at hj hu
      subst hj hu
      exact v1
     | succ j => exact q5 j rv u (by simpa using hj) (by simpa using hu)
    ·cases j with
     | zero =>
      simp only [List.getElem?_cons_zero, Option.some.injEq] at hj hu
      subst hj hu
      exact q2 _ _ v2
     | succ j => exact q6 j r u (by simpa using hj) (by simpa using hu)
   ·cases hl
theorem HCRel_mono {ok ok' : Nat → Prop} {vs0 : List Value} (h : ∀ g, ok g → ok' g) : ∀ {l : List CK} {x : HC N.ρ l} {us : List Value}, HCRel w ok vs0 l x us → HCRel w ok' vs0 l x us
 | [], _, _, hh => hh
 | .c t :: l, x, us, ⟨u, rest, e, k1, k2⟩ => ⟨u, rest, e, Rep_mono (fun _ _ _ h => h) h k1, HCRel_mono h k2⟩
 | .o el t :: l, x, us, ⟨u, rest, e, ⟨cells, k1, k3⟩, k2⟩ => ⟨u, rest, e, ⟨cells, k1, RowC_mono (fun x cs hx => Rep_mono (fun _ _ _ h => h) h hx) k3⟩, HCRel_mono h k2⟩
 | .f f js :: l, x, us, ⟨u, rest, e, k1, k2⟩ => ⟨u, rest, e, k1, HCRel_mono h k2⟩
theorem out_rel (h : RelE io w0 σ E a w) {okA : Nat → Prop} {B0 : List Nat} {ps0 : List PK} {vs0 : List Value} (hfk : ∀ f js r u, selfFk ps0 f js r = true → RVRel w σ.own E r u → u = closV vs0 f js) (hA : ∀ g, okb w.heap.size σ.own E B0 g → okA g) : ∀ (ps : List PK) (i : Nat) (vs : List Value) (y : HOut N.ρ ps) (B R : List Nat), outPs ps0 σ.own i ps = some (y, B, R) → (∀ k ∈ B, k ∈ B0) → vs.length = ps.length →
  (∀ (j : Nat) p v, ps[j]? = some p → vs[j]? = some v → pinned1 p = true → E (pid (i + j)) = v) →
  OutRel w okA vs0 ps y vs (R.flatMap fun id => oneBlk (E id)) ∧ ∀ id ∈ R, ∃ b, look σ.own id = some b
 | [], i, vs, y, B, R, ho, hB, hl, hv => by
  cases ho
  exact ⟨rfl, fun id hid => by cases hid⟩
 | .v t :: ps, i, vs, y, B, R, ho, hB, hl, hv => by
  match vs, hl with
  | v :: vs, hl =>
   exact out_rel h hfk hA ps (i + 1) vs y B R ho hB (by simpa using hl) (fun j p v hp hv' hpin => by
    rw [show i + 1 + j = i + (j + 1) from by omega]
    exact hv (j + 1) p v (by simpa using hp) (by simpa using hv') hpin)
 | .io el e :: ps, i, vs, y, B, R, ho, hB, hl, hv => by
  match vs, hl with
  | v :: vs, hl =>
   have hEv : E (pid i) = v := hv 0 _ v rfl rfl rfl
   simp only [outPs] at ho
   split at ho
   ·rename_i el' e' xs bs p hlk
    obtain ⟨hel, ho⟩ := bif_none ho
    obtain ⟨hel, hlt⟩ := eqB_spec hel
    subst hel
    split at ho
    ·rename_i xs' y1 B1 R1 h1 h2
     cases ho
     obtain ⟨et, rfl⟩ := castTy_some h1
     cases et
     obtain ⟨q1, q2⟩ := out_rel h hfk hA ps (i + 1) vs y1 B1 R1 h2 (fun k hk => hB k (List.mem_append.2 (.inr hk))) (by simpa using hl) (fun j p v hp hv' hpin => by
      rw [show i + 1 + j = i + (j + 1) from by omega]
      exact hv (j + 1) p v (by simpa using hp) (by simpa using hv') hpin)
     obtain ⟨cells, c1, c2⟩ := ownAt_more (fun k hk => hB k (List.mem_append.2 (.inl hk))) (h.ownAt hlk hlt)
     rw [hEv] at c1
     exact ⟨⟨v, vs, oneBlk v, _, rfl, by rw [List.flatMap_cons, hEv], ⟨⟨cells, c1, RowC_mono (fun x cs hx => Rep_mono (fun _ _ _ h => h) hA hx) c2⟩, rfl⟩, q1⟩, fun id hid => by
      rcases List.mem_cons.1 hid with rfl | hid
      ·exact ⟨_, hlk⟩
      ·exact q2 id hid⟩
    ·cases ho
   ·cases ho
 | .bw t :: ps, i, vs, y, B, R, ho, hB, hl, hv => by
  match vs, hl with
  | v :: vs, hl =>
   have hEv : E (pid i) = v := hv 0 _ v rfl rfl rfl
   simp only [outPs] at ho
   split at ho
   ·rename_i t' x bs hlk
    split at ho
    ·rename_i x' y1 B1 R1 h1 h2
     cases ho
     obtain ⟨rfl, rfl⟩ := castTy_some h1
     obtain ⟨q1, q2⟩ := out_rel h hfk hA ps (i + 1) vs y1 B1 R1 h2 (fun k hk => hB k (List.mem_append.2 (.inr hk))) (by simpa using hl) (fun j p v hp hv' hpin => by
      rw [show i + 1 + j = i + (j + 1) from by omega]
      exact hv (j + 1) p v (by simpa using hp) (by simpa using hv') hpin)
     obtain ⟨g, T, arr, c1, c2, c3⟩ := h.own _ _ hlk
     have c3 := Rep_more (fun k hk => hB k (List.mem_append.2 (.inl hk))) c3
     rw [hEv] at c1
     exact ⟨⟨v, vs, [g], _, rfl, by rw [List.flatMap_cons, hEv, c1]; rfl, ⟨g, T, arr, ⟨c1, c2⟩, Rep_mono (fun _ _ _ h => h) hA c3, rfl⟩, q1⟩, fun id hid => by
      rcases List.mem_cons.1 hid with rfl | hid
      ·exact ⟨_, hlk⟩
      ·exact q2 id hid⟩
    ·cases ho
   ·cases ho
 | .ag n l :: ps, i, vs, y, B, R, ho, hB, hl, hv => by
  match vs, hl with
  | v :: vs, hl =>
   exact out_rel h hfk hA ps (i + 1) vs y B R ho hB (by simpa using hl) (fun j p v hp hv' hpin => by
    rw [show i + 1 + j = i + (j + 1) from by omega]
    exact hv (j + 1) p v (by simpa using hp) (by simpa using hv') hpin)
 | .go el e :: ps, i, vs, y, B, R, ho, hB, hl, hv => by
  match vs, hl with
  | v :: vs, hl =>
   exact out_rel h hfk hA ps (i + 1) vs y B R ho hB (by simpa using hl) (fun j p v hp hv' hpin => by
    rw [show i + 1 + j = i + (j + 1) from by omega]
    exact hv (j + 1) p v (by simpa using hp) (by simpa using hv') hpin)
 | .fn f js :: ps, i, vs, y, B, R, ho, hB, hl, hv => by
  match vs, hl with
  | v :: vs, hl =>
   exact out_rel h hfk hA ps (i + 1) vs y B R ho hB (by simpa using hl) (fun j p v hp hv' hpin => by
    rw [show i + 1 + j = i + (j + 1) from by omega]
    exact hv (j + 1) p v (by simpa using hp) (by simpa using hv') hpin)
 | .rp t :: ps, i, vs, y, B, R, ho, hB, hl, hv => by
  match vs, hl with
  | v :: vs, hl =>
   exact out_rel h hfk hA ps (i + 1) vs y B R ho hB (by simpa using hl) (fun j p v hp hv' hpin => by
    rw [show i + 1 + j = i + (j + 1) from by omega]
    exact hv (j + 1) p v (by simpa using hp) (by simpa using hv') hpin)
 | .fv f :: ps, i, vs, y, B, R, ho, hB, hl, hv => by
  match vs, hl with
  | v :: vs, hl =>
   exact out_rel h hfk hA ps (i + 1) vs y B R ho hB (by simpa using hl) (fun j p v hp hv' hpin => by
    rw [show i + 1 + j = i + (j + 1) from by omega]
    exact hv (j + 1) p v (by simpa using hp) (by simpa using hv') hpin)
 | .fb f :: ps, i, vs, y, B, R, ho, hB, hl, hv => by
  match vs, hl with
  | v :: vs, hl =>
   have hEv : E (pid i) = v := hv 0 _ v rfl rfl rfl
   simp only [outPs] at ho
   split at ho
   ·rename_i rs hlk
    obtain ⟨hf, ho⟩ := bif_none ho
    rw [selfIs_spec hf] at hlk
    split at ho
    ·rename_i y1 B1 R1 h2
     cases ho
     obtain ⟨q1, q2⟩ := out_rel h hfk hA ps (i + 1) vs y1 B R1 h2 hB (by simpa using hl) (fun j p v hp hv' hpin => by
      rw [show i + 1 + j = i + (j + 1) from by omega]
      exact hv (j + 1) p v (by simpa using hp) (by simpa using hv') hpin)
     obtain ⟨g, T, arr, c1, c2, c3, c4⟩ := h.own _ _ hlk
     rw [hEv] at c1
     refine ⟨⟨v, vs, [g], _, rfl, by rw [List.flatMap_cons, hEv, c1]; rfl, ⟨g, T, arr, ⟨c1, c2⟩, ?_, rfl⟩, q1⟩, fun id hid => ?_⟩
     ·obtain ⟨l⟩ := arr
      match l, c3 with
      | [u], _ =>
       have := (c4 0 _ u rfl (by simp)).1
       rw [this, ← hEv]
       rfl
     ·rcases List.mem_cons.1 hid with rfl | hid
      ·exact ⟨_, hlk⟩
      ·exact q2 id hid
    ·cases ho
   ·cases ho
 | .bc l :: ps, i, vs, y, B, R, ho, hB, hl, hv => by
  match vs, hl with
  | v :: vs, hl =>
   have hEv : E (pid i) = v := hv 0 _ v rfl rfl rfl
   simp only [outPs] at ho
   split at ho
   ·rename_i rs hlk
    split at ho
    ·rename_i x b J y1 B1 R1 h1 h2
     cases ho
     obtain ⟨q1, q2⟩ := out_rel h hfk hA ps (i + 1) vs y1 B1 R1 h2 (fun k hk => hB k (List.mem_append.2 (.inr hk))) (by simpa using hl) (fun j p v hp hv' hpin => by
      rw [show i + 1 + j = i + (j + 1) from by omega]
      exact hv (j + 1) p v (by simpa using hp) (by simpa using hv') hpin)
     obtain ⟨g, T, arr, c1, c2, c3, c4⟩ := h.own _ _ hlk
     obtain ⟨p1, p2, p3⟩ := cellsIn_rel h (B0 := B0) hfk l rs arr.toList x b J h1 (by simpa using c3) (fun i r u hi hu => c4 i r u hi (by simpa using hu)) (fun i hi => hB i (List.mem_append.2 (.inl hi)))
     rw [hEv] at c1
     refine ⟨⟨v, vs, g :: HCBlk l arr.toList, _, rfl, ?_, ⟨g, T, arr, ⟨c1, c2⟩, HCRel_mono hA p1, rfl⟩, q1⟩, fun id hid => ?_⟩
     ·rw [List.flatMap_cons, List.flatMap_append, hEv, c1, p2]
      simp [oneBlk, blkOf]
     ·rcases List.mem_cons.1 hid with rfl | hid
      ·exact ⟨_, hlk⟩
      ·rcases List.mem_append.1 hid with hid | hid
       ·obtain ⟨b, hb, _⟩ := p3 id hid
        exact ⟨b, hb⟩
       ·exact q2 id hid
    ·cases ho
   ·cases ho
theorem resPs_rel (h : RelE io w0 σ E a w) {okA : Nat → Prop} {B0 : List Nat} (hA : ∀ g, okb w.heap.size σ.own E B0 g → okA g) : ∀ (rs : List RK) (ds : List (RV N)) (us : List Value) (y : HRes N.ρ rs) (B R : List Nat), resPs σ rs ds = some (y, B, R) → (∀ k ∈ B, k ∈ B0) →
  us.length = ds.length → (∀ (i : Nat) r u, ds[i]? = some r → us[i]? = some u → RVRel w σ.own E r u) →
  ResRel w okA rs y us (R.flatMap fun id => oneBlk (E id)) ∧ ∀ id ∈ R, ∃ b, look σ.own id = some b
 | [], [], us, y, B, R, hr, hB, hl, hu => by
  cases hr
  rw [List.eq_nil_of_length_eq_zero hl]
  exact ⟨⟨rfl, rfl⟩, fun id hid => by cases hid⟩
 | [], _ :: _, us, y, B, R, hr, hB, hl, hu => by cases hr
 | .v t :: rs, [], us, y, B, R, hr, hB, hl, hu => by cases hr
 | .own el e :: rs, [], us, y, B, R, hr, hB, hl, hu => by cases hr
 | .ag n l :: rs, [], us, y, B, R, hr, hB, hl, hu => by cases hr
 | .ag n l :: rs, d :: ds, us, y, B, R, hr, hB, hl, hu => by
  match us, hl with
  | u :: us, hl =>
   have hu0 := hu 0 d u rfl rfl
   have hus : ∀ (i : Nat) r u, ds[i]? = some r → us[i]? = some u → RVRel w σ.own E r u := fun i r u hi hu' => hu (i + 1) r u (by simpa using hi) (by simpa using hu')
   simp only [resPs] at hr
   split at hr
   ·rename_i _ id _
    split at hr
    ·rename_i m cs hlk
     obtain ⟨hm, hr⟩ := bif_none hr
     split at hr
     ·rename_i x b J y1 B1 R1 h1 h2
      cases hr
      obtain ⟨q1, q2⟩ := resPs_rel h hA rs ds us y1 B1 R1 h2 (fun k hk => hB k (List.mem_append.2 (.inr hk))) (by simpa using hl) hus
      obtain ⟨arr, c1, c2, c3, c4⟩ := h.own _ _ hlk
      obtain ⟨p1, p2, p3⟩ := cellsIn_rel h (B0 := B0) noFk_rel l cs arr.toList x b J h1 (by simpa using c2) (fun i r u hi hu => c4 i r u hi (by simpa using hu)) (fun i hi => hB i (List.mem_append.2 (.inl hi)))
      refine ⟨⟨u, us, HCBlk l arr.toList, _, rfl, ?_, ⟨arr.toList, by rw [hu0.2, c1], HCRel_mono hA p1, rfl⟩, q1⟩, fun id hid => ?_⟩
      ·rw [List.flatMap_append, p2]
      ·rcases List.mem_append.1 hid with hid | hid
       ·obtain ⟨b, hb, _⟩ := p3 id hid
        exact ⟨b, hb⟩
       ·exact q2 id hid
     ·cases hr
    ·cases hr
   ·cases hr
 | .v t :: rs, d :: ds, us, y, B, R, hr, hB, hl, hu => by
  match us, hl with
  | u :: us, hl =>
   have hu0 := hu 0 d u rfl rfl
   have hus : ∀ (i : Nat) r u, ds[i]? = some r → us[i]? = some u → RVRel w σ.own E r u := fun i r u hi hu' => hu (i + 1) r u (by simpa using hi) (by simpa using hu')
   simp only [resPs] at hr
   split at hr
   ·rename_i x b y1 B1 R1 h1 h2
    cases hr
    obtain ⟨q1, q2⟩ := resPs_rel h hA rs ds us y1 B1 R h2 (fun k hk => hB k (List.mem_append.2 (.inr hk))) (by simpa using hl) hus
    obtain ⟨cs, k1, k2⟩ := h.toDen h1 hu0
    exact ⟨⟨_, _, [], _, rfl, rfl, ⟨⟨cs, Rep_mono (fun _ _ _ h => h) hA (Rep_more (fun k hk => hB k (List.mem_append.2 (.inl hk))) k1), k2⟩, rfl⟩, q1⟩, q2⟩
   ·cases hr
 | .own el e :: rs, d :: ds, us, y, B, R, hr, hB, hl, hu => by
  match us, hl with
  | u :: us, hl =>
   have hev := hu 0 d u rfl rfl
   have hus : ∀ (i : Nat) r u, ds[i]? = some r → us[i]? = some u → RVRel w σ.own E r u := fun i r u hi hu' => hu (i + 1) r u (by simpa using hi) (by simpa using hu')
   simp only [resPs] at hr
   split at hr
   ·rename_i _ j _
    split at hr
    ·rename_i el' e' xs bs hlk
     obtain ⟨hel, hr⟩ := bif_none hr
     obtain ⟨hel, hlt⟩ := eqB_spec hel
     subst hel
     split at hr
     ·rename_i xs' y1 B1 R1 h1 h2
      cases hr
      obtain ⟨et, rfl⟩ := castTy_some h1
      cases et
      obtain ⟨q1, q2⟩ := resPs_rel h hA rs ds us y1 B1 R1 h2 (fun k hk => hB k (List.mem_append.2 (.inr hk))) (by simpa using hl) hus
      obtain ⟨cells, c1, c2⟩ := ownAt_more (fun k hk => hB k (List.mem_append.2 (.inl hk))) (h.ownAt hlk hlt)
      rw [← hev.1] at c1
      refine ⟨⟨_, _, oneBlk (E j), _, rfl, rfl, ⟨⟨cells, c1, RowC_mono (fun x cs hx => Rep_mono (fun _ _ _ h => h) hA hx) c2⟩, by rw [← hev.1]⟩, q1⟩, fun id hid => ?_⟩
      rcases List.mem_cons.1 hid with rfl | hid
      ·exact ⟨_, hlk⟩
      ·exact q2 id hid
     ·cases hr
    ·cases hr
   ·split at hr
    ·rename_i y1 B1 R1 h2
     cases hr
     obtain ⟨q1, q2⟩ := resPs_rel h hA rs ds us y1 B R h2 hB (by simpa using hl) hus
     have hev : u = .slice none 0 0 := hev
     refine ⟨⟨_, _, [], _, rfl, rfl, ⟨⟨[], ?_, rfl⟩, ?_⟩, q1⟩, q2⟩
     ·show _ ∧ w.ownsRow 0 el (N.sz e) u 0 []
      rw [hev]
      exact ⟨.inl rfl, by simp, .inl ⟨rfl, rfl⟩⟩
     ·show [] = oneBlk u
      rw [hev]
      rfl
    ·cases hr
   ·cases hr
end Go.Eng

set_option linter.unusedVariables false
set_option linter.unusedSimpArgs false
namespace Go.Eng
variable {N : Names} {P : Program}
theorem results_run {fn : Func} {ds : List ResultVar} (h : fn.results.toList = ds) (hl : ds.length ≤ 5) (tmps : Array Value) (w : World) (us : List Value) (hlen : us.length = ds.length)
  (hus : ∀ (i : Nat) rv u, ds[i]? = some rv → us[i]? = some u → (rvSem tmps rv).run P w = .ok u w) : (results fn tmps).run P w = .ok (packV us) w := by
 have hr : fn.results = ds.toArray := Array.ext' h
 have e : results fn tmps = (do let vs ← fn.results.mapM (rvSem tmps); pure (if h : vs.size = 1 then vs[0] else .tuple vs)) := by
  have hf : rvSem tmps = fun rv => match rv with
    | .tmp t => pure (tmps.getD t undef)
    | .cell a t => (do loadVar t (← asAddr (tmps.getD a undef)) : Sem Value) := (funext fun rv => by cases rv <;> rfl)
  rw [hf]
  rfl
 rw [e, hr]
 clear e
 match ds, hl, us, hlen with
 | [], _, [], _ => simp [packV]
 | [d1], _, [u1], _ =>
  have h1 := hus 0 d1 u1 rfl rfl
  simp [packV, h1]
 | [d1, d2], _, [u1, u2], _ =>
  have h1 := hus 0 d1 u1 rfl rfl
  have h2 := hus 1 d2 u2 rfl rfl
  simp [packV, h1, h2]
 | [d1, d2, d3], _, [u1, u2, u3], _ =>
  have h1 := hus 0 d1 u1 rfl rfl
  have h2 := hus 1 d2 u2 rfl rfl
  have h3 := hus 2 d3 u3 rfl rfl
  simp [packV, h1, h2, h3]
 | [d1, d2, d3, d4], _, [u1, u2, u3, u4], _ =>
  have h1 := hus 0 d1 u1 rfl rfl
  have h2 := hus 1 d2 u2 rfl rfl
  have h3 := hus 2 d3 u3 rfl rfl
  have h4 := hus 3 d4 u4 rfl rfl
  simp [packV, h1, h2, h3, h4]
 | [d1, d2, d3, d4, d5], _, [u1, u2, u3, u4, u5], _ =>
  have h1 := hus 0 d1 u1 rfl rfl
  have h2 := hus 1 d2 u2 rfl rfl
  have h3 := hus 2 d3 u3 rfl rfl
  have h4 := hus 3 d4 u4 rfl rfl
  have h5 := hus 4 d5 u5 rfl rfl
  simp [packV, h1, h2, h3, h4, h5]
structure Fn (N : Names) where
 X : Ctx N
 body : Code
 ds : List ResultVar
 ntmps : Nat
abbrev U : Slot N := .one .undef
def bodyOf (f : Func) : Code := match f.body with
 | some c => c
 | none => .skip
def Fn.C (f : Fn N) (ps : List PK) (rs : List RK) : Conts N (HRes N.ρ rs × HOut N.ρ ps) := ⟨finish f.X.τ ps rs f.ds, fun _ _ => none, finish f.X.τ ps rs f.ds, fun _ _ => none⟩
def Fn.at (f : Fn N) (ps : List PK) (rs : List RK) (n id : Nat) (σ : St N) : Option (HRes N.ρ rs × HOut N.ρ ps) := tbl f.X f.body (f.C ps rs) n id σ
def Fn.from (f : Fn N) (ps : List PK) (rs : List RK) (n : Nat) (σ : St N) : Option (HRes N.ρ rs × HOut N.ρ ps) := exec f.X (f.at ps rs n) f.body (f.C ps rs) σ
def Fn.run (f : Fn N) (ps : List PK) (rs : List RK) (n : Nat) (x : HIn N.ρ ps) : Option (HRes N.ρ rs × HOut N.ρ ps) := f.from ps rs n (init ps f.ntmps f.X.gh x)
theorem callFunc_enter {P : Program} {f : FuncId} {fn : Func} {c : Code} (hf : P.funcs[f]? = some fn) (hb : fn.body = some c) (hn : (fn.name == "runtime.NumGoroutine") = false) (w : World) (args : Array Value) :
  (callFunc f args).run P w = .ok (.enter f args) w := by
 unfold callFunc
 simp only [Sem.run_bind, run_program, Result.andThen_ok, hf, hb, hn, Option.isNone_some, Bool.false_eq_true, if_false, Sem.run_pure]
theorem mem_pinIds : ∀ (ps : List PK) (i j : Nat) (p : PK), ps[j]? = some p → pinned1 p = true → pid (i + j) ∈ pinIds i ps
 | [], i, j, p, hp, _ => by simp at hp
 | q :: ps, i, 0, p, hp, hpin => by
  simp only [List.getElem?_cons_zero, Option.some.injEq] at hp
  subst hp
  cases q with
  | v t => cases hpin
  | fv f => cases hpin
  | ag n l => cases hpin
  | go el e => cases hpin
  | fn f js => cases hpin
  | rp t => cases hpin
  | _ => exact List.mem_cons_self
 | q :: ps, i, j + 1, p, hp, hpin => by
  have := mem_pinIds ps (i + 1) j p (by simpa using hp) hpin
  rw [show i + 1 + j = i + (j + 1) from by omega] at this
  cases q with
  | v t => exact this
  | fv f => exact this
  | ag n l => exact this
  | go el e => exact this
  | fn f js => exact this
  | rp t => exact this
  | _ => exact List.mem_cons_of_mem _ this
theorem frame_of {f : Fn N} (F : Fits P N f.X.τ) {fn : Func} (hres : fn.results.toList = f.ds) (hl : f.ds.length ≤ 5) (ht : fn.ntmps = f.ntmps)
  (S : Spec N) (hgh : f.X.gh = S.gh) (hids : (nodupB (initIds 0 S.ps) && jsOk S.ps S.ps) = true) (hpins : f.X.pins = pinIds 0 S.ps)
  {w : World} {ok : Nat → Prop} {x : HIn N.ρ S.ps} {vs : List Value} {bl : List Nat} (hok : ∀ b, ok b → b < w.heap.size) (hin : InRel w ok vs S.ps x vs bl) (hbl : bl.Nodup) (hblk : ∀ g ∈ bl, ¬ ok g ∧ g < w.heap.size) :
  ∃ io : Io, io.ids = f.X.pins ∧ io.dfs = [] ∧ (∀ g, io.p g ↔ g ∈ bl) ∧
   Rel io w (init S.ps f.ntmps f.X.gh x) { tmps := (vs.take (S.ps.length - S.gh)).toArray ++ Array.replicate (fn.ntmps - (vs.take (S.ps.length - S.gh)).toArray.size) undef, defers := [] } w ∧
   ∀ (r : S.R) σ a w', finish f.X.τ S.ps S.rs f.ds σ = some (S.out r) → Rel io w σ a w' → a.defers = [] ∧ ∃ v, (results fn a.tmps).run P w' = .ok v w' ∧ ∃ us bl' rl, Ending.returned v = .returned (packV us) ∧ AfterCall S ok vs bl w w' r us bl' rl := by
  rw [Bool.and_eq_true] at hids
  obtain ⟨hids, hjs⟩ := hids
  obtain ⟨L, l1, l2, l3, l4, l4', l5, l6, l7⟩ := init_rel (ps0 := S.ps) S.ps 0 x vs bl hin hjs
  have hLids : (L.map (·.1)).Nodup := by rw [l2]; exact nodupB_spec hids
  let E0 : Env := ⟨valOf L, fun b => ok b ∨ b ∈ bl ∨ w.heap.size ≤ b⟩
  let io : Io := ⟨fun g => g ∈ bl, fun b => ok b ∨ b ∈ bl ∨ w.heap.size ≤ b, f.X.pins, valOf L, []⟩
  have hst : Stand L (initOwn 0 S.ps x) E0 := fun e he => by
   have := ent_look hLids e he
   rw [l1] at this
   exact this
  have hof : ∀ id b, look (initOwn 0 S.ps x) id = some b → ∃ e ∈ L, e.1 = id ∧ e.2.1 = b ∧ valOf L id = e.2.2 := by
   intro id b hb
   rw [← l1] at hb
   obtain ⟨e, he, rfl, rfl⟩ := look_ent hb
   exact ⟨e, he, rfl, rfl, (ent_look hLids e he).2⟩
  have hbof : ∀ id b, look (initOwn 0 S.ps x) id = some b → ∀ g, blkOf (valOf L id) = some g → g ∈ bl := by
   intro id b hb g hg
   obtain ⟨e, he, rfl, rfl, hv⟩ := hof id b hb
   rw [hv] at hg
   rw [l3]
   exact List.mem_flatMap.2 ⟨e, he, mem_oneBlk.2 hg⟩
  have hok0 : ∀ g, ok g → okb w.heap.size (initOwn 0 S.ps x) E0 [] g := fun g hg => ⟨⟨hok g hg, .inl hg⟩, fun id hid _ hg2 => by
   obtain ⟨b, hb⟩ := Option.isSome_iff_exists.1 hid
   exact (hblk g (hbof id b hb g hg2)).1 hg⟩
  have hbx : BoxesAt S.ps vs (initOwn 0 S.ps x) E0 := by
   intro j hj
   unfold boxAt at hj
   split at hj
   ·rename_i p hp
    have hlt : j < vs.length := by
     have := (List.getElem?_eq_some_iff.1 hp).1
     omega
    have hpin : pinned1 p = true := by cases p <;> first | rfl | cases hj
    obtain ⟨e, he, e1, e2, e3⟩ := l5 j p vs[j] hp (List.getElem?_eq_getElem hlt) hpin
    rw [Nat.zero_add] at e1
    obtain ⟨s1, s2⟩ := hst e he
    obtain ⟨k1, g, k2⟩ := e3 hj
    have hv : E0 (pid j) = vs[j] := by rw [← e1, ← e2]; exact s2
    refine ⟨?_, ?_, g, hv.trans k2⟩
    ·rw [← e1]
     rcases k1 with ⟨t, y, bs, k1⟩ | ⟨l, k1⟩
     ·exact .inl ⟨t, y, bs, by rw [s1, k1]⟩
     ·exact .inr (.inl ⟨l, by rw [s1, k1]⟩)
    ·rw [hv, List.getD_eq_getElem?_getD, List.getElem?_eq_getElem hlt]
     rfl
   ·cases hj
  obtain ⟨hblkR, hregs⟩ := l7 _ E0 hst hbx hok0
  have hvl : (vs.take (S.ps.length - S.gh)).length = S.ps.length - S.gh := by rw [List.length_take]; omega
  have hrel : Rel io w (init S.ps f.ntmps f.X.gh x) { tmps := (vs.take (S.ps.length - S.gh)).toArray ++ Array.replicate (fn.ntmps - (vs.take (S.ps.length - S.gh)).toArray.size) undef, defers := [] } w := by
   refine ⟨E0, ⟨⟨rfl, rfl, rfl, Nat.le_refl _, fun _ _ _ => rfl⟩, ?_, rfl, ?_, ?_, ?_, ?_, rfl, ?_, ?_⟩⟩
   ·simp [init, l4', ht, l4, hgh]
   ·intro t s hs
    simp only [init, hgh] at hs
    rcases Nat.lt_or_ge t (S.ps.length - S.gh) with hlt | hge
    ·rw [List.getElem?_append_left (by simp [l4', hlt]), List.getElem?_map, List.getElem?_take, if_pos hlt] at hs
     obtain ⟨r0, hr0, rfl⟩ := Option.map_eq_some_iff.1 hs
     have hlt' : t < vs.length := by omega
     have hv : ((vs.take (S.ps.length - S.gh)).toArray ++ Array.replicate (fn.ntmps - (vs.take (S.ps.length - S.gh)).toArray.size) undef).getD t undef = vs[t] := by
      rw [Array.getD_eq_getD_getElem?, Array.getElem?_append_left (by rw [List.size_toArray, hvl]; exact hlt)]
      rw [List.getElem?_toArray, List.getElem?_take, if_pos hlt, List.getElem?_eq_getElem hlt']
      rfl
     rw [hv]
     exact hregs t r0 _ hr0 (List.getElem?_eq_getElem hlt')
    ·rw [List.getElem?_append_right (by simp [l4', hge]), List.getElem?_replicate] at hs
     split at hs
     ·cases hs
      rename_i hlt
      refine ⟨[], ?_, rfl, fun i r u hi _ => by simp at hi⟩
      have : ((vs.take (S.ps.length - S.gh)).toArray ++ Array.replicate (fn.ntmps - (vs.take (S.ps.length - S.gh)).toArray.size) undef).getD t undef = undef := by
       rw [Array.getD_eq_getD_getElem?, Array.getElem?_append_right (by rw [List.size_toArray, hvl]; exact hge)]
       rw [Array.getElem?_replicate]
       split <;> rfl
      rw [this]
      rfl
     ·cases hs
   ·intro id b hb
    obtain ⟨e, he, rfl, rfl, _⟩ := hof id b hb
    exact hblkR e he
   ·intro id b hb g hg
    have := hbof id b hb g hg
    exact ⟨(hblk g this).2, .inr this⟩
   ·intro id id' b b' h1 h2 hne g hg
    obtain ⟨e, he, rfl, rfl, hv⟩ := hof id b h1
    obtain ⟨e', he', rfl, rfl, hv'⟩ := hof id' b' h2
    show blkOf (valOf L e'.1) ≠ some g
    have hg : blkOf (valOf L e.1) = some g := hg
    rw [hv] at hg
    rw [hv']
    exact ent_sep (by rw [← l3]; exact hbl) e he e' he' hne g hg
   ·rintro b (hb | hb)
    ·exact .inr (.inr hb)
    ·exact .inr (.inl hb)
   ·intro i hi
    obtain ⟨e, he, rfl, hp⟩ := l6 i (by rw [← hpins]; exact hi)
    obtain ⟨s1, s2⟩ := hst e he
    exact ⟨e.2.1, s1, rfl, hp⟩
  refine ⟨io, rfl, rfl, fun _ => Iff.rfl, hrel, ?_⟩
  rintro r σ a w' hfin ⟨E, hR⟩
  unfold finish at hfin
  split at hfin
  ·cases hfin
  rename_i rvs ad hrvs
  obtain ⟨E1, us, hR1, _, u1, u2, u3, u4⟩ := resRVs_rel F hR hrvs
  refine ⟨hR.defers, _, results_run hres hl _ _ us u2 u3, ?_⟩
  have hfk : ∀ f' js r u, selfFk S.ps f' js r = true → RVRel w' (insAll ad σ.own) E1 r u → u = closV vs f' js := by
   intro f' js r' u hf' hr'
   unfold selfFk at hf'
   split at hf'
   ·simp only [Bool.and_eq_true] at hf'
    obtain ⟨⟨hf1, hf2⟩, hf3⟩ := hf'
    obtain rfl := Nat.eq_of_beq_eq_true hf1
    obtain rfl := eqNats_spec hf2
    have hf3 := List.all_eq_true.1 hf3
    rw [hr'.1]
    unfold closV
    congr 2
    rw [List.map_map]
    refine List.map_congr_left (fun j hj => ?_)
    have hjb := hf3 j hj
    obtain ⟨_, b2, _⟩ := hbx j hjb
    have hpm : pid j ∈ io.ids := by
     show pid j ∈ f.X.pins
     rw [hpins]
     unfold boxAt at hjb
     split at hjb
     ·rename_i p hp
      have := mem_pinIds S.ps 0 j p hp (by cases p <;> first | rfl | cases hjb)
      rwa [Nat.zero_add] at this
     ·cases hjb
    obtain ⟨b, _, f2, _⟩ := hR1.fx _ hpm
    show E1 (pid j) = _
    rw [f2]
    exact b2
   ·cases hf'
  split at hfin
  ·rename_i y B R z B' R' h1 h2
   obtain ⟨hcond, hfin⟩ := bif_none hfin
   simp only [Bool.and_eq_true, Bool.not_eq_true'] at hcond
   have hout := Option.some.inj hfin
   have hnd := nodupB_spec hcond.1
   have hmt := meets_false hcond.2
   have hall : ∀ id ∈ R' ++ R, ∃ b, look (insAll ad σ.own) id = some b := by
    intro id hid
    rcases List.mem_append.1 hid with hid | hid
    ·exact (out_rel hR1 hfk (okA := fun _ => True) (B0 := B') (fun _ _ => trivial) S.ps 0 vs z B' R' h2 (fun _ h => h) l4 (fun j p v hp hv hpin => by
      obtain ⟨e, he, e1, e2, _⟩ := l5 j p v hp hv hpin
      have hpm : pid (0 + j) ∈ io.ids := by
       show pid (0 + j) ∈ f.X.pins
       rw [hpins]
       exact mem_pinIds S.ps 0 j p hp hpin
      obtain ⟨b, _, f2, _⟩ := hR1.fx _ hpm
      rw [f2]
      show valOf L (pid (0 + j)) = v
      rw [← e1, (ent_look hLids e he).2, e2])).2 id hid
    ·exact (resPs_rel hR1 (okA := fun _ => True) (B0 := B) (fun _ _ => trivial) S.rs rvs us y B R h1 (fun _ h => h) u1 u4).2 id hid
   have hA : ∀ g, okb w'.heap.size (insAll ad σ.own) E1 (B ++ B') g → okAfter ok w w' bl (((R'.flatMap fun id => oneBlk (E1 id))) ++ (R.flatMap fun id => oneBlk (E1 id))) g := by
    rintro g ⟨⟨g1, g2⟩, g3⟩
    refine ⟨g1, by rw [hR1.sc] at g2; exact g2, fun hm => ?_⟩
    rw [← List.flatMap_append] at hm
    obtain ⟨id, hid, hg⟩ := List.mem_flatMap.1 hm
    obtain ⟨b, hb⟩ := hall id hid
    exact g3 id (by rw [hb]; rfl) (fun hm => hmt id hm hid) (mem_oneBlk.1 hg)
   obtain ⟨q1, _⟩ := out_rel hR1 hfk hA S.ps 0 vs z B' R' h2 (fun _ h => List.mem_append.2 (.inr h)) l4 (fun j p v hp hv hpin => by
      obtain ⟨e, he, e1, e2, _⟩ := l5 j p v hp hv hpin
      have hpm : pid (0 + j) ∈ io.ids := by
       show pid (0 + j) ∈ f.X.pins
       rw [hpins]
       exact mem_pinIds S.ps 0 j p hp hpin
      obtain ⟨b, _, f2, _⟩ := hR1.fx _ hpm
      rw [f2]
      show valOf L (pid (0 + j)) = v
      rw [← e1, (ent_look hLids e he).2, e2])
   obtain ⟨q2, _⟩ := resPs_rel hR1 hA S.rs rvs us y B R h1 (fun _ h => List.mem_append.2 (.inl h)) u1 u4
   refine ⟨us, R'.flatMap fun id => oneBlk (E1 id), R.flatMap fun id => oneBlk (E1 id), rfl, ?_⟩
   refine ⟨⟨hR1.kept.os, hR1.kept.tape, hR1.kept.output, hR1.kept.size, hR1.kept.block⟩, ?_, ?_, ?_, ?_⟩
   ·rw [← hout]
    exact q1
   ·rw [← hout]
    exact q2
   ·rw [← List.flatMap_append]
    exact nodup_blks hR1 hnd hall
   ·intro g hg
    rw [← List.flatMap_append] at hg
    obtain ⟨id, hid, hg⟩ := List.mem_flatMap.1 hg
    obtain ⟨b, hb⟩ := hall id hid
    obtain ⟨k1, k2⟩ := hR1.blk id b hb g (mem_oneBlk.1 hg)
    exact ⟨k2.symm, k1⟩
  ·cases hfin
theorem good_of {f : Fn N} (F : Fits P N f.X.τ) (hm : P.follows .mixedOrders = true) (hΦ : ∀ g S, f.X.Φ g = some S → Good P (g % 1000000) S) (hI : ∀ g J, f.X.inl g = some J → InlOk P g J) (hT : ∀ g T, f.X.thr g = some T → GoodP P g T) {id : FuncId} {fn : Func} (hf : P.funcs[id]? = some fn) (hb : fn.body = some f.body) (hn : (fn.name == "runtime.NumGoroutine") = false)
  (hres : fn.results.toList = f.ds) (hl : f.ds.length ≤ 5) (ht : fn.ntmps = f.ntmps) (hocc : nodupB (occ f.X f.body) = true)
  (S : Spec N) (hgh : f.X.gh = S.gh) (hids : (nodupB (initIds 0 S.ps) && jsOk S.ps S.ps) = true) (hpins : f.X.pins = pinIds 0 S.ps)
  (hrun : ∀ x r, S.f x = some r → ∃ n, f.run S.ps S.rs n x = some (S.out r)) : Good P id S where
 enter w args := callFunc_enter hf hb hn w args
 calls w ok x vs bl r hok hin hbl hblk hr := by
  obtain ⟨n, hrun⟩ := hrun x r hr
  obtain ⟨io, h1, _, _, hrel, key⟩ := frame_of F hres hl ht S hgh hids hpins hok hin hbl hblk
  have hcon : ConOk io w (S.out r) (f.C S.ps S.rs) (bodyPost P fn fun e w' => ∃ us bl' rl, e = .returned (packV us) ∧ AfterCall S ok vs bl w w' r us bl' rl) :=
   ⟨fun σ a w' h1 h2 => key r σ a w' h1 h2, fun i σ a w' h1 _ => (by cases h1), fun σ a w' h1 h2 => key r σ a w' h1 h2, fun p σ a w' h1 _ => (by cases h1)⟩
  exact calls_of_wp hf hb (body_sound F hΦ hI hT hm h1 (nodupB_spec hocc) hcon hrun hrel)
def Fn.spec (f : Fn N) (ps : List PK) (rs : List RK) (n : Nat) : Spec N := ⟨ps, rs, HRes N.ρ rs × HOut N.ρ ps, f.run ps rs n, fun r => r, f.X.gh⟩
def Fn.specG (f : Fn N) (gh : Nat) (ps : List PK) (rs : List RK) (n : Nat) : Spec N := ⟨ps, rs, HRes N.ρ rs × HOut N.ρ ps, f.run ps rs n, fun r => r, gh⟩
def lookS : List (Nat × Spec N) → FuncId → Option (Spec N)
 | [], _ => none
 | (k, v) :: r, i => bif k == i then some v else lookS r i
inductive Goods (P : Program) : List (Nat × Spec N) → Prop
 | nil : Goods P []
 | cons' {k : Nat} {S : Spec N} {l : List (Nat × Spec N)} : Good P (k % 1000000) S → Goods P l → Goods P ((k, S) :: l)
theorem Goods.cons {P : Program} {j : Nat} {S : Spec N} {l : List (Nat × Spec N)} (h : Good P j S) (hl : Goods P l) (e : j = j % 1000000 := by rfl) : Goods P ((j, S) :: l) := .cons' (e ▸ h) hl
theorem Goods.look {P : Program} {l : List (Nat × Spec N)} (h : Goods P l) : ∀ f S, lookS l f = some S → Good P (f % 1000000) S := by
 induction h with
 | nil => intro f S hf; cases hf
 | @cons' k S' l hg _ ih =>
  intro f S hf
  simp only [lookS] at hf
  cases hk : (k == f) with
  | true =>
   rw [hk] at hf
   cases hf
   have : k = f := by simpa using hk
   rw [← this]
   exact hg
  | false =>
   rw [hk] at hf
   exact ih f S hf
theorem noThr_ok {P : Program} : ∀ g T, noThr (N := N) g = some T → GoodP P g T := fun g T h => by cases h
theorem noInl_ok {P : Program} : ∀ g J, noInl (N := N) g = some J → InlOk P g J := fun g J h => by cases h
theorem good_fn {f : Fn N} {ps : List PK} {rs : List RK} {k : Nat} {l : List (Nat × Spec N)} {τ : TypeId → Option TI} (F : Fits P N τ) (hτ : f.X.τ = τ) (hm : P.follows .mixedOrders = true) (hΦ : f.X.Φ = lookS l) (hg : Goods P l) {id : FuncId} {fn : Func} (hf : P.funcs[id]? = some fn) (hb : fn.body = some f.body) (hn : (fn.name == "runtime.NumGoroutine") = false)
  (hres : fn.results.toList = f.ds) (hl : Nat.ble f.ds.length 5 = true) (ht : fn.ntmps = f.ntmps) (hocc : nodupB (occ f.X f.body) = true)
  (hids : (nodupB (initIds 0 ps) && jsOk ps ps) = true) (hpins : f.X.pins = pinIds 0 ps) (hinl : f.X.inl = noInl := by rfl) (hthr : f.X.thr = noThr := by rfl) : Good P id (f.spec ps rs k) :=
 good_of (by rw [hτ]; exact F) hm (by rw [hΦ]; exact hg.look) (by rw [hinl]; exact noInl_ok) (by rw [hthr]; exact noThr_ok) hf hb hn hres (Nat.le_of_ble_eq_true hl) ht hocc _ rfl hids hpins (fun x r h => ⟨k, h⟩)
def specOf (ps : List PK) (rs : List RK) (gh : Nat) (g : HIn N.ρ ps → Option (HRes N.ρ rs × HOut N.ρ ps)) : Spec N := ⟨ps, rs, HRes N.ρ rs × HOut N.ρ ps, g, fun r => r, gh⟩
theorem good_none {id : FuncId} {fn : Func} {c : Code} (hf : P.funcs[id]? = some fn) (hb : fn.body = some c) (hn : (fn.name == "runtime.NumGoroutine") = false) (ps : List PK) (rs : List RK) (gh : Nat) : Good P id (specOf (N := N) ps rs gh fun _ => none) where
 enter w args := callFunc_enter hf hb hn w args
 calls w ok x vs bl r _ _ _ _ hr := by cases hr
theorem good_rec {f : Fn N} {ps : List PK} {rs : List RK} {k : Nat} {g : HIn N.ρ ps → Option (HRes N.ρ rs × HOut N.ρ ps)} {id : FuncId} (h : Good P id (f.spec ps rs k)) (he : ∀ x, g x = f.run ps rs k x) : Good P id (specOf ps rs f.X.gh g) := by
 have : g = f.run ps rs k := funext he
 subst this
 exact h
end Go.Eng

set_option linter.unusedVariables false
set_option linter.unusedSimpArgs false
namespace Go.Eng
variable {N : Names} {P : Program}
def stash1 : Slot N → RV N
 | .one r => bif cellK r then r else .undef
 | .tup _ => .undef
def back1 (s : Slot N) (r : RV N) : Slot N := match s with
 | .one r0 => bif cellK r0 then .one r else .one .undef
 | .tup _ => .one .undef
def freshStash (own : List (Nat × Blk N)) : Nat → Option Nat
 | 0 => none
 | n + 1 => match look own (800000 + n) with
  | none => some (800000 + n)
  | some _ => freshStash own n
theorem freshStash_spec {own : List (Nat × Blk N)} : ∀ {n s : Nat}, freshStash own n = some s → look own s = none
 | 0, s, h => by cases h
 | n + 1, s, h => by
  simp only [freshStash] at h
  split at h
  ·rename_i hl
   cases h
   exact hl
  ·exact freshStash_spec h
def Fn.fin {β : Type} (f : Fn N) (σ : St N) (s : Nat) (k : List (RV N) → St N → Option β) (σ1 : St N) : Option β :=
 match resRVs f.X.τ σ1 0 f.ds with
 | none => none
 | some (rvs, ad) => match look (insAll ad σ1.own) s with
  | some (.vals _ l) => k rvs { regs := List.zipWith back1 σ.regs l, own := insAll ad σ1.own }
  | _ => none
def inlOf (f : Fn N) : Inl N := ⟨fun {β} pins σ rs k => match freshStash σ.own 4 with
 | none => none
 | some s => exec ⟨f.X.τ, f.X.Φ, fun _ => none, s :: pins, 0, f.X.inl, noThr⟩ (fun _ _ => none) f.body ⟨f.fin σ s k, fun _ _ => none, f.fin σ s k, fun _ _ => none⟩ { regs := rs.map Slot.one ++ List.replicate (f.ntmps - rs.length) (.tup []), own := ins s (.vals 0 (σ.regs.map stash1)) σ.own }⟩
theorem occ_none {X : Ctx N} (hK : X.K = fun _ => none) : ∀ c : Code, occ X c = []
 | .seq a b => by
  have h1 : X.cutOf b = none := by unfold Ctx.cutOf; split <;> simp [hK]
  simp [occ, occ_none hK a, occ_none hK b, h1]
 | .cond _ t e => by simp [occ, occ_none hK t, occ_none hK e]
 | .block _ c => by simp [occ, occ_none hK c]
 | .loop c => by
  have h1 : X.cutOf c = none := by unfold Ctx.cutOf; split <;> simp [hK]
  simp [occ, occ_none hK c, h1]
 | .scope c => by simp [occ, occ_none hK c]
 | .skip => rfl
 | .label _ => rfl
 | .region .. => rfl
 | .exit _ => rfl
 | .ret => rfl
 | .rangeFunc .. => rfl
 | .goto _ => rfl
 | .refuse _ => rfl
def cell1 (v : Value) : Option (Slot N) → Value
 | some (.one r) => bif cellK r then v else .bool false
 | _ => .bool false
theorem Kept.turn {io io' : Io} {w0 w : World} (hp : io'.p = io.p) (h : Kept io w0 w) : Kept io' w0 w := ⟨h.os, h.tape, h.output, h.size, by rw [hp]; exact h.block⟩
theorem stash_cells {io : Io} {w0 w : World} {σ : St N} {E : Env} {a : Act} (h : RelE io w0 σ E a w) : ∃ arr : List Value, arr.length = σ.regs.length ∧ (∀ u ∈ arr, u.oneCell' = true) ∧
  ∀ (i : Nat) s u, σ.regs[i]? = some s → arr[i]? = some u → RVRel w σ.own E (stash1 s) u ∧ ((∃ r, s = .one r ∧ cellK r = true ∧ u = a.tmps.getD i undef) ∨ ∀ r, back1 s r = .one .undef) := by
 refine ⟨(List.range σ.regs.length).map fun i => cell1 (a.tmps.getD i undef) σ.regs[i]?, by simp, ?_, ?_⟩
 ·intro u hu
  obtain ⟨i, hi, rfl⟩ := List.mem_map.1 hu
  unfold cell1
  split
  ·rename_i r hr
   cases hc : cellK r with
   | true => exact h.cellOne (h.regs i _ hr) hc
   | false => rfl
  ·rfl
 ·intro i s u hs hu
  have hi : i < σ.regs.length := (List.getElem?_eq_some_iff.1 hs).1
  rw [List.getElem?_map, List.getElem?_range hi] at hu
  simp only [Option.map_some, Option.some.injEq, hs] at hu
  subst hu
  cases s with
  | tup l => exact ⟨trivial, .inr fun r => rfl⟩
  | one r =>
   cases hc : cellK r with
   | true =>
    have h1 := h.regs i _ hs
    refine ⟨?_, .inl ⟨r, rfl, hc, by simp only [cell1, hc, cond_true]⟩⟩
    simp only [stash1, cell1, hc, cond_true]
    exact h1
   | false => exact ⟨by simp only [stash1, hc, cond_false]; trivial, .inr fun r' => by simp only [back1, hc, cond_false]⟩
theorem inl_ok {f : Fn N} (F : Fits P N f.X.τ) (hm : P.follows .mixedOrders = true) (hΦ : ∀ g S, f.X.Φ g = some S → Good P (g % 1000000) S) (hI : ∀ g J, f.X.inl g = some J → InlOk P g J) {id : FuncId} {fn : Func} (hf : P.funcs[id]? = some fn) (hb : fn.body = some f.body) (hn : (fn.name == "runtime.NumGoroutine") = false)
  (hres : fn.results.toList = f.ds) (hl : f.ds.length ≤ 5) (ht : fn.ntmps = f.ntmps) : InlOk P id (inlOf f) where
 enter w args := callFunc_enter hf hb hn w args
 calls {β} σ rs k r io w0 E a w vals h hE hv := by
  simp only [inlOf] at h
  split at h
  ·cases h
  rename_i s hs
  have hs := freshStash_spec hs
  obtain ⟨arr, a1, a2, a3⟩ := stash_cells hE
  have hadd := hE.add (Ext.refl w) (V := .agg arr.toArray) (b := .vals 0 (σ.regs.map stash1)) hs (fun g hg => by cases hg)
   ⟨arr.toArray, updE_same _ _ _, by simp [a1], (fun u hu => a2 u (by simpa using hu)), fun i r u hi hu => by
    rw [List.getElem?_map] at hi
    obtain ⟨s0, hs0, rfl⟩ := Option.map_eq_some_iff.1 hi
    exact RVRel_ins (Ext.refl w) hs (fun g hg => by cases hg) (a3 i s0 u hs0 (by simpa using hu)).1⟩
  let io' : Io := { io with dfs := [], ids := s :: io.ids, fix := fun i => if i = s then .agg arr.toArray else io.fix i }
  have hids : ∀ i ∈ io.ids, i ≠ s := fun i hi e => by
   obtain ⟨b, hb, _⟩ := hE.fx i hi
   rw [e, hs] at hb
   cases hb
  have hrel : Rel io' w0 { regs := rs.map Slot.one ++ List.replicate (f.ntmps - rs.length) (.tup []), own := ins s (.vals 0 (σ.regs.map stash1)) σ.own } { tmps := vals.toArray ++ Array.replicate (fn.ntmps - vals.toArray.size) undef, defers := [] } w := by
   refine ⟨updE E s (.agg arr.toArray), Kept.turn (io := io) (io' := io') rfl hadd.kept, ?_, rfl, ?_, hadd.own, hadd.blk, hadd.sep, hadd.sc, hadd.nw, ?_⟩
   ·simp [hv.1, ht]
   ·intro t s0 hs0
    rcases Nat.lt_or_ge t rs.length with hlt | hge
    ·rw [List.getElem?_append_left (by simpa using hlt), List.getElem?_map] at hs0
     obtain ⟨r0, hr0, rfl⟩ := Option.map_eq_some_iff.1 hs0
     have hlt' : t < vals.length := by rw [hv.1]; exact hlt
     have hval : (vals.toArray ++ Array.replicate (fn.ntmps - vals.toArray.size) undef).getD t undef = vals[t] := by
      rw [Array.getD_eq_getD_getElem?, Array.getElem?_append_left (by simpa using hlt')]
      rw [List.getElem?_toArray, List.getElem?_eq_getElem hlt']
      rfl
     rw [hval]
     exact RVRel_ins (Ext.refl w) hs (fun g hg => by cases hg) (hv.2 t r0 _ hr0 (List.getElem?_eq_getElem hlt'))
    ·rw [List.getElem?_append_right (by simpa using hge), List.getElem?_replicate] at hs0
     split at hs0
     ·cases hs0
      refine ⟨[], ?_, rfl, fun i r u hi _ => by simp at hi⟩
      have : (vals.toArray ++ Array.replicate (fn.ntmps - vals.toArray.size) undef).getD t undef = undef := by
       rw [Array.getD_eq_getD_getElem?, Array.getElem?_append_right (by rw [List.size_toArray, hv.1]; exact hge)]
       rw [Array.getElem?_replicate]
       split <;> rfl
      rw [this]
      rfl
     ·cases hs0
   ·intro i hi
    by_cases his : i = s
    ·subst his
     exact ⟨_, by rw [look_ins, if_pos rfl], by rw [updE_same]; simp [io'], rfl⟩
    ·have hi' : i ∈ io.ids := by
      rcases List.mem_cons.1 hi with h | h
      ·exact absurd h his
      ·exact h
     obtain ⟨b0, h1, h2, h3⟩ := hadd.fx i hi'
     exact ⟨b0, h1, by simp only [io', if_neg his]; exact h2, h3⟩
  have hcon : ConOk io' w0 r ⟨f.fin σ s k, fun _ _ => none, f.fin σ s k, fun _ _ => none⟩ (bodyPost P fn fun e w' => ∃ us E' rs' σ', e = .returned (packV us) ∧ k rs' σ' = some r ∧ RelE io w0 σ' E' a w' ∧ ListRel w' σ'.own E' rs' us) := by
   have key : ∀ σ1 ac w1, f.fin σ s k σ1 = some r → Rel io' w0 σ1 ac w1 → ac.defers = [] ∧ ∃ v, (results fn ac.tmps).run P w1 = .ok v w1 ∧ ∃ us E' rs' σ', Ending.returned v = .returned (packV us) ∧ k rs' σ' = some r ∧ RelE io w0 σ' E' a w1 ∧ ListRel w1 σ'.own E' rs' us := by
    rintro σ1 ac w1 hfin ⟨E2, hR⟩
    unfold Fn.fin at hfin
    split at hfin
    ·cases hfin
    rename_i rvs ad hrvs
    obtain ⟨E3, us, hR3, _, u1, u2, u3, u4⟩ := resRVs_rel F hR hrvs
    split at hfin
    ·rename_i n l hlk
     refine ⟨hR.defers, _, results_run hres hl _ _ us u2 u3, us, E3, rvs, _, rfl, hfin, ?_, u1, u4⟩
     obtain ⟨arr', b1, b2, b3, b4⟩ := hR3.own s _ hlk
     obtain ⟨_, _, f2, _⟩ := hR3.fx s List.mem_cons_self
     have hEs : E3 s = .agg arr.toArray := by rw [f2]; simp [io']
     rw [b1] at hEs
     cases hEs
     have hll : l.length = σ.regs.length := by rw [← b2]; simpa using a1
     refine ⟨Kept.turn (io := io') (io' := io) rfl hR3.kept, ?_, hE.defers, ?_, hR3.own, hR3.blk, hR3.sep, hR3.sc, hR3.nw, ?_⟩
     ·simp [hE.size, hll]
     ·intro t s0 hs0
      rw [List.getElem?_zipWith] at hs0
      cases hreg : σ.regs[t]? with
      | none => rw [hreg] at hs0; simp at hs0
      | some s1 =>
       cases hlt : l[t]? with
       | none => rw [hreg, hlt] at hs0; simp at hs0
       | some r1 =>
        rw [hreg, hlt] at hs0
        simp only [Option.some.injEq] at hs0
        subst hs0
        have htl : t < arr.length := by rw [a1]; exact (List.getElem?_eq_some_iff.1 hreg).1
        have hval := b4 t r1 arr[t] hlt (by simp [htl])
        rcases (a3 t s1 arr[t] hreg (List.getElem?_eq_getElem htl)).2 with ⟨r0, rfl, hc, hu⟩ | hu
        ·simp only [back1, hc, cond_true]
         rw [← hu]
         exact hval
        ·rw [hu]; trivial
     ·intro i hi
      obtain ⟨b0, h1, h2, h3⟩ := hR3.fx i (List.mem_cons_of_mem _ hi)
      exact ⟨b0, h1, by rw [h2]; simp only [io', if_neg (hids i hi)], h3⟩
    ·cases hfin
   exact ⟨fun σ a w' h1 h2 => key σ a w' h1 h2, fun i σ a w' h1 _ => (by cases h1), fun σ a w' h1 h2 => key σ a w' h1 h2, fun p σ a w' h1 _ => (by cases h1)⟩
  have hocc := occ_none (X := (⟨f.X.τ, f.X.Φ, fun _ => none, s :: io.ids, 0, f.X.inl, noThr⟩ : Ctx N)) rfl f.body
  exact calls_of_wp hf hb (exec_sound (X := ⟨f.X.τ, f.X.Φ, fun _ => none, s :: io.ids, 0, f.X.inl, noThr⟩) F hΦ hI noThr_ok hm rfl f.body _ _ _ (fun id hid => by rw [hocc] at hid; cases hid) (by rw [hocc]; exact List.nodup_nil) hcon h _ _ hrel)
def inlFn (τ : TypeId → Option TI) (Φ : FuncId → Option (Spec N)) (I : FuncId → Option (Inl N)) (f : Func) : Fn N := ⟨⟨τ, Φ, fun _ => none, [], 0, I, noThr⟩, bodyOf f, f.results.toList, f.ntmps⟩
def lookI : List (Nat × Inl N) → FuncId → Option (Inl N)
 | [], _ => none
 | (k, v) :: r, i => bif k == i then some v else lookI r i
inductive Inls (P : Program) : List (Nat × Inl N) → Prop
 | nil : Inls P []
 | cons {k : Nat} {J : Inl N} {l : List (Nat × Inl N)} : InlOk P k J → Inls P l → Inls P ((k, J) :: l)
theorem Inls.look {P : Program} {l : List (Nat × Inl N)} (h : Inls P l) : ∀ f J, lookI l f = some J → InlOk P f J := by
 induction h with
 | nil => intro f J hf; cases hf
 | @cons k J' l hg _ ih =>
  intro f J hf
  simp only [lookI] at hf
  cases hk : (k == f) with
  | true =>
   rw [hk] at hf
   cases hf
   have : k = f := by simpa using hk
   rw [← this]
   exact hg
  | false =>
   rw [hk] at hf
   exact ih f J hf
end Go.Eng

set_option linter.unusedVariables false
set_option linter.unusedSimpArgs false
namespace Go.Eng
variable {N : Names} {P : Program}
def dfltL (N : Names) : (ts : List Ty) → HL N.ρ ts
 | [] => ()
 | t :: ts => (N.dflt t, dfltL N ts)
theorem zeroOk_rep (hdv : ∀ n, N.un n (N.dv n) = dfltL N (N.body n)) (w : World) (ok : Nat → Prop) : ∀ (f : Nat) (t : Ty) (cs : List Value), zeroOk N f t cs = true → Rep w ok t (N.dflt t) cs := by
 have one : ∀ (g : Ty → List Value → Bool) (hg : ∀ t cs, g t cs = true → Rep w ok t (N.dflt t) cs) (ts : List Ty) (cs : List Value), zeroL g N.sz ts cs = true → RepL w ok (RepN w ok) ts (dfltL N ts) cs := by
  intro g hg ts
  induction ts with
  | nil =>
   intro cs h
   simp only [zeroL, List.isEmpty_iff] at h
   exact h
  | cons t ts ih =>
   intro cs h
   simp only [zeroL, Bool.and_eq_true] at h
   exact ⟨_, _, (List.take_append_drop _ cs).symm, hg _ _ h.1, ih _ h.2⟩
 intro f
 induction f with
 | zero =>
  intro t cs h
  unfold zeroOk at h
  split at h
  ·simp only [Bool.and_eq_true, decide_eq_true_eq] at h
   obtain ⟨rfl, rfl⟩ := h
   rfl
  ·rename_i b
   cases b with
   | true => cases h
   | false => rfl
  ·rename_i s
   refine ⟨s, rfl, ?_⟩
   simp only [List.isEmpty_iff] at h
   unfold bytesL
   rw [h]
   rfl
  ·exact ⟨none, 0, rfl, Nat.le_refl _, fun _ => rfl, fun i x hx => by simp [Names.dflt] at hx⟩
  ·exact ⟨_, rfl, h⟩
  ·rename_i h0
   cases h0
  ·cases h
 | succ f ih =>
  intro t cs h
  unfold zeroOk at h
  split at h
  ·simp only [Bool.and_eq_true, decide_eq_true_eq] at h
   obtain ⟨rfl, rfl⟩ := h
   rfl
  ·rename_i b
   cases b with
   | true => cases h
   | false => rfl
  ·rename_i s
   refine ⟨s, rfl, ?_⟩
   simp only [List.isEmpty_iff] at h
   unfold bytesL
   rw [h]
   rfl
  ·exact ⟨none, 0, rfl, Nat.le_refl _, fun _ => rfl, fun i x hx => by simp [Names.dflt] at hx⟩
  ·exact ⟨_, rfl, h⟩
  ·rename_i n hf
   cases hf
   refine RepN_close ?_
   rw [show N.un n (N.dflt (.nm n)) = dfltL N (N.body n) from hdv n]
   exact one _ ih _ _ h
  ·cases h
def infoOk (P : Program) (t : TypeId) (n : Nat) (z : Value → Bool) : Bool := match P.info? t with
 | some i => (match i.zero with | some v => z v | none => false) && decide (i.size = n) && Nat.ble i.bytes 32768
 | none => false
theorem infoOk_spec {t : TypeId} {n : Nat} {z : Value → Bool} (h : infoOk P t n z = true) : ∃ v, z v = true ∧ Info P t v n := by
 unfold infoOk at h
 split at h
 ·rename_i i hi
  simp only [Bool.and_eq_true, decide_eq_true_eq] at h
  obtain ⟨⟨h1, h2⟩, h3⟩ := h
  split at h1
  ·rename_i v hv
   exact ⟨v, h1, i, hi, hv, h2, Nat.le_of_ble_eq_true h3⟩
  ·cases h1
 ·cases h
def fieldsOk (N : Names) (τ : TypeId → Option TI) : List Ty → Nat → List Field → Bool
 | [], _, [] => true
 | ty :: tys, off, f :: fs => decide (f.offset = off) && (match τ f.type with | some ti => decide (ti.ty = ty) | none => false) && !(decide (N.sz ty = 0)) && !(decide (f.name = "_")) && fieldsOk N τ tys (off + N.sz ty) fs
 | _, _, _ => false
theorem fieldsOk_spec {τ : TypeId → Option TI} : ∀ (tys : List Ty) (off : Nat) (fs : List Field), fieldsOk N τ tys off fs = true → FieldsFit N τ tys off fs
 | [], _, [], _ => trivial
 | [], _, _ :: _, h => by cases h
 | _ :: _, _, [], h => by cases h
 | ty :: tys, off, f :: fs, h => by
  simp only [fieldsOk, Bool.and_eq_true, decide_eq_true_eq, Bool.not_eq_true', decide_eq_false_iff_not] at h
  obtain ⟨⟨⟨⟨h1, h2⟩, h3⟩, h4⟩, h5⟩ := h
  refine ⟨h1, ?_, h3, h4, fieldsOk_spec tys _ fs h5⟩
  split at h2
  ·rename_i ti hti
   have : ti.ty = ty := by simpa using h2
   exact ⟨ti.el, by rw [hti, ← this]⟩
  ·cases h2
def isOne (k : Value → Bool) : Value → Bool := k
def fitRow (P : Program) (N : Names) (τ : TypeId → Option TI) (t : TypeId) (ti : TI) : Bool :=
 match ti.ty with
 | .int k => (match P.underlying t with | some (.int k') => decide (k' = k) | _ => false) && infoOk P t 1 fun v => match v with | .int k' n => decide (k' = k) && decide (n = 0) | _ => false
 | .bool => (match P.underlying t with | some .bool => true | _ => false) && infoOk P t 1 fun v => match v with | .bool b => !b | _ => false
 | .str => (match P.underlying t with | some .string => true | _ => false) && infoOk P t 1 fun v => match v with | .string s => s.data.toList.isEmpty | _ => false
 | .sl e => Nat.blt ti.el tagM && (match P.underlying t with | some (.slice el) => decide (el = ti.el) | _ => false) && (match τ ti.el with | some te => decide (te.ty = e) | none => false) && infoOk P t 1 fun v => match v with | .slice none 0 0 => true | _ => false
 | .opq => (match P.underlying t with | some (.struct _) => false | some (.array _ _) => false | some _ => true | none => false) && (decide (ti.el = 0) || (decide (ti.el = 1) && (match P.underlying t with | some (.func _ _ _) => true | _ => false)) || Nat.blt 1 ti.el && (match P.underlying t with | some (.map k v) => decide (k = ti.el / 100000) && decide (v = ti.el % 100000) | _ => false)) && infoOk P t 1 fun v => v.oneCell'
 | .nm n => (match P.underlying t with | some (.struct fs) => decide (ti.el = 0) && fieldsOk N τ (N.body n) 0 fs.toList | some (.array len el) => decide (ti.el = el + 1) && (match P.info? el with | some i => fieldsOk N τ (N.body n) 0 (virt len el i.size) | none => false) | _ => false) && !P.stoodInHeld t && !P.eqGuardType P.depth t && Nat.blt 0 (N.size n) &&
   infoOk P t (N.size n) fun v => match v with | .agg zc => zeroOk N 8 (.nm n) zc.toList | _ => false
theorem fits_of {l : List (TypeId × TI)} (hdv : ∀ n, N.un n (N.dv n) = dfltL N (N.body n)) (h : (l.all fun p => fitRow P N (look l) p.1 p.2) = true) : Fits P N (look l) := by
 have key : ∀ t ti, look l t = some ti → fitRow P N (look l) t ti = true := fun t ti ht => List.all_eq_true.1 h _ (look_mem ht)
 constructor
 ·intro t k e ht
  have := key t _ ht
  simp only [fitRow, Bool.and_eq_true] at this
  obtain ⟨h1, h2⟩ := this
  obtain ⟨v, hv, hi⟩ := infoOk_spec h2
  constructor
  ·split at h1
   ·rename_i k' hk
    rw [hk]
    have : k' = k := by simpa using h1
    rw [this]
   ·cases h1
  ·split at hv
   ·simp only [Bool.and_eq_true, decide_eq_true_eq] at hv
    obtain ⟨rfl, rfl⟩ := hv
    exact hi
   ·cases hv
 ·intro t e ht
  have := key t _ ht
  simp only [fitRow, Bool.and_eq_true] at this
  obtain ⟨h1, h2⟩ := this
  obtain ⟨v, hv, hi⟩ := infoOk_spec h2
  constructor
  ·split at h1
   ·assumption
   ·cases h1
  ·split at hv
   ·rename_i b
    cases b with
    | true => cases hv
    | false => exact hi
   ·cases hv
 ·intro t e ht
  have := key t _ ht
  simp only [fitRow, Bool.and_eq_true] at this
  obtain ⟨h1, h2⟩ := this
  obtain ⟨v, hv, hi⟩ := infoOk_spec h2
  constructor
  ·split at h1
   ·assumption
   ·cases h1
  ·split at hv
   ·rename_i s
    obtain ⟨⟨l⟩⟩ := s
    have : l = [] := by simpa using hv
    subst this
    exact hi
   ·cases hv
 ·intro t ty e ht
  have := key t _ ht
  simp only [fitRow, Bool.and_eq_true] at this
  obtain ⟨⟨⟨_, h1⟩, h3⟩, h2⟩ := this
  obtain ⟨v, hv, hi⟩ := infoOk_spec h2
  refine ⟨?_, ?_, ?_⟩
  ·split at h1
   ·rename_i el hel
    rw [hel]
    have : el = e := by simpa using h1
    rw [this]
   ·cases h1
  ·split at h3
   ·rename_i te hte
    have : te.ty = ty := by simpa using h3
    exact ⟨te.el, by rw [hte, ← this]⟩
   ·cases h3
  ·split at hv
   ·exact hi
   ·cases hv
 ·intro t e ht
  have := key t _ ht
  simp only [fitRow, Bool.and_eq_true] at this
  obtain ⟨⟨h1, _⟩, h2⟩ := this
  obtain ⟨v, hv, hi⟩ := infoOk_spec h2
  refine ⟨?_, v, hi, hv⟩
  split at h1
  ·cases h1
  ·cases h1
  ·rename_i d hn1 hn2 hd
   refine ⟨_, hd, ?_⟩
   split
   ·rename_i fs
    exact (hn1 fs rfl).elim
   ·rename_i n e
    exact (hn2 n e rfl).elim
   ·rfl
  ·cases h1
 ·intro t e ht
  have := key t _ ht
  simp only [fitRow, Bool.and_eq_true, Bool.or_eq_true, decide_eq_true_eq] at this
  obtain ⟨⟨_, h1⟩, _⟩ := this
  rcases h1 with (h1 | ⟨h1, h2⟩) | ⟨h0, h1⟩
  ·exact .inl h1
  ·refine .inr (.inl ⟨h1, ?_⟩)
   split at h2
   ·rename_i ps rs v hv
    exact ⟨ps, rs, v, hv⟩
   ·cases h2
  ·refine .inr (.inr ⟨Nat.le_of_ble_eq_true h0, ?_⟩)
   split at h1
   ·rename_i k v hkv
    simp only [Bool.and_eq_true, decide_eq_true_eq] at h1
    rw [hkv, h1.1, h1.2]
   ·cases h1
 ·intro t n e ht
  have := key t _ ht
  simp only [fitRow, Bool.and_eq_true, Bool.not_eq_true'] at this
  obtain ⟨⟨⟨⟨h1, h2⟩, h3⟩, h4⟩, h5⟩ := this
  obtain ⟨v, hv, hi⟩ := infoOk_spec h5
  have hz : ∃ zc : Array Value, Info P t (.agg zc) (N.size n) ∧ 0 < N.size n ∧ ∀ w ok, Rep w ok (.nm n) (N.dv n) zc.toList := by
   split at hv
   ·rename_i zc
    exact ⟨zc, hi, Nat.le_of_ble_eq_true h4, fun w ok => zeroOk_rep hdv w ok 8 (.nm n) _ hv⟩
   ·cases hv
  split at h1
  ·rename_i fs hfs
   simp only [Bool.and_eq_true, decide_eq_true_eq] at h1
   exact ⟨fs, .inl ⟨h1.1, hfs⟩, fieldsOk_spec _ _ _ h1.2, h2, h3, hz⟩
  ·rename_i len el hfs
   simp only [Bool.and_eq_true, decide_eq_true_eq] at h1
   obtain ⟨h0, h1⟩ := h1
   split at h1
   ·rename_i i hi'
    exact ⟨_, .inr ⟨len, el, i, h0, hfs, hi', rfl⟩, fieldsOk_spec _ _ _ (by simpa using h1), h2, h3, hz⟩
   ·cases h1
  ·cases h1
 ·intro t n e i zc ht hi hz
  have := key t _ ht
  simp only [fitRow, Bool.and_eq_true] at this
  obtain ⟨v, hv, j, hj1, hj2, _⟩ := infoOk_spec this.2
  rw [hi] at hj1
  cases hj1
  rw [hz] at hj2
  cases hj2
  exact hv
 ·intro t ty e ht
  have := key t _ ht
  simp only [fitRow, Bool.and_eq_true] at this
  exact Nat.le_of_ble_eq_true this.1.1.1
end Go.Eng
