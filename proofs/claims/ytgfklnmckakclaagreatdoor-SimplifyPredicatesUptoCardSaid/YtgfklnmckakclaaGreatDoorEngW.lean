/- The engine, part W: one operation, and a row of operations. -/
import Derived.Test.YtgfklnmckakclaaGreatDoorEngVM
set_option linter.unusedVariables false
set_option linter.unusedSimpArgs false
namespace Go.Eng
variable {N : Names} {P : Program} {τ : TypeId → Option TI} {β : Type}

/-- An operation leads from every state's worlds to the next state's. -/
def DoesO (P : Program) (o : Oper) (σ σ' : St N) : Prop :=
  ∀ io w0 a w (K : Act → World → Prop) (Q : Exit → Act → World → Prop), Rel io w0 σ a w → (∀ a' w', Rel io w0 σ' a' w' → K a' w') → o.wp P a w K Q

def fin1 (σ : St N) (d : Option Nat) (k : St N → Option β) : KK N β := fun s ad => k (({ σ with own := insAll ad σ.own } : St N).put d s)
def fin2 (d : Option Nat) (k : St N → Option β) : Slot N → St N → Option β := fun s σ' => k (σ'.put d s)

inductive Arg where
  | op (o : Operand)
  | cap (id : Nat)
def argR (σ : St N) : Arg → RV N
  | .op o => ev σ o
  | .cap id => .bptr id 0
def argV (a : Act) (E : Env) : Arg → Value
  | .op o => a.eval o
  | .cap id => E id

def evCallee (Φ : FuncId → Option (Spec N)) (σ : St N) (dst : Option Nat) (f : RV N) (os : List Operand) (k : Slot N → St N → Option β) : Option β :=
  match f with
  | .fn f caps => match Φ f with
    | some S => evCall S σ (argR σ) (os.map Arg.op ++ caps.map Arg.cap) dst k
    | none => none
  | _ => none

/-- What is moved may be a tuple. -/
def evMoveS (τ : TypeId → Option TI) (σ : St N) (ty : TypeId) (dst : Option Nat) (x : Operand) (k : KK N β) : Option β :=
  match x with
  | .tmp t => match σ.reg t with
    | .tup l => k (.tup l) []
    | _ => evMove τ σ.own ty dst (ev σ x) k
  | _ => evMove τ σ.own ty dst (ev σ x) k

theorem evMoveS_sound {σ : St N} {ty : TypeId} {dst : Option Nat} {x : Operand} {k : KK N β} {r : β} (h : evMoveS τ σ ty dst x k = some r) :
    ∃ s ad, k s ad = some r ∧ Does P σ (fun a => pure (a.eval x)) s ad := by
  unfold evMoveS at h
  split at h
  · rename_i t
    split at h
    · rename_i l hl
      refine ⟨_, _, h, fun io w0 E a w hr => ?_⟩
      have hlt : t < σ.regs.length := by
        rcases Nat.lt_or_ge t σ.regs.length with h' | h'
        · exact h'
        · unfold St.reg at hl
          rw [List.getD_eq_getElem?_getD, List.getElem?_eq_none h'] at hl
          cases hl
      have hs : σ.regs[t]? = some (.tup l) := by
        unfold St.reg at hl
        rw [List.getD_eq_getElem?_getD, List.getElem?_eq_getElem hlt] at hl
        rw [List.getElem?_eq_getElem hlt]
        exact congrArg some hl
      exact ⟨_, w, E, rfl, hr, hr.regs t _ hs⟩
    · exact evMove_sound h
  · exact evMove_sound h

def evOp (τ : TypeId → Option TI) (Φ : FuncId → Option (Spec N)) (o : Oper) (σ : St N) (k : St N → Option β) : Option β :=
  match o.op with
  | .move x => evMoveS τ σ o.type o.dst x (fin1 σ o.dst k)
  | .assign x => evMoveS τ σ o.type o.dst x (fin1 σ o.dst k)
  | .pick c x y => match ev σ c with
    | .bool b => bif b then evMove τ σ.own o.type o.dst (ev σ x) (fin1 σ o.dst k) else evMove τ σ.own o.type o.dst (ev σ y) (fin1 σ o.dst k)
    | _ => none
  | .alloc t => evAlloc τ σ.own t o.dst (fin1 σ o.dst k)
  | .box t x => evBox τ σ.own t o.dst (ev σ x) (fin1 σ o.dst k)
  | .build t ps => evBuild τ σ t ps.toList (fin1 σ o.dst k)
  | .buildSlice t n ps => evBuildSlice τ σ t n ps.toList o.dst (fin1 σ o.dst k)
  | .load t x => evLoad τ σ.own t (ev σ x) (fin1 σ o.dst k)
  | .store t x y => evStore τ σ t (ev σ x) (ev σ y) fun σ' => k (σ'.put o.dst (.tup []))
  | .nilCheck x => match ev σ x with
    | .bptr i j => k (σ.put o.dst (.one (.bptr i j)))
    | .sptr t y bs => k (σ.put o.dst (.one (.sptr t y bs)))
    | .optr i j l => k (σ.put o.dst (.one (.optr i j l)))
    | .fn f caps => k (σ.put o.dst (.one (.fn f caps)))
    | _ => none
  | .binOp op t x y _ => evBin τ op t (ev σ x) (ev σ y) fun z => k (σ.put o.dst (.one z))
  | .unOp op _ x => evUn op (ev σ x) fun z => k (σ.put o.dst (.one z))
  | .convert t t' x => evConvert τ σ.own t t' (ev σ x) (fin1 σ o.dst k)
  | .makeFunc (.func f) fs cs => match fs.toList with
    | [] => match boxIds σ cs.toList with
      | some ids => k (σ.put o.dst (.one (.fn f ids)))
      | none => none
    | _ => none
  | .makeMap t res => evMakeMap τ σ t res o.dst (fin1 σ o.dst k)
  | .lookup t x i ok => evLookup τ σ.own t (ev σ x) (ev σ i) ok (fin1 σ o.dst k)
  | .mapUpdate t m x y => evMapUpdate τ σ t (ev σ m) (ev σ x) (ev σ y) fun σ' => k (σ'.put o.dst (.tup []))
  | .insert t m x y => evMapUpdate τ σ t (ev σ m) (ev σ x) (ev σ y) fun σ' => k (σ'.put o.dst (.tup []))
  | .makeSlice t l c => evMake τ σ t o.dst l c (fin1 σ o.dst k)
  | .slice t x lo hi none => evSlice τ σ t (ev σ x) lo hi (fin1 σ o.dst k)
  | .fieldAddr t x f => evFieldAddr τ t (ev σ x) f (fin1 σ o.dst k)
  | .field t x f => evField τ t (ev σ x) f (fin1 σ o.dst k)
  | .indexAddr t x i => evIndexAddr τ σ.own t (ev σ x) (ev σ i) (fin1 σ o.dst k)
  | .index t x i => evIndex τ t (ev σ x) (ev σ i) (fin1 σ o.dst k)
  | .extract x i => match x with
    | .tmp t => match σ.reg t with
      | .tup l => match l[i]? with
        | some r => k (σ.put o.dst (.one r))
        | none => none
      | _ => none
    | _ => none
  | .call c => match c.callee with
    | .value f => evCallee Φ σ o.dst (ev σ f) c.args.toList (fin2 o.dst k)
    | .builtin .len => match c.args.toList, c.argTypes.toList with
      | [x], [t] => evLen τ σ.own t (ev σ x) (fin1 σ o.dst k)
      | _, _ => none
    | .builtin .append => match c.args.toList, c.argTypes.toList with
      | [x, y], [t, t'] => evAppend τ σ t t' o.dst (ev σ x) (ev σ y) (fin2 o.dst k)
      | _, _ => none
    | .builtin .min => match c.args.toList with
      | [x, y] => evMM true (ev σ x) (ev σ y) (fin1 σ o.dst k)
      | _ => none
    | .builtin .max => match c.args.toList with
      | [x, y] => evMM false (ev σ x) (ev σ y) (fin1 σ o.dst k)
      | _ => none
    | _ => none
  | _ => none
where
  boxIds (σ : St N) : List Operand → Option (List Nat)
    | [] => some []
    | x :: l => match ev σ x, boxIds σ l with
      | .bptr i 0, some ids => some (i :: ids)
      | _, _ => none

theorem upon_run {o : Oper} {s : Sem Value} {a : Act} {w w' : World} {v : Value} {K : Act → World → Prop} {Q : Exit → Act → World → Prop}
    (h : execOp a.eval o = (do pure (Next.value (← s)))) (hr : s.run P w = .ok v w') (hk : K (a.put o.dst v) w') : o.wp P a w K Q := by
  unfold Oper.wp
  rw [h]
  simp only [Sem.run_bind, hr, Result.andThen_ok, Sem.run_pure]
  exact hk

theorem doesO_of {o : Oper} {σ : St N} {run : Act → Sem Value} {s : Slot N} {ad : List (Nat × Blk N)} (he : ∀ a : Act, execOp a.eval o = (do pure (Next.value (← run a)))) (h : Does P σ run s ad) :
    DoesO P o σ (({ σ with own := insAll ad σ.own } : St N).put o.dst s) := by
  rintro io w0 a w K Q ⟨E, hr⟩ hk
  obtain ⟨v, w', E', h1, h2, h3⟩ := h io w0 E a w hr
  exact upon_run (he a) h1 (hk _ _ ⟨E', h2.put o.dst h3⟩)
theorem doesO_ofW {o : Oper} {σ σ' : St N} {run : Act → Sem Value} {s : Slot N} (he : ∀ a : Act, execOp a.eval o = (do pure (Next.value (← run a)))) (h : DoesW P σ run s σ') :
    DoesO P o σ (σ'.put o.dst s) := by
  rintro io w0 a w K Q ⟨E, hr⟩ hk
  obtain ⟨v, w', E', h1, h2, h3⟩ := h io w0 E a w hr
  exact upon_run (he a) h1 (hk _ _ ⟨E', h2.put o.dst h3⟩)

theorem sound1 {o : Oper} {σ : St N} {run : Act → Sem Value} {k : St N → Option β} {r : β} (he : ∀ a : Act, execOp a.eval o = (do pure (Next.value (← run a))))
    (h : ∃ s ad, fin1 σ o.dst k s ad = some r ∧ Does P σ run s ad) : ∃ σ', k σ' = some r ∧ DoesO P o σ σ' := by
  obtain ⟨s, ad, h1, h2⟩ := h
  exact ⟨_, h1, doesO_of he h2⟩
theorem sound2 {o : Oper} {σ : St N} {run : Act → Sem Value} {k : St N → Option β} {r : β} (he : ∀ a : Act, execOp a.eval o = (do pure (Next.value (← run a))))
    (h : ∃ s σ', fin2 o.dst k s σ' = some r ∧ DoesW P σ run s σ') : ∃ σ', k σ' = some r ∧ DoesO P o σ σ' := by
  obtain ⟨s, ad, h1, h2⟩ := h
  exact ⟨_, h1, doesO_ofW he h2⟩

theorem boxIds_spec {io : Io} {w0 w : World} {σ : St N} {E : Env} {a : Act} (h : RelE io w0 σ E a w) : ∀ {l : List Operand} {ids : List Nat}, evOp.boxIds σ l = some ids →
    l.map a.eval = ids.map E.val ∧ ∀ id ∈ ids, isBox σ.own id ∧ ∃ g, E id = .pointer (some ⟨g, 0, none⟩)
  | [], ids, hl => by
    cases hl
    exact ⟨rfl, fun _ h => by cases h⟩
  | x :: l, ids, hl => by
    simp only [evOp.boxIds] at hl
    split at hl
    · rename_i i ids' hx hl'
      cases hl
      obtain ⟨h1, h2⟩ := boxIds_spec h hl'
      have hv := h.ev x
      rw [hx] at hv
      obtain ⟨k1, g, k2, k3⟩ := hv
      refine ⟨by simp only [List.map_cons, h1, k3, k2], fun id hid => ?_⟩
      rcases List.mem_cons.1 hid with rfl | hid
      · exact ⟨k1, g, k2⟩
      · exact h2 id hid
    · cases hl

theorem enter_wp {S : Spec N} {f : FuncId} (hg : Good P f S) {o : Oper} {c : Call} (ho : o.op = .call c) {f' : Operand} (hc : c.callee = .value f') {a : Act} {w : World} {caps : List Value} (hf : a.eval f' = .func (.func f) #[] caps.toArray)
    {K : Act → World → Prop} {Q : Exit → Act → World → Prop} (h : Calls P f (c.args.map a.eval ++ caps.toArray) w fun e w' => ∃ v, e = .returned v ∧ K (a.put o.dst v) w') : o.wp P a w K Q := by
  have he : (execOp a.eval o).run P w = .ok (.enter f (c.args.map a.eval ++ caps.toArray)) w := by
    unfold execOp
    simp only [ho, resolve, hc, hf, Deferred.ofValue, Array.empty_append, Sem.run_bind, Sem.run_pure, Result.andThen_ok, invoke]
    exact hg.enter w _
  unfold Oper.wp
  rw [he]
  simp only [Oper.upon]
  refine h.mono ?_
  rintro e w' ⟨v, rfl, hv⟩
  exact hv

theorem evOp_sound (F : Fits P N τ) {Φ : FuncId → Option (Spec N)} (hΦ : ∀ f S, Φ f = some S → Good P f S) {o : Oper} {σ : St N} {k : St N → Option β} {r : β} (h : evOp τ Φ o σ k = some r) :
    ∃ σ', k σ' = some r ∧ DoesO P o σ σ' := by
  obtain ⟨dst, op, ty, pos, after, guard⟩ := o
  unfold evOp at h
  cases op with
  | move x => exact sound1 (run := fun a => pure (a.eval x)) (fun _ => rfl) (evMoveS_sound (P := P) h)
  | assign x => exact sound1 (run := fun a => pure (a.eval x)) (fun _ => rfl) (evMoveS_sound (P := P) h)
  | pick c x y =>
    simp only at h
    split at h
    · rename_i b hb
      have key : ∀ z, (b = true → z = x) → (b = false → z = y) → evMove τ σ.own ty dst (ev σ z) (fin1 σ dst k) = some r → ∃ σ', k σ' = some r ∧ DoesO P ⟨dst, .pick c x y, ty, pos, after, guard⟩ σ σ' := by
        intro z h1 h2 h
        obtain ⟨s, ad, k1, k2⟩ := evMove_sound (P := P) h
        refine ⟨_, k1, ?_⟩
        rintro io w0 a w K Q ⟨E, hr⟩ hk
        obtain ⟨v, w', E', h3, h4, h5⟩ := k2 io w0 E a w hr
        have hcv := hr.ev c
        rw [hb] at hcv
        have hcv : a.eval c = .bool b := hcv
        refine upon_run (s := pure (if b then a.eval x else a.eval y)) ?_ ?_ (hk _ _ ⟨E', h4.put dst h5⟩)
        · simp only [execOp, hcv, asBool]
          rfl
        · cases b with
          | true => rw [if_pos rfl, ← h1 rfl]; exact h3
          | false => rw [if_neg (by simp), ← h2 rfl]; exact h3
      cases b with
      | true => exact key x (fun _ => rfl) (fun e => by cases e) h
      | false => exact key y (fun e => by cases e) (fun _ => rfl) h
    · cases h
  | alloc t => exact sound1 (fun _ => rfl) (evAlloc_sound F h)
  | box t x => exact sound1 (fun _ => rfl) (evBox_sound F h)
  | build t ps => exact sound1 (fun _ => rfl) (evBuild_sound F h)
  | buildSlice t n ps => exact sound1 (fun _ => rfl) (evBuildSlice_sound F h)
  | load t x => exact sound1 (fun _ => rfl) (evLoad_sound F h)
  | store t x y =>
    obtain ⟨σ', h1, h2⟩ := evStore_sound F h
    refine ⟨_, h1, ?_⟩
    rintro io w0 a w K Q ⟨E, hr⟩ hk
    obtain ⟨w', E', h3, h4⟩ := h2 io w0 E a w hr
    unfold Oper.wp
    simp only [execOp, Sem.run_bind, h3, Result.andThen_ok, Sem.run_pure]
    exact hk _ _ ⟨E', h4.put dst (s := .tup []) ⟨[], rfl, rfl, fun i r u hi _ => by simp at hi⟩⟩
  | nilCheck x =>
    simp only at h
    have hp : ∀ (a : Act) ad, a.eval x = .pointer (some ad) → execOp a.eval ⟨dst, .nilCheck x, ty, pos, after, guard⟩ = (do pure (Next.value (← (pure (a.eval x) : Sem Value)))) := by
      intro a ad hx
      simp only [execOp, hx]
      rfl
    have go : ∀ z, ev σ x = z → (∀ w own E v, RVRel (N := N) w own E z v → ∃ ad, v = .pointer (some ad)) → k (σ.put dst (.one z)) = some r → ∃ σ', k σ' = some r ∧ DoesO P ⟨dst, .nilCheck x, ty, pos, after, guard⟩ σ σ' := by
      intro z hz hv hk
      refine ⟨_, hk, ?_⟩
      rintro io w0 a w K Q ⟨E, hr⟩ hK
      have hxr := hr.ev x
      rw [hz] at hxr
      obtain ⟨ad, had⟩ := hv _ _ _ _ hxr
      exact upon_run (hp a ad had) rfl (hK _ _ ⟨E, hr.put dst hxr⟩)
    split at h
    · rename_i i j hx
      exact go _ hx (fun w own E v hv => by obtain ⟨_, g, _, e⟩ := hv; exact ⟨_, e⟩) h
    · rename_i t y bs hx
      exact go _ hx (fun w own E v hv => by obtain ⟨ad, cs, e, _⟩ := hv; exact ⟨_, e⟩) h
    · rename_i i j l hx
      exact go _ hx (fun w own E v hv => by obtain ⟨g, cap, n, t, _, _, _, e⟩ := hv; exact ⟨_, e⟩) h
    · rename_i f caps hx
      refine ⟨_, h, ?_⟩
      rintro io w0 a w K Q ⟨E, hr⟩ hK
      have hxr := hr.ev x
      rw [hx] at hxr
      have hv := hxr.1
      refine upon_run (s := pure (a.eval x)) ?_ rfl (hK _ _ ⟨E, hr.put dst hxr⟩)
      simp only [execOp, hv]
      rfl
    · cases h
  | binOp op t x y yt =>
    simp only at h
    obtain ⟨z, h1, h2⟩ := evBin_sound F h
    refine ⟨_, h1, ?_⟩
    rintro io w0 a w K Q ⟨E, hr⟩ hK
    obtain ⟨v, h3, h4⟩ := h2 w _ E _ _ x y (hr.ev x) (hr.ev y)
    exact upon_run (s := do eqGuard op t x y (a.eval x) (a.eval y); binOp op t (a.eval x) (a.eval y)) rfl h3 (hK _ _ ⟨E, hr.put dst (s := .one z) h4⟩)
  | unOp op t x =>
    simp only at h
    obtain ⟨z, h1, h2⟩ := evUn_sound h
    refine ⟨_, h1, ?_⟩
    rintro io w0 a w K Q ⟨E, hr⟩ hK
    obtain ⟨v, h3, h4⟩ := h2 P w _ E _ (hr.ev x)
    exact upon_run (s := Op.unary op (a.eval x)) rfl h3 (hK _ _ ⟨E, hr.put dst (s := .one z) (h4 _ _ _)⟩)
  | convert t t' x => exact sound1 (fun _ => rfl) (evConvert_sound F h)
  | makeFunc fn fs cs =>
    cases fn with
    | func f =>
      simp only at h
      split at h
      · rename_i hfs
        split at h
        · rename_i ids hids
          refine ⟨_, h, ?_⟩
          rintro io w0 a w K Q ⟨E, hr⟩ hK
          obtain ⟨b1, b2⟩ := boxIds_spec hr hids
          have hfs' : fs = #[] := by
            obtain ⟨l⟩ := fs
            simp only at hfs
            rw [hfs]
          refine upon_run (s := Instr.makeFunc (.func f) (fs.map a.eval) (cs.map a.eval)) rfl rfl (hK _ _ ⟨E, hr.put dst (s := .one (.fn f ids)) ⟨?_, b2⟩⟩)
          rw [hfs', ← b1]
          have hcs : cs.map a.eval = (cs.toList.map a.eval).toArray := by rw [← Array.toList_map]
          rw [hcs]
          simp
        · cases h
      · cases h
    | _ => cases h
  | makeMap t res => exact sound1 (run := fun a => Instr.makeMap t (res.map a.eval)) (fun _ => rfl) (evMakeMap_sound F h)
  | lookup t x i ok => exact sound1 (fun _ => rfl) (evLookup_sound F h)
  | mapUpdate t m x y =>
    obtain ⟨σ', h1, h2⟩ := evMapUpdate_sound F h
    refine ⟨_, h1, ?_⟩
    rintro io w0 a w K Q ⟨E, hr⟩ hk
    obtain ⟨w', E', h3, h4⟩ := h2 io w0 E a w hr
    unfold Oper.wp
    simp only [execOp, Sem.run_bind, h3, Result.andThen_ok, Sem.run_pure]
    exact hk _ _ ⟨E', h4.put dst (s := .tup []) ⟨[], rfl, rfl, fun i r u hi _ => by simp at hi⟩⟩
  | insert t m x y =>
    obtain ⟨σ', h1, h2⟩ := evMapUpdate_sound F h
    refine ⟨_, h1, ?_⟩
    rintro io w0 a w K Q ⟨E, hr⟩ hk
    obtain ⟨w', E', h3, h4⟩ := h2 io w0 E a w hr
    unfold Oper.wp
    simp only [execOp, Sem.run_bind, h3, Result.andThen_ok, Sem.run_pure]
    exact hk _ _ ⟨E', h4.put dst (s := .tup []) ⟨[], rfl, rfl, fun i r u hi _ => by simp at hi⟩⟩
  | makeSlice t l c => exact sound1 (fun _ => rfl) (evMake_sound F h)
  | slice t x lo hi mx =>
    cases mx with
    | none => exact sound1 (fun _ => rfl) (evSlice_sound F h)
    | some m => cases h
  | fieldAddr t x f => exact sound1 (fun _ => rfl) (evFieldAddr_sound F h)
  | field t x f => exact sound1 (fun _ => rfl) (evField_sound F h)
  | indexAddr t x i => exact sound1 (fun _ => rfl) (evIndexAddr_sound F h)
  | index t x i => exact sound1 (fun _ => rfl) (evIndex_sound F h)
  | extract x i =>
    simp only at h
    split at h
    · rename_i t
      split at h
      · rename_i l hl
        split at h
        · rename_i z hz
          refine ⟨_, h, ?_⟩
          rintro io w0 a w K Q ⟨E, hr⟩ hK
          have hlt : t < σ.regs.length := by
            rcases Nat.lt_or_ge t σ.regs.length with h' | h'
            · exact h'
            · unfold St.reg at hl
              rw [List.getD_eq_getElem?_getD, List.getElem?_eq_none h'] at hl
              cases hl
          have hs : σ.regs[t]? = some (.tup l) := by
            unfold St.reg at hl
            rw [List.getD_eq_getElem?_getD, List.getElem?_eq_getElem hlt] at hl
            rw [List.getElem?_eq_getElem hlt]
            exact congrArg some hl
          obtain ⟨vs, v1, v2, v3⟩ := hr.regs t _ hs
          have hlen := (List.getElem?_eq_some_iff.1 hz).1
          obtain ⟨u, hu⟩ : ∃ u, vs[i]? = some u := ⟨_, List.getElem?_eq_getElem (by omega)⟩
          have hev : a.eval (.tmp t) = .tuple vs.toArray := by
            rw [← v1]
            simp only [Act.eval]
          refine upon_run (s := Instr.extract (a.eval (.tmp t)) i) (v := u) rfl ?_ (hK _ _ ⟨E, hr.put dst (s := .one z) (v3 i z u hz hu)⟩)
          rw [hev]
          simp only [Instr.extract, List.getElem?_toArray, hu]
          rfl
        · cases h
      · cases h
    · cases h
  | call c =>
    simp only at h
    split at h
    · rename_i f hf
      unfold evCallee at h
      split at h
      · rename_i f' caps hfn
        split at h
        · rename_i S hS
          obtain ⟨s, σ', h1, _, h2⟩ := evCall_sound (hΦ _ _ hS) h
          refine ⟨_, h1, ?_⟩
          rintro io w0 a w K Q ⟨E, hr⟩ hK
          have hfv := hr.ev f
          rw [hfn] at hfv
          refine enter_wp (hΦ _ _ hS) rfl hf hfv.1 ?_
          have hargs : ∀ x ∈ c.args.toList.map Arg.op ++ caps.map Arg.cap, RVRel w σ.own E (argR σ x) (argV a E x) := by
            intro x hx
            rcases List.mem_append.1 hx with hx | hx
            · obtain ⟨y, _, rfl⟩ := List.mem_map.1 hx
              exact hr.ev y
            · obtain ⟨y, hy, rfl⟩ := List.mem_map.1 hx
              obtain ⟨b1, g, b2⟩ := hfv.2 y hy
              exact ⟨b1, g, b2, b2⟩
          have := h2 io w0 E a w (argV a E) hr hargs
          have hl : (List.map (argV a E) (c.args.toList.map Arg.op ++ caps.map Arg.cap)).toArray = c.args.map a.eval ++ (caps.map E.val).toArray := by
            generalize c.args = ar
            obtain ⟨l⟩ := ar
            simp [Function.comp_def, argV]
          rw [hl] at this
          refine this.mono ?_
          rintro e w' ⟨v, E', rfl, k1, k2⟩
          exact ⟨v, rfl, hK _ _ ⟨E', k1.put dst k2⟩⟩
        · cases h
      · cases h
    · rename_i hb
      split at h
      · rename_i x t hx ht
        have hx' : c.args = #[x] := Array.ext' hx
        have ht' : c.argTypes = #[t] := Array.ext' ht
        refine sound1 (run := fun a => Builtin.len_ #[t] ty #[a.eval x]) (fun a => ?_) (evLen_sound F h)
        simp only [execOp, resolve, hb, hx', ht', List.map_toArray, List.map]
        rfl
      · cases h
    · rename_i hb
      split at h
      · rename_i x y t t' hx ht
        have hx' : c.args = #[x, y] := Array.ext' hx
        have ht' : c.argTypes = #[t, t'] := Array.ext' ht
        refine sound2 (run := fun a => Builtin.append_ #[t, t'] ty #[a.eval x, a.eval y]) (fun a => ?_) (evAppend_sound F h)
        simp only [execOp, resolve, hb, hx', ht', List.map_toArray, List.map]
        rfl
      · cases h
    · rename_i hb
      split at h
      · rename_i x y hx
        have hx' : c.args = #[x, y] := Array.ext' hx
        refine sound1 (run := fun a => Builtin.min_ c.argTypes ty #[a.eval x, a.eval y]) (fun a => ?_) (evMin_sound h)
        simp only [execOp, resolve, hb, hx', List.map_toArray, List.map]
        rfl
      · cases h
    · rename_i hb
      split at h
      · rename_i x y hx
        have hx' : c.args = #[x, y] := Array.ext' hx
        refine sound1 (run := fun a => Builtin.max_ c.argTypes ty #[a.eval x, a.eval y]) (fun a => ?_) (evMax_sound h)
        simp only [execOp, resolve, hb, hx', List.map_toArray, List.map]
        rfl
      · cases h
    · cases h
  | _ => cases h

/-! Rows of operations. -/
def guardReg (ops : List Oper) (g : Nat) : Option Nat := match ops[g]? with
  | some o => o.dst
  | none => none

def execOps (τ : TypeId → Option TI) (Φ : FuncId → Option (Spec N)) (ops : List Oper) : List Oper → St N → (St N → Option β) → Option β
  | [], σ, k => k σ
  | o :: rest, σ, k => match o.guard with
    | none => evOp τ Φ o σ fun σ' => execOps τ Φ ops rest σ' k
    | some (g, want) => match guardReg ops g with
      | none => execOps τ Φ ops rest (σ.put o.dst (.tup [])) k
      | some d => match σ.reg d with
        | .one (.bool b) =>
          bif b then
            (bif want then evOp τ Φ o (σ.putS d (.one (.bool true))) fun σ' => execOps τ Φ ops rest σ' k
            else execOps τ Φ ops rest ((σ.putS d (.one (.bool true))).put o.dst (.tup [])) k)
          else
            (bif want then execOps τ Φ ops rest ((σ.putS d (.one (.bool false))).put o.dst (.tup [])) k
            else evOp τ Φ o (σ.putS d (.one (.bool false))) fun σ' => execOps τ Φ ops rest σ' k)
        | .tup [] => execOps τ Φ ops rest (σ.put o.dst (.tup [])) k
        | _ => none

theorem Rel.skip {io : Io} {w0 w : World} {σ : St N} {a : Act} (h : Rel io w0 σ a w) (d : Option Nat) : Rel io w0 (σ.put d (.tup [])) (a.put d undef) w := by
  obtain ⟨E, h⟩ := h
  exact ⟨E, h.put d ⟨[], rfl, rfl, fun i r u hi _ => by simp at hi⟩⟩

/-- What stands in a variable may be written there once more. -/
theorem Rel.reput {io : Io} {w0 w : World} {σ : St N} {a : Act} {d : Nat} {s : Slot N} (h : Rel io w0 σ a w) (hs : ∀ E, RelE io w0 σ E a w → SlotRel w σ.own E s (a.tmps.getD d undef)) : Rel io w0 (σ.putS d s) a w := by
  obtain ⟨E, h⟩ := h
  have := h.put (some d) (hs E h)
  have he : a.put (some d) (a.tmps.getD d undef) = a := by
    obtain ⟨t, df⟩ := a
    simp only [Act.put, Act.mk.injEq, and_true]
    apply Array.ext_getElem?
    intro i
    rw [Array.getElem?_setIfInBounds]
    by_cases hi : d = i
    · subst hi
      rw [if_pos rfl]
      by_cases hlt : d < t.size
      · simp [hlt]
      · simp [hlt]
    · rw [if_neg hi]
  rw [he] at this
  exact ⟨E, this⟩

theorem reg_slot {io : Io} {w0 w : World} {σ : St N} {E : Env} {a : Act} (h : RelE io w0 σ E a w) {d : Nat} {s : Slot N} (hs : σ.reg d = s) (hne : s ≠ .one .undef) : SlotRel w σ.own E s (a.tmps.getD d undef) ∧ d < a.tmps.size := by
  unfold St.reg at hs
  rw [List.getD_eq_getElem?_getD] at hs
  rcases Nat.lt_or_ge d σ.regs.length with h' | h'
  · rw [List.getElem?_eq_getElem h'] at hs
    exact ⟨h.regs d s (by rw [List.getElem?_eq_getElem h']; exact congrArg some hs), by rw [h.size]; exact h'⟩
  · rw [List.getElem?_eq_none h'] at hs
    exact absurd hs.symm hne

theorem guardReg_toArray {ops : List Oper} {g : Nat} : guardReg ops g = ((ops.toArray)[g]?).bind (·.dst) := by
  unfold guardReg
  rw [List.getElem?_toArray]
  cases ops[g]? <;> rfl

theorem execOps_sound (F : Fits P N τ) {Φ : FuncId → Option (Spec N)} (hΦ : ∀ f S, Φ f = some S → Good P f S) {ops : List Oper} {k : St N → Option β} {r : β} {io : Io} {w0 : World} {Q : Exit → Act → World → Prop}
    (hk : ∀ σ a w, k σ = some r → Rel io w0 σ a w → Q .normal a w) : ∀ (l : List Oper) (σ : St N), execOps τ Φ ops l σ k = some r → ∀ a w, Rel io w0 σ a w → wpList P ops.toArray Q l a w
  | [], σ, h, a, w, hr => hk σ a w h hr
  | o :: rest, σ, h, a, w, hr => by
    have ih := execOps_sound F hΦ (ops := ops) hk rest
    have hstep : ∀ σ0, Rel io w0 σ0 a w → (evOp τ Φ o σ0 fun σ' => execOps τ Φ ops rest σ' k) = some r → o.wp P a w (wpList P ops.toArray Q rest) Q := by
      intro σ0 hr0 h0
      obtain ⟨σ', h1, h2⟩ := evOp_sound F hΦ h0
      exact h2 io w0 a w _ Q hr0 (fun a' w' hr' => ih σ' h1 a' w' hr')
    simp only [execOps] at h
    simp only [wpList]
    split at h
    · rename_i hg
      rw [if_pos (by simp [Region.wanted, hg])]
      exact .inl (hstep σ hr h)
    · rename_i g want hg
      have hW : Region.wanted o (yielded ops.toArray a.tmps) = (yielded ops.toArray a.tmps g == some want) := by simp [Region.wanted, hg]
      have hskip : ∀ σ0, Rel io w0 σ0 a w → Region.wanted o (yielded ops.toArray a.tmps) = false → execOps τ Φ ops rest (σ0.put o.dst (.tup [])) k = some r →
          (if Region.wanted o (yielded ops.toArray a.tmps) = true then o.wp P a w (wpList P ops.toArray Q rest) Q ∨ (o.asks P a w ∧ LetsOut Q) else wpList P ops.toArray Q rest (a.put o.dst undef) w) := by
        intro σ0 hr0 hw0 h0
        rw [hw0, if_neg (by simp)]
        exact ih _ h0 _ _ (hr0.skip o.dst)
      have hy : yielded ops.toArray a.tmps g = match (guardReg ops g).bind (a.tmps[·]?) with
          | some (.bool b) => some b
          | _ => none := by
        unfold yielded
        rw [guardReg_toArray]
        rfl
      split at h
      · rename_i hgr
        refine hskip σ hr ?_ h
        rw [hW, hy, hgr]
        rfl
      · rename_i d hgr
        split at h
        · rename_i b hb
          obtain ⟨E, hrE⟩ := hr
          obtain ⟨hv, hlt⟩ := reg_slot hrE hb (by simp)
          have hv : a.tmps.getD d undef = .bool b := hv
          have hyb : yielded ops.toArray a.tmps g = some b := by
            rw [hy, hgr]
            simp only [Option.bind_some]
            rw [Array.getD_eq_getD_getElem?, Array.getElem?_eq_getElem hlt] at hv
            rw [Array.getElem?_eq_getElem hlt]
            simp only [Option.getD_some] at hv
            rw [hv]
          have hre : Rel io w0 (σ.putS d (.one (.bool b))) a w := Rel.reput ⟨E, hrE⟩ (fun E' hE' => hv)
          rw [hyb] at hW
          cases b with
          | true =>
            simp only [cond_true] at h
            cases want with
            | true =>
              rw [hW]
              exact .inl (hstep _ hre h)
            | false => exact hskip _ hre (by rw [hW]; rfl) h
          | false =>
            simp only [cond_false] at h
            cases want with
            | true => exact hskip _ hre (by rw [hW]; rfl) h
            | false =>
              rw [hW]
              exact .inl (hstep _ hre h)
        · rename_i hb
          obtain ⟨E, hrE⟩ := hr
          obtain ⟨⟨vs, hv, hl, _⟩, hlt⟩ := reg_slot hrE hb (by simp)
          refine hskip σ ⟨E, hrE⟩ ?_ h
          rw [hW, hy, hgr]
          simp only [Option.bind_some]
          rw [Array.getD_eq_getD_getElem?, Array.getElem?_eq_getElem hlt] at hv
          rw [Array.getElem?_eq_getElem hlt]
          simp only [Option.getD_some] at hv
          rw [hv]
          rfl
        · cases h

end Go.Eng
