/- The engine, part Z: from a function's code to what its callers may know. -/
import Derived.Test.YtgfklnmckakclaaGreatDoorEngY
set_option linter.unusedVariables false
set_option linter.unusedSimpArgs false
namespace Go.Eng
variable {N : Names} {P : Program}

theorem results_run {fn : Func} {ds : List ResultVar} (h : fn.results.toList = ds) (hl : ds.length ≤ 5) (tmps : Array Value) (w : World) (us : List Value) (hlen : us.length = ds.length)
    (hus : ∀ (i : Nat) rv u, ds[i]? = some rv → us[i]? = some u → (rvSem tmps rv).run P w = .ok u w) : (results fn tmps).run P w = .ok (packV us) w := by
  have hr : fn.results = ds.toArray := Array.ext' h
  have e : results fn tmps = (do let vs ← fn.results.mapM (rvSem tmps); pure (if h : vs.size = 1 then vs[0] else .tuple vs)) := by
    have hf : rvSem tmps = fun rv => match rv with
        | .tmp t => pure (tmps.getD t undef)
        | .cell a t => (do loadVar t (← asAddr (tmps.getD a undef)) : Sem Value) := (funext fun rv => by cases rv <;> rfl)
    rw [hf]
    rfl
  rw [e, hr]
  clear e
  match ds, hl, us, hlen with
  | [], _, [], _ => simp [packV]
  | [d1], _, [u1], _ =>
    have h1 := hus 0 d1 u1 rfl rfl
    simp [packV, h1]
  | [d1, d2], _, [u1, u2], _ =>
    have h1 := hus 0 d1 u1 rfl rfl
    have h2 := hus 1 d2 u2 rfl rfl
    simp [packV, h1, h2]
  | [d1, d2, d3], _, [u1, u2, u3], _ =>
    have h1 := hus 0 d1 u1 rfl rfl
    have h2 := hus 1 d2 u2 rfl rfl
    have h3 := hus 2 d3 u3 rfl rfl
    simp [packV, h1, h2, h3]
  | [d1, d2, d3, d4], _, [u1, u2, u3, u4], _ =>
    have h1 := hus 0 d1 u1 rfl rfl
    have h2 := hus 1 d2 u2 rfl rfl
    have h3 := hus 2 d3 u3 rfl rfl
    have h4 := hus 3 d4 u4 rfl rfl
    simp [packV, h1, h2, h3, h4]
  | [d1, d2, d3, d4, d5], _, [u1, u2, u3, u4, u5], _ =>
    have h1 := hus 0 d1 u1 rfl rfl
    have h2 := hus 1 d2 u2 rfl rfl
    have h3 := hus 2 d3 u3 rfl rfl
    have h4 := hus 3 d4 u4 rfl rfl
    have h5 := hus 4 d5 u5 rfl rfl
    simp [packV, h1, h2, h3, h4, h5]

/-- A function as it is followed: its code, its results, the places at which it is cut. -/
structure Fn (N : Names) where
  X : Ctx N
  body : Code
  ds : List ResultVar
  ntmps : Nat

abbrev U : Slot N := .one .undef

def bodyOf (f : Func) : Code := match f.body with
  | some c => c
  | none => .skip

def Fn.C (f : Fn N) (ps : List PK) (rs : List RK) : Conts N (HRes N.ρ rs × HOut N.ρ ps) := ⟨finish f.X.τ ps rs f.ds, fun _ _ => none, finish f.X.τ ps rs f.ds⟩
/-- What comes behind place id, n cuts at most. -/
def Fn.at (f : Fn N) (ps : List PK) (rs : List RK) (n id : Nat) (σ : St N) : Option (HRes N.ρ rs × HOut N.ρ ps) := tbl f.X f.body (f.C ps rs) n id σ
def Fn.from (f : Fn N) (ps : List PK) (rs : List RK) (n : Nat) (σ : St N) : Option (HRes N.ρ rs × HOut N.ρ ps) := exec f.X (f.at ps rs n) f.body (f.C ps rs) σ
def Fn.run (f : Fn N) (ps : List PK) (rs : List RK) (n : Nat) (x : HIn N.ρ ps) : Option (HRes N.ρ rs × HOut N.ρ ps) := f.from ps rs n (init ps f.ntmps x)

theorem callFunc_enter {P : Program} {f : FuncId} {fn : Func} {c : Code} (hf : P.funcs[f]? = some fn) (hb : fn.body = some c) (hn : (fn.name == "runtime.NumGoroutine") = false) (w : World) (args : Array Value) :
    (callFunc f args).run P w = .ok (.enter f args) w := by
  unfold callFunc
  simp only [Sem.run_bind, run_program, Result.andThen_ok, hf, hb, hn, Option.isNone_some, Bool.false_eq_true, if_false, Sem.run_pure]

theorem good_of {f : Fn N} (F : Fits P N f.X.τ) (hm : P.follows .mixedOrders = true) (hΦ : ∀ g S, f.X.Φ g = some S → Good P g S) {id : FuncId} {fn : Func} (hf : P.funcs[id]? = some fn) (hb : fn.body = some f.body) (hn : (fn.name == "runtime.NumGoroutine") = false)
    (hres : fn.results.toList = f.ds) (hl : f.ds.length ≤ 5) (ht : fn.ntmps = f.ntmps) (hocc : nodupB (occ f.X f.body) = true)
    (S : Spec N) (hids : nodupB (initIds 0 S.ps) = true) (hpins : f.X.pins = pinIds 0 S.ps)
    (hrun : ∀ x r, S.f x = some r → ∃ n, f.run S.ps S.rs n x = some (S.out r)) : Good P id S where
  enter w args := callFunc_enter hf hb hn w args
  calls w ok x vs bl r hok hin hbl hblk hr := by
    obtain ⟨n, hrun⟩ := hrun x r hr
    obtain ⟨L, l1, l2, l3, l4, l4', l5, l6, l7⟩ := init_rel S.ps 0 x vs bl hin
    have hLids : (L.map (·.1)).Nodup := by rw [l2]; exact nodupB_spec hids
    let E0 : Env := ⟨valOf L, fun b => ok b ∨ b ∈ bl ∨ w.heap.size ≤ b⟩
    let io : Io := ⟨fun g => g ∈ bl, fun b => ok b ∨ b ∈ bl ∨ w.heap.size ≤ b, f.X.pins, valOf L⟩
    have hst : Stand L (initOwn 0 S.ps x) E0 := fun e he => by
      have := ent_look hLids e he
      rw [l1] at this
      exact this
    have hof : ∀ id b, look (initOwn 0 S.ps x) id = some b → ∃ e ∈ L, e.1 = id ∧ e.2.1 = b ∧ valOf L id = e.2.2 := by
      intro id b hb
      rw [← l1] at hb
      obtain ⟨e, he, rfl, rfl⟩ := look_ent hb
      exact ⟨e, he, rfl, rfl, (ent_look hLids e he).2⟩
    have hbof : ∀ id b, look (initOwn 0 S.ps x) id = some b → ∀ g, blkOf (valOf L id) = some g → g ∈ bl := by
      intro id b hb g hg
      obtain ⟨e, he, rfl, rfl, hv⟩ := hof id b hb
      rw [hv] at hg
      rw [l3]
      exact List.mem_flatMap.2 ⟨e, he, mem_oneBlk.2 hg⟩
    have hok0 : ∀ g, ok g → okb w.heap.size (initOwn 0 S.ps x) E0 [] g := fun g hg => ⟨⟨hok g hg, .inl hg⟩, fun id hid _ hg2 => by
      obtain ⟨b, hb⟩ := Option.isSome_iff_exists.1 hid
      exact (hblk g (hbof id b hb g hg2)).1 hg⟩
    obtain ⟨hblkR, hregs⟩ := l7 _ E0 hst hok0
    have hrel : Rel io w (init S.ps f.ntmps x) { tmps := vs.toArray ++ Array.replicate (fn.ntmps - vs.toArray.size) undef, defers := [] } w := by
      refine ⟨E0, ⟨⟨rfl, rfl, rfl, Nat.le_refl _, fun _ _ _ => rfl⟩, ?_, rfl, ?_, ?_, ?_, ?_, rfl, ?_, ?_⟩⟩
      · simp [init, l4', ht, l4]
      · intro t s hs
        simp only [init] at hs
        rcases Nat.lt_or_ge t S.ps.length with hlt | hge
        · rw [List.getElem?_append_left (by simp [l4', hlt]), List.getElem?_map] at hs
          obtain ⟨r0, hr0, rfl⟩ := Option.map_eq_some_iff.1 hs
          have hlt' : t < vs.length := by omega
          have hv : (vs.toArray ++ Array.replicate (fn.ntmps - vs.toArray.size) undef).getD t undef = vs[t] := by
            rw [Array.getD_eq_getD_getElem?, Array.getElem?_append_left (by simpa using hlt')]
            simp [hlt']
          rw [hv]
          exact hregs t r0 _ hr0 (List.getElem?_eq_getElem hlt')
        · rw [List.getElem?_append_right (by simp [l4', hge]), List.getElem?_replicate] at hs
          split at hs
          · cases hs
            rename_i hlt
            refine ⟨[], ?_, rfl, fun i r u hi _ => by simp at hi⟩
            have : (vs.toArray ++ Array.replicate (fn.ntmps - vs.toArray.size) undef).getD t undef = undef := by
              rw [Array.getD_eq_getD_getElem?, Array.getElem?_append_right (by simp; omega)]
              rw [Array.getElem?_replicate]
              split <;> rfl
            rw [this]
            rfl
          · cases hs
      · intro id b hb
        obtain ⟨e, he, rfl, rfl, _⟩ := hof id b hb
        exact hblkR e he
      · intro id b hb g hg
        have := hbof id b hb g hg
        exact ⟨(hblk g this).2, .inr this⟩
      · intro id id' b b' h1 h2 hne g hg
        obtain ⟨e, he, rfl, rfl, hv⟩ := hof id b h1
        obtain ⟨e', he', rfl, rfl, hv'⟩ := hof id' b' h2
        show blkOf (valOf L e'.1) ≠ some g
        have hg : blkOf (valOf L e.1) = some g := hg
        rw [hv] at hg
        rw [hv']
        exact ent_sep (by rw [← l3]; exact hbl) e he e' he' hne g hg
      · rintro b (hb | hb)
        · exact .inr (.inr hb)
        · exact .inr (.inl hb)
      · intro i hi
        obtain ⟨e, he, rfl, hp⟩ := l6 i (by rw [← hpins]; exact hi)
        obtain ⟨s1, s2⟩ := hst e he
        exact ⟨e.2.1, s1, rfl, hp⟩
    have hcon : ConOk io w (S.out r) (f.C S.ps S.rs) (bodyPost P fn fun e w' => ∃ us bl' rl, e = .returned (packV us) ∧ AfterCall S ok vs bl w w' r us bl' rl) := by
      have key : ∀ σ a w', finish f.X.τ S.ps S.rs f.ds σ = some (S.out r) → Rel io w σ a w' → a.defers = [] ∧ ∃ v, (results fn a.tmps).run P w' = .ok v w' ∧ ∃ us bl' rl, Ending.returned v = .returned (packV us) ∧ AfterCall S ok vs bl w w' r us bl' rl := by
        rintro σ a w' hfin ⟨E, hR⟩
        unfold finish at hfin
        split at hfin
        · cases hfin
        rename_i rvs hrvs
        obtain ⟨us, u1, u2, u3, u4⟩ := resRVs_rel F hR hrvs
        refine ⟨hR.defers, _, results_run hres hl _ _ us u2 u3, ?_⟩
        split at hfin
        · rename_i y B R z B' R' h1 h2
          obtain ⟨hcond, hfin⟩ := bif_none hfin
          simp only [Bool.and_eq_true, Bool.not_eq_true'] at hcond
          have hout := Option.some.inj hfin
          have hnd := nodupB_spec hcond.1
          have hmt := meets_false hcond.2
          have hall : ∀ id ∈ R' ++ R, ∃ b, look σ.own id = some b := by
            intro id hid
            rcases List.mem_append.1 hid with hid | hid
            · exact (out_rel hR (okA := fun _ => True) (B0 := B') (fun _ _ => trivial) S.ps 0 vs z B' R' h2 (fun _ h => h) l4 (fun j p v hp hv hpin => by
                obtain ⟨e, he, e1, e2⟩ := l5 j p v hp hv hpin
                have hpm : pid (0 + j) ∈ io.ids := by
                  show pid (0 + j) ∈ f.X.pins
                  rw [hpins]
                  exact mem_pinIds S.ps 0 j p hp hpin
                obtain ⟨b, _, f2, _⟩ := hR.fx _ hpm
                rw [f2]
                show valOf L (pid (0 + j)) = v
                rw [← e1, (ent_look hLids e he).2, e2])).2 id hid
            · exact (resPs_rel hR (okA := fun _ => True) (B0 := B) (fun _ _ => trivial) S.rs rvs us y B R h1 (fun _ h => h) u1 u4).2 id hid
          have hA : ∀ g, okb w'.heap.size σ.own E (B ++ B') g → okAfter ok w w' bl (((R'.flatMap fun id => oneBlk (E id))) ++ (R.flatMap fun id => oneBlk (E id))) g := by
            rintro g ⟨⟨g1, g2⟩, g3⟩
            refine ⟨g1, by rw [hR.sc] at g2; exact g2, fun hm => ?_⟩
            rw [← List.flatMap_append] at hm
            obtain ⟨id, hid, hg⟩ := List.mem_flatMap.1 hm
            obtain ⟨b, hb⟩ := hall id hid
            exact g3 id (by rw [hb]; rfl) (fun hm => hmt id hm hid) (mem_oneBlk.1 hg)
          obtain ⟨q1, _⟩ := out_rel hR hA S.ps 0 vs z B' R' h2 (fun _ h => List.mem_append.2 (.inr h)) l4 (fun j p v hp hv hpin => by
                obtain ⟨e, he, e1, e2⟩ := l5 j p v hp hv hpin
                have hpm : pid (0 + j) ∈ io.ids := by
                  show pid (0 + j) ∈ f.X.pins
                  rw [hpins]
                  exact mem_pinIds S.ps 0 j p hp hpin
                obtain ⟨b, _, f2, _⟩ := hR.fx _ hpm
                rw [f2]
                show valOf L (pid (0 + j)) = v
                rw [← e1, (ent_look hLids e he).2, e2])
          obtain ⟨q2, _⟩ := resPs_rel hR hA S.rs rvs us y B R h1 (fun _ h => List.mem_append.2 (.inl h)) u1 u4
          refine ⟨us, R'.flatMap fun id => oneBlk (E id), R.flatMap fun id => oneBlk (E id), rfl, ?_⟩
          refine ⟨⟨hR.kept.os, hR.kept.tape, hR.kept.output, hR.kept.size, hR.kept.block⟩, ?_, ?_, ?_, ?_⟩
          · rw [← hout]
            exact q1
          · rw [← hout]
            exact q2
          · rw [← List.flatMap_append]
            exact nodup_blks hR hnd hall
          · intro g hg
            rw [← List.flatMap_append] at hg
            obtain ⟨id, hid, hg⟩ := List.mem_flatMap.1 hg
            obtain ⟨b, hb⟩ := hall id hid
            obtain ⟨k1, k2⟩ := hR.blk id b hb g (mem_oneBlk.1 hg)
            exact ⟨k2.symm, k1⟩
        · cases hfin
      refine ⟨fun σ a w' h1 h2 => ?_, fun i σ a w' h1 _ => (by cases h1), fun σ a w' h1 h2 => ?_⟩
      · exact key σ a w' h1 h2
      · exact key σ a w' h1 h2
    exact calls_of_wp hf hb (body_sound F hΦ hm rfl (nodupB_spec hocc) hcon hrun hrel)
where
  mem_pinIds : ∀ (ps : List PK) (i j : Nat) (p : PK), ps[j]? = some p → pinned1 p = true → pid (i + j) ∈ pinIds i ps
    | [], i, j, p, hp, _ => by simp at hp
    | q :: ps, i, 0, p, hp, hpin => by
      simp only [List.getElem?_cons_zero, Option.some.injEq] at hp
      subst hp
      cases q with
      | v t => cases hpin
      | fv f => cases hpin
      | _ => exact List.mem_cons_self
    | q :: ps, i, j + 1, p, hp, hpin => by
      have := mem_pinIds ps (i + 1) j p (by simpa using hp) hpin
      rw [show i + 1 + j = i + (j + 1) from by omega] at this
      cases q with
      | v t => exact this
      | fv f => exact this
      | _ => exact List.mem_cons_of_mem _ this

/-- A function, known by its own code followed n cuts far. -/
def Fn.spec (f : Fn N) (ps : List PK) (rs : List RK) (n : Nat) : Spec N := ⟨ps, rs, HRes N.ρ rs × HOut N.ρ ps, f.run ps rs n, fun r => r⟩

/-- What is known of the functions that are called. -/
def lookS : List (Nat × Spec N) → FuncId → Option (Spec N)
  | [], _ => none
  | (k, v) :: r, i => bif k == i then some v else lookS r i
inductive Goods (P : Program) : List (Nat × Spec N) → Prop
  | nil : Goods P []
  | cons {k : Nat} {S : Spec N} {l : List (Nat × Spec N)} : Good P k S → Goods P l → Goods P ((k, S) :: l)
theorem Goods.look {P : Program} {l : List (Nat × Spec N)} (h : Goods P l) : ∀ f S, lookS l f = some S → Good P f S := by
  induction h with
  | nil => intro f S hf; cases hf
  | @cons k S' l hg _ ih =>
    intro f S hf
    simp only [lookS] at hf
    cases hk : (k == f) with
    | true =>
      rw [hk] at hf
      cases hf
      have : k = f := by simpa using hk
      rw [← this]
      exact hg
    | false =>
      rw [hk] at hf
      exact ih f S hf

theorem good_fn {f : Fn N} {ps : List PK} {rs : List RK} {k : Nat} {l : List (Nat × Spec N)} {τ : TypeId → Option TI} (F : Fits P N τ) (hτ : f.X.τ = τ) (hm : P.follows .mixedOrders = true) (hΦ : f.X.Φ = lookS l) (hg : Goods P l) {id : FuncId} {fn : Func} (hf : P.funcs[id]? = some fn) (hb : fn.body = some f.body) (hn : (fn.name == "runtime.NumGoroutine") = false)
    (hres : fn.results.toList = f.ds) (hl : Nat.ble f.ds.length 5 = true) (ht : fn.ntmps = f.ntmps) (hocc : nodupB (occ f.X f.body) = true)
    (hids : nodupB (initIds 0 ps) = true) (hpins : f.X.pins = pinIds 0 ps) : Good P id (f.spec ps rs k) :=
  good_of (by rw [hτ]; exact F) hm (by rw [hΦ]; exact hg.look) hf hb hn hres (Nat.le_of_ble_eq_true hl) ht hocc _ hids hpins (fun x r h => ⟨k, h⟩)

/-- A function that is known by what it gives. -/
def specOf (ps : List PK) (rs : List RK) (g : HIn N.ρ ps → Option (HRes N.ρ rs × HOut N.ρ ps)) : Spec N := ⟨ps, rs, HRes N.ρ rs × HOut N.ρ ps, g, fun r => r⟩
theorem good_none {id : FuncId} {fn : Func} {c : Code} (hf : P.funcs[id]? = some fn) (hb : fn.body = some c) (hn : (fn.name == "runtime.NumGoroutine") = false) (ps : List PK) (rs : List RK) : Good P id (specOf (N := N) ps rs fun _ => none) where
  enter w args := callFunc_enter hf hb hn w args
  calls w ok x vs bl r _ _ _ _ hr := by cases hr
/-- One more round of a function that calls itself. -/
theorem good_rec {f : Fn N} {ps : List PK} {rs : List RK} {k : Nat} {g : HIn N.ρ ps → Option (HRes N.ρ rs × HOut N.ρ ps)} {id : FuncId} (h : Good P id (f.spec ps rs k)) (he : ∀ x, g x = f.run ps rs k x) : Good P id (specOf ps rs g) := by
  have : g = f.run ps rs k := funext he
  subst this
  exact h

/-- A function that is known by a clean account g of it. -/
theorem good_g {f : Fn N} {ps : List PK} {rs : List RK} {ρ : Type} {g : HIn N.ρ ps → Option ρ} {out : ρ → HRes N.ρ rs × HOut N.ρ ps} {l : List (Nat × Spec N)} {τ : TypeId → Option TI} (F : Fits P N τ) (hτ : f.X.τ = τ) (hm : P.follows .mixedOrders = true) (hΦ : f.X.Φ = lookS l) (hg : Goods P l) {id : FuncId} {fn : Func} (hf : P.funcs[id]? = some fn) (hb : fn.body = some f.body) (hn : (fn.name == "runtime.NumGoroutine") = false)
    (hres : fn.results.toList = f.ds) (hl : Nat.ble f.ds.length 5 = true) (ht : fn.ntmps = f.ntmps) (hocc : nodupB (occ f.X f.body) = true)
    (hids : nodupB (initIds 0 ps) = true) (hpins : f.X.pins = pinIds 0 ps) (hrun : ∀ x r, g x = some r → ∃ n, f.run ps rs n x = some (out r)) : Good P id ⟨ps, rs, ρ, g, out⟩ :=
  good_of (by rw [hτ]; exact F) hm (by rw [hΦ]; exact hg.look) hf hb hn hres (Nat.le_of_ble_eq_true hl) ht hocc ⟨ps, rs, ρ, g, out⟩ hids hpins hrun

end Go.Eng
