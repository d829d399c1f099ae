/- The engine, part Z: from a function's code to what its callers may know.
The engine: a program's table of types, checked by computation.
The engine: a law's arguments, as they are read, are values; what they measure is at most the bulk of the reading.
Plain facts that the laws' own proofs use: wrapping, indices, counts. -/
import Derived.Test.YtgfklnmckakclaaGreatDoorEngine3
import Derived.WalkKit
import Derived.ProofKit
import Derived.OpenShut
import Derived.JoinedCond
import Derived.ChangeArms
import Derived.ChangeOld
import Derived.WideShapes
import Derived.Carry
set_option linter.unusedVariables false
set_option linter.unusedSimpArgs false
namespace Go.Eng
variable {N : Names} {P : Program}

theorem results_run {fn : Func} {ds : List ResultVar} (h : fn.results.toList = ds) (hl : ds.length ≤ 5) (tmps : Array Value) (w : World) (us : List Value) (hlen : us.length = ds.length)
    (hus : ∀ (i : Nat) rv u, ds[i]? = some rv → us[i]? = some u → (rvSem tmps rv).run P w = .ok u w) : (results fn tmps).run P w = .ok (packV us) w := by
  have hr : fn.results = ds.toArray := Array.ext' h
  have e : results fn tmps = (do let vs ← fn.results.mapM (rvSem tmps); pure (if h : vs.size = 1 then vs[0] else .tuple vs)) := by
    have hf : rvSem tmps = fun rv => match rv with
        | .tmp t => pure (tmps.getD t undef)
        | .cell a t => (do loadVar t (← asAddr (tmps.getD a undef)) : Sem Value) := (funext fun rv => by cases rv <;> rfl)
    rw [hf]
    rfl
  rw [e, hr]
  clear e
  match ds, hl, us, hlen with
  | [], _, [], _ => simp [packV]
  | [d1], _, [u1], _ =>
    have h1 := hus 0 d1 u1 rfl rfl
    simp [packV, h1]
  | [d1, d2], _, [u1, u2], _ =>
    have h1 := hus 0 d1 u1 rfl rfl
    have h2 := hus 1 d2 u2 rfl rfl
    simp [packV, h1, h2]
  | [d1, d2, d3], _, [u1, u2, u3], _ =>
    have h1 := hus 0 d1 u1 rfl rfl
    have h2 := hus 1 d2 u2 rfl rfl
    have h3 := hus 2 d3 u3 rfl rfl
    simp [packV, h1, h2, h3]
  | [d1, d2, d3, d4], _, [u1, u2, u3, u4], _ =>
    have h1 := hus 0 d1 u1 rfl rfl
    have h2 := hus 1 d2 u2 rfl rfl
    have h3 := hus 2 d3 u3 rfl rfl
    have h4 := hus 3 d4 u4 rfl rfl
    simp [packV, h1, h2, h3, h4]
  | [d1, d2, d3, d4, d5], _, [u1, u2, u3, u4, u5], _ =>
    have h1 := hus 0 d1 u1 rfl rfl
    have h2 := hus 1 d2 u2 rfl rfl
    have h3 := hus 2 d3 u3 rfl rfl
    have h4 := hus 3 d4 u4 rfl rfl
    have h5 := hus 4 d5 u5 rfl rfl
    simp [packV, h1, h2, h3, h4, h5]

/-- A function as it is followed: its code, its results, the places at which it is cut. -/
structure Fn (N : Names) where
  X : Ctx N
  body : Code
  ds : List ResultVar
  ntmps : Nat

abbrev U : Slot N := .one .undef

def bodyOf (f : Func) : Code := match f.body with
  | some c => c
  | none => .skip

def Fn.C (f : Fn N) (ps : List PK) (rs : List RK) : Conts N (HRes N.ρ rs × HOut N.ρ ps) := ⟨finish f.X.τ ps rs f.ds, fun _ _ => none, finish f.X.τ ps rs f.ds⟩
/-- What comes behind place id, n cuts at most. -/
def Fn.at (f : Fn N) (ps : List PK) (rs : List RK) (n id : Nat) (σ : St N) : Option (HRes N.ρ rs × HOut N.ρ ps) := tbl f.X f.body (f.C ps rs) n id σ
def Fn.from (f : Fn N) (ps : List PK) (rs : List RK) (n : Nat) (σ : St N) : Option (HRes N.ρ rs × HOut N.ρ ps) := exec f.X (f.at ps rs n) f.body (f.C ps rs) σ
def Fn.run (f : Fn N) (ps : List PK) (rs : List RK) (n : Nat) (x : HIn N.ρ ps) : Option (HRes N.ρ rs × HOut N.ρ ps) := f.from ps rs n (init ps f.ntmps x)

theorem callFunc_enter {P : Program} {f : FuncId} {fn : Func} {c : Code} (hf : P.funcs[f]? = some fn) (hb : fn.body = some c) (hn : (fn.name == "runtime.NumGoroutine") = false) (w : World) (args : Array Value) :
    (callFunc f args).run P w = .ok (.enter f args) w := by
  unfold callFunc
  simp only [Sem.run_bind, run_program, Result.andThen_ok, hf, hb, hn, Option.isNone_some, Bool.false_eq_true, if_false, Sem.run_pure]

theorem good_of {f : Fn N} (F : Fits P N f.X.τ) (hm : P.follows .mixedOrders = true) (hΦ : ∀ g S, f.X.Φ g = some S → Good P g S) {id : FuncId} {fn : Func} (hf : P.funcs[id]? = some fn) (hb : fn.body = some f.body) (hn : (fn.name == "runtime.NumGoroutine") = false)
    (hres : fn.results.toList = f.ds) (hl : f.ds.length ≤ 5) (ht : fn.ntmps = f.ntmps) (hocc : nodupB (occ f.X f.body) = true)
    (S : Spec N) (hids : nodupB (initIds 0 S.ps) = true) (hpins : f.X.pins = pinIds 0 S.ps)
    (hrun : ∀ x r, S.f x = some r → ∃ n, f.run S.ps S.rs n x = some (S.out r)) : Good P id S where
  enter w args := callFunc_enter hf hb hn w args
  calls w ok x vs bl r hok hin hbl hblk hr := by
    obtain ⟨n, hrun⟩ := hrun x r hr
    obtain ⟨L, l1, l2, l3, l4, l4', l5, l6, l7⟩ := init_rel S.ps 0 x vs bl hin
    have hLids : (L.map (·.1)).Nodup := by rw [l2]; exact nodupB_spec hids
    let E0 : Env := ⟨valOf L, fun b => ok b ∨ b ∈ bl ∨ w.heap.size ≤ b⟩
    let io : Io := ⟨fun g => g ∈ bl, fun b => ok b ∨ b ∈ bl ∨ w.heap.size ≤ b, f.X.pins, valOf L⟩
    have hst : Stand L (initOwn 0 S.ps x) E0 := fun e he => by
      have := ent_look hLids e he
      rw [l1] at this
      exact this
    have hof : ∀ id b, look (initOwn 0 S.ps x) id = some b → ∃ e ∈ L, e.1 = id ∧ e.2.1 = b ∧ valOf L id = e.2.2 := by
      intro id b hb
      rw [← l1] at hb
      obtain ⟨e, he, rfl, rfl⟩ := look_ent hb
      exact ⟨e, he, rfl, rfl, (ent_look hLids e he).2⟩
    have hbof : ∀ id b, look (initOwn 0 S.ps x) id = some b → ∀ g, blkOf (valOf L id) = some g → g ∈ bl := by
      intro id b hb g hg
      obtain ⟨e, he, rfl, rfl, hv⟩ := hof id b hb
      rw [hv] at hg
      rw [l3]
      exact List.mem_flatMap.2 ⟨e, he, mem_oneBlk.2 hg⟩
    have hok0 : ∀ g, ok g → okb w.heap.size (initOwn 0 S.ps x) E0 [] g := fun g hg => ⟨⟨hok g hg, .inl hg⟩, fun id hid _ hg2 => by
      obtain ⟨b, hb⟩ := Option.isSome_iff_exists.1 hid
      exact (hblk g (hbof id b hb g hg2)).1 hg⟩
    obtain ⟨hblkR, hregs⟩ := l7 _ E0 hst hok0
    have hrel : Rel io w (init S.ps f.ntmps x) { tmps := vs.toArray ++ Array.replicate (fn.ntmps - vs.toArray.size) undef, defers := [] } w := by
      refine ⟨E0, ⟨⟨rfl, rfl, rfl, Nat.le_refl _, fun _ _ _ => rfl⟩, ?_, rfl, ?_, ?_, ?_, ?_, rfl, ?_, ?_⟩⟩
      · simp [init, l4', ht, l4]
      · intro t s hs
        simp only [init] at hs
        rcases Nat.lt_or_ge t S.ps.length with hlt | hge
        · rw [List.getElem?_append_left (by simp [l4', hlt]), List.getElem?_map] at hs
          obtain ⟨r0, hr0, rfl⟩ := Option.map_eq_some_iff.1 hs
          have hlt' : t < vs.length := by omega
          have hv : (vs.toArray ++ Array.replicate (fn.ntmps - vs.toArray.size) undef).getD t undef = vs[t] := by
            rw [Array.getD_eq_getD_getElem?, Array.getElem?_append_left (by simpa using hlt')]
            simp [hlt']
          rw [hv]
          exact hregs t r0 _ hr0 (List.getElem?_eq_getElem hlt')
        · rw [List.getElem?_append_right (by simp [l4', hge]), List.getElem?_replicate] at hs
          split at hs
          · cases hs
            rename_i hlt
            refine ⟨[], ?_, rfl, fun i r u hi _ => by simp at hi⟩
            have : (vs.toArray ++ Array.replicate (fn.ntmps - vs.toArray.size) undef).getD t undef = undef := by
              rw [Array.getD_eq_getD_getElem?, Array.getElem?_append_right (by simp; omega)]
              rw [Array.getElem?_replicate]
              split <;> rfl
            rw [this]
            rfl
          · cases hs
      · intro id b hb
        obtain ⟨e, he, rfl, rfl, _⟩ := hof id b hb
        exact hblkR e he
      · intro id b hb g hg
        have := hbof id b hb g hg
        exact ⟨(hblk g this).2, .inr this⟩
      · intro id id' b b' h1 h2 hne g hg
        obtain ⟨e, he, rfl, rfl, hv⟩ := hof id b h1
        obtain ⟨e', he', rfl, rfl, hv'⟩ := hof id' b' h2
        show blkOf (valOf L e'.1) ≠ some g
        have hg : blkOf (valOf L e.1) = some g := hg
        rw [hv] at hg
        rw [hv']
        exact ent_sep (by rw [← l3]; exact hbl) e he e' he' hne g hg
      · rintro b (hb | hb)
        · exact .inr (.inr hb)
        · exact .inr (.inl hb)
      · intro i hi
        obtain ⟨e, he, rfl, hp⟩ := l6 i (by rw [← hpins]; exact hi)
        obtain ⟨s1, s2⟩ := hst e he
        exact ⟨e.2.1, s1, rfl, hp⟩
    have hcon : ConOk io w (S.out r) (f.C S.ps S.rs) (bodyPost P fn fun e w' => ∃ us bl' rl, e = .returned (packV us) ∧ AfterCall S ok vs bl w w' r us bl' rl) := by
      have key : ∀ σ a w', finish f.X.τ S.ps S.rs f.ds σ = some (S.out r) → Rel io w σ a w' → a.defers = [] ∧ ∃ v, (results fn a.tmps).run P w' = .ok v w' ∧ ∃ us bl' rl, Ending.returned v = .returned (packV us) ∧ AfterCall S ok vs bl w w' r us bl' rl := by
        rintro σ a w' hfin ⟨E, hR⟩
        unfold finish at hfin
        split at hfin
        · cases hfin
        rename_i rvs hrvs
        obtain ⟨us, u1, u2, u3, u4⟩ := resRVs_rel F hR hrvs
        refine ⟨hR.defers, _, results_run hres hl _ _ us u2 u3, ?_⟩
        split at hfin
        · rename_i y B R z B' R' h1 h2
          obtain ⟨hcond, hfin⟩ := bif_none hfin
          simp only [Bool.and_eq_true, Bool.not_eq_true'] at hcond
          have hout := Option.some.inj hfin
          have hnd := nodupB_spec hcond.1
          have hmt := meets_false hcond.2
          have hall : ∀ id ∈ R' ++ R, ∃ b, look σ.own id = some b := by
            intro id hid
            rcases List.mem_append.1 hid with hid | hid
            · exact (out_rel hR (okA := fun _ => True) (B0 := B') (fun _ _ => trivial) S.ps 0 vs z B' R' h2 (fun _ h => h) l4 (fun j p v hp hv hpin => by
                obtain ⟨e, he, e1, e2⟩ := l5 j p v hp hv hpin
                have hpm : pid (0 + j) ∈ io.ids := by
                  show pid (0 + j) ∈ f.X.pins
                  rw [hpins]
                  exact mem_pinIds S.ps 0 j p hp hpin
                obtain ⟨b, _, f2, _⟩ := hR.fx _ hpm
                rw [f2]
                show valOf L (pid (0 + j)) = v
                rw [← e1, (ent_look hLids e he).2, e2])).2 id hid
            · exact (resPs_rel hR (okA := fun _ => True) (B0 := B) (fun _ _ => trivial) S.rs rvs us y B R h1 (fun _ h => h) u1 u4).2 id hid
          have hA : ∀ g, okb w'.heap.size σ.own E (B ++ B') g → okAfter ok w w' bl (((R'.flatMap fun id => oneBlk (E id))) ++ (R.flatMap fun id => oneBlk (E id))) g := by
            rintro g ⟨⟨g1, g2⟩, g3⟩
            refine ⟨g1, by rw [hR.sc] at g2; exact g2, fun hm => ?_⟩
            rw [← List.flatMap_append] at hm
            obtain ⟨id, hid, hg⟩ := List.mem_flatMap.1 hm
            obtain ⟨b, hb⟩ := hall id hid
            exact g3 id (by rw [hb]; rfl) (fun hm => hmt id hm hid) (mem_oneBlk.1 hg)
          obtain ⟨q1, _⟩ := out_rel hR hA S.ps 0 vs z B' R' h2 (fun _ h => List.mem_append.2 (.inr h)) l4 (fun j p v hp hv hpin => by
                obtain ⟨e, he, e1, e2⟩ := l5 j p v hp hv hpin
                have hpm : pid (0 + j) ∈ io.ids := by
                  show pid (0 + j) ∈ f.X.pins
                  rw [hpins]
                  exact mem_pinIds S.ps 0 j p hp hpin
                obtain ⟨b, _, f2, _⟩ := hR.fx _ hpm
                rw [f2]
                show valOf L (pid (0 + j)) = v
                rw [← e1, (ent_look hLids e he).2, e2])
          obtain ⟨q2, _⟩ := resPs_rel hR hA S.rs rvs us y B R h1 (fun _ h => List.mem_append.2 (.inl h)) u1 u4
          refine ⟨us, R'.flatMap fun id => oneBlk (E id), R.flatMap fun id => oneBlk (E id), rfl, ?_⟩
          refine ⟨⟨hR.kept.os, hR.kept.tape, hR.kept.output, hR.kept.size, hR.kept.block⟩, ?_, ?_, ?_, ?_⟩
          · rw [← hout]
            exact q1
          · rw [← hout]
            exact q2
          · rw [← List.flatMap_append]
            exact nodup_blks hR hnd hall
          · intro g hg
            rw [← List.flatMap_append] at hg
            obtain ⟨id, hid, hg⟩ := List.mem_flatMap.1 hg
            obtain ⟨b, hb⟩ := hall id hid
            obtain ⟨k1, k2⟩ := hR.blk id b hb g (mem_oneBlk.1 hg)
            exact ⟨k2.symm, k1⟩
        · cases hfin
      refine ⟨fun σ a w' h1 h2 => ?_, fun i σ a w' h1 _ => (by cases h1), fun σ a w' h1 h2 => ?_⟩
      · exact key σ a w' h1 h2
      · exact key σ a w' h1 h2
    exact calls_of_wp hf hb (body_sound F hΦ hm rfl (nodupB_spec hocc) hcon hrun hrel)
where
  mem_pinIds : ∀ (ps : List PK) (i j : Nat) (p : PK), ps[j]? = some p → pinned1 p = true → pid (i + j) ∈ pinIds i ps
    | [], i, j, p, hp, _ => by simp at hp
    | q :: ps, i, 0, p, hp, hpin => by
      simp only [List.getElem?_cons_zero, Option.some.injEq] at hp
      subst hp
      cases q with
      | v t => cases hpin
      | fv f => cases hpin
      | _ => exact List.mem_cons_self
    | q :: ps, i, j + 1, p, hp, hpin => by
      have := mem_pinIds ps (i + 1) j p (by simpa using hp) hpin
      rw [show i + 1 + j = i + (j + 1) from by omega] at this
      cases q with
      | v t => exact this
      | fv f => exact this
      | _ => exact List.mem_cons_of_mem _ this

/-- A function, known by its own code followed n cuts far. -/
def Fn.spec (f : Fn N) (ps : List PK) (rs : List RK) (n : Nat) : Spec N := ⟨ps, rs, HRes N.ρ rs × HOut N.ρ ps, f.run ps rs n, fun r => r⟩

/-- What is known of the functions that are called. -/
def lookS : List (Nat × Spec N) → FuncId → Option (Spec N)
  | [], _ => none
  | (k, v) :: r, i => bif k == i then some v else lookS r i
inductive Goods (P : Program) : List (Nat × Spec N) → Prop
  | nil : Goods P []
  | cons {k : Nat} {S : Spec N} {l : List (Nat × Spec N)} : Good P k S → Goods P l → Goods P ((k, S) :: l)
theorem Goods.look {P : Program} {l : List (Nat × Spec N)} (h : Goods P l) : ∀ f S, lookS l f = some S → Good P f S := by
  induction h with
  | nil => intro f S hf; cases hf
  | @cons k S' l hg _ ih =>
    intro f S hf
    simp only [lookS] at hf
    cases hk : (k == f) with
    | true =>
      rw [hk] at hf
      cases hf
      have : k = f := by simpa using hk
      rw [← this]
      exact hg
    | false =>
      rw [hk] at hf
      exact ih f S hf

theorem good_fn {f : Fn N} {ps : List PK} {rs : List RK} {k : Nat} {l : List (Nat × Spec N)} {τ : TypeId → Option TI} (F : Fits P N τ) (hτ : f.X.τ = τ) (hm : P.follows .mixedOrders = true) (hΦ : f.X.Φ = lookS l) (hg : Goods P l) {id : FuncId} {fn : Func} (hf : P.funcs[id]? = some fn) (hb : fn.body = some f.body) (hn : (fn.name == "runtime.NumGoroutine") = false)
    (hres : fn.results.toList = f.ds) (hl : Nat.ble f.ds.length 5 = true) (ht : fn.ntmps = f.ntmps) (hocc : nodupB (occ f.X f.body) = true)
    (hids : nodupB (initIds 0 ps) = true) (hpins : f.X.pins = pinIds 0 ps) : Good P id (f.spec ps rs k) :=
  good_of (by rw [hτ]; exact F) hm (by rw [hΦ]; exact hg.look) hf hb hn hres (Nat.le_of_ble_eq_true hl) ht hocc _ hids hpins (fun x r h => ⟨k, h⟩)

/-- A function that is known by what it gives. -/
def specOf (ps : List PK) (rs : List RK) (g : HIn N.ρ ps → Option (HRes N.ρ rs × HOut N.ρ ps)) : Spec N := ⟨ps, rs, HRes N.ρ rs × HOut N.ρ ps, g, fun r => r⟩
theorem good_none {id : FuncId} {fn : Func} {c : Code} (hf : P.funcs[id]? = some fn) (hb : fn.body = some c) (hn : (fn.name == "runtime.NumGoroutine") = false) (ps : List PK) (rs : List RK) : Good P id (specOf (N := N) ps rs fun _ => none) where
  enter w args := callFunc_enter hf hb hn w args
  calls w ok x vs bl r _ _ _ _ hr := by cases hr
/-- One more round of a function that calls itself. -/
theorem good_rec {f : Fn N} {ps : List PK} {rs : List RK} {k : Nat} {g : HIn N.ρ ps → Option (HRes N.ρ rs × HOut N.ρ ps)} {id : FuncId} (h : Good P id (f.spec ps rs k)) (he : ∀ x, g x = f.run ps rs k x) : Good P id (specOf ps rs g) := by
  have : g = f.run ps rs k := funext he
  subst this
  exact h

/-- A function that is known by a clean account g of it. -/
theorem good_g {f : Fn N} {ps : List PK} {rs : List RK} {ρ : Type} {g : HIn N.ρ ps → Option ρ} {out : ρ → HRes N.ρ rs × HOut N.ρ ps} {l : List (Nat × Spec N)} {τ : TypeId → Option TI} (F : Fits P N τ) (hτ : f.X.τ = τ) (hm : P.follows .mixedOrders = true) (hΦ : f.X.Φ = lookS l) (hg : Goods P l) {id : FuncId} {fn : Func} (hf : P.funcs[id]? = some fn) (hb : fn.body = some f.body) (hn : (fn.name == "runtime.NumGoroutine") = false)
    (hres : fn.results.toList = f.ds) (hl : Nat.ble f.ds.length 5 = true) (ht : fn.ntmps = f.ntmps) (hocc : nodupB (occ f.X f.body) = true)
    (hids : nodupB (initIds 0 ps) = true) (hpins : f.X.pins = pinIds 0 ps) (hrun : ∀ x r, g x = some r → ∃ n, f.run ps rs n x = some (out r)) : Good P id ⟨ps, rs, ρ, g, out⟩ :=
  good_of (by rw [hτ]; exact F) hm (by rw [hΦ]; exact hg.look) hf hb hn hres (Nat.le_of_ble_eq_true hl) ht hocc ⟨ps, rs, ρ, g, out⟩ hids hpins hrun

end Go.Eng

set_option linter.unusedVariables false
set_option linter.unusedSimpArgs false
namespace Go.Eng
variable {N : Names} {P : Program}

def zeroL (g : Ty → List Value → Bool) (sz : Ty → Nat) : List Ty → List Value → Bool
  | [], cs => cs.isEmpty
  | t :: ts, cs => g t (cs.take (sz t)) && zeroL g sz ts (cs.drop (sz t))

def zeroOk (N : Names) : Nat → Ty → List Value → Bool
  | _, .int k, [.int k' n] => decide (k' = k) && decide (n = 0)
  | _, .bool, [.bool b] => !b
  | _, .str, [.string s] => s.data.toList.isEmpty
  | _, .sl _, [.slice none 0 0] => true
  | _, .opq, [v] => v.oneCell'
  | f + 1, .nm n, cs => zeroL (zeroOk N f) N.sz (N.body n) cs
  | _, _, _ => false

def dfltL (N : Names) : (ts : List Ty) → HL N.ρ ts
  | [] => ()
  | t :: ts => (N.dflt t, dfltL N ts)

theorem zeroOk_rep (hdv : ∀ n, N.un n (N.dv n) = dfltL N (N.body n)) (w : World) (ok : Nat → Prop) : ∀ (f : Nat) (t : Ty) (cs : List Value), zeroOk N f t cs = true → Rep w ok t (N.dflt t) cs := by
  have one : ∀ (g : Ty → List Value → Bool) (hg : ∀ t cs, g t cs = true → Rep w ok t (N.dflt t) cs) (ts : List Ty) (cs : List Value), zeroL g N.sz ts cs = true → RepL w ok (RepN w ok) ts (dfltL N ts) cs := by
    intro g hg ts
    induction ts with
    | nil =>
      intro cs h
      simp only [zeroL, List.isEmpty_iff] at h
      exact h
    | cons t ts ih =>
      intro cs h
      simp only [zeroL, Bool.and_eq_true] at h
      exact ⟨_, _, (List.take_append_drop _ cs).symm, hg _ _ h.1, ih _ h.2⟩
  intro f
  induction f with
  | zero =>
    intro t cs h
    unfold zeroOk at h
    split at h
    · simp only [Bool.and_eq_true, decide_eq_true_eq] at h
      obtain ⟨rfl, rfl⟩ := h
      rfl
    · rename_i b
      cases b with
      | true => cases h
      | false => rfl
    · rename_i s
      refine ⟨s, rfl, ?_⟩
      simp only [List.isEmpty_iff] at h
      unfold bytesL
      rw [h]
      rfl
    · exact ⟨none, 0, rfl, Nat.le_refl _, fun _ => rfl, fun i x hx => by simp [Names.dflt] at hx⟩
    · exact ⟨_, rfl, h⟩
    · rename_i h0
      cases h0
    · cases h
  | succ f ih =>
    intro t cs h
    unfold zeroOk at h
    split at h
    · simp only [Bool.and_eq_true, decide_eq_true_eq] at h
      obtain ⟨rfl, rfl⟩ := h
      rfl
    · rename_i b
      cases b with
      | true => cases h
      | false => rfl
    · rename_i s
      refine ⟨s, rfl, ?_⟩
      simp only [List.isEmpty_iff] at h
      unfold bytesL
      rw [h]
      rfl
    · exact ⟨none, 0, rfl, Nat.le_refl _, fun _ => rfl, fun i x hx => by simp [Names.dflt] at hx⟩
    · exact ⟨_, rfl, h⟩
    · rename_i n hf
      cases hf
      refine RepN_close ?_
      rw [show N.un n (N.dflt (.nm n)) = dfltL N (N.body n) from hdv n]
      exact one _ ih _ _ h
    · cases h

def infoOk (P : Program) (t : TypeId) (n : Nat) (z : Value → Bool) : Bool := match P.info? t with
  | some i => (match i.zero with | some v => z v | none => false) && decide (i.size = n) && Nat.ble i.bytes 32768
  | none => false

theorem infoOk_spec {t : TypeId} {n : Nat} {z : Value → Bool} (h : infoOk P t n z = true) : ∃ v, z v = true ∧ Info P t v n := by
  unfold infoOk at h
  split at h
  · rename_i i hi
    simp only [Bool.and_eq_true, decide_eq_true_eq] at h
    obtain ⟨⟨h1, h2⟩, h3⟩ := h
    split at h1
    · rename_i v hv
      exact ⟨v, h1, i, hi, hv, h2, Nat.le_of_ble_eq_true h3⟩
    · cases h1
  · cases h

def fieldsOk (N : Names) (τ : TypeId → Option TI) : List Ty → Nat → List Field → Bool
  | [], _, [] => true
  | ty :: tys, off, f :: fs => decide (f.offset = off) && (match τ f.type with | some ti => decide (ti.ty = ty) | none => false) && !(decide (N.sz ty = 0)) && !(decide (f.name = "_")) && fieldsOk N τ tys (off + N.sz ty) fs
  | _, _, _ => false

theorem fieldsOk_spec {τ : TypeId → Option TI} : ∀ (tys : List Ty) (off : Nat) (fs : List Field), fieldsOk N τ tys off fs = true → FieldsFit N τ tys off fs
  | [], _, [], _ => trivial
  | [], _, _ :: _, h => by cases h
  | _ :: _, _, [], h => by cases h
  | ty :: tys, off, f :: fs, h => by
    simp only [fieldsOk, Bool.and_eq_true, decide_eq_true_eq, Bool.not_eq_true', decide_eq_false_iff_not] at h
    obtain ⟨⟨⟨⟨h1, h2⟩, h3⟩, h4⟩, h5⟩ := h
    refine ⟨h1, ?_, h3, h4, fieldsOk_spec tys _ fs h5⟩
    split at h2
    · rename_i ti hti
      have : ti.ty = ty := by simpa using h2
      exact ⟨ti.el, by rw [hti, ← this]⟩
    · cases h2

def isOne (k : Value → Bool) : Value → Bool := k

def fitRow (P : Program) (N : Names) (τ : TypeId → Option TI) (t : TypeId) (ti : TI) : Bool :=
  match ti.ty with
  | .int k => (match P.underlying t with | some (.int k') => decide (k' = k) | _ => false) && infoOk P t 1 fun v => match v with | .int k' n => decide (k' = k) && decide (n = 0) | _ => false
  | .bool => (match P.underlying t with | some .bool => true | _ => false) && infoOk P t 1 fun v => match v with | .bool b => !b | _ => false
  | .str => (match P.underlying t with | some .string => true | _ => false) && infoOk P t 1 fun v => match v with | .string s => s.data.toList.isEmpty | _ => false
  | .sl e => (match P.underlying t with | some (.slice el) => decide (el = ti.el) | _ => false) && (match τ ti.el with | some te => decide (te.ty = e) | none => false) && infoOk P t 1 fun v => match v with | .slice none 0 0 => true | _ => false
  | .opq => (match P.underlying t with | some (.struct _) => false | some (.array _ _) => false | some _ => true | none => false) && (decide (ti.el = 0) || (match P.underlying t with | some (.map k v) => decide (k = ti.el / 100000) && decide (v = ti.el % 100000) | _ => false)) && infoOk P t 1 fun v => v.oneCell'
  | .nm n => (match P.underlying t with | some (.struct fs) => decide (ti.el = 0) && fieldsOk N τ (N.body n) 0 fs.toList | some (.array len el) => decide (ti.el = el + 1) && (match P.info? el with | some i => fieldsOk N τ (N.body n) 0 (virt len el i.size) | none => false) | _ => false) && !P.stoodInHeld t && !P.eqGuardType P.depth t && Nat.blt 0 (N.size n) &&
      infoOk P t (N.size n) fun v => match v with | .agg zc => zeroOk N 8 (.nm n) zc.toList | _ => false

theorem fits_of {l : List (TypeId × TI)} (hdv : ∀ n, N.un n (N.dv n) = dfltL N (N.body n)) (h : (l.all fun p => fitRow P N (look l) p.1 p.2) = true) : Fits P N (look l) := by
  have key : ∀ t ti, look l t = some ti → fitRow P N (look l) t ti = true := fun t ti ht => List.all_eq_true.1 h _ (look_mem ht)
  constructor
  · intro t k e ht
    have := key t _ ht
    simp only [fitRow, Bool.and_eq_true] at this
    obtain ⟨h1, h2⟩ := this
    obtain ⟨v, hv, hi⟩ := infoOk_spec h2
    constructor
    · split at h1
      · rename_i k' hk
        rw [hk]
        have : k' = k := by simpa using h1
        rw [this]
      · cases h1
    · split at hv
      · simp only [Bool.and_eq_true, decide_eq_true_eq] at hv
        obtain ⟨rfl, rfl⟩ := hv
        exact hi
      · cases hv
  · intro t e ht
    have := key t _ ht
    simp only [fitRow, Bool.and_eq_true] at this
    obtain ⟨h1, h2⟩ := this
    obtain ⟨v, hv, hi⟩ := infoOk_spec h2
    constructor
    · split at h1
      · assumption
      · cases h1
    · split at hv
      · rename_i b
        cases b with
        | true => cases hv
        | false => exact hi
      · cases hv
  · intro t e ht
    have := key t _ ht
    simp only [fitRow, Bool.and_eq_true] at this
    obtain ⟨h1, h2⟩ := this
    obtain ⟨v, hv, hi⟩ := infoOk_spec h2
    constructor
    · split at h1
      · assumption
      · cases h1
    · split at hv
      · rename_i s
        obtain ⟨⟨l⟩⟩ := s
        have : l = [] := by simpa using hv
        subst this
        exact hi
      · cases hv
  · intro t ty e ht
    have := key t _ ht
    simp only [fitRow, Bool.and_eq_true] at this
    obtain ⟨⟨h1, h3⟩, h2⟩ := this
    obtain ⟨v, hv, hi⟩ := infoOk_spec h2
    refine ⟨?_, ?_, ?_⟩
    · split at h1
      · rename_i el hel
        rw [hel]
        have : el = e := by simpa using h1
        rw [this]
      · cases h1
    · split at h3
      · rename_i te hte
        have : te.ty = ty := by simpa using h3
        exact ⟨te.el, by rw [hte, ← this]⟩
      · cases h3
    · split at hv
      · exact hi
      · cases hv
  · intro t e ht
    have := key t _ ht
    simp only [fitRow, Bool.and_eq_true] at this
    obtain ⟨⟨h1, _⟩, h2⟩ := this
    obtain ⟨v, hv, hi⟩ := infoOk_spec h2
    refine ⟨?_, v, hi, hv⟩
    split at h1
    · cases h1
    · cases h1
    · rename_i d hn1 hn2 hd
      refine ⟨_, hd, ?_⟩
      split
      · rename_i fs
        exact (hn1 fs rfl).elim
      · rename_i n e
        exact (hn2 n e rfl).elim
      · rfl
    · cases h1
  · intro t e ht
    have := key t _ ht
    simp only [fitRow, Bool.and_eq_true, Bool.or_eq_true, decide_eq_true_eq] at this
    obtain ⟨⟨_, h1⟩, _⟩ := this
    rcases h1 with h1 | h1
    · exact .inl h1
    · right
      split at h1
      · rename_i k v hkv
        simp only [Bool.and_eq_true, decide_eq_true_eq] at h1
        rw [hkv, h1.1, h1.2]
      · cases h1
  · intro t n e ht
    have := key t _ ht
    simp only [fitRow, Bool.and_eq_true, Bool.not_eq_true'] at this
    obtain ⟨⟨⟨⟨h1, h2⟩, h3⟩, h4⟩, h5⟩ := this
    obtain ⟨v, hv, hi⟩ := infoOk_spec h5
    have hz : ∃ zc : Array Value, Info P t (.agg zc) (N.size n) ∧ 0 < N.size n ∧ ∀ w ok, Rep w ok (.nm n) (N.dv n) zc.toList := by
      split at hv
      · rename_i zc
        exact ⟨zc, hi, Nat.le_of_ble_eq_true h4, fun w ok => zeroOk_rep hdv w ok 8 (.nm n) _ hv⟩
      · cases hv
    split at h1
    · rename_i fs hfs
      simp only [Bool.and_eq_true, decide_eq_true_eq] at h1
      exact ⟨fs, .inl ⟨h1.1, hfs⟩, fieldsOk_spec _ _ _ h1.2, h2, h3, hz⟩
    · rename_i len el hfs
      simp only [Bool.and_eq_true, decide_eq_true_eq] at h1
      obtain ⟨h0, h1⟩ := h1
      split at h1
      · rename_i i hi'
        exact ⟨_, .inr ⟨len, el, i, h0, hfs, hi', rfl⟩, fieldsOk_spec _ _ _ (by simpa using h1), h2, h3, hz⟩
      · cases h1
    · cases h1

end Go.Eng

set_option linter.unusedVariables false
set_option linter.unusedSimpArgs false
namespace Go.Eng
variable {N : Names} {P : Program} {H : Type} {enc : TypeId × Value → H} {w : World} {τ : TypeId → Option TI}

/-! How great a value is; whether its numbers are of their kinds. -/
def sumL {α : Type} (f : α → Nat) : List α → Nat
  | [] => 0
  | x :: r => f x + sumL f r
def measT (g : (n : Nat) → N.ρ n → Nat) : (t : Ty) → t.den N.ρ → Nat
  | .int _, _ => 1
  | .bool, _ => 1
  | .str, l => l.length + 1
  | .sl e, xs => sumL (measT g e) xs + 1
  | .nm n, x => g n x
  | .opq, _ => 1
def measL (g : (n : Nat) → N.ρ n → Nat) : (ts : List Ty) → HL N.ρ ts → Nat
  | [], _ => 0
  | t :: ts, x => measT g t x.1 + measL g ts x.2
def measK (N : Names) : Nat → (n : Nat) → N.ρ n → Nat
  | 0, _, _ => 1
  | k + 1, n, x => measL (measK N k) (N.body n) (N.un n x) + 1
def meas (k : Nat) (t : Ty) (x : t.den N.ρ) : Nat := measT (measK N k) t x

def okT (g : (n : Nat) → N.ρ n → Prop) : (t : Ty) → t.den N.ρ → Prop
  | .int k, n => (Lit.int k n).wf = true
  | .bool, _ => True
  | .str, l => ∀ b ∈ l, 0 ≤ b ∧ b < 256
  | .sl e, xs => ∀ x ∈ xs, okT g e x
  | .nm n, x => g n x
  | .opq, _ => True
def okL (g : (n : Nat) → N.ρ n → Prop) : (ts : List Ty) → HL N.ρ ts → Prop
  | [], _ => True
  | t :: ts, x => okT g t x.1 ∧ okL g ts x.2
def okK (N : Names) : Nat → (n : Nat) → N.ρ n → Prop
  | 0, _, _ => True
  | k + 1, n, x => okL (okK N k) (N.body n) (N.un n x)
def okV (k : Nat) (t : Ty) (x : t.den N.ρ) : Prop := okT (okK N k) t x

mutual
def bulk {H : Type} : DataW H → Nat
  | .lit (.string bytes) => bytes.length + 1
  | .lit _ => 1
  | .nil => 1
  | .ptr d => bulk d + 1
  | .slice elems spare => bulkAll elems + bulkAll spare + 1
  | .agg parts => bulkAll parts + 1
  | .iface _ d => bulk d + 1
  | .map entries => bulkEntries entries + 1
  | .held _ => 1
def bulkAll {H : Type} : List (DataW H) → Nat
  | [] => 0
  | d :: r => bulk d + bulkAll r
def bulkEntries {H : Type} : List (Lit × DataW H) → Nat
  | [] => 0
  | x :: r => bulkEntry x + bulkEntries r
def bulkEntry {H : Type} : Lit × DataW H → Nat
  | (.string bytes, d) => bytes.length + bulk d + 1
  | (_, d) => bulk d + 1
end

theorem bulk_pos (d : DataW H) : 1 ≤ bulk d := by
  cases d with
  | lit l => cases l <;> simp [bulk]
  | _ => simp [bulk]

theorem sumL_le {α : Type} {f : α → Nat} : ∀ (xs : List α) (ds : List (DataW H)), xs.length = ds.length → (∀ (i : Nat) x d, xs[i]? = some x → ds[i]? = some d → f x ≤ bulk d) → sumL f xs ≤ bulkAll ds
  | [], _, _, _ => Nat.zero_le _
  | x :: xs, [], h, _ => by simp at h
  | x :: xs, d :: ds, h, hx => by
    have h1 := hx 0 x d rfl rfl
    have h2 := sumL_le (f := f) xs ds (by simpa using h) (fun i x d hi hd => hx (i + 1) x d (by simpa using hi) (by simpa using hd))
    simp only [sumL, bulkAll]
    omega

theorem choose_list {α : Type} {Q : Nat → α → Prop} : ∀ (n : Nat), (∀ i, i < n → ∃ x, Q i x) → ∃ xs : List α, xs.length = n ∧ ∀ (i : Nat) x, xs[i]? = some x → Q i x
  | 0, _ => ⟨[], rfl, fun i x h => by simp at h⟩
  | n + 1, h => by
    obtain ⟨xs, h1, h2⟩ := choose_list n (fun i hi => h i (by omega))
    obtain ⟨x, hx⟩ := h n (by omega)
    refine ⟨xs ++ [x], by simp [h1], fun i y hy => ?_⟩
    rcases Nat.lt_or_ge i n with hi | hi
    · rw [List.getElem?_append_left (by omega)] at hy
      exact h2 i y hy
    · rw [List.getElem?_append_right (by omega)] at hy
      rcases Nat.eq_or_lt_of_le (show 0 ≤ i - xs.length from Nat.zero_le _) with h0 | h0
      · rw [← h0] at hy
        simp only [List.getElem?_cons_zero, Option.some.injEq] at hy
        subst hy
        rw [show i = n from by omega]
        exact hx
      · obtain ⟨m, hm⟩ : ∃ m, i - xs.length = m + 1 := ⟨i - xs.length - 1, by omega⟩
        rw [hm] at hy
        simp at hy

theorem cellsOf_eq (F : Fits P N τ) {t e : TypeId} {ty : Ty} (h : τ t = some ⟨ty, e⟩) : P.cellsOf t = N.sz ty := by
  obtain ⟨i, z, zc, h1, h2, h3, _⟩ := F.info h
  simp [Program.cellsOf, h1, h3]

theorem bytesL_range (s : ByteArray) : ∀ b ∈ bytesL s, 0 ≤ b ∧ b < 256 := by
  intro b hb
  unfold bytesL at hb
  obtain ⟨u, _, rfl⟩ := List.mem_map.1 hb
  have := u.toNat_lt
  omega

theorem opq_one {sp : Nat → Bool} {held : Bool} {fuel : Nat} {t : TypeId} {d0 : TypeDesc} {cs : List Value} {x : DataW H × List MemPlace} (hn : (match d0 with | .struct _ | .array _ _ => true | _ => false) = false) (hu : P.underlying t = some d0)
    (h : DataW.trod enc P w 0 sp held fuel t cs = some x) : ∃ v, cs = [v] ∧ v.oneCell' = true := by
  cases fuel with
  | zero => simp [DataW.trod] at h
  | succ n =>
    unfold DataW.trod at h
    rw [hu] at h
    split at h <;> first | exact ⟨_, rfl, rfl⟩ | (simp_all; done) | (rename_i heq; cases heq; cases hn)

/-- What is read as data is a value of its type. -/
theorem rep_of_trod (F : Fits P N τ) {sp : Nat → Bool} {held : Bool} : ∀ (fuel : Nat) (t : TypeId) (ty : Ty) (e : TypeId) (cs : List Value) (d : DataW H) (ps : List MemPlace), τ t = some ⟨ty, e⟩ → DataW.trod enc P w 0 sp held fuel t cs = some (d, ps) →
    ∃ x : ty.den N.ρ, Rep w (fun b => b < w.heap.size) ty x cs ∧ (∀ k, meas k ty x ≤ bulk d) ∧ ∀ k, okV k ty x := by
  intro fuel
  induction fuel with
  | zero => intro t ty e cs d ps _ h; simp [DataW.trod] at h
  | succ fuel ih =>
    intro t ty e cs d ps hτ h
    cases ty with
    | int k =>
      obtain ⟨n, h1, h2, h3⟩ := DataW.trod_int (F.int t k e hτ).1 h
      cases h2
      exact ⟨n, h1, fun _ => Nat.le_refl _, fun _ => h3⟩
    | bool =>
      obtain ⟨b, h1, h2⟩ := DataW.trod_bool (F.bool t e hτ).1 h
      cases h2
      exact ⟨b, h1, fun _ => Nat.le_refl _, fun _ => trivial⟩
    | str =>
      obtain ⟨s, h1, h2, h3⟩ := DataW.trod_string (F.str t e hτ).1 h
      cases h2
      refine ⟨bytesL s, ⟨s, h1, rfl⟩, fun _ => ?_, fun _ => bytesL_range s⟩
      simp [meas, measT, bulk, bytesL]
    | opq =>
      obtain ⟨⟨d0, u1, u2⟩, _⟩ := F.opq t e hτ
      obtain ⟨v, hv, hv1⟩ := opq_one u2 u1 h
      exact ⟨(), ⟨v, hv, hv1⟩, fun _ => bulk_pos d, fun _ => trivial⟩
    | sl ty' =>
      obtain ⟨u1, ⟨e', u2⟩, _⟩ := F.sl t ty' e hτ
      rcases DataW.trod_slice u1 h with ⟨rfl, hx⟩ | ⟨a, len, cap, elems, rest, n, hn, rfl, hx, _, hlc, _, hlen, hel, _, _⟩
      · cases hx
        exact ⟨[], ⟨none, 0, rfl, Nat.le_refl _, fun _ => rfl, fun i x hi => by simp at hi⟩, fun _ => Nat.le_refl _, fun _ x hx => by cases hx⟩
      · cases hn
        have hc := cellsOf_eq F u2
        have hpos := F.pos u2
        have each : ∀ i, i < len → ∃ x : ty'.den N.ρ, ∃ ccs d', w.cells? 0 (a.add (i * N.sz ty')) (N.sz ty') = some ccs ∧ (elems.map (·.1))[i]? = some d' ∧ Rep w (fun b => b < w.heap.size) ty' x ccs ∧ (∀ k, meas k ty' x ≤ bulk d') ∧ ∀ k, okV k ty' x := by
          intro i hi
          have h1 := hel i hi
          rw [hc] at h1
          obtain ⟨y, hy⟩ : ∃ y, elems[i]? = some y := ⟨_, List.getElem?_eq_getElem (by omega)⟩
          rw [hy] at h1
          obtain ⟨ccs, h2, h3⟩ := Option.bind_eq_some_iff.1 h1
          obtain ⟨x, x1, x2, x3⟩ := ih e ty' e' ccs y.1 y.2 u2 h3
          exact ⟨x, ccs, y.1, h2, by simp [hy], x1, x2, x3⟩
        obtain ⟨xs, hxl, hxs⟩ := choose_list len each
        cases hx
        refine ⟨xs, ⟨some a, cap, by rw [hxl], by omega, (fun h => by cases h), fun i x hi => ?_⟩, fun k => ?_, fun k x hx => ?_⟩
        · obtain ⟨ccs, d', q1, q2, q3, _⟩ := hxs i x hi
          obtain ⟨_, r1, r2⟩ := World.cells?_some q1
          have hb : a.block < w.heap.size := by
            have := r2 0 hpos
            obtain ⟨u, hu⟩ : ∃ u, ccs[0]? = some u := ⟨_, List.getElem?_eq_getElem (by omega)⟩
            rw [hu] at this
            have := World.block_lt_of_cell? w _ this
            rwa [addr_add_block, addr_add_block] at this
          refine ⟨a, ccs, rfl, hb, q3, fun j u hu => ?_⟩
          have hj : j < N.sz ty' := by
            have := (List.getElem?_eq_some_iff.1 hu).1
            omega
          rw [← addr_add_add, r2 j hj, hu]
        · have := sumL_le (f := meas k ty') xs (elems.map (·.1)) (by simp [hxl, hlen]) (fun i x d hi hd => by
            obtain ⟨ccs, d', _, q2, _, q4, _⟩ := hxs i x hi
            rw [q2] at hd
            cases hd
            exact q4 k)
          show sumL (meas k ty') xs + 1 ≤ _
          simp only [bulk]
          omega
        · obtain ⟨i, hi⟩ := List.mem_iff_getElem?.1 hx
          obtain ⟨ccs, d', _, _, _, _, q5⟩ := hxs i x hi
          exact q5 k
    | nm n =>
      obtain ⟨fs, u1, u2, _, _, zc, u5, _⟩ := F.nm t n e hτ
      obtain ⟨xs, m, hm, hx, hl, hxl, hf⟩ : ∃ (xs : List (DataW H × List MemPlace)) (n : Nat), fuel + 1 = n + 1 ∧ (d, ps) = (DataW.agg (xs.map (·.1)), xs.flatMap (·.2)) ∧ cs.length = P.cellsOf t ∧ xs.length = fs.size ∧
          ∀ (i : Nat) (f : Field), fs[i]? = some f → DataW.trod enc P w 0 sp held n f.type ((cs.drop f.offset).take (P.cellsOf f.type)) = xs[i]? := by
        rcases u1 with ⟨_, u1⟩ | ⟨len, el, ie, _, u1, ui, rfl⟩
        · exact DataW.trod_struct u1 h
        · obtain ⟨xs, m, hm, hx, hl, hxl, hf⟩ := DataW.trod_array u1 h
          refine ⟨xs, m, hm, hx, hl, by simp [virt, hxl], fun i f hif => ?_⟩
          obtain ⟨hlt, rfl⟩ := Array.getElem?_eq_some_iff.1 hif
          simp only [virt, List.getElem_toArray, List.getElem_map, List.getElem_range', Nat.zero_add, Nat.one_mul]
          have hcel : P.cellsOf el = ie.size := by simp [Program.cellsOf, ui]
          rw [hcel]
          rw [hcel] at hf
          exact hf i (by simpa [virt] using hlt)
      cases hm
      cases hx
      have hcl := cellsOf_eq F hτ
      have fields : ∀ (tys : List Ty) (off : Nat) (fl : List Field) (ys : List (DataW H × List MemPlace)), FieldsFit N τ tys off fl → ys.length = fl.length →
          (∀ (i : Nat) f, fl[i]? = some f → DataW.trod enc P w 0 sp held fuel f.type ((cs.drop f.offset).take (P.cellsOf f.type)) = ys[i]?) →
          ∃ y : HL N.ρ tys, RepL w (fun b => b < w.heap.size) (RepN w fun b => b < w.heap.size) tys y ((cs.drop off).take (szL N.size tys)) ∧ (∀ k, measL (measK N k) tys y ≤ bulkAll (ys.map (·.1))) ∧ ∀ k, okL (okK N k) tys y := by
        intro tys
        induction tys with
        | nil =>
          intro off fl ys hfit hyl hy
          exact ⟨(), by simp [szL, RepL], fun _ => Nat.zero_le _, fun _ => trivial⟩
        | cons ty tys ihf =>
          intro off fl ys hfit hyl hy
          match fl, ys, hfit, hyl with
          | f :: fl, y :: ys, hfit, hyl =>
            obtain ⟨f1, ⟨e1, f2⟩, _, _, f5⟩ := hfit
            have h0 := hy 0 f rfl
            rw [cellsOf_eq F f2, f1] at h0
            obtain ⟨x, x1, x2, x3⟩ := ih f.type ty e1 _ y.1 y.2 f2 h0
            obtain ⟨z, z1, z2, z3⟩ := ihf (off + N.sz ty) fl ys f5 (by simpa using hyl) (fun i f hf => by simpa using hy (i + 1) f (by simpa using hf))
            refine ⟨(x, z), ⟨_, _, ?_, x1, z1⟩, fun k => ?_, fun k => ⟨x3 k, z3 k⟩⟩
            · rw [szL_cons, ← List.drop_drop, List.take_add]
            · have a1 := x2 k
              have a2 := z2 k
              simp only [meas] at a1
              simp only [measL, List.map_cons, bulkAll]
              omega
      obtain ⟨y, y1, y2, y3⟩ := fields (N.body n) 0 fs.toList xs u2 (by simpa using hxl) (fun i f hf' => hf i f (by simpa using hf'))
      have hcs : (cs.drop 0).take (szL N.size (N.body n)) = cs := by
        rw [List.drop_zero, List.take_of_length_le]
        rw [hl, hcl]
        exact Nat.le_of_eq (N.size_eq n)
      rw [hcs] at y1
      refine ⟨N.re n y, RepN_close (by rw [N.un_re]; exact y1), fun k => ?_, fun k => ?_⟩
      · cases k with
        | zero => exact bulk_pos _
        | succ k =>
          have := y2 k
          show measL (measK N k) (N.body n) (N.un n (N.re n y)) + 1 ≤ _
          rw [N.un_re]
          simp only [bulk]
          omega
      · cases k with
        | zero => trivial
        | succ k =>
          show okL (okK N k) (N.body n) (N.un n (N.re n y))
          rw [N.un_re]
          exact y3 k

/-! The arguments of a law. -/
open Go.ChangeShapes Go.WideShapes Go.ChangeAt Go.RowKit

def measI (k : Nat) : (ps : List PK) → HIn N.ρ ps → Nat
  | [], _ => 0
  | .v t :: ps, x => meas k t x.1 + measI k ps x.2
  | .io _ _ :: ps, x => measI k ps x.2
  | .bw _ :: ps, x => measI k ps x.2
  | .bc _ :: ps, x => measI k ps x.2
  | .fv _ :: ps, x => measI k ps x.2
  | .fb _ :: ps, x => measI k ps x.2
def okI (k : Nat) : (ps : List PK) → HIn N.ρ ps → Prop
  | [], _ => True
  | .v t :: ps, x => okV k t x.1 ∧ okI k ps x.2
  | .io _ _ :: ps, x => okI k ps x.2
  | .bw _ :: ps, x => okI k ps x.2
  | .bc _ :: ps, x => okI k ps x.2
  | .fv _ :: ps, x => okI k ps x.2
  | .fb _ :: ps, x => okI k ps x.2

/-- A law's parameters: values that are read. -/
def lawPs (P : Program) (τ : TypeId → Option TI) : List TypeId → List PK → Bool
  | [], [] => true
  | t :: ts, .v ty :: ps => (match τ t with | some ti => decide (ti.ty = ty) | none => false) && (match ty with | .opq => false | _ => true) && P.readableRec t && decide (t < P.types.size) && lawPs P τ ts ps
  | _, _ => false

theorem asV_wide (F : Fits P N τ) {t e : TypeId} {ty : Ty} (hτ : τ t = some ⟨ty, e⟩) (hno : ty ≠ .opq) {r : Reach} {b0 : Nat} {v : Value} (hv : Value.okWide P w r b0 t v) : AsV ty v v.cells.toList := by
  cases ty with
  | int k => obtain ⟨n, rfl⟩ := okWide_int (F.int t k e hτ).1 hv; rfl
  | bool => obtain ⟨b, rfl⟩ := okWide_bool (F.bool t e hτ).1 hv; rfl
  | str => obtain ⟨s, rfl⟩ := okWide_string (F.str t e hτ).1 hv; rfl
  | sl ty' => obtain ⟨a, len, cap, rfl⟩ := okWide_slice (F.sl t ty' e hτ).1 hv; rfl
  | nm n =>
    obtain ⟨fs, u1, _⟩ := F.nm t n e hτ
    rcases u1 with ⟨_, u1⟩ | ⟨len, el, ie, _, u1, _, _⟩
    · obtain ⟨cs, rfl, _⟩ := okWide_struct u1 hv
      rfl
    · simp only [Value.okWide, u1] at hv
      obtain ⟨cs, rfl, _⟩ := hv
      rfl
  | opq => exact absurd rfl hno

theorem trodAll_in (F : Fits P N τ) {b0 : Nat} : ∀ (ts : List TypeId) (ps : List PK) (vs : List Value) (ds : List (DataW H)) (p : List MemPlace), lawPs P τ ts ps = true → (∀ (j : Nat) t v, ts[j]? = some t → vs[j]? = some v → Value.okWide P w .any b0 t v) →
    DataW.TrodAll enc P w 0 (fun _ => true) true ts vs ds p → ∃ x : HIn N.ρ ps, InRel w (fun b => b < w.heap.size) ps x vs [] ∧ (∀ k, measI k ps x ≤ bulkAll ds) ∧ (∀ k, okI k ps x) ∧ ∀ y ∈ p, y.block < w.heap.size
  | [], [], vs, ds, p, hl, hv, hA => by
    obtain ⟨rfl, rfl, rfl⟩ := trodAll_nil hA
    exact ⟨(), ⟨rfl, rfl⟩, fun _ => Nat.le_refl _, fun _ => trivial, fun y hy => by cases hy⟩
  | [], _ :: _, vs, ds, p, hl, hv, hA => by cases hl
  | _ :: _, [], vs, ds, p, hl, hv, hA => by cases hl
  | _ :: _, .io _ _ :: _, vs, ds, p, hl, hv, hA => by cases hl
  | _ :: _, .bw _ :: _, vs, ds, p, hl, hv, hA => by cases hl
  | _ :: _, .bc _ :: _, vs, ds, p, hl, hv, hA => by cases hl
  | _ :: _, .fv _ :: _, vs, ds, p, hl, hv, hA => by cases hl
  | _ :: _, .fb _ :: _, vs, ds, p, hl, hv, hA => by cases hl
  | t :: ts, .v ty :: ps, vs, ds, p, hl, hv, hA => by
    obtain ⟨v, vs', d, ds', p1, q, rfl, rfl, rfl, h0, r0⟩ := trodAll_cons hA
    simp only [lawPs, Bool.and_eq_true, decide_eq_true_eq] at hl
    obtain ⟨⟨⟨⟨h1, h2⟩, _⟩, _⟩, h5⟩ := hl
    split at h1
    · rename_i ti hti
      have h1 : ti.ty = ty := by simpa using h1
      subst h1
      have hno : ti.ty ≠ .opq := fun e => by rw [e] at h2; cases h2
      obtain ⟨x, x1, x2, x3, x4⟩ := trodAll_in F ts ps vs' ds' q h5 (fun j t v ht hv' => hv (j + 1) t v (by simpa using ht) (by simpa using hv')) r0
      have hlt : ∀ y ∈ p1, y.block < w.heap.size := by obtain ⟨m, hm⟩ := h0; exact DataW.trod_lt m _ _ _ hm
      obtain ⟨m, hm⟩ := h0
      obtain ⟨y, y1, y2, y3⟩ := rep_of_trod F m t ti.ty ti.el _ d p1 (by rw [hti]) hm
      refine ⟨(y, x), ⟨v, vs', [], [], rfl, rfl, ⟨⟨_, y1, asV_wide F (e := ti.el) (by rw [hti]) hno (hv 0 t v rfl rfl)⟩, rfl⟩, x1⟩, fun k => ?_, fun k => ⟨y3 k, x3 k⟩, fun z hz => ?_⟩
      · have a1 := y2 k
        have a2 := x2 k
        simp only [measI, bulkAll]
        omega
      · rcases List.mem_append.1 hz with hz | hz
        · exact hlt z hz
        · exact x4 z hz
    · cases h1

theorem trodAll_back (hl : laidOutB P = true) {W' : World} (hb : Below w.heap.size w W') : ∀ (ts : List TypeId) (ps : List PK) (vs : List Value) (ds : List (DataW H)) (p : List MemPlace), lawPs P τ ts ps = true → (∀ y ∈ p, y.block < w.heap.size) →
    DataW.TrodAll enc P w 0 (fun _ => true) true ts vs ds p → DataW.TrodAll enc P W' 0 (fun b => decide (b < w.heap.size)) true ts vs ds p
  | [], [], vs, ds, p, h, hlt, hA => by
    obtain ⟨rfl, rfl, rfl⟩ := trodAll_nil hA
    exact trodAll_mk0
  | [], _ :: _, vs, ds, p, h, hlt, hA => by cases h
  | _ :: _, [], vs, ds, p, h, hlt, hA => by cases h
  | _ :: _, .io _ _ :: _, vs, ds, p, h, hlt, hA => by cases h
  | _ :: _, .bw _ :: _, vs, ds, p, h, hlt, hA => by cases h
  | _ :: _, .bc _ :: _, vs, ds, p, h, hlt, hA => by cases h
  | _ :: _, .fv _ :: _, vs, ds, p, h, hlt, hA => by cases h
  | _ :: _, .fb _ :: _, vs, ds, p, h, hlt, hA => by cases h
  | t :: ts, .v ty :: ps, vs, ds, p, h, hlt, hA => by
    obtain ⟨v, vs', d, ds', p1, q, rfl, rfl, rfl, h0, r0⟩ := trodAll_cons hA
    simp only [lawPs, Bool.and_eq_true, decide_eq_true_eq] at h
    obtain ⟨⟨⟨⟨_, _⟩, h3⟩, h4⟩, h5⟩ := h
    exact trodAll_cons_mk (Below.trod hl h3 h4 h0 hb (fun y hy => hlt y (List.mem_append.2 (.inl hy)))) (trodAll_back hl hb ts ps vs' ds' q h5 (fun y hy => hlt y (List.mem_append.2 (.inr hy))) r0)

theorem outRel_vs {W' : World} {ok : Nat → Prop} : ∀ (ts : List TypeId) (ps : List PK) (y : HOut N.ρ ps) (vs : List Value) (bl : List Nat), lawPs P τ ts ps = true → OutRel W' ok ps y vs bl → bl = []
  | [], [], _, _, _, _, h => h
  | [], _ :: _, _, _, _, h, _ => by cases h
  | _ :: _, [], _, _, _, h, _ => by cases h
  | _ :: _, .io _ _ :: _, _, _, _, h, _ => by cases h
  | _ :: _, .bw _ :: _, _, _, _, h, _ => by cases h
  | _ :: _, .bc _ :: _, _, _, _, h, _ => by cases h
  | _ :: _, .fv _ :: _, _, _, _, h, _ => by cases h
  | _ :: _, .fb _ :: _, _, _, _, h, _ => by cases h
  | _ :: ts, .v _ :: ps, y, vs, bl, h, ho => by
    simp only [lawPs, Bool.and_eq_true] at h
    exact outRel_vs ts ps y vs.tail bl h.2 ho

/-- A law that is known to return true for all that measure at most B: the call. -/
theorem law_calls (F : Fits P N τ) (hlaid : laidOutB P = true) {f : FuncId} {ts : List TypeId} {ps : List PK} {g : HIn N.ρ ps → Option Bool} {out : Bool → HRes N.ρ [.v .bool] × HOut N.ρ ps} (ho : ∀ b, (out b).1 = (b, ()))
    (G : Good P f ⟨ps, [.v .bool], Bool, g, out⟩) (hps : lawPs P τ ts ps = true) {B : Nat} (hlaw : ∀ x : HIn N.ρ ps, (∀ k, measI k ps x ≤ B) → (∀ k, okI k ps x) → g x = some true)
    {b0 : Nat} {args : Array Value} {ds : List (DataW H)} {p : List MemPlace} (hv : ∀ (j : Nat) t v, ts[j]? = some t → args[j]? = some v → Value.okWide P w .any b0 t v)
    (hA : DataW.TrodAll enc P w 0 (fun _ => true) true ts args.toList ds p) (hB : bulkAll ds ≤ B) :
    Calls P f args w fun e W' => e = .returned (.bool true) ∧ Below w.heap.size w W' ∧ DataW.TrodAll enc P W' 0 (fun b => decide (b < w.heap.size)) true ts args.toList ds p := by
  obtain ⟨x, x1, x2, x3, x4⟩ := trodAll_in F ts ps args.toList ds p hps (fun j t v ht hv' => hv j t v ht (by simpa using hv')) hA
  have hx := hlaw x (fun k => Nat.le_trans (x2 k) hB) x3
  have := G.calls w (fun b => b < w.heap.size) x args.toList [] true (fun _ h => h) x1 List.nodup_nil (fun g hg => by cases hg) hx
  rw [Array.toArray_toList] at this
  refine this.mono ?_
  rintro e W' ⟨us, bl', rl, rfl, hC⟩
  have hb : Below w.heap.size w W' := ⟨hC.kept.os, hC.kept.tape, hC.kept.output, hC.kept.size, fun k hk => hC.kept.block k hk (fun h => by cases h)⟩
  refine ⟨?_, hb, trodAll_back hlaid hb ts ps _ ds p hps x4 hA⟩
  have hr := hC.res
  simp only [ho] at hr
  obtain ⟨v, rest, b1, b2, rfl, rfl, ⟨⟨cs, k1, k2⟩, rfl⟩, ⟨rfl, rfl⟩⟩ := hr
  have k1 : cs = [.bool true] := k1
  have k2 : cs = [v] := k2
  rw [k1] at k2
  cases k2
  rfl

theorem arr_get {α : Type} (a : Array α) (j : Nat) (t : α) (h : a.toList[j]? = some t) : a[j]? = some t := by
  rw [← Array.getElem?_toList]
  exact h

/-- A law that is known by its own code, followed k cuts far. -/
theorem law_run (F : Fits P N τ) (hlaid : laidOutB P = true) {f : FuncId} {ts : List TypeId} {ps : List PK} {Fn : Eng.Fn N} {kf : Nat}
    (G : Good P f (Fn.spec ps [.v .bool] kf)) (hps : lawPs P τ ts ps = true) {B : Nat} (hlaw : ∀ x : HIn N.ρ ps, (∀ k, measI k ps x ≤ B) → (∀ k, okI k ps x) → ∃ o, Fn.run ps [.v .bool] kf x = some ((true, ()), o))
    {b0 : Nat} {args : Array Value} {ds : List (DataW H)} {p : List MemPlace} (hv : ∀ (j : Nat) t v, ts[j]? = some t → args[j]? = some v → Value.okWide P w .any b0 t v)
    (hA : DataW.TrodAll enc P w 0 (fun _ => true) true ts args.toList ds p) (hB : bulkAll ds ≤ B) :
    Calls P f args w fun e W' => e = .returned (.bool true) ∧ Below w.heap.size w W' ∧ DataW.TrodAll enc P W' 0 (fun b => decide (b < w.heap.size)) true ts args.toList ds p := by
  obtain ⟨x, x1, x2, x3, x4⟩ := trodAll_in F ts ps args.toList ds p hps (fun j t v ht hv' => hv j t v ht (by simpa using hv')) hA
  obtain ⟨o, hx⟩ := hlaw x (fun k => Nat.le_trans (x2 k) hB) x3
  have := G.calls w (fun b => b < w.heap.size) x args.toList [] ((true, ()), o) (fun _ h => h) x1 List.nodup_nil (fun g hg => by cases hg) hx
  rw [Array.toArray_toList] at this
  refine this.mono ?_
  rintro e W' ⟨us, bl', rl, rfl, hC⟩
  have hb : Below w.heap.size w W' := ⟨hC.kept.os, hC.kept.tape, hC.kept.output, hC.kept.size, fun k hk => hC.kept.block k hk (fun h => by cases h)⟩
  refine ⟨?_, hb, trodAll_back hlaid hb ts ps _ ds p hps x4 hA⟩
  have hr := hC.res
  obtain ⟨v, rest, b1, b2, rfl, rfl, ⟨⟨cs, k1, k2⟩, rfl⟩, ⟨rfl, rfl⟩⟩ := hr
  have k1 : cs = [.bool true] := k1
  have k2 : cs = [v] := k2
  rw [k1] at k2
  cases k2
  rfl

end Go.Eng

set_option linter.unusedVariables false
set_option linter.unusedSimpArgs false
namespace Go.Eng

theorem wrap64_id {z : Int} (h1 : -9223372036854775808 ≤ z) (h2 : z < 9223372036854775808) : IntKind.i64.wrap z = z := by
  simp only [IntKind.wrap]
  first
    | omega
    | (simp [IntKind.bits, IntKind.signed]; omega)
    | (rw [Int.bmod_eq_of_le] <;> omega)

end Go.Eng
