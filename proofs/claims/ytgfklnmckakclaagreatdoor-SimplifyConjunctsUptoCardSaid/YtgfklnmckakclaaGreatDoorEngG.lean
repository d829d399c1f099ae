/- The engine, part G: the program's table of types, and runs of single instructions. -/
import Derived.Test.YtgfklnmckakclaaGreatDoorEngF
import Derived.Great.BuildSlice
import Derived.Laws.Tables
import Derived.Laws.CopyRow
set_option linter.unusedVariables false
set_option linter.unusedSimpArgs false
namespace Go.Eng
variable {N : Names}

/-- What the engine is told of a type: its code, and a slice's element type. -/
structure TI where
  ty : Ty
  el : TypeId
  deriving DecidableEq

def Info (P : Program) (t : TypeId) (z : Value) (n : Nat) : Prop := ∃ i, P.info? t = some i ∧ i.zero = some z ∧ i.size = n ∧ i.bytes ≤ 32768

def FieldsFit (N : Names) (τ : TypeId → Option TI) : List Ty → Nat → List Field → Prop
  | [], _, [] => True
  | ty :: tys, off, f :: fs => f.offset = off ∧ (∃ e, τ f.type = some ⟨ty, e⟩) ∧ N.sz ty ≠ 0 ∧ f.name ≠ "_" ∧ FieldsFit N τ tys (off + N.sz ty) fs
  | _, _, _ => False

/-- An array, told as a struct: a field for each element. -/
def virt (len : Nat) (el : TypeId) (sz : Nat) : List Field := (List.range' 0 len).map fun i => { name := "x", type := el, offset := i * sz, embedded := false, tag := "", pkgPath := "", byteOffset := 0 }

/-- A struct's fields, or an array's elements (the second entry of the table is the element's type and one more). -/
def AggOf (P : Program) (t : TypeId) (e : TypeId) (fs : Array Field) : Prop :=
  (e = 0 ∧ P.underlying t = some (.struct fs)) ∨ ∃ len el i, e = el + 1 ∧ P.underlying t = some (.array len el) ∧ P.info? el = some i ∧ fs = (virt len el i.size).toArray

theorem AggOf.struct {P : Program} {t e : TypeId} {fs : Array Field} (h : AggOf P t e fs) (he : e = 0) : P.underlying t = some (.struct fs) := by
  rcases h with ⟨_, h⟩ | ⟨_, el, _, h, _⟩
  · exact h
  · rw [he] at h; cases h

theorem AggOf.under {P : Program} {t e : TypeId} {fs : Array Field} (h : AggOf P t e fs) : ∃ d, P.underlying t = some d := by
  rcases h with ⟨_, h⟩ | ⟨_, el, _, _, h, _⟩ <;> exact ⟨_, h⟩

structure Fits (P : Program) (N : Names) (τ : TypeId → Option TI) : Prop where
  int : ∀ t k e, τ t = some ⟨.int k, e⟩ → P.underlying t = some (.int k) ∧ Info P t (.int k 0) 1
  bool : ∀ t e, τ t = some ⟨.bool, e⟩ → P.underlying t = some .bool ∧ Info P t (.bool false) 1
  str : ∀ t e, τ t = some ⟨.str, e⟩ → P.underlying t = some .string ∧ Info P t (.string ⟨#[]⟩) 1
  sl : ∀ t ty e, τ t = some ⟨.sl ty, e⟩ → P.underlying t = some (.slice e) ∧ (∃ e', τ e = some ⟨ty, e'⟩) ∧ Info P t (.slice none 0 0) 1
  opq : ∀ t e, τ t = some ⟨.opq, e⟩ → (∃ d, P.underlying t = some d ∧ (match d with | .struct _ | .array _ _ => true | _ => false) = false) ∧ ∃ z : Value, Info P t z 1 ∧ z.oneCell' = true
  mp : ∀ t e, τ t = some ⟨.opq, e⟩ → e = 0 ∨ P.underlying t = some (.map (e / 100000) (e % 100000))
  nm : ∀ t n e, τ t = some ⟨.nm n, e⟩ → ∃ fs, AggOf P t e fs ∧ FieldsFit N τ (N.body n) 0 fs.toList ∧ P.stoodInHeld t = false ∧ P.eqGuardType P.depth t = false ∧
    ∃ zc : Array Value, Info P t (.agg zc) (N.size n) ∧ 0 < N.size n ∧ ∀ w ok, Rep w ok (.nm n) (N.dv n) zc.toList

section
variable {P : Program} {τ : TypeId → Option TI} (F : Fits P N τ) {t : TypeId} {ty : Ty} {e : TypeId}
include F

theorem Fits.pos (h : τ t = some ⟨ty, e⟩) : 0 < N.sz ty := by
  cases ty with
  | nm n => obtain ⟨fs, _, _, _, _, zc, _, h1, _⟩ := F.nm t n e h; exact h1
  | _ => exact Nat.one_pos

/-- A type's row of the table, as far as it is asked. -/
theorem Fits.info (h : τ t = some ⟨ty, e⟩) : ∃ i z zc, P.info? t = some i ∧ i.zero = some z ∧ i.size = N.sz ty ∧ i.bytes ≤ 32768 ∧ z.cells = zc ∧ AsV ty z zc.toList ∧ ∀ w ok, Rep w ok ty (N.dflt ty) zc.toList := by
  cases ty with
  | int k =>
    obtain ⟨_, i, h1, h2, h3, h4⟩ := F.int t k e h
    exact ⟨i, _, #[.int k 0], h1, h2, h3, h4, rfl, rfl, fun _ _ => rfl⟩
  | bool =>
    obtain ⟨_, i, h1, h2, h3, h4⟩ := F.bool t e h
    exact ⟨i, _, #[.bool false], h1, h2, h3, h4, rfl, rfl, fun _ _ => rfl⟩
  | str =>
    obtain ⟨_, i, h1, h2, h3, h4⟩ := F.str t e h
    exact ⟨i, _, #[.string ⟨#[]⟩], h1, h2, h3, h4, rfl, rfl, fun _ _ => ⟨⟨#[]⟩, rfl, rfl⟩⟩
  | sl ty' =>
    obtain ⟨_, _, i, h1, h2, h3, h4⟩ := F.sl t ty' e h
    exact ⟨i, _, #[.slice none 0 0], h1, h2, h3, h4, rfl, rfl, fun _ _ => ⟨none, 0, rfl, Nat.le_refl _, fun _ => rfl, fun i x hx => by simp [Names.dflt] at hx⟩⟩
  | nm n =>
    obtain ⟨fs, _, _, _, _, zc, ⟨i, h1, h2, h3, h4⟩, _, h5⟩ := F.nm t n e h
    exact ⟨i, _, zc, h1, h2, h3, h4, rfl, rfl, h5⟩
  | opq =>
    obtain ⟨_, z, ⟨i, h1, h2, h3, h4⟩, h5⟩ := F.opq t e h
    have hz : z.cells = #[z] := by cases z <;> first | rfl | cases h5
    exact ⟨i, z, #[z], h1, h2, h3, h4, hz, rfl, fun _ _ => ⟨z, rfl, h5⟩⟩

theorem Fits.isAgg (h : τ t = some ⟨ty, e⟩) (w : World) : (isAgg t).run P w = .ok (match ty with | .nm _ => true | _ => false) w := by
  unfold Go.isAgg
  cases ty with
  | int k => simp [run_underlying (F.int t k e h).1]
  | bool => simp [run_underlying (F.bool t e h).1]
  | str => simp [run_underlying (F.str t e h).1]
  | sl ty' => simp [run_underlying (F.sl t ty' e h).1]
  | nm n =>
    obtain ⟨fs, h1, _⟩ := F.nm t n e h
    rcases h1 with ⟨_, h1⟩ | ⟨len, el, i, _, h1, _⟩ <;> simp [run_underlying h1]
  | opq =>
    obtain ⟨⟨d, h1, h2⟩, _⟩ := F.opq t e h
    simp only [Sem.run_bind, run_underlying h1, Result.andThen_ok]
    cases d <;> first | rfl | cases h2

theorem Fits.sizeOf (h : τ t = some ⟨ty, e⟩) (w : World) : (Go.sizeOf t).run P w = .ok (N.sz ty) w := by
  obtain ⟨i, z, zc, h1, h2, h3, _⟩ := F.info h
  simp [Go.sizeOf, typeInfo, h1, h3]

/-- What is loaded from where a value lies. -/
theorem Fits.load (h : τ t = some ⟨ty, e⟩) {w w1 : World} {ok : Nat → Prop} {x : ty.den N.ρ} {cs : List Value} (hr : Rep w1 ok ty x cs) {ad : Addr} (hc : ∀ (j : Nat) u, cs[j]? = some u → w.cell? (ad.add j) = some u) :
    ∃ v, (Instr.loadAt t (.pointer (some ad))).run P w = .ok v w ∧ AsV ty v cs := by
  have hs := F.sizeOf h w
  have ha := F.isAgg h w
  have hl := Rep_length hr
  cases ty with
  | nm n =>
    refine ⟨.agg cs.toArray, ?_, rfl⟩
    have h1 := run_loadCells_list (P := P) w ad cs hc
    rw [hl] at h1
    simp only [Instr.loadAt, Instr.sureAddr, loadVar, Sem.run_bind, Sem.run_pure, Result.andThen_ok, ha, hs, if_true, h1]
  | _ =>
    obtain ⟨u, hu⟩ : ∃ u, cs = [u] := by
      match cs, hl with
      | [u], _ => exact ⟨u, rfl⟩
    subst hu
    refine ⟨u, ?_, rfl⟩
    have h1 := hc 0 u rfl
    have h2 : ad.add 0 = ad := by simp [Addr.add]
    rw [h2] at h1
    simp [Instr.loadAt, Instr.sureAddr, loadVar, Sem.run_bind, ha, Go.load, Sem.run, h1]

omit F in
theorem setRow_grown (w : World) (g : Nat) (cs : Array Value) : w.grownBy (w.setRow g cs) (some g) :=
  ⟨rfl, rfl, rfl, by simp [World.setRow], fun k _ hk => setRow_other w g k _ (fun e => hk (by rw [e]))⟩

/-- What is stored into a row of cells. -/
theorem Fits.store (h : τ t = some ⟨ty, e⟩) {w w1 : World} {ok : Nat → Prop} {x : ty.den N.ρ} {cs : List Value} (hr : Rep w1 ok ty x cs) {v : Value} (hv : AsV ty v cs) {g off : Nat} {arr : Array Value} {T : TypeId}
    (hg : w.heap[g]? = some (.cells arr T (0, 0))) (hfit : off + cs.length ≤ arr.size) :
    (Instr.storeAt t (.pointer (some ⟨g, off, none⟩)) v).run P w = .ok () (w.setRow g (splice arr.toList off cs).toArray) := by
  have hs := F.sizeOf h w
  have hl := Rep_length hr
  have hvc : v.cells.toList = cs := by
    cases ty with
    | nm n => rw [show v = _ from hv]; rfl
    | _ =>
      have hv' : cs = [v] := hv
      have hone := Rep_one hr v (by rw [hv']; simp)
      rw [hv']
      cases v <;> first | rfl | cases hone
  have hst := run_storeCells_at P g off T cs 0 arr w hg (by simpa using hfit) (Rep_one hr)
  have hsz : v.cells.size = N.sz ty := by rw [← hl, ← hvc]; simp
  simp only [Nat.add_zero] at hst
  simp only [Instr.storeAt, Instr.sureAddr, storeVar, Sem.run_bind, Sem.run_pure, Result.andThen_ok, hs, hvc]
  rw [if_neg (by rw [hsz]; simp)]
  exact hst

end
end Go.Eng
