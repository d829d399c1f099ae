/- The engine, part M: cuts, conversions, lengths. -/
import Derived.Test.YtgfklnmckakclaaGreatDoorEngL
set_option linter.unusedVariables false
set_option linter.unusedSimpArgs false
namespace Go.Eng
variable {N : Names} {P : Program} {τ : TypeId → Option TI} {β : Type}

/-- The bounds of a cut, as numbers. -/
def cutLo (σ : St N) : Option Operand → Option Int
  | none => some 0
  | some o => match ev σ o with
    | .int _ n => some n
    | _ => none
def cutHi (σ : St N) (len : Nat) : Option Operand → Option Int
  | none => some len
  | some o => match ev σ o with
    | .int _ n => some n
    | _ => none

theorem cutLo_rel {σ : St N} {lo : Option Operand} {l : Int} (h : cutLo σ lo = some l) (w : World) (io w0 E) (a : Act) (hr : RelE io w0 σ E a w) : (lo = none ∧ l = 0) ∨ ∃ o k, lo = some o ∧ a.eval o = .int k l := by
  unfold cutLo at h
  split at h
  · cases h; exact .inl ⟨rfl, rfl⟩
  · rename_i o
    split at h
    · rename_i k n hn
      cases h
      have := hr.ev o
      rw [hn] at this
      exact .inr ⟨o, k, rfl, this⟩
    · cases h
theorem cutHi_rel {σ : St N} {len : Nat} {hi : Option Operand} {l : Int} (h : cutHi σ len hi = some l) (w : World) (io w0 E) (a : Act) (hr : RelE io w0 σ E a w) : (hi = none ∧ l = len) ∨ ∃ o k, hi = some o ∧ a.eval o = .int k l := by
  unfold cutHi at h
  split at h
  · cases h; exact .inl ⟨rfl, rfl⟩
  · rename_i o
    split at h
    · rename_i k n hn
      cases h
      have := hr.ev o
      rw [hn] at this
      exact .inr ⟨o, k, rfl, this⟩
    · cases h

def evSlice (τ : TypeId → Option TI) (σ : St N) (t : TypeId) (x : RV N) (lo hi : Option Operand) (k : KK N β) : Option β :=
  match τ t with
  | some ⟨.str, _⟩ => match x with
    | .str l => match cutLo σ lo, cutHi σ l.length hi with
      | some a, some b => if 0 ≤ a then if a ≤ b then if b ≤ (l.length : Int) then k (.one (.str ((l.take b.toNat).drop a.toNat))) [] else none else none else none
      | _, _ => none
    | _ => none
  | some ⟨.sl e, _⟩ => match toDen σ.own (.sl e) x with
    | some (l, bs) => match cutLo σ lo, cutHi σ l.length hi with
      | some a, some b => if 0 ≤ a then if a ≤ b then if b ≤ (l.length : Int) then k (.one (.data (.sl e) ((l.take b.toNat).drop a.toNat) bs)) [] else none else none else none
      | _, _ => none
    | none => none
  | _ => none

theorem run_sliceBounds {b : Bool} {len cap : Nat} {lo hi : Option Operand} {a : Act} {l h : Int} (hl : (lo = none ∧ l = 0) ∨ ∃ o k, lo = some o ∧ a.eval o = .int k l) (hh : (hi = none ∧ h = len) ∨ ∃ o k, hi = some o ∧ a.eval o = .int k h)
    (h0 : 0 ≤ l) (h1 : l ≤ h) (h2 : h ≤ len) (hc : len ≤ cap) (w : World) :
    (Instr.sliceBounds b len cap (lo.map a.eval) (hi.map a.eval) none).run P w = .ok (l.toNat, h.toNat, cap) w := by
  have eh : (h.toNat : Int) = h := Int.toNat_of_nonneg (by omega)
  rcases hl with ⟨rfl, rfl⟩ | ⟨o, k, rfl, ho⟩ <;> rcases hh with ⟨rfl, rfl⟩ | ⟨o', k', rfl, ho'⟩
  · simp [Instr.sliceBounds]
  · simp only [Instr.sliceBounds, Option.map_some, Option.map_none, ho', Sem.run_bind, Sem.run_pure, Result.andThen_ok, run_sliceBound w k' h cap _ (by omega) (by omega)]
    simp
  · have := run_sliceBound (P := P) w k l len (if (none : Option Value).isSome then .slice3C else .sliceB) h0 (by omega)
    simp only [Instr.sliceBounds, Option.map_some, Option.map_none, ho, Sem.run_bind, Sem.run_pure, Result.andThen_ok, this]
    simp
  · have := run_sliceBound (P := P) w k l h.toNat (if (none : Option Value).isSome then .slice3C else .sliceB) h0 (by omega)
    simp only [Instr.sliceBounds, Option.map_some, Option.map_none, ho, ho', Sem.run_bind, Sem.run_pure, Result.andThen_ok, run_sliceBound w k' h cap _ (by omega) (by omega), this]

theorem extract_bytesL (s : ByteArray) (l h : Nat) : bytesL (s.extract l h) = ((bytesL s).take h).drop l := by
  simp only [bytesL, ByteArray.data_extract, Array.toList_extract, List.extract_eq_take_drop, List.map_take, List.map_drop]
  rw [List.drop_take]

theorem evSlice_sound (F : Fits P N τ) {σ : St N} {t : TypeId} {x : Operand} {lo hi : Option Operand} {k : KK N β} {r : β} (h : evSlice τ σ t (ev σ x) lo hi k = some r) :
    ∃ s ad, k s ad = some r ∧ Does P σ (fun a => Instr.sliceAt t (a.eval x) (lo.map a.eval) (hi.map a.eval) none) s ad := by
  unfold evSlice at h
  split at h
  · rename_i el hτ
    split at h
    · rename_i l hx
      split at h
      · rename_i p q hp hq
        split at h
        · rename_i h0
          split at h
          · rename_i h1
            split at h
            · rename_i h2
              refine ⟨_, _, h, Does.pure fun io w0 E a w hr => ?_⟩
              have hx' := hr.ev x
              rw [hx] at hx'
              obtain ⟨s, k1, k2⟩ := hx'
              subst k2
              rw [bytesL_length] at h2 hq
              have hb := run_sliceBounds (P := P) (b := false) (cutLo_rel hp w io w0 E a hr) (cutHi_rel hq w io w0 E a hr) h0 h1 h2 (Nat.le_refl _) w
              refine ⟨.string (s.extract p.toNat q.toNat), ?_, _, rfl, extract_bytesL s _ _⟩
              rw [k1]
              simp only [Instr.sliceAt, Instr.slice, Sem.run_bind, run_underlying (F.str t el hτ).1, Result.andThen_ok, Option.isSome_none, Bool.false_eq_true, if_false, Sem.run_pure, hb]
            · cases h
          · cases h
        · cases h
      · cases h
    · cases h
  · rename_i e el hτ
    split at h
    · rename_i l bs hx
      split at h
      · rename_i p q hp hq
        split at h
        · rename_i h0
          split at h
          · rename_i h1
            split at h
            · rename_i h2
              refine ⟨_, _, h, Does.pure fun io w0 E a w hr => ?_⟩
              obtain ⟨cs, ⟨A, cap, c1, c2, c2', c3⟩, k2⟩ := hr.toDen hx (hr.ev x)
              have c4 : cs = [a.eval x] := k2
              rw [c1] at c4
              have c5 : a.eval x = .slice A l.length cap := (List.cons.inj c4).1.symm
              obtain ⟨u1, ⟨e', u2⟩, _⟩ := F.sl t e el hτ
              have hb := run_sliceBounds (P := P) (b := true) (cutLo_rel hp w io w0 E a hr) (cutHi_rel hq w io w0 E a hr) h0 h1 h2 c2 w
              have hs := F.sizeOf u2 w
              have hlen : ((l.take q.toNat).drop p.toNat).length = q.toNat - p.toNat := by rw [List.length_drop, List.length_take]; omega
              refine ⟨.slice (if cap = p.toNat then A else A.map (·.add (p.toNat * N.sz e))) (q.toNat - p.toNat) (cap - p.toNat), ?_, _, ⟨if cap = p.toNat then A else A.map (·.add (p.toNat * N.sz e)), cap - p.toNat, by rw [hlen], by rw [hlen]; omega, fun hA => ?_, fun i y hy => ?_⟩, rfl⟩
              · rw [c5]
                simp only [Instr.sliceAt, Instr.slice, Sem.run_bind, run_underlying u1, Result.andThen_ok, Sem.run_pure, hb, hs]
              · split at hA
                · omega
                · rw [Option.map_eq_none_iff] at hA
                  have := c2' hA
                  omega
              · have hilt : i < ((l.take q.toNat).drop p.toNat).length := (List.getElem?_eq_some_iff.1 hy).1
                rw [hlen] at hilt
                rw [List.getElem?_drop, List.getElem?_take] at hy
                rw [if_pos (by omega)] at hy
                obtain ⟨ad, ccs, d1, d2, d3, d4⟩ := c3 _ y hy
                refine ⟨ad.add (p.toNat * N.sz e), ccs, ?_, by rw [addr_add_block]; exact d2, d3, fun j u hu => ?_⟩
                · rw [if_neg (by omega), d1]; rfl
                · rw [addr_add_add, ← Nat.add_assoc, ← Nat.add_mul]
                  exact d4 j u hu
            · cases h
          · cases h
        · cases h
      · cases h
    · cases h
  · cases h

/-- A number as a byte. -/
def byteOf (n : Int) : Int := ((n.toNat % 256 : Nat) : Int)

theorem bytesL_strOfNums (xs : List Int) : bytesL (strOfNums xs) = xs.map byteOf := by
  unfold bytesL
  rw [strOfNums_data, List.map_map]
  apply List.map_congr_left
  intro n _
  simp [byteOf, UInt8.toNat_ofNat']

def isSome' {α : Type} : Option α → Bool
  | some _ => true
  | none => false

def evConvert (τ : TypeId → Option TI) (own : List (Nat × Blk N)) (src dst : TypeId) (x : RV N) (k : KK N β) : Option β :=
  bif isSome' (τ src) then match τ dst with
  | some ⟨.int k', _⟩ => match x with
    | .int _ n => k (.one (.int k' (k'.wrap n))) []
    | _ => none
  | some ⟨.str, _⟩ => match x with
    | .str l => k (.one (.str l)) []
    | .int _ _ => none
    | x => match τ src with
      | some ⟨.sl (.int .u8), _⟩ => match toDen own (.sl (.int .u8)) x with
        | some (l, _) => k (.one (.str (l.map byteOf))) []
        | none => none
      | _ => none
  | some ⟨.sl (.int .u8), _⟩ => match x with
    | .str l => k (.one (.data (.sl (.int .u8)) l [])) []
    | _ => none
  | _ => none
  else none

theorem Fits.under (F : Fits P N τ) {t : TypeId} {ti : TI} (h : τ t = some ti) : ∃ d, P.underlying t = some d := by
  obtain ⟨ty, e⟩ := ti
  cases ty with
  | int k => exact ⟨_, (F.int t k e h).1⟩
  | bool => exact ⟨_, (F.bool t e h).1⟩
  | str => exact ⟨_, (F.str t e h).1⟩
  | sl ty => exact ⟨_, (F.sl t ty e h).1⟩
  | nm n => obtain ⟨fs, h1, _⟩ := F.nm t n e h; exact h1.under
  | opq => obtain ⟨⟨d, h1, _⟩, _⟩ := F.opq t e h; exact ⟨_, h1⟩

theorem run_bytesL (F : Fits P N τ) {src dst e e' el : TypeId} {w : World} {ok : Nat → Prop} {l : List Int} {A : Option Addr} {cap : Nat} (hs : τ src = some ⟨.sl (.int .u8), e⟩) (hd : τ dst = some ⟨.str, e'⟩)
    (hrep : Rep (N := N) w ok (.sl (.int .u8)) l [.slice A l.length cap]) : ∃ s, (convert src dst (.slice A l.length cap)).run P w = .ok (.string s) w ∧ bytesL s = l.map byteOf := by
  obtain ⟨u1, ⟨e2, u2⟩, _⟩ := F.sl src _ e hs
  have he := (F.int e .u8 e2 u2).1
  have hd' := (F.str dst e' hd).1
  obtain ⟨A', cap', c1, c2, c2', c3⟩ := hrep
  simp only [List.cons.injEq, Value.slice.injEq, and_true] at c1
  obtain ⟨rfl, _, rfl⟩ := c1
  cases A with
  | none =>
    have hl : l = [] := List.eq_nil_of_length_eq_zero (by have := c2' rfl; omega)
    subst hl
    exact ⟨ByteArray.empty, run_convert_bytes_nil w src e u1 he 0 cap dst hd', rfl⟩
  | some ad =>
    have hl : (loadCells ad l.length).run P w = .ok (l.map (Value.int .u8)).toArray w := by
      have := run_loadCells_list (P := P) w ad (l.map (Value.int .u8)) (fun j v hj => by
        rw [List.getElem?_map] at hj
        obtain ⟨n, hn, rfl⟩ := Option.map_eq_some_iff.1 hj
        obtain ⟨ad', ccs, d1, d2, d3, d4⟩ := c3 j n hn
        cases d1
        have : ccs = [.int .u8 n] := d3
        subst this
        have := d4 0 _ rfl
        simpa [Names.sz] using this)
      simpa using this
    refine ⟨strOfNums l, ?_, bytesL_strOfNums l⟩
    rw [run_convert_bytes_string w src dst e _ l.length cap u1 he hd', run_bytesToString w _ l.length cap l hl, foldl_push_bytes]
    simp [strOfNums, ByteArray.empty, ByteArray.emptyWithCapacity]
    rfl

theorem evConvert_sound (F : Fits P N τ) {σ : St N} {src dst : TypeId} {x : Operand} {k : KK N β} {r : β} (h : evConvert τ σ.own src dst (ev σ x) k = some r) :
    ∃ s ad, k s ad = some r ∧ Does P σ (fun a => convert src dst (a.eval x)) s ad := by
  unfold evConvert at h
  obtain ⟨hsrc, h⟩ := bif_none h
  obtain ⟨ti, hti⟩ : ∃ ti, τ src = some ti := by
    cases hs : τ src with
    | none => rw [hs] at hsrc; cases hsrc
    | some ti => exact ⟨ti, rfl⟩
  obtain ⟨d, hd⟩ := F.under hti
  split at h
  · rename_i k' el hτ
    split at h
    · rename_i k0 n hx
      refine ⟨_, _, h, Does.pure fun io w0 E a w hr => ?_⟩
      have hx' := hr.ev x
      rw [hx] at hx'
      refine ⟨.int k' (k'.wrap n), ?_, rfl⟩
      rw [show a.eval x = _ from hx']
      simp only [convert, Sem.run_bind, run_underlying hd, run_underlying (F.int dst k' el hτ).1, Result.andThen_ok]
      cases d <;> rfl
    · cases h
  · rename_i el hτ
    split at h
    · rename_i l hx
      refine ⟨_, _, h, Does.pure fun io w0 E a w hr => ?_⟩
      have hx' := hr.ev x
      rw [hx] at hx'
      obtain ⟨s, k1, k2⟩ := hx'
      refine ⟨.string s, ?_, s, rfl, k2⟩
      rw [k1]
      simp only [convert, Sem.run_bind, run_underlying hd, run_underlying (F.str dst el hτ).1, Result.andThen_ok]
      cases d <;> rfl
    · cases h
    · rename_i x' hns hni
      split at h
      · rename_i el' hτ'
        split at h
        · rename_i l bs hl
          refine ⟨_, _, h, Does.pure fun io w0 E a w hr => ?_⟩
          obtain ⟨cs, hrep, k2⟩ := hr.toDen hl (hr.ev x)
          obtain ⟨A, cap, c1, c2, c2', c3⟩ := hrep
          have c4 : cs = [a.eval x] := k2
          rw [c1] at c4
          have c5 : a.eval x = .slice A l.length cap := (List.cons.inj c4).1.symm
          obtain ⟨s, r1, r2⟩ := run_bytesL F (e' := el) (el := el) (w := w) hτ' hτ (l := l) (A := A) (cap := cap) ⟨A, cap, rfl, c2, c2', c3⟩
          exact ⟨_, by rw [c5]; exact r1, s, rfl, r2⟩
        · cases h
      · cases h
  · rename_i el hτ
    split at h
    · rename_i l hx
      refine ⟨_, _, h, fun io w0 E a w hr => ?_⟩
      have hx' := hr.ev x
      rw [hx] at hx'
      obtain ⟨s, k1, k2⟩ := hx'
      obtain ⟨u1, ⟨e2, u2⟩, _⟩ := F.sl dst _ el hτ
      have he := (F.int el .u8 e2 u2).1
      have hrun := Lib.run_convert_string_bytes (P := P) w src dst el s hd u1 he
      have hext : Ext w (Lib.bytesWorld w el s) := ⟨rfl, rfl, rfl, by simp [Lib.bytesWorld, World.freeze, World.alloc, World.drew, -World.alloc_eq, -World.drew_eq], fun g hg => Lib.bytesWorld_at_old w el s g hg⟩
      refine ⟨_, _, E, by show (convert src dst (a.eval x)).run P w = _; rw [k1]; exact hrun, hr.ext hext, _, ⟨some ⟨w.heap.size, 0, none⟩, grownCap w s.size 0 el, ?_, ?_, (fun h => by cases h), fun i n hn => ?_⟩, rfl⟩
      · rw [← k2, bytesL_length]
      · rw [← k2, bytesL_length]; exact grownCap_ge w s.size 0 el
      · have hsz : w.heap.size < (Lib.bytesWorld w el s).heap.size := (Array.getElem?_eq_some_iff.1 (Lib.bytesWorld_at_new w el s)).1
        refine ⟨⟨w.heap.size, 0, none⟩, [.int .u8 n], rfl, ⟨⟨hsz, by rw [hr.sc]; exact hr.nw _ (.inl hr.kept.size)⟩, fun j hj _ hg => ?_⟩, rfl, fun j u hu => ?_⟩
        · obtain ⟨bj, hbj⟩ := Option.isSome_iff_exists.1 hj
          exact Nat.lt_irrefl _ (hr.blk j bj hbj _ hg).1
        · match j, hu with
          | 0, hu =>
            simp only [List.getElem?_cons_zero, Option.some.injEq] at hu
            subst hu
            simp only [Names.sz, Nat.mul_one, Nat.add_zero]
            rw [add_lit', Nat.zero_add, cell_of_row _ _ _ _ _ _ (Lib.bytesWorld_at_new w el s)]
            rw [← k2] at hn
            simp only [bytesL, List.getElem?_map] at hn
            obtain ⟨b, hb, rfl⟩ := Option.map_eq_some_iff.1 hn
            have hlt : i < s.data.size := by simpa using (List.getElem?_eq_some_iff.1 hb).1
            simp only [Lib.bytesCells]
            rw [Array.getElem?_append_left (by simpa using hlt)]
            rw [Array.getElem?_map]
            have hb' : s.data[i]? = some b := by simpa using hb
            rw [hb']
            rfl
    · cases h
  · cases h

def imin (m n : Int) : Int := if n < m then n else m
def imax (m n : Int) : Int := if m < n then n else m
/-- min, max of two integers. -/
def evMM (lo : Bool) (x y : RV N) (k : KK N β) : Option β :=
  match x, y with
  | .int kd m, .int _ n => bif lo then k (.one (.int kd (imin m n))) [] else k (.one (.int kd (imax m n))) []
  | _, _ => none

theorem evMin_sound {σ : St N} {ts : Array TypeId} {ty : TypeId} {x y : Operand} {k : KK N β} {r : β} (h : evMM true (ev σ x) (ev σ y) k = some r) :
    ∃ s ad, k s ad = some r ∧ Does P σ (fun a => Builtin.min_ ts ty #[a.eval x, a.eval y]) s ad := by
  unfold evMM at h
  split at h
  · rename_i kd m kd' n hx hy
    refine ⟨_, _, h, Does.pure fun io w0 E a w hr => ?_⟩
    have hx' := hr.ev x
    have hy' := hr.ev y
    rw [hx] at hx'
    rw [hy] at hy'
    have hx' : a.eval x = .int kd m := hx'
    have hy' : a.eval y = .int kd' n := hy'
    refine ⟨.int kd (imin m n), ?_, rfl⟩
    rw [hx', hy']
    simp [Builtin.min_, Builtin.min2, imin]
  · cases h
theorem evMax_sound {σ : St N} {ts : Array TypeId} {ty : TypeId} {x y : Operand} {k : KK N β} {r : β} (h : evMM false (ev σ x) (ev σ y) k = some r) :
    ∃ s ad, k s ad = some r ∧ Does P σ (fun a => Builtin.max_ ts ty #[a.eval x, a.eval y]) s ad := by
  unfold evMM at h
  split at h
  · rename_i kd m kd' n hx hy
    refine ⟨_, _, h, Does.pure fun io w0 E a w hr => ?_⟩
    have hx' := hr.ev x
    have hy' := hr.ev y
    rw [hx] at hx'
    rw [hy] at hy'
    have hx' : a.eval x = .int kd m := hx'
    have hy' : a.eval y = .int kd' n := hy'
    refine ⟨.int kd (imax m n), ?_, rfl⟩
    rw [hx', hy']
    simp [Builtin.max_, Builtin.max2, imax]
  · cases h

def evLen (τ : TypeId → Option TI) (own : List (Nat × Blk N)) (t : TypeId) (x : RV N) (k : KK N β) : Option β :=
  match τ t with
  | some ⟨.str, _⟩ => match x with
    | .str l => k (.one (.int .i64 (l.length : Int))) []
    | _ => none
  | some ⟨.sl e, _⟩ => match toDen own (.sl e) x with
    | some (l, _) => k (.one (.int .i64 (l.length : Int))) []
    | none => none
  | _ => none

theorem evLen_sound (F : Fits P N τ) {σ : St N} {t ty : TypeId} {x : Operand} {k : KK N β} {r : β} (h : evLen τ σ.own t (ev σ x) k = some r) :
    ∃ s ad, k s ad = some r ∧ Does P σ (fun a => Builtin.len_ #[t] ty #[a.eval x]) s ad := by
  unfold evLen at h
  split at h
  · rename_i el hτ
    split at h
    · rename_i l hx
      refine ⟨_, _, h, Does.pure fun io w0 E a w hr => ?_⟩
      have hx' := hr.ev x
      rw [hx] at hx'
      obtain ⟨s, k1, k2⟩ := hx'
      refine ⟨goInt s.size, ?_, by rw [← k2, bytesL_length]; rfl⟩
      rw [k1]
      simp [Builtin.len_, run_underlying (F.str t el hτ).1]
    · cases h
  · rename_i e el hτ
    split at h
    · rename_i l bs hx
      refine ⟨_, _, h, Does.pure fun io w0 E a w hr => ?_⟩
      obtain ⟨cs, ⟨A, cap, c1, c2, c2', c3⟩, k2⟩ := hr.toDen hx (hr.ev x)
      have c4 : cs = [a.eval x] := k2
      rw [c1] at c4
      have c5 : a.eval x = .slice A l.length cap := (List.cons.inj c4).1.symm
      refine ⟨goInt l.length, ?_, rfl⟩
      rw [c5]
      simp [Builtin.len_, run_underlying (F.sl t e el hτ).1]
    · cases h
  · cases h

end Go.Eng
