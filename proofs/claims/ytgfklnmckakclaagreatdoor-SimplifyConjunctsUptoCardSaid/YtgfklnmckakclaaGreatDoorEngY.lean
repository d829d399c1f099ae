/- The engine, part Y: a function's own side: how it begins and how it ends. -/
import Derived.Test.YtgfklnmckakclaaGreatDoorEngX
set_option linter.unusedVariables false
set_option linter.unusedSimpArgs false
namespace Go.Eng
variable {N : Names} {P : Program} {β : Type} {io : Io} {w0 w w' : World} {σ : St N} {E : Env} {a : Act}

def pid (i : Nat) : Nat := 900000 + 1000 * i
def cid (i j : Nat) : Nat := 900001 + 1000 * i + j

def initCells (i : Nat) : Nat → (l : List CK) → HC N.ρ l → List (RV N)
  | _, [], _ => []
  | j, .c t :: l, x => (bif isNm t then .undef else ofDen t x.1 []) :: initCells i (j + 1) l x.2
  | j, .o _ _ :: l, x => .own (cid i j) :: initCells i (j + 1) l x.2
def initCellOwn (i : Nat) : Nat → (l : List CK) → HC N.ρ l → List (Nat × Blk N)
  | _, [], _ => []
  | j, .c _ :: l, x => initCellOwn i (j + 1) l x.2
  | j, .o el e :: l, x => (cid i j, .row el e x.1 [] false) :: initCellOwn i (j + 1) l x.2
def cellIds (i : Nat) : Nat → List CK → List Nat
  | _, [] => []
  | j, .c _ :: l => cellIds i (j + 1) l
  | j, .o _ _ :: l => cid i j :: cellIds i (j + 1) l

def initOwn : Nat → (ps : List PK) → HIn N.ρ ps → List (Nat × Blk N)
  | _, [], _ => []
  | i, .v _ :: ps, x => initOwn (i + 1) ps x.2
  | i, .io el e :: ps, x => (pid i, .row el e x.1 [] true) :: initOwn (i + 1) ps x.2
  | i, .bw t :: ps, x => (pid i, .whole t x.1 []) :: initOwn (i + 1) ps x.2
  | i, .bc l :: ps, x => (pid i, .cells (initCells i 0 l x.1)) :: (initCellOwn i 0 l x.1 ++ initOwn (i + 1) ps x.2)
  | i, .fv _ :: ps, x => initOwn (i + 1) ps x.2
  | i, .fb f :: ps, x => (pid i, .cells [.fn f [pid i]]) :: initOwn (i + 1) ps x.2
def initRegs : Nat → (ps : List PK) → HIn N.ρ ps → List (RV N)
  | _, [], _ => []
  | i, .v t :: ps, x => ofDen t x.1 [] :: initRegs (i + 1) ps x.2
  | i, .io _ _ :: ps, x => .own (pid i) :: initRegs (i + 1) ps x.2
  | i, .bw _ :: ps, x => .bptr (pid i) 0 :: initRegs (i + 1) ps x.2
  | i, .bc _ :: ps, x => .bptr (pid i) 0 :: initRegs (i + 1) ps x.2
  | i, .fv f :: ps, x => .fn f [] :: initRegs (i + 1) ps x.2
  | i, .fb _ :: ps, x => .bptr (pid i) 0 :: initRegs (i + 1) ps x.2
def initIds : Nat → List PK → List Nat
  | _, [] => []
  | i, .v _ :: ps => initIds (i + 1) ps
  | i, .io _ _ :: ps => pid i :: initIds (i + 1) ps
  | i, .bw _ :: ps => pid i :: initIds (i + 1) ps
  | i, .bc l :: ps => pid i :: (cellIds i 0 l ++ initIds (i + 1) ps)
  | i, .fv _ :: ps => initIds (i + 1) ps
  | i, .fb _ :: ps => pid i :: initIds (i + 1) ps
def pinIds : Nat → List PK → List Nat
  | _, [] => []
  | i, .v _ :: ps => pinIds (i + 1) ps
  | i, .fv _ :: ps => pinIds (i + 1) ps
  | i, _ :: ps => pid i :: pinIds (i + 1) ps

def init (ps : List PK) (ntmps : Nat) (x : HIn N.ρ ps) : St N := { regs := (initRegs 0 ps x).map Slot.one ++ List.replicate (ntmps - ps.length) (.tup []), own := initOwn 0 ps x }

def pinned1 : PK → Bool
  | .v _ => false
  | .fv _ => false
  | _ => true

theorem initCells_rel {ok : Nat → Prop} {i : Nat} : ∀ (l : List CK) (j : Nat) (x : HC N.ρ l) (us : List Value), HCRel w ok l x us →
    ∃ L : List (Ent N), L.map Ent.two = initCellOwn i j l x ∧ L.map (·.1) = cellIds i j l ∧ HCBlk l us = L.flatMap (fun e => oneBlk e.2.2) ∧ us.length = (initCells i j l x).length ∧
      ∀ own' E', Stand L own' E' → (∀ g, ok g → okb w.heap.size own' E' [] g) → (∀ e ∈ L, BlkRel w own' E' e.1 e.2.1) ∧ ∀ (k : Nat) r u, (initCells i j l x)[k]? = some r → us[k]? = some u → RVRel w own' E' r u
  | [], j, x, us, h => by
    rw [show us = [] from h]
    exact ⟨[], rfl, rfl, rfl, rfl, fun _ _ _ _ => ⟨(fun e he => by cases he), fun k r u hk _ => by simp [initCells] at hk⟩⟩
  | .c t :: l, j, x, us, h => by
    obtain ⟨u, rest, rfl, k1, k2⟩ := h
    obtain ⟨L, l1, l2, l3, l4, l5⟩ := initCells_rel (i := i) l (j + 1) x.2 rest k2
    refine ⟨L, l1, l2, by simpa [HCBlk, CKBlk] using l3, by simp [initCells, l4], fun own' E' hst hok => ?_⟩
    obtain ⟨m1, m2⟩ := l5 own' E' hst hok
    refine ⟨m1, fun k r u' hk hu => ?_⟩
    cases k with
    | zero =>
      simp only [initCells, List.getElem?_cons_zero, Option.some.injEq] at hk hu
      subst hk hu
      have hrep : Rep w ok t x.1 [u] := k1
      cases t with
      | nm n => trivial
      | _ => exact ofDen_rel (Rep_mono (fun _ _ _ h => h) hok hrep) rfl
    | succ k => exact m2 k r u' (by simpa [initCells] using hk) (by simpa using hu)
  | .o el e :: l, j, x, us, h => by
    obtain ⟨u, rest, rfl, k1, k2⟩ := h
    obtain ⟨L, l1, l2, l3, l4, l5⟩ := initCells_rel (i := i) l (j + 1) x.2 rest k2
    refine ⟨(cid i j, .row el e x.1 [] false, u) :: L, by simp [initCellOwn, Ent.two, l1], by simp [cellIds, l2], by simp [HCBlk, CKBlk, l3], by simp [initCells, l4], fun own' E' hst hok => ?_⟩
    obtain ⟨m1, m2⟩ := l5 own' E' (fun e he => hst e (List.mem_cons_of_mem _ he)) hok
    obtain ⟨s1, s2⟩ := hst _ List.mem_cons_self
    refine ⟨fun e' he => ?_, fun k r u' hk hu => ?_⟩
    · rcases List.mem_cons.1 he with rfl | he
      · exact ownAt_blk k1 s2 hok
      · exact m1 e' he
    · cases k with
      | zero =>
        simp only [initCells, List.getElem?_cons_zero, Option.some.injEq] at hk hu
        subst hk hu
        exact ⟨s2.symm, x.1.length, e, el, x.1, [], false, s1, rfl⟩
      | succ k => exact m2 k r u' (by simpa [initCells] using hk) (by simpa using hu)

theorem init_rel {ok : Nat → Prop} : ∀ (ps : List PK) (i : Nat) (x : HIn N.ρ ps) (vs : List Value) (bl : List Nat), InRel w ok ps x vs bl →
    ∃ L : List (Ent N), L.map Ent.two = initOwn i ps x ∧ L.map (·.1) = initIds i ps ∧ bl = L.flatMap (fun e => oneBlk e.2.2) ∧ vs.length = ps.length ∧ (initRegs i ps x).length = ps.length ∧
      (∀ (j : Nat) p v, ps[j]? = some p → vs[j]? = some v → pinned1 p = true → ∃ e ∈ L, e.1 = pid (i + j) ∧ e.2.2 = v) ∧ (∀ id ∈ pinIds i ps, ∃ e ∈ L, e.1 = id ∧ e.2.1.pinned = true) ∧
      ∀ own' E', Stand L own' E' → (∀ g, ok g → okb w.heap.size own' E' [] g) → (∀ e ∈ L, BlkRel w own' E' e.1 e.2.1) ∧ ∀ (k : Nat) r u, (initRegs i ps x)[k]? = some r → vs[k]? = some u → RVRel w own' E' r u
  | [], i, x, vs, bl, h => by
    obtain ⟨rfl, rfl⟩ := h
    exact ⟨[], rfl, rfl, rfl, rfl, rfl, (fun j p v hp => by simp at hp), (fun id hid => by cases hid), fun _ _ _ _ => ⟨(fun e he => by cases he), fun k r u hk _ => by simp [initRegs] at hk⟩⟩
  | .v t :: ps, i, x, vs, bl, h => by
    obtain ⟨v, rest, b1, b2, rfl, rfl, ⟨⟨cs, k1, k2⟩, rfl⟩, k3⟩ := h
    obtain ⟨L, l1, l2, l3, l4, l4', l5, l6, l7⟩ := init_rel ps (i + 1) x.2 rest b2 k3
    refine ⟨L, l1, l2, by simpa using l3, by simp [l4], by simp [initRegs, l4'], fun j p v' hp hv hpin => ?_, l6, fun own' E' hst hok => ?_⟩
    · cases j with
      | zero =>
        simp only [List.getElem?_cons_zero, Option.some.injEq] at hp
        subst hp
        cases hpin
      | succ j =>
        obtain ⟨e, e1, e2, e3⟩ := l5 j p v' (by simpa using hp) (by simpa using hv) hpin
        exact ⟨e, e1, by rw [e2, show i + 1 + j = i + (j + 1) from by omega], e3⟩
    · obtain ⟨m1, m2⟩ := l7 own' E' hst hok
      refine ⟨m1, fun k r u hk hu => ?_⟩
      cases k with
      | zero =>
        simp only [initRegs, List.getElem?_cons_zero, Option.some.injEq] at hk hu
        subst hk hu
        exact ofDen_rel (Rep_mono (fun _ _ _ h => h) hok k1) k2
      | succ k => exact m2 k r u (by simpa [initRegs] using hk) (by simpa using hu)
  | .io el e :: ps, i, x, vs, bl, h => by
    obtain ⟨v, rest, b1, b2, rfl, rfl, ⟨k1, rfl⟩, k3⟩ := h
    obtain ⟨L, l1, l2, l3, l4, l4', l5, l6, l7⟩ := init_rel ps (i + 1) x.2 rest b2 k3
    refine ⟨(pid i, .row el e x.1 [] true, v) :: L, by simp [initOwn, Ent.two, l1], by simp [initIds, l2], by simp [l3], by simp [l4], by simp [initRegs, l4'], fun j p v' hp hv hpin => ?_, fun id hid => ?_, fun own' E' hst hok => ?_⟩
    · cases j with
      | zero =>
        simp only [List.getElem?_cons_zero, Option.some.injEq] at hv
        exact ⟨_, List.mem_cons_self, rfl, hv⟩
      | succ j =>
        obtain ⟨e, e1, e2, e3⟩ := l5 j p v' (by simpa using hp) (by simpa using hv) hpin
        exact ⟨e, List.mem_cons_of_mem _ e1, by rw [e2, show i + 1 + j = i + (j + 1) from by omega], e3⟩
    · rcases List.mem_cons.1 hid with rfl | hid
      · exact ⟨_, List.mem_cons_self, rfl, rfl⟩
      · obtain ⟨e, e1, e2⟩ := l6 id hid
        exact ⟨e, List.mem_cons_of_mem _ e1, e2⟩
    · obtain ⟨m1, m2⟩ := l7 own' E' (fun e he => hst e (List.mem_cons_of_mem _ he)) hok
      obtain ⟨s1, s2⟩ := hst _ List.mem_cons_self
      refine ⟨fun e' he => ?_, fun k r u hk hu => ?_⟩
      · rcases List.mem_cons.1 he with rfl | he
        · exact ownAt_blk k1 s2 hok
        · exact m1 e' he
      · cases k with
        | zero =>
          simp only [initRegs, List.getElem?_cons_zero, Option.some.injEq] at hk hu
          subst hk hu
          exact ⟨s2.symm, x.1.length, e, el, x.1, [], true, s1, rfl⟩
        | succ k => exact m2 k r u (by simpa [initRegs] using hk) (by simpa using hu)
  | .bw t :: ps, i, x, vs, bl, h => by
    obtain ⟨v, rest, b1, b2, rfl, rfl, ⟨g, T, arr, ⟨kb1, kb2⟩, k1, rfl⟩, k3⟩ := h
    obtain ⟨L, l1, l2, l3, l4, l4', l5, l6, l7⟩ := init_rel ps (i + 1) x.2 rest b2 k3
    refine ⟨(pid i, .whole t x.1 [], v) :: L, by simp [initOwn, Ent.two, l1], by simp [initIds, l2], by simp [l3, kb1, oneBlk, blkOf], by simp [l4], by simp [initRegs, l4'], fun j p v' hp hv hpin => ?_, fun id hid => ?_, fun own' E' hst hok => ?_⟩
    · cases j with
      | zero =>
        simp only [List.getElem?_cons_zero, Option.some.injEq] at hv
        exact ⟨_, List.mem_cons_self, rfl, hv⟩
      | succ j =>
        obtain ⟨e, e1, e2, e3⟩ := l5 j p v' (by simpa using hp) (by simpa using hv) hpin
        exact ⟨e, List.mem_cons_of_mem _ e1, by rw [e2, show i + 1 + j = i + (j + 1) from by omega], e3⟩
    · rcases List.mem_cons.1 hid with rfl | hid
      · exact ⟨_, List.mem_cons_self, rfl, rfl⟩
      · obtain ⟨e, e1, e2⟩ := l6 id hid
        exact ⟨e, List.mem_cons_of_mem _ e1, e2⟩
    · obtain ⟨m1, m2⟩ := l7 own' E' (fun e he => hst e (List.mem_cons_of_mem _ he)) hok
      obtain ⟨s1, s2⟩ := hst _ List.mem_cons_self
      refine ⟨fun e' he => ?_, fun k r u hk hu => ?_⟩
      · rcases List.mem_cons.1 he with rfl | he
        · exact ⟨g, T, arr, s2.trans kb1, kb2, Rep_mono (fun _ _ _ h => h) hok k1⟩
        · exact m1 e' he
      · cases k with
        | zero =>
          simp only [initRegs, List.getElem?_cons_zero, Option.some.injEq] at hk hu
          subst hk hu
          exact ⟨.inl ⟨t, x.1, [], s1⟩, g, s2.trans kb1, kb1⟩
        | succ k => exact m2 k r u (by simpa [initRegs] using hk) (by simpa using hu)
  | .fv f :: ps, i, x, vs, bl, h => by
    obtain ⟨v, rest, b1, b2, rfl, rfl, ⟨k1, rfl⟩, k3⟩ := h
    obtain ⟨L, l1, l2, l3, l4, l4', l5, l6, l7⟩ := init_rel ps (i + 1) x.2 rest b2 k3
    refine ⟨L, l1, l2, by simpa using l3, by simp [l4], by simp [initRegs, l4'], fun j p v' hp hv hpin => ?_, l6, fun own' E' hst hok => ?_⟩
    · cases j with
      | zero =>
        simp only [List.getElem?_cons_zero, Option.some.injEq] at hp
        subst hp
        cases hpin
      | succ j =>
        obtain ⟨e, e1, e2, e3⟩ := l5 j p v' (by simpa using hp) (by simpa using hv) hpin
        exact ⟨e, e1, by rw [e2, show i + 1 + j = i + (j + 1) from by omega], e3⟩
    · obtain ⟨m1, m2⟩ := l7 own' E' hst hok
      refine ⟨m1, fun k r u hk hu => ?_⟩
      cases k with
      | zero =>
        simp only [initRegs, List.getElem?_cons_zero, Option.some.injEq] at hk hu
        subst hk hu
        exact ⟨k1, fun k hk => by cases hk⟩
      | succ k => exact m2 k r u (by simpa [initRegs] using hk) (by simpa using hu)
  | .fb f :: ps, i, x, vs, bl, h => by
    obtain ⟨v, rest, b1, b2, rfl, rfl, ⟨g, T, arr, ⟨kb1, kb2⟩, k1, rfl⟩, k3⟩ := h
    obtain ⟨L, l1, l2, l3, l4, l4', l5, l6, l7⟩ := init_rel ps (i + 1) x.2 rest b2 k3
    refine ⟨(pid i, .cells [.fn f [pid i]], v) :: L, by simp [initOwn, Ent.two, l1], by simp [initIds, l2], by simp [l3, kb1, oneBlk, blkOf], by simp [l4], by simp [initRegs, l4'], fun j p v' hp hv hpin => ?_, fun id hid => ?_, fun own' E' hst hok => ?_⟩
    · cases j with
      | zero =>
        simp only [List.getElem?_cons_zero, Option.some.injEq] at hv
        exact ⟨_, List.mem_cons_self, rfl, hv⟩
      | succ j =>
        obtain ⟨e, e1, e2, e3⟩ := l5 j p v' (by simpa using hp) (by simpa using hv) hpin
        exact ⟨e, List.mem_cons_of_mem _ e1, by rw [e2, show i + 1 + j = i + (j + 1) from by omega], e3⟩
    · rcases List.mem_cons.1 hid with rfl | hid
      · exact ⟨_, List.mem_cons_self, rfl, rfl⟩
      · obtain ⟨e, e1, e2⟩ := l6 id hid
        exact ⟨e, List.mem_cons_of_mem _ e1, e2⟩
    · obtain ⟨m1, m2⟩ := l7 own' E' (fun e he => hst e (List.mem_cons_of_mem _ he)) hok
      obtain ⟨s1, s2⟩ := hst _ List.mem_cons_self
      refine ⟨fun e' he => ?_, fun k r u hk hu => ?_⟩
      · rcases List.mem_cons.1 he with rfl | he
        · refine ⟨g, T, arr, s2.trans kb1, kb2, by rw [k1]; rfl, fun k r u hk hu => ?_⟩
          subst k1
          cases k with
          | zero =>
            simp only [List.getElem?_cons_zero, Option.some.injEq] at hk
            subst hk
            exact self_rel ⟨_, s1⟩ s2 kb1 (Option.some.inj hu).symm
          | succ k => simp at hk
        · exact m1 e' he
      · cases k with
        | zero =>
          simp only [initRegs, List.getElem?_cons_zero, Option.some.injEq] at hk hu
          subst hk hu
          exact ⟨.inr (.inl ⟨_, s1⟩), g, s2.trans kb1, kb1⟩
        | succ k => exact m2 k r u (by simpa [initRegs] using hk) (by simpa using hu)
  | .bc l :: ps, i, x, vs, bl, h => by
    obtain ⟨v, rest, b1, b2, rfl, rfl, ⟨g, T, arr, ⟨kb1, kb2⟩, k1, rfl⟩, k3⟩ := h
    obtain ⟨L, l1, l2, l3, l4, l4', l5, l6, l7⟩ := init_rel ps (i + 1) x.2 rest b2 k3
    obtain ⟨M, m1, m2, m3, m4, m5⟩ := initCells_rel (i := i) l 0 x.1 arr.toList k1
    refine ⟨(pid i, .cells (initCells i 0 l x.1), v) :: (M ++ L), by simp [initOwn, Ent.two, l1, m1], by simp [initIds, l2, m2], by simp [l3, m3, kb1, oneBlk, blkOf], by simp [l4], by simp [initRegs, l4'], fun j p v' hp hv hpin => ?_, fun id hid => ?_, fun own' E' hst hok => ?_⟩
    · cases j with
      | zero =>
        simp only [List.getElem?_cons_zero, Option.some.injEq] at hv
        exact ⟨_, List.mem_cons_self, rfl, hv⟩
      | succ j =>
        obtain ⟨e, e1, e2, e3⟩ := l5 j p v' (by simpa using hp) (by simpa using hv) hpin
        exact ⟨e, List.mem_cons_of_mem _ (List.mem_append.2 (.inr e1)), by rw [e2, show i + 1 + j = i + (j + 1) from by omega], e3⟩
    · rcases List.mem_cons.1 hid with rfl | hid
      · exact ⟨_, List.mem_cons_self, rfl, rfl⟩
      · obtain ⟨e, e1, e2⟩ := l6 id hid
        exact ⟨e, List.mem_cons_of_mem _ (List.mem_append.2 (.inr e1)), e2⟩
    · obtain ⟨q1, q2⟩ := l7 own' E' (fun e he => hst e (List.mem_cons_of_mem _ (List.mem_append.2 (.inr he)))) hok
      obtain ⟨c1, c2⟩ := m5 own' E' (fun e he => hst e (List.mem_cons_of_mem _ (List.mem_append.2 (.inl he)))) hok
      obtain ⟨s1, s2⟩ := hst _ List.mem_cons_self
      refine ⟨fun e' he => ?_, fun k r u hk hu => ?_⟩
      · rcases List.mem_cons.1 he with rfl | he
        · exact ⟨g, T, arr, s2.trans kb1, kb2, by simpa using m4, fun k r u hk hu => c2 k r u hk (by simpa using hu)⟩
        · rcases List.mem_append.1 he with he | he
          · exact c1 e' he
          · exact q1 e' he
      · cases k with
        | zero =>
          simp only [initRegs, List.getElem?_cons_zero, Option.some.injEq] at hk hu
          subst hk hu
          exact ⟨.inr (.inl ⟨_, s1⟩), g, s2.trans kb1, kb1⟩
        | succ k => exact q2 k r u (by simpa [initRegs] using hk) (by simpa using hu)

/-! The end. -/
def outPs (own : List (Nat × Blk N)) : Nat → (ps : List PK) → Option (HOut N.ρ ps × List Nat × List Nat)
  | _, [] => some ((), [], [])
  | i, .v _ :: ps => outPs own (i + 1) ps
  | i, .io el e :: ps => match look own (pid i) with
    | some (.row el' e' xs bs _) => bif el' == el then match castTy N (.sl e') (.sl e) xs, outPs own (i + 1) ps with
      | some xs, some (y, B, R) => some ((xs, y), bs ++ B, pid i :: R)
      | _, _ => none
      else none
    | _ => none
  | i, .bw t :: ps => match look own (pid i) with
    | some (.whole t' x bs) => match castTy N t' t x, outPs own (i + 1) ps with
      | some x, some (y, B, R) => some ((x, y), bs ++ B, pid i :: R)
      | _, _ => none
    | _ => none
  | i, .bc l :: ps => match look own (pid i) with
    | some (.cells rs) => match cellsIn own l rs, outPs own (i + 1) ps with
      | some (x, b, J), some (y, B, R) => some ((x, y), b ++ B, pid i :: (J ++ R))
      | _, _ => none
    | _ => none
  | i, .fv _ :: ps => outPs own (i + 1) ps
  | i, .fb f :: ps => match look own (pid i) with
    | some (.cells rs) => bif selfIs f (pid i) rs then match outPs own (i + 1) ps with
      | some (y, B, R) => some (((), y), B, pid i :: R)
      | none => none
      else none
    | _ => none

/-- A result's variable, read. -/
def resRV (τ : TypeId → Option TI) (σ : St N) : ResultVar → Option (RV N)
  | .tmp t => some (ev σ (.tmp t))
  | .cell a t => match τ t with
    | some ⟨.nm n, _⟩ => match ev σ (.tmp a) with
      | .bptr id 0 => match look σ.own id with
        | some (.whole (.nm m) x bs) => bif Nat.beq m n then some (ofDen (.nm m) x bs) else none
        | _ => none
      | _ => none
    | none => none
    | some _ => match ev σ (.tmp a) with
      | .bptr id 0 => match look σ.own id with
        | some (.cells [r]) => some r
        | some (.whole ty x bs) => bif isNm ty then none else some (ofDen ty x bs)
        | _ => none
      | _ => none
def resRVs (τ : TypeId → Option TI) (σ : St N) : List ResultVar → Option (List (RV N))
  | [] => some []
  | r :: l => match resRV τ σ r, resRVs τ σ l with
    | some x, some y => some (x :: y)
    | _, _ => none

def resPs (σ : St N) : (rs : List RK) → List (RV N) → Option (HRes N.ρ rs × List Nat × List Nat)
  | [], [] => some ((), [], [])
  | .v t :: rs, d :: ds => match toDen σ.own t d, resPs σ rs ds with
    | some (x, b), some (y, B, R) => some ((x, y), b ++ B, R)
    | _, _ => none
  | .own el e :: rs, d :: ds => match d with
    | .own j => match look σ.own j with
      | some (.row el' e' xs bs false) => bif el' == el then match castTy N (.sl e') (.sl e) xs, resPs σ rs ds with
        | some xs, some (y, B, R) => some ((xs, y), bs ++ B, j :: R)
        | _, _ => none
        else none
      | _ => none
    | .nil => match resPs σ rs ds with
      | some (y, B, R) => some (([], y), B, R)
      | none => none
    | _ => none
  | _, _ => none

def finish (τ : TypeId → Option TI) (ps : List PK) (rs : List RK) (ds : List ResultVar) (σ : St N) : Option (HRes N.ρ rs × HOut N.ρ ps) :=
  match resRVs τ σ ds with
  | none => none
  | some ds => match resPs σ rs ds, outPs σ.own 0 ps with
    | some (y, B, R), some (z, B', R') => bif nodupB (R' ++ R) && !meets (R' ++ R) (B ++ B') then some (y, z) else none
    | _, _ => none

def rvSem (tmps : Array Value) : ResultVar → Sem Value
  | .tmp t => pure (tmps.getD t undef)
  | .cell a t => do loadVar t (← asAddr (tmps.getD a undef))

theorem resRV_rel {τ : TypeId → Option TI} (F : Fits P N τ) (h : RelE io w0 σ E a w) {rv : ResultVar} {r : RV N} (hr : resRV τ σ rv = some r) : ∃ v, (rvSem a.tmps rv).run P w = .ok v w ∧ RVRel w σ.own E r v := by
  cases rv with
  | tmp t =>
    cases hr
    exact ⟨_, rfl, h.ev (.tmp t)⟩
  | cell d t =>
    simp only [resRV] at hr
    split at hr
    · rename_i n e hτ
      split at hr
      · rename_i id hid
        have hev := h.ev (.tmp d)
        rw [hid] at hev
        obtain ⟨_, g, e1, e2⟩ := hev
        have e2 : a.tmps.getD d undef = .pointer (some ⟨g, 0, none⟩) := e2
        split at hr
        · rename_i m x bs hlk
          cases hm : Nat.beq m n with
          | false => rw [hm] at hr; cases hr
          | true =>
            rw [hm] at hr
            cases hr
            obtain rfl := Nat.eq_of_beq_eq_true hm
            obtain ⟨g', T, arr, c1, c2, c3⟩ := h.own id _ hlk
            rw [e1] at c1
            cases c1
            have hc : ∀ (j : Nat) u, arr.toList[j]? = some u → w.cell? ((⟨g, 0, none⟩ : Addr).add j) = some u := by
              intro j u hu
              have hadd : (⟨g, 0, none⟩ : Addr).add j = ⟨g, j, none⟩ := by unfold Addr.add; split <;> simp_all
              rw [hadd, cell_of_row w g _ arr T (0, 0) c2]
              simpa using hu
            obtain ⟨v, r1, r2⟩ := F.load hτ c3 hc
            refine ⟨v, ?_, ofDen_rel c3 r2⟩
            simp only [Instr.loadAt, Instr.sureAddr, Sem.run_bind, Sem.run_pure, Result.andThen_ok] at r1
            simpa [rvSem, e2, asAddr] using r1
        · cases hr
      · cases hr
    · cases hr
    · rename_i ti hn hτ
      obtain ⟨ty, e⟩ := ti
      have hagg : (Go.isAgg t).run P w = .ok false w := by
        rw [F.isAgg hτ w]
        cases ty with
        | nm n => exact (hn n e rfl).elim
        | _ => rfl
      split at hr
      · rename_i id hid
        have hev := h.ev (.tmp d)
        rw [hid] at hev
        obtain ⟨_, g, e1, e2⟩ := hev
        have e2 : a.tmps.getD d undef = .pointer (some ⟨g, 0, none⟩) := e2
        have run : ∀ u, w.cell? ⟨g, 0, none⟩ = some u → (rvSem a.tmps (.cell d t)).run P w = .ok u w := by
          intro u hu
          simp [rvSem, e2, asAddr, loadVar, hagg, hu]
        have cell : ∀ {T : TypeId} {arr : Array Value} {u : Value}, w.heap[g]? = some (.cells arr T (0, 0)) → arr[0]? = some u → w.cell? ⟨g, 0, none⟩ = some u := by
          intro T arr u hg hu
          have := h.box (id := 0) hg 0 0 u (by simpa using hu)
          simpa [Addr.add] using this
        split at hr
        · rename_i r' hlk
          cases hr
          obtain ⟨g', T, arr, c1, c2, c3, c4⟩ := h.own id _ hlk
          rw [e1] at c1
          cases c1
          have hlt : 0 < arr.size := by rw [c3]; simp
          have hu : arr[0]? = some arr[0] := Array.getElem?_eq_getElem hlt
          exact ⟨_, run _ (cell c2 hu), c4 0 r _ rfl hu⟩
        · rename_i ty' x bs hlk
          cases hm : isNm ty' with
          | true => rw [hm] at hr; cases hr
          | false =>
            rw [hm] at hr
            cases hr
            obtain ⟨g', T, arr, c1, c2, c3⟩ := h.own id _ hlk
            rw [e1] at c1
            cases c1
            have hlen : arr.size = 1 := by
              have := Rep_length c3
              rw [Array.length_toList] at this
              rw [this]
              cases ty' with
              | nm n => cases hm
              | _ => rfl
            have hu : arr[0]? = some (arr[0]'(by omega)) := Array.getElem?_eq_getElem (by omega)
            refine ⟨_, run _ (cell c2 hu), ofDen_rel c3 ?_⟩
            have hl : arr.toList = [arr[0]'(by omega)] := by
              obtain ⟨l⟩ := arr
              match l, hlen with
              | [v], _ => rfl
            cases ty' with
            | nm n => cases hm
            | _ => exact hl
        · cases hr
      · cases hr

theorem resRVs_rel {τ : TypeId → Option TI} (F : Fits P N τ) (h : RelE io w0 σ E a w) : ∀ {rvs : List ResultVar} {l : List (RV N)}, resRVs τ σ rvs = some l →
    ∃ us : List Value, us.length = l.length ∧ us.length = rvs.length ∧ (∀ (i : Nat) rv u, rvs[i]? = some rv → us[i]? = some u → (rvSem a.tmps rv).run P w = .ok u w) ∧ ∀ (i : Nat) r u, l[i]? = some r → us[i]? = some u → RVRel w σ.own E r u
  | [], l, hl => by
    cases hl
    exact ⟨[], rfl, rfl, fun i rv u hi _ => by simp at hi, fun i rv u hi _ => by simp at hi⟩
  | rv :: rvs, l, hl => by
    simp only [resRVs] at hl
    split at hl
    · rename_i x y hx hy
      cases hl
      obtain ⟨v, v1, v2⟩ := resRV_rel F h hx
      obtain ⟨us, u1, u2, u3, u4⟩ := resRVs_rel F h hy
      refine ⟨v :: us, by simp [u1], by simp [u2], fun i rv u hi hu => ?_, fun i r u hi hu => ?_⟩
      · cases i with
        | zero =>
          simp only [List.getElem?_cons_zero, Option.some.injEq] at hi hu
          subst hi hu
          exact v1
        | succ i => exact u3 i rv u (by simpa using hi) (by simpa using hu)
      · cases i with
        | zero =>
          simp only [List.getElem?_cons_zero, Option.some.injEq] at hi hu
          subst hi hu
          exact v2
        | succ i => exact u4 i r u (by simpa using hi) (by simpa using hu)
    · cases hl

theorem HCRel_mono {ok ok' : Nat → Prop} (h : ∀ g, ok g → ok' g) : ∀ {l : List CK} {x : HC N.ρ l} {us : List Value}, HCRel w ok l x us → HCRel w ok' l x us
  | [], _, _, hh => hh
  | .c t :: l, x, us, ⟨u, rest, e, k1, k2⟩ => ⟨u, rest, e, Rep_mono (fun _ _ _ h => h) h k1, HCRel_mono h k2⟩
  | .o el t :: l, x, us, ⟨u, rest, e, ⟨cells, k1, k3⟩, k2⟩ => ⟨u, rest, e, ⟨cells, k1, RowC_mono (fun x cs hx => Rep_mono (fun _ _ _ h => h) h hx) k3⟩, HCRel_mono h k2⟩

theorem out_rel (h : RelE io w0 σ E a w) {okA : Nat → Prop} {B0 : List Nat} (hA : ∀ g, okb w.heap.size σ.own E B0 g → okA g) : ∀ (ps : List PK) (i : Nat) (vs : List Value) (y : HOut N.ρ ps) (B R : List Nat), outPs σ.own i ps = some (y, B, R) → (∀ k ∈ B, k ∈ B0) → vs.length = ps.length →
    (∀ (j : Nat) p v, ps[j]? = some p → vs[j]? = some v → pinned1 p = true → E (pid (i + j)) = v) →
    OutRel w okA ps y vs (R.flatMap fun id => oneBlk (E id)) ∧ ∀ id ∈ R, ∃ b, look σ.own id = some b
  | [], i, vs, y, B, R, ho, hB, hl, hv => by
    cases ho
    exact ⟨rfl, fun id hid => by cases hid⟩
  | .v t :: ps, i, vs, y, B, R, ho, hB, hl, hv => by
    match vs, hl with
    | v :: vs, hl =>
      exact out_rel h hA ps (i + 1) vs y B R ho hB (by simpa using hl) (fun j p v hp hv' hpin => by
        rw [show i + 1 + j = i + (j + 1) from by omega]
        exact hv (j + 1) p v (by simpa using hp) (by simpa using hv') hpin)
  | .io el e :: ps, i, vs, y, B, R, ho, hB, hl, hv => by
    match vs, hl with
    | v :: vs, hl =>
      have hEv : E (pid i) = v := hv 0 _ v rfl rfl rfl
      simp only [outPs] at ho
      split at ho
      · rename_i el' e' xs bs p hlk
        obtain ⟨hel, ho⟩ := bif_none ho
        have hel : el' = el := by simpa using hel
        subst hel
        split at ho
        · rename_i xs' y1 B1 R1 h1 h2
          cases ho
          obtain ⟨et, rfl⟩ := castTy_some h1
          cases et
          obtain ⟨q1, q2⟩ := out_rel h hA ps (i + 1) vs y1 B1 R1 h2 (fun k hk => hB k (List.mem_append.2 (.inr hk))) (by simpa using hl) (fun j p v hp hv' hpin => by
            rw [show i + 1 + j = i + (j + 1) from by omega]
            exact hv (j + 1) p v (by simpa using hp) (by simpa using hv') hpin)
          obtain ⟨cells, c1, c2⟩ := ownAt_more (fun k hk => hB k (List.mem_append.2 (.inl hk))) (h.ownAt hlk)
          rw [hEv] at c1
          exact ⟨⟨v, vs, oneBlk v, _, rfl, by rw [List.flatMap_cons, hEv], ⟨⟨cells, c1, RowC_mono (fun x cs hx => Rep_mono (fun _ _ _ h => h) hA hx) c2⟩, rfl⟩, q1⟩, fun id hid => by
            rcases List.mem_cons.1 hid with rfl | hid
            · exact ⟨_, hlk⟩
            · exact q2 id hid⟩
        · cases ho
      · cases ho
  | .bw t :: ps, i, vs, y, B, R, ho, hB, hl, hv => by
    match vs, hl with
    | v :: vs, hl =>
      have hEv : E (pid i) = v := hv 0 _ v rfl rfl rfl
      simp only [outPs] at ho
      split at ho
      · rename_i t' x bs hlk
        split at ho
        · rename_i x' y1 B1 R1 h1 h2
          cases ho
          obtain ⟨rfl, rfl⟩ := castTy_some h1
          obtain ⟨q1, q2⟩ := out_rel h hA ps (i + 1) vs y1 B1 R1 h2 (fun k hk => hB k (List.mem_append.2 (.inr hk))) (by simpa using hl) (fun j p v hp hv' hpin => by
            rw [show i + 1 + j = i + (j + 1) from by omega]
            exact hv (j + 1) p v (by simpa using hp) (by simpa using hv') hpin)
          obtain ⟨g, T, arr, c1, c2, c3⟩ := h.own _ _ hlk
          have c3 := Rep_more (fun k hk => hB k (List.mem_append.2 (.inl hk))) c3
          rw [hEv] at c1
          exact ⟨⟨v, vs, [g], _, rfl, by rw [List.flatMap_cons, hEv, c1]; rfl, ⟨g, T, arr, ⟨c1, c2⟩, Rep_mono (fun _ _ _ h => h) hA c3, rfl⟩, q1⟩, fun id hid => by
            rcases List.mem_cons.1 hid with rfl | hid
            · exact ⟨_, hlk⟩
            · exact q2 id hid⟩
        · cases ho
      · cases ho
  | .fv f :: ps, i, vs, y, B, R, ho, hB, hl, hv => by
    match vs, hl with
    | v :: vs, hl =>
      exact out_rel h hA ps (i + 1) vs y B R ho hB (by simpa using hl) (fun j p v hp hv' hpin => by
        rw [show i + 1 + j = i + (j + 1) from by omega]
        exact hv (j + 1) p v (by simpa using hp) (by simpa using hv') hpin)
  | .fb f :: ps, i, vs, y, B, R, ho, hB, hl, hv => by
    match vs, hl with
    | v :: vs, hl =>
      have hEv : E (pid i) = v := hv 0 _ v rfl rfl rfl
      simp only [outPs] at ho
      split at ho
      · rename_i rs hlk
        obtain ⟨hf, ho⟩ := bif_none ho
        rw [selfIs_spec hf] at hlk
        split at ho
        · rename_i y1 B1 R1 h2
          cases ho
          obtain ⟨q1, q2⟩ := out_rel h hA ps (i + 1) vs y1 B R1 h2 hB (by simpa using hl) (fun j p v hp hv' hpin => by
            rw [show i + 1 + j = i + (j + 1) from by omega]
            exact hv (j + 1) p v (by simpa using hp) (by simpa using hv') hpin)
          obtain ⟨g, T, arr, c1, c2, c3, c4⟩ := h.own _ _ hlk
          rw [hEv] at c1
          refine ⟨⟨v, vs, [g], _, rfl, by rw [List.flatMap_cons, hEv, c1]; rfl, ⟨g, T, arr, ⟨c1, c2⟩, ?_, rfl⟩, q1⟩, fun id hid => ?_⟩
          · obtain ⟨l⟩ := arr
            match l, c3 with
            | [u], _ =>
              have := (c4 0 _ u rfl (by simp)).1
              rw [this, ← hEv]
              rfl
          · rcases List.mem_cons.1 hid with rfl | hid
            · exact ⟨_, hlk⟩
            · exact q2 id hid
        · cases ho
      · cases ho
  | .bc l :: ps, i, vs, y, B, R, ho, hB, hl, hv => by
    match vs, hl with
    | v :: vs, hl =>
      have hEv : E (pid i) = v := hv 0 _ v rfl rfl rfl
      simp only [outPs] at ho
      split at ho
      · rename_i rs hlk
        split at ho
        · rename_i x b J y1 B1 R1 h1 h2
          cases ho
          obtain ⟨q1, q2⟩ := out_rel h hA ps (i + 1) vs y1 B1 R1 h2 (fun k hk => hB k (List.mem_append.2 (.inr hk))) (by simpa using hl) (fun j p v hp hv' hpin => by
            rw [show i + 1 + j = i + (j + 1) from by omega]
            exact hv (j + 1) p v (by simpa using hp) (by simpa using hv') hpin)
          obtain ⟨g, T, arr, c1, c2, c3, c4⟩ := h.own _ _ hlk
          obtain ⟨p1, p2, p3⟩ := cellsIn_rel h (B0 := B0) l rs arr.toList x b J h1 (by simpa using c3) (fun i r u hi hu => c4 i r u hi (by simpa using hu)) (fun i hi => hB i (List.mem_append.2 (.inl hi)))
          rw [hEv] at c1
          refine ⟨⟨v, vs, g :: HCBlk l arr.toList, _, rfl, ?_, ⟨g, T, arr, ⟨c1, c2⟩, HCRel_mono hA p1, rfl⟩, q1⟩, fun id hid => ?_⟩
          · rw [List.flatMap_cons, List.flatMap_append, hEv, c1, p2]
            simp [oneBlk, blkOf]
          · rcases List.mem_cons.1 hid with rfl | hid
            · exact ⟨_, hlk⟩
            · rcases List.mem_append.1 hid with hid | hid
              · obtain ⟨b, hb, _⟩ := p3 id hid
                exact ⟨b, hb⟩
              · exact q2 id hid
        · cases ho
      · cases ho

theorem resPs_rel (h : RelE io w0 σ E a w) {okA : Nat → Prop} {B0 : List Nat} (hA : ∀ g, okb w.heap.size σ.own E B0 g → okA g) : ∀ (rs : List RK) (ds : List (RV N)) (us : List Value) (y : HRes N.ρ rs) (B R : List Nat), resPs σ rs ds = some (y, B, R) → (∀ k ∈ B, k ∈ B0) →
    us.length = ds.length → (∀ (i : Nat) r u, ds[i]? = some r → us[i]? = some u → RVRel w σ.own E r u) →
    ResRel w okA rs y us (R.flatMap fun id => oneBlk (E id)) ∧ ∀ id ∈ R, ∃ b, look σ.own id = some b
  | [], [], us, y, B, R, hr, hB, hl, hu => by
    cases hr
    rw [List.eq_nil_of_length_eq_zero hl]
    exact ⟨⟨rfl, rfl⟩, fun id hid => by cases hid⟩
  | [], _ :: _, us, y, B, R, hr, hB, hl, hu => by cases hr
  | .v t :: rs, [], us, y, B, R, hr, hB, hl, hu => by cases hr
  | .own el e :: rs, [], us, y, B, R, hr, hB, hl, hu => by cases hr
  | .v t :: rs, d :: ds, us, y, B, R, hr, hB, hl, hu => by
    match us, hl with
    | u :: us, hl =>
      have hu0 := hu 0 d u rfl rfl
      have hus : ∀ (i : Nat) r u, ds[i]? = some r → us[i]? = some u → RVRel w σ.own E r u := fun i r u hi hu' => hu (i + 1) r u (by simpa using hi) (by simpa using hu')
      simp only [resPs] at hr
      split at hr
      · rename_i x b y1 B1 R1 h1 h2
        cases hr
        obtain ⟨q1, q2⟩ := resPs_rel h hA rs ds us y1 B1 R h2 (fun k hk => hB k (List.mem_append.2 (.inr hk))) (by simpa using hl) hus
        obtain ⟨cs, k1, k2⟩ := h.toDen h1 hu0
        exact ⟨⟨_, _, [], _, rfl, rfl, ⟨⟨cs, Rep_mono (fun _ _ _ h => h) hA (Rep_more (fun k hk => hB k (List.mem_append.2 (.inl hk))) k1), k2⟩, rfl⟩, q1⟩, q2⟩
      · cases hr
  | .own el e :: rs, d :: ds, us, y, B, R, hr, hB, hl, hu => by
    match us, hl with
    | u :: us, hl =>
      have hev := hu 0 d u rfl rfl
      have hus : ∀ (i : Nat) r u, ds[i]? = some r → us[i]? = some u → RVRel w σ.own E r u := fun i r u hi hu' => hu (i + 1) r u (by simpa using hi) (by simpa using hu')
      simp only [resPs] at hr
      split at hr
      · rename_i _ j _
        split at hr
        · rename_i el' e' xs bs hlk
          obtain ⟨hel, hr⟩ := bif_none hr
          have hel : el' = el := by simpa using hel
          subst hel
          split at hr
          · rename_i xs' y1 B1 R1 h1 h2
            cases hr
            obtain ⟨et, rfl⟩ := castTy_some h1
            cases et
            obtain ⟨q1, q2⟩ := resPs_rel h hA rs ds us y1 B1 R1 h2 (fun k hk => hB k (List.mem_append.2 (.inr hk))) (by simpa using hl) hus
            obtain ⟨cells, c1, c2⟩ := ownAt_more (fun k hk => hB k (List.mem_append.2 (.inl hk))) (h.ownAt hlk)
            rw [← hev.1] at c1
            refine ⟨⟨_, _, oneBlk (E j), _, rfl, rfl, ⟨⟨cells, c1, RowC_mono (fun x cs hx => Rep_mono (fun _ _ _ h => h) hA hx) c2⟩, by rw [← hev.1]⟩, q1⟩, fun id hid => ?_⟩
            rcases List.mem_cons.1 hid with rfl | hid
            · exact ⟨_, hlk⟩
            · exact q2 id hid
          · cases hr
        · cases hr
      · split at hr
        · rename_i y1 B1 R1 h2
          cases hr
          obtain ⟨q1, q2⟩ := resPs_rel h hA rs ds us y1 B R h2 hB (by simpa using hl) hus
          have hev : u = .slice none 0 0 := hev
          refine ⟨⟨_, _, [], _, rfl, rfl, ⟨⟨[], ?_, rfl⟩, ?_⟩, q1⟩, q2⟩
          · show w.ownsRow 0 el (N.sz e) u 0 []
            rw [hev]
            exact ⟨by simp, .inl ⟨rfl, rfl⟩⟩
          · show [] = oneBlk u
            rw [hev]
            rfl
        · cases hr
      · cases hr

end Go.Eng
