/- The engine, part T: what a function takes and gives; calls. -/
import Derived.Test.YtgfklnmckakclaaGreatDoorEngS
set_option linter.unusedVariables false
set_option linter.unusedSimpArgs false
namespace Go.Eng

/-- A cell of a box: a value, or a row of the call's own. -/
inductive CK where
  | c (t : Ty)
  | o (el : TypeId) (e : Ty)
/-- A parameter: a value that is read; a row that is written; a box with a value; a box of single cells. -/
inductive PK where
  | v (t : Ty)
  | io (el : TypeId) (e : Ty)
  | bw (t : Ty)
  | bc (l : List CK)
  | fv (f : FuncId)
  | fb (f : FuncId)
/-- A result: a value; a new row. -/
inductive RK where
  | v (t : Ty)
  | own (el : TypeId) (e : Ty)

@[reducible] def CK.den (ρ : Nat → Type) : CK → Type
  | .c t => t.den ρ
  | .o _ e => List (e.den ρ)
@[reducible] def HC (ρ : Nat → Type) : List CK → Type
  | [] => Unit
  | c :: l => c.den ρ × HC ρ l
@[reducible] def PK.den (ρ : Nat → Type) : PK → Type
  | .v t => t.den ρ
  | .io _ e => List (e.den ρ)
  | .bw t => t.den ρ
  | .bc l => HC ρ l
  | .fv _ => Unit
  | .fb _ => Unit
@[reducible] def HIn (ρ : Nat → Type) : List PK → Type
  | [] => Unit
  | p :: ps => p.den ρ × HIn ρ ps
@[reducible] def HOut (ρ : Nat → Type) : List PK → Type
  | [] => Unit
  | .v _ :: ps => HOut ρ ps
  | .io _ e :: ps => List (e.den ρ) × HOut ρ ps
  | .bw t :: ps => t.den ρ × HOut ρ ps
  | .bc l :: ps => HC ρ l × HOut ρ ps
  | .fv _ :: ps => HOut ρ ps
  | .fb _ :: ps => Unit × HOut ρ ps
@[reducible] def RK.den (ρ : Nat → Type) : RK → Type
  | .v t => t.den ρ
  | .own _ e => List (e.den ρ)
@[reducible] def HRes (ρ : Nat → Type) : List RK → Type
  | [] => Unit
  | r :: rs => r.den ρ × HRes ρ rs

/-- A function as it is known to its callers. -/
structure Spec (N : Names) where
  ps : List PK
  rs : List RK
  R : Type
  f : HIn N.ρ ps → Option R
  out : R → HRes N.ρ rs × HOut N.ρ ps

variable {N : Names}

def oneBlk (v : Value) : List Nat := (blkOf v).toList

/-- A row of the call's own, laid in v. -/
def OwnAt (w : World) (ok : Nat → Prop) (el : TypeId) (e : Ty) (xs : List (e.den N.ρ)) (v : Value) : Prop := ∃ cells, w.ownsRow 0 el (N.sz e) v xs.length cells ∧ RowC (Rep w ok e) xs cells
def BoxAt (w : World) (v : Value) (g : Nat) (T : TypeId) (arr : Array Value) : Prop := v = .pointer (some ⟨g, 0, none⟩) ∧ w.heap[g]? = some (.cells arr T (0, 0))

def CKRel (w : World) (ok : Nat → Prop) : (c : CK) → c.den N.ρ → Value → Prop
  | .c t, x, u => Rep w ok t x [u]
  | .o el e, xs, u => OwnAt w ok el e xs u
def CKBlk : CK → Value → List Nat
  | .c _, _ => []
  | .o _ _, u => oneBlk u
def HCRel (w : World) (ok : Nat → Prop) : (l : List CK) → HC N.ρ l → List Value → Prop
  | [], _, us => us = []
  | c :: l, x, us => ∃ u rest, us = u :: rest ∧ CKRel w ok c x.1 u ∧ HCRel w ok l x.2 rest
def HCBlk : List CK → List Value → List Nat
  | c :: l, u :: us => CKBlk c u ++ HCBlk l us
  | _, _ => []

def PKRel (w : World) (ok : Nat → Prop) : (p : PK) → p.den N.ρ → Value → List Nat → Prop
  | .v t, x, v, bl => (∃ cs, Rep w ok t x cs ∧ AsV t v cs) ∧ bl = []
  | .io el e, xs, v, bl => OwnAt w ok el e xs v ∧ bl = oneBlk v
  | .bw t, x, v, bl => ∃ g T arr, BoxAt w v g T arr ∧ Rep w ok t x arr.toList ∧ bl = [g]
  | .bc l, x, v, bl => ∃ g T arr, BoxAt w v g T arr ∧ HCRel w ok l x arr.toList ∧ bl = g :: HCBlk l arr.toList
  | .fv f, x, v, bl => v = .func (.func f) #[] #[] ∧ bl = []
  | .fb f, x, v, bl => ∃ g T arr, BoxAt w v g T arr ∧ arr = #[.func (.func f) #[] #[v]] ∧ bl = [g]

def InRel (w : World) (ok : Nat → Prop) : (ps : List PK) → HIn N.ρ ps → List Value → List Nat → Prop
  | [], _, vs, bl => vs = [] ∧ bl = []
  | p :: ps, x, vs, bl => ∃ v rest b1 b2, vs = v :: rest ∧ bl = b1 ++ b2 ∧ PKRel w ok p x.1 v b1 ∧ InRel w ok ps x.2 rest b2

def OutRel (w : World) (ok : Nat → Prop) : (ps : List PK) → HOut N.ρ ps → List Value → List Nat → Prop
  | [], _, _, bl => bl = []
  | .v _ :: ps, x, vs, bl => OutRel w ok ps x vs.tail bl
  | .io el e :: ps, x, vs, bl => ∃ v rest b1 b2, vs = v :: rest ∧ bl = b1 ++ b2 ∧ PKRel w ok (.io el e) x.1 v b1 ∧ OutRel w ok ps x.2 rest b2
  | .bw t :: ps, x, vs, bl => ∃ v rest b1 b2, vs = v :: rest ∧ bl = b1 ++ b2 ∧ PKRel w ok (.bw t) x.1 v b1 ∧ OutRel w ok ps x.2 rest b2
  | .bc l :: ps, x, vs, bl => ∃ v rest b1 b2, vs = v :: rest ∧ bl = b1 ++ b2 ∧ PKRel w ok (.bc l) x.1 v b1 ∧ OutRel w ok ps x.2 rest b2
  | .fv _ :: ps, x, vs, bl => OutRel w ok ps x vs.tail bl
  | .fb f :: ps, x, vs, bl => ∃ v rest b1 b2, vs = v :: rest ∧ bl = b1 ++ b2 ∧ PKRel (N := N) w ok (.fb f) x.1 v b1 ∧ OutRel w ok ps x.2 rest b2

def RKRel (w : World) (ok : Nat → Prop) : (r : RK) → r.den N.ρ → Value → List Nat → Prop
  | .v t, x, v, bl => (∃ cs, Rep w ok t x cs ∧ AsV t v cs) ∧ bl = []
  | .own el e, xs, v, bl => OwnAt w ok el e xs v ∧ bl = oneBlk v
def ResRel (w : World) (ok : Nat → Prop) : (rs : List RK) → HRes N.ρ rs → List Value → List Nat → Prop
  | [], _, vs, bl => vs = [] ∧ bl = []
  | r :: rs, x, vs, bl => ∃ v rest b1 b2, vs = v :: rest ∧ bl = b1 ++ b2 ∧ RKRel w ok r x.1 v b1 ∧ ResRel w ok rs x.2 rest b2

def packV : List Value → Value
  | [v] => v
  | vs => .tuple vs.toArray

structure KeptB (bl : List Nat) (w w' : World) : Prop where
  os : w'.os = w.os
  tape : w'.tape = w.tape
  output : w'.output = w.output
  size : w.heap.size ≤ w'.heap.size
  block : ∀ g, g < w.heap.size → g ∉ bl → w'.heap[g]? = w.heap[g]?

/-- What may be looked into behind the call. -/
def okAfter (ok : Nat → Prop) (w w' : World) (bl bl2 : List Nat) (b : Nat) : Prop := b < w'.heap.size ∧ (ok b ∨ b ∈ bl ∨ w.heap.size ≤ b) ∧ b ∉ bl2

structure AfterCall (S : Spec N) (ok : Nat → Prop) (vs : List Value) (bl : List Nat) (w w' : World) (r : S.R) (us : List Value) (bl' rl : List Nat) : Prop where
  kept : KeptB bl w w'
  out : OutRel w' (okAfter ok w w' bl (bl' ++ rl)) S.ps (S.out r).2 vs bl'
  res : ResRel w' (okAfter ok w w' bl (bl' ++ rl)) S.rs (S.out r).1 us rl
  nodup : (bl' ++ rl).Nodup
  old : ∀ g ∈ bl' ++ rl, (g ∈ bl ∨ w.heap.size ≤ g) ∧ g < w'.heap.size

/-- The program's function f is what the spec says. -/
structure Good (P : Program) (f : FuncId) (S : Spec N) : Prop where
  enter : ∀ w args, (callFunc f args).run P w = .ok (.enter f args) w
  calls : ∀ (w : World) (ok : Nat → Prop) (x : HIn N.ρ S.ps) (vs : List Value) (bl : List Nat) (r : S.R), (∀ b, ok b → b < w.heap.size) → InRel w ok S.ps x vs bl → bl.Nodup → (∀ g ∈ bl, ¬ ok g ∧ g < w.heap.size) → S.f x = some r →
    Calls P f vs.toArray w fun e w' => ∃ us bl' rl, e = .returned (packV us) ∧ AfterCall S ok vs bl w w' r us bl' rl

/-! The caller's side. -/
def isNm : Ty → Bool
  | .nm _ => true
  | _ => false

def cellsIn (own : List (Nat × Blk N)) : (l : List CK) → List (RV N) → Option (HC N.ρ l × List Nat × List Nat)
  | [], [] => some ((), [], [])
  | .c t :: l, r :: rs => bif isNm t then none else match toDen own t r, cellsIn own l rs with
    | some (x, b), some (y, B, J) => some ((x, y), b ++ B, J)
    | _, _ => none
  | .o el e :: l, r :: rs => match r with
    | .own j => match look own j with
      | some (.row el' e' xs bs false) => bif el' == el then match castTy N (.sl e') (.sl e) xs, cellsIn own l rs with
        | some xs, some (y, B, J) => some ((xs, y), bs ++ B, j :: J)
        | _, _ => none
        else none
      | _ => none
    | _ => none
  | _, _ => none

/-- A box that holds the function f with this box. -/
def selfIs (f : FuncId) (id : Nat) : List (RV N) → Bool
  | [.fn f' [id']] => Nat.beq f' f && Nat.beq id' id
  | _ => false
theorem selfIs_spec {f : FuncId} {id : Nat} {rs : List (RV N)} (h : selfIs f id rs = true) : rs = [.fn f [id]] := by
  unfold selfIs at h
  split at h
  · simp only [Bool.and_eq_true] at h
    rw [Nat.eq_of_beq_eq_true h.1, Nat.eq_of_beq_eq_true h.2]
  · cases h
def plainFn (f : FuncId) : RV N → Bool
  | .fn f' [] => Nat.beq f' f
  | _ => false
theorem plainFn_spec {f : FuncId} {r : RV N} (h : plainFn f r = true) : r = .fn f [] := by
  unfold plainFn at h
  split at h
  · rw [Nat.eq_of_beq_eq_true h]
  · cases h

def callIn {ι : Type} (own : List (Nat × Blk N)) (ρ : ι → RV N) : (ps : List PK) → List ι → Option (HIn N.ρ ps × List Nat × List Nat × List Nat)
  | [], [] => some ((), [], [], [])
  | .v t :: ps, o :: os => match toDen own t (ρ o), callIn own ρ ps os with
    | some (x, b), some (y, B, D, U) => some ((x, y), b ++ B, D, U)
    | _, _ => none
  | .io el e :: ps, o :: os => match ρ o with
    | .own id => match look own id with
      | some (.row el' e' xs bs _) => bif el' == el then match castTy N (.sl e') (.sl e) xs, callIn own ρ ps os with
        | some xs, some (y, B, D, U) => some ((xs, y), bs ++ B, id :: D, U)
        | _, _ => none
        else none
      | _ => none
    | _ => none
  | .bw t :: ps, o :: os => match ρ o with
    | .bptr id 0 => match look own id with
      | some (.whole t' x bs) => match castTy N t' t x, callIn own ρ ps os with
        | some x, some (y, B, D, U) => some ((x, y), bs ++ B, id :: D, U)
        | _, _ => none
      | _ => none
    | _ => none
  | .bc l :: ps, o :: os => match ρ o with
    | .bptr id 0 => match look own id with
      | some (.cells rs) => match cellsIn own l rs, callIn own ρ ps os with
        | some (x, b, J), some (y, B, D, U) => some ((x, y), b ++ B, id :: (J ++ D), J ++ U)
        | _, _ => none
      | _ => none
    | _ => none
  | .fv f :: ps, o :: os => bif plainFn f (ρ o) then match callIn own ρ ps os with
    | some (y, B, D, U) => some (((), y), B, D, U)
    | none => none
    else none
  | .fb f :: ps, o :: os => match ρ o with
    | .bptr id 0 => match look own id with
      | some (.cells rs) => bif selfIs f id rs then match callIn own ρ ps os with
        | some (y, B, D, U) => some (((), y), B, id :: D, U)
        | none => none
        else none
      | _ => none
    | _ => none
  | _, _ => none

def cellsVal (B : List Nat) : (l : List CK) → List (RV N) → HC N.ρ l → List (RV N)
  | .c t :: l, _ :: rs, x => ofDen t x.1 B :: cellsVal B l rs x.2
  | .o _ _ :: l, r :: rs, x => r :: cellsVal B l rs x.2
  | _, _, _ => []
def cellsNew (B : List Nat) : (l : List CK) → List (RV N) → HC N.ρ l → List (Nat × Blk N)
  | .c _ :: l, _ :: rs, x => cellsNew B l rs x.2
  | .o el e :: l, r :: rs, x => match r with
    | .own j => (j, .row el e x.1 B false) :: cellsNew B l rs x.2
    | _ => []
  | _, _, _ => []

def callNew {ι : Type} (own : List (Nat × Blk N)) (ρ : ι → RV N) (B : List Nat) : (ps : List PK) → List ι → HOut N.ρ ps → List (Nat × Blk N)
  | .v _ :: ps, _ :: os, x => callNew own ρ B ps os x
  | .io el e :: ps, o :: os, x => match ρ o with
    | .own id => match look own id with
      | some (.row _ _ _ _ p) => (id, .row el e x.1 B p) :: callNew own ρ B ps os x.2
      | _ => []
    | _ => []
  | .bw t :: ps, o :: os, x => match ρ o with
    | .bptr id _ => (id, .whole t x.1 B) :: callNew own ρ B ps os x.2
    | _ => []
  | .bc l :: ps, o :: os, x => match ρ o with
    | .bptr id _ => match look own id with
      | some (.cells rs) => (id, .cells (cellsVal B l rs x.1)) :: (cellsNew B l rs x.1 ++ callNew own ρ B ps os x.2)
      | _ => []
    | _ => []
  | .fv _ :: ps, _ :: os, x => callNew own ρ B ps os x
  | .fb f :: ps, o :: os, x => match ρ o with
    | .bptr id _ => (id, .cells [.fn f [id]]) :: callNew own ρ B ps os x.2
    | _ => []
  | _, _, _ => []

def resSlots (B : List Nat) (d : Nat) : (rs : List RK) → Nat → HRes N.ρ rs → List (RV N)
  | [], _, _ => []
  | .v t :: rs, j, x => ofDen t x.1 B :: resSlots B d rs (j + 1) x.2
  | .own _ _ :: rs, j, x => .own (1000 + d + 10000 * j) :: resSlots B d rs (j + 1) x.2
def resNew (B : List Nat) (d : Nat) : (rs : List RK) → Nat → HRes N.ρ rs → List (Nat × Blk N)
  | [], _, _ => []
  | .v _ :: rs, j, x => resNew B d rs (j + 1) x.2
  | .own el e :: rs, j, x => (1000 + d + 10000 * j, .row el e x.1 B false) :: resNew B d rs (j + 1) x.2
def resIds (d : Nat) : List RK → Nat → List Nat
  | [], _ => []
  | .v _ :: rs, j => resIds d rs (j + 1)
  | .own _ _ :: rs, j => (1000 + d + 10000 * j) :: resIds d rs (j + 1)

def nodupB : List Nat → Bool
  | [] => true
  | i :: r => !r.contains i && nodupB r
theorem nodupB_spec : ∀ {l : List Nat}, nodupB l = true → l.Nodup
  | [], _ => List.nodup_nil
  | i :: r, h => by
    simp only [nodupB, Bool.and_eq_true, Bool.not_eq_true'] at h
    exact List.nodup_cons.2 ⟨contains_false h.1, nodupB_spec h.2⟩

def packS : List (RV N) → Slot N
  | [r] => .one r
  | l => .tup l

def havR (D U : List Nat) (σ : St N) (new : List (Nat × Blk N)) : St N :=
  match D with
  | [] => { σ with own := insAll new σ.own }
  | D => { regs := σ.regs.map (Slot.map (killD D U)), own := insAll new (delL D (mapO (killDB D U) σ.own)) }

def freshIds (own : List (Nat × Blk N)) : List Nat → Bool
  | [] => true
  | i :: r => (match look own i with | none => true | some _ => false) && freshIds own r

def evCall {β ι : Type} (S : Spec N) (σ : St N) (ρ : ι → RV N) (os : List ι) (dst : Option Nat) (k : Slot N → St N → Option β) : Option β :=
  match callIn σ.own ρ S.ps os with
  | none => none
  | some (x, B, D, U) =>
    bif nodupB D && !meets D B && noBsD σ.own D && freshIds σ.own (resIds (dst.getD 0) S.rs 0) then
      (S.f x).bind fun r =>
        k (packS (resSlots B (dst.getD 0) S.rs 0 (S.out r).1)) (havR D U σ (callNew σ.own ρ B S.ps os (S.out r).2 ++ resNew B (dst.getD 0) S.rs 0 (S.out r).1))
    else none

end Go.Eng
