/- The engine, part T: what a function takes and gives; calls.
The engine, part U: a call, as its caller sees it.
The engine, part V: what a call leaves behind.
The engine, part VM: maps of plain keys and plain values.
The engine, part W: one operation, and a row of operations. -/
import Derived.Test.YtenjolapmchcmaaGreatDoorEngine2
import Derived.MapFrom
set_option linter.unusedVariables false
set_option linter.unusedSimpArgs false
namespace Go.Eng
inductive CK where
 | c (t : Ty)
 | o (el : TypeId) (e : Ty)
 | f (f : FuncId) (js : List Nat)
inductive PK where
 | v (t : Ty)
 | io (el : TypeId) (e : Ty)
 | bw (t : Ty)
 | bc (l : List CK)
 | fv (f : FuncId)
 | fb (f : FuncId)
 | ag (n : Nat) (l : List CK)
 | go (el : TypeId) (e : Ty)
 | fn (f : FuncId) (js : List Nat)
 | rp (t : Ty)
inductive RK where
 | v (t : Ty)
 | own (el : TypeId) (e : Ty)
 | ag (n : Nat) (l : List CK)
@[reducible] def CK.den (ρ : Nat → Type) : CK → Type
 | .c t => t.den ρ
 | .o _ e => List (e.den ρ)
 | .f _ _ => Unit
@[reducible] def HC (ρ : Nat → Type) : List CK → Type
 | [] => Unit
 | c :: l => c.den ρ × HC ρ l
@[reducible] def PK.den (ρ : Nat → Type) : PK → Type
 | .v t => t.den ρ
 | .io _ e => List (e.den ρ)
 | .bw t => t.den ρ
 | .bc l => HC ρ l
 | .fv _ => Unit
 | .fb _ => Unit
 | .ag _ l => HC ρ l
 | .go _ e => List (e.den ρ)
 | .fn _ _ => Unit
 | .rp t => t.den ρ
@[reducible] def HIn (ρ : Nat → Type) : List PK → Type
 | [] => Unit
 | p :: ps => p.den ρ × HIn ρ ps
@[reducible] def HOut (ρ : Nat → Type) : List PK → Type
 | [] => Unit
 | .v _ :: ps => HOut ρ ps
 | .io _ e :: ps => List (e.den ρ) × HOut ρ ps
 | .bw t :: ps => t.den ρ × HOut ρ ps
 | .bc l :: ps => HC ρ l × HOut ρ ps
 | .fv _ :: ps => HOut ρ ps
 | .fb _ :: ps => Unit × HOut ρ ps
 | .ag _ _ :: ps => HOut ρ ps
 | .go _ _ :: ps => HOut ρ ps
 | .fn _ _ :: ps => HOut ρ ps
 | .rp _ :: ps => HOut ρ ps
@[reducible] def RK.den (ρ : Nat → Type) : RK → Type
 | .v t => t.den ρ
 | .own _ e => List (e.den ρ)
 | .ag _ l => HC ρ l
@[reducible] def HRes (ρ : Nat → Type) : List RK → Type
 | [] => Unit
 | r :: rs => r.den ρ × HRes ρ rs
structure Spec (N : Names) where
 ps : List PK
 rs : List RK
 R : Type
 f : HIn N.ρ ps → Option R
 out : R → HRes N.ρ rs × HOut N.ρ ps
 gh : Nat
variable {N : Names}
def oneBlk (v : Value) : List Nat := (blkOf v).toList
def OwnAt (w : World) (ok : Nat → Prop) (el : TypeId) (e : Ty) (xs : List (e.den N.ρ)) (v : Value) : Prop := ∃ cells, ((v = .slice none 0 0 ∨ el < tagM) ∧ w.ownsRow 0 el (N.sz e) v xs.length cells) ∧ RowC (Rep w ok e) xs cells
def BoxAt (w : World) (v : Value) (g : Nat) (T : TypeId) (arr : Array Value) : Prop := v = .pointer (some ⟨g, 0, none⟩) ∧ w.heap[g]? = some (.cells arr T (0, 0))
def closV (vs0 : List Value) (f : FuncId) (js : List Nat) : Value := .func (.func f) #[] (js.map fun j => vs0.getD j undef).toArray
def CKRel (w : World) (ok : Nat → Prop) (vs0 : List Value) : (c : CK) → c.den N.ρ → Value → Prop
 | .c t, x, u => Rep w ok t x [u]
 | .o el e, xs, u => OwnAt w ok el e xs u
 | .f f js, _, u => u = closV vs0 f js
def CKBlk : CK → Value → List Nat
 | .c _, _ => []
 | .o _ _, u => oneBlk u
 | .f _ _, _ => []
def HCRel (w : World) (ok : Nat → Prop) (vs0 : List Value) : (l : List CK) → HC N.ρ l → List Value → Prop
 | [], _, us => us = []
 | c :: l, x, us => ∃ u rest, us = u :: rest ∧ CKRel w ok vs0 c x.1 u ∧ HCRel w ok vs0 l x.2 rest
def HCBlk : List CK → List Value → List Nat
 | c :: l, u :: us => CKBlk c u ++ HCBlk l us
 | _, _ => []
def PKRel (w : World) (ok : Nat → Prop) (vs0 : List Value) : (p : PK) → p.den N.ρ → Value → List Nat → Prop
 | .v t, x, v, bl => (∃ cs, Rep w ok t x cs ∧ AsV t v cs) ∧ bl = []
 | .io el e, xs, v, bl => OwnAt w ok el e xs v ∧ bl = oneBlk v
 | .bw t, x, v, bl => ∃ g T arr, BoxAt w v g T arr ∧ Rep w ok t x arr.toList ∧ bl = [g]
 | .bc l, x, v, bl => ∃ g T arr, BoxAt w v g T arr ∧ HCRel w ok vs0 l x arr.toList ∧ bl = g :: HCBlk l arr.toList
 | .fv f, x, v, bl => v = .func (.func f) #[] #[] ∧ bl = []
 | .fb f, x, v, bl => ∃ g T arr, BoxAt w v g T arr ∧ arr = #[.func (.func f) #[] #[v]] ∧ bl = [g]
 | .ag _ l, x, v, bl => ∃ us : List Value, v = .agg us.toArray ∧ HCRel w ok vs0 l x us ∧ bl = HCBlk l us
 | .go el e, xs, v, bl => OwnAt w ok el e xs v ∧ bl = oneBlk v
 | .fn f js, x, v, bl => v = closV vs0 f js ∧ bl = []
 | .rp t, x, v, bl => (∃ ad cs, v = .pointer (some ad) ∧ ok ad.block ∧ Rep w ok t x cs ∧ ∀ j u, cs[j]? = some u → w.cell? (ad.add j) = some u) ∧ bl = []
def InRel (w : World) (ok : Nat → Prop) (vs0 : List Value) : (ps : List PK) → HIn N.ρ ps → List Value → List Nat → Prop
 | [], _, vs, bl => vs = [] ∧ bl = []
 | p :: ps, x, vs, bl => ∃ v rest b1 b2, vs = v :: rest ∧ bl = b1 ++ b2 ∧ PKRel w ok vs0 p x.1 v b1 ∧ InRel w ok vs0 ps x.2 rest b2
def OutRel (w : World) (ok : Nat → Prop) (vs0 : List Value) : (ps : List PK) → HOut N.ρ ps → List Value → List Nat → Prop
 | [], _, _, bl => bl = []
 | .v _ :: ps, x, vs, bl => OutRel w ok vs0 ps x vs.tail bl
 | .io el e :: ps, x, vs, bl => ∃ v rest b1 b2, vs = v :: rest ∧ bl = b1 ++ b2 ∧ PKRel w ok vs0 (.io el e) x.1 v b1 ∧ OutRel w ok vs0 ps x.2 rest b2
 | .bw t :: ps, x, vs, bl => ∃ v rest b1 b2, vs = v :: rest ∧ bl = b1 ++ b2 ∧ PKRel w ok vs0 (.bw t) x.1 v b1 ∧ OutRel w ok vs0 ps x.2 rest b2
 | .bc l :: ps, x, vs, bl => ∃ v rest b1 b2, vs = v :: rest ∧ bl = b1 ++ b2 ∧ PKRel w ok vs0 (.bc l) x.1 v b1 ∧ OutRel w ok vs0 ps x.2 rest b2
 | .fv _ :: ps, x, vs, bl => OutRel w ok vs0 ps x vs.tail bl
 | .fb f :: ps, x, vs, bl => ∃ v rest b1 b2, vs = v :: rest ∧ bl = b1 ++ b2 ∧ PKRel (N := N) w ok vs0 (.fb f) x.1 v b1 ∧ OutRel w ok vs0 ps x.2 rest b2
 | .ag _ _ :: ps, x, vs, bl => OutRel w ok vs0 ps x vs.tail bl
 | .go _ _ :: ps, x, vs, bl => OutRel w ok vs0 ps x vs.tail bl
 | .fn _ _ :: ps, x, vs, bl => OutRel w ok vs0 ps x vs.tail bl
 | .rp _ :: ps, x, vs, bl => OutRel w ok vs0 ps x vs.tail bl
def RKRel (w : World) (ok : Nat → Prop) : (r : RK) → r.den N.ρ → Value → List Nat → Prop
 | .v t, x, v, bl => (∃ cs, Rep w ok t x cs ∧ AsV t v cs) ∧ bl = []
 | .own el e, xs, v, bl => OwnAt w ok el e xs v ∧ bl = oneBlk v
 | .ag _ l, x, v, bl => ∃ us : List Value, v = .agg us.toArray ∧ HCRel w ok [] l x us ∧ bl = HCBlk l us
def ResRel (w : World) (ok : Nat → Prop) : (rs : List RK) → HRes N.ρ rs → List Value → List Nat → Prop
 | [], _, vs, bl => vs = [] ∧ bl = []
 | r :: rs, x, vs, bl => ∃ v rest b1 b2, vs = v :: rest ∧ bl = b1 ++ b2 ∧ RKRel w ok r x.1 v b1 ∧ ResRel w ok rs x.2 rest b2
def packV : List Value → Value
 | [v] => v
 | vs => .tuple vs.toArray
structure KeptB (bl : List Nat) (w w' : World) : Prop where
 os : w'.os = w.os
 tape : w'.tape = w.tape
 output : w'.output = w.output
 size : w.heap.size ≤ w'.heap.size
 block : ∀ g, g < w.heap.size → g ∉ bl → w'.heap[g]? = w.heap[g]?
def okAfter (ok : Nat → Prop) (w w' : World) (bl bl2 : List Nat) (b : Nat) : Prop := b < w'.heap.size ∧ (ok b ∨ b ∈ bl ∨ w.heap.size ≤ b) ∧ b ∉ bl2
structure AfterCall (S : Spec N) (ok : Nat → Prop) (vs : List Value) (bl : List Nat) (w w' : World) (r : S.R) (us : List Value) (bl' rl : List Nat) : Prop where
 kept : KeptB bl w w'
 out : OutRel w' (okAfter ok w w' bl (bl' ++ rl)) vs S.ps (S.out r).2 vs bl'
 res : ResRel w' (okAfter ok w w' bl (bl' ++ rl)) S.rs (S.out r).1 us rl
 nodup : (bl' ++ rl).Nodup
 old : ∀ g ∈ bl' ++ rl, (g ∈ bl ∨ w.heap.size ≤ g) ∧ g < w'.heap.size
structure Good (P : Program) (f : FuncId) (S : Spec N) : Prop where
 enter : ∀ w args, (callFunc f args).run P w = .ok (.enter f args) w
 calls : ∀ (w : World) (ok : Nat → Prop) (x : HIn N.ρ S.ps) (vs : List Value) (bl : List Nat) (r : S.R), (∀ b, ok b → b < w.heap.size) → InRel w ok vs S.ps x vs bl → bl.Nodup → (∀ g ∈ bl, ¬ ok g ∧ g < w.heap.size) → S.f x = some r →
  Calls P f (vs.take (S.ps.length - S.gh)).toArray w fun e w' => ∃ us bl' rl, e = .returned (packV us) ∧ AfterCall S ok vs bl w w' r us bl' rl
/-! The caller's side. -/
def isNm : Ty → Bool
 | .nm _ => true
 | _ => false
def cellsIn (fk : FuncId → List Nat → RV N → Bool) (own : List (Nat × Blk N)) : (l : List CK) → List (RV N) → Option (HC N.ρ l × List Nat × List Nat)
 | [], [] => some ((), [], [])
 | .c t :: l, r :: rs => bif isNm t then none else match toDen own t r, cellsIn fk own l rs with
  | some (x, b), some (y, B, J) => some ((x, y), b ++ B, J)
  | _, _ => none
 | .o el e :: l, r :: rs => match r with
  | .own j => match look own j with
   | some (.row el' e' xs bs false) => bif eqB el' el then match castTy N (.sl e') (.sl e) xs, cellsIn fk own l rs with
    | some xs, some (y, B, J) => some ((xs, y), bs ++ B, j :: J)
    | _, _ => none
    else none
   | _ => none
  | _ => none
 | .f f js :: l, r :: rs => bif fk f js r then match cellsIn fk own l rs with
  | some (y, B, J) => some (((), y), B, J)
  | none => none
  else none
 | _, _ => none
def capsAre {ι : Type} (ρ : ι → RV N) (os0 : List ι) : List Nat → List Nat → Bool
 | [], [] => true
 | j :: js, c :: cs => (match os0[j]? with
  | some o => match ρ o with
   | .bptr id 0 => Nat.beq id c
   | _ => false
  | none => false) && capsAre ρ os0 js cs
 | _, _ => false
def fnIs {ι : Type} (ρ : ι → RV N) (os0 : List ι) (f : FuncId) (js : List Nat) : RV N → Bool
 | .fn f' caps => Nat.beq f' f && capsAre ρ os0 js caps
 | _ => false
def selfIs (f : FuncId) (id : Nat) : List (RV N) → Bool
 | [.fn f' [id']] => Nat.beq f' f && Nat.beq id' id
 | _ => false
theorem selfIs_spec {f : FuncId} {id : Nat} {rs : List (RV N)} (h : selfIs f id rs = true) : rs = [.fn f [id]] := by
 unfold selfIs at h
 split at h
 ·simp only [Bool.and_eq_true] at h
  rw [Nat.eq_of_beq_eq_true h.1, Nat.eq_of_beq_eq_true h.2]
 ·cases h
def plainFn (f : FuncId) : RV N → Bool
 | .fn f' [] => Nat.beq f' f
 | _ => false
theorem plainFn_spec {f : FuncId} {r : RV N} (h : plainFn f r = true) : r = .fn f [] := by
 unfold plainFn at h
 split at h
 ·rw [Nat.eq_of_beq_eq_true h]
 ·cases h
def readK (t : Ty) (id : Nat) : Slot N → Option (t.den N.ρ × List Nat)
 | .one (.data t' y bs) => (castTy N t' t y).map fun y => (y, id :: bs)
 | _ => none
def readP (own : List (Nat × Blk N)) (t : Ty) (r : RV N) : Option (t.den N.ρ × List Nat) :=
 match r with
 | .bptr id 0 => match look own id with
  | some (.whole t' x bs) => (castTy N t' t x).map fun y => (y, id :: bs)
  | some (.cells l) => match impl own 8 t l with
   | some (y, bs) => some (y, id :: bs)
   | none => none
  | _ => none
 | .optr id 0 0 => match look own id with
  | some (.row e' T' xs bs _) => evLoadArr t e' T' xs bs 0 0 fun s _ => readK t id s
  | _ => none
 | .sptr t' x bs => (castTy N t' t x).map fun y => (y, bs)
 | _ => none
def callIn {ι : Type} (own : List (Nat × Blk N)) (ρ : ι → RV N) (os0 : List ι) : (ps : List PK) → List ι → Option (HIn N.ρ ps × List Nat × List Nat × List Nat)
 | [], [] => some ((), [], [], [])
 | .v t :: ps, o :: os => match toDen own t (ρ o), callIn own ρ os0 ps os with
  | some (x, b), some (y, B, D, U) => some ((x, y), b ++ B, D, U)
  | _, _ => none
 | .io el e :: ps, o :: os => match ρ o with
  | .own id => match look own id with
   | some (.row el' e' xs bs _) => bif eqB el' el then match castTy N (.sl e') (.sl e) xs, callIn own ρ os0 ps os with
    | some xs, some (y, B, D, U) => some ((xs, y), bs ++ B, id :: D, U)
    | _, _ => none
    else none
   | _ => none
  | _ => none
 | .bw t :: ps, o :: os => match ρ o with
  | .bptr id 0 => match look own id with
   | some (.whole t' x bs) => match castTy N t' t x, callIn own ρ os0 ps os with
    | some x, some (y, B, D, U) => some ((x, y), bs ++ B, id :: D, U)
    | _, _ => none
   | _ => none
  | _ => none
 | .bc l :: ps, o :: os => match ρ o with
  | .bptr id 0 => match look own id with
   | some (.cells rs) => match cellsIn (fnIs ρ os0) own l rs, callIn own ρ os0 ps os with
    | some (x, b, J), some (y, B, D, U) => some ((x, y), b ++ B, id :: (J ++ D), J ++ U)
    | _, _ => none
   | _ => none
  | _ => none
 | .fv f :: ps, o :: os => bif plainFn f (ρ o) then match callIn own ρ os0 ps os with
  | some (y, B, D, U) => some (((), y), B, D, U)
  | none => none
  else none
 | .fb f :: ps, o :: os => match ρ o with
  | .bptr id 0 => match look own id with
   | some (.cells rs) => bif selfIs f id rs then match callIn own ρ os0 ps os with
    | some (y, B, D, U) => some (((), y), B, id :: D, U)
    | none => none
    else none
   | _ => none
  | _ => none
 | .ag n l :: ps, o :: os => match ρ o with
  | .mp id => match look own id with
   | some (.vals m rs) => bif Nat.beq m n then match cellsIn (fnIs ρ os0) own l rs, callIn own ρ os0 ps os with
    | some (x, b, J), some (y, B, D, U) => some ((x, y), b ++ B, J ++ D, J ++ U)
    | _, _ => none
    else none
   | _ => none
  | _ => none
 | .go el e :: ps, o :: os => match ρ o with
  | .own id => match look own id with
   | some (.row el' e' xs bs false) => bif eqB el' el then match castTy N (.sl e') (.sl e) xs, callIn own ρ os0 ps os with
    | some xs, some (y, B, D, U) => some ((xs, y), bs ++ B, id :: D, id :: U)
    | _, _ => none
    else none
   | _ => none
  | .nil => match callIn own ρ os0 ps os with
   | some (y, B, D, U) => some (([], y), B, D, U)
   | none => none
  | _ => none
 | .fn f js :: ps, o :: os => bif fnIs ρ os0 f js (ρ o) then match callIn own ρ os0 ps os with
  | some (y, B, D, U) => some (((), y), B, D, U)
  | none => none
  else none
 | .rp t :: ps, o :: os => match readP own t (ρ o), callIn own ρ os0 ps os with
  | some (x, b), some (y, B, D, U) => some ((x, y), b ++ B, D, U)
  | _, _ => none
 | _, _ => none
def cellsVal (B : List Nat) : (l : List CK) → List (RV N) → HC N.ρ l → List (RV N)
 | .c t :: l, _ :: rs, x => ofDen t x.1 (flatB N t B) :: cellsVal B l rs x.2
 | .o _ _ :: l, r :: rs, x => r :: cellsVal B l rs x.2
 | .f _ _ :: l, r :: rs, x => r :: cellsVal B l rs x.2
 | _, _, _ => []
def cellsNew (B : List Nat) : (l : List CK) → List (RV N) → HC N.ρ l → List (Nat × Blk N)
 | .c _ :: l, _ :: rs, x => cellsNew B l rs x.2
 | .o el e :: l, r :: rs, x => match r with
  | .own j => (j, .row el e x.1 (flatB N e B) false) :: cellsNew B l rs x.2
  | _ => []
 | .f _ _ :: l, _ :: rs, x => cellsNew B l rs x.2
 | _, _, _ => []
def callNew {ι : Type} (own : List (Nat × Blk N)) (ρ : ι → RV N) (B : List Nat) : (ps : List PK) → List ι → HOut N.ρ ps → List (Nat × Blk N)
 | .v _ :: ps, _ :: os, x => callNew own ρ B ps os x
 | .io el e :: ps, o :: os, x => match ρ o with
  | .own id => match look own id with
   | some (.row _ _ _ _ p) => (id, .row el e x.1 (flatB N e B) p) :: callNew own ρ B ps os x.2
   | _ => []
  | _ => []
 | .bw t :: ps, o :: os, x => match ρ o with
  | .bptr id _ => (id, .whole t x.1 B) :: callNew own ρ B ps os x.2
  | _ => []
 | .bc l :: ps, o :: os, x => match ρ o with
  | .bptr id _ => match look own id with
   | some (.cells rs) => (id, .cells (cellsVal B l rs x.1)) :: (cellsNew B l rs x.1 ++ callNew own ρ B ps os x.2)
   | _ => []
  | _ => []
 | .fv _ :: ps, _ :: os, x => callNew own ρ B ps os x
 | .fb f :: ps, o :: os, x => match ρ o with
  | .bptr id _ => (id, .cells [.fn f [id]]) :: callNew own ρ B ps os x.2
  | _ => []
 | .ag _ _ :: ps, _ :: os, x => callNew own ρ B ps os x
 | .go _ _ :: ps, _ :: os, x => callNew own ρ B ps os x
 | .fn _ _ :: ps, _ :: os, x => callNew own ρ B ps os x
 | .rp _ :: ps, _ :: os, x => callNew own ρ B ps os x
 | _, _, _ => []
def rid (d j i : Nat) : Nat := 1000 + d + 10000 * j + 1000000 * (i + 1)
def resCells (B : List Nat) (d j : Nat) : Nat → (l : List CK) → HC N.ρ l → List (RV N)
 | _, [], _ => []
 | i, .c t :: l, x => (bif isNm t then .undef else ofDen t x.1 (flatB N t B)) :: resCells B d j (i + 1) l x.2
 | i, .o _ _ :: l, x => .own (rid d j i) :: resCells B d j (i + 1) l x.2
 | i, .f f js :: l, x => (match js with
  | [] => .fn f []
  | _ => .undef) :: resCells B d j (i + 1) l x.2
def resCellNew (B : List Nat) (d j : Nat) : Nat → (l : List CK) → HC N.ρ l → List (Nat × Blk N)
 | _, [], _ => []
 | i, .c _ :: l, x => resCellNew B d j (i + 1) l x.2
 | i, .o el e :: l, x => (rid d j i, .row el e x.1 (flatB N e B) false) :: resCellNew B d j (i + 1) l x.2
 | i, .f _ _ :: l, x => resCellNew B d j (i + 1) l x.2
def resCellIds (d j : Nat) : Nat → List CK → List Nat
 | _, [] => []
 | i, .c _ :: l => resCellIds d j (i + 1) l
 | i, .o _ _ :: l => rid d j i :: resCellIds d j (i + 1) l
 | i, .f _ _ :: l => resCellIds d j (i + 1) l
def resSlots (B : List Nat) (d : Nat) : (rs : List RK) → Nat → HRes N.ρ rs → List (RV N)
 | [], _, _ => []
 | .v t :: rs, j, x => ofDen t x.1 (flatB N t B) :: resSlots B d rs (j + 1) x.2
 | .own _ _ :: rs, j, x => .own (1000 + d + 10000 * j) :: resSlots B d rs (j + 1) x.2
 | .ag _ _ :: rs, j, x => .mp (1000 + d + 10000 * j) :: resSlots B d rs (j + 1) x.2
def resNew (B : List Nat) (d : Nat) : (rs : List RK) → Nat → HRes N.ρ rs → List (Nat × Blk N)
 | [], _, _ => []
 | .v _ :: rs, j, x => resNew B d rs (j + 1) x.2
 | .own el e :: rs, j, x => (1000 + d + 10000 * j, .row el e x.1 (flatB N e B) false) :: resNew B d rs (j + 1) x.2
 | .ag n l :: rs, j, x => (1000 + d + 10000 * j, .vals n (resCells B d j 0 l x.1)) :: (resCellNew B d j 0 l x.1 ++ resNew B d rs (j + 1) x.2)
def resIds (d : Nat) : List RK → Nat → List Nat
 | [], _ => []
 | .v _ :: rs, j => resIds d rs (j + 1)
 | .own _ _ :: rs, j => (1000 + d + 10000 * j) :: resIds d rs (j + 1)
 | .ag _ l :: rs, j => (1000 + d + 10000 * j) :: (resCellIds d j 0 l ++ resIds d rs (j + 1))
def nodupB : List Nat → Bool
 | [] => true
 | i :: r => !r.contains i && nodupB r
theorem nodupB_spec : ∀ {l : List Nat}, nodupB l = true → l.Nodup
 | [], _ => List.nodup_nil
 | i :: r, h => by
  simp only [nodupB, Bool.and_eq_true, Bool.not_eq_true'] at h
  exact List.nodup_cons.2 ⟨contains_false h.1, nodupB_spec h.2⟩
def packS : List (RV N) → Slot N
 | [r] => .one r
 | l => .tup l
def havR (D U : List Nat) (σ : St N) (new : List (Nat × Blk N)) : St N :=
 match D with
 | [] => { σ with own := insAll new σ.own }
 | D => { regs := σ.regs.map (Slot.map (killD D U)), own := insAll new (delL D (mapO (killDB D U) σ.own)) }
def evCall {β ι : Type} (S : Spec N) (σ : St N) (ρ : ι → RV N) (os : List ι) (dst : Option Nat) (k : Slot N → St N → Option β) : Option β :=
 match callIn σ.own ρ os S.ps os with
 | none => none
 | some (x, B, D, U) =>
  bif nodupB D && !meets D B && noBsD σ.own D && freshIds σ.own (resIds (dst.getD 0) S.rs 0) && nodupB (resIds (dst.getD 0) S.rs 0) then
   (S.f x).bind fun r =>
    k (packS (resSlots B (dst.getD 0) S.rs 0 (S.out r).1)) (havR D U σ (callNew σ.own ρ B S.ps os (S.out r).2 ++ resNew B (dst.getD 0) S.rs 0 (S.out r).1))
  else none
end Go.Eng

set_option linter.unusedVariables false
set_option linter.unusedSimpArgs false
namespace Go.Eng
variable {N : Names} {io : Io} {w0 w w' : World} {σ : St N} {E : Env} {a : Act} {P : Program}
theorem ownAt_more {own : List (Nat × Blk N)} {bs bs' : List Nat} (hs : ∀ i ∈ bs, i ∈ bs') {el : TypeId} {e : Ty} {xs : List (e.den N.ρ)} {v : Value} (h : OwnAt w (okb w.heap.size own E bs) el e xs v) : OwnAt w (okb w.heap.size own E bs') el e xs v := by
 obtain ⟨cells, h1, h2⟩ := h
 exact ⟨cells, h1, RowC_mono (fun x cs hx => Rep_more hs hx) h2⟩
theorem RelE.ownAt (h : RelE io w0 σ E a w) {id : Nat} {el : TypeId} {e : Ty} {xs : List (e.den N.ρ)} {bs : List Nat} {p : Bool} (hl : look σ.own id = some (.row el e xs bs p)) (hlt : el < tagM) : OwnAt w (okb w.heap.size σ.own E bs) el e xs (E id) := by
 obtain ⟨cells, h1, h2⟩ := h.own id _ hl
 exact ⟨cells, ⟨.inr hlt, h1.strict hlt⟩, h2⟩
theorem cellsIn_rel (h : RelE io w0 σ E a w) {B0 : List Nat} {fk : FuncId → List Nat → RV N → Bool} {vs0 : List Value} (hfk : ∀ f js r u, fk f js r = true → RVRel w σ.own E r u → u = closV vs0 f js) : ∀ (l : List CK) (rs : List (RV N)) (us : List Value) (x : HC N.ρ l) (B J : List Nat), cellsIn fk σ.own l rs = some (x, B, J) → us.length = rs.length →
  (∀ (i : Nat) r u, rs[i]? = some r → us[i]? = some u → RVRel w σ.own E r u) → (∀ i ∈ B, i ∈ B0) →
  HCRel w (okb w.heap.size σ.own E B0) vs0 l x us ∧ HCBlk l us = J.flatMap (fun j => oneBlk (E j)) ∧ ∀ j ∈ J, ∃ b, look σ.own j = some b ∧ b.pinned = false
 | [], [], us, x, B, J, hc, hl, hr, hB => by
  cases hc
  have : us = [] := List.eq_nil_of_length_eq_zero hl
  subst this
  exact ⟨rfl, rfl, (fun j hj => by cases hj)⟩
 | [], _ :: _, us, x, B, J, hc, hl, hr, hB => by cases hc
 | .c t :: l, [], us, x, B, J, hc, hl, hr, hB => by cases hc
 | .o el e :: l, [], us, x, B, J, hc, hl, hr, hB => by cases hc
 | .f f js :: l, [], us, x, B, J, hc, hl, hr, hB => by cases hc
 | .f f js :: l, r :: rs, us, x, B, J, hc, hl, hr, hB => by
  simp only [cellsIn] at hc
  obtain ⟨hf, hc⟩ := bif_none hc
  split at hc
  ·rename_i y B1 J1 h2
   cases hc
   match us, hl with
   | u :: us, hl =>
    have hru := hr 0 r u rfl rfl
    obtain ⟨q1, q2, q3⟩ := cellsIn_rel h hfk l rs us y B J h2 (by simpa using hl) (fun i r u hi hu => hr (i + 1) r u (by simpa using hi) (by simpa using hu)) hB
    exact ⟨⟨u, us, rfl, hfk f js r u hf hru, q1⟩, by simpa [HCBlk, CKBlk] using q2, q3⟩
  ·cases hc
 | .c t :: l, r :: rs, us, x, B, J, hc, hl, hr, hB => by
  simp only [cellsIn] at hc
  cases hn : isNm t with
  | true => rw [hn] at hc; cases hc
  | false =>
   rw [hn] at hc
   simp only [cond_false] at hc
   split at hc
   ·rename_i x1 b1 y B1 J1 h1 h2
    cases hc
    match us, hl with
    | u :: us, hl =>
     have hru := hr 0 r u rfl rfl
     obtain ⟨cs, k1, k2⟩ := h.toDen h1 hru
     have hcs := AsV_ty k1 (fun n hn' => by subst hn'; cases hn) k2
     subst hcs
     obtain ⟨q1, q2, q3⟩ := cellsIn_rel h hfk l rs us y B1 J h2 (by simpa using hl) (fun i r u hi hu => hr (i + 1) r u (by simpa using hi) (by simpa using hu)) (fun i hi => hB i (List.mem_append.2 (.inr hi)))
     exact ⟨⟨u, us, rfl, Rep_more (fun i hi => hB i (List.mem_append.2 (.inl hi))) k1, q1⟩, by simpa [HCBlk, CKBlk] using q2, q3⟩
   ·cases hc
 | .o el e :: l, r :: rs, us, x, B, J, hc, hl, hr, hB => by
  simp only [cellsIn] at hc
  split at hc
  ·rename_i j
   split at hc
   ·rename_i el' e' xs bs hlk
    obtain ⟨hel, hc⟩ := bif_none hc
    obtain ⟨hel, hlt⟩ := eqB_spec hel
    subst hel
    split at hc
    ·rename_i xs' y B1 J1 h1 h2
     cases hc
     obtain ⟨et, rfl⟩ := castTy_some h1
     cases et
     match us, hl with
     | u :: us, hl =>
      have hru := hr 0 _ u rfl rfl
      obtain ⟨q1, q2, q3⟩ := cellsIn_rel h hfk l rs us y B1 J1 h2 (by simpa using hl) (fun i r u hi hu => hr (i + 1) r u (by simpa using hi) (by simpa using hu)) (fun i hi => hB i (List.mem_append.2 (.inr hi)))
      have hu : u = E j := hru.1
      refine ⟨⟨u, us, rfl, ?_, q1⟩, ?_, fun k hk => ?_⟩
      ·rw [hu]
       exact ownAt_more (fun i hi => hB i (List.mem_append.2 (.inl hi))) (h.ownAt hlk hlt)
      ·simp only [HCBlk, CKBlk, List.flatMap_cons, hu, q2]
      ·rcases List.mem_cons.1 hk with rfl | hk
       ·exact ⟨_, hlk, rfl⟩
       ·exact q3 k hk
    ·cases hc
   ·cases hc
  ·cases hc
theorem self_rel {id : Nat} {f : FuncId} {own : List (Nat × Blk N)} {v u : Value} (hl : ∃ l, look own id = some (.cells l)) (hE : E id = v) {g : Nat} (hv : v = .pointer (some ⟨g, 0, none⟩)) (hu : u = .func (.func f) #[] #[v]) : RVRel w own E (.fn f [id]) u := by
 subst hE
 exact ⟨by rw [hu]; rfl, fun k hk => by
  rw [List.mem_singleton] at hk
  subst hk
  exact ⟨.inr (.inl hl), g, hv⟩⟩
theorem RelE.okOwn (h : RelE io w0 σ E a w) {id g : Nat} {b : Blk N} (hl : look σ.own id = some b) (hg : blkOf (E id) = some g) (bs : List Nat) : okb w.heap.size σ.own E (id :: bs) g := by
 refine ⟨⟨(h.blk id b hl g hg).1, by rw [h.sc]; exact h.nw g (h.blk id b hl g hg).2⟩, fun j hj hjb hg2 => ?_⟩
 obtain ⟨bj, hbj⟩ := Option.isSome_iff_exists.1 hj
 exact h.sep id j b bj hl hbj (fun e => hjb (by rw [e]; exact List.mem_cons_self)) g hg hg2
theorem RelE.readP (h : RelE io w0 σ E a w) {t : Ty} {r : RV N} {v : Value} {x : t.den N.ρ} {bs : List Nat} (hd : readP σ.own t r = some (x, bs)) (hr : RVRel w σ.own E r v) :
  ∃ ad cs, v = .pointer (some ad) ∧ okb w.heap.size σ.own E bs ad.block ∧ Rep w (okb w.heap.size σ.own E bs) t x cs ∧ ∀ (j : Nat) u, cs[j]? = some u → w.cell? (ad.add j) = some u := by
 unfold Eng.readP at hd
 split at hd
 ·rename_i id
  obtain ⟨_, g, e1, e2⟩ := hr
  split at hd
  ·rename_i t' x' bs' hl
   obtain ⟨y, hy, hq⟩ := Option.map_eq_some_iff.1 hd
   cases hq
   obtain ⟨e, rfl⟩ := castTy_some hy
   subst e
   obtain ⟨g', T, arr, c1, c2, c3⟩ := h.own id _ hl
   rw [e1] at c1
   cases c1
   exact ⟨⟨g, 0, none⟩, arr.toList, e2, h.okOwn hl (by rw [e1]; rfl) bs', Rep_more (fun i hi => List.mem_cons_of_mem _ hi) c3, fun j u hu => h.box (id := id) c2 0 j u (by simpa using hu)⟩
  ·rename_i l hl
   split at hd
   ·rename_i y bs' hy
    cases hd
    obtain ⟨g', T, arr, c1, c2, c3, c4⟩ := h.own id _ hl
    rw [e1] at c1
    cases c1
    have k1 := h.impl 8 t l x bs' arr.toList hy (by simpa using c3) (fun i r u hi hu => c4 i r u hi (by simpa using hu))
    exact ⟨⟨g, 0, none⟩, arr.toList, e2, h.okOwn hl (by rw [e1]; rfl) bs', Rep_more (fun i hi => List.mem_cons_of_mem _ hi) k1, fun j u hu => h.box (id := id) c2 0 j u (by simpa using hu)⟩
   ·cases hd
  ·cases hd
 ·rename_i id
  split at hd
  ·rename_i e' T' xs bs' p hl
   obtain ⟨n, y, rfl, _, _, h1, _, h3⟩ := evLoadArr_some hd
   obtain ⟨y', hy, hq⟩ := Option.map_eq_some_iff.1 h1
   cases hq
   obtain ⟨e, rfl⟩ := castTy_some hy
   cases e
   obtain ⟨g, cap, n', t', ⟨e2, xs2, bs2, p2, q1, q2⟩, g2, g3, g4⟩ := hr
   rw [hl] at q1
   cases q1
   obtain ⟨cells, c1, c2⟩ := h.own id _ hl
   have hrep := h3 c1 (by rw [g3]; exact fun e => by cases e) c2
   rcases c1.2 with ⟨hv, hn⟩ | ⟨g', cap', cur, T0, fz, hv, hg, _, _, _, _, _, ht⟩
   ·rw [g3] at hv; cases hv
   ·rw [g3] at hv
    simp only [Value.slice.injEq, Option.some.injEq, Addr.mk.injEq] at hv
    obtain ⟨⟨rfl, _⟩, _, rfl⟩ := hv
    refine ⟨⟨g, 0, none⟩, cells, by rw [g4]; simp, h.okOwn hl (by rw [g3]; rfl) bs', Rep_more (fun i hi => List.mem_cons_of_mem _ hi) hrep, fun j u hu => ?_⟩
    rw [← ht, List.getElem?_take] at hu
    split at hu
    ·rw [add_lit', cell_of_row w g _ cur _ _ hg, Nat.zero_add]
     simpa using hu
    ·cases hu
  ·cases hd
 ·rename_i t' x' bs'
  obtain ⟨y, hy, hq⟩ := Option.map_eq_some_iff.1 hd
  cases hq
  obtain ⟨e, rfl⟩ := castTy_some hy
  subst e
  exact hr
 ·cases hd
theorem capsAre_spec {ι : Type} {own : List (Nat × Blk N)} {ρ : ι → RV N} {val : ι → Value} {os0 : List ι} (hρ : ∀ o ∈ os0, RVRel w own E (ρ o) (val o)) : ∀ (js caps : List Nat), capsAre ρ os0 js caps = true →
  caps.map E.val = js.map (fun j => (os0.map val).getD j undef) ∧ ∀ c ∈ caps, ∃ o ∈ os0, ρ o = .bptr c 0
 | [], [], _ => ⟨rfl, fun c hc => by cases hc⟩
 | [], _ :: _, h => by cases h
 | _ :: _, [], h => by cases h
 | j :: js, c :: cs, h => by
  simp only [capsAre, Bool.and_eq_true] at h
  obtain ⟨h1, h2⟩ := h
  obtain ⟨k1, k2⟩ := capsAre_spec hρ js cs h2
  split at h1
  ·rename_i o ho
   split at h1
   ·rename_i id hid
    obtain rfl := Nat.eq_of_beq_eq_true h1
    have hmem := List.mem_of_getElem? ho
    have hr := hρ o hmem
    rw [hid] at hr
    obtain ⟨_, g, e1, e2⟩ := hr
    refine ⟨?_, fun c hc => ?_⟩
    ·rw [List.map_cons, List.map_cons, k1]
     congr 1
     rw [List.getD_eq_getElem?_getD, List.getElem?_map, ho]
     show E.val id = val o
     rw [e2]
     exact e1
    ·rcases List.mem_cons.1 hc with rfl | hc
     ·exact ⟨o, hmem, hid⟩
     ·exact k2 c hc
   ·cases h1
  ·cases h1
theorem fnIs_rel {ι : Type} {own : List (Nat × Blk N)} {ρ : ι → RV N} {val : ι → Value} {os0 : List ι} (hρ : ∀ o ∈ os0, RVRel w own E (ρ o) (val o)) (f : FuncId) (js : List Nat) (r : RV N) (u : Value) (h : fnIs ρ os0 f js r = true) (hr : RVRel w own E r u) :
  u = closV (os0.map val) f js := by
 unfold fnIs at h
 split at h
 ·simp only [Bool.and_eq_true] at h
  obtain ⟨h1, h2⟩ := h
  obtain rfl := Nat.eq_of_beq_eq_true h1
  rw [hr.1]
  unfold closV
  rw [(capsAre_spec hρ js _ h2).1]
 ·cases h
theorem callIn_rel {ι : Type} {ρ : ι → RV N} {val : ι → Value} (h : RelE io w0 σ E a w) {B0 : List Nat} {os0 : List ι} (hρ0 : ∀ o ∈ os0, RVRel w σ.own E (ρ o) (val o)) : ∀ (ps : List PK) (os : List ι) (hρ : ∀ o ∈ os, RVRel w σ.own E (ρ o) (val o)) (x : HIn N.ρ ps) (B D U : List Nat), callIn σ.own ρ os0 ps os = some (x, B, D, U) → (∀ i ∈ B, i ∈ B0) →
  InRel w (okb w.heap.size σ.own E B0) (os0.map val) ps x (os.map val) (D.flatMap fun id => oneBlk (E id)) ∧ (∀ id ∈ D, ∃ b, look σ.own id = some b) ∧ (∀ id ∈ U, id ∈ D ∧ ∀ b, look σ.own id = some b → b.pinned = false)
 | [], [], hρ, x, B, D, U, hc, hB => by
  cases hc
  exact ⟨⟨rfl, rfl⟩, (fun id hi => by cases hi), (fun id hi => by cases hi)⟩
 | [], _ :: _, hρ, x, B, D, U, hc, hB => by cases hc
 | .v t :: ps, [], hρ, x, B, D, U, hc, hB => by cases hc
 | .io el e :: ps, [], hρ, x, B, D, U, hc, hB => by cases hc
 | .bw t :: ps, [], hρ, x, B, D, U, hc, hB => by cases hc
 | .bc l :: ps, [], hρ, x, B, D, U, hc, hB => by cases hc
 | .fv f :: ps, [], hρ, x, B, D, U, hc, hB => by cases hc
 | .fb f :: ps, [], hρ, x, B, D, U, hc, hB => by cases hc
 | .ag n l :: ps, [], hρ, x, B, D, U, hc, hB => by cases hc
 | .go el e :: ps, [], hρ, x, B, D, U, hc, hB => by cases hc
 | .fn f js :: ps, [], hρ, x, B, D, U, hc, hB => by cases hc
 | .rp t :: ps, [], hρ, x, B, D, U, hc, hB => by cases hc
 | .rp t :: ps, o :: os, hρ, x, B, D, U, hc, hB => by
  simp only [callIn] at hc
  split at hc
  ·rename_i x1 b1 y B1 D1 U1 h1 h2
   cases hc
   obtain ⟨ad, cs, k1, k2, k3, k4⟩ := h.readP h1 (hρ o List.mem_cons_self)
   obtain ⟨q1, q2, q3⟩ := callIn_rel h hρ0 ps os (fun o ho => hρ o (List.mem_cons_of_mem _ ho)) y B1 D U h2 (fun i hi => hB i (List.mem_append.2 (.inr hi)))
   have hsub : ∀ i ∈ b1, i ∈ B0 := fun i hi => hB i (List.mem_append.2 (.inl hi))
   exact ⟨⟨val o, os.map val, [], _, rfl, rfl, ⟨⟨ad, cs, k1, okb_more hsub k2, Rep_more hsub k3, k4⟩, rfl⟩, q1⟩, q2, q3⟩
  ·cases hc
 | .fn f js :: ps, o :: os, hρ, x, B, D, U, hc, hB => by
  simp only [callIn] at hc
  obtain ⟨hf, hc⟩ := bif_none hc
  split at hc
  ·rename_i y B1 D1 U1 h2
   cases hc
   have hev := hρ o List.mem_cons_self
   obtain ⟨q1, q2, q3⟩ := callIn_rel h hρ0 ps os (fun o ho => hρ o (List.mem_cons_of_mem _ ho)) y B D U h2 hB
   exact ⟨⟨val o, os.map val, [], _, rfl, rfl, ⟨fnIs_rel hρ0 f js _ _ hf hev, rfl⟩, q1⟩, q2, q3⟩
  ·cases hc
 | .go el e :: ps, o :: os, hρ, x, B, D, U, hc, hB => by
  simp only [callIn] at hc
  split at hc
  ·rename_i id hid
   split at hc
   ·rename_i el' e' xs bs hlk
    obtain ⟨hel, hc⟩ := bif_none hc
    obtain ⟨hel, hlt⟩ := eqB_spec hel
    subst hel
    split at hc
    ·rename_i xs' y B1 D1 U1 h1 h2
     cases hc
     obtain ⟨et, rfl⟩ := castTy_some h1
     cases et
     have hev := hρ o List.mem_cons_self
     rw [hid] at hev
     obtain ⟨q1, q2, q3⟩ := callIn_rel h hρ0 ps os (fun o ho => hρ o (List.mem_cons_of_mem _ ho)) y B1 D1 U1 h2 (fun i hi => hB i (List.mem_append.2 (.inr hi)))
     refine ⟨⟨val o, os.map val, oneBlk (E id), _, rfl, rfl, ⟨?_, by rw [hev.1]⟩, q1⟩, fun k hk => ?_, fun k hk => ?_⟩
     ·rw [hev.1]
      exact ownAt_more (fun i hi => hB i (List.mem_append.2 (.inl hi))) (h.ownAt hlk hlt)
     ·rcases List.mem_cons.1 hk with rfl | hk
      ·exact ⟨_, hlk⟩
      ·exact q2 k hk
     ·rcases List.mem_cons.1 hk with rfl | hk
      ·exact ⟨List.mem_cons_self, fun b hb => by rw [hlk] at hb; cases hb; rfl⟩
      ·exact ⟨List.mem_cons_of_mem _ (q3 k hk).1, (q3 k hk).2⟩
    ·cases hc
   ·cases hc
  ·rename_i hid
   split at hc
   ·rename_i y B1 D1 U1 h2
    cases hc
    have hev := hρ o List.mem_cons_self
    rw [hid] at hev
    have hev : val o = .slice none 0 0 := hev
    obtain ⟨q1, q2, q3⟩ := callIn_rel h hρ0 ps os (fun o ho => hρ o (List.mem_cons_of_mem _ ho)) y B D U h2 hB
    refine ⟨⟨val o, os.map val, [], _, rfl, rfl, ⟨⟨[], ?_, rfl⟩, by rw [hev]; rfl⟩, q1⟩, q2, q3⟩
    show _ ∧ w.ownsRow 0 el (N.sz e) (val o) 0 []
    rw [hev]
    exact ⟨.inl rfl, by simp, .inl ⟨rfl, rfl⟩⟩
   ·cases hc
  ·cases hc
 | .ag n l :: ps, o :: os, hρ, x, B, D, U, hc, hB => by
  simp only [callIn] at hc
  split at hc
  ·rename_i id hid
   split at hc
   ·rename_i m rs hlk
    obtain ⟨hm, hc⟩ := bif_none hc
    split at hc
    ·rename_i x1 b1 J1 y B1 D1 U1 h1 h2
     cases hc
     have hev := hρ o List.mem_cons_self
     rw [hid] at hev
     obtain ⟨arr, c1, c2, c3, c4⟩ := h.own id _ hlk
     obtain ⟨p1, p2, p3⟩ := cellsIn_rel h (B0 := B0) (fnIs_rel hρ0) l rs arr.toList x1 b1 J1 h1 (by simpa using c2) (fun i r u hi hu => c4 i r u hi (by simpa using hu)) (fun i hi => hB i (List.mem_append.2 (.inl hi)))
     obtain ⟨q1, q2, q3⟩ := callIn_rel h hρ0 ps os (fun o ho => hρ o (List.mem_cons_of_mem _ ho)) y B1 D1 U1 h2 (fun i hi => hB i (List.mem_append.2 (.inr hi)))
     refine ⟨⟨val o, os.map val, HCBlk l arr.toList, _, rfl, ?_, ⟨arr.toList, ?_, p1, rfl⟩, q1⟩, fun k hk => ?_, fun k hk => ?_⟩
     ·rw [List.flatMap_append, p2]
     ·rw [hev.2, c1]
     ·rcases List.mem_append.1 hk with hk | hk
      ·obtain ⟨b, hb, _⟩ := p3 k hk
       exact ⟨b, hb⟩
      ·exact q2 k hk
     ·rcases List.mem_append.1 hk with hk | hk
      ·refine ⟨List.mem_append.2 (.inl hk), fun b hb => ?_⟩
       obtain ⟨b', hb', hp⟩ := p3 k hk
       rw [hb] at hb'
       cases hb'
       exact hp
      ·exact ⟨List.mem_append.2 (.inr (q3 k hk).1), (q3 k hk).2⟩
    ·cases hc
   ·cases hc
  ·cases hc
 | .fv f :: ps, o :: os, hρ, x, B, D, U, hc, hB => by
  simp only [callIn] at hc
  obtain ⟨hf, hc⟩ := bif_none hc
  split at hc
  ·rename_i y B1 D1 U1 h2
   cases hc
   have hev := hρ o List.mem_cons_self
   rw [plainFn_spec hf] at hev
   obtain ⟨q1, q2, q3⟩ := callIn_rel h hρ0 ps os (fun o ho => hρ o (List.mem_cons_of_mem _ ho)) y B D U h2 hB
   exact ⟨⟨val o, os.map val, [], _, rfl, rfl, ⟨hev.1, rfl⟩, q1⟩, q2, q3⟩
  ·cases hc
 | .fb f :: ps, o :: os, hρ, x, B, D, U, hc, hB => by
  simp only [callIn] at hc
  split at hc
  ·rename_i id hid
   split at hc
   ·rename_i rs hlk
    obtain ⟨hf, hc⟩ := bif_none hc
    rw [selfIs_spec hf] at hlk
    split at hc
    ·rename_i y B1 D1 U1 h2
     cases hc
     have hev := hρ o List.mem_cons_self
     rw [hid] at hev
     obtain ⟨_, g, e1, e2⟩ := hev
     obtain ⟨g', T, arr, c1, c2, c3, c4⟩ := h.own id _ hlk
     rw [e1] at c1
     cases c1
     obtain ⟨q1, q2, q3⟩ := callIn_rel h hρ0 ps os (fun o ho => hρ o (List.mem_cons_of_mem _ ho)) y B D1 U h2 hB
     refine ⟨⟨val o, os.map val, [g], _, rfl, ?_, ⟨g, T, arr, ⟨e2, c2⟩, ?_, rfl⟩, q1⟩, fun k hk => ?_, fun k hk => ⟨List.mem_cons_of_mem _ (q3 k hk).1, (q3 k hk).2⟩⟩
     ·rw [List.flatMap_cons, e1]; rfl
     ·obtain ⟨l⟩ := arr
      match l, c3 with
      | [u], _ =>
       have := (c4 0 _ u rfl (by simp)).1
       rw [this, e2, ← e1]
       rfl
     ·rcases List.mem_cons.1 hk with rfl | hk
      ·exact ⟨_, hlk⟩
      ·exact q2 k hk
    ·cases hc
   ·cases hc
  ·cases hc
 | .v t :: ps, o :: os, hρ, x, B, D, U, hc, hB => by
  simp only [callIn] at hc
  split at hc
  ·rename_i x1 b1 y B1 D1 U1 h1 h2
   cases hc
   obtain ⟨cs, k1, k2⟩ := h.toDen h1 (hρ o List.mem_cons_self)
   obtain ⟨q1, q2, q3⟩ := callIn_rel h hρ0 ps os (fun o ho => hρ o (List.mem_cons_of_mem _ ho)) y B1 D U h2 (fun i hi => hB i (List.mem_append.2 (.inr hi)))
   exact ⟨⟨val o, os.map val, [], _, rfl, rfl, ⟨⟨cs, Rep_more (fun i hi => hB i (List.mem_append.2 (.inl hi))) k1, k2⟩, rfl⟩, q1⟩, q2, q3⟩
  ·cases hc
 | .io el e :: ps, o :: os, hρ, x, B, D, U, hc, hB => by
  simp only [callIn] at hc
  split at hc
  ·rename_i id hid
   split at hc
   ·rename_i el' e' xs bs p hlk
    obtain ⟨hel, hc⟩ := bif_none hc
    obtain ⟨hel, hlt⟩ := eqB_spec hel
    subst hel
    split at hc
    ·rename_i xs' y B1 D1 U1 h1 h2
     cases hc
     obtain ⟨et, rfl⟩ := castTy_some h1
     cases et
     have hev := hρ o List.mem_cons_self
     rw [hid] at hev
     obtain ⟨q1, q2, q3⟩ := callIn_rel h hρ0 ps os (fun o ho => hρ o (List.mem_cons_of_mem _ ho)) y B1 D1 U h2 (fun i hi => hB i (List.mem_append.2 (.inr hi)))
     refine ⟨⟨val o, os.map val, oneBlk (E id), _, rfl, rfl, ⟨?_, by rw [hev.1]⟩, q1⟩, fun k hk => ?_, fun k hk => ⟨List.mem_cons_of_mem _ (q3 k hk).1, (q3 k hk).2⟩⟩
     ·rw [hev.1]
      exact ownAt_more (fun i hi => hB i (List.mem_append.2 (.inl hi))) (h.ownAt hlk hlt)
     ·rcases List.mem_cons.1 hk with rfl | hk
      ·exact ⟨_, hlk⟩
      ·exact q2 k hk
    ·cases hc
   ·cases hc
  ·cases hc
 | .bw t :: ps, o :: os, hρ, x, B, D, U, hc, hB => by
  simp only [callIn] at hc
  split at hc
  ·rename_i id hid
   split at hc
   ·rename_i t' xv bs hlk
    split at hc
    ·rename_i x1 y B1 D1 U1 h1 h2
     cases hc
     obtain ⟨et, rfl⟩ := castTy_some h1
     subst et
     have hev := hρ o List.mem_cons_self
     rw [hid] at hev
     obtain ⟨_, g, e1, e2⟩ := hev
     obtain ⟨g', T, arr, c1, c2, c3⟩ := h.own id _ hlk
     rw [e1] at c1
     cases c1
     obtain ⟨q1, q2, q3⟩ := callIn_rel h hρ0 ps os (fun o ho => hρ o (List.mem_cons_of_mem _ ho)) y B1 D1 U h2 (fun i hi => hB i (List.mem_append.2 (.inr hi)))
     refine ⟨⟨val o, os.map val, [g], _, rfl, ?_, ⟨g, T, arr, ⟨e2, c2⟩, Rep_more (fun i hi => hB i (List.mem_append.2 (.inl hi))) c3, rfl⟩, q1⟩, fun k hk => ?_, fun k hk => ⟨List.mem_cons_of_mem _ (q3 k hk).1, (q3 k hk).2⟩⟩
     ·rw [List.flatMap_cons, e1]; rfl
     ·rcases List.mem_cons.1 hk with rfl | hk
      ·exact ⟨_, hlk⟩
      ·exact q2 k hk
    ·cases hc
   ·cases hc
  ·cases hc
 | .bc l :: ps, o :: os, hρ, x, B, D, U, hc, hB => by
  simp only [callIn] at hc
  split at hc
  ·rename_i id hid
   split at hc
   ·rename_i rs hlk
    split at hc
    ·rename_i x1 b1 J1 y B1 D1 U1 h1 h2
     cases hc
     have hev := hρ o List.mem_cons_self
     rw [hid] at hev
     obtain ⟨_, g, e1, e2⟩ := hev
     obtain ⟨g', T, arr, c1, c2, c3, c4⟩ := h.own id _ hlk
     rw [e1] at c1
     cases c1
     obtain ⟨p1, p2, p3⟩ := cellsIn_rel h (B0 := B0) (fnIs_rel hρ0) l rs arr.toList x1 b1 J1 h1 (by simpa using c3) (fun i r u hi hu => c4 i r u hi (by simpa using hu)) (fun i hi => hB i (List.mem_append.2 (.inl hi)))
     obtain ⟨q1, q2, q3⟩ := callIn_rel h hρ0 ps os (fun o ho => hρ o (List.mem_cons_of_mem _ ho)) y B1 D1 U1 h2 (fun i hi => hB i (List.mem_append.2 (.inr hi)))
     refine ⟨⟨val o, os.map val, g :: HCBlk l arr.toList, _, rfl, ?_, ⟨g, T, arr, ⟨e2, c2⟩, p1, rfl⟩, q1⟩, fun k hk => ?_, fun k hk => ?_⟩
     ·rw [List.flatMap_cons, List.flatMap_append, e1, p2]
      simp [oneBlk, blkOf]
     ·rcases List.mem_cons.1 hk with rfl | hk
      ·exact ⟨_, hlk⟩
      ·rcases List.mem_append.1 hk with hk | hk
       ·obtain ⟨b, hb, _⟩ := p3 k hk
        exact ⟨b, hb⟩
       ·exact q2 k hk
     ·rcases List.mem_append.1 hk with hk | hk
      ·refine ⟨List.mem_cons_of_mem _ (List.mem_append.2 (.inl hk)), fun b hb => ?_⟩
       obtain ⟨b', hb', hp⟩ := p3 k hk
       rw [hb] at hb'
       cases hb'
       exact hp
      ·exact ⟨List.mem_cons_of_mem _ (List.mem_append.2 (.inr (q3 k hk).1)), (q3 k hk).2⟩
    ·cases hc
   ·cases hc
  ·cases hc
/-! Behind the call. -/
abbrev Ent (N : Names) := Nat × Blk N × Value
def Ent.two (e : Ent N) : Nat × Blk N := (e.1, e.2.1)
def Stand (l : List (Ent N)) (own' : List (Nat × Blk N)) (E' : Env) : Prop := ∀ e ∈ l, look own' e.1 = some e.2.1 ∧ E' e.1 = e.2.2
def FkOk (w' : World) (fk : FuncId → List Nat → RV N → Bool) (vs0 : List Value) (own' : List (Nat × Blk N)) (E' : Env) : Prop := ∀ f js r, fk f js r = true → RVRel w' own' E' r (closV vs0 f js)
def EntRel (w' : World) (okA : Nat → Prop) (B : List Nat) (Hf : List (Nat × Blk N) → Env → Prop) (l : List (Ent N)) : Prop :=
 ∀ own' E', Stand l own' E' → Hf own' E' → (∀ g, okA g → okb w'.heap.size own' E' B g) → ∀ e ∈ l, BlkRel w' own' E' e.1 e.2.1
theorem ownAt_blk {okA : Nat → Prop} {B : List Nat} {own' : List (Nat × Blk N)} {E' : Env} {id : Nat} {el : TypeId} {e : Ty} {xs : List (e.den N.ρ)} {v : Value} {p : Bool} (h : OwnAt w' okA el e xs v) (hE : E' id = v) (hok : ∀ g, okA g → okb w'.heap.size own' E' B g) :
  BlkRel w' own' E' id (.row el e xs B p) := by
 obtain ⟨cells, h1, h2⟩ := h
 exact ⟨cells, by rw [hE]; exact .of' h1, RowC_mono (fun x cs hx => Rep_mono (fun _ _ _ h => h) hok hx) h2⟩
theorem Rep_flatB {w : World} {H : Nat} {own : List (Nat × Blk N)} {E : Env} {B : List Nat} {t : Ty} {x : t.den N.ρ} {cs : List Value} (h : Rep w (okb H own E B) t x cs) : Rep w (okb H own E (flatB N t B)) t x cs := by
 unfold flatB
 cases hf : flatT N 4 t with
 | true => exact Rep_flat 4 t x cs hf h
 | false => exact h
theorem flatB_blk {w : World} {own : List (Nat × Blk N)} {E : Env} {id : Nat} {el : TypeId} {e : Ty} {xs : List (e.den N.ρ)} {B : List Nat} {p : Bool} (h : BlkRel w own E id (.row el e xs B p)) : BlkRel w own E id (.row el e xs (flatB N e B) p) := by
 obtain ⟨cells, c1, c2⟩ := h
 exact ⟨cells, c1, RowC_mono (fun x cs hx => Rep_flatB hx) c2⟩
theorem cellsNew_rel {okA : Nat → Prop} {B : List Nat} {own : List (Nat × Blk N)} {fk : FuncId → List Nat → RV N → Bool} {vs0 : List Value} {Hf : List (Nat × Blk N) → Env → Prop} (hHf : ∀ own' E', Hf own' E' → FkOk w' fk vs0 own' E') : ∀ (l : List CK) (rs : List (RV N)) (x0 : HC N.ρ l) (B0 J : List Nat) (y : HC N.ρ l) (us : List Value), cellsIn fk own l rs = some (x0, B0, J) → HCRel w' okA vs0 l y us →
  ∃ L : List (Ent N), L.map Ent.two = cellsNew B l rs y ∧ L.map (·.1) = J ∧ HCBlk l us = L.flatMap (fun e => oneBlk e.2.2) ∧ EntRel w' okA B Hf L ∧ us.length = (cellsVal B l rs y).length ∧
   ∀ own' E', Stand L own' E' → Hf own' E' → (∀ g, okA g → okb w'.heap.size own' E' B g) → ∀ (i : Nat) r u, (cellsVal B l rs y)[i]? = some r → us[i]? = some u → RVRel w' own' E' r u
 | [], [], x0, B0, J, y, us, hc, hr => by
  cases hc
  rw [show us = [] from hr]
  exact ⟨[], rfl, rfl, rfl, (fun _ _ _ _ _ e he => by cases he), rfl, fun _ _ _ _ _ i r u hi _ => by simp [cellsVal] at hi⟩
 | [], _ :: _, x0, B0, J, y, us, hc, hr => by cases hc
 | .c t :: l, [], x0, B0, J, y, us, hc, hr => by cases hc
 | .o el e :: l, [], x0, B0, J, y, us, hc, hr => by cases hc
 | .f f js :: l, [], x0, B0, J, y, us, hc, hr => by cases hc
 | .f f js :: l, r :: rs, x0, B0, J, y, us, hc, hr => by
  simp only [cellsIn] at hc
  obtain ⟨hf, hc⟩ := bif_none hc
  split at hc
  ·rename_i y1 B1 J1 h2
   cases hc
   obtain ⟨u, rest, rfl, k1, k2⟩ := hr
   obtain ⟨L, l1, l2, l3, l4, l5, l6⟩ := cellsNew_rel (B := B) hHf l rs y1 B0 J y.2 rest h2 k2
   refine ⟨L, l1, l2, by simpa [HCBlk, CKBlk] using l3, l4, by simp [cellsVal, l5], fun own' E' hst hhf hok i r' u' hi hu => ?_⟩
   cases i with
   | zero =>
    simp only [cellsVal, List.getElem?_cons_zero, Option.some.injEq] at hi hu
    subst hi hu
    rw [show u = _ from k1]
    exact hHf own' E' hhf f js r hf
   | succ i => exact l6 own' E' hst hhf hok i r' u' (by simpa [cellsVal] using hi) (by simpa using hu)
  ·cases hc
 | .c t :: l, r :: rs, x0, B0, J, y, us, hc, hr => by
  simp only [cellsIn] at hc
  cases hn : isNm t with
  | true => rw [hn] at hc; cases hc
  | false =>
   rw [hn] at hc
   simp only [cond_false] at hc
   split at hc
   ·rename_i x1 b1 y1 B1 J1 h1 h2
    cases hc
    obtain ⟨u, rest, rfl, k1, k2⟩ := hr
    obtain ⟨L, l1, l2, l3, l4, l5, l6⟩ := cellsNew_rel (B := B) hHf l rs y1 B1 J y.2 rest h2 k2
    refine ⟨L, l1, l2, by simpa [HCBlk, CKBlk] using l3, l4, by simp [cellsVal, l5], fun own' E' hst hhf hok i r u' hi hu => ?_⟩
    cases i with
    | zero =>
     simp only [cellsVal, List.getElem?_cons_zero, Option.some.injEq] at hi hu
     subst hi hu
     have hv : AsV t u [u] := by
      cases t with
      | nm n => cases hn
      | _ => rfl
     exact ofDen_rel (Rep_flatB (Rep_mono (fun _ _ _ h => h) hok k1)) hv
    | succ i => exact l6 own' E' hst hhf hok i r u' (by simpa [cellsVal] using hi) (by simpa using hu)
   ·cases hc
 | .o el e :: l, r :: rs, x0, B0, J, y, us, hc, hr => by
  simp only [cellsIn] at hc
  split at hc
  ·rename_i j
   split at hc
   ·rename_i el' e' xs bs hlk
    obtain ⟨hel, hc⟩ := bif_none hc
    obtain ⟨hel, hlt⟩ := eqB_spec hel
    subst hel
    split at hc
    ·rename_i xs' y1 B1 J1 h1 h2
     cases hc
     obtain ⟨u, rest, rfl, k1, k2⟩ := hr
     obtain ⟨L, l1, l2, l3, l4, l5, l6⟩ := cellsNew_rel (B := B) hHf l rs y1 B1 J1 y.2 rest h2 k2
     refine ⟨(j, .row el' e y.1 (flatB N e B) false, u) :: L, by simp [cellsNew, Ent.two, l1], by simp [l2], by simp [HCBlk, CKBlk, l3], ?_, by simp [cellsVal, l5], fun own' E' hst hhf hok i r u' hi hu => ?_⟩
     ·intro own' E' hst hhf hok e he
      rcases List.mem_cons.1 he with rfl | he
      ·exact flatB_blk (ownAt_blk k1 (hst _ List.mem_cons_self).2 hok)
      ·exact l4 own' E' (fun e he => hst e (List.mem_cons_of_mem _ he)) hhf hok e he
     ·cases i with
      | zero =>
       simp only [cellsVal, List.getElem?_cons_zero, Option.some.injEq] at hi hu
       subst hi hu
       obtain ⟨s1, s2⟩ := hst _ List.mem_cons_self
       exact ⟨s2.symm, y.1.length, e, el', y.1, flatB N e B, false, s1, rfl⟩
      | succ i => exact l6 own' E' (fun e he => hst e (List.mem_cons_of_mem _ he)) hhf hok i r u' (by simpa [cellsVal] using hi) (by simpa using hu)
    ·cases hc
   ·cases hc
  ·cases hc
theorem ownsRow_len {base el size n m : Nat} {A : Option Addr} {cap : Nat} {cells : List Value} (h : w.ownsRow base el size (.slice A n cap) m cells) : m = n := by
 rcases h.2 with ⟨hv, hm⟩ | ⟨g, cap', cur, hv, _⟩
 ·cases hv; exact hm
 ·cases hv; rfl
theorem callNew_rel {ι : Type} {ρ : ι → RV N} {val : ι → Value} (h : RelE io w0 σ E a w) {okA : Nat → Prop} {B : List Nat} {os0 : List ι} : ∀ (ps : List PK) (os : List ι) (hρ : ∀ o ∈ os, RVRel w σ.own E (ρ o) (val o)) (x0 : HIn N.ρ ps) (B0 D U : List Nat) (y : HOut N.ρ ps) (bl : List Nat), callIn σ.own ρ os0 ps os = some (x0, B0, D, U) → D.Nodup → OutRel w' okA (os0.map val) ps y (os.map val) bl →
  ∃ L : List (Ent N), L.map Ent.two = callNew σ.own ρ B ps os y ∧ ((L.map (·.1)).Sublist D ∧ ∀ id ∈ D, id ∈ U ∨ id ∈ L.map (·.1)) ∧ bl = L.flatMap (fun e => oneBlk e.2.2) ∧ EntRel w' okA B (FkOk w' (fnIs ρ os0) (os0.map val)) L ∧
   ∀ e ∈ L, e.1 ∈ U ∨ ∃ b0, look σ.own e.1 = some b0 ∧ sameShape b0 e.2.1 ∧ e.2.2 = E e.1 ∧ (b0.pinned = true → e.2.1.pinned = true)
 | [], [], hρ, x0, B0, D, U, y, bl, hc, hD, hr => by
  cases hc
  exact ⟨[], rfl, ⟨.slnil, fun id hid => by cases hid⟩, hr, (fun _ _ _ _ _ e he => by cases he), fun e he => by cases he⟩
 | [], _ :: _, hρ, x0, B0, D, U, y, bl, hc, hD, hr => by cases hc
 | .v t :: ps, [], hρ, x0, B0, D, U, y, bl, hc, hD, hr => by cases hc
 | .io el e :: ps, [], hρ, x0, B0, D, U, y, bl, hc, hD, hr => by cases hc
 | .bw t :: ps, [], hρ, x0, B0, D, U, y, bl, hc, hD, hr => by cases hc
 | .bc l :: ps, [], hρ, x0, B0, D, U, y, bl, hc, hD, hr => by cases hc
 | .fv f :: ps, [], hρ, x0, B0, D, U, y, bl, hc, hD, hr => by cases hc
 | .fb f :: ps, [], hρ, x0, B0, D, U, y, bl, hc, hD, hr => by cases hc
 | .ag n l :: ps, [], hρ, x0, B0, D, U, y, bl, hc, hD, hr => by cases hc
 | .go el e :: ps, [], hρ, x0, B0, D, U, y, bl, hc, hD, hr => by cases hc
 | .fn f js :: ps, [], hρ, x0, B0, D, U, y, bl, hc, hD, hr => by cases hc
 | .rp t :: ps, [], hρ, x0, B0, D, U, y, bl, hc, hD, hr => by cases hc
 | .rp t :: ps, o :: os, hρ, x0, B0, D, U, y, bl, hc, hD, hr => by
  simp only [callIn] at hc
  split at hc
  ·rename_i x1 b1 y1 B1 D1 U1 h1 h2
   cases hc
   exact callNew_rel (B := B) h ps os (fun o ho => hρ o (List.mem_cons_of_mem _ ho)) y1 B1 D U y bl h2 hD hr
  ·cases hc
 | .fn f js :: ps, o :: os, hρ, x0, B0, D, U, y, bl, hc, hD, hr => by
  simp only [callIn] at hc
  obtain ⟨hf, hc⟩ := bif_none hc
  split at hc
  ·rename_i y1 B1 D1 U1 h2
   cases hc
   exact callNew_rel (B := B) h ps os (fun o ho => hρ o (List.mem_cons_of_mem _ ho)) y1 B0 D U y bl h2 hD hr
  ·cases hc
 | .go el e :: ps, o :: os, hρ, x0, B0, D, U, y, bl, hc, hD, hr => by
  simp only [callIn] at hc
  split at hc
  ·rename_i id hid
   split at hc
   ·rename_i el' e' xs bs hlk
    obtain ⟨hel, hc⟩ := bif_none hc
    split at hc
    ·rename_i xs' y1 B1 D1 U1 h1 h2
     cases hc
     obtain ⟨L, l1, l2, l3, l4, l5⟩ := callNew_rel (B := B) h ps os (fun o ho => hρ o (List.mem_cons_of_mem _ ho)) y1 B1 D1 U1 y bl h2 (List.nodup_cons.1 hD).2 hr
     refine ⟨L, l1, ⟨l2.1.cons _, fun k hk => ?_⟩, l3, l4, fun e he => (l5 e he).imp (List.mem_cons_of_mem _) (fun h => h)⟩
     rcases List.mem_cons.1 hk with rfl | hk
     ·exact .inl List.mem_cons_self
     ·exact (l2.2 k hk).imp (List.mem_cons_of_mem _) (fun h => h)
    ·cases hc
   ·cases hc
  ·rename_i hid
   split at hc
   ·rename_i y1 B1 D1 U1 h2
    cases hc
    exact callNew_rel (B := B) h ps os (fun o ho => hρ o (List.mem_cons_of_mem _ ho)) y1 B0 D U y bl h2 hD hr
   ·cases hc
  ·cases hc
 | .ag n l :: ps, o :: os, hρ, x0, B0, D, U, y, bl, hc, hD, hr => by
  simp only [callIn] at hc
  split at hc
  ·rename_i id hid
   split at hc
   ·rename_i m rs hlk
    obtain ⟨hm, hc⟩ := bif_none hc
    split at hc
    ·rename_i x1 bb1 J1 y1 B1 D1 U1 h1 h2
     cases hc
     rw [List.nodup_append] at hD
     obtain ⟨L, l1, l2, l3, l4, l5⟩ := callNew_rel (B := B) h ps os (fun o ho => hρ o (List.mem_cons_of_mem _ ho)) y1 B1 D1 U1 y bl h2 hD.2.1 hr
     refine ⟨L, l1, ⟨l2.1.trans (List.sublist_append_right _ _), fun k hk => ?_⟩, l3, l4, fun e he => (l5 e he).imp (fun h => List.mem_append.2 (.inr h)) (fun h => h)⟩
     rcases List.mem_append.1 hk with hk | hk
     ·exact .inl (List.mem_append.2 (.inl hk))
     ·exact (l2.2 k hk).imp (fun h => List.mem_append.2 (.inr h)) (fun h => h)
    ·cases hc
   ·cases hc
  ·cases hc
 | .fv f :: ps, o :: os, hρ, x0, B0, D, U, y, bl, hc, hD, hr => by
  simp only [callIn] at hc
  obtain ⟨hf, hc⟩ := bif_none hc
  split at hc
  ·rename_i y1 B1 D1 U1 h2
   cases hc
   exact callNew_rel (B := B) h ps os (fun o ho => hρ o (List.mem_cons_of_mem _ ho)) y1 B0 D U y bl h2 hD hr
  ·cases hc
 | .fb f :: ps, o :: os, hρ, x0, B0, D, U, y, bl, hc, hD, hr => by
  simp only [callIn] at hc
  split at hc
  ·rename_i id hid
   split at hc
   ·rename_i rs hlk
    obtain ⟨hf, hc⟩ := bif_none hc
    split at hc
    ·rename_i y1 B1 D1 U1 h2
     cases hc
     obtain ⟨v, rest, b1, b2, hv, rfl, ⟨g, T, arr, ⟨kb1, kb2⟩, k1, rfl⟩, k2⟩ := hr
     rw [List.map_cons] at hv
     obtain ⟨rfl, rfl⟩ := List.cons.inj hv
     have hev := hρ o List.mem_cons_self
     rw [hid] at hev
     obtain ⟨_, g', e1, e2⟩ := hev
     have hg : g' = g := by rw [e2] at kb1; cases kb1; rfl
     subst hg
     obtain ⟨L, l1, l2, l3, l4, l5⟩ := callNew_rel (B := B) h ps os (fun o ho => hρ o (List.mem_cons_of_mem _ ho)) y1 B0 D1 U y.2 b2 h2 (List.nodup_cons.1 hD).2 k2
     refine ⟨(id, .cells [.fn f [id]], val o) :: L, by simp [callNew, hid, Ent.two, l1], ⟨by simpa using l2.1, fun k hk => by rcases List.mem_cons.1 hk with rfl | hk; exact .inr List.mem_cons_self; exact (l2.2 k hk).imp (fun h => h) (fun h => List.mem_cons_of_mem _ h)⟩, by simp [l3, kb1, oneBlk, blkOf], ?_, fun e' he => ?_⟩
     ·intro own' E' hst hhf hok e' he
      rcases List.mem_cons.1 he with rfl | he
      ·obtain ⟨s1, s2⟩ := hst _ List.mem_cons_self
       refine ⟨g', T, arr, by rw [s2]; exact kb1, kb2, by rw [k1]; rfl, fun i r u hi hu => ?_⟩
       subst k1
       cases i with
       | zero =>
        simp only [List.getElem?_cons_zero, Option.some.injEq] at hi
        subst hi
        exact self_rel ⟨_, s1⟩ s2 kb1 (Option.some.inj hu).symm
       | succ i => simp at hi
      ·exact l4 own' E' (fun e he => hst e (List.mem_cons_of_mem _ he)) hhf hok e' he
     ·rcases List.mem_cons.1 he with rfl | he
      ·exact .inr ⟨_, hlk, trivial, by rw [e1]; exact kb1, fun _ => rfl⟩
      ·exact l5 e' he
    ·cases hc
   ·cases hc
  ·cases hc
 | .v t :: ps, o :: os, hρ, x0, B0, D, U, y, bl, hc, hD, hr => by
  simp only [callIn] at hc
  split at hc
  ·rename_i x1 b1 y1 B1 D1 U1 h1 h2
   cases hc
   exact callNew_rel (B := B) h ps os (fun o ho => hρ o (List.mem_cons_of_mem _ ho)) y1 B1 D U y bl h2 hD hr
  ·cases hc
 | .io el e :: ps, o :: os, hρ, x0, B0, D, U, y, bl, hc, hD, hr => by
  simp only [callIn] at hc
  split at hc
  ·rename_i id hid
   split at hc
   ·rename_i el' e' xs bs p hlk
    obtain ⟨hel, hc⟩ := bif_none hc
    obtain ⟨hel, hlt⟩ := eqB_spec hel
    subst hel
    split at hc
    ·rename_i xs' y1 B1 D1 U1 h1 h2
     cases hc
     obtain ⟨et, rfl⟩ := castTy_some h1
     cases et
     obtain ⟨v, rest, b1, b2, hv, rfl, ⟨k1, rfl⟩, k2⟩ := hr
     rw [List.map_cons] at hv
     obtain ⟨rfl, rfl⟩ := List.cons.inj hv
     have hev := hρ o List.mem_cons_self
     rw [hid] at hev
     obtain ⟨L, l1, l2, l3, l4, l5⟩ := callNew_rel (B := B) h ps os (fun o ho => hρ o (List.mem_cons_of_mem _ ho)) y1 B1 D1 U y.2 b2 h2 (List.nodup_cons.1 hD).2 k2
     refine ⟨(id, .row el' e y.1 (flatB N e B) p, val o) :: L, by simp [callNew, hid, hlk, Ent.two, l1], ⟨by simpa using l2.1, fun k hk => by rcases List.mem_cons.1 hk with rfl | hk; exact .inr List.mem_cons_self; exact (l2.2 k hk).imp (fun h => h) (fun h => List.mem_cons_of_mem _ h)⟩, by simp [l3], ?_, fun e' he => ?_⟩
     ·intro own' E' hst hhf hok e' he
      rcases List.mem_cons.1 he with rfl | he
      ·exact flatB_blk (ownAt_blk k1 (hst _ List.mem_cons_self).2 hok)
      ·exact l4 own' E' (fun e he => hst e (List.mem_cons_of_mem _ he)) hhf hok e' he
     ·rcases List.mem_cons.1 he with rfl | he
      ·refine .inr ⟨_, hlk, ⟨rfl, ?_⟩, hev.1, fun h => h⟩
       obtain ⟨_, A, cap, hE⟩ := h.rowRep hlk
       obtain ⟨cells, c1, _⟩ := k1
       rw [hev.1, hE] at c1
       exact (ownsRow_len c1.2).symm
      ·exact l5 e' he
    ·cases hc
   ·cases hc
  ·cases hc
 | .bw t :: ps, o :: os, hρ, x0, B0, D, U, y, bl, hc, hD, hr => by
  simp only [callIn] at hc
  split at hc
  ·rename_i id hid
   split at hc
   ·rename_i t' xv bs hlk
    split at hc
    ·rename_i x1 y1 B1 D1 U1 h1 h2
     cases hc
     obtain ⟨v, rest, b1, b2, hv, rfl, ⟨g, T, arr, ⟨kb1, kb2⟩, k1, rfl⟩, k2⟩ := hr
     rw [List.map_cons] at hv
     obtain ⟨rfl, rfl⟩ := List.cons.inj hv
     have hev := hρ o List.mem_cons_self
     rw [hid] at hev
     obtain ⟨_, g', e1, e2⟩ := hev
     have hg : g' = g := by rw [e2] at kb1; cases kb1; rfl
     subst hg
     obtain ⟨L, l1, l2, l3, l4, l5⟩ := callNew_rel (B := B) h ps os (fun o ho => hρ o (List.mem_cons_of_mem _ ho)) y1 B1 D1 U y.2 b2 h2 (List.nodup_cons.1 hD).2 k2
     refine ⟨(id, .whole t y.1 B, val o) :: L, by simp [callNew, hid, Ent.two, l1], ⟨by simpa using l2.1, fun k hk => by rcases List.mem_cons.1 hk with rfl | hk; exact .inr List.mem_cons_self; exact (l2.2 k hk).imp (fun h => h) (fun h => List.mem_cons_of_mem _ h)⟩, by simp [l3, kb1, oneBlk, blkOf], ?_, fun e' he => ?_⟩
     ·intro own' E' hst hhf hok e' he
      rcases List.mem_cons.1 he with rfl | he
      ·exact ⟨g', T, arr, by rw [(hst _ List.mem_cons_self).2]; exact kb1, kb2, Rep_mono (fun _ _ _ h => h) hok k1⟩
      ·exact l4 own' E' (fun e he => hst e (List.mem_cons_of_mem _ he)) hhf hok e' he
     ·rcases List.mem_cons.1 he with rfl | he
      ·exact .inr ⟨_, hlk, trivial, by rw [e1]; exact kb1, fun _ => rfl⟩
      ·exact l5 e' he
    ·cases hc
   ·cases hc
  ·cases hc
 | .bc l :: ps, o :: os, hρ, x0, B0, D, U, y, bl, hc, hD, hr => by
  simp only [callIn] at hc
  split at hc
  ·rename_i id hid
   split at hc
   ·rename_i rs hlk
    split at hc
    ·rename_i x1 bb1 J1 y1 B1 D1 U1 h1 h2
     cases hc
     obtain ⟨v, rest, b1, b2, hv, rfl, ⟨g, T, arr, ⟨kb1, kb2⟩, k1, rfl⟩, k2⟩ := hr
     rw [List.map_cons] at hv
     obtain ⟨rfl, rfl⟩ := List.cons.inj hv
     have hev := hρ o List.mem_cons_self
     rw [hid] at hev
     obtain ⟨_, g', e1, e2⟩ := hev
     have hg : g' = g := by rw [e2] at kb1; cases kb1; rfl
     subst hg
     have hD2 := (List.nodup_cons.1 hD).2
     rw [List.nodup_append] at hD2
     obtain ⟨M, m1, m2, m3, m4, m5, m6⟩ := cellsNew_rel (w' := w') (okA := okA) (B := B) (fun _ _ h => h) l rs x1 bb1 J1 y.1 arr.toList h1 k1
     obtain ⟨L, l1, l2, l3, l4, l5⟩ := callNew_rel (B := B) h ps os (fun o ho => hρ o (List.mem_cons_of_mem _ ho)) y1 B1 D1 U1 y.2 b2 h2 hD2.2.1 k2
     refine ⟨(id, .cells (cellsVal B l rs y.1), val o) :: (M ++ L), by simp [callNew, hid, hlk, Ent.two, l1, m1], ⟨by simpa [m2] using l2.1.append_left J1, fun k hk => by
       rcases List.mem_cons.1 hk with rfl | hk
       ·exact .inr List.mem_cons_self
       ·rcases List.mem_append.1 hk with hk | hk
        ·exact .inl (List.mem_append.2 (.inl hk))
        ·rcases l2.2 k hk with h | h
         ·exact .inl (List.mem_append.2 (.inr h))
         ·refine .inr (List.mem_cons_of_mem _ ?_)
          rw [List.map_append]
          exact List.mem_append.2 (.inr h)⟩, by simp [l3, m3, kb1, oneBlk, blkOf], ?_, fun e' he => ?_⟩
     ·intro own' E' hst hhf hok e' he
      have hstM : Stand M own' E' := fun e he => hst e (List.mem_cons_of_mem _ (List.mem_append.2 (.inl he)))
      rcases List.mem_cons.1 he with rfl | he
      ·exact ⟨g', T, arr, by rw [(hst _ List.mem_cons_self).2]; exact kb1, kb2, by simpa using m5, fun i r u hi hu => m6 own' E' hstM hhf hok i r u hi (by simpa using hu)⟩
      ·rcases List.mem_append.1 he with he | he
       ·exact m4 own' E' hstM hhf hok e' he
       ·exact l4 own' E' (fun e he => hst e (List.mem_cons_of_mem _ (List.mem_append.2 (.inr he)))) hhf hok e' he
     ·rcases List.mem_cons.1 he with rfl | he
      ·exact .inr ⟨_, hlk, trivial, by rw [e1]; exact kb1, fun _ => rfl⟩
      ·rcases List.mem_append.1 he with he | he
       ·left
        refine List.mem_append.2 (.inl ?_)
        rw [← m2]
        exact List.mem_map.2 ⟨e', he, rfl⟩
       ·rcases l5 e' he with h5 | h5
        ·exact .inl (List.mem_append.2 (.inr h5))
        ·exact .inr h5
    ·cases hc
   ·cases hc
  ·cases hc
theorem HCRel_one {ok : Nat → Prop} {vs0 : List Value} : ∀ (l : List CK) (x : HC N.ρ l) (us : List Value), HCRel w ok vs0 l x us → ∀ u ∈ us, u.oneCell' = true
 | [], x, us, h, u, hu => by rw [show us = [] from h] at hu; cases hu
 | .c t :: l, x, us, h, u, hu => by
  obtain ⟨u0, rest, rfl, k1, k2⟩ := h
  rcases List.mem_cons.1 hu with rfl | hu
  ·exact Rep_one (show Rep w ok t x.1 [u] from k1) u (by simp)
  ·exact HCRel_one l x.2 rest k2 u hu
 | .o el e :: l, x, us, h, u, hu => by
  obtain ⟨u0, rest, rfl, k1, k2⟩ := h
  rcases List.mem_cons.1 hu with rfl | hu
  ·obtain ⟨cells, c1, _⟩ := k1
   rcases c1.2.2 with ⟨hv, _⟩ | ⟨g, cap, cur, hv, _⟩ <;> (rw [hv]; rfl)
  ·exact HCRel_one l x.2 rest k2 u hu
 | .f f js :: l, x, us, h, u, hu => by
  obtain ⟨u0, rest, rfl, k1, k2⟩ := h
  rcases List.mem_cons.1 hu with rfl | hu
  ·rw [show u = _ from k1]; rfl
  ·exact HCRel_one l x.2 rest k2 u hu
theorem resCells_rel {okA : Nat → Prop} {B : List Nat} {d j : Nat} : ∀ (l : List CK) (i : Nat) (y : HC N.ρ l) (us : List Value), HCRel w' okA [] l y us →
  ∃ L : List (Ent N), L.map Ent.two = resCellNew B d j i l y ∧ L.map (·.1) = resCellIds d j i l ∧ HCBlk l us = L.flatMap (fun e => oneBlk e.2.2) ∧ us.length = (resCells B d j i l y).length ∧
   ∀ own' E', Stand L own' E' → (∀ g, okA g → okb w'.heap.size own' E' B g) → (∀ e ∈ L, BlkRel w' own' E' e.1 e.2.1) ∧ ∀ (k : Nat) r u, (resCells B d j i l y)[k]? = some r → us[k]? = some u → RVRel w' own' E' r u
 | [], i, y, us, h => by
  rw [show us = [] from h]
  exact ⟨[], rfl, rfl, rfl, rfl, fun _ _ _ _ => ⟨(fun e he => by cases he), fun k r u hk _ => by simp [resCells] at hk⟩⟩
 | .c t :: l, i, y, us, h => by
  obtain ⟨u, rest, rfl, k1, k2⟩ := h
  obtain ⟨L, l1, l2, l3, l4, l5⟩ := resCells_rel (B := B) (d := d) (j := j) l (i + 1) y.2 rest k2
  refine ⟨L, l1, l2, by simpa [HCBlk, CKBlk] using l3, by simp [resCells, l4], fun own' E' hst hok => ?_⟩
  obtain ⟨m1, m2⟩ := l5 own' E' hst hok
  refine ⟨m1, fun k r u' hk hu => ?_⟩
  cases k with
  | zero =>
   simp only [resCells, List.getElem?_cons_zero, Option.some.injEq] at hk hu
   subst hk hu
   have hrep : Rep w' okA t y.1 [u] := k1
   cases t with
   | nm n => trivial
   | _ => exact ofDen_rel (Rep_flatB (Rep_mono (fun _ _ _ h => h) hok hrep)) rfl
  | succ k => exact m2 k r u' (by simpa [resCells] using hk) (by simpa using hu)
 | .o el e :: l, i, y, us, h => by
  obtain ⟨u, rest, rfl, k1, k2⟩ := h
  obtain ⟨L, l1, l2, l3, l4, l5⟩ := resCells_rel (B := B) (d := d) (j := j) l (i + 1) y.2 rest k2
  refine ⟨(rid d j i, .row el e y.1 (flatB N e B) false, u) :: L, by simp [resCellNew, Ent.two, l1], by simp [resCellIds, l2], by simp [HCBlk, CKBlk, l3], by simp [resCells, l4], fun own' E' hst hok => ?_⟩
  obtain ⟨m1, m2⟩ := l5 own' E' (fun e he => hst e (List.mem_cons_of_mem _ he)) hok
  obtain ⟨s1, s2⟩ := hst _ List.mem_cons_self
  refine ⟨fun e' he => ?_, fun k r u' hk hu => ?_⟩
  ·rcases List.mem_cons.1 he with rfl | he
   ·exact flatB_blk (ownAt_blk k1 s2 hok)
   ·exact m1 e' he
  ·cases k with
   | zero =>
    simp only [resCells, List.getElem?_cons_zero, Option.some.injEq] at hk hu
    subst hk hu
    exact ⟨s2.symm, y.1.length, e, el, y.1, flatB N e B, false, s1, rfl⟩
   | succ k => exact m2 k r u' (by simpa [resCells] using hk) (by simpa using hu)
 | .f f js :: l, i, y, us, h => by
  obtain ⟨u, rest, rfl, k1, k2⟩ := h
  obtain ⟨L, l1, l2, l3, l4, l5⟩ := resCells_rel (B := B) (d := d) (j := j) l (i + 1) y.2 rest k2
  refine ⟨L, l1, l2, by simpa [HCBlk, CKBlk] using l3, by simp [resCells, l4], fun own' E' hst hok => ?_⟩
  obtain ⟨m1, m2⟩ := l5 own' E' hst hok
  refine ⟨m1, fun k r u' hk hu => ?_⟩
  cases k with
  | zero =>
   simp only [resCells, List.getElem?_cons_zero, Option.some.injEq] at hk hu
   subst hk hu
   cases js with
   | nil => exact ⟨k1, fun id hid => by cases hid⟩
   | cons j js => trivial
  | succ k => exact m2 k r u' (by simpa [resCells] using hk) (by simpa using hu)
theorem res_rel {okA : Nat → Prop} {B : List Nat} {d : Nat} : ∀ (rs : List RK) (j : Nat) (y : HRes N.ρ rs) (us : List Value) (rl : List Nat), ResRel w' okA rs y us rl →
  ∃ L : List (Ent N), L.map Ent.two = resNew B d rs j y ∧ L.map (·.1) = resIds d rs j ∧ rl = L.flatMap (fun e => oneBlk e.2.2) ∧ EntRel w' okA B (fun _ _ => True) L ∧ us.length = (resSlots B d rs j y).length ∧
   ∀ own' E', Stand L own' E' → (∀ g, okA g → okb w'.heap.size own' E' B g) → ∀ (i : Nat) r u, (resSlots B d rs j y)[i]? = some r → us[i]? = some u → RVRel w' own' E' r u
 | [], j, y, us, rl, h => by
  obtain ⟨rfl, rfl⟩ := h
  exact ⟨[], rfl, rfl, rfl, (fun _ _ _ _ _ e he => by cases he), rfl, fun _ _ _ _ i r u hi _ => by simp [resSlots] at hi⟩
 | .v t :: rs, j, y, us, rl, h => by
  obtain ⟨v, rest, b1, b2, rfl, rfl, ⟨⟨cs, k1, k2⟩, rfl⟩, k3⟩ := h
  obtain ⟨L, l1, l2, l3, l4, l5, l6⟩ := res_rel (B := B) (d := d) rs (j + 1) y.2 rest b2 k3
  refine ⟨L, l1, l2, by simpa using l3, l4, by simp [resSlots, l5], fun own' E' hst hok i r u hi hu => ?_⟩
  cases i with
  | zero =>
   simp only [resSlots, List.getElem?_cons_zero, Option.some.injEq] at hi hu
   subst hi hu
   exact ofDen_rel (Rep_flatB (Rep_mono (fun _ _ _ h => h) hok k1)) k2
  | succ i => exact l6 own' E' hst hok i r u (by simpa [resSlots] using hi) (by simpa using hu)
 | .own el e :: rs, j, y, us, rl, h => by
  obtain ⟨v, rest, b1, b2, rfl, rfl, ⟨k1, rfl⟩, k3⟩ := h
  obtain ⟨L, l1, l2, l3, l4, l5, l6⟩ := res_rel (B := B) (d := d) rs (j + 1) y.2 rest b2 k3
  refine ⟨(1000 + d + 10000 * j, .row el e y.1 (flatB N e B) false, v) :: L, by simp [resNew, Ent.two, l1], by simp [resIds, l2], by simp [l3], ?_, by simp [resSlots, l5], fun own' E' hst hok i r u hi hu => ?_⟩
  ·intro own' E' hst hhf hok e' he
   rcases List.mem_cons.1 he with rfl | he
   ·exact flatB_blk (ownAt_blk k1 (hst _ List.mem_cons_self).2 hok)
   ·exact l4 own' E' (fun e he => hst e (List.mem_cons_of_mem _ he)) hhf hok e' he
  ·cases i with
   | zero =>
    simp only [resSlots, List.getElem?_cons_zero, Option.some.injEq] at hi hu
    subst hi hu
    obtain ⟨s1, s2⟩ := hst _ List.mem_cons_self
    exact ⟨s2.symm, y.1.length, e, el, y.1, flatB N e B, false, s1, rfl⟩
   | succ i => exact l6 own' E' (fun e he => hst e (List.mem_cons_of_mem _ he)) hok i r u (by simpa [resSlots] using hi) (by simpa using hu)
 | .ag n l :: rs, j, y, us, rl, h => by
  obtain ⟨v, rest, b1, b2, rfl, rfl, ⟨cs, k1, k1', rfl⟩, k3⟩ := h
  obtain ⟨L, l1, l2, l3, l4, l5, l6⟩ := res_rel (B := B) (d := d) rs (j + 1) y.2 rest b2 k3
  obtain ⟨M, m1, m2, m3, m4, m5⟩ := resCells_rel (B := B) (d := d) (j := j) l 0 y.1 cs k1'
  have hvals : ∀ own' E', Stand ((1000 + d + 10000 * j, .vals n (resCells B d j 0 l y.1), v) :: (M ++ L)) own' E' → Stand M own' E' := fun own' E' hst e he => hst e (List.mem_cons_of_mem _ (List.mem_append.2 (.inl he)))
  refine ⟨(1000 + d + 10000 * j, .vals n (resCells B d j 0 l y.1), v) :: (M ++ L), by simp [resNew, Ent.two, l1, m1], by simp [resIds, l2, m2], by simp [l3, m3, k1, oneBlk, blkOf], ?_, by simp [resSlots, l5], fun own' E' hst hok i r u hi hu => ?_⟩
  ·intro own' E' hst hhf hok e' he
   obtain ⟨n1, n2⟩ := m5 own' E' (hvals own' E' hst) hok
   rcases List.mem_cons.1 he with rfl | he
   ·exact ⟨cs.toArray, (hst _ List.mem_cons_self).2.trans k1, by simpa using m4, fun u hu => HCRel_one l y.1 cs k1' u (by simpa using hu), fun i r u hi hu => n2 i r u hi (by simpa using hu)⟩
   ·rcases List.mem_append.1 he with he | he
    ·exact n1 e' he
    ·exact l4 own' E' (fun e he => hst e (List.mem_cons_of_mem _ (List.mem_append.2 (.inr he)))) trivial hok e' he
  ·cases i with
   | zero =>
    simp only [resSlots, List.getElem?_cons_zero, Option.some.injEq] at hi hu
    subst hi hu
    obtain ⟨s1, s2⟩ := hst _ List.mem_cons_self
    exact ⟨.inr (.inr (.inr ⟨n, _, s1⟩)), s2.symm⟩
   | succ i => exact l6 own' E' (fun e he => hst e (List.mem_cons_of_mem _ (List.mem_append.2 (.inr he)))) hok i r u (by simpa [resSlots] using hi) (by simpa using hu)
end Go.Eng

set_option linter.unusedVariables false
set_option linter.unusedSimpArgs false
namespace Go.Eng
variable {N : Names} {io : Io} {w0 w w' : World} {σ : St N} {E : Env} {a : Act} {P : Program}
theorem mem_oneBlk {v : Value} {g : Nat} : g ∈ oneBlk v ↔ blkOf v = some g := by
 unfold oneBlk
 cases blkOf v with
 | none => simp
 | some b =>
  simp only [Option.toList, List.mem_singleton, Option.some.injEq]
  exact eq_comm
def valOf : List (Ent N) → Nat → Value
 | [], _ => .tuple #[]
 | e :: l, i => if e.1 = i then e.2.2 else valOf l i
theorem ent_look : ∀ {L : List (Ent N)}, (L.map (·.1)).Nodup → ∀ e ∈ L, look (L.map Ent.two) e.1 = some e.2.1 ∧ valOf L e.1 = e.2.2
 | [], _, e, he => by cases he
 | x :: L, hn, e, he => by
  rw [List.map_cons, List.nodup_cons] at hn
  rcases List.mem_cons.1 he with rfl | he
  ·exact ⟨by simp [look, Ent.two], by simp [valOf]⟩
  ·have hne : x.1 ≠ e.1 := fun h => hn.1 (List.mem_map.2 ⟨e, he, h.symm⟩)
   obtain ⟨h1, h2⟩ := ent_look hn.2 e he
   have : (x.1 == e.1) = false := by simpa using hne
   exact ⟨by simp only [List.map_cons, look, Ent.two, this, cond_false]; exact h1, by simp only [valOf, if_neg hne]; exact h2⟩
theorem look_ent : ∀ {L : List (Ent N)} {i : Nat} {b : Blk N}, look (L.map Ent.two) i = some b → ∃ e ∈ L, e.1 = i ∧ e.2.1 = b
 | [], _, _, h => by cases h
 | x :: L, i, b, h => by
  simp only [List.map_cons, look, Ent.two] at h
  cases hx : (x.1 == i) with
  | true =>
   rw [hx] at h
   cases h
   exact ⟨x, List.mem_cons_self, by simpa using hx, rfl⟩
  | false =>
   rw [hx] at h
   obtain ⟨e, he, h1, h2⟩ := look_ent (L := L) h
   exact ⟨e, List.mem_cons_of_mem _ he, h1, h2⟩
theorem ent_sep : ∀ {L : List (Ent N)}, (L.flatMap fun e => oneBlk e.2.2).Nodup → ∀ e ∈ L, ∀ e' ∈ L, e.1 ≠ e'.1 → ∀ g, blkOf e.2.2 = some g → blkOf e'.2.2 ≠ some g
 | [], _, e, he, _, _, _, _, _ => by cases he
 | x :: L, hn, e, he, e', he', hne, g, hg => by
  rw [List.flatMap_cons, List.nodup_append] at hn
  rcases List.mem_cons.1 he with rfl | he
  ·rcases List.mem_cons.1 he' with rfl | he'
   ·exact absurd rfl hne
   ·intro hg'
    exact hn.2.2 g (mem_oneBlk.2 hg) g (List.mem_flatMap.2 ⟨e', he', mem_oneBlk.2 hg'⟩) rfl
  ·rcases List.mem_cons.1 he' with rfl | he'
   ·rename_i he2
    intro hg'
    exact hn.2.2 g (mem_oneBlk.2 hg') g (List.mem_flatMap.2 ⟨e, he2, mem_oneBlk.2 hg⟩) rfl
   ·exact ent_sep hn.2.1 e he e' he' hne g hg
theorem killD_nil (r : RV N) : killD [] [] r = r := by
 have h1 : ∀ l, meets [] l = false := fun l => by
  unfold meets
  rw [List.any_eq_false]
  intro i _
  simp
 simp [killD, h1]
theorem killDB_nil (b : Blk N) : killDB [] [] b = b := by
 cases b with
 | cells l =>
  simp only [killDB, Blk.map]
  rw [List.map_congr_left (fun r _ => killD_nil r), List.map_id']
 | vals n l =>
  simp only [killDB, Blk.map]
  rw [List.map_congr_left (fun r _ => killD_nil r), List.map_id']
 | _ => rfl
theorem slotKill_nil (s : Slot N) : s.map (killD [] []) = s := by
 cases s with
 | one r => simp [Slot.map, killD_nil]
 | tup l =>
  simp only [Slot.map]
  rw [List.map_congr_left (fun r _ => killD_nil r), List.map_id']
theorem havR_eq {D U : List Nat} (hU : D = [] → U = []) (σ : St N) (new : List (Nat × Blk N)) :
  havR D U σ new = { regs := σ.regs.map (Slot.map (killD D U)), own := insAll new (delL D (mapO (killDB D U) σ.own)) } := by
 cases D with
 | nil =>
  rw [hU rfl]
  have h1 : σ.regs.map (Slot.map (killD [] [])) = σ.regs := by rw [List.map_congr_left (fun s _ => slotKill_nil s), List.map_id']
  have h2 : mapO (killDB [] []) σ.own = σ.own := by
   unfold mapO
   rw [List.map_congr_left (g := fun p => p) (fun p _ => by rw [killDB_nil]), List.map_id']
  rw [h1, h2]
  rfl
 | cons i r => rfl
theorem nodup_blks (h : RelE io w0 σ E a w) : ∀ {D : List Nat}, D.Nodup → (∀ id ∈ D, ∃ b, look σ.own id = some b) → (D.flatMap fun id => oneBlk (E id)).Nodup
 | [], _, _ => List.nodup_nil
 | i :: D, hn, hs => by
  rw [List.nodup_cons] at hn
  rw [List.flatMap_cons, List.nodup_append]
  refine ⟨?_, nodup_blks h hn.2 (fun id hid => hs id (List.mem_cons_of_mem _ hid)), ?_⟩
  ·unfold oneBlk
   cases blkOf (E i) <;> simp
  ·intro g hg g' hg' e
   subst e
   obtain ⟨j, hj, hg2⟩ := List.mem_flatMap.1 hg'
   obtain ⟨bi, hbi⟩ := hs i List.mem_cons_self
   obtain ⟨bj, hbj⟩ := hs j (List.mem_cons_of_mem _ hj)
   exact h.sep i j bi bj hbi hbj (fun e => hn.1 (e ▸ hj)) g (mem_oneBlk.1 hg) (mem_oneBlk.1 hg2)
theorem packRel {l : List (RV N)} {us : List Value} {own : List (Nat × Blk N)} (hl : us.length = l.length) (h : ∀ (i : Nat) r u, l[i]? = some r → us[i]? = some u → RVRel w own E r u) : SlotRel w own E (packS l) (packV us) := by
 match l, us, hl with
 | [], [], _ => exact ⟨[], rfl, rfl, fun i r u hi _ => by simp at hi⟩
 | [r], [u], _ => exact h 0 r u rfl rfl
 | r :: r2 :: l, u :: u2 :: us, hl => exact ⟨u :: u2 :: us, rfl, hl, h⟩
theorem evCall_sound {β ι : Type} {S : Spec N} {f : FuncId} (hg : Good P f S) {σ : St N} {ρ : ι → RV N} {os : List ι} {dst : Option Nat} {k : Slot N → St N → Option β} {r : β} (h : evCall S σ ρ os dst k = some r) :
  ∃ s σ', k s σ' = some r ∧ σ'.regs.length = σ.regs.length ∧ ∀ io w0 E a w (val : ι → Value), RelE io w0 σ E a w → (∀ o ∈ os, RVRel w σ.own E (ρ o) (val o)) → Calls P f ((os.map val).take (S.ps.length - S.gh)).toArray w fun e w' => ∃ v E', e = .returned v ∧ RelE io w0 σ' E' a w' ∧ SlotRel w' σ'.own E' s v := by
 unfold evCall at h
 split at h
 ·cases h
 ·rename_i x B D U hc
  obtain ⟨hcond, h⟩ := bif_none h
  simp only [Bool.and_eq_true, Bool.not_eq_true'] at hcond
  obtain ⟨⟨⟨⟨hD, hDB⟩, hno⟩, hfr⟩, hrn⟩ := hcond
  have hrn := nodupB_spec hrn
  have hD := nodupB_spec hD
  have hDB := meets_false hDB
  obtain ⟨y, hy, hk⟩ := Option.bind_eq_some_iff.1 h
  refine ⟨_, _, hk, ?_, fun io w0 E a w val hr hρ => ?_⟩
  ·cases D <;> simp [havR]
  obtain ⟨c1, c2, c3⟩ := callIn_rel hr (B0 := B) hρ S.ps os hρ x B D U hc (fun _ h => h)
  have hcall := hg.calls w (okb w.heap.size σ.own E B) x (os.map val) _ y (fun b hb => hb.1.1) c1 (nodup_blks hr hD c2) (fun g hg => by
   obtain ⟨d, hd, hg2⟩ := List.mem_flatMap.1 hg
   obtain ⟨bd, hbd⟩ := c2 d hd
   refine ⟨fun hok => hok.2 d (by rw [hbd]; rfl) (fun hm => hDB d hm hd) (mem_oneBlk.1 hg2), (hr.blk d bd hbd g (mem_oneBlk.1 hg2)).1⟩) hy
  refine hcall.mono ?_
  rintro e w' ⟨us, bl', rl, rfl, hA⟩
  obtain ⟨L1, a1, a2, a3, a4, a5⟩ := callNew_rel (w' := w') (B := B) hr S.ps os hρ x B D U _ bl' hc hD hA.out
  obtain ⟨L2, b1, b2, b3, b4, b5, b6⟩ := res_rel (w' := w') (B := B) (d := dst.getD 0) S.rs 0 _ us rl hA.res
  have hres := freshIds_spec hfr
  have hids : ((L1 ++ L2).map (·.1)).Nodup := by
   rw [List.map_append, b2, List.nodup_append]
   refine ⟨hD.sublist a2.1, hrn, fun i hi j hj e => ?_⟩
   subst e
   obtain ⟨b, hb⟩ := c2 i (a2.1.subset hi)
   rw [hres i hj] at hb
   cases hb
  have hnew : (L1 ++ L2).map Ent.two = callNew σ.own ρ B S.ps os (S.out y).2 ++ resNew B (dst.getD 0) S.rs 0 (S.out y).1 := by
   rw [List.map_append, a1, b1]
  have hblks : ((L1 ++ L2).flatMap fun e => oneBlk e.2.2) = bl' ++ rl := by
   rw [List.flatMap_append, ← a3, ← b3]
  have hinD : ∀ e ∈ L1, e.1 ∈ D := fun e he => a2.1.subset (List.mem_map.2 ⟨e, he, rfl⟩)
  have hinR : ∀ e ∈ L2, e.1 ∈ resIds (dst.getD 0) S.rs 0 := fun e he => by rw [← b2]; exact List.mem_map.2 ⟨e, he, rfl⟩
  rw [← hnew, havR_eq (D := D) (U := U) (fun e => by
   subst e
   cases U with
   | nil => rfl
   | cons i U => exact absurd (c3 i List.mem_cons_self).1 (by simp))]
  generalize hnw : (L1 ++ L2).map Ent.two = new at *
  have hin : ∀ e ∈ L1 ++ L2, look new e.1 = some e.2.1 ∧ valOf (L1 ++ L2) e.1 = e.2.2 := by
   intro e he
   have := ent_look hids e he
   rw [hnw] at this
   exact this
  have hof : ∀ id b, look new id = some b → ∃ e ∈ L1 ++ L2, e.1 = id ∧ e.2.1 = b ∧ valOf (L1 ++ L2) id = e.2.2 := by
   intro id b hb
   rw [← hnw] at hb
   obtain ⟨e, he, rfl, rfl⟩ := look_ent hb
   exact ⟨e, he, rfl, rfl, (hin e he).2⟩
  have hsep := ent_sep (L := L1 ++ L2) (by rw [hblks]; exact hA.nodup)
  have hold : ∀ g ∈ bl' ++ rl, g < w'.heap.size ∧ ((∃ d ∈ D, (look σ.own d).isSome = true ∧ blkOf (E d) = some g) ∨ w.heap.size ≤ g) := by
   intro g hg
   refine ⟨(hA.old g hg).2, ?_⟩
   rcases (hA.old g hg).1 with h1 | h1
   ·obtain ⟨d, hd, hg2⟩ := List.mem_flatMap.1 h1
    obtain ⟨bd, hbd⟩ := c2 d hd
    exact .inl ⟨d, hd, by rw [hbd]; rfl, mem_oneBlk.1 hg2⟩
   ·exact .inr h1
  have hN : NewOk σ.own E D U new (valOf (L1 ++ L2)) w w' := by
   refine ⟨?_, ?_, ?_, ?_, fun id hid b hb => (c3 id hid).2 b hb⟩
   ·intro id b hb g hg
    obtain ⟨e, he, rfl, rfl, hv⟩ := hof id b hb
    rw [hv] at hg
    exact hold g (by rw [← hblks]; exact List.mem_flatMap.2 ⟨e, he, mem_oneBlk.2 hg⟩)
   ·intro id id' b b' hb hb' hne g hg
    obtain ⟨e, he, rfl, rfl, hv⟩ := hof id b hb
    obtain ⟨e', he', rfl, rfl, hv'⟩ := hof id' b' hb'
    rw [hv] at hg
    rw [hv']
    exact hsep e he e' he' hne g hg
   ·intro id b hb
    obtain ⟨e, he, rfl, rfl, hv⟩ := hof id b hb
    rcases List.mem_append.1 he with he | he
    ·exact .inl (hinD e he)
    ·exact .inr (hres _ (hinR e he))
   ·intro id hid hU b hb
    have hid := (a2.2 id hid).resolve_left hU
    obtain ⟨e, he, rfl⟩ := List.mem_map.1 hid
    obtain ⟨h1, h2⟩ := hin e (List.mem_append.2 (.inl he))
    rcases a5 e he with h3 | ⟨b0, h3, h4, h5, h6⟩
    ·exact absurd h3 hU
    ·rw [hb] at h3
     cases h3
     exact ⟨_, h1, h4, by rw [h2, h5], h6⟩
  have hH : HavocW σ.own E D w w' := by
   refine ⟨hA.kept.os, hA.kept.tape, hA.kept.output, hA.kept.size, fun g hg hd => hA.kept.block g hg (fun hm => ?_)⟩
   obtain ⟨d, hdd, hg2⟩ := List.mem_flatMap.1 hm
   obtain ⟨bd, hbd⟩ := c2 d hdd
   exact hd d hdd (by rw [hbd]; rfl) (mem_oneBlk.1 hg2)
  have hlook : ∀ j, look (insAll new (delL D (mapO (killDB D U) σ.own))) j = match look new j with
    | some b => some b
    | none => if j ∈ D then none else (look σ.own j).map (killDB D U) := by
   intro j
   rw [look_insAll, look_delL, look_mapO]
   cases look new j <;> rfl
  have hst : ∀ e ∈ L1 ++ L2, look (insAll new (delL D (mapO (killDB D U) σ.own))) e.1 = some e.2.1 ∧ envOf E new (valOf (L1 ++ L2)) e.1 = e.2.2 := by
   intro e he
   obtain ⟨h1, h2⟩ := hin e he
   exact ⟨by rw [hlook, h1], by rw [envOf_new h1, h2]⟩
  have hok : ∀ g, okAfter (okb w.heap.size σ.own E B) w w' (D.flatMap fun id => oneBlk (E id)) (bl' ++ rl) g → okb w'.heap.size (insAll new (delL D (mapO (killDB D U) σ.own))) (envOf E new (valOf (L1 ++ L2))) B g := by
   rintro g ⟨g1, g2, g3⟩
   refine ⟨⟨g1, ?_⟩, fun id hid hB => ?_⟩
   ·show E.A g
    rcases g2 with g2 | g2 | g2
    ·exact g2.1.2
    ·obtain ⟨d, hd, hg2⟩ := List.mem_flatMap.1 g2
     obtain ⟨bd, hbd⟩ := c2 d hd
     rw [hr.sc]
     exact hr.nw g (hr.blk d bd hbd g (mem_oneBlk.1 hg2)).2
    ·rw [hr.sc]
     exact hr.nw g (.inl (Nat.le_trans hr.kept.size g2))
   ·cases hl : look new id with
    | some b =>
     obtain ⟨e, he, rfl, rfl, hv⟩ := hof id b hl
     rw [envOf_new hl, hv]
     intro hg
     exact g3 (by rw [← hblks]; exact List.mem_flatMap.2 ⟨e, he, mem_oneBlk.2 hg⟩)
    | none =>
     rw [envOf_old hl]
     rw [hlook, hl] at hid
     simp only at hid
     by_cases hidD : id ∈ D
     ·rw [if_pos hidD] at hid; cases hid
     ·rw [if_neg hidD] at hid
      have hs : (look σ.own id).isSome = true := by
       cases h : look σ.own id with
       | none => rw [h] at hid; cases hid
       | some b => rfl
      intro hg
      rcases g2 with g2 | g2 | g2
      ·exact g2.2 id hs hB hg
      ·obtain ⟨d, hd, hg2⟩ := List.mem_flatMap.1 g2
       obtain ⟨bd, hbd⟩ := c2 d hd
       obtain ⟨b, hb⟩ := Option.isSome_iff_exists.1 hs
       exact hr.sep id d b bd hb hbd (fun e => hidD (e ▸ hd)) g hg (mem_oneBlk.1 hg2)
      ·obtain ⟨b, hb⟩ := Option.isSome_iff_exists.1 hs
       have := (hr.blk id b hb g hg).1
       omega
  have hfk : FkOk w' (fnIs ρ os) (os.map val) (insAll new (delL D (mapO (killDB D U) σ.own))) (envOf E new (valOf (L1 ++ L2))) := by
   intro f' js r' hf'
   unfold fnIs at hf'
   split at hf'
   ·rename_i f'' caps
    simp only [Bool.and_eq_true] at hf'
    obtain ⟨hf1, hf2⟩ := hf'
    obtain rfl := Nat.eq_of_beq_eq_true hf1
    obtain ⟨q1, q2⟩ := capsAre_spec hρ js caps hf2
    have hbx : ∀ c ∈ caps, isBox (insAll new (delL D (mapO (killDB D U) σ.own))) c ∧ envOf E new (valOf (L1 ++ L2)) c = E c ∧ ∃ g, E c = .pointer (some ⟨g, 0, none⟩) := by
     intro c hcm
     obtain ⟨o, ho, hoc⟩ := q2 c hcm
     have hro := hρ o ho
     rw [hoc] at hro
     obtain ⟨hbox, g, e1, e2⟩ := hro
     obtain ⟨b, hb⟩ := isBox_some hbox
     have hbp : b.pinned = true := by
      rcases hbox with ⟨t, x, bs, k1⟩ | ⟨l, k1⟩ | ⟨kt, vt, es, k1⟩ | ⟨n, l, k1⟩ <;> (rw [k1] at hb; cases hb; rfl)
     have hcU : c ∉ U := fun hu => by rw [(c3 c hu).2 b hb] at hbp; cases hbp
     have hl := hlook c
     by_cases hcD : c ∈ D
     ·obtain ⟨b', n1, n2, n3, _⟩ := hN.stay c hcD hcU b hb
      refine ⟨?_, by rw [envOf_new n1, n3], g, e1⟩
      rw [n1] at hl
      cases b' with
      | row e' t' xs' bs' p' =>
       rcases hbox with ⟨t, x, bs, k1⟩ | ⟨l, k1⟩ | ⟨kt, vt, es, k1⟩ | ⟨n, l, k1⟩ <;> (rw [k1] at hb; cases hb; exact n2.elim)
      | whole t x bs => exact .inl ⟨t, x, bs, hl⟩
      | cells l => exact .inr (.inl ⟨l, hl⟩)
      | mapB kt vt es => exact .inr (.inr (.inl ⟨kt, vt, es, hl⟩))
      | vals n l => exact .inr (.inr (.inr ⟨n, l, hl⟩))
     ·have hnn : look new c = none := by
       cases hn : look new c with
       | none => rfl
       | some b' =>
        rcases hN.fresh c b' hn with h1 | h1
        ·exact absurd h1 hcD
        ·rw [hb] at h1; cases h1
      refine ⟨?_, envOf_old hnn, g, e1⟩
      rw [hnn] at hl
      simp only [if_neg hcD] at hl
      rcases hbox with ⟨t, x, bs, k1⟩ | ⟨l, k1⟩ | ⟨kt, vt, es, k1⟩ | ⟨n, l, k1⟩
      ·rw [k1] at hl; exact .inl ⟨t, x, bs, hl⟩
      ·rw [k1] at hl; exact .inr (.inl ⟨_, hl⟩)
      ·rw [k1] at hl; exact .inr (.inr (.inl ⟨kt, vt, es, hl⟩))
      ·rw [k1] at hl; exact .inr (.inr (.inr ⟨_, _, hl⟩))
    refine ⟨?_, fun c hcm => ⟨(hbx c hcm).1, (hbx c hcm).2.2.imp fun g hg => (hbx c hcm).2.1.trans hg⟩⟩
    unfold closV
    rw [← q1, List.map_congr_left (fun c hcm => (hbx c hcm).2.1)]
   ·cases hf'
  have hrel := hr.havoc hH hN (noBsD_spec hno) (fun id b hb => by
   obtain ⟨e, he, rfl, rfl, hv⟩ := hof id b hb
   rcases List.mem_append.1 he with he' | he'
   ·exact a4 _ _ (fun e he => hst e (List.mem_append.2 (.inl he))) hfk hok e he'
   ·exact b4 _ _ (fun e he => hst e (List.mem_append.2 (.inr he))) trivial hok e he')
  exact ⟨_, _, rfl, hrel, packRel b5 (b6 _ _ (fun e he => hst e (List.mem_append.2 (.inr he))) hok)⟩
end Go.Eng

set_option linter.unusedVariables false
set_option linter.unusedSimpArgs false
namespace Go.Eng
variable {N : Names} {P : Program} {τ : TypeId → Option TI} {β : Type}
def scal : Ty → Bool
 | .int _ => true
 | .bool => true
 | .str => true
 | _ => false
def keyEq : (t : Ty) → t.den N.ρ → t.den N.ρ → Bool
 | .int _, a, b => decide (a = b)
 | .bool, a, b => decide (a = b)
 | .str, a, b => decide (a = b)
 | _, _, _ => false
def mfind {α β : Type} (eq : α → α → Bool) : List (α × β) → α → Option β
 | [], _ => none
 | (k, z) :: r, x => bif eq x k then some z else mfind eq r x
def mset {α β : Type} (eq : α → α → Bool) : List (α × β) → α → β → List (α × β)
 | [], x, y => [(x, y)]
 | (k, z) :: r, x, y => bif eq x k then (x, y) :: r else (k, z) :: mset eq r x y
def hasK {α : Type} : Option α → Bool
 | some _ => true
 | none => false
def orZ {α : Type} : Option α → α → α
 | some x, _ => x
 | none, z => z
def KeyDesc : Ty → TypeDesc → Prop
 | .int k, d => d = .int k
 | .bool, d => d = .bool
 | .str, d => d = .string
 | _, _ => False
theorem keyDesc (F : Fits P N τ) {t e : TypeId} {kt : Ty} (h : τ t = some ⟨kt, e⟩) (hs : scal kt = true) : ∃ d, P.underlying t = some d ∧ KeyDesc kt d := by
 cases kt with
 | int k => exact ⟨_, (F.int t k e h).1, rfl⟩
 | bool => exact ⟨_, (F.bool t e h).1, rfl⟩
 | str => exact ⟨_, (F.str t e h).1, rfl⟩
 | _ => cases hs
theorem isKey_of {kt : Ty} {d : TypeDesc} {x : kt.den N.ρ} {v : Value} (hd : KeyDesc kt d) (h : ScalRel kt x v) : MapKept.IsKey d v := by
 cases kt with
 | int k => cases hd; cases h; exact rfl
 | bool => cases hd; cases h; exact trivial
 | str => cases hd; obtain ⟨s, rfl, _⟩ := h; exact trivial
 | _ => exact h.elim
theorem scal_eq {kt : Ty} {x y : kt.den N.ρ} {v u : Value} (hx : ScalRel kt x v) (hy : ScalRel kt y u) : keyEq (N := N) kt x y = true ↔ v = u := by
 cases kt with
 | int k => cases hx; cases hy; simp [keyEq]
 | bool => cases hx; cases hy; simp [keyEq]
 | str =>
  obtain ⟨s, rfl, rfl⟩ := hx
  obtain ⟨s', rfl, rfl⟩ := hy
  simp only [keyEq, decide_eq_true_eq, Value.string.injEq]
  exact ⟨bytesL_inj, fun h => by rw [h]⟩
 | _ => exact hx.elim
theorem find_rel {kt vt : Ty} {d : TypeDesc} (hd : KeyDesc kt d) {x : kt.den N.ρ} {v : Value} (hx : ScalRel kt x v) : ∀ (es : List (kt.den N.ρ × vt.den N.ρ)) (arr : List MapEntry) (i : Nat), MapRel kt vt es arr →
  (mfind (keyEq (N := N) kt) es x = none ∧ Instr.findNow d v arr i = some none ∧ ∀ y u c, ScalRel vt y u → MapRel kt vt (mset (keyEq (N := N) kt) es x y) (arr ++ [⟨v, u, c⟩])) ∨
  ∃ j e z, mfind (keyEq (N := N) kt) es x = some z ∧ Instr.findNow d v arr i = some (some (i + j, e.val)) ∧ arr[j]? = some e ∧ e.key = v ∧ ScalRel vt z e.val ∧ ∀ y u, ScalRel vt y u → MapRel kt vt (mset (keyEq (N := N) kt) es x y) (arr.modify j fun e => { e with key := v, val := u })
 | [], arr, i, h => by
  rw [show arr = [] from h]
  exact .inl ⟨rfl, rfl, fun y u c hu => ⟨_, [], rfl, hx, hu, rfl⟩⟩
 | (k, z) :: xs, arr, i, h => by
  obtain ⟨e, rest, rfl, h1, h2, h3⟩ := h
  have hk := isKey_of hd hx
  have hk' := isKey_of hd h1
  obtain ⟨r, hr, hiff⟩ := MapKept.sameNow_of_keys hk hk'
  have hse := scal_eq hx h1
  cases hke : keyEq (N := N) kt x k with
  | true =>
   have hv : v = e.key := hse.1 hke
   have hrt : r = true := hiff.2 hv
   subst hrt
   refine .inr ⟨0, e, z, by simp [mfind, hke], by simp [Instr.findNow, hr], rfl, hv.symm, h2, fun y u hu => ?_⟩
   simp only [mset, hke, cond_true, List.modify_zero_cons]
   exact ⟨_, rest, rfl, hx, hu, h3⟩
  | false =>
   have hrf : r = false := by
    cases r with
    | false => rfl
    | true =>
     have := hse.2 (hiff.1 rfl)
     rw [hke] at this
     cases this
   subst hrf
   rcases find_rel hd hx xs rest (i + 1) h3 with ⟨q1, q2, q3⟩ | ⟨j, e', z', q1, q2, q3, q4, q5, q6⟩
   ·refine .inl ⟨by simp [mfind, hke, q1], by simp [Instr.findNow, hr, q2], fun y u c hu => ?_⟩
    simp only [mset, hke, cond_false, List.cons_append]
    exact ⟨e, _, rfl, h1, h2, q3 y u c hu⟩
   ·refine .inr ⟨j + 1, e', z', by simp [mfind, hke, q1], by simp [Instr.findNow, hr, q2]; omega, by simpa using q3, q4, q5, fun y u hu => ?_⟩
    simp only [mset, hke, cond_false, List.modify_succ_cons]
    exact ⟨e, _, rfl, h1, h2, q6 y u hu⟩
def toScal (t : Ty) (r : RV N) : Option (t.den N.ρ) :=
 match r with
 | .int k n => castTy N (.int k) t n
 | .bool b => castTy N .bool t b
 | .str l => castTy N .str t l
 | _ => none
theorem toScal_rel {w : World} {own : List (Nat × Blk N)} {E : Env} {t : Ty} {r : RV N} {v : Value} {x : t.den N.ρ} (h : toScal t r = some x) (hr : RVRel w own E r v) : ScalRel t x v := by
 cases r with
 | int k n => obtain ⟨e, rfl⟩ := castTy_some h; subst e; exact hr
 | bool b => obtain ⟨e, rfl⟩ := castTy_some h; subst e; exact hr
 | str l => obtain ⟨e, rfl⟩ := castTy_some h; subst e; exact hr
 | _ => cases h
theorem scal_rv {w : World} {own : List (Nat × Blk N)} {E : Env} {t : Ty} {x : t.den N.ρ} {v : Value} (h : ScalRel t x v) : RVRel w own E (ofDen t x []) v := by
 cases t with
 | int k => exact h
 | bool => exact h
 | str => exact h
 | _ => exact h.elim
def mapTys (τ : TypeId → Option TI) (t : TypeId) : Option (Ty × Ty) :=
 match τ t with
 | some ⟨.opq, e⟩ => bif decide (e ≤ 1) then none else match τ (e / 100000), τ (e % 100000) with
  | some ⟨kt, _⟩, some ⟨vt, _⟩ => bif scal kt && scal vt then some (kt, vt) else none
  | _, _ => none
 | _ => none
theorem mapTys_spec (F : Fits P N τ) {t : TypeId} {kt vt : Ty} (h : mapTys τ t = some (kt, vt)) : ∃ k e ek ee, P.underlying t = some (.map k e) ∧ τ k = some ⟨kt, ek⟩ ∧ τ e = some ⟨vt, ee⟩ ∧ scal kt = true ∧ scal vt = true := by
 unfold mapTys at h
 split at h
 ·rename_i e hτ
  cases he : decide (e ≤ 1) with
  | true => rw [he] at h; cases h
  | false =>
   rw [he] at h
   simp only [cond_false] at h
   split at h
   ·rename_i kt' ek vt' ee h1 h2
    obtain ⟨hs, h⟩ := bif_none h
    cases h
    simp only [Bool.and_eq_true] at hs
    have he : ¬ e ≤ 1 := by simpa using he
    rcases F.mp t e hτ with h0 | ⟨h0, _⟩ | ⟨_, h0⟩
    ·subst h0; exact absurd (by decide) he
    ·subst h0; exact absurd (by decide) he
    ·exact ⟨_, _, _, _, h0, h1, h2, hs.1, hs.2⟩
   ·cases h
 ·cases h
def evMakeMap (τ : TypeId → Option TI) (σ : St N) (t : TypeId) (res : Option Operand) (dst : Option Nat) (k : KK N β) : Option β :=
 match dst with
 | none => none
 | some d => match look σ.own (1000 + d) with
  | some _ => none
  | none => match mapTys τ t with
   | some (kt, vt) => match res with
    | none => k (.one (.mp (1000 + d))) [(1000 + d, .mapB kt vt [])]
    | some o => match ev σ o with
     | .int _ _ => k (.one (.mp (1000 + d))) [(1000 + d, .mapB kt vt [])]
     | _ => none
   | none => none
theorem evMakeMap_sound (F : Fits P N τ) {σ : St N} {t : TypeId} {res : Option Operand} {dst : Option Nat} {k : KK N β} {r : β} (h : evMakeMap τ σ t res dst k = some r) :
  ∃ s ad, k s ad = some r ∧ Does P σ (fun a => Instr.makeMap t (res.map a.eval)) s ad := by
 unfold evMakeMap at h
 split at h
 ·cases h
 ·rename_i d
  split at h
  ·cases h
  ·rename_i hl
   split at h
   ·rename_i kt vt hm
    obtain ⟨kk, ee, ek, ev', hu, _⟩ := mapTys_spec F hm
    have key : (∀ io w0 E a w, RelE io w0 σ E a w → (Instr.makeMap t (res.map a.eval)).run P w = .ok (.map (some w.heap.size)) (w.alloc (.map #[] 0))) →
      k (.one (.mp (1000 + d))) [(1000 + d, .mapB kt vt [])] = some r → ∃ s ad, k s ad = some r ∧ Does P σ (fun a => Instr.makeMap t (res.map a.eval)) s ad := by
     intro hrun hk
     refine ⟨_, _, hk, fun io w0 E a w hr => ?_⟩
     have he := Ext.alloc w (.map #[] 0)
     have hadd := hr.add he (V := .map (some w.heap.size)) (b := .mapB kt vt []) hl (fun g hg => by cases hg; exact ⟨Nat.le_refl _, by simp⟩) ⟨w.heap.size, #[], 0, updE_same _ _ _, heap_alloc_new w _, rfl⟩
     exact ⟨_, _, _, hrun io w0 E a w hr, hadd, .inr (.inr (.inl ⟨kt, vt, [], by rw [show insAll [(1000 + d, Blk.mapB kt vt [])] σ.own = ins _ _ σ.own from rfl, look_ins, if_pos rfl]⟩)), (updE_same _ _ _).symm⟩
    split at h
    ·exact key (fun io w0 E a w hr => rfl) h
    ·rename_i o
     split at h
     ·rename_i k' n hn
      refine key (fun io w0 E a w hr => ?_) h
      have hv := hr.ev o
      rw [hn] at hv
      have hv : a.eval o = .int k' n := hv
      simp [Instr.makeMap, hv, run_underlying hu, asInt, asIntOf]
     ·cases h
   ·cases h
def evLookup (τ : TypeId → Option TI) (own : List (Nat × Blk N)) (t : TypeId) (m x : RV N) (ok : Bool) (k : KK N β) : Option β :=
 match m with
 | .mp id => match look own id with
  | some (.mapB kt vt es) => match mapTys τ t with
   | some (kt', vt') => bif decide (kt' = kt) && decide (vt' = vt) then match toScal kt x with
    | some key => bif ok then k (.tup [ofDen vt (orZ (mfind (keyEq (N := N) kt) es key) (N.dflt vt)) [], .bool (hasK (mfind (keyEq (N := N) kt) es key))]) [] else k (.one (ofDen vt (orZ (mfind (keyEq (N := N) kt) es key) (N.dflt vt)) [])) []
    | none => none
    else none
   | none => none
  | _ => none
 | _ => none
theorem zero_scal (F : Fits P N τ) {t e : TypeId} {vt : Ty} (h : τ t = some ⟨vt, e⟩) (hs : scal vt = true) : ∃ z, (∀ w, (zeroValue t).run P w = .ok z w) ∧ ScalRel vt (N.dflt vt) z := by
 obtain ⟨i, z, zc, h1, h2, h3, h4, h5, h6, h7⟩ := F.info h
 refine ⟨z, fun w => by simp [zeroValue, typeInfo, h1, h2], ?_⟩
 have h7 := h7 default (fun _ => True)
 cases vt with
 | int k =>
  have h6 : zc.toList = [z] := h6
  rw [h6] at h7
  cases h7
  exact rfl
 | bool =>
  have h6 : zc.toList = [z] := h6
  rw [h6] at h7
  cases h7
  exact rfl
 | str =>
  have h6 : zc.toList = [z] := h6
  rw [h6] at h7
  obtain ⟨s, hs, hb⟩ := h7
  cases hs
  exact ⟨s, rfl, hb⟩
 | _ => cases hs
theorem evLookup_sound (F : Fits P N τ) {σ : St N} {t : TypeId} {m x : Operand} {ok : Bool} {k : KK N β} {r : β} (h : evLookup τ σ.own t (ev σ m) (ev σ x) ok k = some r) :
  ∃ s ad, k s ad = some r ∧ Does P σ (fun a => Instr.lookup t (a.eval m) (a.eval x) ok) s ad := by
 unfold evLookup at h
 split at h
 ·rename_i id hid
  split at h
  ·rename_i kt vt es hlk
   split at h
   ·rename_i kt' vt' hm
    obtain ⟨ht, h⟩ := bif_none h
    simp only [Bool.and_eq_true, decide_eq_true_eq] at ht
    obtain ⟨rfl, rfl⟩ := ht
    split at h
    ·rename_i key hkey
     obtain ⟨kk, ee, ek, ev', hu, hτk, hτe, hsk, hsv⟩ := mapTys_spec F hm
     obtain ⟨d, hd, hkd⟩ := keyDesc F hτk hsk
     obtain ⟨z, hz, hzr⟩ := zero_scal F hτe hsv
     have run : ∀ io w0 E a w, RelE io w0 σ E a w → ∃ u, ScalRel vt' (orZ (mfind (keyEq (N := N) kt') es key) (N.dflt vt')) u ∧ (Instr.lookup t (a.eval m) (a.eval x) ok).run P w = .ok (if ok then .tuple #[u, .bool (hasK (mfind (keyEq (N := N) kt') es key))] else u) w := by
      intro io w0 E a w hr
      have hmv := hr.ev m
      rw [hid] at hmv
      obtain ⟨_, hmv⟩ := hmv
      obtain ⟨g, arr, clock, c1, c2, c3⟩ := hr.own id _ hlk
      rw [c1] at hmv
      have hx := toScal_rel hkey (hr.ev x)
      have hik := isKey_of hkd hx
      rcases find_rel hkd hx es arr.toList 0 c3 with ⟨q1, q2, q3⟩ | ⟨j, e, y, q1, q2, q3, q4, q5, q6⟩
      ·refine ⟨z, by rw [q1]; exact hzr, ?_⟩
       simp [Instr.lookup, run_underlying hu, hmv, MapKept.run_getObj_map c2, MapKept.run_checkKey hd hik, MapKept.run_findKey hd q2, hz, q1, hasK]
      ·refine ⟨e.val, by rw [q1]; exact q5, ?_⟩
       simp [Instr.lookup, run_underlying hu, hmv, MapKept.run_getObj_map c2, MapKept.run_checkKey hd hik, MapKept.run_findKey hd q2, q1, hasK]
     cases ok with
     | true =>
      refine ⟨_, _, h, fun io w0 E a w hr => ?_⟩
      obtain ⟨u, u1, u2⟩ := run io w0 E a w hr
      refine ⟨_, w, E, u2, hr, [u, .bool (hasK (mfind (keyEq (N := N) kt') es key))], rfl, rfl, fun i r' v hi hv => ?_⟩
      match i, hi, hv with
      | 0, hi, hv =>
       simp only [List.getElem?_cons_zero, Option.some.injEq] at hi hv
       subst hi hv
       exact scal_rv u1
      | 1, hi, hv =>
       simp only [List.getElem?_cons_succ, List.getElem?_cons_zero, Option.some.injEq] at hi hv
       subst hi hv
       exact rfl
      | n + 2, hi, hv => simp at hi
     | false =>
      refine ⟨_, _, h, fun io w0 E a w hr => ?_⟩
      obtain ⟨u, u1, u2⟩ := run io w0 E a w hr
      exact ⟨_, w, E, u2, hr, scal_rv u1⟩
    ·cases h
   ·cases h
  ·cases h
 ·cases h
def evMapUpdate (τ : TypeId → Option TI) (σ : St N) (t : TypeId) (m x y : RV N) (k : St N → Option β) : Option β :=
 match m with
 | .mp id => match look σ.own id with
  | some (.mapB kt vt es) => match mapTys τ t with
   | some (kt', vt') => bif decide (kt' = kt) && decide (vt' = vt) && noBs' σ.own id then match toScal kt x, toScal vt y with
    | some key, some v => k { regs := σ.regs.map (Slot.map (scrub id)), own := ins id (.mapB kt vt (mset (keyEq (N := N) kt) es key v)) σ.own }
    | _, _ => none
    else none
   | none => none
  | _ => none
 | _ => none
theorem grown_setBlk {w : World} {g : Nat} (o : Obj) : w.grownBy { w with heap := w.heap.setIfInBounds g o } (some g) :=
 ⟨rfl, rfl, rfl, by simp, fun k hk hne => by
  simp only
  rw [Array.getElem?_setIfInBounds_ne]
  intro e
  exact hne (by rw [e])⟩
theorem evMapUpdate_sound (F : Fits P N τ) {σ : St N} {t : TypeId} {m x y : Operand} {k : St N → Option β} {r : β} (h : evMapUpdate τ σ t (ev σ m) (ev σ x) (ev σ y) k = some r) :
  ∃ σ', k σ' = some r ∧ DoesS P σ (fun a => Instr.mapUpdate t (a.eval m) (a.eval x) (a.eval y)) σ' := by
 unfold evMapUpdate at h
 split at h
 ·rename_i id hid
  split at h
  ·rename_i kt vt es hlk
   split at h
   ·rename_i kt' vt' hm
    obtain ⟨ht, h⟩ := bif_none h
    simp only [Bool.and_eq_true, decide_eq_true_eq] at ht
    obtain ⟨⟨rfl, rfl⟩, hno⟩ := ht
    split at h
    ·rename_i key v hkey hv
     obtain ⟨kk, ee, ek, ev', hu, hτk, hτe, hsk, hsv⟩ := mapTys_spec F hm
     obtain ⟨d, hd, hkd⟩ := keyDesc F hτk hsk
     refine ⟨_, h, fun io w0 E a w hr => ?_⟩
     have hmv := hr.ev m
     rw [hid] at hmv
     obtain ⟨_, hmv⟩ := hmv
     obtain ⟨g, arr, clock, c1, c2, c3⟩ := hr.own id _ hlk
     rw [c1] at hmv
     have hx := toScal_rel hkey (hr.ev x)
     have hy := toScal_rel hv (hr.ev y)
     have hik := isKey_of hkd hx
     have hblk : blkOf (E id) = some g := by rw [c1]; rfl
     have hlt : g < w.heap.size := (Array.getElem?_eq_some_iff.1 c2).1
     have fin : ∀ o : Obj, (∃ arr' clock', o = .map arr' clock' ∧ MapRel kt' vt' (mset (keyEq (N := N) kt') es key v) arr'.toList) →
       RelE io w0 { regs := σ.regs.map (Slot.map (scrub id)), own := ins id (.mapB kt' vt' (mset (keyEq (N := N) kt') es key v)) σ.own } E a { w with heap := w.heap.setIfInBounds g o } := by
      rintro o ⟨arr', clock', rfl, ho⟩
      refine hr.store hlk trivial (fun h => h) (by rw [hblk]; exact grown_setBlk _) (noBs'_spec hno) ⟨g, arr', clock', c1, ?_, ho⟩
      simp [hlt]
     rcases find_rel hkd hx es arr.toList 0 c3 with ⟨q1, q2, q3⟩ | ⟨j, e, z, q1, q2, q3, q4, q5, q6⟩
     ·refine ⟨_, E, ?_, fin (.map (arr.push { key := a.eval x, val := a.eval y, born := clock }) (clock + 1)) ⟨_, _, rfl, by simpa using q3 v (a.eval y) clock hy⟩⟩
      simp [Instr.mapUpdate, run_underlying hu, hmv, MapKept.run_getObj_map c2, MapKept.run_checkKey hd hik, MapKept.run_findKey hd q2, MapKept.run_setObj_map _ c2]
     ·have hj : arr[j]? = some e := by simpa using q3
      refine ⟨_, E, ?_, fin (.map (arr.modify j fun e => { e with key := a.eval x, val := a.eval y }) clock) ⟨_, _, rfl, by simpa using q6 v (a.eval y) hy⟩⟩
      simp [Instr.mapUpdate, run_underlying hu, hmv, MapKept.run_getObj_map c2, MapKept.run_checkKey hd hik, MapKept.run_findKey hd q2, hj, q4, MapKept.run_keyThatStays hik, MapKept.run_setObj_map _ c2]
    ·cases h
   ·cases h
  ·cases h
 ·cases h
end Go.Eng

set_option linter.unusedVariables false
set_option linter.unusedSimpArgs false
namespace Go.Eng
variable {N : Names} {P : Program} {τ : TypeId → Option TI} {β : Type}
def DoesO (P : Program) (o : Oper) (σ σ' : St N) : Prop :=
 ∀ io w0 a w (K : Act → World → Prop) (Q : Exit → Act → World → Prop), Rel io w0 σ a w → (∀ a' w', Rel io w0 σ' a' w' → K a' w') → o.wp P a w K Q
def fin1 (σ : St N) (d : Option Nat) (k : St N → Option β) : KK N β := fun s ad => k (({ σ with own := insAll ad σ.own } : St N).put d s)
def fin2 (d : Option Nat) (k : St N → Option β) : Slot N → St N → Option β := fun s σ' => k (σ'.put d s)
inductive Arg where
 | op (o : Operand)
 | cap (id : Nat)
def argR (σ : St N) : Arg → RV N
 | .op o => ev σ o
 | .cap id => match look σ.own id with
  | some (.whole _ _ _) => .bptr id 0
  | some (.cells _) => .bptr id 0
  | _ => .undef
def argV (a : Act) (E : Env) : Arg → Value
 | .op o => a.eval o
 | .cap id => E id
def fnArg : List (RV N) → Option FuncId
 | [] => none
 | .fn g _ :: _ => some g
 | _ :: l => fnArg l
def pickS (Φ : FuncId → Option (Spec N)) (f : FuncId) (rs : List (RV N)) : Option (Spec N) :=
 bif Nat.blt f 1000000 then match fnArg rs with
  | some g => match Φ (f + 1000000 * (g + 1)) with
   | some S => some S
   | none => Φ f
  | none => Φ f
 else none
def ctab : List CK → List (RV N) → List (Nat × Nat)
 | .f _ js :: l, .fn _ caps :: rs => js.zip caps ++ ctab l rs
 | _ :: l, _ :: rs => ctab l rs
 | _, _ => []
def gtab (own : List (Nat × Blk N)) : List PK → List (RV N) → List (Nat × Nat)
 | .fn _ js :: ps, .fn _ caps :: rs => js.zip caps ++ gtab own ps rs
 | .bc l :: ps, .bptr id 0 :: rs => match look own id with
  | some (.cells us) => ctab l us ++ gtab own ps rs
  | _ => gtab own ps rs
 | _ :: ps, _ :: rs => gtab own ps rs
 | _, _ => []
def ghostIds (own : List (Nat × Blk N)) (ps : List PK) : Nat → List (RV N) → List Nat
 | 0, _ => []
 | g + 1, rs => match look (gtab own ps rs) rs.length with
  | some id => id :: ghostIds own ps g (rs ++ [.bptr id 0])
  | none => 0 :: ghostIds own ps g (rs ++ [.undef])
theorem ghostIds_length (own : List (Nat × Blk N)) (ps : List PK) : ∀ (g : Nat) (rs : List (RV N)), (ghostIds own ps g rs).length = g
 | 0, _ => rfl
 | g + 1, rs => by
  unfold ghostIds
  split <;> simp [ghostIds_length own ps g]
theorem pickS_good {Φ : FuncId → Option (Spec N)} (hΦ : ∀ f S, Φ f = some S → Good P (f % 1000000) S) {f : FuncId} {rs : List (RV N)} {S : Spec N} (h : pickS Φ f rs = some S) : Good P f S := by
 unfold pickS at h
 cases hb : Nat.blt f 1000000 with
 | false => rw [hb] at h; cases h
 | true =>
 rw [hb, cond_true] at h
 have hlt : f < 1000000 := by simpa [Nat.blt_eq] using hb
 have h0 : Φ f = some S → Good P f S := fun h => by
  have := hΦ f S h
  rwa [Nat.mod_eq_of_lt hlt] at this
 split at h
 ·rename_i g _
  split at h
  ·rename_i S' hS
   cases h
   have := hΦ _ _ hS
   rwa [Nat.add_mul_mod_self_left, Nat.mod_eq_of_lt hlt] at this
  ·exact h0 h
 ·exact h0 h
def evCallee (Φ : FuncId → Option (Spec N)) (σ : St N) (dst : Option Nat) (f : RV N) (os : List Operand) (k : Slot N → St N → Option β) : Option β :=
 match f with
 | .fn f caps => match pickS Φ f (os.map (ev σ)) with
  | some S => bif Nat.beq S.ps.length ((os.map Arg.op ++ caps.map Arg.cap).length + S.gh) then
    evCall S σ (argR σ) ((os.map Arg.op ++ caps.map Arg.cap) ++ (ghostIds σ.own S.ps S.gh ((os.map Arg.op ++ caps.map Arg.cap).map (argR σ))).map Arg.cap) dst k
   else none
  | none => none
 | _ => none
def evMoveS (τ : TypeId → Option TI) (σ : St N) (ty : TypeId) (dst : Option Nat) (x : Operand) (k : KK N β) : Option β :=
 match x with
 | .tmp t => match σ.reg t with
  | .tup l => k (.tup l) []
  | _ => evMove τ σ.own ty dst (ev σ x) k
 | _ => evMove τ σ.own ty dst (ev σ x) k
theorem evMoveS_sound {σ : St N} {ty : TypeId} {dst : Option Nat} {x : Operand} {k : KK N β} {r : β} (h : evMoveS τ σ ty dst x k = some r) :
  ∃ s ad, k s ad = some r ∧ Does P σ (fun a => pure (a.eval x)) s ad := by
 unfold evMoveS at h
 split at h
 ·rename_i t
  split at h
  ·rename_i l hl
   refine ⟨_, _, h, fun io w0 E a w hr => ?_⟩
   have hlt : t < σ.regs.length := by
    rcases Nat.lt_or_ge t σ.regs.length with h' | h'
    ·exact h'
    ·unfold St.reg at hl
     rw [List.getD_eq_getElem?_getD, List.getElem?_eq_none h'] at hl
     cases hl
   have hs : σ.regs[t]? = some (.tup l) := by
    unfold St.reg at hl
    rw [List.getD_eq_getElem?_getD, List.getElem?_eq_getElem hlt] at hl
    rw [List.getElem?_eq_getElem hlt]
    exact congrArg some hl
   exact ⟨_, w, E, rfl, hr, hr.regs t _ hs⟩
  ·exact evMove_sound h
 ·exact evMove_sound h
def isNilC : Operand → Bool
 | .const (.slice none 0 0) => true
 | _ => false
def evNil (τ : TypeId → Option TI) (own : List (Nat × Blk N)) (op : BinOp) (t : TypeId) (x : RV N) (k : RV N → Option β) : Option β :=
 match τ t with
 | some ⟨.sl e, _⟩ => match toDen own (.sl e) x with
  | some (l, _) => match op with
   | .eql => if l.length = 0 then none else k (.bool false)
   | .neq => if l.length = 0 then none else k (.bool true)
   | _ => none
  | none => none
 | _ => none
theorem run_equal_nil {t el : TypeId} (u1 : P.underlying t = some (.slice el)) (A : Addr) (n cap : Nat) (w : World) : (Op.equal t (.slice (some A) n cap) (.slice none 0 0)).run P w = .ok false w := by
 have one : ∀ d, (Op.equalIn (d + 1) t (.slice (some A) n cap) (.slice none 0 0)).run P w = .ok false w := fun d => by
  rw [Op.equalIn]
  simp [run_underlying u1]
 exact one _
theorem evNil_sound (F : Fits P N τ) {σ : St N} {op : BinOp} {t : TypeId} {x : Operand} {k : RV N → Option β} {r : β} (h : evNil τ σ.own op t (ev σ x) k = some r) :
  ∃ z, k z = some r ∧ ∀ io w0 E a w, RelE io w0 σ E a w → ∃ v, ∀ X Y, (do eqGuard op t X Y (a.eval x) (.slice none 0 0); binOp op t (a.eval x) (.slice none 0 0)).run P w = .ok v w ∧ RVRel w σ.own E z v := by
 unfold evNil at h
 split at h
 ·rename_i e el hτ
  split at h
  ·rename_i l bs hl
   have key : l.length ≠ 0 → ∀ io w0 E a w, RelE io w0 σ E a w → ∃ A n cap, a.eval x = .slice (some A) n cap := fun hn io w0 E a w hr => by
    obtain ⟨cs, ⟨A, cap, c1, c2, c2', c3⟩, k2⟩ := hr.toDen hl (hr.ev x)
    have c4 : cs = [a.eval x] := k2
    rw [c1] at c4
    have c5 : a.eval x = .slice A l.length cap := (List.cons.inj c4).1.symm
    cases A with
    | none => have := c2' rfl; omega
    | some A => exact ⟨A, _, _, c5⟩
   obtain ⟨u1, _⟩ := F.sl t e el hτ
   split at h
   ·split at h
    ·cases h
    ·rename_i hn
     refine ⟨_, h, fun io w0 E a w hr => ⟨.bool false, fun X Y => ⟨?_, rfl⟩⟩⟩
     obtain ⟨A, n, cap, hx⟩ := key hn io w0 E a w hr
     rw [hx]
     simp [eqGuard, binOp, run_equal_nil u1]
   ·split at h
    ·cases h
    ·rename_i hn
     refine ⟨_, h, fun io w0 E a w hr => ⟨.bool true, fun X Y => ⟨?_, rfl⟩⟩⟩
     obtain ⟨A, n, cap, hx⟩ := key hn io w0 E a w hr
     rw [hx]
     simp [eqGuard, binOp, run_equal_nil u1]
   ·cases h
  ·cases h
 ·cases h
def isNilF : Operand → Bool
 | .const .nilFunc => true
 | _ => false
theorem isNilF_spec {y : Operand} (h : isNilF y = true) : y = .const .nilFunc := by
 unfold isNilF at h
 split at h
 ·rfl
 ·cases h
def evNilF (τ : TypeId → Option TI) (op : BinOp) (t : TypeId) (x : RV N) (k : RV N → Option β) : Option β :=
 match τ t with
 | some ⟨.opq, 1⟩ => match op, x with
  | .eql, .fn _ _ => k (.bool false)
  | .neq, .fn _ _ => k (.bool true)
  | .eql, .nilf => k (.bool true)
  | .neq, .nilf => k (.bool false)
  | _, _ => none
 | _ => none
theorem run_equal_nilF {t : TypeId} {ps rs v} (u1 : P.underlying t = some (.func ps rs v)) (f : Fn) (b c : Array Value) (w : World) : (Op.equal t (.func f b c) .nilFunc).run P w = .ok false w := by
 have one : ∀ d, (Op.equalIn (d + 1) t (.func f b c) .nilFunc).run P w = .ok false w := fun d => by
  rw [Op.equalIn]
  simp [run_underlying u1]
 exact one _
theorem run_equal_nilN {t : TypeId} {ps rs v} (u1 : P.underlying t = some (.func ps rs v)) (w : World) : (Op.equal t .nilFunc .nilFunc).run P w = .ok true w := by
 have one : ∀ d, (Op.equalIn (d + 1) t .nilFunc .nilFunc).run P w = .ok true w := fun d => by
  rw [Op.equalIn]
  simp [run_underlying u1]
 exact one _
theorem evNilF_sound (F : Fits P N τ) {σ : St N} {op : BinOp} {t : TypeId} {x : Operand} {k : RV N → Option β} {r : β} (h : evNilF τ op t (ev σ x) k = some r) :
  ∃ z, k z = some r ∧ ∀ io w0 E a w, RelE io w0 σ E a w → ∃ v, ∀ X Y, (do eqGuard op t X Y (a.eval x) .nilFunc; binOp op t (a.eval x) .nilFunc).run P w = .ok v w ∧ RVRel w σ.own E z v := by
 unfold evNilF at h
 split at h
 ·rename_i hτ
  obtain ⟨ps, rs, vv, hu⟩ : ∃ ps rs v, P.underlying t = some (.func ps rs v) := by
   rcases F.mp t 1 hτ with h0 | ⟨_, h0⟩ | ⟨h0, _⟩
   ·cases h0
   ·exact h0
   ·exact absurd h0 (by decide)
  have hfn : ∀ {io w0 E a w f caps}, ev σ x = .fn f caps → RelE io w0 σ E a w → ∃ c, a.eval x = .func (.func f) #[] c := fun {io w0 E a w f caps} hx hr => by
   have := hr.ev x
   rw [hx] at this
   exact ⟨_, this.1⟩
  have hnl : ∀ {io w0 E a w}, ev σ x = .nilf → RelE io w0 σ E a w → a.eval x = .nilFunc := fun {io w0 E a w} hx hr => by
   have := hr.ev x
   rw [hx] at this
   exact this
  split at h
  ·rename_i f caps hx
   refine ⟨_, h, fun io w0 E a w hr => ⟨.bool false, fun X Y => ⟨?_, rfl⟩⟩⟩
   obtain ⟨c, hc⟩ := hfn hx hr
   rw [hc]
   simp [eqGuard, binOp, run_equal_nilF hu]
  ·rename_i f caps hx
   refine ⟨_, h, fun io w0 E a w hr => ⟨.bool true, fun X Y => ⟨?_, rfl⟩⟩⟩
   obtain ⟨c, hc⟩ := hfn hx hr
   rw [hc]
   simp [eqGuard, binOp, run_equal_nilF hu]
  ·rename_i hx
   refine ⟨_, h, fun io w0 E a w hr => ⟨.bool true, fun X Y => ⟨?_, rfl⟩⟩⟩
   rw [hnl hx hr]
   simp [eqGuard, binOp, run_equal_nilN hu]
  ·rename_i hx
   refine ⟨_, h, fun io w0 E a w hr => ⟨.bool false, fun X Y => ⟨?_, rfl⟩⟩⟩
   rw [hnl hx hr]
   simp [eqGuard, binOp, run_equal_nilN hu]
  ·cases h
 ·cases h
def evOp (τ : TypeId → Option TI) (Φ : FuncId → Option (Spec N)) (o : Oper) (σ : St N) (k : St N → Option β) : Option β :=
 match o.op with
 | .move x => evMoveS τ σ o.type o.dst x (fin1 σ o.dst k)
 | .assign x => evMoveS τ σ o.type o.dst x (fin1 σ o.dst k)
 | .pick c x y => match ev σ c with
  | .bool b => bif b then evMove τ σ.own o.type o.dst (ev σ x) (fin1 σ o.dst k) else evMove τ σ.own o.type o.dst (ev σ y) (fin1 σ o.dst k)
  | _ => none
 | .alloc t => evAlloc τ σ.own t o.dst (fin1 σ o.dst k)
 | .box t x => evBox τ σ.own t o.dst (ev σ x) (fin1 σ o.dst k)
 | .build t ps => evBuild τ σ t o.dst ps.toList (fin1 σ o.dst k)
 | .buildSlice t n ps => evBuildSlice τ σ t n ps.toList o.dst (fin1 σ o.dst k)
 | .load t x => evLoad τ σ.own t o.dst (ev σ x) (fin1 σ o.dst k)
 | .store t x y => evStore τ σ t (ev σ x) (ev σ y) fun σ' => k (σ'.put o.dst (.tup []))
 | .nilCheck x => match ev σ x with
  | .bptr i j => k (σ.put o.dst (.one (.bptr i j)))
  | .sptr t y bs => k (σ.put o.dst (.one (.sptr t y bs)))
  | .optr i j l => k (σ.put o.dst (.one (.optr i j l)))
  | .fn f caps => k (σ.put o.dst (.one (.fn f caps)))
  | _ => none
 | .binOp op t x y _ => match isNilC y with
  | true => evNil τ σ.own op t (ev σ x) fun z => k (σ.put o.dst (.one z))
  | false => match isNilF y with
   | true => evNilF τ op t (ev σ x) fun z => k (σ.put o.dst (.one z))
   | false => evBin τ op t (ev σ x) (ev σ y) fun z => k (σ.put o.dst (.one z))
 | .unOp op _ x => evUn op (ev σ x) fun z => k (σ.put o.dst (.one z))
 | .convert t t' x => evConv τ σ t t' o.dst (ev σ x) (fin1 σ o.dst k)
 | .makeFunc (.func f) fs cs => match fs.toList with
  | [] => match boxIds σ cs.toList with
   | some ids => k (σ.put o.dst (.one (.fn f ids)))
   | none => none
  | _ => none
 | .makeMap t res => evMakeMap τ σ t res o.dst (fin1 σ o.dst k)
 | .lookup t x i ok => evLookup τ σ.own t (ev σ x) (ev σ i) ok (fin1 σ o.dst k)
 | .mapUpdate t m x y => evMapUpdate τ σ t (ev σ m) (ev σ x) (ev σ y) fun σ' => k (σ'.put o.dst (.tup []))
 | .insert t m x y => evMapUpdate τ σ t (ev σ m) (ev σ x) (ev σ y) fun σ' => k (σ'.put o.dst (.tup []))
 | .makeSlice t l c => evMake τ σ t o.dst l c (fin1 σ o.dst k)
 | .slice t x lo hi none => evSlice τ σ t o.dst (ev σ x) lo hi (fin1 σ o.dst k)
 | .fieldAddr t x f => evFieldAddr τ t (ev σ x) f (fin1 σ o.dst k)
 | .field t x f => evField τ σ.own t o.dst (ev σ x) f (fin1 σ o.dst k)
 | .indexAddr t x i => evIndexAddr τ σ.own t (ev σ x) (ev σ i) (fin1 σ o.dst k)
 | .index t x i => evIndex τ t (ev σ x) (ev σ i) (fin1 σ o.dst k)
 | .extract x i => match x with
  | .tmp t => match σ.reg t with
   | .tup l => match l[i]? with
    | some r => k (σ.put o.dst (.one r))
    | none => none
   | _ => none
  | _ => none
 | .call c => match c.callee with
  | .value f => evCallee Φ σ o.dst (ev σ f) c.args.toList (fin2 o.dst k)
  | .builtin .len => match c.args.toList, c.argTypes.toList with
   | [x], [t] => evLen τ σ.own t (ev σ x) (fin1 σ o.dst k)
   | _, _ => none
  | .builtin .append => match c.args.toList, c.argTypes.toList with
   | [x, y], [t, t'] => evAppend τ σ t t' o.dst (ev σ x) (ev σ y) (fin2 o.dst k)
   | _, _ => none
  | .builtin .copy => match c.args.toList, c.argTypes.toList with
   | [x, y], [t, t'] => evCopyO τ σ t t' (ev σ x) (ev σ y) (fin2 o.dst k)
   | _, _ => none
  | .builtin .min => match c.args.toList with
   | [x, y] => evMM true (ev σ x) (ev σ y) (fin1 σ o.dst k)
   | _ => none
  | .builtin .max => match c.args.toList with
   | [x, y] => evMM false (ev σ x) (ev σ y) (fin1 σ o.dst k)
   | _ => none
  | _ => none
 | _ => none
where
 boxIds (σ : St N) : List Operand → Option (List Nat)
  | [] => some []
  | x :: l => match ev σ x, boxIds σ l with
   | .bptr i 0, some ids => some (i :: ids)
   | _, _ => none
theorem upon_run {o : Oper} {s : Sem Value} {a : Act} {w w' : World} {v : Value} {K : Act → World → Prop} {Q : Exit → Act → World → Prop}
  (h : execOp a.eval o = (do pure (Next.value (← s)))) (hr : s.run P w = .ok v w') (hk : K (a.put o.dst v) w') : o.wp P a w K Q := by
 unfold Oper.wp
 rw [h]
 simp only [Sem.run_bind, hr, Result.andThen_ok, Sem.run_pure]
 exact hk
theorem doesO_of {o : Oper} {σ : St N} {run : Act → Sem Value} {s : Slot N} {ad : List (Nat × Blk N)} (he : ∀ a : Act, execOp a.eval o = (do pure (Next.value (← run a)))) (h : Does P σ run s ad) :
  DoesO P o σ (({ σ with own := insAll ad σ.own } : St N).put o.dst s) := by
 rintro io w0 a w K Q ⟨E, hr⟩ hk
 obtain ⟨v, w', E', h1, h2, h3⟩ := h io w0 E a w hr
 exact upon_run (he a) h1 (hk _ _ ⟨E', h2.put o.dst h3⟩)
theorem doesO_ofW {o : Oper} {σ σ' : St N} {run : Act → Sem Value} {s : Slot N} (he : ∀ a : Act, execOp a.eval o = (do pure (Next.value (← run a)))) (h : DoesW P σ run s σ') :
  DoesO P o σ (σ'.put o.dst s) := by
 rintro io w0 a w K Q ⟨E, hr⟩ hk
 obtain ⟨v, w', E', h1, h2, h3⟩ := h io w0 E a w hr
 exact upon_run (he a) h1 (hk _ _ ⟨E', h2.put o.dst h3⟩)
theorem sound1 {o : Oper} {σ : St N} {run : Act → Sem Value} {k : St N → Option β} {r : β} (he : ∀ a : Act, execOp a.eval o = (do pure (Next.value (← run a))))
  (h : ∃ s ad, fin1 σ o.dst k s ad = some r ∧ Does P σ run s ad) : ∃ σ', k σ' = some r ∧ DoesO P o σ σ' := by
 obtain ⟨s, ad, h1, h2⟩ := h
 exact ⟨_, h1, doesO_of he h2⟩
theorem sound2 {o : Oper} {σ : St N} {run : Act → Sem Value} {k : St N → Option β} {r : β} (he : ∀ a : Act, execOp a.eval o = (do pure (Next.value (← run a))))
  (h : ∃ s σ', fin2 o.dst k s σ' = some r ∧ DoesW P σ run s σ') : ∃ σ', k σ' = some r ∧ DoesO P o σ σ' := by
 obtain ⟨s, ad, h1, h2⟩ := h
 exact ⟨_, h1, doesO_ofW he h2⟩
theorem boxIds_spec {io : Io} {w0 w : World} {σ : St N} {E : Env} {a : Act} (h : RelE io w0 σ E a w) : ∀ {l : List Operand} {ids : List Nat}, evOp.boxIds σ l = some ids →
  l.map a.eval = ids.map E.val ∧ ∀ id ∈ ids, isBox σ.own id ∧ ∃ g, E id = .pointer (some ⟨g, 0, none⟩)
 | [], ids, hl => by
  cases hl
  exact ⟨rfl, fun _ h => by cases h⟩
 | x :: l, ids, hl => by
  simp only [evOp.boxIds] at hl
  split at hl
  ·rename_i i ids' hx hl'
   cases hl
   obtain ⟨h1, h2⟩ := boxIds_spec h hl'
   have hv := h.ev x
   rw [hx] at hv
   obtain ⟨k1, g, k2, k3⟩ := hv
   refine ⟨by simp only [List.map_cons, h1, k3, k2], fun id hid => ?_⟩
   rcases List.mem_cons.1 hid with rfl | hid
   ·exact ⟨k1, g, k2⟩
   ·exact h2 id hid
  ·cases hl
theorem enter_wp {S : Spec N} {f : FuncId} (hg : Good P f S) {o : Oper} {c : Call} (ho : o.op = .call c) {f' : Operand} (hc : c.callee = .value f') {a : Act} {w : World} {caps : List Value} (hf : a.eval f' = .func (.func f) #[] caps.toArray)
  {K : Act → World → Prop} {Q : Exit → Act → World → Prop} (h : Calls P f (c.args.map a.eval ++ caps.toArray) w fun e w' => ∃ v, e = .returned v ∧ K (a.put o.dst v) w') : o.wp P a w K Q := by
 have he : (execOp a.eval o).run P w = .ok (.enter f (c.args.map a.eval ++ caps.toArray)) w := by
  unfold execOp
  simp only [ho, resolve, hc, hf, Deferred.ofValue, Array.empty_append, Sem.run_bind, Sem.run_pure, Result.andThen_ok, invoke]
  exact hg.enter w _
 unfold Oper.wp
 rw [he]
 simp only [Oper.upon]
 refine h.mono ?_
 rintro e w' ⟨v, rfl, hv⟩
 exact hv
theorem evOp_sound (F : Fits P N τ) {Φ : FuncId → Option (Spec N)} (hΦ : ∀ f S, Φ f = some S → Good P (f % 1000000) S) {o : Oper} {σ : St N} {k : St N → Option β} {r : β} (h : evOp τ Φ o σ k = some r) :
  ∃ σ', k σ' = some r ∧ DoesO P o σ σ' := by
 obtain ⟨dst, op, ty, pos, after, guard⟩ := o
 unfold evOp at h
 cases op with
 | move x => exact sound1 (run := fun a => pure (a.eval x)) (fun _ => rfl) (evMoveS_sound (P := P) h)
 | assign x => exact sound1 (run := fun a => pure (a.eval x)) (fun _ => rfl) (evMoveS_sound (P := P) h)
 | pick c x y =>
  simp only at h
  split at h
  ·rename_i b hb
   have key : ∀ z, (b = true → z = x) → (b = false → z = y) → evMove τ σ.own ty dst (ev σ z) (fin1 σ dst k) = some r → ∃ σ', k σ' = some r ∧ DoesO P ⟨dst, .pick c x y, ty, pos, after, guard⟩ σ σ' := by
    intro z h1 h2 h
    obtain ⟨s, ad, k1, k2⟩ := evMove_sound (P := P) h
    refine ⟨_, k1, ?_⟩
    rintro io w0 a w K Q ⟨E, hr⟩ hk
    obtain ⟨v, w', E', h3, h4, h5⟩ := k2 io w0 E a w hr
    have hcv := hr.ev c
    rw [hb] at hcv
    have hcv : a.eval c = .bool b := hcv
    refine upon_run (s := pure (if b then a.eval x else a.eval y)) ?_ ?_ (hk _ _ ⟨E', h4.put dst h5⟩)
    ·simp only [execOp, hcv, asBool]
     rfl
    ·cases b with
     | true => rw [if_pos rfl, ← h1 rfl]; exact h3
     | false => rw [if_neg (by simp), ← h2 rfl]; exact h3
   cases b with
   | true => exact key x (fun _ => rfl) (fun e => by cases e) h
   | false => exact key y (fun e => by cases e) (fun _ => rfl) h
  ·cases h
 | alloc t => exact sound1 (fun _ => rfl) (evAlloc_sound F h)
 | box t x => exact sound1 (fun _ => rfl) (evBox_sound F h)
 | build t ps => exact sound1 (fun _ => rfl) (evBuild_sound F h)
 | buildSlice t n ps => exact sound1 (fun _ => rfl) (evBuildSlice_sound F h)
 | load t x => exact sound1 (fun _ => rfl) (evLoad_sound F h)
 | store t x y =>
  obtain ⟨σ', h1, h2⟩ := evStore_sound F h
  refine ⟨_, h1, ?_⟩
  rintro io w0 a w K Q ⟨E, hr⟩ hk
  obtain ⟨w', E', h3, h4⟩ := h2 io w0 E a w hr
  unfold Oper.wp
  simp only [execOp, Sem.run_bind, h3, Result.andThen_ok, Sem.run_pure]
  exact hk _ _ ⟨E', h4.put dst (s := .tup []) ⟨[], rfl, rfl, fun i r u hi _ => by simp at hi⟩⟩
 | nilCheck x =>
  simp only at h
  have hp : ∀ (a : Act) ad, a.eval x = .pointer (some ad) → execOp a.eval ⟨dst, .nilCheck x, ty, pos, after, guard⟩ = (do pure (Next.value (← (pure (a.eval x) : Sem Value)))) := by
   intro a ad hx
   simp only [execOp, hx]
   rfl
  have go : ∀ z, ev σ x = z → (∀ w own E v, RVRel (N := N) w own E z v → ∃ ad, v = .pointer (some ad)) → k (σ.put dst (.one z)) = some r → ∃ σ', k σ' = some r ∧ DoesO P ⟨dst, .nilCheck x, ty, pos, after, guard⟩ σ σ' := by
   intro z hz hv hk
   refine ⟨_, hk, ?_⟩
   rintro io w0 a w K Q ⟨E, hr⟩ hK
   have hxr := hr.ev x
   rw [hz] at hxr
   obtain ⟨ad, had⟩ := hv _ _ _ _ hxr
   exact upon_run (hp a ad had) rfl (hK _ _ ⟨E, hr.put dst hxr⟩)
  split at h
  ·rename_i i j hx
   exact go _ hx (fun w own E v hv => by obtain ⟨_, g, _, e⟩ := hv; exact ⟨_, e⟩) h
  ·rename_i t y bs hx
   exact go _ hx (fun w own E v hv => by obtain ⟨ad, cs, e, _⟩ := hv; exact ⟨_, e⟩) h
  ·rename_i i j l hx
   exact go _ hx (fun w own E v hv => by obtain ⟨g, cap, n, t, _, _, _, e⟩ := hv; exact ⟨_, e⟩) h
  ·rename_i f caps hx
   refine ⟨_, h, ?_⟩
   rintro io w0 a w K Q ⟨E, hr⟩ hK
   have hxr := hr.ev x
   rw [hx] at hxr
   have hv := hxr.1
   refine upon_run (s := pure (a.eval x)) ?_ rfl (hK _ _ ⟨E, hr.put dst hxr⟩)
   simp only [execOp, hv]
   rfl
  ·cases h
 | binOp op t x y yt =>
  simp only at h
  split at h
  ·rename_i hy
   have hy' : y = .const (.slice none 0 0) := by
    unfold isNilC at hy
    split at hy
    ·rfl
    ·cases hy
   subst hy'
   obtain ⟨z, h1, h2⟩ := evNil_sound F h
   refine ⟨_, h1, ?_⟩
   rintro io w0 a w K Q ⟨E, hr⟩ hK
   obtain ⟨v, h3⟩ := h2 io w0 E a w hr
   exact upon_run (s := do eqGuard op t x (.const (.slice none 0 0)) (a.eval x) (a.eval (.const (.slice none 0 0))); binOp op t (a.eval x) (a.eval (.const (.slice none 0 0)))) rfl (h3 _ _).1 (hK _ _ ⟨E, hr.put dst (s := .one z) (h3 x x).2⟩)
  split at h
  ·rename_i hy
   obtain rfl := isNilF_spec hy
   obtain ⟨z, h1, h2⟩ := evNilF_sound F h
   refine ⟨_, h1, ?_⟩
   rintro io w0 a w K Q ⟨E, hr⟩ hK
   obtain ⟨v, h3⟩ := h2 io w0 E a w hr
   exact upon_run (s := do eqGuard op t x (.const .nilFunc) (a.eval x) (a.eval (.const .nilFunc)); binOp op t (a.eval x) (a.eval (.const .nilFunc))) rfl (h3 _ _).1 (hK _ _ ⟨E, hr.put dst (s := .one z) (h3 x x).2⟩)
  obtain ⟨z, h1, h2⟩ := evBin_sound F h
  refine ⟨_, h1, ?_⟩
  rintro io w0 a w K Q ⟨E, hr⟩ hK
  obtain ⟨v, h3, h4⟩ := h2 w _ E _ _ x y (hr.ev x) (hr.ev y)
  exact upon_run (s := do eqGuard op t x y (a.eval x) (a.eval y); binOp op t (a.eval x) (a.eval y)) rfl h3 (hK _ _ ⟨E, hr.put dst (s := .one z) h4⟩)
 | unOp op t x =>
  simp only at h
  obtain ⟨z, h1, h2⟩ := evUn_sound h
  refine ⟨_, h1, ?_⟩
  rintro io w0 a w K Q ⟨E, hr⟩ hK
  obtain ⟨v, h3, h4⟩ := h2 P w _ E _ (hr.ev x)
  exact upon_run (s := Op.unary op (a.eval x)) rfl h3 (hK _ _ ⟨E, hr.put dst (s := .one z) (h4 _ _ _)⟩)
 | convert t t' x => exact sound1 (fun _ => rfl) (evConv_sound F h)
 | makeFunc fn fs cs =>
  cases fn with
  | func f =>
   simp only at h
   split at h
   ·rename_i hfs
    split at h
    ·rename_i ids hids
     refine ⟨_, h, ?_⟩
     rintro io w0 a w K Q ⟨E, hr⟩ hK
     obtain ⟨b1, b2⟩ := boxIds_spec hr hids
     have hfs' : fs = #[] := by
      obtain ⟨l⟩ := fs
      simp only at hfs
      rw [hfs]
     refine upon_run (s := Instr.makeFunc (.func f) (fs.map a.eval) (cs.map a.eval)) rfl rfl (hK _ _ ⟨E, hr.put dst (s := .one (.fn f ids)) ⟨?_, b2⟩⟩)
     rw [hfs', ← b1]
     have hcs : cs.map a.eval = (cs.toList.map a.eval).toArray := by rw [← Array.toList_map]
     rw [hcs]
     simp
    ·cases h
   ·cases h
  | _ => cases h
 | makeMap t res => exact sound1 (run := fun a => Instr.makeMap t (res.map a.eval)) (fun _ => rfl) (evMakeMap_sound F h)
 | lookup t x i ok => exact sound1 (fun _ => rfl) (evLookup_sound F h)
 | mapUpdate t m x y =>
  obtain ⟨σ', h1, h2⟩ := evMapUpdate_sound F h
  refine ⟨_, h1, ?_⟩
  rintro io w0 a w K Q ⟨E, hr⟩ hk
  obtain ⟨w', E', h3, h4⟩ := h2 io w0 E a w hr
  unfold Oper.wp
  simp only [execOp, Sem.run_bind, h3, Result.andThen_ok, Sem.run_pure]
  exact hk _ _ ⟨E', h4.put dst (s := .tup []) ⟨[], rfl, rfl, fun i r u hi _ => by simp at hi⟩⟩
 | insert t m x y =>
  obtain ⟨σ', h1, h2⟩ := evMapUpdate_sound F h
  refine ⟨_, h1, ?_⟩
  rintro io w0 a w K Q ⟨E, hr⟩ hk
  obtain ⟨w', E', h3, h4⟩ := h2 io w0 E a w hr
  unfold Oper.wp
  simp only [execOp, Sem.run_bind, h3, Result.andThen_ok, Sem.run_pure]
  exact hk _ _ ⟨E', h4.put dst (s := .tup []) ⟨[], rfl, rfl, fun i r u hi _ => by simp at hi⟩⟩
 | makeSlice t l c => exact sound1 (fun _ => rfl) (evMake_sound F h)
 | slice t x lo hi mx =>
  cases mx with
  | none => exact sound1 (fun _ => rfl) (evSlice_sound F h)
  | some m => cases h
 | fieldAddr t x f => exact sound1 (fun _ => rfl) (evFieldAddr_sound F h)
 | field t x f => exact sound1 (fun _ => rfl) (evField_sound F h)
 | indexAddr t x i => exact sound1 (fun _ => rfl) (evIndexAddr_sound F h)
 | index t x i => exact sound1 (fun _ => rfl) (evIndex_sound F h)
 | extract x i =>
  simp only at h
  split at h
  ·rename_i t
   split at h
   ·rename_i l hl
    split at h
    ·rename_i z hz
     refine ⟨_, h, ?_⟩
     rintro io w0 a w K Q ⟨E, hr⟩ hK
     have hlt : t < σ.regs.length := by
      rcases Nat.lt_or_ge t σ.regs.length with h' | h'
      ·exact h'
      ·unfold St.reg at hl
       rw [List.getD_eq_getElem?_getD, List.getElem?_eq_none h'] at hl
       cases hl
     have hs : σ.regs[t]? = some (.tup l) := by
      unfold St.reg at hl
      rw [List.getD_eq_getElem?_getD, List.getElem?_eq_getElem hlt] at hl
      rw [List.getElem?_eq_getElem hlt]
      exact congrArg some hl
     obtain ⟨vs, v1, v2, v3⟩ := hr.regs t _ hs
     have hlen := (List.getElem?_eq_some_iff.1 hz).1
     obtain ⟨u, hu⟩ : ∃ u, vs[i]? = some u := ⟨_, List.getElem?_eq_getElem (by omega)⟩
     have hev : a.eval (.tmp t) = .tuple vs.toArray := by
      rw [← v1]
      simp only [Act.eval]
     refine upon_run (s := Instr.extract (a.eval (.tmp t)) i) (v := u) rfl ?_ (hK _ _ ⟨E, hr.put dst (s := .one z) (v3 i z u hz hu)⟩)
     rw [hev]
     simp only [Instr.extract, List.getElem?_toArray, hu]
     rfl
    ·cases h
   ·cases h
  ·cases h
 | call c =>
  simp only at h
  split at h
  ·rename_i f hf
   unfold evCallee at h
   split at h
   ·rename_i f' caps hfn
    split at h
    ·rename_i S hS
     obtain ⟨hlen, h⟩ := bif_none h
     have hlen := Nat.eq_of_beq_eq_true hlen
     have hgood := pickS_good hΦ hS
     obtain ⟨s, σ', h1, _, h2⟩ := evCall_sound hgood h
     refine ⟨_, h1, ?_⟩
     rintro io w0 a w K Q ⟨E, hr⟩ hK
     have hfv := hr.ev f
     rw [hfn] at hfv
     refine enter_wp hgood rfl hf hfv.1 ?_
     generalize hgs : ghostIds σ.own S.ps S.gh ((c.args.toList.map Arg.op ++ caps.map Arg.cap).map (argR σ)) = gs at *
     have hgl : gs.length = S.gh := by rw [← hgs]; exact ghostIds_length _ _ _ _
     have hargs : ∀ x ∈ (c.args.toList.map Arg.op ++ caps.map Arg.cap) ++ gs.map Arg.cap, RVRel w σ.own E (argR σ x) (argV a E x) := by
      intro x hx
      cases x with
      | op y => exact hr.ev y
      | cap y =>
       simp only [argR]
       split
       ·rename_i t x bs hl
        obtain ⟨g, T, arr, c1, _⟩ := hr.own y _ hl
        exact ⟨.inl ⟨_, _, _, hl⟩, g, c1, c1⟩
       ·rename_i l hl
        obtain ⟨g, T, arr, c1, _⟩ := hr.own y _ hl
        exact ⟨.inr (.inl ⟨_, hl⟩), g, c1, c1⟩
       ·trivial
     have := h2 io w0 E a w (argV a E) hr hargs
     have hl : ((List.map (argV a E) ((c.args.toList.map Arg.op ++ caps.map Arg.cap) ++ gs.map Arg.cap)).take (S.ps.length - S.gh)).toArray = c.args.map a.eval ++ (caps.map E.val).toArray := by
      rw [List.map_append, List.take_append_of_le_length (by rw [List.length_map]; omega), List.take_of_length_le (by rw [List.length_map]; omega)]
      generalize c.args = ar
      obtain ⟨l⟩ := ar
      simp [Function.comp_def, argV]
     rw [hl] at this
     refine this.mono ?_
     rintro e w' ⟨v, E', rfl, k1, k2⟩
     exact ⟨v, rfl, hK _ _ ⟨E', k1.put dst k2⟩⟩
    ·cases h
   ·cases h
  ·rename_i hb
   split at h
   ·rename_i x t hx ht
    have hx' : c.args = #[x] := Array.ext' hx
    have ht' : c.argTypes = #[t] := Array.ext' ht
    refine sound1 (run := fun a => Builtin.len_ #[t] ty #[a.eval x]) (fun a => ?_) (evLen_sound F h)
    simp only [execOp, resolve, hb, hx', ht', List.map_toArray, List.map]
    rfl
   ·cases h
  ·rename_i hb
   split at h
   ·rename_i x y t t' hx ht
    have hx' : c.args = #[x, y] := Array.ext' hx
    have ht' : c.argTypes = #[t, t'] := Array.ext' ht
    refine sound2 (run := fun a => Builtin.append_ #[t, t'] ty #[a.eval x, a.eval y]) (fun a => ?_) (evAppend_sound F h)
    simp only [execOp, resolve, hb, hx', ht', List.map_toArray, List.map]
    rfl
   ·cases h
  ·rename_i hb
   split at h
   ·rename_i x y t t' hx ht
    have hx' : c.args = #[x, y] := Array.ext' hx
    have ht' : c.argTypes = #[t, t'] := Array.ext' ht
    refine sound2 (run := fun a => Builtin.copy_ #[t, t'] ty #[a.eval x, a.eval y]) (fun a => ?_) (evCopyO_sound F h)
    simp only [execOp, resolve, hb, hx', ht', List.map_toArray, List.map]
    rfl
   ·cases h
  ·rename_i hb
   split at h
   ·rename_i x y hx
    have hx' : c.args = #[x, y] := Array.ext' hx
    refine sound1 (run := fun a => Builtin.min_ c.argTypes ty #[a.eval x, a.eval y]) (fun a => ?_) (evMin_sound h)
    simp only [execOp, resolve, hb, hx', List.map_toArray, List.map]
    rfl
   ·cases h
  ·rename_i hb
   split at h
   ·rename_i x y hx
    have hx' : c.args = #[x, y] := Array.ext' hx
    refine sound1 (run := fun a => Builtin.max_ c.argTypes ty #[a.eval x, a.eval y]) (fun a => ?_) (evMax_sound h)
    simp only [execOp, resolve, hb, hx', List.map_toArray, List.map]
    rfl
   ·cases h
  ·cases h
 | _ => cases h
/-! Rows of operations. -/
def guardReg (ops : List Oper) (g : Nat) : Option Nat := match ops[g]? with
 | some o => o.dst
 | none => none
def execOps (τ : TypeId → Option TI) (Φ : FuncId → Option (Spec N)) (ops : List Oper) : List Oper → St N → (St N → Option β) → Option β
 | [], σ, k => k σ
 | o :: rest, σ, k => match o.guard with
  | none => evOp τ Φ o σ fun σ' => execOps τ Φ ops rest σ' k
  | some (g, want) => match guardReg ops g with
   | none => execOps τ Φ ops rest (σ.put o.dst (.tup [])) k
   | some d => match σ.reg d with
    | .one (.bool b) =>
     bif b then
      (bif want then evOp τ Φ o (σ.putS d (.one (.bool true))) fun σ' => execOps τ Φ ops rest σ' k
      else execOps τ Φ ops rest ((σ.putS d (.one (.bool true))).put o.dst (.tup [])) k)
     else
      (bif want then execOps τ Φ ops rest ((σ.putS d (.one (.bool false))).put o.dst (.tup [])) k
      else evOp τ Φ o (σ.putS d (.one (.bool false))) fun σ' => execOps τ Φ ops rest σ' k)
    | .tup [] => execOps τ Φ ops rest (σ.put o.dst (.tup [])) k
    | _ => none
theorem Rel.skip {io : Io} {w0 w : World} {σ : St N} {a : Act} (h : Rel io w0 σ a w) (d : Option Nat) : Rel io w0 (σ.put d (.tup [])) (a.put d undef) w := by
 obtain ⟨E, h⟩ := h
 exact ⟨E, h.put d ⟨[], rfl, rfl, fun i r u hi _ => by simp at hi⟩⟩
theorem Rel.reput {io : Io} {w0 w : World} {σ : St N} {a : Act} {d : Nat} {s : Slot N} (h : Rel io w0 σ a w) (hs : ∀ E, RelE io w0 σ E a w → SlotRel w σ.own E s (a.tmps.getD d undef)) : Rel io w0 (σ.putS d s) a w := by
 obtain ⟨E, h⟩ := h
 have := h.put (some d) (hs E h)
 have he : a.put (some d) (a.tmps.getD d undef) = a := by
  obtain ⟨t, df⟩ := a
  simp only [Act.put, Act.mk.injEq, and_true]
  apply Array.ext_getElem?
  intro i
  rw [Array.getElem?_setIfInBounds]
  by_cases hi : d = i
  ·subst hi
   rw [if_pos rfl]
   by_cases hlt : d < t.size
   ·simp [hlt]
   ·simp [hlt]
  ·rw [if_neg hi]
 rw [he] at this
 exact ⟨E, this⟩
theorem reg_slot {io : Io} {w0 w : World} {σ : St N} {E : Env} {a : Act} (h : RelE io w0 σ E a w) {d : Nat} {s : Slot N} (hs : σ.reg d = s) (hne : s ≠ .one .undef) : SlotRel w σ.own E s (a.tmps.getD d undef) ∧ d < a.tmps.size := by
 unfold St.reg at hs
 rw [List.getD_eq_getElem?_getD] at hs
 rcases Nat.lt_or_ge d σ.regs.length with h' | h'
 ·rw [List.getElem?_eq_getElem h'] at hs
  exact ⟨h.regs d s (by rw [List.getElem?_eq_getElem h']; exact congrArg some hs), by rw [h.size]; exact h'⟩
 ·rw [List.getElem?_eq_none h'] at hs
  exact absurd hs.symm hne
theorem guardReg_toArray {ops : List Oper} {g : Nat} : guardReg ops g = ((ops.toArray)[g]?).bind (·.dst) := by
 unfold guardReg
 rw [List.getElem?_toArray]
 cases ops[g]? <;> rfl
theorem execOps_sound (F : Fits P N τ) {Φ : FuncId → Option (Spec N)} (hΦ : ∀ f S, Φ f = some S → Good P (f % 1000000) S) {ops : List Oper} {k : St N → Option β} {r : β} {io : Io} {w0 : World} {Q : Exit → Act → World → Prop}
  (hk : ∀ σ a w, k σ = some r → Rel io w0 σ a w → Q .normal a w) : ∀ (l : List Oper) (σ : St N), execOps τ Φ ops l σ k = some r → ∀ a w, Rel io w0 σ a w → wpList P ops.toArray Q l a w
 | [], σ, h, a, w, hr => hk σ a w h hr
 | o :: rest, σ, h, a, w, hr => by
  have ih := execOps_sound F hΦ (ops := ops) hk rest
  have hstep : ∀ σ0, Rel io w0 σ0 a w → (evOp τ Φ o σ0 fun σ' => execOps τ Φ ops rest σ' k) = some r → o.wp P a w (wpList P ops.toArray Q rest) Q := by
   intro σ0 hr0 h0
   obtain ⟨σ', h1, h2⟩ := evOp_sound F hΦ h0
   exact h2 io w0 a w _ Q hr0 (fun a' w' hr' => ih σ' h1 a' w' hr')
  simp only [execOps] at h
  simp only [wpList]
  split at h
  ·rename_i hg
   rw [if_pos (by simp [Region.wanted, hg])]
   exact .inl (hstep σ hr h)
  ·rename_i g want hg
   have hW : Region.wanted o (yielded ops.toArray a.tmps) = (yielded ops.toArray a.tmps g == some want) := by simp [Region.wanted, hg]
   have hskip : ∀ σ0, Rel io w0 σ0 a w → Region.wanted o (yielded ops.toArray a.tmps) = false → execOps τ Φ ops rest (σ0.put o.dst (.tup [])) k = some r →
     (if Region.wanted o (yielded ops.toArray a.tmps) = true then o.wp P a w (wpList P ops.toArray Q rest) Q ∨ (o.asks P a w ∧ LetsOut Q) else wpList P ops.toArray Q rest (a.put o.dst undef) w) := by
    intro σ0 hr0 hw0 h0
    rw [hw0, if_neg (by simp)]
    exact ih _ h0 _ _ (hr0.skip o.dst)
   have hy : yielded ops.toArray a.tmps g = match (guardReg ops g).bind (a.tmps[·]?) with
     | some (.bool b) => some b
     | _ => none := by
    unfold yielded
    rw [guardReg_toArray]
    rfl
   split at h
   ·rename_i hgr
    refine hskip σ hr ?_ h
    rw [hW, hy, hgr]
    rfl
   ·rename_i d hgr
    split at h
    ·rename_i b hb
     obtain ⟨E, hrE⟩ := hr
     obtain ⟨hv, hlt⟩ := reg_slot hrE hb (by simp)
     have hv : a.tmps.getD d undef = .bool b := hv
     have hyb : yielded ops.toArray a.tmps g = some b := by
      rw [hy, hgr]
      simp only [Option.bind_some]
      rw [Array.getD_eq_getD_getElem?, Array.getElem?_eq_getElem hlt] at hv
      rw [Array.getElem?_eq_getElem hlt]
      simp only [Option.getD_some] at hv
      rw [hv]
     have hre : Rel io w0 (σ.putS d (.one (.bool b))) a w := Rel.reput ⟨E, hrE⟩ (fun E' hE' => hv)
     rw [hyb] at hW
     cases b with
     | true =>
      simp only [cond_true] at h
      cases want with
      | true =>
       rw [hW]
       exact .inl (hstep _ hre h)
      | false => exact hskip _ hre (by rw [hW]; rfl) h
     | false =>
      simp only [cond_false] at h
      cases want with
      | true => exact hskip _ hre (by rw [hW]; rfl) h
      | false =>
       rw [hW]
       exact .inl (hstep _ hre h)
    ·rename_i hb
     obtain ⟨E, hrE⟩ := hr
     obtain ⟨⟨vs, hv, hl, _⟩, hlt⟩ := reg_slot hrE hb (by simp)
     refine hskip σ ⟨E, hrE⟩ ?_ h
     rw [hW, hy, hgr]
     simp only [Option.bind_some]
     rw [Array.getD_eq_getD_getElem?, Array.getElem?_eq_getElem hlt] at hv
     rw [Array.getElem?_eq_getElem hlt]
     simp only [Option.getD_some] at hv
     rw [hv]
     rfl
    ·cases h
end Go.Eng
