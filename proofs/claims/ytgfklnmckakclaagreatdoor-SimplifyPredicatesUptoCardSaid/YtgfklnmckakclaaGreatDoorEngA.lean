/- The engine, part A: codes of types, what they denote, the abstract values and states. Nothing of any program stands here. -/
import Derived.WalkKit
import Derived.OwnWalk
import Derived.Maps.AppendAt
import Derived.Laws.BytesArg
import Derived.Laws.MakeOwn
import Derived.Laws.OwnMore
import Derived.Laws.Slices
import Derived.Laws.Rows
import Derived.KernelRfl
import Derived.Below
import Derived.Orders
set_option linter.unusedVariables false
namespace Go.Eng

/-- Codes of types: integers, bools, strings, slices, named structs. -/
inductive Ty where
  | int (k : IntKind)
  | bool
  | str
  | sl (e : Ty)
  | nm (n : Nat)
  | opq
  deriving DecidableEq, Inhabited

/-- What a code denotes. A string is the list of its bytes. -/
@[reducible] def Ty.den (ρ : Nat → Type) : Ty → Type
  | .int _ => Int
  | .bool => Bool
  | .str => List Int
  | .sl e => List (e.den ρ)
  | .nm n => ρ n
  | .opq => Unit

/-- The fields of a struct. -/
@[reducible] def HL (ρ : Nat → Type) : List Ty → Type
  | [] => Unit
  | t :: ts => t.den ρ × HL ρ ts

def szL (size : Nat → Nat) : List Ty → Nat
  | [] => 0
  | .nm n :: ts => size n + szL size ts
  | _ :: ts => 1 + szL size ts

/-- The named struct types: what they denote, their fields, and how they are opened and closed. -/
structure Names where
  ρ : Nat → Type
  body : Nat → List Ty
  un : (n : Nat) → ρ n → HL ρ (body n)
  re : (n : Nat) → HL ρ (body n) → ρ n
  dv : (n : Nat) → ρ n
  size : Nat → Nat
  un_re : ∀ n x, un n (re n x) = x
  size_eq : ∀ n, size n = szL size (body n)

variable (N : Names)

def Names.sz : Ty → Nat
  | .nm n => N.size n
  | _ => 1

/-- The value that stands where nothing is read. -/
def Names.dflt : (t : Ty) → t.den N.ρ
  | .int _ => (0 : Int)
  | .bool => false
  | .str => ([] : List Int)
  | .sl _ => []
  | .nm n => N.dv n
  | .opq => ()

structure TV where
  t : Ty
  x : t.den N.ρ

def castTy (N : Names) (t t' : Ty) (x : t.den N.ρ) : Option (t'.den N.ρ) :=
  if h : t = t' then some (h ▸ x) else none

/-- Abstract values of one variable. -/
inductive RV where
  | undef
  | nil
  | int (k : IntKind) (n : Int)
  | bool (b : Bool)
  | str (l : List Int)
  | data (t : Ty) (x : t.den N.ρ) (bs : List Nat)
  | own (id : Nat)
  | bptr (id off : Nat)
  | sptr (t : Ty) (x : t.den N.ρ) (bs : List Nat)
  | optr (id i off : Nat)
  | fn (f : FuncId) (caps : List Nat)
  | mp (id : Nat)

inductive Slot where
  | one (r : RV N)
  | tup (l : List (RV N))

/-- What a block of the call's own holds. -/
inductive Blk where
  | row (e : TypeId) (t : Ty) (xs : List (t.den N.ρ)) (bs : List Nat) (pin : Bool)
  | whole (t : Ty) (x : t.den N.ρ) (bs : List Nat)
  | cells (l : List (RV N))
  | mapB (kt vt : Ty) (es : List (kt.den N.ρ × vt.den N.ρ))

structure St where
  regs : List (Slot N)
  own : List (Nat × Blk N)

/-- The first entry of a key. -/
def look {β : Type} : List (Nat × β) → Nat → Option β
  | [], _ => none
  | (k, v) :: r, i => bif k == i then some v else look r i

/-- An entry under its key in an ascending list; a key that is there is overwritten. -/
def ins {β : Type} (i : Nat) (v : β) : List (Nat × β) → List (Nat × β)
  | [] => [(i, v)]
  | (k, u) :: r => bif i == k then (i, v) :: r else bif Nat.blt i k then (i, v) :: (k, u) :: r else (k, u) :: ins i v r

def insAll {β : Type} : List (Nat × β) → List (Nat × β) → List (Nat × β)
  | [], l => l
  | (i, v) :: r, l => ins i v (insAll r l)

variable {N}

def bytesL (s : ByteArray) : List Int := s.data.toList.map fun b => (b.toNat : Int)

def St.reg (σ : St N) (t : Nat) : Slot N := σ.regs.getD t (.one .undef)

def ev (σ : St N) : Operand → RV N
  | .tmp t => match σ.reg t with
    | .one r => r
    | _ => .undef
  | .const (.int k n) => .int k n
  | .const (.bool b) => .bool b
  | .const (.string s) => .str (bytesL s)
  | .const (.slice none 0 0) => .nil
  | .const _ => .undef
  | .global _ => .undef
  | .func f => .fn f []

def ofDen : (t : Ty) → t.den N.ρ → List Nat → RV N
  | .int k, n, _ => .int k n
  | .bool, b, _ => .bool b
  | .str, l, _ => .str l
  | .sl e, x, bs => .data (.sl e) x bs
  | .nm n, x, bs => .data (.nm n) x bs
  | .opq, _, _ => .undef

/-- An abstract value read at a type: what it holds, and the blocks of the call's own that it looks into. -/
def toDen (own : List (Nat × Blk N)) (t : Ty) (r : RV N) : Option (t.den N.ρ × List Nat) :=
  match r with
  | .int k n => (castTy N (.int k) t n).map fun x => (x, [])
  | .bool b => (castTy N .bool t b).map fun x => (x, [])
  | .str l => (castTy N .str t l).map fun x => (x, [])
  | .nil => match t with
    | .sl _ => some ([], [])
    | _ => none
  | .data t' x bs => (castTy N t' t x).map fun x => (x, bs)
  | .own id => match look own id with
    | some (.row _ e xs bs _) => (castTy N (.sl e) t xs).map fun x => (x, id :: bs)
    | _ => none
  | _ => none

def hlGet : (ts : List Ty) → HL N.ρ ts → Nat → Option (TV N)
  | [], _, _ => none
  | t :: _, x, 0 => some ⟨t, x.1⟩
  | _ :: ts, x, i + 1 => hlGet ts x.2 i

/-- Where field f begins. -/
def offL (N : Names) : List Ty → Nat → Nat
  | _, 0 => 0
  | [], _ => 0
  | t :: ts, i + 1 => N.sz t + offL N ts i

/-- The part of a value that begins at a cell. -/
def subL {β : Type} (g : (t : Ty) → t.den N.ρ → Nat → Option β) : (ts : List Ty) → HL N.ρ ts → Nat → Option β
  | [], _, _ => none
  | t :: ts, x, off => bif Nat.blt off (N.sz t) then g t x.1 off else subL g ts x.2 (off - N.sz t)

def subAt (want : Ty) : Nat → (t : Ty) → t.den N.ρ → Nat → Option (want.den N.ρ)
  | 0, t, x, off => bif off == 0 then castTy N t want x else none
  | fuel + 1, t, x, off =>
    match (bif off == 0 then castTy N t want x else none) with
    | some y => some y
    | none => match t, x with
      | .nm n, x => subL (subAt want fuel) (N.body n) (N.un n x) off
      | _, _ => none

def updL (g : (t : Ty) → t.den N.ρ → Nat → Option (t.den N.ρ)) : (ts : List Ty) → HL N.ρ ts → Nat → Option (HL N.ρ ts)
  | [], _, _ => none
  | t :: ts, x, off => bif Nat.blt off (N.sz t) then (g t x.1 off).map fun y => (y, x.2) else (updL g ts x.2 (off - N.sz t)).map fun y => (x.1, y)

def updAt (v : TV N) : Nat → (t : Ty) → t.den N.ρ → Nat → Option (t.den N.ρ)
  | 0, t, _, off => bif off == 0 then castTy N v.t t v.x else none
  | fuel + 1, t, x, off =>
    match (bif off == 0 then castTy N v.t t v.x else none) with
    | some y => some y
    | none => match t, x with
      | .nm n, x => (updL (updAt v fuel) (N.body n) (N.un n x) off).map (N.re n)
      | _, _ => none

end Go.Eng
