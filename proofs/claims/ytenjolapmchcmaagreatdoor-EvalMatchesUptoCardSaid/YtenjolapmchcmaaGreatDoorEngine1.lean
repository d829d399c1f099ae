/- The engine, part A: codes of types, what they denote, the abstract values and states. Nothing of any program stands here.
The engine, part B: what the abstract values say of memory.
The engine, part C: states and the worlds that they tell of.
The engine, part D: what states may be turned into.
The engine, part E: blocks that are written, replaced, dropped, renamed.
The engine, part F: a block that is written in place; blocks dropped and renamed; what is no longer wanted is forgotten.
The engine, part G: the program's table of types, and runs of single instructions.
The engine, part H: operands; a value read at a type.
The engine, part I: operations on numbers, bools, strings.
The engine, part J: parts of aggregates; equality of structs; operations on two operands.
The engine, part KA: arrays that stand as rows of their elements.
The engine, part K: moves, fields, elements, loads, cuts. -/
import Derived.WalkKit
import Derived.OwnWalk
import Derived.Maps.AppendAt
import Derived.Laws.BytesArg
import Derived.Laws.MakeOwn
import Derived.Laws.OwnMore
import Derived.Laws.Slices
import Derived.Laws.Rows
import Derived.KernelRfl
import Derived.Below
import Derived.Orders
import Derived.Great.BuildSlice
import Derived.Laws.Tables
import Derived.Laws.CopyRow
import Derived.Laws.StructEq
set_option linter.unusedVariables false
namespace Go.Eng
inductive Ty where
 | int (k : IntKind)
 | bool
 | str
 | sl (e : Ty)
 | nm (n : Nat)
 | opq
 deriving DecidableEq, Inhabited
@[reducible] def Ty.den (ρ : Nat → Type) : Ty → Type
 | .int _ => Int
 | .bool => Bool
 | .str => List Int
 | .sl e => List (e.den ρ)
 | .nm n => ρ n
 | .opq => Unit
@[reducible] def HL (ρ : Nat → Type) : List Ty → Type
 | [] => Unit
 | t :: ts => t.den ρ × HL ρ ts
def szL (size : Nat → Nat) : List Ty → Nat
 | [] => 0
 | .nm n :: ts => size n + szL size ts
 | _ :: ts => 1 + szL size ts
def hlGetR (ρ : Nat → Type) : (ts : List Ty) → HL ρ ts → Nat → Option (Σ t : Ty, t.den ρ)
 | [], _, _ => none
 | t :: _, x, 0 => some ⟨t, x.1⟩
 | _ :: ts, x, i + 1 => hlGetR ρ ts x.2 i
structure Names where
 ρ : Nat → Type
 body : Nat → List Ty
 un : (n : Nat) → ρ n → HL ρ (body n)
 re : (n : Nat) → HL ρ (body n) → ρ n
 dv : (n : Nat) → ρ n
 size : Nat → Nat
 un_re : ∀ n x, un n (re n x) = x
 size_eq : ∀ n, size n = szL size (body n)
 rowsAt : Nat → List (Option (TypeId × Ty)) := fun _ => []
 oslD : Nat → Bool := fun _ => false
 elT : Nat → Option Ty := fun _ => none
 lst : (n : Nat) → (T : Ty) → ρ n → Option (List (T.den ρ)) := fun _ _ _ => none
 lst_ok : ∀ n T x l, lst n T x = some l → l.length = (body n).length ∧ ∀ (m : Nat) z, l[m]? = some z → hlGetR ρ (body n) (un n x) m = some ⟨T, z⟩ := by intros; contradiction
 ofL : (n : Nat) → (T : Ty) → List (T.den ρ) → Option (ρ n) := fun _ _ _ => none
 ofL_ok : ∀ n T l y, l.length = (body n).length → ofL n T l = some y → ∀ (m : Nat) z, l[m]? = some z → hlGetR ρ (body n) (un n y) m = some ⟨T, z⟩ := by intros; contradiction
variable (N : Names)
def Names.sz : Ty → Nat
 | .nm n => N.size n
 | _ => 1
def Names.dflt : (t : Ty) → t.den N.ρ
 | .int _ => (0 : Int)
 | .bool => false
 | .str => ([] : List Int)
 | .sl _ => []
 | .nm n => N.dv n
 | .opq => ()
structure TV where
 t : Ty
 x : t.den N.ρ
def castTy (N : Names) (t t' : Ty) (x : t.den N.ρ) : Option (t'.den N.ρ) :=
 if h : t = t' then some (h ▸ x) else none
inductive RV where
 | undef
 | nil
 | int (k : IntKind) (n : Int)
 | bool (b : Bool)
 | str (l : List Int)
 | data (t : Ty) (x : t.den N.ρ) (bs : List Nat)
 | own (id : Nat)
 | bptr (id off : Nat)
 | sptr (t : Ty) (x : t.den N.ρ) (bs : List Nat)
 | optr (id i off : Nat)
 | osl (id lo n : Nat)
 | fn (f : FuncId) (caps : List Nat)
 | mp (id : Nat)
 | nilf
inductive Slot where
 | one (r : RV N)
 | tup (l : List (RV N))
inductive Blk where
 | row (e : TypeId) (t : Ty) (xs : List (t.den N.ρ)) (bs : List Nat) (pin : Bool)
 | whole (t : Ty) (x : t.den N.ρ) (bs : List Nat)
 | cells (l : List (RV N))
 | mapB (kt vt : Ty) (es : List (kt.den N.ρ × vt.den N.ρ))
 | vals (n : Nat) (l : List (RV N))
structure St where
 regs : List (Slot N)
 own : List (Nat × Blk N)
def look {β : Type} : List (Nat × β) → Nat → Option β
 | [], _ => none
 | (k, v) :: r, i => bif k == i then some v else look r i
def ins {β : Type} (i : Nat) (v : β) : List (Nat × β) → List (Nat × β)
 | [] => [(i, v)]
 | (k, u) :: r => bif i == k then (i, v) :: r else bif Nat.blt i k then (i, v) :: (k, u) :: r else (k, u) :: ins i v r
def insAll {β : Type} : List (Nat × β) → List (Nat × β) → List (Nat × β)
 | [], l => l
 | (i, v) :: r, l => ins i v (insAll r l)
variable {N}
def bytesL (s : ByteArray) : List Int := s.data.toList.map fun b => (b.toNat : Int)
def St.reg (σ : St N) (t : Nat) : Slot N := σ.regs.getD t (.one .undef)
def ev (σ : St N) : Operand → RV N
 | .tmp t => match σ.reg t with
  | .one r => r
  | _ => .undef
 | .const (.int k n) => .int k n
 | .const (.bool b) => .bool b
 | .const (.string s) => .str (bytesL s)
 | .const (.slice none 0 0) => .nil
 | .const .nilFunc => .nilf
 | .const _ => .undef
 | .global _ => .undef
 | .func f => .fn f []
def ofDen : (t : Ty) → t.den N.ρ → List Nat → RV N
 | .int k, n, _ => .int k n
 | .bool, b, _ => .bool b
 | .str, l, _ => .str l
 | .sl e, x, bs => .data (.sl e) x bs
 | .nm n, x, bs => .data (.nm n) x bs
 | .opq, _, _ => .undef
def toDen0 (own : List (Nat × Blk N)) (t : Ty) (r : RV N) : Option (t.den N.ρ × List Nat) :=
 match r with
 | .int k n => (castTy N (.int k) t n).map fun x => (x, [])
 | .bool b => (castTy N .bool t b).map fun x => (x, [])
 | .str l => (castTy N .str t l).map fun x => (x, [])
 | .nil => match t with
  | .sl _ => some ([], [])
  | _ => none
 | .data t' x bs => (castTy N t' t x).map fun x => (x, bs)
 | .own id => match look own id with
  | some (.row _ e xs bs _) => (castTy N (.sl e) t xs).map fun x => (x, id :: bs)
  | _ => none
 | _ => none
def implL (g : (t : Ty) → List (RV N) → Option (t.den N.ρ × List Nat)) : (ts : List Ty) → List (RV N) → Option (HL N.ρ ts × List Nat)
 | [], [] => some ((), [])
 | [], _ => none
 | t :: ts, l => match g t (l.take (N.sz t)), implL g ts (l.drop (N.sz t)) with
  | some p, some q => some ((p.1, q.1), p.2 ++ q.2)
  | _, _ => none
def oneDen (own : List (Nat × Blk N)) (t : Ty) (l : List (RV N)) : Option (t.den N.ρ × List Nat) :=
 match l with
 | [r] => toDen0 own t r
 | _ => none
def impl (own : List (Nat × Blk N)) : Nat → (t : Ty) → List (RV N) → Option (t.den N.ρ × List Nat)
 | 0, _, _ => none
 | f + 1, .nm n, l => (implL (impl own f) (N.body n) l).map fun p => (N.re n p.1, p.2)
 | _ + 1, t, l => oneDen own t l
def toDen (own : List (Nat × Blk N)) (t : Ty) (r : RV N) : Option (t.den N.ρ × List Nat) :=
 match r with
 | .mp id => match look own id with
  | some (.vals n l) => match impl own 8 (.nm n) l with
   | some p => (castTy N (.nm n) t p.1).map fun y => (y, p.2)
   | none => none
  | _ => none
 | r => toDen0 own t r
def isMp : RV N → Bool
 | .mp _ => true
 | _ => false
theorem toDen_eq0 {own : List (Nat × Blk N)} {t : Ty} {r : RV N} (h : isMp r = false) : toDen own t r = toDen0 own t r := by
 cases r <;> first | rfl | cases h
def hlGet : (ts : List Ty) → HL N.ρ ts → Nat → Option (TV N)
 | [], _, _ => none
 | t :: _, x, 0 => some ⟨t, x.1⟩
 | _ :: ts, x, i + 1 => hlGet ts x.2 i
theorem hlGet_R : ∀ (ts : List Ty) (x : HL N.ρ ts) (m : Nat), hlGet ts x m = (hlGetR N.ρ ts x m).map fun p => ⟨p.1, p.2⟩
 | [], _, _ => rfl
 | _ :: _, _, 0 => rfl
 | _ :: ts, x, m + 1 => hlGet_R ts x.2 m
def offL (N : Names) : List Ty → Nat → Nat
 | _, 0 => 0
 | [], _ => 0
 | t :: ts, i + 1 => N.sz t + offL N ts i
def subL {β : Type} (g : (t : Ty) → t.den N.ρ → Nat → Option β) : (ts : List Ty) → HL N.ρ ts → Nat → Option β
 | [], _, _ => none
 | t :: ts, x, off => bif Nat.blt off (N.sz t) then g t x.1 off else subL g ts x.2 (off - N.sz t)
def subAt (want : Ty) : Nat → (t : Ty) → t.den N.ρ → Nat → Option (want.den N.ρ)
 | 0, t, x, off => bif off == 0 then castTy N t want x else none
 | fuel + 1, t, x, off =>
  match (bif off == 0 then castTy N t want x else none) with
  | some y => some y
  | none => match t, x with
   | .nm n, x => subL (subAt want fuel) (N.body n) (N.un n x) off
   | _, _ => none
def updL (g : (t : Ty) → t.den N.ρ → Nat → Option (t.den N.ρ)) : (ts : List Ty) → HL N.ρ ts → Nat → Option (HL N.ρ ts)
 | [], _, _ => none
 | t :: ts, x, off => bif Nat.blt off (N.sz t) then (g t x.1 off).map fun y => (y, x.2) else (updL g ts x.2 (off - N.sz t)).map fun y => (x.1, y)
def updAt (v : TV N) : Nat → (t : Ty) → t.den N.ρ → Nat → Option (t.den N.ρ)
 | 0, t, _, off => bif off == 0 then castTy N v.t t v.x else none
 | fuel + 1, t, x, off =>
  match (bif off == 0 then castTy N v.t t v.x else none) with
  | some y => some y
  | none => match t, x with
   | .nm n, x => (updL (updAt v fuel) (N.body n) (N.un n x) off).map (N.re n)
   | _, _ => none
end Go.Eng

set_option linter.unusedVariables false
namespace Go.Eng
variable {N : Names}
theorem addr_add_add (a : Addr) (m j : Nat) : (a.add m).add j = a.add (m + j) := by
 unfold Addr.add
 by_cases hm : m = 0
 ·subst hm; simp
 ·by_cases hj : j = 0
  ·subst hj; simp
  ·simp [hm, hj, Nat.add_assoc]
theorem addr_add_block (a : Addr) (m : Nat) : (a.add m).block = a.block := by
 unfold Addr.add; split <;> rfl
def RepT (w : World) (ok : Nat → Prop) (Nm : (n : Nat) → N.ρ n → List Value → Prop) : (t : Ty) → t.den N.ρ → List Value → Prop
 | .int k, n, cs => cs = [.int k n]
 | .bool, b, cs => cs = [.bool b]
 | .str, l, cs => ∃ s, cs = [.string s] ∧ bytesL s = l
 | .sl e, xs, cs => ∃ A cap, cs = [.slice A xs.length cap] ∧ xs.length ≤ cap ∧ (A = none → cap = 0) ∧
   ∀ i x, xs[i]? = some x → ∃ ad ccs, A = some ad ∧ ok ad.block ∧ RepT w ok Nm e x ccs ∧ ∀ j u, ccs[j]? = some u → w.cell? (ad.add (i * N.sz e + j)) = some u
 | .nm n, x, cs => Nm n x cs
 | .opq, _, cs => ∃ v, cs = [v] ∧ v.oneCell' = true
def RepL (w : World) (ok : Nat → Prop) (Nm : (n : Nat) → N.ρ n → List Value → Prop) : (ts : List Ty) → HL N.ρ ts → List Value → Prop
 | [], _, cs => cs = []
 | t :: ts, x, cs => ∃ c1 c2, cs = c1 ++ c2 ∧ RepT w ok Nm t x.1 c1 ∧ RepL w ok Nm ts x.2 c2
def RepN (w : World) (ok : Nat → Prop) (n : Nat) (x : N.ρ n) (cs : List Value) : Prop :=
 ∃ R : (n : Nat) → N.ρ n → List Value → Prop, (∀ n x cs, R n x cs → (cs.length = N.size n ∧ ∀ u ∈ cs, u.oneCell' = true) ∧ RepL w ok R (N.body n) (N.un n x) cs) ∧ R n x cs
def Rep (w : World) (ok : Nat → Prop) (t : Ty) (x : t.den N.ρ) (cs : List Value) : Prop := RepT w ok (RepN w ok) t x cs
theorem RepT_mono {w w' : World} {ok ok' : Nat → Prop} {Nm Nm' : (n : Nat) → N.ρ n → List Value → Prop}
  (hw : ∀ a u, ok a.block → w.cell? a = some u → w'.cell? a = some u) (hok : ∀ b, ok b → ok' b) (hN : ∀ n x cs, Nm n x cs → Nm' n x cs) :
  ∀ (t : Ty) (x : t.den N.ρ) (cs : List Value), RepT w ok Nm t x cs → RepT w' ok' Nm' t x cs
 | .int k, n, cs, h => h
 | .bool, b, cs, h => h
 | .str, l, cs, h => h
 | .sl e, xs, cs, h => by
  obtain ⟨A, cap, h1, h2, h2', h3⟩ := h
  refine ⟨A, cap, h1, h2, h2', fun i x hx => ?_⟩
  obtain ⟨ad, ccs, e1, e2, e3, e4⟩ := h3 i x hx
  exact ⟨ad, ccs, e1, hok _ e2, RepT_mono hw hok hN e x ccs e3, fun j u hu => hw _ _ (by rw [addr_add_block]; exact e2) (e4 j u hu)⟩
 | .nm n, x, cs, h => hN n x cs h
 | .opq, _, cs, h => h
theorem RepL_mono {w w' : World} {ok ok' : Nat → Prop} {Nm Nm' : (n : Nat) → N.ρ n → List Value → Prop}
  (hw : ∀ a u, ok a.block → w.cell? a = some u → w'.cell? a = some u) (hok : ∀ b, ok b → ok' b) (hN : ∀ n x cs, Nm n x cs → Nm' n x cs) :
  ∀ (ts : List Ty) (x : HL N.ρ ts) (cs : List Value), RepL w ok Nm ts x cs → RepL w' ok' Nm' ts x cs
 | [], _, cs, h => h
 | t :: ts, x, cs, h => by
  obtain ⟨c1, c2, e, h1, h2⟩ := h
  exact ⟨c1, c2, e, RepT_mono hw hok hN t x.1 c1 h1, RepL_mono hw hok hN ts x.2 c2 h2⟩
theorem szL_cons (t : Ty) (ts : List Ty) : szL N.size (t :: ts) = N.sz t + szL N.size ts := by
 cases t <;> rfl
theorem RepL_length {w : World} {ok : Nat → Prop} {Nm : (n : Nat) → N.ρ n → List Value → Prop} (hN : ∀ n x cs, Nm n x cs → cs.length = N.size n) :
  ∀ (ts : List Ty) (x : HL N.ρ ts) (cs : List Value), RepL w ok Nm ts x cs → cs.length = szL N.size ts
 | [], _, cs, h => by rw [h]; rfl
 | t :: ts, x, cs, h => by
  obtain ⟨c1, c2, rfl, h1, h2⟩ := h
  rw [List.length_append, szL_cons, RepL_length hN ts x.2 c2 h2]
  congr 1
  cases t with
  | int k => rw [h1]; rfl
  | bool => rw [h1]; rfl
  | str => obtain ⟨s, rfl, _⟩ := h1; rfl
  | sl e => obtain ⟨A, cap, rfl, _⟩ := h1; rfl
  | nm n => exact hN n x.1 c1 h1
  | opq => obtain ⟨v, rfl, _⟩ := h1; rfl
theorem RepL_one {w : World} {ok : Nat → Prop} {Nm : (n : Nat) → N.ρ n → List Value → Prop} (hN : ∀ n x cs, Nm n x cs → ∀ u ∈ cs, u.oneCell' = true) :
  ∀ (ts : List Ty) (x : HL N.ρ ts) (cs : List Value), RepL w ok Nm ts x cs → ∀ u ∈ cs, u.oneCell' = true
 | [], _, cs, h => by rw [h]; intro u hu; cases hu
 | t :: ts, x, cs, h => by
  obtain ⟨c1, c2, rfl, h1, h2⟩ := h
  intro u hu
  rcases List.mem_append.1 hu with hu | hu
  ·cases t with
   | int k => rw [h1] at hu; simp at hu; subst hu; rfl
   | bool => rw [h1] at hu; simp at hu; subst hu; rfl
   | str => obtain ⟨s, rfl, _⟩ := h1; simp at hu; subst hu; rfl
   | sl e => obtain ⟨A, cap, rfl, _⟩ := h1; simp at hu; subst hu; rfl
   | nm n => exact hN n x.1 c1 h1 u hu
   | opq => obtain ⟨v, rfl, h⟩ := h1; simp at hu; subst hu; exact h
  ·exact RepL_one hN ts x.2 c2 h2 u hu
theorem RepN_open {w : World} {ok : Nat → Prop} {n : Nat} {x : N.ρ n} {cs : List Value} (h : RepN w ok n x cs) : RepL w ok (RepN w ok) (N.body n) (N.un n x) cs := by
 obtain ⟨R, hR, h⟩ := h
 exact RepL_mono (fun _ _ _ h => h) (fun _ h => h) (fun n x cs h => ⟨R, hR, h⟩) _ _ _ (hR n x cs h).2
theorem RepN_length {w : World} {ok : Nat → Prop} {n : Nat} {x : N.ρ n} {cs : List Value} (h : RepN w ok n x cs) : cs.length = N.size n := by
 obtain ⟨R, hR, h⟩ := h
 exact (hR n x cs h).1.1
theorem RepN_one {w : World} {ok : Nat → Prop} {n : Nat} {x : N.ρ n} {cs : List Value} (h : RepN w ok n x cs) : ∀ u ∈ cs, u.oneCell' = true := by
 obtain ⟨R, hR, h⟩ := h
 exact (hR n x cs h).1.2
theorem RepLL_length {w : World} {ok : Nat → Prop} {ts : List Ty} {x : HL N.ρ ts} {cs : List Value} (h : RepL w ok (RepN w ok) ts x cs) : cs.length = szL N.size ts :=
 RepL_length (fun _ _ _ h => RepN_length h) ts x cs h
theorem RepN_close {w : World} {ok : Nat → Prop} {n : Nat} {x : N.ρ n} {cs : List Value} (h : RepL w ok (RepN w ok) (N.body n) (N.un n x) cs) : RepN w ok n x cs := by
 refine ⟨fun n x cs => RepL w ok (RepN w ok) (N.body n) (N.un n x) cs, fun n x cs h => ⟨?_, ?_⟩, h⟩
 ·exact ⟨by rw [RepLL_length h, N.size_eq], RepL_one (fun _ _ _ h => RepN_one h) _ _ _ h⟩
 ·exact RepL_mono (fun _ _ _ h => h) (fun _ h => h) (fun n x cs h => RepN_open h) _ _ _ h
theorem RepN_mono {w w' : World} {ok ok' : Nat → Prop} (hw : ∀ a u, ok a.block → w.cell? a = some u → w'.cell? a = some u) (hok : ∀ b, ok b → ok' b)
  {n : Nat} {x : N.ρ n} {cs : List Value} (h : RepN w ok n x cs) : RepN w' ok' n x cs := by
 obtain ⟨R, hR, h⟩ := h
 exact ⟨R, fun n x cs h => ⟨(hR n x cs h).1, RepL_mono hw hok (fun _ _ _ h => h) _ _ _ (hR n x cs h).2⟩, h⟩
def flatT (N : Names) : Nat → Ty → Bool
 | _, .sl _ => false
 | 0, .nm _ => false
 | f + 1, .nm n => (N.body n).all (flatT N f)
 | _, _ => true
def flatB (N : Names) (t : Ty) (B : List Nat) : List Nat := bif flatT N 4 t then [] else B
theorem flatL {w : World} {ok ok' : Nat → Prop} {Nm Nm' : (n : Nat) → N.ρ n → List Value → Prop} {f : Ty → Bool} (hT : ∀ (t : Ty) (x : t.den N.ρ) (cs : List Value), f t = true → RepT w ok Nm t x cs → RepT w ok' Nm' t x cs) :
  ∀ (ts : List Ty) (x : HL N.ρ ts) (cs : List Value), ts.all f = true → RepL w ok Nm ts x cs → RepL w ok' Nm' ts x cs
 | [], _, cs, _, h => h
 | t :: ts, x, cs, hf, h => by
  simp only [List.all_cons, Bool.and_eq_true] at hf
  obtain ⟨c1, c2, e, h1, h2⟩ := h
  exact ⟨c1, c2, e, hT t x.1 c1 hf.1 h1, flatL hT ts x.2 c2 hf.2 h2⟩
theorem Rep_flat {w : World} {ok ok' : Nat → Prop} : ∀ (f : Nat) (t : Ty) (x : t.den N.ρ) (cs : List Value), flatT N f t = true → Rep w ok t x cs → Rep w ok' t x cs
 | _, .sl _, _, _, hf, _ => by unfold flatT at hf; cases hf
 | 0, .nm _, _, _, hf, _ => by unfold flatT at hf; cases hf
 | f + 1, .nm n, x, cs, hf, h => by
  have hf' : (N.body n).all (flatT N f) = true := by unfold flatT at hf; exact hf
  exact RepN_close (flatL (fun t x cs hf h => Rep_flat f t x cs hf h) _ _ _ hf' (RepN_open h))
 | _, .int _, _, _, _, h => h
 | _, .bool, _, _, _, h => h
 | _, .str, _, _, _, h => h
 | _, .opq, _, _, _, h => h
theorem Rep_mono {w w' : World} {ok ok' : Nat → Prop} (hw : ∀ a u, ok a.block → w.cell? a = some u → w'.cell? a = some u) (hok : ∀ b, ok b → ok' b)
  {t : Ty} {x : t.den N.ρ} {cs : List Value} (h : Rep w ok t x cs) : Rep w' ok' t x cs :=
 RepT_mono hw hok (fun _ _ _ h => RepN_mono hw hok h) t x cs h
theorem RepLL_mono {w w' : World} {ok ok' : Nat → Prop} (hw : ∀ a u, ok a.block → w.cell? a = some u → w'.cell? a = some u) (hok : ∀ b, ok b → ok' b)
  {ts : List Ty} {x : HL N.ρ ts} {cs : List Value} (h : RepL w ok (RepN w ok) ts x cs) : RepL w' ok' (RepN w' ok') ts x cs :=
 RepL_mono hw hok (fun _ _ _ h => RepN_mono hw hok h) ts x cs h
theorem Rep_length {w : World} {ok : Nat → Prop} {t : Ty} {x : t.den N.ρ} {cs : List Value} (h : Rep w ok t x cs) : cs.length = N.sz t := by
 cases t with
 | int k => rw [show cs = _ from h]; rfl
 | bool => rw [show cs = _ from h]; rfl
 | str => obtain ⟨s, rfl, _⟩ := h; rfl
 | sl e => obtain ⟨A, cap, rfl, _⟩ := h; rfl
 | nm n => exact RepN_length h
 | opq => obtain ⟨v, rfl, _⟩ := h; rfl
theorem Rep_one {w : World} {ok : Nat → Prop} {t : Ty} {x : t.den N.ρ} {cs : List Value} (h : Rep w ok t x cs) : ∀ u ∈ cs, u.oneCell' = true := by
 intro u hu
 cases t with
 | int k => rw [show cs = _ from h] at hu; simp at hu; subst hu; rfl
 | bool => rw [show cs = _ from h] at hu; simp at hu; subst hu; rfl
 | str => obtain ⟨s, rfl, _⟩ := h; simp at hu; subst hu; rfl
 | sl e => obtain ⟨A, cap, rfl, _⟩ := h; simp at hu; subst hu; rfl
 | nm n => exact RepN_one h u hu
 | opq => obtain ⟨v, rfl, h⟩ := h; simp at hu; subst hu; exact h
/-! Parts of a value. -/
theorem castTy_some {t t' : Ty} {x : t.den N.ρ} {y : t'.den N.ρ} (h : castTy N t t' x = some y) : ∃ e : t = t', y = e ▸ x := by
 unfold castTy at h
 split at h
 ·rename_i e
  exact ⟨e, (Option.some.inj h).symm⟩
 ·cases h
theorem castTy_rep {w : World} {ok : Nat → Prop} {t t' : Ty} {x : t.den N.ρ} {y : t'.den N.ρ} {cs : List Value} (h : castTy N t t' x = some y) (hr : Rep w ok t x cs) : Rep w ok t' y cs := by
 obtain ⟨e, rfl⟩ := castTy_some h
 subst e
 exact hr
theorem bif_none {β : Type} {b : Bool} {x : Option β} {y : β} (h : (bif b then x else none) = some y) : b = true ∧ x = some y := by
 cases b with
 | true => exact ⟨rfl, h⟩
 | false => cases h
theorem subL_rep {w : World} {ok : Nat → Prop} {want : Ty} {g : (t : Ty) → t.den N.ρ → Nat → Option (want.den N.ρ)}
  (hg : ∀ (t : Ty) (x : t.den N.ρ) off y cs, g t x off = some y → Rep w ok t x cs → Rep w ok want y ((cs.drop off).take (N.sz want)) ∧ off + N.sz want ≤ cs.length) :
  ∀ (ts : List Ty) (x : HL N.ρ ts) (off : Nat) (y : want.den N.ρ) (cs : List Value), subL g ts x off = some y → RepL w ok (RepN w ok) ts x cs → Rep w ok want y ((cs.drop off).take (N.sz want)) ∧ off + N.sz want ≤ cs.length
 | [], _, off, y, cs, h, _ => by cases h
 | t :: ts, x, off, y, cs, h, hr => by
  obtain ⟨c1, c2, rfl, h1, h2⟩ := hr
  have hl := Rep_length (show Rep w ok t x.1 c1 from h1)
  unfold subL at h
  cases hb : Nat.blt off (N.sz t) with
  | true =>
   rw [hb] at h
   have h0 : off < N.sz t := by simpa [Nat.blt_eq] using hb
   obtain ⟨k1, k2⟩ := hg t x.1 off y c1 h h1
   refine ⟨?_, by rw [List.length_append]; omega⟩
   rw [List.drop_append_of_le_length (by omega), List.take_append_of_le_length (by rw [List.length_drop]; omega)]
   exact k1
  | false =>
   rw [hb] at h
   have h0 : ¬ off < N.sz t := by rw [← Nat.blt_eq]; simp [hb]
   obtain ⟨k1, k2⟩ := subL_rep hg ts x.2 (off - N.sz t) y c2 h h2
   refine ⟨?_, by rw [List.length_append]; omega⟩
   rw [List.drop_append, List.drop_eq_nil_of_le (by omega), List.nil_append, hl]
   exact k1
theorem subAt_rep {w : World} {ok : Nat → Prop} {want : Ty} : ∀ (fuel : Nat) (t : Ty) (x : t.den N.ρ) (off : Nat) (y : want.den N.ρ) (cs : List Value),
  subAt want fuel t x off = some y → Rep w ok t x cs → Rep w ok want y ((cs.drop off).take (N.sz want)) ∧ off + N.sz want ≤ cs.length := by
 have base : ∀ (t : Ty) (x : t.den N.ρ) (off : Nat) (y : want.den N.ρ) (cs : List Value), (bif off == 0 then castTy N t want x else none) = some y → Rep w ok t x cs →
   Rep w ok want y ((cs.drop off).take (N.sz want)) ∧ off + N.sz want ≤ cs.length := by
  intro t x off y cs h hr
  obtain ⟨h0, h1⟩ := bif_none h
  have h0 : off = 0 := by simpa using h0
  subst h0
  have hy := castTy_rep h1 hr
  have hl := Rep_length hy
  rw [List.drop_zero, List.take_of_length_le (by omega)]
  exact ⟨hy, by omega⟩
 intro fuel
 induction fuel with
 | zero => intro t x off y cs h hr; exact base t x off y cs h hr
 | succ fuel ih =>
  intro t x off y cs h hr
  unfold subAt at h
  split at h
  ·rename_i z hz
   cases h
   exact base t x off _ cs hz hr
  ·split at h
   ·rename_i n x'
    exact subL_rep (fun t x off y cs => ih t x off y cs) _ _ off y cs h (RepN_open hr)
   ·cases h
def splice (cs : List Value) (off : Nat) (vs : List Value) : List Value := cs.take off ++ vs ++ cs.drop (off + vs.length)
theorem splice_length {cs vs : List Value} {off : Nat} (h : off + vs.length ≤ cs.length) : (splice cs off vs).length = cs.length := by
 unfold splice
 simp only [List.length_append, List.length_take, List.length_drop]
 omega
theorem updL_rep {w : World} {ok : Nat → Prop} {vs : List Value} {g : (t : Ty) → t.den N.ρ → Nat → Option (t.den N.ρ)}
  (hg : ∀ (t : Ty) (x : t.den N.ρ) off y cs, g t x off = some y → Rep w ok t x cs → Rep w ok t y (splice cs off vs) ∧ off + vs.length ≤ cs.length) :
  ∀ (ts : List Ty) (x : HL N.ρ ts) (off : Nat) (y : HL N.ρ ts) (cs : List Value), updL g ts x off = some y → RepL w ok (RepN w ok) ts x cs → RepL w ok (RepN w ok) ts y (splice cs off vs) ∧ off + vs.length ≤ cs.length
 | [], _, off, y, cs, h, _ => by cases h
 | t :: ts, x, off, y, cs, h, hr => by
  obtain ⟨c1, c2, rfl, h1, h2⟩ := hr
  have hl := Rep_length (show Rep w ok t x.1 c1 from h1)
  unfold updL at h
  cases hb : Nat.blt off (N.sz t) with
  | true =>
   rw [hb] at h
   have h0 : off < N.sz t := by simpa [Nat.blt_eq] using hb
   simp only [cond_true, Option.map_eq_some_iff] at h
   obtain ⟨z, hz, rfl⟩ := h
   obtain ⟨k1, k2⟩ := hg t x.1 off z c1 hz h1
   refine ⟨⟨splice c1 off vs, c2, ?_, k1, h2⟩, by rw [List.length_append]; omega⟩
   unfold splice
   rw [List.take_append_of_le_length (by omega), List.drop_append_of_le_length (by omega)]
   simp
  | false =>
   rw [hb] at h
   have h0 : ¬ off < N.sz t := by rw [← Nat.blt_eq]; simp [hb]
   simp only [cond_false, Option.map_eq_some_iff] at h
   obtain ⟨z, hz, rfl⟩ := h
   obtain ⟨k1, k2⟩ := updL_rep hg ts x.2 (off - N.sz t) z c2 hz h2
   refine ⟨⟨c1, splice c2 (off - N.sz t) vs, ?_, h1, k1⟩, by rw [List.length_append]; omega⟩
   unfold splice
   rw [List.take_append, List.drop_append, List.take_of_length_le (by omega : c1.length ≤ off), List.drop_eq_nil_of_le (by omega : c1.length ≤ off + vs.length), hl]
   simp only [List.nil_append, List.append_assoc]
   congr 3
   rw [show off + vs.length - N.sz t = off - N.sz t + vs.length from by omega]
theorem updAt_rep {w : World} {ok : Nat → Prop} {v : TV N} {vs : List Value} (hv : Rep w ok v.t v.x vs) : ∀ (fuel : Nat) (t : Ty) (x : t.den N.ρ) (off : Nat) (y : t.den N.ρ) (cs : List Value),
  updAt v fuel t x off = some y → Rep w ok t x cs → Rep w ok t y (splice cs off vs) ∧ off + vs.length ≤ cs.length := by
 have base : ∀ (t : Ty) (x : t.den N.ρ) (off : Nat) (y : t.den N.ρ) (cs : List Value), (bif off == 0 then castTy N v.t t v.x else none) = some y → Rep w ok t x cs →
   Rep w ok t y (splice cs off vs) ∧ off + vs.length ≤ cs.length := by
  intro t x off y cs h hr
  obtain ⟨h0, h1⟩ := bif_none h
  have h0 : off = 0 := by simpa using h0
  subst h0
  have hy := castTy_rep h1 hv
  have hl := Rep_length hy
  have hl2 := Rep_length hr
  refine ⟨?_, by omega⟩
  unfold splice
  rw [List.take_zero, List.nil_append, List.drop_eq_nil_of_le (by omega), List.append_nil]
  exact hy
 intro fuel
 induction fuel with
 | zero => intro t x off y cs h hr; exact base t x off y cs h hr
 | succ fuel ih =>
  intro t x off y cs h hr
  unfold updAt at h
  split at h
  ·rename_i z hz
   cases h
   exact base t x off _ cs hz hr
  ·split at h
   ·rename_i n x'
    simp only [Option.map_eq_some_iff] at h
    obtain ⟨z, hz, rfl⟩ := h
    obtain ⟨k1, k2⟩ := updL_rep (fun t x off y cs => ih t x off y cs) _ _ off z cs hz (RepN_open hr)
    refine ⟨RepN_close ?_, k2⟩
    rw [N.un_re]
    exact k1
   ·cases h
theorem hlGet_rep {w : World} {ok : Nat → Prop} : ∀ (ts : List Ty) (x : HL N.ρ ts) (i : Nat) (v : TV N) (cs : List Value), hlGet ts x i = some v → RepL w ok (RepN w ok) ts x cs →
  Rep w ok v.t v.x ((cs.drop (offL N ts i)).take (N.sz v.t)) ∧ offL N ts i + N.sz v.t ≤ cs.length
 | [], _, i, v, cs, h, _ => by cases h
 | t :: ts, x, 0, v, cs, h, hr => by
  obtain ⟨c1, c2, rfl, h1, h2⟩ := hr
  have hl := Rep_length (show Rep w ok t x.1 c1 from h1)
  simp only [hlGet, Option.some.injEq] at h
  subst h
  simp only [offL]
  refine ⟨?_, by rw [List.length_append]; omega⟩
  rw [List.drop_zero, List.take_append_of_le_length (by omega), List.take_of_length_le (by omega)]
  exact h1
 | t :: ts, x, i + 1, v, cs, h, hr => by
  obtain ⟨c1, c2, rfl, h1, h2⟩ := hr
  have hl := Rep_length (show Rep w ok t x.1 c1 from h1)
  obtain ⟨k1, k2⟩ := hlGet_rep ts x.2 i v c2 (by simpa [hlGet] using h) h2
  simp only [offL]
  refine ⟨?_, by rw [List.length_append]; omega⟩
  rw [List.drop_append, List.drop_eq_nil_of_le (by omega), List.nil_append, hl, show N.sz t + offL N ts i - N.sz t = offL N ts i from by omega]
  exact k1
end Go.Eng

set_option linter.unusedVariables false
namespace Go.Eng
variable {N : Names}
def blkOf : Value → Option Nat
 | .slice (some a) _ _ => some a.block
 | .pointer (some a) => some a.block
 | .map (some b) => some b
 | _ => none
structure Env where
 val : Nat → Value
 A : Nat → Prop
instance : CoeFun Env (fun _ => Nat → Value) := ⟨Env.val⟩
structure Io where
 p : Nat → Prop
 A : Nat → Prop
 ids : List Nat
 fix : Nat → Value
 dfs : List Deferred
def okb (H : Nat) (own : List (Nat × Blk N)) (E : Env) (bs : List Nat) (b : Nat) : Prop :=
 (b < H ∧ E.A b) ∧ ∀ id, (look own id).isSome = true → id ∉ bs → blkOf (E id) ≠ some b
def AsV (t : Ty) (v : Value) (cs : List Value) : Prop :=
 match t with
 | .nm _ => v = .agg cs.toArray
 | _ => cs = [v]
def isRow (own : List (Nat × Blk N)) (id : Nat) (n : Nat) (t : Ty) : Prop := ∃ e xs bs p, look own id = some (.row e t xs bs p) ∧ xs.length = n
def isBox (own : List (Nat × Blk N)) (id : Nat) : Prop := (∃ t x bs, look own id = some (.whole t x bs)) ∨ (∃ l, look own id = some (.cells l)) ∨ (∃ kt vt es, look own id = some (.mapB kt vt es)) ∨ ∃ n l, look own id = some (.vals n l)
def RVRel (w : World) (own : List (Nat × Blk N)) (E : Env) : RV N → Value → Prop
 | .undef, _ => True
 | .nil, v => v = .slice none 0 0
 | .int k n, v => v = .int k n
 | .bool b, v => v = .bool b
 | .str l, v => ∃ s, v = .string s ∧ bytesL s = l
 | .data t x bs, v => ∃ cs, Rep w (okb w.heap.size own E bs) t x cs ∧ AsV t v cs
 | .own id, v => v = E id ∧ ∃ n t, isRow own id n t
 | .bptr id off, v => isBox own id ∧ ∃ g, E id = .pointer (some ⟨g, 0, none⟩) ∧ v = .pointer (some ⟨g, off, none⟩)
 | .sptr t x bs, v => ∃ ad cs, v = .pointer (some ad) ∧ okb w.heap.size own E bs ad.block ∧ Rep w (okb w.heap.size own E bs) t x cs ∧ ∀ j u, cs[j]? = some u → w.cell? (ad.add j) = some u
 | .optr id i off, v => ∃ g cap n t, isRow own id n t ∧ i < n ∧ E id = .slice (some ⟨g, 0, none⟩) n cap ∧ v = .pointer (some ⟨g, i * N.sz t + off, none⟩)
 | .osl id lo n, v => ∃ A cap m t, isRow own id m t ∧ lo + n ≤ m ∧ E id = .slice A m cap ∧ v = .slice (if cap = lo then A else A.map (·.add (lo * N.sz t))) n (cap - lo)
 | .fn f caps, v => v = .func (.func f) #[] (caps.map E.val).toArray ∧ ∀ id ∈ caps, isBox own id ∧ ∃ g, E id = .pointer (some ⟨g, 0, none⟩)
 | .mp id, v => isBox own id ∧ v = E id
 | .nilf, v => v = .nilFunc
def ScalRel : (t : Ty) → t.den N.ρ → Value → Prop
 | .int k, n, v => v = .int k n
 | .bool, b, v => v = .bool b
 | .str, l, v => ∃ s, v = .string s ∧ bytesL s = l
 | _, _, _ => False
def MapRel (kt vt : Ty) : List (kt.den N.ρ × vt.den N.ρ) → List MapEntry → Prop
 | [], es => es = []
 | x :: xs, es => ∃ e rest, es = e :: rest ∧ ScalRel kt x.1 e.key ∧ ScalRel vt x.2 e.val ∧ MapRel kt vt xs rest
def SlotRel (w : World) (own : List (Nat × Blk N)) (E : Env) : Slot N → Value → Prop
 | .one r, v => RVRel w own E r v
 | .tup l, v => ∃ vs : List Value, v = .tuple vs.toArray ∧ vs.length = l.length ∧ ∀ (i : Nat) r u, l[i]? = some r → vs[i]? = some u → RVRel w own E r u
def RowC {α : Type} (R : α → List Value → Prop) : List α → List Value → Prop
 | [], cs => cs = []
 | x :: xs, cs => ∃ c1 c2, cs = c1 ++ c2 ∧ R x c1 ∧ RowC R xs c2
def tagM : Nat := 1000000
def eqB (a b : Nat) : Bool := a == b && Nat.blt a tagM
theorem eqB_spec {a b : Nat} (h : eqB a b = true) : a = b ∧ a < tagM := by
 unfold eqB at h
 rw [Bool.and_eq_true, beq_iff_eq] at h
 exact ⟨h.1, Nat.le_of_ble_eq_true h.2⟩
def TagOk (e T : TypeId) (n cap : Nat) : Prop := (e < tagM → T = e) ∧ (2 * tagM ≤ e → cap = n ∧ e = 2 * tagM + n)
def OwnR (w : World) (e : TypeId) (size : Nat) (v : Value) (n : Nat) (xs : List Value) : Prop :=
 xs.length = n * size ∧ ((v = .slice none 0 0 ∧ n = 0) ∨
 ∃ g cap cur T fz, v = .slice (some ⟨g, 0, none⟩) n cap ∧ w.heap[g]? = some (.cells cur T fz) ∧ (fz = (0, 0) ∨ (tagM ≤ e ∧ cur.size ≤ fz.1)) ∧ TagOk e T n cap ∧ n ≤ cap ∧ cap ≤ maxLen ∧ cur.size = cap * size ∧ cur.toList.take (n * size) = xs)
theorem OwnR.strict {w : World} {e : TypeId} {size : Nat} {v : Value} {n : Nat} {xs : List Value} (h : OwnR w e size v n xs) (he : e < tagM) : w.ownsRow 0 e size v n xs := by
 refine ⟨h.1, ?_⟩
 rcases h.2 with hn | ⟨g, cap, cur, T, fz, h1, h2, h3, h4, h5⟩
 ·exact .inl hn
 ·refine .inr ⟨g, cap, cur, h1, Nat.zero_le _, ?_, h5⟩
  rcases h3 with h3 | h3
  ·rw [h2, h4.1 he, h3]
  ·exact absurd he (Nat.not_lt.2 h3.1)
theorem OwnR.of {w : World} {e : TypeId} {size : Nat} {v : Value} {n : Nat} {xs : List Value} (he : e < 2 * tagM) (h : w.ownsRow 0 e size v n xs) : OwnR w e size v n xs := by
 refine ⟨h.1, ?_⟩
 rcases h.2 with hn | ⟨g, cap, cur, h1, h2, h3, h5⟩
 ·exact .inl hn
 ·exact .inr ⟨g, cap, cur, e, (0, 0), h1, h3, .inl rfl, ⟨fun _ => rfl, fun h => absurd he (Nat.not_lt.2 h)⟩, h5⟩
theorem OwnR.of' {w : World} {e : TypeId} {size : Nat} {v : Value} {n : Nat} {xs : List Value} (h : (v = .slice none 0 0 ∨ e < tagM) ∧ w.ownsRow 0 e size v n xs) : OwnR w e size v n xs := by
 rcases h.1 with rfl | he
 ·refine ⟨h.2.1, ?_⟩
  rcases h.2.2 with hn | ⟨g, cap, cur, h1, _⟩
  ·exact .inl hn
  ·cases h1
 ·exact .of (Nat.lt_of_lt_of_le he (Nat.le_mul_of_pos_left _ (by decide))) h.2
def BlkRel (w : World) (own : List (Nat × Blk N)) (E : Env) (id : Nat) : Blk N → Prop
 | .row e t xs bs _ => ∃ cells, OwnR w e (N.sz t) (E id) xs.length cells ∧ RowC (Rep w (okb w.heap.size own E bs) t) xs cells
 | .whole t x bs => ∃ g T arr, E id = .pointer (some ⟨g, 0, none⟩) ∧ w.heap[g]? = some (.cells arr T (0, 0)) ∧ Rep w (okb w.heap.size own E bs) t x arr.toList
 | .cells l => ∃ g T arr, E id = .pointer (some ⟨g, 0, none⟩) ∧ w.heap[g]? = some (.cells arr T (0, 0)) ∧ arr.size = l.length ∧ ∀ (i : Nat) r u, l[i]? = some r → arr[i]? = some u → RVRel w own E r u
 | .mapB kt vt es => ∃ g arr clock, E id = .map (some g) ∧ w.heap[g]? = some (.map arr clock) ∧ MapRel kt vt es arr.toList
 | .vals _ l => ∃ arr : Array Value, E id = .agg arr ∧ arr.size = l.length ∧ (∀ u ∈ arr.toList, u.oneCell' = true) ∧ ∀ (i : Nat) r u, l[i]? = some r → arr[i]? = some u → RVRel w own E r u
def Blk.pinned : Blk N → Bool
 | .row _ _ _ _ p => p
 | _ => true
structure Kept (io : Io) (w0 w : World) : Prop where
 os : w.os = w0.os
 tape : w.tape = w0.tape
 output : w.output = w0.output
 size : w0.heap.size ≤ w.heap.size
 block : ∀ g, g < w0.heap.size → ¬ io.p g → w.heap[g]? = w0.heap[g]?
structure RelE (io : Io) (w0 : World) (σ : St N) (E : Env) (a : Act) (w : World) : Prop where
 kept : Kept io w0 w
 size : a.tmps.size = σ.regs.length
 defers : a.defers = io.dfs
 regs : ∀ (t : Nat) s, σ.regs[t]? = some s → SlotRel w σ.own E s (a.tmps.getD t undef)
 own : ∀ id b, look σ.own id = some b → BlkRel w σ.own E id b
 blk : ∀ id b, look σ.own id = some b → ∀ g, blkOf (E id) = some g → g < w.heap.size ∧ (w0.heap.size ≤ g ∨ io.p g)
 sep : ∀ id id' b b', look σ.own id = some b → look σ.own id' = some b' → id ≠ id' → ∀ g, blkOf (E id) = some g → blkOf (E id') ≠ some g
 sc : E.A = io.A
 nw : ∀ b, w0.heap.size ≤ b ∨ io.p b → io.A b
 fx : ∀ i ∈ io.ids, ∃ b, look σ.own i = some b ∧ E i = io.fix i ∧ b.pinned = true
def Rel (io : Io) (w0 : World) (σ : St N) (a : Act) (w : World) : Prop := ∃ E, RelE io w0 σ E a w
/-! Frames. -/
structure Ext (w w' : World) : Prop where
 os : w'.os = w.os
 tape : w'.tape = w.tape
 output : w'.output = w.output
 size : w.heap.size ≤ w'.heap.size
 block : ∀ g, g < w.heap.size → w'.heap[g]? = w.heap[g]?
theorem Ext.refl (w : World) : Ext w w := ⟨rfl, rfl, rfl, Nat.le_refl _, fun _ _ => rfl⟩
theorem Ext.cell {w w' : World} (h : Ext w w') {a : Addr} {u : Value} (hc : w.cell? a = some u) : w'.cell? a = some u :=
 (World.cell?_of_block (w := w) (h.block _ (World.block_lt_of_cell? w a hc))).trans hc
theorem Kept.ext {io : Io} {w0 w w' : World} (h : Kept io w0 w) (he : Ext w w') : Kept io w0 w' :=
 ⟨he.os.trans h.os, he.tape.trans h.tape, he.output.trans h.output, Nat.le_trans h.size he.size,
  fun g hg hi => (he.block g (Nat.lt_of_lt_of_le hg h.size)).trans (h.block g hg hi)⟩
theorem okb_size {H H' : Nat} {own : List (Nat × Blk N)} {E : Env} {bs : List Nat} {b : Nat} (hH : H ≤ H') (h : okb H own E bs b) : okb H' own E bs b :=
 ⟨⟨Nat.lt_of_lt_of_le h.1.1 hH, h.1.2⟩, h.2⟩
theorem RVRel_mono {w w' : World} {own own' : List (Nat × Blk N)} {E E' : Env} {r : RV N} {v : Value}
  (hcell : ∀ bs, (match r with | .data _ _ b => bs = b | .sptr _ _ b => bs = b | _ => False) → ∀ a u, okb w.heap.size own E bs a.block → w.cell? a = some u → w'.cell? a = some u)
  (hok : ∀ bs, (match r with | .data _ _ b => bs = b | .sptr _ _ b => bs = b | _ => False) → ∀ b, okb w.heap.size own E bs b → okb w'.heap.size own' E' bs b)
  (hrow : ∀ id n t, (match r with | .own i => id = i | .optr i _ _ => id = i | .osl i _ _ => id = i | _ => False) → isRow own id n t → isRow own' id n t ∧ E' id = E id)
  (hbox : ∀ id, (match r with | .bptr i _ => id = i | .fn _ caps => id ∈ caps | .mp i => id = i | _ => False) → isBox own id → isBox own' id ∧ E' id = E id)
  (h : RVRel w own E r v) : RVRel w' own' E' r v := by
 cases r with
 | undef => trivial
 | nil => exact h
 | int k n => exact h
 | bool b => exact h
 | str l => exact h
 | nilf => exact h
 | data t x bs =>
  obtain ⟨cs, h1, h2⟩ := h
  exact ⟨cs, Rep_mono (hcell bs rfl) (hok bs rfl) h1, h2⟩
 | own id =>
  obtain ⟨rfl, n, t, h1⟩ := h
  obtain ⟨k1, k2⟩ := hrow id n t rfl h1
  exact ⟨k2.symm, n, t, k1⟩
 | bptr id off =>
  obtain ⟨h1, g, h2, h3⟩ := h
  obtain ⟨k1, k2⟩ := hbox id rfl h1
  exact ⟨k1, g, k2.trans h2, h3⟩
 | sptr t x bs =>
  obtain ⟨ad, cs, h1, h2, h3, h4⟩ := h
  exact ⟨ad, cs, h1, hok bs rfl _ h2, Rep_mono (hcell bs rfl) (hok bs rfl) h3, fun j u hu => hcell bs rfl _ _ (by rw [addr_add_block]; exact h2) (h4 j u hu)⟩
 | optr id i off =>
  obtain ⟨g, cap, n, t, h1, h2, h3, h4⟩ := h
  obtain ⟨k1, k2⟩ := hrow id n t rfl h1
  exact ⟨g, cap, n, t, k1, h2, k2.trans h3, h4⟩
 | osl id lo k =>
  obtain ⟨g, cap, n, t, h1, h2, h3, h4⟩ := h
  obtain ⟨k1, k2⟩ := hrow id n t rfl h1
  exact ⟨g, cap, n, t, k1, h2, k2.trans h3, h4⟩
 | fn f caps =>
  obtain ⟨h1, h2⟩ := h
  refine ⟨?_, fun id hid => ?_⟩
  ·rw [h1, List.map_congr_left (fun id hid => ((hbox id hid (h2 id hid).1).2).symm)]
  ·obtain ⟨h3, g, h4⟩ := h2 id hid
   obtain ⟨k1, k2⟩ := hbox id hid h3
   exact ⟨k1, g, k2.trans h4⟩
 | mp id =>
  obtain ⟨h1, rfl⟩ := h
  obtain ⟨k1, k2⟩ := hbox id rfl h1
  exact ⟨k1, k2.symm⟩
theorem RVRel_ext {w w' : World} {own : List (Nat × Blk N)} {E : Env} {r : RV N} {v : Value} (he : Ext w w') (h : RVRel w own E r v) : RVRel w' own E r v :=
 RVRel_mono (fun _ _ _ _ _ hc => he.cell hc) (fun _ _ _ hb => okb_size he.size hb) (fun _ _ _ _ h => ⟨h, rfl⟩) (fun _ _ h => ⟨h, rfl⟩) h
theorem RowC_mono {α : Type} {R R' : α → List Value → Prop} (h : ∀ x cs, R x cs → R' x cs) : ∀ {xs : List α} {cs : List Value}, RowC R xs cs → RowC R' xs cs
 | [], _, hh => hh
 | _ :: _, _, ⟨c1, c2, e, h1, h2⟩ => ⟨c1, c2, e, h _ _ h1, RowC_mono h h2⟩
theorem SlotRel_mono {w w' : World} {own own' : List (Nat × Blk N)} {E E' : Env} {s : Slot N} {v : Value} (h : ∀ r v, RVRel w own E r v → RVRel w' own' E' r v) (hs : SlotRel w own E s v) : SlotRel w' own' E' s v := by
 cases s with
 | one r => exact h _ _ hs
 | tup l =>
  obtain ⟨vs, h1, h2, h3⟩ := hs
  exact ⟨vs, h1, h2, fun i r u hr hu => h _ _ (h3 i r u hr hu)⟩
theorem look_ins {β : Type} (i : Nat) (v : β) : ∀ (l : List (Nat × β)) (j : Nat), look (ins i v l) j = if i = j then some v else look l j
 | [], j => by
  simp only [ins, look]
  by_cases h : i = j
  ·simp [h]
  ·have : (i == j) = false := by simpa using h
   simp [this, h]
 | (k, u) :: r, j => by
  unfold ins
  cases hik : (i == k) with
  | true =>
   have hk : i = k := by simpa using hik
   subst hk
   simp only [cond_true, look]
   by_cases h : i = j
   ·simp [h]
   ·have : (i == j) = false := by simpa using h
    simp [this, h]
  | false =>
   have hne : i ≠ k := by simpa using hik
   simp only [cond_false]
   cases hb : Nat.blt i k with
   | true =>
    simp only [cond_true, look]
    by_cases h : i = j
    ·simp [h]
    ·have : (i == j) = false := by simpa using h
     simp [this, h]
   | false =>
    simp only [cond_false, look, look_ins i v r j]
    cases hkj : (k == j) with
    | true =>
     have : k = j := by simpa using hkj
     subst this
     simp [hne]
    | false => simp
end Go.Eng

set_option linter.unusedVariables false
namespace Go.Eng
variable {N : Names} {io : Io} {w0 w w' : World} {σ : St N} {E : Env} {a : Act}
def St.putS (σ : St N) (d : Nat) (s : Slot N) : St N := { σ with regs := σ.regs.set d s }
def St.put (σ : St N) (d : Option Nat) (s : Slot N) : St N := match d with
 | some d => σ.putS d s
 | none => σ
def updE (E : Env) (id : Nat) (v : Value) : Env := { E with val := fun i => if i = id then v else E i }
theorem updE_same (E : Env) (id : Nat) (v : Value) : updE E id v id = v := by simp [updE]
theorem updE_ne (E : Env) {id j : Nat} (v : Value) (h : j ≠ id) : updE E id v j = E j := by simp [updE, h]
theorem OwnR_ext {e : TypeId} {size n : Nat} {v : Value} {xs : List Value} (he : Ext w w') (h : OwnR w e size v n xs) : OwnR w' e size v n xs := by
 refine ⟨h.1, ?_⟩
 rcases h.2 with hn | ⟨g, cap, cur, T, fz, hv, hg, rest⟩
 ·exact .inl hn
 ·refine .inr ⟨g, cap, cur, T, fz, hv, ?_, rest⟩
  rw [he.block g (Array.getElem?_eq_some_iff.1 hg).1]
  exact hg
theorem BlkRel_ext {own : List (Nat × Blk N)} {id : Nat} {b : Blk N} (he : Ext w w') (hb : ∀ g, blkOf (E id) = some g → g < w.heap.size) (h : BlkRel w own E id b) : BlkRel w' own E id b := by
 cases b with
 | row e t xs bs p =>
  obtain ⟨cells, h1, h2⟩ := h
  exact ⟨cells, OwnR_ext he h1, RowC_mono (fun x cs hx => Rep_mono (fun _ _ _ hc => he.cell hc) (fun _ hb => okb_size he.size hb) hx) h2⟩
 | whole t x bs =>
  obtain ⟨g, T, arr, h1, h2, h3⟩ := h
  refine ⟨g, T, arr, h1, ?_, Rep_mono (fun _ _ _ hc => he.cell hc) (fun _ hb => okb_size he.size hb) h3⟩
  rw [he.block g (Array.getElem?_eq_some_iff.1 h2).1]
  exact h2
 | cells l =>
  obtain ⟨g, T, arr, h1, h2, h3, h4⟩ := h
  refine ⟨g, T, arr, h1, ?_, h3, fun i r u hr hu => RVRel_ext he (h4 i r u hr hu)⟩
  rw [he.block g (Array.getElem?_eq_some_iff.1 h2).1]
  exact h2
 | mapB kt vt es =>
  obtain ⟨g, arr, clock, h1, h2, h3⟩ := h
  refine ⟨g, arr, clock, h1, ?_, h3⟩
  rw [he.block g (Array.getElem?_eq_some_iff.1 h2).1]
  exact h2
 | vals n l =>
  obtain ⟨arr, h1, h2, h3, h4⟩ := h
  exact ⟨arr, h1, h2, h3, fun i r u hr hu => RVRel_ext he (h4 i r u hr hu)⟩
theorem RelE.ext (h : RelE io w0 σ E a w) (he : Ext w w') : RelE io w0 σ E a w' where
 kept := h.kept.ext he
 size := h.size
 defers := h.defers
 regs := fun t s hs => SlotRel_mono (fun _ _ hr => RVRel_ext he hr) (h.regs t s hs)
 own := fun id b hb => BlkRel_ext he (fun g hg => (h.blk id b hb g hg).1) (h.own id b hb)
 blk := fun id b hb g hg => ⟨Nat.lt_of_lt_of_le (h.blk id b hb g hg).1 he.size, (h.blk id b hb g hg).2⟩
 sep := h.sep
 sc := h.sc
 nw := h.nw
 fx := h.fx
theorem RelE.put (h : RelE io w0 σ E a w) (d : Option Nat) {s : Slot N} {v : Value} (hs : SlotRel w σ.own E s v) : RelE io w0 (σ.put d s) E (a.put d v) w := by
 cases d with
 | none => exact h
 | some d =>
  refine ⟨h.kept, ?_, h.defers, ?_, h.own, h.blk, h.sep, h.sc, h.nw, h.fx⟩
  ·simp [St.put, St.putS, Act.put, h.size]
  ·intro t s' hs'
   simp only [St.put, St.putS, Act.put] at hs' ⊢
   rw [List.getElem?_set] at hs'
   by_cases hd : d = t
   ·subst hd
    rw [if_pos rfl] at hs'
    split at hs'
    ·rename_i hlt
     cases hs'
     have : d < a.tmps.size := by rw [h.size]; exact hlt
     simp [this]
     exact hs
    ·cases hs'
   ·rw [if_neg hd] at hs'
    have := h.regs t s' hs'
    rw [show (a.tmps.setIfInBounds d v).getD t undef = a.tmps.getD t undef from by
     rw [Array.getD_eq_getD_getElem?, Array.getD_eq_getD_getElem?, Array.getElem?_setIfInBounds_ne hd]]
    exact this
theorem isRow_ins {own : List (Nat × Blk N)} {id j n : Nat} {t : Ty} {b : Blk N} (hne : j ≠ id) (h : isRow own j n t) : isRow (ins id b own) j n t := by
 obtain ⟨e, xs, bs, p, h1, h2⟩ := h
 exact ⟨e, xs, bs, p, by rw [look_ins, if_neg (Ne.symm hne)]; exact h1, h2⟩
theorem isBox_ins {own : List (Nat × Blk N)} {id j : Nat} {b : Blk N} (hne : j ≠ id) (h : isBox own j) : isBox (ins id b own) j := by
 rcases h with ⟨t, x, bs, h1⟩ | ⟨l, h1⟩ | ⟨kt, vt, es, h1⟩ | ⟨n, l, h1⟩
 ·exact .inl ⟨t, x, bs, by rw [look_ins, if_neg (Ne.symm hne)]; exact h1⟩
 ·exact .inr (.inl ⟨l, by rw [look_ins, if_neg (Ne.symm hne)]; exact h1⟩)
 ·exact .inr (.inr (.inl ⟨kt, vt, es, by rw [look_ins, if_neg (Ne.symm hne)]; exact h1⟩))
 ·exact .inr (.inr (.inr ⟨n, l, by rw [look_ins, if_neg (Ne.symm hne)]; exact h1⟩))
theorem isRow_some {own : List (Nat × Blk N)} {j n : Nat} {t : Ty} (h : isRow own j n t) : ∃ b, look own j = some b := by
 obtain ⟨e, xs, bs, p, h1, h2⟩ := h
 exact ⟨_, h1⟩
theorem isBox_some {own : List (Nat × Blk N)} {j : Nat} (h : isBox own j) : ∃ b, look own j = some b := by
 rcases h with ⟨t, x, bs, h1⟩ | ⟨l, h1⟩ | ⟨kt, vt, es, h1⟩ | ⟨n, l, h1⟩ <;> exact ⟨_, h1⟩
theorem okb_ins {own : List (Nat × Blk N)} {id : Nat} {b : Blk N} {V : Value} {H H' : Nat} (hH : H ≤ H') (hV : ∀ g, blkOf V = some g → H ≤ g) {bs : List Nat} {g : Nat}
  (h : okb H own E bs g) : okb H' (ins id b own) (updE E id V) bs g := by
 refine ⟨⟨Nat.lt_of_lt_of_le h.1.1 hH, h.1.2⟩, fun j hj hjb => ?_⟩
 by_cases hji : j = id
 ·subst hji
  rw [updE_same]
  intro hg
  have := hV g hg
  have := h.1.1
  omega
 ·rw [updE_ne _ _ hji]
  rw [look_ins, if_neg (Ne.symm hji)] at hj
  exact h.2 j hj hjb
theorem RVRel_ins {id : Nat} {b : Blk N} {V : Value} {own : List (Nat × Blk N)} (he : Ext w w') (hno : look own id = none) (hV : ∀ g, blkOf V = some g → w.heap.size ≤ g) {r : RV N} {v : Value}
  (h : RVRel w own E r v) : RVRel w' (ins id b own) (updE E id V) r v :=
 RVRel_mono (fun _ _ _ _ _ hc => he.cell hc) (fun _ _ _ hb => okb_ins he.size hV hb)
  (fun j n t _ hj => by
   have hne : j ≠ id := fun e => by subst e; obtain ⟨b, hb⟩ := isRow_some hj; rw [hno] at hb; cases hb
   exact ⟨isRow_ins hne hj, updE_ne _ _ hne⟩)
  (fun j _ hj => by
   have hne : j ≠ id := fun e => by subst e; obtain ⟨b, hb⟩ := isBox_some hj; rw [hno] at hb; cases hb
   exact ⟨isBox_ins hne hj, updE_ne _ _ hne⟩) h
theorem BlkRel_ins {id j : Nat} {b b' : Blk N} {V : Value} {own : List (Nat × Blk N)} (he : Ext w w') (hno : look own id = none) (hV : ∀ g, blkOf V = some g → w.heap.size ≤ g) (hne : j ≠ id)
  (hb : ∀ g, blkOf (E j) = some g → g < w.heap.size) (h : BlkRel w own E j b') : BlkRel w' (ins id b own) (updE E id V) j b' := by
 have hH := he.size
 cases b' with
 | row e t xs bs p =>
  obtain ⟨cells, h1, h2⟩ := h
  exact ⟨cells, by rw [updE_ne _ _ hne]; exact OwnR_ext he h1, RowC_mono (fun x cs hx => Rep_mono (fun _ _ _ hc => he.cell hc) (fun _ hb => okb_ins hH hV hb) hx) h2⟩
 | whole t x bs =>
  obtain ⟨g, T, arr, h1, h2, h3⟩ := h
  refine ⟨g, T, arr, by rw [updE_ne _ _ hne]; exact h1, ?_, Rep_mono (fun _ _ _ hc => he.cell hc) (fun _ hb => okb_ins hH hV hb) h3⟩
  rw [he.block g (Array.getElem?_eq_some_iff.1 h2).1]
  exact h2
 | cells l =>
  obtain ⟨g, T, arr, h1, h2, h3, h4⟩ := h
  refine ⟨g, T, arr, by rw [updE_ne _ _ hne]; exact h1, ?_, h3, fun i r u hr hu => RVRel_ins he hno hV (h4 i r u hr hu)⟩
  rw [he.block g (Array.getElem?_eq_some_iff.1 h2).1]
  exact h2
 | mapB kt vt es =>
  obtain ⟨g, arr, clock, h1, h2, h3⟩ := h
  refine ⟨g, arr, clock, by rw [updE_ne _ _ hne]; exact h1, ?_, h3⟩
  rw [he.block g (Array.getElem?_eq_some_iff.1 h2).1]
  exact h2
 | vals n l =>
  obtain ⟨arr, h1, h2, h3, h4⟩ := h
  exact ⟨arr, by rw [updE_ne _ _ hne]; exact h1, h2, h3, fun i r u hr hu => RVRel_ins he hno hV (h4 i r u hr hu)⟩
theorem RelE.add (h : RelE io w0 σ E a w) (he : Ext w w') {id : Nat} (hno : look σ.own id = none) {b : Blk N} {V : Value} (hV : ∀ g, blkOf V = some g → w.heap.size ≤ g ∧ g < w'.heap.size)
  (hb : BlkRel w' (ins id b σ.own) (updE E id V) id b) : RelE io w0 { σ with own := ins id b σ.own } (updE E id V) a w' where
 kept := h.kept.ext he
 size := h.size
 defers := h.defers
 regs := fun t s hs => SlotRel_mono (fun _ _ hr => RVRel_ins he hno (fun g hg => (hV g hg).1) hr) (h.regs t s hs)
 own := fun j b' hj => by
  simp only at hj
  rw [look_ins] at hj
  by_cases hji : id = j
  ·subst hji
   rw [if_pos rfl] at hj
   cases hj
   exact hb
  ·rw [if_neg hji] at hj
   exact BlkRel_ins he hno (fun g hg => (hV g hg).1) (Ne.symm hji) (fun g hg => (h.blk j b' hj g hg).1) (h.own j b' hj)
 blk := fun j b' hj g hg => by
  simp only at hj
  rw [look_ins] at hj
  by_cases hji : id = j
  ·subst hji
   rw [updE_same] at hg
   exact ⟨(hV g hg).2, .inl (Nat.le_trans h.kept.size (hV g hg).1)⟩
  ·rw [if_neg hji] at hj
   rw [updE_ne _ _ (Ne.symm hji)] at hg
   exact ⟨Nat.lt_of_lt_of_le (h.blk j b' hj g hg).1 he.size, (h.blk j b' hj g hg).2⟩
 sep := fun i j b1 b2 h1 h2 hij g hg hg2 => by
  simp only at h1 h2
  rw [look_ins] at h1 h2
  by_cases hi : id = i
  ·subst hi
   rw [if_neg hij] at h2
   rw [updE_same] at hg
   rw [updE_ne _ _ (Ne.symm hij)] at hg2
   have := (hV g hg).1
   have := (h.blk j b2 h2 g hg2).1
   omega
  ·rw [if_neg hi] at h1
   rw [updE_ne _ _ (Ne.symm hi)] at hg
   by_cases hj : id = j
   ·subst hj
    rw [updE_same] at hg2
    have := (hV g hg2).1
    have := (h.blk i b1 h1 g hg).1
    omega
   ·rw [if_neg hj] at h2
    rw [updE_ne _ _ (Ne.symm hj)] at hg2
    exact h.sep i j b1 b2 h1 h2 hij g hg hg2
 sc := h.sc
 nw := h.nw
 fx := fun i hi => by
  obtain ⟨b0, h1, h2, h3⟩ := h.fx i hi
  have hne : i ≠ id := fun e => by subst e; rw [hno] at h1; cases h1
  exact ⟨b0, by simp only [look_ins, if_neg (Ne.symm hne)]; exact h1, by rw [updE_ne _ _ hne]; exact h2, h3⟩
end Go.Eng

set_option linter.unusedVariables false
namespace Go.Eng
variable {N : Names} {io : Io} {w0 w w' : World} {σ : St N} {E : Env} {a : Act}
def RV.bs : RV N → List Nat
 | .data _ _ b => b
 | .sptr _ _ b => b
 | _ => []
def RV.refs : RV N → List Nat
 | .own i => [i]
 | .bptr i _ => [i]
 | .optr i _ _ => [i]
 | .osl i _ _ => [i]
 | .fn _ caps => caps
 | .mp i => [i]
 | _ => []
def RV.mapBs (f : List Nat → List Nat) : RV N → RV N
 | .data t x b => .data t x (f b)
 | .sptr t x b => .sptr t x (f b)
 | r => r
def Slot.map (f : RV N → RV N) : Slot N → Slot N
 | .one r => .one (f r)
 | .tup l => .tup (l.map f)
def Blk.bs : Blk N → List Nat
 | .row _ _ _ b _ => b
 | .whole _ _ b => b
 | .cells l => l.flatMap RV.bs
 | .mapB _ _ _ => []
 | .vals _ l => l.flatMap RV.bs
def Blk.refs : Blk N → List Nat
 | .cells l => l.flatMap RV.refs
 | .vals _ l => l.flatMap RV.refs
 | _ => []
def Blk.map (f : RV N → RV N) (g : List Nat → List Nat) : Blk N → Blk N
 | .row e t xs b p => .row e t xs (g b) p
 | .whole t x b => .whole t x (g b)
 | .cells l => .cells (l.map f)
 | .mapB kt vt es => .mapB kt vt es
 | .vals n l => .vals n (l.map f)
def Blk.loc (b : Blk N) : Prop := (∃ l, b = .cells l) ∨ ∃ n l, b = .vals n l
def mapO (f : Blk N → Blk N) (l : List (Nat × Blk N)) : List (Nat × Blk N) := l.map fun p => (p.1, f p.2)
def del {β : Type} (id : Nat) : List (Nat × β) → List (Nat × β)
 | [] => []
 | (k, v) :: r => bif k == id then del id r else (k, v) :: del id r
def scrub (id : Nat) (r : RV N) : RV N := bif r.bs.contains id then .undef else r
def kill (id : Nat) (r : RV N) : RV N := bif r.bs.contains id || r.refs.contains id then .undef else r
theorem look_del {β : Type} (id : Nat) : ∀ (l : List (Nat × β)) (j : Nat), look (del id l) j = if id = j then none else look l j
 | [], j => by simp [del, look]
 | (k, v) :: r, j => by
  unfold del
  cases hk : (k == id) with
  | true =>
   have : k = id := by simpa using hk
   subst this
   simp only [cond_true, look_del k r j, look]
   by_cases h : k = j
   ·simp [h]
   ·have : (k == j) = false := by simpa using h
    simp [h, this]
  | false =>
   have hne : k ≠ id := by simpa using hk
   simp only [cond_false, look, look_del id r j]
   cases hkj : (k == j) with
   | true =>
    have : k = j := by simpa using hkj
    subst this
    simp [Ne.symm hne]
   | false => simp
theorem look_mapO (f : Blk N → Blk N) : ∀ (l : List (Nat × Blk N)) (j : Nat), look (mapO f l) j = (look l j).map f
 | [], j => rfl
 | (k, v) :: r, j => by
  show look ((k, f v) :: mapO f r) j = _
  simp only [look, look_mapO f r j]
  cases (k == j) <;> rfl
theorem SlotRel_map {own own' : List (Nat × Blk N)} {E E' : Env} {f : RV N → RV N} (h : ∀ r v, RVRel w own E r v → RVRel w' own' E' (f r) v) {s : Slot N} {v : Value} (hs : SlotRel w own E s v) : SlotRel w' own' E' (s.map f) v := by
 cases s with
 | one r => exact h r v hs
 | tup l =>
  obtain ⟨vs, h1, h2, h3⟩ := hs
  refine ⟨vs, h1, by simpa using h2, fun i r u hr hu => ?_⟩
  rw [List.getElem?_map] at hr
  obtain ⟨r0, hr0, rfl⟩ := Option.map_eq_some_iff.1 hr
  exact h _ _ (h3 i r0 u hr0 hu)
theorem contains_false {l : List Nat} {i : Nat} (h : l.contains i = false) : i ∉ l := by
 intro hm
 rw [List.contains_iff_mem.2 hm] at h
 cases h
theorem cell_grown {g : Option Nat} (hw : w.grownBy w' g) {a : Addr} {u : Value} (hne : g ≠ some a.block) (hc : w.cell? a = some u) : w'.cell? a = some u :=
 hw.cell hc (fun e => hne e.symm)
theorem RVRel_repl {own : List (Nat × Blk N)} {id nid : Nat} {b b' : Blk N} {V : Value} (hb : look own id = some b) (hw : w.grownBy w' (blkOf (E id)))
  (hV : ∀ g, blkOf V = some g → blkOf (E id) = some g ∨ w.heap.size ≤ g) (hfresh : look (del id own) nid = none) {r : RV N} {v : Value} (h1 : id ∉ r.bs) (h2 : id ∉ r.refs)
  (h : RVRel w own E r v) : RVRel w' (ins nid b' (del id own)) (updE E nid V) r v := by
 have hok : ∀ bs, id ∉ bs → ∀ g, okb w.heap.size own E bs g → okb w'.heap.size (ins nid b' (del id own)) (updE E nid V) bs g := by
  intro bs hbs g hg
  refine ⟨⟨Nat.lt_of_lt_of_le hg.1.1 hw.size, hg.1.2⟩, fun j hj hjb => ?_⟩
  by_cases hjn : j = nid
  ·subst hjn
   rw [updE_same]
   intro hgv
   rcases hV g hgv with h3 | h3
   ·exact hg.2 id (by rw [hb]; rfl) hbs h3
   ·have := hg.1.1
    omega
  ·rw [updE_ne _ _ hjn]
   rw [look_ins, if_neg (Ne.symm hjn), look_del] at hj
   by_cases hji : id = j
   ·rw [if_pos hji] at hj; cases hj
   ·rw [if_neg hji] at hj
    exact hg.2 j hj hjb
 have hcell : ∀ bs, id ∉ bs → ∀ (a : Addr) u, okb w.heap.size own E bs a.block → w.cell? a = some u → w'.cell? a = some u :=
  fun bs hbs a u hg hc => cell_grown hw (hg.2 id (by rw [hb]; rfl) hbs) hc
 have hne : ∀ j bj, look own j = some bj → j ≠ id → j ≠ nid := by
  intro j bj hj hji e
  subst e
  rw [look_del, if_neg (Ne.symm hji), hj] at hfresh
  cases hfresh
 have hrow : ∀ j n t, j ≠ id → isRow own j n t → isRow (ins nid b' (del id own)) j n t ∧ updE E nid V j = E j := by
  intro j n t hji hj
  have hjn : j ≠ nid := by obtain ⟨bj, hbj⟩ := isRow_some hj; exact hne j bj hbj hji
  obtain ⟨e, xs, bs, p, k1, k2⟩ := hj
  exact ⟨isRow_ins hjn ⟨e, xs, bs, p, by rw [look_del, if_neg (Ne.symm hji)]; exact k1, k2⟩, updE_ne _ _ hjn⟩
 have hbox : ∀ j, j ≠ id → isBox own j → isBox (ins nid b' (del id own)) j ∧ updE E nid V j = E j := by
  intro j hji hj
  have hjn : j ≠ nid := by obtain ⟨bj, hbj⟩ := isBox_some hj; exact hne j bj hbj hji
  refine ⟨isBox_ins hjn ?_, updE_ne _ _ hjn⟩
  rcases hj with ⟨t, x, bs, k1⟩ | ⟨l, k1⟩ | ⟨kt, vt, es, k1⟩ | ⟨n, l, k1⟩
  ·exact .inl ⟨t, x, bs, by rw [look_del, if_neg (Ne.symm hji)]; exact k1⟩
  ·exact .inr (.inl ⟨l, by rw [look_del, if_neg (Ne.symm hji)]; exact k1⟩)
  ·exact .inr (.inr (.inl ⟨kt, vt, es, by rw [look_del, if_neg (Ne.symm hji)]; exact k1⟩))
  ·exact .inr (.inr (.inr ⟨n, l, by rw [look_del, if_neg (Ne.symm hji)]; exact k1⟩))
 refine RVRel_mono ?_ ?_ ?_ ?_ h
 ·intro bs hbs a u
  cases r <;> first | exact hbs.elim | (subst hbs; exact hcell _ h1 a u)
 ·intro bs hbs g
  cases r <;> first | exact hbs.elim | (subst hbs; exact hok _ h1 g)
 ·intro j n t hj hr
  cases r <;> first | exact hj.elim | (subst hj; exact hrow _ n t (fun e => h2 (by simp [RV.refs, e])) hr)
 ·intro j hj hr
  cases r <;> first | exact hj.elim | (subst hj; exact hbox _ (fun e => h2 (by simp [RV.refs, e])) hr) | exact hbox j (fun e => h2 (by rw [← e]; exact hj)) hr
theorem RVRel_kill {own : List (Nat × Blk N)} {id nid : Nat} {b b' : Blk N} {V : Value} (hb : look own id = some b) (hw : w.grownBy w' (blkOf (E id)))
  (hV : ∀ g, blkOf V = some g → blkOf (E id) = some g ∨ w.heap.size ≤ g) (hfresh : look (del id own) nid = none) {r : RV N} {v : Value}
  (h : RVRel w own E r v) : RVRel w' (ins nid b' (del id own)) (updE E nid V) (kill id r) v := by
 unfold kill
 cases hc : (r.bs.contains id || r.refs.contains id) with
 | true => trivial
 | false =>
  rw [Bool.or_eq_false_iff] at hc
  exact RVRel_repl hb hw hV hfresh (contains_false hc.1) (contains_false hc.2) h
def killB (id : Nat) (b : Blk N) : Blk N := b.map (kill id) (fun l => l)
theorem RelE.replace (h : RelE io w0 σ E a w) {id nid : Nat} {b b' : Blk N} {V : Value} (hb : look σ.own id = some b) (hw : w.grownBy w' (blkOf (E id)))
  (hV : ∀ g, blkOf V = some g → (blkOf (E id) = some g ∨ w.heap.size ≤ g) ∧ g < w'.heap.size) (hfresh : look (del id σ.own) nid = none) (hpin : b.pinned = false)
  (hno : ∀ j bj, look σ.own j = some bj → j ≠ id → bj.loc ∨ id ∉ bj.bs)
  (hb' : BlkRel w' (ins nid b' (del id (mapO (killB id) σ.own))) (updE E nid V) nid b') :
  RelE io w0 { regs := σ.regs.map (Slot.map (kill id)), own := ins nid b' (del id (mapO (killB id) σ.own)) } (updE E nid V) a w' := by
 have hV1 : ∀ g, blkOf V = some g → blkOf (E id) = some g ∨ w.heap.size ≤ g := fun g hg => (hV g hg).1
 -- the killed list names the same blocks
 have hlook : ∀ j, look (ins nid b' (del id (mapO (killB id) σ.own))) j = if nid = j then some b' else if id = j then none else (look σ.own j).map (killB id) := by
  intro j; rw [look_ins, look_del, look_mapO]
 have hlook' : ∀ j, look (ins nid b' (del id σ.own)) j = if nid = j then some b' else if id = j then none else look σ.own j := by
  intro j; rw [look_ins, look_del]
 have hsome : ∀ j, (look (ins nid b' (del id (mapO (killB id) σ.own))) j).isSome = (look (ins nid b' (del id σ.own)) j).isSome := by
  intro j
  rw [hlook, hlook']
  split
  ·rfl
  ·split
   ·rfl
   ·cases look σ.own j <;> rfl
 have hrowk : ∀ j n t, isRow (ins nid b' (del id σ.own)) j n t → isRow (ins nid b' (del id (mapO (killB id) σ.own))) j n t := by
  rintro j n t ⟨e, xs, bs, p, k1, k2⟩
  rw [hlook'] at k1
  by_cases hj : nid = j
  ·rw [if_pos hj] at k1
   exact ⟨e, xs, bs, p, by rw [hlook, if_pos hj]; exact k1, k2⟩
  ·rw [if_neg hj] at k1
   by_cases hi : id = j
   ·rw [if_pos hi] at k1; cases k1
   ·rw [if_neg hi] at k1
    exact ⟨e, xs, bs, p, by rw [hlook, if_neg hj, if_neg hi, k1]; rfl, k2⟩
 have hboxk : ∀ j, isBox (ins nid b' (del id σ.own)) j → isBox (ins nid b' (del id (mapO (killB id) σ.own))) j := by
  rintro j hj
  by_cases hn : nid = j
  ·rcases hj with ⟨t, x, bs, k1⟩ | ⟨l, k1⟩ | ⟨kt, vt, es, k1⟩ | ⟨n, l, k1⟩
   ·rw [hlook', if_pos hn] at k1
    exact .inl ⟨t, x, bs, by rw [hlook, if_pos hn]; exact k1⟩
   ·rw [hlook', if_pos hn] at k1
    exact .inr (.inl ⟨l, by rw [hlook, if_pos hn]; exact k1⟩)
   ·rw [hlook', if_pos hn] at k1
    exact .inr (.inr (.inl ⟨kt, vt, es, by rw [hlook, if_pos hn]; exact k1⟩))
   ·rw [hlook', if_pos hn] at k1
    exact .inr (.inr (.inr ⟨n, l, by rw [hlook, if_pos hn]; exact k1⟩))
  ·by_cases hi : id = j
   ·rcases hj with ⟨t, x, bs, k1⟩ | ⟨l, k1⟩ | ⟨kt, vt, es, k1⟩ | ⟨n, l, k1⟩ <;> (rw [hlook', if_neg hn, if_pos hi] at k1; cases k1)
   ·rcases hj with ⟨t, x, bs, k1⟩ | ⟨l, k1⟩ | ⟨kt, vt, es, k1⟩ | ⟨n, l, k1⟩
    ·rw [hlook', if_neg hn, if_neg hi] at k1
     exact .inl ⟨t, x, bs, by rw [hlook, if_neg hn, if_neg hi, k1]; rfl⟩
    ·rw [hlook', if_neg hn, if_neg hi] at k1
     exact .inr (.inl ⟨l.map (kill id), by rw [hlook, if_neg hn, if_neg hi, k1]; rfl⟩)
    ·rw [hlook', if_neg hn, if_neg hi] at k1
     exact .inr (.inr (.inl ⟨kt, vt, es, by rw [hlook, if_neg hn, if_neg hi, k1]; rfl⟩))
    ·rw [hlook', if_neg hn, if_neg hi] at k1
     exact .inr (.inr (.inr ⟨n, l.map (kill id), by rw [hlook, if_neg hn, if_neg hi, k1]; rfl⟩))
 have hfin : ∀ r v, RVRel w' (ins nid b' (del id σ.own)) (updE E nid V) r v → RVRel w' (ins nid b' (del id (mapO (killB id) σ.own))) (updE E nid V) r v := by
  intro r v hr
  exact RVRel_mono (fun _ _ _ _ _ hc => hc) (fun bs _ g hg => ⟨hg.1, fun j hj hjb => hg.2 j (by rw [← hsome]; exact hj) hjb⟩) (fun j n t _ hj => ⟨hrowk j n t hj, rfl⟩) (fun j _ hj => ⟨hboxk j hj, rfl⟩) hr
 have hkill : ∀ r v, RVRel w σ.own E r v → RVRel w' (ins nid b' (del id (mapO (killB id) σ.own))) (updE E nid V) (kill id r) v :=
  fun r v hr => hfin _ _ (RVRel_kill hb hw hV1 hfresh hr)
 have hok : ∀ bs, id ∉ bs → ∀ g, okb w.heap.size σ.own E bs g → okb w'.heap.size (ins nid b' (del id (mapO (killB id) σ.own))) (updE E nid V) bs g := by
  intro bs hbs g hg
  refine ⟨⟨Nat.lt_of_lt_of_le hg.1.1 hw.size, hg.1.2⟩, fun j hj hjb => ?_⟩
  rw [hsome, hlook'] at hj
  by_cases hjn : nid = j
  ·subst hjn
   rw [updE_same]
   intro hgv
   rcases hV1 g hgv with h3 | h3
   ·exact hg.2 id (by rw [hb]; rfl) hbs h3
   ·have := hg.1.1
    omega
  ·rw [updE_ne _ _ (Ne.symm hjn)]
   rw [if_neg hjn] at hj
   by_cases hji : id = j
   ·rw [if_pos hji] at hj; cases hj
   ·rw [if_neg hji] at hj
    exact hg.2 j hj hjb
 have hcell : ∀ bs, id ∉ bs → ∀ (a : Addr) u, okb w.heap.size σ.own E bs a.block → w.cell? a = some u → w'.cell? a = some u :=
  fun bs hbs a u hg hc => cell_grown hw (hg.2 id (by rw [hb]; rfl) hbs) hc
 have hblock : ∀ j bj, look σ.own j = some bj → j ≠ id → ∀ g, blkOf (E j) = some g → w'.heap[g]? = w.heap[g]? :=
  fun j bj hj hji g hg => hw.block g (h.blk j bj hj g hg).1 (fun e => h.sep j id bj b hj hb hji g hg e.symm)
 refine ⟨?_, ?_, h.defers, ?_, ?_, ?_, ?_, h.sc, h.nw, fun i hi => by
  obtain ⟨b0, h1, h2, h3⟩ := h.fx i hi
  have hne : i ≠ id := fun e => by subst e; rw [hb] at h1; cases h1; rw [hpin] at h3; cases h3
  have hnn : i ≠ nid := fun e => by subst e; rw [look_del, if_neg (Ne.symm hne), h1] at hfresh; cases hfresh
  refine ⟨killB id b0, by simp only [hlook, if_neg (Ne.symm hnn), if_neg (Ne.symm hne), h1]; rfl, by rw [updE_ne _ _ hnn]; exact h2, ?_⟩
  cases b0 <;> exact h3⟩
 ·refine ⟨hw.os.trans h.kept.os, hw.tape.trans h.kept.tape, hw.output.trans h.kept.output, Nat.le_trans h.kept.size hw.size, fun g hg hi => ?_⟩
  rw [hw.block g (Nat.lt_of_lt_of_le hg h.kept.size) (fun e => ?_)]
  ·exact h.kept.block g hg hi
  ·rcases (h.blk id b hb g e.symm).2 with h3 | h3
   ·omega
   ·exact hi h3
 ·simpa using h.size
 ·intro t s hs
  simp only [List.getElem?_map] at hs
  obtain ⟨s0, hs0, rfl⟩ := Option.map_eq_some_iff.1 hs
  exact SlotRel_map hkill (h.regs t s0 hs0)
 ·intro j bj hj
  simp only at hj ⊢
  by_cases hjn : nid = j
  ·subst hjn
   rw [hlook, if_pos rfl] at hj
   cases hj
   exact hb'
  ·rw [hlook, if_neg hjn] at hj
   by_cases hji : id = j
   ·rw [if_pos hji] at hj; cases hj
   ·rw [if_neg hji] at hj
    obtain ⟨b0, hb0, rfl⟩ := Option.map_eq_some_iff.1 hj
    have hold := h.own j b0 hb0
    have hE : updE E nid V j = E j := updE_ne _ _ (Ne.symm hjn)
    have hbk := hblock j b0 hb0 (Ne.symm hji)
    cases b0 with
    | row e t xs bs p =>
     have hbs : id ∉ bs := by
      rcases hno j _ hb0 (Ne.symm hji) with (⟨l, hl⟩ | ⟨n, l, hl⟩) | hl
      ·cases hl
      ·cases hl
      ·exact hl
     obtain ⟨cells, k1, k2⟩ := hold
     refine ⟨cells, ?_, RowC_mono (fun x cs hx => Rep_mono (hcell bs hbs) (hok bs hbs) hx) k2⟩
     rw [hE]
     refine ⟨k1.1, ?_⟩
     rcases k1.2 with hn | ⟨g, cap, cur, T0, fz, hv, hg, rest⟩
     ·exact .inl hn
     ·refine .inr ⟨g, cap, cur, T0, fz, hv, ?_, rest⟩
      rw [hbk g (by rw [hv]; rfl)]
      exact hg
    | whole t x bs =>
     have hbs : id ∉ bs := by
      rcases hno j _ hb0 (Ne.symm hji) with (⟨l, hl⟩ | ⟨n, l, hl⟩) | hl
      ·cases hl
      ·cases hl
      ·exact hl
     obtain ⟨g, T, arr, k1, k2, k3⟩ := hold
     refine ⟨g, T, arr, hE.trans k1, ?_, Rep_mono (hcell bs hbs) (hok bs hbs) k3⟩
     rw [hbk g (by rw [k1]; rfl)]
     exact k2
    | cells l =>
     obtain ⟨g, T, arr, k1, k2, k3, k4⟩ := hold
     refine ⟨g, T, arr, hE.trans k1, ?_, by simpa using k3, fun i r u hr hu => ?_⟩
     ·rw [hbk g (by rw [k1]; rfl)]
      exact k2
     ·simp only [List.getElem?_map] at hr
      obtain ⟨r0, hr0, rfl⟩ := Option.map_eq_some_iff.1 hr
      exact hkill _ _ (k4 i r0 u hr0 hu)
    | mapB kt vt es =>
     obtain ⟨g, arr, clock, k1, k2, k3⟩ := hold
     refine ⟨g, arr, clock, hE.trans k1, ?_, k3⟩
     rw [hbk g (by rw [k1]; rfl)]
     exact k2
    | vals n l =>
     obtain ⟨arr, k1, k2, k3, k4⟩ := hold
     refine ⟨arr, hE.trans k1, by simpa using k2, k3, fun i r u hr hu => ?_⟩
     simp only [List.getElem?_map] at hr
     obtain ⟨r0, hr0, rfl⟩ := Option.map_eq_some_iff.1 hr
     exact hkill _ _ (k4 i r0 u hr0 hu)
 ·intro j bj hj g hg
  simp only at hj
  by_cases hjn : nid = j
  ·subst hjn
   rw [updE_same] at hg
   obtain ⟨h3, h4⟩ := hV g hg
   refine ⟨h4, ?_⟩
   rcases h3 with h3 | h3
   ·exact (h.blk id b hb g h3).2
   ·exact .inl (Nat.le_trans h.kept.size h3)
  ·rw [updE_ne _ _ (Ne.symm hjn)] at hg
   rw [hlook, if_neg hjn] at hj
   by_cases hji : id = j
   ·rw [if_pos hji] at hj; cases hj
   ·rw [if_neg hji] at hj
    obtain ⟨b0, hb0, rfl⟩ := Option.map_eq_some_iff.1 hj
    exact ⟨Nat.lt_of_lt_of_le (h.blk j b0 hb0 g hg).1 hw.size, (h.blk j b0 hb0 g hg).2⟩
 ·have key : ∀ j bj, look (ins nid b' (del id (mapO (killB id) σ.own))) j = some bj → j ≠ nid → ∃ b0, look σ.own j = some b0 ∧ j ≠ id := by
   intro j bj hj hjn
   rw [hlook, if_neg (Ne.symm hjn)] at hj
   by_cases hji : id = j
   ·rw [if_pos hji] at hj; cases hj
   ·rw [if_neg hji] at hj
    obtain ⟨b0, hb0, _⟩ := Option.map_eq_some_iff.1 hj
    exact ⟨b0, hb0, Ne.symm hji⟩
  intro i j b1 b2 h1 h2 hij g hg hg2
  simp only at h1 h2
  by_cases hin : i = nid
  ·subst hin
   rw [updE_same] at hg
   have hjn : j ≠ i := Ne.symm hij
   rw [updE_ne _ _ hjn] at hg2
   obtain ⟨b0, hb0, hji⟩ := key j b2 h2 hjn
   rcases (hV g hg).1 with h3 | h3
   ·exact h.sep id j b b0 hb hb0 (Ne.symm hji) g h3 hg2
   ·have := (h.blk j b0 hb0 g hg2).1
    omega
  ·obtain ⟨b0, hb0, hii⟩ := key i b1 h1 hin
   rw [updE_ne _ _ hin] at hg
   by_cases hjn : j = nid
   ·subst hjn
    rw [updE_same] at hg2
    rcases (hV g hg2).1 with h3 | h3
    ·exact h.sep i id b0 b hb0 hb hii g hg h3
    ·have := (h.blk i b0 hb0 g hg).1
     omega
   ·obtain ⟨b3, hb3, hjj⟩ := key j b2 h2 hjn
    rw [updE_ne _ _ hjn] at hg2
    exact h.sep i j b0 b3 hb0 hb3 hij g hg hg2
end Go.Eng

set_option linter.unusedVariables false
namespace Go.Eng
variable {N : Names} {io : Io} {w0 w w' : World} {σ : St N} {E : Env} {a : Act}
def sameShape : Blk N → Blk N → Prop
 | .row e t xs _ _, .row e' t' xs' _ _ => t = t' ∧ xs.length = xs'.length
 | .row .., _ => False
 | _, .row .. => False
 | _, _ => True
theorem isRow_shape {own : List (Nat × Blk N)} {id : Nat} {b b' : Blk N} (hb : look own id = some b) (hs : sameShape b b') {j n : Nat} {t : Ty} (h : isRow own j n t) : isRow (ins id b' own) j n t := by
 by_cases hj : j = id
 ·subst hj
  obtain ⟨e, xs, bs, p, k1, k2⟩ := h
  rw [hb] at k1
  cases k1
  cases b' with
  | row e' t' xs' bs' p' =>
   obtain ⟨rfl, hl⟩ := hs
   exact ⟨e', xs', bs', p', by rw [look_ins, if_pos rfl], by omega⟩
  | whole t x bs => exact hs.elim
  | cells l => exact hs.elim
  | mapB kt vt es => exact hs.elim
  | vals n l => exact hs.elim
 ·exact isRow_ins hj h
theorem isBox_shape {own : List (Nat × Blk N)} {id : Nat} {b b' : Blk N} (hb : look own id = some b) (hs : sameShape b b') {j : Nat} (h : isBox own j) : isBox (ins id b' own) j := by
 by_cases hj : j = id
 ·subst hj
  have hl : look (ins j b' own) j = some b' := by rw [look_ins, if_pos rfl]
  cases b' with
  | row e' t' xs' bs' p' =>
   rcases h with ⟨t, x, bs, k1⟩ | ⟨l, k1⟩ | ⟨kt, vt, es, k1⟩ | ⟨n, l, k1⟩ <;> (rw [hb] at k1; cases k1; exact hs.elim)
  | whole t x bs => exact .inl ⟨t, x, bs, hl⟩
  | cells l => exact .inr (.inl ⟨l, hl⟩)
  | mapB kt vt es => exact .inr (.inr (.inl ⟨kt, vt, es, hl⟩))
  | vals n l => exact .inr (.inr (.inr ⟨n, l, hl⟩))
 ·exact isBox_ins hj h
theorem RelE.store (h : RelE io w0 σ E a w) {id : Nat} {b b' : Blk N} (hb : look σ.own id = some b) (hs : sameShape b b') (hpin : b.pinned = true → b'.pinned = true) (hw : w.grownBy w' (blkOf (E id)))
  (hno : ∀ j bj, look σ.own j = some bj → j ≠ id → id ∉ bj.bs) (hb' : BlkRel w' (ins id b' σ.own) E id b') :
  RelE io w0 { regs := σ.regs.map (Slot.map (scrub id)), own := ins id b' σ.own } E a w' := by
 have hsome : ∀ j, (look (ins id b' σ.own) j).isSome = (look σ.own j).isSome := by
  intro j
  rw [look_ins]
  split
  ·rename_i e; subst e; rw [hb]; rfl
  ·rfl
 have hok : ∀ bs g, okb w.heap.size σ.own E bs g → okb w'.heap.size (ins id b' σ.own) E bs g := fun bs g hg =>
  ⟨⟨Nat.lt_of_lt_of_le hg.1.1 hw.size, hg.1.2⟩, fun j hj hjb => hg.2 j (by rw [← hsome]; exact hj) hjb⟩
 have hcell : ∀ bs, id ∉ bs → ∀ (a : Addr) u, okb w.heap.size σ.own E bs a.block → w.cell? a = some u → w'.cell? a = some u :=
  fun bs hbs a u hg hc => cell_grown hw (hg.2 id (by rw [hb]; rfl) hbs) hc
 have hrv : ∀ r v, id ∉ r.bs → RVRel w σ.own E r v → RVRel w' (ins id b' σ.own) E r v := by
  intro r v hr h
  refine RVRel_mono ?_ ?_ (fun j n t _ hj => ⟨isRow_shape hb hs hj, rfl⟩) (fun j _ hj => ⟨isBox_shape hb hs hj, rfl⟩) h
  ·intro bs hbs a u
   cases r <;> first | exact hbs.elim | (subst hbs; exact hcell _ hr a u)
  ·intro bs hbs g
   exact hok bs g
 have hscrub : ∀ r v, RVRel w σ.own E r v → RVRel w' (ins id b' σ.own) E (scrub id r) v := by
  intro r v h
  unfold scrub
  cases hc : r.bs.contains id with
  | true => trivial
  | false => exact hrv r v (contains_false hc) h
 have hblock : ∀ j bj, look σ.own j = some bj → j ≠ id → ∀ g, blkOf (E j) = some g → w'.heap[g]? = w.heap[g]? :=
  fun j bj hj hji g hg => hw.block g (h.blk j bj hj g hg).1 (fun e => h.sep j id bj b hj hb hji g hg e.symm)
 have key : ∀ j bj, look (ins id b' σ.own) j = some bj → ∃ b0, look σ.own j = some b0 := by
  intro j bj hj
  have := hsome j
  rw [hj] at this
  cases hl : look σ.own j with
  | none => rw [hl] at this; cases this
  | some b0 => exact ⟨b0, rfl⟩
 refine ⟨?_, by simpa using h.size, h.defers, ?_, ?_, ?_, ?_, h.sc, h.nw, fun i hi => by
  obtain ⟨b0, h1, h2, h3⟩ := h.fx i hi
  by_cases hne : id = i
  ·subst hne
   rw [hb] at h1
   cases h1
   exact ⟨b', by simp only [look_ins, if_true], h2, hpin h3⟩
  ·exact ⟨b0, by simp only [look_ins, if_neg hne]; exact h1, h2, h3⟩⟩
 ·refine ⟨hw.os.trans h.kept.os, hw.tape.trans h.kept.tape, hw.output.trans h.kept.output, Nat.le_trans h.kept.size hw.size, fun g hg hi => ?_⟩
  rw [hw.block g (Nat.lt_of_lt_of_le hg h.kept.size) (fun e => ?_)]
  ·exact h.kept.block g hg hi
  ·rcases (h.blk id b hb g e.symm).2 with h3 | h3
   ·omega
   ·exact hi h3
 ·intro t s hs'
  simp only [List.getElem?_map] at hs'
  obtain ⟨s0, hs0, rfl⟩ := Option.map_eq_some_iff.1 hs'
  exact SlotRel_map hscrub (h.regs t s0 hs0)
 ·intro j bj hj
  simp only at hj ⊢
  by_cases hji : id = j
  ·subst hji
   rw [look_ins, if_pos rfl] at hj
   cases hj
   exact hb'
  ·rw [look_ins, if_neg hji] at hj
   have hbs := hno j bj hj (Ne.symm hji)
   have hbk := hblock j bj hj (Ne.symm hji)
   have hold := h.own j bj hj
   cases bj with
   | row e t xs bs p =>
    obtain ⟨cells, k1, k2⟩ := hold
    refine ⟨cells, ⟨k1.1, ?_⟩, RowC_mono (fun x cs hx => Rep_mono (hcell bs hbs) (hok bs) hx) k2⟩
    rcases k1.2 with hn | ⟨g, cap, cur, T0, fz, hv, hg, rest⟩
    ·exact .inl hn
    ·refine .inr ⟨g, cap, cur, T0, fz, hv, ?_, rest⟩
     rw [hbk g (by rw [hv]; rfl)]
     exact hg
   | whole t x bs =>
    obtain ⟨g, T, arr, k1, k2, k3⟩ := hold
    refine ⟨g, T, arr, k1, ?_, Rep_mono (hcell bs hbs) (hok bs) k3⟩
    rw [hbk g (by rw [k1]; rfl)]
    exact k2
   | cells l =>
    obtain ⟨g, T, arr, k1, k2, k3, k4⟩ := hold
    refine ⟨g, T, arr, k1, ?_, k3, fun i r u hr hu => hrv r u (fun hm => hbs ?_) (k4 i r u hr hu)⟩
    ·rw [hbk g (by rw [k1]; rfl)]
     exact k2
    ·exact List.mem_flatMap.2 ⟨r, List.mem_of_getElem? hr, hm⟩
   | mapB kt vt es =>
    obtain ⟨g, arr, clock, k1, k2, k3⟩ := hold
    refine ⟨g, arr, clock, k1, ?_, k3⟩
    rw [hbk g (by rw [k1]; rfl)]
    exact k2
   | vals n l =>
    obtain ⟨arr, k1, k2, k3, k4⟩ := hold
    refine ⟨arr, k1, k2, k3, fun i r u hr hu => hrv r u (fun hm => hbs ?_) (k4 i r u hr hu)⟩
    exact List.mem_flatMap.2 ⟨r, List.mem_of_getElem? hr, hm⟩
 ·intro j bj hj g hg
  obtain ⟨b0, hb0⟩ := key j bj hj
  exact ⟨Nat.lt_of_lt_of_le (h.blk j b0 hb0 g hg).1 hw.size, (h.blk j b0 hb0 g hg).2⟩
 ·intro i j b1 b2 h1 h2 hij g hg
  obtain ⟨b3, hb3⟩ := key i b1 h1
  obtain ⟨b4, hb4⟩ := key j b2 h2
  exact h.sep i j b3 b4 hb3 hb4 hij g hg
theorem RelE.remap (h : RelE io w0 σ E a w) {f : RV N → RV N} {g : List Nat → List Nat} {own' : List (Nat × Blk N)} {E' : Env} (hA : E'.A = E.A) (hfx : ∀ i ∈ io.ids, ∀ b, look σ.own i = some b → look own' i = some (b.map f g) ∧ E' i = E i) (back : Nat → Nat)
  (hback : ∀ j b', look own' j = some b' → ∃ b, look σ.own (back j) = some b ∧ b' = b.map f g ∧ E' j = E (back j))
  (hinj : ∀ i j b1 b2, look own' i = some b1 → look own' j = some b2 → i ≠ j → back i ≠ back j)
  (hok : ∀ bs b, okb w.heap.size σ.own E bs b → okb w.heap.size own' E' (g bs) b)
  (hf : ∀ r v, (∃ (t : Nat) (s : Slot N), σ.regs[t]? = some s ∧ (s = Slot.one r ∨ ∃ l, s = Slot.tup l ∧ r ∈ l)) ∨ (∃ j l, (look σ.own j = some (.cells l) ∨ ∃ n, look σ.own j = some (.vals n l)) ∧ r ∈ l) → RVRel w σ.own E r v → RVRel w own' E' (f r) v) :
  RelE io w0 { regs := σ.regs.map (Slot.map f), own := own' } E' a w := by
 refine ⟨h.kept, by simpa using h.size, h.defers, ?_, ?_, ?_, ?_, hA.trans h.sc, h.nw, fun i hi => by
  obtain ⟨b0, h1, h2, h3⟩ := h.fx i hi
  obtain ⟨h4, h5⟩ := hfx i hi b0 h1
  refine ⟨b0.map f g, h4, h5.trans h2, ?_⟩
  cases b0 <;> exact h3⟩
 ·intro t s hs
  simp only [List.getElem?_map] at hs
  obtain ⟨s0, hs0, rfl⟩ := Option.map_eq_some_iff.1 hs
  have h0 := h.regs t s0 hs0
  cases s0 with
  | one r => exact hf r _ (.inl ⟨t, _, hs0, .inl rfl⟩) h0
  | tup l =>
   obtain ⟨vs, h1, h2, h3⟩ := h0
   refine ⟨vs, h1, by simpa using h2, fun i r u hr hu => ?_⟩
   rw [List.getElem?_map] at hr
   obtain ⟨r0, hr0, rfl⟩ := Option.map_eq_some_iff.1 hr
   exact hf _ _ (.inl ⟨t, _, hs0, .inr ⟨l, rfl, List.mem_of_getElem? hr0⟩⟩) (h3 i r0 u hr0 hu)
 ·intro j b' hj
  obtain ⟨b, hb, rfl, hE⟩ := hback j b' hj
  have hold := h.own (back j) b hb
  cases b with
  | row e t xs bs p =>
   obtain ⟨cells, k1, k2⟩ := hold
   exact ⟨cells, by rw [hE]; exact k1, RowC_mono (fun x cs hx => Rep_mono (fun _ _ _ h => h) (hok bs) hx) k2⟩
  | whole t x bs =>
   obtain ⟨g', T, arr, k1, k2, k3⟩ := hold
   exact ⟨g', T, arr, hE.trans k1, k2, Rep_mono (fun _ _ _ h => h) (hok bs) k3⟩
  | cells l =>
   obtain ⟨g', T, arr, k1, k2, k3, k4⟩ := hold
   refine ⟨g', T, arr, hE.trans k1, k2, by simpa using k3, fun i r u hr hu => ?_⟩
   simp only [List.getElem?_map] at hr
   obtain ⟨r0, hr0, rfl⟩ := Option.map_eq_some_iff.1 hr
   exact hf _ _ (.inr ⟨back j, l, .inl hb, List.mem_of_getElem? hr0⟩) (k4 i r0 u hr0 hu)
  | mapB kt vt es =>
   obtain ⟨g', arr, clock, k1, k2, k3⟩ := hold
   exact ⟨g', arr, clock, hE.trans k1, k2, k3⟩
  | vals n l =>
   obtain ⟨arr, k1, k2, k3, k4⟩ := hold
   refine ⟨arr, hE.trans k1, by simpa using k2, k3, fun i r u hr hu => ?_⟩
   simp only [List.getElem?_map] at hr
   obtain ⟨r0, hr0, rfl⟩ := Option.map_eq_some_iff.1 hr
   exact hf _ _ (.inr ⟨back j, l, .inr ⟨n, hb⟩, List.mem_of_getElem? hr0⟩) (k4 i r0 u hr0 hu)
 ·intro j b' hj g' hg
  obtain ⟨b, hb, _, hE⟩ := hback j b' hj
  rw [hE] at hg
  exact h.blk (back j) b hb g' hg
 ·intro i j b1 b2 h1 h2 hij g' hg hg2
  obtain ⟨b3, hb3, _, hE3⟩ := hback i b1 h1
  obtain ⟨b4, hb4, _, hE4⟩ := hback j b2 h2
  rw [hE3] at hg
  rw [hE4] at hg2
  exact h.sep (back i) (back j) b3 b4 hb3 hb4 (hinj i j b1 b2 h1 h2 hij) g' hg hg2
def forgetTo (keep : List Nat) : Nat → List (Slot N) → List (Slot N)
 | _, [] => []
 | i, s :: r => (bif keep.contains i then s else .one .undef) :: forgetTo keep (i + 1) r
theorem forgetTo_get (keep : List Nat) : ∀ (l : List (Slot N)) (i t : Nat) s, (forgetTo keep i l)[t]? = some s → l[t]? = some s ∨ (s = .one .undef ∧ t < l.length)
 | [], i, t, s, h => by simp [forgetTo] at h
 | x :: r, i, 0, s, h => by
  simp only [forgetTo, List.getElem?_cons_zero, Option.some.injEq] at h
  cases hk : keep.contains i with
  | true => rw [hk] at h; exact .inl (by simpa using h)
  | false => rw [hk] at h; exact .inr ⟨h.symm, by simp⟩
 | x :: r, i, t + 1, s, h => by
  simp only [forgetTo, List.getElem?_cons_succ] at h
  rcases forgetTo_get keep r (i + 1) t s h with h | ⟨h, hl⟩
  ·exact .inl (by simpa using h)
  ·exact .inr ⟨h, by simpa using hl⟩
theorem forgetTo_length (keep : List Nat) : ∀ (l : List (Slot N)) (i : Nat), (forgetTo keep i l).length = l.length
 | [], i => rfl
 | x :: r, i => by simp [forgetTo, forgetTo_length keep r (i + 1)]
theorem RelE.forgetTo (h : RelE io w0 σ E a w) (keep : List Nat) : RelE io w0 { σ with regs := forgetTo keep 0 σ.regs } E a w := by
 refine ⟨h.kept, by simpa [forgetTo_length] using h.size, h.defers, ?_, h.own, h.blk, h.sep, h.sc, h.nw, h.fx⟩
 intro t s hs
 rcases forgetTo_get keep σ.regs 0 t s hs with h1 | ⟨rfl, _⟩
 ·exact h.regs t s h1
 ·trivial
/-! Dropping and renaming. -/
def er (id : Nat) (l : List Nat) : List Nat := l.filter fun i => !(i == id)
def Slot.refs : Slot N → List Nat
 | .one r => r.refs
 | .tup l => l.flatMap RV.refs
def refsOf (σ : St N) : List Nat := σ.regs.flatMap Slot.refs ++ σ.own.flatMap fun p => p.2.refs
def dropOne (pins : List Nat) (id : Nat) (σ : St N) : St N :=
 bif pins.contains id || (refsOf σ).contains id then σ else { regs := σ.regs.map (Slot.map (RV.mapBs (er id))), own := del id (mapO (Blk.map (RV.mapBs (er id)) (er id)) σ.own) }
theorem look_mem {β : Type} : ∀ {l : List (Nat × β)} {j : Nat} {b : β}, look l j = some b → (j, b) ∈ l
 | [], _, _, h => by cases h
 | (k, v) :: r, j, b, h => by
  unfold look at h
  cases hk : (k == j) with
  | true =>
   rw [hk] at h
   have : k = j := by simpa using hk
   subst this
   cases h
   exact List.mem_cons_self
  | false =>
   rw [hk] at h
   exact List.mem_cons_of_mem _ (look_mem h)
theorem mem_refsOf {id : Nat} {r : RV N} (h : (∃ (t : Nat) (s : Slot N), σ.regs[t]? = some s ∧ (s = Slot.one r ∨ ∃ l, s = Slot.tup l ∧ r ∈ l)) ∨ (∃ j l, (look σ.own j = some (.cells l) ∨ ∃ n, look σ.own j = some (.vals n l)) ∧ r ∈ l)) (hr : id ∈ r.refs) : id ∈ refsOf σ := by
 unfold refsOf
 rw [List.mem_append]
 rcases h with ⟨t, s, hs, h⟩ | ⟨j, l, hj, h⟩
 ·refine .inl (List.mem_flatMap.2 ⟨s, List.mem_of_getElem? hs, ?_⟩)
  rcases h with rfl | ⟨l, rfl, h⟩
  ·exact hr
  ·exact List.mem_flatMap.2 ⟨r, h, hr⟩
 ·rcases hj with hj | ⟨n, hj⟩ <;> exact .inr (List.mem_flatMap.2 ⟨_, look_mem hj, List.mem_flatMap.2 ⟨r, h, hr⟩⟩)
theorem RelE.dropOne (h : RelE io w0 σ E a w) (id : Nat) : RelE io w0 (dropOne io.ids id σ) E a w := by
 unfold Eng.dropOne
 cases hc : (io.ids.contains id || (refsOf σ).contains id) with
 | true => exact h
 | false =>
  rw [Bool.or_eq_false_iff] at hc
  have hno := contains_false hc.2
  have hnp := contains_false hc.1
  have hlook : ∀ j, look (del id (mapO (Blk.map (RV.mapBs (er id)) (er id)) σ.own)) j = if id = j then none else (look σ.own j).map (Blk.map (RV.mapBs (er id)) (er id)) := by
   intro j; rw [look_del, look_mapO]
  have hok : ∀ bs b, okb w.heap.size σ.own E bs b → okb w.heap.size (del id (mapO (Blk.map (RV.mapBs (er id)) (er id)) σ.own)) E (er id bs) b := by
   intro bs b hb
   refine ⟨hb.1, fun j hj hjb => ?_⟩
   rw [hlook] at hj
   by_cases hji : id = j
   ·rw [if_pos hji] at hj; cases hj
   ·rw [if_neg hji] at hj
    refine hb.2 j (by cases hl : look σ.own j with | none => rw [hl] at hj; cases hj | some _ => rfl) (fun hm => hjb ?_)
    exact List.mem_filter.2 ⟨hm, by simpa using Ne.symm hji⟩
  refine h.remap (f := RV.mapBs (er id)) (g := er id) rfl (fun i hi b hb => ⟨by rw [hlook, if_neg (fun e : id = i => hnp (e ▸ hi)), hb]; rfl, rfl⟩) (fun j => j) ?_ (fun i j _ _ _ _ hij => hij) hok ?_
  ·intro j b' hj
   rw [hlook] at hj
   by_cases hji : id = j
   ·rw [if_pos hji] at hj; cases hj
   ·rw [if_neg hji] at hj
    obtain ⟨b, hb, rfl⟩ := Option.map_eq_some_iff.1 hj
    exact ⟨b, hb, rfl, rfl⟩
  ·intro r v hocc hr
   have hnr : id ∉ r.refs := fun hm => hno (mem_refsOf hocc hm)
   have hrow : ∀ j n t, id ≠ j → isRow σ.own j n t → isRow (del id (mapO (Blk.map (RV.mapBs (er id)) (er id)) σ.own)) j n t := by
    rintro j n t hne ⟨e, xs, bs, p, k1, k2⟩
    exact ⟨e, xs, er id bs, p, by rw [hlook, if_neg hne, k1]; rfl, k2⟩
   have hbox : ∀ j, id ≠ j → isBox σ.own j → isBox (del id (mapO (Blk.map (RV.mapBs (er id)) (er id)) σ.own)) j := by
    rintro j hne (⟨t, x, bs, k1⟩ | ⟨l, k1⟩ | ⟨kt, vt, es, k1⟩ | ⟨n, l, k1⟩)
    ·exact .inl ⟨t, x, er id bs, by rw [hlook, if_neg hne, k1]; rfl⟩
    ·exact .inr (.inl ⟨l.map (RV.mapBs (er id)), by rw [hlook, if_neg hne, k1]; rfl⟩)
    ·exact .inr (.inr (.inl ⟨kt, vt, es, by rw [hlook, if_neg hne, k1]; rfl⟩))
    ·exact .inr (.inr (.inr ⟨n, l.map (RV.mapBs (er id)), by rw [hlook, if_neg hne, k1]; rfl⟩))
   cases r with
   | undef => trivial
   | nil => exact hr
   | int k n => exact hr
   | bool b => exact hr
   | str l => exact hr
   | nilf => exact hr
   | data t x bs =>
    obtain ⟨cs, h1, h2⟩ := hr
    exact ⟨cs, Rep_mono (fun _ _ _ h => h) (hok bs) h1, h2⟩
   | own j =>
    obtain ⟨rfl, n, t, h1⟩ := hr
    exact ⟨rfl, n, t, hrow j n t (fun e => hnr (by simp [RV.refs, e])) h1⟩
   | bptr j off =>
    obtain ⟨h1, h2⟩ := hr
    exact ⟨hbox j (fun e => hnr (by simp [RV.refs, e])) h1, h2⟩
   | sptr t x bs =>
    obtain ⟨ad, cs, h1, h2, h3, h4⟩ := hr
    exact ⟨ad, cs, h1, hok bs _ h2, Rep_mono (fun _ _ _ h => h) (hok bs) h3, h4⟩
   | optr j i off =>
    obtain ⟨g, cap, n, t, h1, h2⟩ := hr
    exact ⟨g, cap, n, t, hrow j n t (fun e => hnr (by simp [RV.refs, e])) h1, h2⟩
   | osl j lo k =>
    obtain ⟨g, cap, n, t, h1, h2⟩ := hr
    exact ⟨g, cap, n, t, hrow j n t (fun e => hnr (by simp [RV.refs, e])) h1, h2⟩
   | fn f caps =>
    obtain ⟨h1, h2⟩ := hr
    exact ⟨h1, fun j hj => ⟨hbox j (fun e => hnr (by rw [RV.refs, e]; exact hj)) (h2 j hj).1, (h2 j hj).2⟩⟩
   | mp j =>
    obtain ⟨h1, h2⟩ := hr
    exact ⟨hbox j (fun e => hnr (by simp [RV.refs, e])) h1, h2⟩
def rn (i j k : Nat) : Nat := bif k == i then j else k
def RV.ren (i j : Nat) : RV N → RV N
 | .data t x b => .data t x (b.map (rn i j))
 | .sptr t x b => .sptr t x (b.map (rn i j))
 | .own k => .own (rn i j k)
 | .bptr k o => .bptr (rn i j k) o
 | .optr k n o => .optr (rn i j k) n o
 | .osl k lo n => .osl (rn i j k) lo n
 | .fn f caps => .fn f (caps.map (rn i j))
 | .mp k => .mp (rn i j k)
 | r => r
def renOne (pins : List Nat) (i j : Nat) (σ : St N) : St N :=
 bif pins.contains i then σ else match look σ.own i, look σ.own j with
 | some b, none => { regs := σ.regs.map (Slot.map (RV.ren i j)), own := ins j (b.map (RV.ren i j) (List.map (rn i j))) (del i (mapO (Blk.map (RV.ren i j) (List.map (rn i j))) σ.own)) }
 | _, _ => σ
theorem RelE.renOne (h : RelE io w0 σ E a w) (i j : Nat) : ∃ E', RelE io w0 (renOne io.ids i j σ) E' a w := by
 unfold Eng.renOne
 cases hpi : io.ids.contains i with
 | true => exact ⟨E, h⟩
 | false =>
 have hnp := contains_false hpi
 simp only [cond_false]
 split
 ·rename_i b hi hj
  have hij : i ≠ j := fun e => by subst e; rw [hi] at hj; cases hj
  refine ⟨updE E j (E i), ?_⟩
  have hlook : ∀ k, look (ins j (b.map (RV.ren i j) (List.map (rn i j))) (del i (mapO (Blk.map (RV.ren i j) (List.map (rn i j))) σ.own))) k =
    if j = k then some (b.map (RV.ren i j) (List.map (rn i j))) else if i = k then none else (look σ.own k).map (Blk.map (RV.ren i j) (List.map (rn i j))) := by
   intro k; rw [look_ins, look_del, look_mapO]
  have hok : ∀ bs g, okb w.heap.size σ.own E bs g → okb w.heap.size (ins j (b.map (RV.ren i j) (List.map (rn i j))) (del i (mapO (Blk.map (RV.ren i j) (List.map (rn i j))) σ.own))) (updE E j (E i)) (bs.map (rn i j)) g := by
   intro bs g hg
   refine ⟨hg.1, fun k hk hkb => ?_⟩
   rw [hlook] at hk
   by_cases hjk : j = k
   ·subst hjk
    rw [updE_same]
    refine hg.2 i (by rw [hi]; rfl) (fun hm => hkb (List.mem_map.2 ⟨i, hm, by simp [rn]⟩))
   ·rw [updE_ne _ _ (Ne.symm hjk)]
    rw [if_neg hjk] at hk
    by_cases hik : i = k
    ·rw [if_pos hik] at hk; cases hk
    ·rw [if_neg hik] at hk
     refine hg.2 k (by cases hl : look σ.own k with | none => rw [hl] at hk; cases hk | some _ => rfl) (fun hm => hkb (List.mem_map.2 ⟨k, hm, ?_⟩))
     have : (k == i) = false := by simpa using Ne.symm hik
     simp [rn, this]
  have hE : ∀ k, k ≠ j → updE E j (E i) (rn i j k) = E k := by
   intro k hk
   unfold rn
   cases hki : (k == i) with
   | true =>
        have : k = i := by simpa using hki
        subst this
        exact updE_same _ _ _
   | false => exact updE_ne _ _ hk
  have hrow : ∀ k n t, isRow σ.own k n t → isRow (ins j (b.map (RV.ren i j) (List.map (rn i j))) (del i (mapO (Blk.map (RV.ren i j) (List.map (rn i j))) σ.own))) (rn i j k) n t ∧ k ≠ j := by
   rintro k n t ⟨e, xs, bs, p, k1, k2⟩
   have hkj : k ≠ j := fun e => by subst e; rw [hj] at k1; cases k1
   refine ⟨⟨e, xs, bs.map (rn i j), p, ?_, k2⟩, hkj⟩
   rw [hlook]
   unfold rn
   cases hki : (k == i) with
   | true =>
    have : k = i := by simpa using hki
    subst this
    rw [hi] at k1
    cases k1
    simp only [cond_true, if_true]
    rfl
   | false =>
    have hki' : k ≠ i := by simpa using hki
    simp only [cond_false, if_neg (Ne.symm hkj), if_neg (Ne.symm hki'), k1]
    rfl
  have hbox : ∀ k, isBox σ.own k → isBox (ins j (b.map (RV.ren i j) (List.map (rn i j))) (del i (mapO (Blk.map (RV.ren i j) (List.map (rn i j))) σ.own))) (rn i j k) ∧ k ≠ j := by
   intro k hk
   obtain ⟨bk, hbk⟩ := isBox_some hk
   have hkj : k ≠ j := fun e => by subst e; rw [hj] at hbk; cases hbk
   refine ⟨?_, hkj⟩
   have hl : look (ins j (b.map (RV.ren i j) (List.map (rn i j))) (del i (mapO (Blk.map (RV.ren i j) (List.map (rn i j))) σ.own))) (rn i j k) = some (bk.map (RV.ren i j) (List.map (rn i j))) := by
    rw [hlook]
    unfold rn
    cases hki : (k == i) with
    | true =>
     have : k = i := by simpa using hki
     subst this
     rw [hi] at hbk
     cases hbk
     simp
    | false =>
     have hki' : k ≠ i := by simpa using hki
     simp only [cond_false, if_neg (Ne.symm hkj), if_neg (Ne.symm hki'), hbk]
     rfl
   rcases hk with ⟨t, x, bs, k1⟩ | ⟨l, k1⟩ | ⟨kt, vt, es, k1⟩ | ⟨n, l, k1⟩
   ·rw [k1] at hbk; cases hbk
    exact .inl ⟨t, x, _, hl⟩
   ·rw [k1] at hbk; cases hbk
    exact .inr (.inl ⟨_, hl⟩)
   ·rw [k1] at hbk; cases hbk
    exact .inr (.inr (.inl ⟨kt, vt, es, hl⟩))
   ·rw [k1] at hbk; cases hbk
    exact .inr (.inr (.inr ⟨_, _, hl⟩))
  refine h.remap (f := RV.ren i j) (g := List.map (rn i j)) rfl (fun m hm b0 hb0 => by
   have h1 : m ≠ i := fun e : m = i => hnp (e ▸ hm)
   have h2 : m ≠ j := fun e => by subst e; rw [hj] at hb0; cases hb0
   exact ⟨by rw [hlook, if_neg (Ne.symm h2), if_neg (Ne.symm h1), hb0]; rfl, updE_ne _ _ h2⟩) (fun k => if j = k then i else k) ?_ ?_ hok ?_
  ·intro k b' hk
   rw [hlook] at hk
   by_cases hjk : j = k
   ·subst hjk
    rw [if_pos rfl] at hk
    cases hk
    exact ⟨b, by simpa using hi, rfl, by simp [updE_same]⟩
   ·rw [if_neg hjk] at hk
    by_cases hik : i = k
    ·rw [if_pos hik] at hk; cases hk
    ·rw [if_neg hik] at hk
     obtain ⟨b0, hb0, rfl⟩ := Option.map_eq_some_iff.1 hk
     exact ⟨b0, by simpa [hjk] using hb0, rfl, by simp [hjk, updE_ne _ _ (Ne.symm hjk)]⟩
  ·intro k l b1 b2 h1 h2 hkl
   have key : ∀ k b1, look (ins j (b.map (RV.ren i j) (List.map (rn i j))) (del i (mapO (Blk.map (RV.ren i j) (List.map (rn i j))) σ.own))) k = some b1 → k ≠ i := by
    intro k b1 h1 e
    subst e
    rw [hlook, if_neg (Ne.symm hij), if_pos rfl] at h1
    cases h1
   have hk := key k b1 h1
   have hl := key l b2 h2
   show (if j = k then i else k) ≠ (if j = l then i else l)
   split <;> split
   ·omega
   ·exact Ne.symm hl
   ·exact hk
   ·exact hkl
  ·intro r v _ hr
   cases r with
   | undef => trivial
   | nil => exact hr
   | int k n => exact hr
   | bool b => exact hr
   | str l => exact hr
   | nilf => exact hr
   | data t x bs =>
    obtain ⟨cs, h1, h2⟩ := hr
    exact ⟨cs, Rep_mono (fun _ _ _ h => h) (hok bs) h1, h2⟩
   | own k =>
    obtain ⟨rfl, n, t, h1⟩ := hr
    obtain ⟨h2, h3⟩ := hrow k n t h1
    exact ⟨(hE k h3).symm, n, t, h2⟩
   | bptr k off =>
    obtain ⟨h1, g, h2, h3⟩ := hr
    obtain ⟨h4, h5⟩ := hbox k h1
    exact ⟨h4, g, (hE k h5).trans h2, h3⟩
   | sptr t x bs =>
    obtain ⟨ad, cs, h1, h2, h3, h4⟩ := hr
    exact ⟨ad, cs, h1, hok bs _ h2, Rep_mono (fun _ _ _ h => h) (hok bs) h3, h4⟩
   | optr k m off =>
    obtain ⟨g, cap, n, t, h1, h2, h3, h4⟩ := hr
    obtain ⟨h5, h6⟩ := hrow k n t h1
    exact ⟨g, cap, n, t, h5, h2, (hE k h6).trans h3, h4⟩
   | osl k lo m =>
    obtain ⟨g, cap, n, t, h1, h2, h3, h4⟩ := hr
    obtain ⟨h5, h6⟩ := hrow k n t h1
    exact ⟨g, cap, n, t, h5, h2, (hE k h6).trans h3, h4⟩
   | fn f caps =>
    obtain ⟨h1, h2⟩ := hr
    refine ⟨?_, fun k hk => ?_⟩
    ·rw [h1, List.map_map]
     congr 2
     exact List.map_congr_left fun k hk => (hE k (hbox k (h2 k hk).1).2).symm
    ·obtain ⟨k0, hk0, rfl⟩ := List.mem_map.1 hk
     obtain ⟨h3, g, h4⟩ := h2 k0 hk0
     obtain ⟨h5, h6⟩ := hbox k0 h3
     exact ⟨h5, g, (hE k0 h6).trans h4⟩
   | mp k =>
    obtain ⟨h1, rfl⟩ := hr
    obtain ⟨h4, h5⟩ := hbox k h1
    exact ⟨h4, (hE k h5).symm⟩
 ·exact ⟨E, h⟩
def dedup : List Nat → List Nat → List Nat
 | [], acc => acc.reverse
 | i :: r, acc => bif acc.contains i then dedup r acc else dedup r (i :: acc)
def dropAll (pins : List Nat) : List Nat → St N → St N
 | [], σ => σ
 | i :: r, σ => dropAll pins r (dropOne pins i σ)
def renAll (pins : List Nat) (base : Nat) : List Nat → Nat → St N → St N
 | [], _, σ => σ
 | i :: r, k, σ => renAll pins base r (k + 1) (renOne pins i (base + k) σ)
def upTo : Nat → Nat → List Nat
 | 0, _ => []
 | n + 1, i => i :: upTo n (i + 1)
def forgetSt (keep : List Nat) (σ : St N) : St N := { regs := forgetTo keep 0 σ.regs, own := σ.own }
def sweep (pins : List Nat) (σ : St N) : St N := dropAll pins (σ.own.map (·.1)) σ
def renumB (pins l : List Nat) (σ : St N) : St N := renAll pins 0 (upTo l.length 5000) 0 (renAll pins 5000 l 0 σ)
def renumA (pins : List Nat) (σ : St N) : St N := renumB pins (dedup (refsOf σ) []) σ
def norm (pins : List Nat) (keep : List Nat) (σ : St N) : St N := renumA pins (sweep pins (sweep pins (forgetSt keep σ)))
theorem RelE.dropAll (h : RelE io w0 σ E a w) (l : List Nat) : RelE io w0 (dropAll io.ids l σ) E a w := by
 induction l generalizing σ with
 | nil => exact h
 | cons i r ih => exact ih (h.dropOne i)
theorem RelE.renAll (h : RelE io w0 σ E a w) (base : Nat) (l : List Nat) (k : Nat) : ∃ E', RelE io w0 (renAll io.ids base l k σ) E' a w := by
 induction l generalizing σ E k with
 | nil => exact ⟨E, h⟩
 | cons i r ih =>
  obtain ⟨E1, h1⟩ := h.renOne i (base + k)
  exact ih h1 (k + 1)
theorem Rel.norm (h : Rel io w0 σ a w) (keep : List Nat) : Rel io w0 (norm io.ids keep σ) a w := by
 obtain ⟨E, h⟩ := h
 have h0 : RelE io w0 (forgetSt keep σ) E a w := h.forgetTo keep
 obtain ⟨E1, h1⟩ := ((h0.dropAll _).dropAll _).renAll 5000 _ 0
 obtain ⟨E2, h2⟩ := h1.renAll 0 _ 0
 exact ⟨E2, h2⟩
end Go.Eng

set_option linter.unusedVariables false
set_option linter.unusedSimpArgs false
namespace Go.Eng
variable {N : Names}
structure TI where
 ty : Ty
 el : TypeId
 deriving DecidableEq
def Info (P : Program) (t : TypeId) (z : Value) (n : Nat) : Prop := ∃ i, P.info? t = some i ∧ i.zero = some z ∧ i.size = n ∧ i.bytes ≤ 32768
def FieldsFit (N : Names) (τ : TypeId → Option TI) : List Ty → Nat → List Field → Prop
 | [], _, [] => True
 | ty :: tys, off, f :: fs => f.offset = off ∧ (∃ e, τ f.type = some ⟨ty, e⟩) ∧ N.sz ty ≠ 0 ∧ f.name ≠ "_" ∧ FieldsFit N τ tys (off + N.sz ty) fs
 | _, _, _ => False
def virt (len : Nat) (el : TypeId) (sz : Nat) : List Field := (List.range' 0 len).map fun i => { name := "x", type := el, offset := i * sz, embedded := false, tag := "", pkgPath := "", byteOffset := 0 }
def AggOf (P : Program) (t : TypeId) (e : TypeId) (fs : Array Field) : Prop :=
 (e = 0 ∧ P.underlying t = some (.struct fs)) ∨ ∃ len el i, e = el + 1 ∧ P.underlying t = some (.array len el) ∧ P.info? el = some i ∧ fs = (virt len el i.size).toArray
theorem AggOf.struct {P : Program} {t e : TypeId} {fs : Array Field} (h : AggOf P t e fs) (he : e = 0) : P.underlying t = some (.struct fs) := by
 rcases h with ⟨_, h⟩ | ⟨_, el, _, h, _⟩
 ·exact h
 ·rw [he] at h; cases h
theorem AggOf.under {P : Program} {t e : TypeId} {fs : Array Field} (h : AggOf P t e fs) : ∃ d, P.underlying t = some d := by
 rcases h with ⟨_, h⟩ | ⟨_, el, _, _, h, _⟩ <;> exact ⟨_, h⟩
def zeroL (g : Ty → List Value → Bool) (sz : Ty → Nat) : List Ty → List Value → Bool
 | [], cs => cs.isEmpty
 | t :: ts, cs => g t (cs.take (sz t)) && zeroL g sz ts (cs.drop (sz t))
def zeroOk (N : Names) : Nat → Ty → List Value → Bool
 | _, .int k, [.int k' n] => decide (k' = k) && decide (n = 0)
 | _, .bool, [.bool b] => !b
 | _, .str, [.string s] => s.data.toList.isEmpty
 | _, .sl _, [.slice none 0 0] => true
 | _, .opq, [v] => v.oneCell'
 | f + 1, .nm n, cs => zeroL (zeroOk N f) N.sz (N.body n) cs
 | _, _, _ => false
structure Fits (P : Program) (N : Names) (τ : TypeId → Option TI) : Prop where
 int : ∀ t k e, τ t = some ⟨.int k, e⟩ → P.underlying t = some (.int k) ∧ Info P t (.int k 0) 1
 bool : ∀ t e, τ t = some ⟨.bool, e⟩ → P.underlying t = some .bool ∧ Info P t (.bool false) 1
 str : ∀ t e, τ t = some ⟨.str, e⟩ → P.underlying t = some .string ∧ Info P t (.string ⟨#[]⟩) 1
 sl : ∀ t ty e, τ t = some ⟨.sl ty, e⟩ → P.underlying t = some (.slice e) ∧ (∃ e', τ e = some ⟨ty, e'⟩) ∧ Info P t (.slice none 0 0) 1
 opq : ∀ t e, τ t = some ⟨.opq, e⟩ → (∃ d, P.underlying t = some d ∧ (match d with | .struct _ | .array _ _ => true | _ => false) = false) ∧ ∃ z : Value, Info P t z 1 ∧ z.oneCell' = true
 mp : ∀ t e, τ t = some ⟨.opq, e⟩ → e = 0 ∨ (e = 1 ∧ ∃ ps rs v, P.underlying t = some (.func ps rs v)) ∨ (1 < e ∧ P.underlying t = some (.map (e / 100000) (e % 100000)))
 nm : ∀ t n e, τ t = some ⟨.nm n, e⟩ → ∃ fs, AggOf P t e fs ∧ FieldsFit N τ (N.body n) 0 fs.toList ∧ P.stoodInHeld t = false ∧ P.eqGuardType P.depth t = false ∧
  ∃ zc : Array Value, Info P t (.agg zc) (N.size n) ∧ 0 < N.size n ∧ ∀ w ok, Rep w ok (.nm n) (N.dv n) zc.toList
 zo : ∀ t n e i zc, τ t = some ⟨.nm n, e⟩ → P.info? t = some i → i.zero = some (.agg zc) → zeroOk N 8 (.nm n) zc.toList = true
 small : ∀ t ty e, τ t = some ⟨.sl ty, e⟩ → e < tagM
section
variable {P : Program} {τ : TypeId → Option TI} (F : Fits P N τ) {t : TypeId} {ty : Ty} {e : TypeId}
include F
theorem Fits.small2 {ty : Ty} {e : TypeId} (h : τ t = some ⟨.sl ty, e⟩) : e < 2 * tagM := by
 have h1 : e < tagM := F.small t ty e h
 exact Nat.lt_of_lt_of_le h1 (Nat.le_mul_of_pos_left _ (by decide))
theorem Fits.pos (h : τ t = some ⟨ty, e⟩) : 0 < N.sz ty := by
 cases ty with
 | nm n => obtain ⟨fs, _, _, _, _, zc, _, h1, _⟩ := F.nm t n e h; exact h1
 | _ => exact Nat.one_pos
theorem Fits.info (h : τ t = some ⟨ty, e⟩) : ∃ i z zc, P.info? t = some i ∧ i.zero = some z ∧ i.size = N.sz ty ∧ i.bytes ≤ 32768 ∧ z.cells = zc ∧ AsV ty z zc.toList ∧ ∀ w ok, Rep w ok ty (N.dflt ty) zc.toList := by
 cases ty with
 | int k =>
  obtain ⟨_, i, h1, h2, h3, h4⟩ := F.int t k e h
  exact ⟨i, _, #[.int k 0], h1, h2, h3, h4, rfl, rfl, fun _ _ => rfl⟩
 | bool =>
  obtain ⟨_, i, h1, h2, h3, h4⟩ := F.bool t e h
  exact ⟨i, _, #[.bool false], h1, h2, h3, h4, rfl, rfl, fun _ _ => rfl⟩
 | str =>
  obtain ⟨_, i, h1, h2, h3, h4⟩ := F.str t e h
  exact ⟨i, _, #[.string ⟨#[]⟩], h1, h2, h3, h4, rfl, rfl, fun _ _ => ⟨⟨#[]⟩, rfl, rfl⟩⟩
 | sl ty' =>
  obtain ⟨_, _, i, h1, h2, h3, h4⟩ := F.sl t ty' e h
  exact ⟨i, _, #[.slice none 0 0], h1, h2, h3, h4, rfl, rfl, fun _ _ => ⟨none, 0, rfl, Nat.le_refl _, fun _ => rfl, fun i x hx => by simp [Names.dflt] at hx⟩⟩
 | nm n =>
  obtain ⟨fs, _, _, _, _, zc, ⟨i, h1, h2, h3, h4⟩, _, h5⟩ := F.nm t n e h
  exact ⟨i, _, zc, h1, h2, h3, h4, rfl, rfl, h5⟩
 | opq =>
  obtain ⟨_, z, ⟨i, h1, h2, h3, h4⟩, h5⟩ := F.opq t e h
  have hz : z.cells = #[z] := by cases z <;> first | rfl | cases h5
  exact ⟨i, z, #[z], h1, h2, h3, h4, hz, rfl, fun _ _ => ⟨z, rfl, h5⟩⟩
theorem Fits.isAgg (h : τ t = some ⟨ty, e⟩) (w : World) : (isAgg t).run P w = .ok (match ty with | .nm _ => true | _ => false) w := by
 unfold Go.isAgg
 cases ty with
 | int k => simp [run_underlying (F.int t k e h).1]
 | bool => simp [run_underlying (F.bool t e h).1]
 | str => simp [run_underlying (F.str t e h).1]
 | sl ty' => simp [run_underlying (F.sl t ty' e h).1]
 | nm n =>
  obtain ⟨fs, h1, _⟩ := F.nm t n e h
  rcases h1 with ⟨_, h1⟩ | ⟨len, el, i, _, h1, _⟩ <;> simp [run_underlying h1]
 | opq =>
  obtain ⟨⟨d, h1, h2⟩, _⟩ := F.opq t e h
  simp only [Sem.run_bind, run_underlying h1, Result.andThen_ok]
  cases d <;> first | rfl | cases h2
theorem Fits.sizeOf (h : τ t = some ⟨ty, e⟩) (w : World) : (Go.sizeOf t).run P w = .ok (N.sz ty) w := by
 obtain ⟨i, z, zc, h1, h2, h3, _⟩ := F.info h
 simp [Go.sizeOf, typeInfo, h1, h3]
theorem Fits.load (h : τ t = some ⟨ty, e⟩) {w w1 : World} {ok : Nat → Prop} {x : ty.den N.ρ} {cs : List Value} (hr : Rep w1 ok ty x cs) {ad : Addr} (hc : ∀ (j : Nat) u, cs[j]? = some u → w.cell? (ad.add j) = some u) :
  ∃ v, (Instr.loadAt t (.pointer (some ad))).run P w = .ok v w ∧ AsV ty v cs := by
 have hs := F.sizeOf h w
 have ha := F.isAgg h w
 have hl := Rep_length hr
 cases ty with
 | nm n =>
  refine ⟨.agg cs.toArray, ?_, rfl⟩
  have h1 := run_loadCells_list (P := P) w ad cs hc
  rw [hl] at h1
  simp only [Instr.loadAt, Instr.sureAddr, loadVar, Sem.run_bind, Sem.run_pure, Result.andThen_ok, ha, hs, if_true, h1]
 | _ =>
  obtain ⟨u, hu⟩ : ∃ u, cs = [u] := by
   match cs, hl with
   | [u], _ => exact ⟨u, rfl⟩
  subst hu
  refine ⟨u, ?_, rfl⟩
  have h1 := hc 0 u rfl
  have h2 : ad.add 0 = ad := by simp [Addr.add]
  rw [h2] at h1
  simp [Instr.loadAt, Instr.sureAddr, loadVar, Sem.run_bind, ha, Go.load, Sem.run, h1]
theorem Fits.loadCells {n : Nat} (h : τ t = some ⟨.nm n, e⟩) {w : World} {cs : List Value} (hl : cs.length = N.size n) {ad : Addr} (hc : ∀ (j : Nat) u, cs[j]? = some u → w.cell? (ad.add j) = some u) :
  (Instr.loadAt t (.pointer (some ad))).run P w = .ok (.agg cs.toArray) w := by
 have hs := F.sizeOf h w
 have ha := F.isAgg h w
 have h1 := run_loadCells_list (P := P) w ad cs hc
 rw [hl] at h1
 simp only [Instr.loadAt, Instr.sureAddr, loadVar, Sem.run_bind, Sem.run_pure, Result.andThen_ok, ha, hs, if_true, Names.sz, h1]
omit F in
theorem setRow_grown (w : World) (g : Nat) (cs : Array Value) : w.grownBy (w.setRow g cs) (some g) :=
 ⟨rfl, rfl, rfl, by simp [World.setRow], fun k _ hk => setRow_other w g k _ (fun e => hk (by rw [e]))⟩
omit F in
theorem run_storeCells_M (P : Program) (g o : Nat) (t : TypeId) (fz : Nat × Nat) : ∀ (vs : List Value) (i : Nat) (cur : Array Value) (w : World), w.heap[g]? = some (.cells cur t fz) → (fz = (0, 0) ∨ cur.size ≤ fz.1) → o + i + vs.length ≤ cur.size → (∀ v ∈ vs, v.oneCell' = true) →
  (storeCells ⟨g, o, none⟩ vs i).run P w = .ok () (w.setRow g (cur.toList.take (o + i) ++ vs ++ cur.toList.drop (o + i + vs.length)).toArray)
 | [], i, cur, w, hg, _, _, _ => by
  simp only [storeCells, List.append_nil, List.length_nil, Nat.add_zero, List.take_append_drop, Array.toArray_toList]
  rw [setRow_self w g cur t fz hg]
  rfl
 | v :: rest, i, cur, w, hg, hfz, hl, h1 => by
  have hi : o + i < cur.size := by simp at hl; omega
  have hadd : (⟨g, o, none⟩ : Addr).add i = ⟨g, o + i, none⟩ := by unfold Addr.add; split <;> simp_all
  have hcell : w.cell? ⟨g, o + i, none⟩ = some cur[o + i] := by simp [World.cell?, hg, hi]
  have hfro : w.frozen? ⟨g, o + i, none⟩ = false := by
   obtain ⟨lo, hi'⟩ := fz
   simp only [World.frozen?, hg, Bool.and_eq_false_iff, decide_eq_false_iff_not]
   rcases hfz with hfz | hfz
   ·cases hfz; right; omega
   ·simp only at hfz; left; omega
  have hst : (store ((⟨g, o, none⟩ : Addr).add i) v).run P w = .ok () (w.setRow g (cur.setIfInBounds (o + i) v)) := by
   rw [hadd, run_store P w _ v _ (h1 v (by simp)), hcell]
   simp [hfro, setCell_eq_setRow w g (o + i) cur t fz v hg]
  have ih := run_storeCells_M P g o t fz rest (i + 1) (cur.setIfInBounds (o + i) v) (w.setRow g (cur.setIfInBounds (o + i) v)) (setRow_heap w g cur _ t _ hg) (by simpa using hfz) (by simp at hl ⊢; omega) (fun x hx => h1 x (by simp [hx]))
  simp only [storeCells, Sem.run_bind, hst, Result.andThen_ok, ih, setRow_setRow]
  congr 3
  have e := list_seg_step cur.toList (o + i) v rest (by simp at hl ⊢; omega)
  simpa [Array.toList_setIfInBounds, Nat.add_assoc] using e
theorem Fits.store (h : τ t = some ⟨ty, e⟩) {w w1 : World} {ok : Nat → Prop} {x : ty.den N.ρ} {cs : List Value} (hr : Rep w1 ok ty x cs) {v : Value} (hv : AsV ty v cs) {g off : Nat} {arr : Array Value} {T : TypeId}
  {fz : Nat × Nat} (hg : w.heap[g]? = some (.cells arr T fz)) (hfz : fz = (0, 0) ∨ arr.size ≤ fz.1) (hfit : off + cs.length ≤ arr.size) :
  (Instr.storeAt t (.pointer (some ⟨g, off, none⟩)) v).run P w = .ok () (w.setRow g (splice arr.toList off cs).toArray) := by
 have hs := F.sizeOf h w
 have hl := Rep_length hr
 have hvc : v.cells.toList = cs := by
  cases ty with
  | nm n => rw [show v = _ from hv]; rfl
  | _ =>
   have hv' : cs = [v] := hv
   have hone := Rep_one hr v (by rw [hv']; simp)
   rw [hv']
   cases v <;> first | rfl | cases hone
 have hst := run_storeCells_M P g off T fz cs 0 arr w hg hfz (by simpa using hfit) (Rep_one hr)
 have hsz : v.cells.size = N.sz ty := by rw [← hl, ← hvc]; simp
 simp only [Nat.add_zero] at hst
 simp only [Instr.storeAt, Instr.sureAddr, storeVar, Sem.run_bind, Sem.run_pure, Result.andThen_ok, hs, hvc]
 rw [if_neg (by rw [hsz]; simp)]
 exact hst
end
end Go.Eng

set_option linter.unusedVariables false
set_option linter.unusedSimpArgs false
namespace Go.Eng
variable {N : Names} {io : Io} {w0 w w' : World} {σ : St N} {E : Env} {a : Act}
theorem RelE.slot (h : RelE io w0 σ E a w) (t : Nat) : SlotRel w σ.own E (σ.reg t) (a.tmps.getD t undef) := by
 unfold St.reg
 rw [List.getD_eq_getElem?_getD]
 cases hs : σ.regs[t]? with
 | none => trivial
 | some s => exact h.regs t s hs
theorem RelE.ev (h : RelE io w0 σ E a w) (x : Operand) : RVRel w σ.own E (ev σ x) (a.eval x) := by
 unfold Eng.ev
 split
 ·rename_i t
  have := h.slot t
  split
  ·rename_i r hr
   rw [hr] at this
   exact this
  ·trivial
 ·rfl
 ·rfl
 ·exact ⟨_, rfl, rfl⟩
 ·rfl
 ·rfl
 ·trivial
 ·trivial
 ·exact ⟨rfl, fun _ h => by cases h⟩
theorem ofDen_rel {own : List (Nat × Blk N)} {t : Ty} {x : t.den N.ρ} {bs : List Nat} {cs : List Value} {v : Value} (hr : Rep w (okb w.heap.size own E bs) t x cs) (hv : AsV t v cs) : RVRel w own E (ofDen t x bs) v := by
 cases t with
 | int k =>
  have h1 : cs = [.int k x] := hr
  have h2 : cs = [v] := hv
  rw [h1] at h2
  exact (List.cons.inj h2).1.symm
 | bool =>
  have h1 : cs = [.bool x] := hr
  have h2 : cs = [v] := hv
  rw [h1] at h2
  exact (List.cons.inj h2).1.symm
 | str =>
  obtain ⟨s, h1, h3⟩ := hr
  have h2 : cs = [v] := hv
  rw [h1] at h2
  exact ⟨s, (List.cons.inj h2).1.symm, h3⟩
 | sl e => exact ⟨cs, hr, hv⟩
 | nm n => exact ⟨cs, hr, hv⟩
 | opq => trivial
theorem RowC_get {α : Type} {R : α → List Value → Prop} {sz : Nat} (hl : ∀ x cs, R x cs → cs.length = sz) : ∀ {xs : List α} {cells : List Value}, RowC R xs cells → ∀ (i : Nat) x, xs[i]? = some x →
  ∃ ccs, R x ccs ∧ (cells.drop (i * sz)).take sz = ccs ∧ (i + 1) * sz ≤ cells.length
 | [], _, _, i, x, hx => by simp at hx
 | y :: ys, cells, ⟨c1, c2, e, h1, h2⟩, 0, x, hx => by
  simp at hx
  subst hx
  subst e
  have := hl y c1 h1
  exact ⟨c1, h1, by rw [Nat.zero_mul, List.drop_zero, List.take_append_of_le_length (by omega), List.take_of_length_le (by omega)], by rw [List.length_append]; omega⟩
 | y :: ys, cells, ⟨c1, c2, e, h1, h2⟩, i + 1, x, hx => by
  subst e
  have hc1 := hl y c1 h1
  obtain ⟨ccs, k1, k2, k3⟩ := RowC_get hl h2 i x (by simpa using hx)
  have hm : (i + 1) * sz = sz + i * sz := by rw [Nat.add_mul, Nat.one_mul, Nat.add_comm]
  have hm2 : (i + 1 + 1) * sz = sz + (i + 1) * sz := by rw [Nat.add_mul (i + 1), Nat.one_mul, Nat.add_comm]
  refine ⟨ccs, k1, ?_, by rw [List.length_append]; omega⟩
  rw [List.drop_append, List.drop_eq_nil_of_le (by omega), List.nil_append, hc1, hm, Nat.add_sub_cancel_left]
  exact k2
theorem RowC_length {α : Type} {R : α → List Value → Prop} {sz : Nat} (hl : ∀ x cs, R x cs → cs.length = sz) : ∀ {xs : List α} {cells : List Value}, RowC R xs cells → cells.length = xs.length * sz
 | [], _, h => by rw [h]; simp
 | y :: ys, cells, ⟨c1, c2, e, h1, h2⟩ => by
  subst e
  rw [List.length_append, hl y c1 h1, RowC_length hl h2, List.length_cons, Nat.add_mul, Nat.one_mul, Nat.add_comm]
theorem take_drop_get {cs : List Value} {o n j : Nat} {u : Value} (h : ((cs.drop o).take n)[j]? = some u) : cs[o + j]? = some u := by
 rw [List.getElem?_take] at h
 split at h
 ·rwa [List.getElem?_drop] at h
 ·cases h
theorem RelE.rowRep (h : RelE io w0 σ E a w) {id : Nat} {e : TypeId} {t : Ty} {xs : List (t.den N.ρ)} {bs : List Nat} {p : Bool} (hb : look σ.own id = some (.row e t xs bs p)) :
  Rep w (okb w.heap.size σ.own E (id :: bs)) (.sl t) xs [E id] ∧ ∃ A cap, E id = .slice A xs.length cap := by
 obtain ⟨cells, h1, h2⟩ := h.own id _ hb
 have hlen := RowC_length (fun x cs hx => Rep_length hx) h2
 rcases h1.2 with ⟨hv, hn⟩ | ⟨g, cap, cur, T0, fz, hv, hg, _, _, hnc, hcm, hcs, ht⟩
 ·refine ⟨⟨none, 0, by rw [hv, hn], by omega, fun _ => rfl, fun i x hx => ?_⟩, none, 0, by rw [hv, hn]⟩
  rw [List.eq_nil_of_length_eq_zero hn] at hx
  simp at hx
 ·refine ⟨⟨some ⟨g, 0, none⟩, cap, by rw [hv], hnc, (fun h => by cases h), fun i x hx => ?_⟩, _, cap, hv⟩
  obtain ⟨ccs, k1, k2, k3⟩ := RowC_get (fun x cs hx => Rep_length hx) h2 i x hx
  have hblk : blkOf (E id) = some g := by rw [hv]; rfl
  refine ⟨⟨g, 0, none⟩, ccs, rfl, ⟨⟨(h.blk id _ hb g hblk).1, by rw [h.sc]; exact h.nw g (h.blk id _ hb g hblk).2⟩, fun j hj hjb => ?_⟩, ?_, fun j u hu => ?_⟩
  ·intro hg2
   obtain ⟨bj, hbj⟩ := Option.isSome_iff_exists.1 hj
   have hne : id ≠ j := fun e => hjb (by rw [e]; exact List.mem_cons_self)
   exact h.sep id j _ bj hb hbj hne g hblk hg2
  ·exact Rep_mono (fun _ _ _ h => h) (fun b hb => ⟨hb.1, fun j hj hjb => hb.2 j hj (fun hm => hjb (List.mem_cons_of_mem _ hm))⟩) k1
  ·rw [← k2] at hu
   have h3 := take_drop_get hu
   rw [← ht, List.getElem?_take] at h3
   split at h3
   ·have hadd : (⟨g, 0, none⟩ : Addr).add (i * N.sz t + j) = ⟨g, i * N.sz t + j, none⟩ := by unfold Addr.add; split <;> simp_all
    rw [hadd, cell_of_row w g _ cur _ _ hg]
    simpa using h3
   ·cases h3
theorem RelE.toDen0 (h : RelE io w0 σ E a w) {t : Ty} {r : RV N} {v : Value} {x : t.den N.ρ} {bs : List Nat} (hd : toDen0 σ.own t r = some (x, bs)) (hr : RVRel w σ.own E r v) :
  ∃ cs, Rep w (okb w.heap.size σ.own E bs) t x cs ∧ AsV t v cs := by
 have cast : ∀ (t' : Ty) (x' : t'.den N.ρ) (bs' : List Nat) cs, (castTy N t' t x').map (fun y => (y, bs')) = some (x, bs) → Rep w (okb w.heap.size σ.own E bs') t' x' cs → AsV t' v cs → ∃ cs, Rep w (okb w.heap.size σ.own E bs) t x cs ∧ AsV t v cs := by
  intro t' x' bs' cs hc hrep hv
  obtain ⟨y, hy, hp⟩ := Option.map_eq_some_iff.1 hc
  cases hp
  obtain ⟨e, rfl⟩ := castTy_some hy
  subst e
  exact ⟨cs, hrep, hv⟩
 cases r with
 | undef => cases hd
 | nilf => cases hd
 | nil =>
  cases t with
  | sl e =>
   cases hd
   exact ⟨[v], ⟨none, 0, by rw [show v = _ from hr]; rfl, Nat.le_refl _, fun _ => rfl, fun i x hx => by simp at hx⟩, rfl⟩
  | _ => cases hd
 | int k n => exact cast (.int k) n [] [v] hd (by rw [show v = _ from hr]; rfl) rfl
 | bool b => exact cast .bool b [] [v] hd (by rw [show v = _ from hr]; rfl) rfl
 | str l =>
  obtain ⟨s, hv, hs⟩ := hr
  exact cast .str l [] [v] hd ⟨s, by rw [hv], hs⟩ rfl
 | data t' x' bs' =>
  obtain ⟨cs, h1, h2⟩ := hr
  exact cast t' x' bs' cs hd h1 h2
 | own id =>
  simp only [Eng.toDen0] at hd
  split at hd
  ·rename_i e t' xs bs' p hl
   obtain ⟨h1, h2⟩ := hr
   obtain ⟨h3, _⟩ := h.rowRep hl
   rw [← h1] at h3
   exact cast (.sl t') xs (id :: bs') [v] hd h3 rfl
  ·cases hd
 | bptr id off => cases hd
 | sptr t x bs => cases hd
 | optr id i off => cases hd
 | osl id lo n => cases hd
 | fn f caps => cases hd
 | mp id => cases hd
theorem okb_more {H : Nat} {own : List (Nat × Blk N)} {E : Env} {bs bs' : List Nat} (hs : ∀ i ∈ bs, i ∈ bs') {b : Nat} (h : okb H own E bs b) : okb H own E bs' b :=
 ⟨h.1, fun j hj hjb => h.2 j hj (fun hm => hjb (hs j hm))⟩
theorem Rep_more {w : World} {own : List (Nat × Blk N)} {E : Env} {bs bs' : List Nat} (hs : ∀ i ∈ bs, i ∈ bs') {t : Ty} {x : t.den N.ρ} {cs : List Value} (h : Rep w (okb w.heap.size own E bs) t x cs) : Rep w (okb w.heap.size own E bs') t x cs :=
 Rep_mono (fun _ _ _ h => h) (fun _ hb => okb_more hs hb) h
theorem RepLL_more {w : World} {own : List (Nat × Blk N)} {E : Env} {bs bs' : List Nat} (hs : ∀ i ∈ bs, i ∈ bs') {ts : List Ty} {x : HL N.ρ ts} {cs : List Value} (h : RepL w (okb w.heap.size own E bs) (RepN w (okb w.heap.size own E bs)) ts x cs) :
  RepL w (okb w.heap.size own E bs') (RepN w (okb w.heap.size own E bs')) ts x cs :=
 RepLL_mono (fun _ _ _ h => h) (fun _ hb => okb_more hs hb) h
theorem AsV_ty {ty : Ty} {v : Value} {cs : List Value} {w : World} {ok : Nat → Prop} {x : ty.den N.ρ} (hr : Rep w ok ty x cs) (hn : ∀ n, ty ≠ .nm n) (hv : AsV ty v cs) : cs = [v] := by
 cases ty with
 | nm n => exact absurd rfl (hn n)
 | _ => exact hv
theorem implL_rel {w : World} {own : List (Nat × Blk N)} {E : Env} {g : (t : Ty) → List (RV N) → Option (t.den N.ρ × List Nat)}
  (hg : ∀ (t : Ty) (l : List (RV N)) x bs (vs : List Value), g t l = some (x, bs) → vs.length = l.length → (∀ (i : Nat) r u, l[i]? = some r → vs[i]? = some u → RVRel w own E r u) → Rep w (okb w.heap.size own E bs) t x vs) :
  ∀ (ts : List Ty) (l : List (RV N)) (x : HL N.ρ ts) (bs : List Nat) (vs : List Value), implL g ts l = some (x, bs) → vs.length = l.length → (∀ (i : Nat) r u, l[i]? = some r → vs[i]? = some u → RVRel w own E r u) →
   RepL w (okb w.heap.size own E bs) (RepN w (okb w.heap.size own E bs)) ts x vs
 | [], l, x, bs, vs, h, hl, hr => by
  cases l with
  | nil => exact List.eq_nil_of_length_eq_zero hl
  | cons r l => cases h
 | t :: ts, l, x, bs, vs, h, hl, hr => by
  simp only [implL] at h
  split at h
  ·rename_i p q hp hq
   cases h
   refine ⟨vs.take (N.sz t), vs.drop (N.sz t), (List.take_append_drop _ _).symm, ?_, ?_⟩
   ·refine Rep_more (fun i hi => List.mem_append.2 (.inl hi)) (hg t _ p.1 p.2 _ hp (by simp [hl]) (fun i r u hi hu => ?_))
    rw [List.getElem?_take] at hi hu
    split at hi
    ·rename_i hlt
     rw [if_pos hlt] at hu
     exact hr i r u hi hu
    ·cases hi
   ·refine RepLL_more (fun i hi => List.mem_append.2 (.inr hi)) (implL_rel hg ts _ q.1 q.2 _ hq (by simp [hl]) (fun i r u hi hu => ?_))
    rw [List.getElem?_drop] at hi hu
    exact hr _ r u hi hu
  ·cases h
theorem RelE.impl {io : Io} {w0 w : World} {σ : St N} {E : Env} {a : Act} (h : RelE io w0 σ E a w) : ∀ (f : Nat) (t : Ty) (l : List (RV N)) x bs (vs : List Value), impl σ.own f t l = some (x, bs) → vs.length = l.length →
  (∀ (i : Nat) r u, l[i]? = some r → vs[i]? = some u → RVRel w σ.own E r u) → Rep w (okb w.heap.size σ.own E bs) t x vs := by
 intro f
 have flat : ∀ (t : Ty), (∀ n, t ≠ .nm n) → ∀ (l : List (RV N)) x bs (vs : List Value), oneDen σ.own t l = some (x, bs) → vs.length = l.length →
   (∀ (i : Nat) r u, l[i]? = some r → vs[i]? = some u → RVRel w σ.own E r u) → Rep w (okb w.heap.size σ.own E bs) t x vs := by
  intro t hn l x bs vs hi hl hr
  unfold oneDen at hi
  split at hi
  ·rename_i r
   match vs, hl with
   | [u], _ =>
    obtain ⟨cs, k1, k2⟩ := h.toDen0 hi (hr 0 r u rfl rfl)
    have := AsV_ty k1 hn k2
    rw [← this]
    exact k1
  ·cases hi
 induction f with
 | zero => intro t l x bs vs hi; cases hi
 | succ f ih =>
  intro t l x bs vs hi hl hr
  cases t with
  | nm n =>
   simp only [Eng.impl, Option.map_eq_some_iff] at hi
   obtain ⟨p, hp, hq⟩ := hi
   cases hq
   refine RepN_close ?_
   rw [N.un_re]
   exact implL_rel ih (N.body n) l p.1 p.2 vs hp hl hr
  | _ => exact flat _ (fun n hn => by cases hn) l x bs vs hi hl hr
theorem RelE.toDen (h : RelE io w0 σ E a w) {t : Ty} {r : RV N} {v : Value} {x : t.den N.ρ} {bs : List Nat} (hd : toDen σ.own t r = some (x, bs)) (hr : RVRel w σ.own E r v) :
  ∃ cs, Rep w (okb w.heap.size σ.own E bs) t x cs ∧ AsV t v cs := by
 cases r with
 | mp id =>
  simp only [Eng.toDen] at hd
  split at hd
  ·rename_i n l hl
   split at hd
   ·rename_i p hp
    obtain ⟨y, hy, hq⟩ := Option.map_eq_some_iff.1 hd
    cases hq
    obtain ⟨e, rfl⟩ := castTy_some hy
    subst e
    obtain ⟨arr, k1, k2, k3, k4⟩ := h.own id _ hl
    exact ⟨arr.toList, h.impl 8 (.nm n) l p.1 p.2 arr.toList hp (by simpa using k2) (fun i r u hi hu => k4 i r u hi (by simpa using hu)), by rw [hr.2, k1]; rfl⟩
   ·cases hd
  ·cases hd
 | _ =>
  rw [toDen_eq0 rfl] at hd
  exact h.toDen0 hd hr
end Go.Eng

set_option linter.unusedVariables false
set_option linter.unusedSimpArgs false
namespace Go.Eng
variable {N : Names}
theorem bytesL_inj {a b : ByteArray} (h : bytesL a = bytesL b) : a = b := by
 have hm : a.data.toList = b.data.toList := by
  unfold bytesL at h
  have inj : ∀ (l m : List UInt8), (l.map fun b => (b.toNat : Int)) = (m.map fun b => (b.toNat : Int)) → l = m := by
   intro l
   induction l with
   | nil => intro m h; cases m <;> simp_all
   | cons x l ih =>
    intro m h
    cases m with
    | nil => simp at h
    | cons y m =>
     simp only [List.map_cons, List.cons.injEq] at h
     rw [ih m h.2, UInt8.toNat_inj.1 (show x.toNat = y.toNat by omega)]
  exact inj _ _ h
 cases a; cases b
 simp only [ByteArray.mk.injEq]
 exact Array.ext' hm
def strLt : List Int → List Int → Bool
 | _, [] => false
 | [], _ :: _ => true
 | a :: x, b :: y => decide (a < b) || (decide (a = b) && strLt x y)
theorem bytesLess_strLt : ∀ (l m : List UInt8), Op.bytesLess l m = strLt (l.map fun b => (b.toNat : Int)) (m.map fun b => (b.toNat : Int))
 | l, [] => by cases l <;> rfl
 | [], _ :: _ => rfl
 | a :: x, b :: y => by
  simp only [Op.bytesLess, List.map_cons, strLt, bytesLess_strLt x y]
  congr 1
  ·rw [decide_eq_decide, UInt8.lt_iff_toNat_lt]; omega
  ·congr 1
   rw [Bool.eq_iff_iff]
   simp only [beq_iff_eq, decide_eq_true_eq]
   rw [← UInt8.toNat_inj]
   omega
theorem strLt_total : ∀ (a b : List Int), (strLt a b || decide (a = b)) = !strLt b a
 | [], [] => by simp [strLt]
 | [], _ :: _ => by simp [strLt]
 | _ :: _, [] => by simp [strLt]
 | x :: a, y :: b => by
  have ih := strLt_total a b
  rw [Bool.eq_iff_iff] at ih ⊢
  simp only [strLt, Bool.or_eq_true, Bool.and_eq_true, decide_eq_true_eq, List.cons.injEq, Bool.not_eq_true', Bool.or_eq_false_iff, Bool.and_eq_false_iff, decide_eq_false_iff_not] at ih ⊢
  constructor
  ·rintro ((h | ⟨h1, h2⟩) | ⟨h1, h2⟩)
   ·exact ⟨by omega, .inl (by omega)⟩
   ·exact ⟨by omega, .inr (ih.1 (.inl h2))⟩
   ·exact ⟨by omega, .inr (ih.1 (.inr h2))⟩
  ·rintro ⟨h1, h2⟩
   by_cases hxy : x < y
   ·exact .inl (.inl hxy)
   ·have hx : x = y := by omega
    rcases h2 with h2 | h2
    ·exact absurd hx.symm h2
    ·rcases ih.2 h2 with h3 | h3
     ·exact .inl (.inr ⟨hx, h3⟩)
     ·exact .inr ⟨hx, h3⟩
def lim : Nat := 4294967296
section
variable {β : Type}
def evInt (op : BinOp) (kx : IntKind) (a b : Int) (k : RV N → Option β) : Option β :=
 match op with
 | .add => k (.int kx (kx.wrap (a + b)))
 | .sub => k (.int kx (kx.wrap (a - b)))
 | .mul => k (.int kx (kx.wrap (a * b)))
 | .quo => if b = 0 then none else k (.int kx (kx.wrap (a.tdiv b)))
 | .rem => if b = 0 then none else k (.int kx (a.tmod b))
 | .and => k (.int kx (Go.bits .and kx a b))
 | .or => k (.int kx (Go.bits .or kx a b))
 | .xor => k (.int kx (Go.bits .xor kx a b))
 | .andNot => k (.int kx (Go.bits .andNot kx a b))
 | .eql => k (.bool (decide (a = b)))
 | .neq => k (.bool (!decide (a = b)))
 | .lss => k (.bool (decide (a < b)))
 | .leq => k (.bool (decide (a ≤ b)))
 | .gtr => k (.bool (decide (b < a)))
 | .geq => k (.bool (decide (b ≤ a)))
 | _ => none
def evShift (op : BinOp) (kx : IntKind) (a b : Int) (k : RV N → Option β) : Option β :=
 match op with
 | .shl => if 0 ≤ b then k (.int kx (kx.wrap (a * 2 ^ (min b.toNat kx.bits)))) else none
 | .shr => if 0 ≤ b then k (.int kx (a / 2 ^ (min b.toNat kx.bits))) else none
 | _ => none
def evStr (op : BinOp) (a b : List Int) (k : RV N → Option β) : Option β :=
 match op with
 | .add => if a.length + b.length ≤ lim then k (.str (a ++ b)) else none
 | .eql => k (.bool (decide (a = b)))
 | .neq => k (.bool (!decide (a = b)))
 | .lss => k (.bool (strLt a b))
 | .leq => k (.bool (!strLt b a))
 | .gtr => k (.bool (strLt b a))
 | .geq => k (.bool (!strLt a b))
 | _ => none
def eqL (g : (t : Ty) → t.den N.ρ → t.den N.ρ → Option Bool) : (ts : List Ty) → HL N.ρ ts → HL N.ρ ts → Option Bool
 | [], _, _ => some true
 | t :: ts, x, y => match g t x.1 y.1, eqL g ts x.2 y.2 with
  | some b, some c => some (b && c)
  | _, _ => none
def eqD : Nat → (t : Ty) → t.den N.ρ → t.den N.ρ → Option Bool
 | _, .int _, a, b => some (decide (a = b))
 | _, .bool, a, b => some (decide (a = b))
 | _, .str, a, b => some (decide (a = b))
 | _, .sl _, _, _ => none
 | _, .opq, _, _ => none
 | 0, .nm _, _, _ => none
 | f + 1, .nm n, a, b => eqL (eqD f) (N.body n) (N.un n a) (N.un n b)
def evBin (τ : TypeId → Option TI) (op : BinOp) (xt : TypeId) (x y : RV N) (k : RV N → Option β) : Option β :=
 match x with
 | .int kx a => match y with
  | .int ky b => match op with
   | .shl => evShift .shl kx a b k
   | .shr => evShift .shr kx a b k
   | op => bif decide (kx = ky) then evInt op kx a b k else none
  | _ => none
 | .str a => match y with
  | .str b => evStr op a b k
  | _ => none
 | .bool a => match y with
  | .bool b => match τ xt with
   | some ⟨.bool, _⟩ => match op with
    | .eql => k (.bool (decide (a = b)))
    | .neq => k (.bool (!decide (a = b)))
    | _ => none
   | _ => none
  | _ => none
 | .data (.nm n) a _ => match y with
  | .data t' b _ => match τ xt with
   | some ⟨.nm m, _⟩ => match castTy N (.nm n) (.nm m) a, castTy N t' (.nm m) b with
    | some a, some b => match eqD 4 (.nm m) a b with
     | some r => match op with
      | .eql => k (.bool r)
      | .neq => k (.bool (!r))
      | _ => none
     | none => none
    | _, _ => none
   | _ => none
  | _ => none
 | _ => none
def evUn (op : UnOp) (x : RV N) (k : RV N → Option β) : Option β :=
 match op, x with
 | .neg, .int kx n => k (.int kx (kx.wrap (0 - n)))
 | .xor, .int kx n => k (.int kx (Go.bits .xor kx (if kx.signed then -1 else kx.max) n))
 | .not, .bool b => k (.bool (!b))
 | _, _ => none
theorem evInt_sound {op : BinOp} {kx : IntKind} {p q : Int} {k : RV N → Option β} {r : β} (hs : op ≠ .shl) (hs2 : op ≠ .shr) (h : evInt op kx p q k = some r) :
  ∃ z, k z = some r ∧ ∃ v, (∀ (P : Program) (t : TypeId) (w : World), (binOp op t (.int kx p) (.int kx q)).run P w = .ok v w) ∧ ∀ w (own : List (Nat × Blk N)) E, RVRel w own E z v := by
 cases op with
 | shl => exact absurd rfl hs
 | shr => exact absurd rfl hs2
 | add => exact ⟨_, h, _, fun P t w => by rw [binOp_add]; rfl, fun _ _ _ => rfl⟩
 | sub => exact ⟨_, h, _, fun P t w => by rw [binOp_sub]; rfl, fun _ _ _ => rfl⟩
 | mul => exact ⟨_, h, _, fun P t w => by rw [binOp_mul]; rfl, fun _ _ _ => rfl⟩
 | quo =>
  simp only [evInt] at h
  split at h
  ·cases h
  ·rename_i h0
   exact ⟨_, h, _, fun P t w => by rw [binOp_quo]; simp only [Op.intDiv, if_neg h0]; rfl, fun _ _ _ => rfl⟩
 | rem =>
  simp only [evInt] at h
  split at h
  ·cases h
  ·rename_i h0
   exact ⟨_, h, _, fun P t w => by rw [binOp_rem]; simp only [Op.intDiv, if_neg h0]; rfl, fun _ _ _ => rfl⟩
 | and => exact ⟨_, h, _, fun P t w => by rw [binOp_and]; rfl, fun _ _ _ => rfl⟩
 | or => exact ⟨_, h, _, fun P t w => by rw [binOp_or]; rfl, fun _ _ _ => rfl⟩
 | xor => exact ⟨_, h, _, fun P t w => by rw [binOp_xor]; rfl, fun _ _ _ => rfl⟩
 | andNot => exact ⟨_, h, _, fun P t w => by rw [binOp_andNot]; rfl, fun _ _ _ => rfl⟩
 | eql => exact ⟨_, h, _, fun P t w => by rw [binOp_eql]; rfl, fun _ _ _ => rfl⟩
 | neq => exact ⟨_, h, _, fun P t w => by rw [binOp_neq]; rfl, fun _ _ _ => rfl⟩
 | lss => exact ⟨_, h, _, fun P t w => by rw [binOp_lss]; rfl, fun _ _ _ => rfl⟩
 | leq => exact ⟨_, h, _, fun P t w => by rw [binOp_leq]; rfl, fun _ _ _ => rfl⟩
 | gtr => exact ⟨_, h, _, fun P t w => by rw [binOp_gtr]; rfl, fun _ _ _ => rfl⟩
 | geq => exact ⟨_, h, _, fun P t w => by rw [binOp_geq]; rfl, fun _ _ _ => rfl⟩
theorem fdiv_pow (x : Int) (n : Nat) : x.fdiv (2 ^ n) = x / 2 ^ n := by
 rw [Int.fdiv_eq_ediv_of_nonneg]
 exact Int.le_of_lt (Int.pow_pos (by decide))
theorem evShift_sound {op : BinOp} {kx ky : IntKind} {p q : Int} {k : RV N → Option β} {r : β} (h : evShift op kx p q k = some r) :
  ∃ z, k z = some r ∧ ∃ v, (∀ (P : Program) (t : TypeId) (w : World), (binOp op t (.int kx p) (.int ky q)).run P w = .ok v w) ∧ ∀ w (own : List (Nat × Blk N)) E, RVRel w own E z v := by
 cases op <;> try (cases h; done)
 case shl =>
  simp only [evShift] at h
  split at h
  ·rename_i h0
   exact ⟨_, h, _, fun P t w => by rw [binOp_shl]; simp only [Op.shift, if_neg (show ¬ q < 0 by omega)]; rfl, fun _ _ _ => rfl⟩
  ·cases h
 case shr =>
  simp only [evShift] at h
  split at h
  ·rename_i h0
   refine ⟨_, h, .int kx (p / 2 ^ (min q.toNat kx.bits)), fun P t w => ?_, fun _ _ _ => rfl⟩
   rw [binOp_shr]
   simp only [Op.shift, if_neg (show ¬ q < 0 by omega)]
   rw [← fdiv_pow]
   rfl
  ·cases h
theorem bytesL_append (a b : ByteArray) : bytesL (a ++ b) = bytesL a ++ bytesL b := by
 simp [bytesL, ByteArray.data_append]
theorem bytesL_length (a : ByteArray) : (bytesL a).length = a.size := by
 simp only [bytesL, List.length_map, Array.length_toList]
 rfl
theorem bytesL_eq (a b : ByteArray) : (a.toList == b.toList) = decide (bytesL a = bytesL b) := by
 rw [Bool.eq_iff_iff, beq_iff_eq, decide_eq_true_eq, ByteArray.toList_eq, ByteArray.toList_eq]
 constructor
 ·intro h; simp [bytesL, h]
 ·intro h; rw [bytesL_inj h]
theorem bytesL_less (a b : ByteArray) : Op.bytesLess a.toList b.toList = strLt (bytesL a) (bytesL b) := by
 rw [ByteArray.toList_eq, ByteArray.toList_eq, bytesLess_strLt]; rfl
theorem evStr_sound {op : BinOp} {s u : ByteArray} {k : RV N → Option β} {r : β} (h : evStr op (bytesL s) (bytesL u) k = some r) :
  ∃ z, k z = some r ∧ ∃ v, (∀ (P : Program) (t : TypeId) (w : World), (binOp op t (.string s) (.string u)).run P w = .ok v w) ∧ ∀ w (own : List (Nat × Blk N)) E, RVRel w own E z v := by
 cases op <;> try (cases h; done)
 case add =>
  simp only [evStr] at h
  split at h
  ·rename_i h0
   rw [bytesL_length, bytesL_length] at h0
   refine ⟨_, h, .string (s ++ u), fun P t w => ?_, fun _ _ _ => ⟨_, rfl, bytesL_append s u⟩⟩
   rw [binOp_string_add]
   simp only [Op.stringOp]
   rw [if_neg (by rw [IntKind.max_i64]; unfold lim at h0; omega)]
   rfl
  ·cases h
 case eql => exact ⟨_, h, _, fun P t w => by rw [binOp_string_eql, bytesL_eq]; rfl, fun _ _ _ => rfl⟩
 case neq => exact ⟨_, h, _, fun P t w => by rw [binOp_string_neq, bytesL_eq]; rfl, fun _ _ _ => rfl⟩
 case lss => exact ⟨_, h, _, fun P t w => by rw [binOp_string_lss, bytesL_less]; rfl, fun _ _ _ => rfl⟩
 case leq => exact ⟨_, h, _, fun P t w => by simp only [binOp, Op.stringOp]; rw [bytesL_less, bytesL_eq, strLt_total]; rfl, fun _ _ _ => rfl⟩
 case gtr => exact ⟨_, h, _, fun P t w => by simp only [binOp, Op.stringOp]; rw [bytesL_less, bytesL_eq, strLt_total, Bool.not_not]; rfl, fun _ _ _ => rfl⟩
 case geq => exact ⟨_, h, _, fun P t w => by simp only [binOp, Op.stringOp]; rw [bytesL_less]; rfl, fun _ _ _ => rfl⟩
theorem evUn_sound {op : UnOp} {x : RV N} {k : RV N → Option β} {r : β} (h : evUn op x k = some r) :
  ∃ z, k z = some r ∧ ∀ (P : Program) w own E vx, RVRel w own E x vx → ∃ v, (Op.unary op vx).run P w = .ok v w ∧ ∀ w own E, RVRel (N := N) w own E z v := by
 unfold evUn at h
 split at h
 ·exact ⟨_, h, fun P w own E vx hx => ⟨_, by rw [show vx = _ from hx]; rfl, fun _ _ _ => rfl⟩⟩
 ·exact ⟨_, h, fun P w own E vx hx => ⟨_, by rw [show vx = _ from hx]; rfl, fun _ _ _ => rfl⟩⟩
 ·exact ⟨_, h, fun P w own E vx hx => ⟨_, by rw [show vx = _ from hx]; rfl, fun _ _ _ => rfl⟩⟩
 ·cases h
end
end Go.Eng

set_option linter.unusedVariables false
set_option linter.unusedSimpArgs false
namespace Go.Eng
variable {N : Names} {P : Program} {τ : TypeId → Option TI}
theorem Fits.part (F : Fits P N τ) {t : TypeId} {ty : Ty} {e : TypeId} (h : τ t = some ⟨ty, e⟩) {w w1 : World} {ok : Nat → Prop} {x : ty.den N.ρ} {cs : List Value} {off : Nat}
  (hr : Rep w1 ok ty x ((cs.drop off).take (N.sz ty))) (hfit : off + N.sz ty ≤ cs.length) :
  ∃ v, (part t cs.toArray off).run P w = .ok v w ∧ AsV ty v ((cs.drop off).take (N.sz ty)) := by
 have hs := F.sizeOf h w
 have ha := F.isAgg h w
 unfold Go.part
 cases ty
 case nm n =>
  refine ⟨.agg (cs.toArray.extract off (off + N.sz (.nm n))), ?_, ?_⟩
  ·simp only [Sem.run_bind, ha, Result.andThen_ok, hs, if_true, Sem.run_pure]
  ·show _ = _
   congr 1
   rw [List.extract_toArray]
   congr 1
   simp [List.extract_eq_take_drop]
 all_goals
  simp only [Names.sz] at hfit ⊢
  have hlt : off < cs.length := by omega
  refine ⟨cs[off], ?_, ?_⟩
  ·simp [ha, hlt]
  ·show _ = [_]
   rw [List.drop_eq_getElem_cons hlt]
   rfl
theorem run_equalIn_virt {d len : Nat} {t el : TypeId} {i : TypeInfo} {xs ys : Array Value} (ht : P.underlying t = some (.array len el)) (hi : P.info? el = some i) (w : World) :
  (Op.equalIn (d + 1) t (.agg xs) (.agg ys)).run P w = (Op.eqFields d xs ys (virt len el i.size)).run P w := by
 have hs : ∀ w : World, (Go.sizeOf el).run P w = .ok i.size w := fun w => by simp [Go.sizeOf, typeInfo, hi]
 simp only [Op.equalIn, Sem.run_bind, run_underlying ht, Result.andThen_ok, hs]
 rw [Std.Legacy.Range.forIn_eq_forIn_range']
 unfold virt
 simp only [Std.Legacy.Range.size, Nat.sub_zero, Nat.add_sub_cancel, Nat.div_one]
 generalize List.range' 0 len 1 = l
 induction l generalizing w with
 | nil => simp [Op.eqFields]
 | cons k l ih =>
  simp only [List.map_cons, List.forIn_cons, Op.eqFields, Sem.run_bind]
  rw [if_pos (by decide)]
  simp only [Sem.run_bind]
  generalize (part el xs (k * i.size)).run P w = r1
  cases r1 with
  | ok a w1 =>
   simp only [Result.andThen_ok]
   generalize (part el ys (k * i.size)).run P w1 = r2
   cases r2 with
   | ok b w2 =>
    simp only [Result.andThen_ok]
    generalize (Op.equalIn d el a b).run P w2 = r3
    cases r3 with
    | ok r w3 =>
     cases r
     ·simp only [Result.andThen_ok, Bool.not_false, if_true, Sem.run_pure]
     ·simp only [Result.andThen_ok, Bool.not_true, Bool.false_eq_true, if_false, Sem.run_pure]
      exact ih w3
    | halt x w3 => simp [Result.andThen]
   | halt x w2 => simp [Result.andThen]
  | halt x w1 => simp [Result.andThen]
theorem run_equalIn_agg' {d : Nat} {t e : TypeId} {fs : Array Field} {xs ys : Array Value} {w : World} (h1 : AggOf P t e fs) (h3 : P.stoodInHeld t = false) :
  (Op.equalIn (d + 1) t (.agg xs) (.agg ys)).run P w = (Op.eqFields d xs ys fs.toList).run P w := by
 rcases h1 with ⟨_, h1⟩ | ⟨len, el, i, _, h1, h2, rfl⟩
 ·have hfo : P.fieldsOf t = fs := by simp [Program.fieldsOf, h1]
  rw [run_equalIn_struct w d t _ _ (by rw [hfo]; exact h1) h3, hfo]
 ·exact run_equalIn_virt h1 h2 w
theorem eqD_sound (F : Fits P N τ) : ∀ (f : Nat) (ty : Ty) (x y : ty.den N.ρ) (b : Bool), eqD f ty x y = some b → ∀ (d : Nat) (t : TypeId) (e : TypeId) (w w1 : World) (ok : Nat → Prop) cx cy vx vy, f ≤ d →
  τ t = some ⟨ty, e⟩ → Rep w1 ok ty x cx → AsV ty vx cx → Rep w1 ok ty y cy → AsV ty vy cy → (Op.equalIn (d + 1) t vx vy).run P w = .ok b w := by
 intro f
 have flat : ∀ (f : Nat) (ty : Ty), (∀ n, ty ≠ .nm n) → ∀ (x y : ty.den N.ρ) (b : Bool), eqD f ty x y = some b → ∀ (d : Nat) (t : TypeId) (e : TypeId) (w w1 : World) (ok : Nat → Prop) cx cy vx vy, f ≤ d →
   τ t = some ⟨ty, e⟩ → Rep w1 ok ty x cx → AsV ty vx cx → Rep w1 ok ty y cy → AsV ty vy cy → (Op.equalIn (d + 1) t vx vy).run P w = .ok b w := by
  intro f ty hn x y b h d t e w w1 ok cx cy vx vy hd ht hx hvx hy hvy
  have h1 := AsV_ty hx hn hvx
  have h2 := AsV_ty hy hn hvy
  subst h1
  subst h2
  cases ty with
  | nm n => exact absurd rfl (hn n)
  | sl e => cases f <;> cases h
  | opq => cases f <;> cases h
  | int k =>
   have e1 : vx = .int k x := (List.cons.inj hx).1
   have e2 : vy = .int k y := (List.cons.inj hy).1
   subst e1 e2
   rw [run_equalIn_int w d t k k x y (F.int t k e ht).1]
   cases f <;> (simp only [eqD, Option.some.injEq] at h; subst h; rfl)
  | bool =>
   have e1 : vx = .bool x := (List.cons.inj hx).1
   have e2 : vy = .bool y := (List.cons.inj hy).1
   subst e1 e2
   rw [run_equalIn_bool' w d t x y (F.bool t e ht).1]
   cases f <;> (simp only [eqD, Option.some.injEq] at h; subst h; cases x <;> cases y <;> rfl)
  | str =>
   obtain ⟨s, e1, hs⟩ := hx
   obtain ⟨u, e2, hu⟩ := hy
   simp only [List.cons.injEq, and_true] at e1 e2
   subst e1 e2 hs hu
   rw [run_equalIn_string w d t s u (F.str t e ht).1, bytesL_eq]
   cases f <;> (simp only [eqD, Option.some.injEq] at h; subst h; rfl)
 induction f with
 | zero =>
  intro ty x y b h
  cases ty with
  | nm n => cases h
  | _ => exact flat 0 _ (fun n hn => by cases hn) x y b h
 | succ f ih =>
  intro ty x y b h
  cases ty with
  | nm n =>
   intro d t e w w1 ok cx cy vx vy hd ht hx hvx hy hvy
   obtain ⟨fs, h1, h2, h3, _⟩ := F.nm t n e ht
   rw [show vx = _ from hvx, show vy = _ from hvy, run_equalIn_agg' h1 h3]
   obtain ⟨d, rfl⟩ : ∃ m, d = m + 1 := ⟨d - 1, by omega⟩
   have key : ∀ (ts : List Ty) (off : Nat) (fl : List Field) (X Y : HL N.ρ ts) (b : Bool), FieldsFit N τ ts off fl → eqL (eqD f) ts X Y = some b →
     RepL w1 ok (RepN w1 ok) ts X (cx.drop off) → RepL w1 ok (RepN w1 ok) ts Y (cy.drop off) → off ≤ cx.length → off ≤ cy.length → (Op.eqFields (d + 1) cx.toArray cy.toArray fl).run P w = .ok b w := by
    intro ts
    induction ts with
    | nil =>
     intro off fl X Y b hf he hX hY _ _
     cases fl with
     | nil => simp only [eqL, Option.some.injEq] at he; subst he; rfl
     | cons g fl => exact hf.elim
    | cons ty ts iht =>
     intro off fl X Y b hf he hX hY ho1 ho2
     cases fl with
     | nil => exact hf.elim
     | cons g fl =>
      obtain ⟨f1, ⟨e', f2⟩, f3, f4, f5⟩ := hf
      obtain ⟨a1, a2, ea, k1, k2⟩ := hX
      obtain ⟨b1, b2, eb, k3, k4⟩ := hY
      have l1 := Rep_length (show Rep w1 ok ty X.1 a1 from k1)
      have l3 := Rep_length (show Rep w1 ok ty Y.1 b1 from k3)
      have t1 : (cx.drop off).take (N.sz ty) = a1 := by rw [ea, ← l1, List.take_left]
      have t3 : (cy.drop off).take (N.sz ty) = b1 := by rw [eb, ← l3, List.take_left]
      have d1 : cx.drop (off + N.sz ty) = a2 := by rw [← List.drop_drop, ea, ← l1, List.drop_left]
      have d3 : cy.drop (off + N.sz ty) = b2 := by rw [← List.drop_drop, eb, ← l3, List.drop_left]
      have m1 : off + N.sz ty ≤ cx.length := by have := congrArg List.length ea; rw [List.length_drop, List.length_append] at this; omega
      have m3 : off + N.sz ty ≤ cy.length := by have := congrArg List.length eb; rw [List.length_drop, List.length_append] at this; omega
      obtain ⟨va, p1, q1⟩ := F.part (w := w) f2 (by rw [t1]; exact k1) m1
      obtain ⟨vb, p3, q3⟩ := F.part (w := w) f2 (by rw [t3]; exact k3) m3
      simp only [eqL] at he
      split at he
      ·rename_i r1 r2 hr1 hr2
       simp only [Option.some.injEq] at he
       have hq := ih ty X.1 Y.1 r1 hr1 d g.type e' w w1 ok _ _ va vb (by omega) f2 (by rw [t1]; exact k1) q1 (by rw [t3]; exact k3) q3
       have hrest := iht (off + N.sz ty) fl X.2 Y.2 r2 f5 hr2 (by rw [d1]; exact k2) (by rw [d3]; exact k4) m1 m3
       simp only [Op.eqFields]
       rw [if_pos f4, f1]
       simp only [Sem.run_bind, p1, p3, Result.andThen_ok, hq]
       cases r1 with
       | true => simp only [Bool.not_true, Bool.false_eq_true, if_false]; rw [hrest, ← he]; rfl
       | false => simp only [Bool.not_false, if_true]; rw [← he]; rfl
      ·cases he
   exact key (N.body n) 0 fs.toList (N.un n x) (N.un n y) b h2 h (by simpa using RepN_open hx) (by simpa using RepN_open hy) (Nat.zero_le _) (Nat.zero_le _)
  | _ => exact flat (f + 1) _ (fun n hn => by cases hn) x y b h
theorem evBin_sound (F : Fits P N τ) {β : Type} {op : BinOp} {xt : TypeId} {x y : RV N} {k : RV N → Option β} {r : β} (h : evBin τ op xt x y k = some r) :
  ∃ z, k z = some r ∧ ∀ w own E vx vy X Y, RVRel w own E x vx → RVRel w own E y vy → ∃ v, (do eqGuard op xt X Y vx vy; binOp op xt vx vy).run P w = .ok v w ∧ RVRel w own E z v := by
 cases x with
 | int kx p =>
  cases y with
  | int ky q =>
   have hsh : ∀ o, evShift o kx p q k = some r → op = o → ∃ z, k z = some r ∧ ∀ w own E vx vy X Y, RVRel w own E (.int kx p : RV N) vx → RVRel w own E (.int ky q : RV N) vy → ∃ v, (do eqGuard op xt X Y vx vy; binOp op xt vx vy).run P w = .ok v w ∧ RVRel w own E z v := by
    intro o ho e
    subst e
    obtain ⟨z, h1, v, h2, h3⟩ := evShift_sound (N := N) (ky := ky) ho
    refine ⟨z, h1, fun w own E vx vy X Y hx hy => ⟨v, ?_, h3 w own E⟩⟩
    rw [show vx = _ from hx, show vy = _ from hy, eqGuard_at_int]
    exact h2 P xt w
   have hin : op ≠ .shl → op ≠ .shr → (bif decide (kx = ky) then evInt op kx p q k else none) = some r → ∃ z, k z = some r ∧ ∀ w own E vx vy X Y, RVRel w own E (.int kx p : RV N) vx → RVRel w own E (.int ky q : RV N) vy → ∃ v, (do eqGuard op xt X Y vx vy; binOp op xt vx vy).run P w = .ok v w ∧ RVRel w own E z v := by
    intro h1 h2 h3
    obtain ⟨h4, h5⟩ := bif_none h3
    have hk : kx = ky := by simpa using h4
    subst hk
    obtain ⟨z, g1, v, g2, g3⟩ := evInt_sound (N := N) h1 h2 h5
    refine ⟨z, g1, fun w own E vx vy X Y hx hy => ⟨v, ?_, g3 w own E⟩⟩
    rw [show vx = _ from hx, show vy = _ from hy, eqGuard_at_int]
    exact g2 P xt w
   cases op <;> first
    | exact hsh .shl h rfl
    | exact hsh .shr h rfl
    | exact hin (by decide) (by decide) h
  | _ => cases h
 | str l =>
  cases y with
  | str m =>
   have h' : evStr op l m k = some r := h
   by_cases hs : ∃ s, bytesL s = l
   ·obtain ⟨s, rfl⟩ := hs
    by_cases hu : ∃ u, bytesL u = m
    ·obtain ⟨u, rfl⟩ := hu
     obtain ⟨z, h1, v, h2, h3⟩ := evStr_sound (N := N) h'
     refine ⟨z, h1, fun w own E vx vy X Y hx hy => ⟨v, ?_, h3 w own E⟩⟩
     obtain ⟨s', rfl, es⟩ := hx
     obtain ⟨u', rfl, eu⟩ := hy
     rw [bytesL_inj es, bytesL_inj eu, eqGuard_at_string]
     exact h2 P xt w
    ·obtain ⟨z, hz⟩ : ∃ z, k z = some r := by
      cases op <;> simp only [evStr] at h' <;> first | exact ⟨_, h'⟩ | cases h' | (split at h' <;> first | exact ⟨_, h'⟩ | cases h')
     exact ⟨z, hz, fun w own E vx vy X Y hx hy => by obtain ⟨u', _, eu⟩ := hy; exact absurd ⟨u', eu⟩ hu⟩
   ·obtain ⟨z, hz⟩ : ∃ z, k z = some r := by
     cases op <;> simp only [evStr] at h' <;> first | exact ⟨_, h'⟩ | cases h' | (split at h' <;> first | exact ⟨_, h'⟩ | cases h')
    exact ⟨z, hz, fun w own E vx vy X Y hx hy => by obtain ⟨s', _, es⟩ := hx; exact absurd ⟨s', es⟩ hs⟩
  | _ => cases h
 | bool p =>
  cases y with
  | bool q =>
   simp only [evBin] at h
   split at h
   ·rename_i e hτ
    have hu := (F.bool xt _ hτ).1
    split at h
    ·exact ⟨_, h, fun w own E vx vy X Y hx hy => ⟨.bool (p == q), by rw [show vx = _ from hx, show vy = _ from hy, eqGuard_at_bool]; exact run_eql_bool w xt p q hu, by cases p <;> cases q <;> rfl⟩⟩
    ·exact ⟨_, h, fun w own E vx vy X Y hx hy => ⟨.bool (!(p == q)), by rw [show vx = _ from hx, show vy = _ from hy, eqGuard_at_bool]; exact run_neq_bool w xt p q hu, by cases p <;> cases q <;> rfl⟩⟩
    ·cases h
   ·cases h
  | _ => cases h
 | data t a bs =>
  cases t with
  | nm n =>
   cases y with
   | data t' b bs' =>
    simp only [evBin] at h
    split at h
    ·rename_i m e hτ
     split at h
     ·rename_i a' b' ha hb
      split at h
      ·rename_i c hc
       obtain ⟨ea, rfl⟩ := castTy_some ha
       obtain ⟨eb, rfl⟩ := castTy_some hb
       cases ea
       subst eb
       obtain ⟨fs, u1, _, u3, u4, _⟩ := F.nm xt n e hτ
       have hrun : ∀ w own E vx vy, RVRel w own E (.data (.nm n) a bs : RV N) vx → RVRel w own E (.data (.nm n) b bs' : RV N) vy → ∃ xs ys, vx = .agg xs ∧ vy = .agg ys ∧ (Op.equalIn 10000 xt vx vy).run P w = .ok c w := by
        rintro w own E vx vy ⟨cx, h1, h2⟩ ⟨cy, h3, h4⟩
        refine ⟨_, _, h2, h4, ?_⟩
        have e1 : Rep w (fun _ => True) (.nm n) a cx := Rep_mono (fun _ _ _ h => h) (fun _ _ => trivial) h1
        have e3 : Rep w (fun _ => True) (.nm n) b cy := Rep_mono (fun _ _ _ h => h) (fun _ _ => trivial) h3
        exact eqD_sound F 4 (.nm n) a b c hc 9999 xt e w w _ cx cy vx vy (by omega) hτ e1 h2 e3 h4
       split at h
       ·refine ⟨_, h, fun w own E vx vy X Y hx hy => ⟨.bool c, ?_, rfl⟩⟩
        obtain ⟨xs, ys, rfl, rfl, hr⟩ := hrun w own E vx vy hx hy
        rw [Sem.run_bind, run_eqGuard_agg w _ xt X Y xs ys u4, Result.andThen_ok, run_eql_struct, hr]
        rfl
       ·refine ⟨_, h, fun w own E vx vy X Y hx hy => ⟨.bool (!c), ?_, rfl⟩⟩
        obtain ⟨xs, ys, rfl, rfl, hr⟩ := hrun w own E vx vy hx hy
        rw [Sem.run_bind, run_eqGuard_agg w _ xt X Y xs ys u4, Result.andThen_ok, run_neq_struct, hr]
        rfl
       ·cases h
      ·cases h
     ·cases h
    ·cases h
   | _ => cases h
  | _ => cases h
 | _ => cases h
end Go.Eng

set_option linter.unusedVariables false
set_option linter.unusedSimpArgs false
namespace Go.Eng
variable {N : Names} {P : Program} {τ : TypeId → Option TI} {β : Type}
abbrev KK (N : Names) (β : Type) := Slot N → List (Nat × Blk N) → Option β
def Runs (P : Program) (σ : St N) (s : Operand → Value → Prop) : Prop := True
def Does (P : Program) (σ : St N) (run : Act → Sem Value) (s : Slot N) (ad : List (Nat × Blk N)) : Prop :=
 ∀ io w0 E a w, RelE io w0 σ E a w → ∃ v w' E', (run a).run P w = .ok v w' ∧ RelE io w0 { σ with own := insAll ad σ.own } E' a w' ∧ SlotRel w' (insAll ad σ.own) E' s v
theorem Does.pure {σ : St N} {run : Act → Sem Value} {r : RV N} (h : ∀ io w0 E a w, RelE io w0 σ E a w → ∃ v, (run a).run P w = .ok v w ∧ RVRel w σ.own E r v) : Does P σ run (.one r) [] :=
 fun io w0 E a w hr => let ⟨v, h1, h2⟩ := h io w0 E a w hr; ⟨v, w, E, h1, hr, h2⟩
theorem add_lit' (g o n : Nat) : (⟨g, o, none⟩ : Addr).add n = ⟨g, o + n, none⟩ := by
 unfold Addr.add; split <;> simp_all
def scalT : Ty → Bool
 | .int _ => true
 | .bool => true
 | .str => true
 | _ => false
def arrOf (N : Names) (n : Nat) : Option (Ty × Nat) := match N.elT n with
 | some T => bif scalT T && (N.body n).all (fun t => decide (t = T)) && Nat.blt 0 (N.body n).length then some (T, (N.body n).length) else none
 | none => none
def tagA (len : Nat) : Nat := 2 * tagM + len
theorem two_tagA (len : Nat) : 2 * tagM ≤ tagA len := Nat.le_add_right _ _
theorem tagA_inj {m n : Nat} (h : tagA m = 2 * tagM + n) : m = n := Nat.add_left_cancel h
theorem all_replicate : ∀ (ts : List Ty) (T : Ty), (ts.all fun t => decide (t = T)) = true → ts = List.replicate ts.length T
 | [], _, _ => rfl
 | t :: ts, T, h => by
  simp only [List.all_cons, Bool.and_eq_true, decide_eq_true_eq] at h
  rw [List.length_cons, List.replicate_succ, h.1, ← all_replicate ts T h.2]
theorem FieldsFit_len : ∀ (ts : List Ty) (off : Nat) (fs : List Field), FieldsFit N τ ts off fs → ts.length = fs.length
 | [], _, [], _ => rfl
 | [], _, _ :: _, h => h.elim
 | _ :: _, _, [], h => h.elim
 | _ :: ts, _, _ :: fs, ⟨_, _, _, _, h⟩ => by rw [List.length_cons, List.length_cons, FieldsFit_len ts _ fs h]
theorem arrOf_spec (F : Fits P N τ) {t : TypeId} {n len : Nat} {e : TypeId} {T : Ty} (hτ : τ t = some ⟨.nm n, e⟩) (ha : arrOf N n = some (T, len)) (he : e ≠ 0) :
  ∃ el e', P.underlying t = some (.array len el) ∧ τ el = some ⟨T, e'⟩ ∧ N.body n = List.replicate len T ∧ 0 < len ∧ scalT T = true := by
 unfold arrOf at ha
 split at ha
 ·rename_i T' hT
  obtain ⟨hc, h⟩ := bif_none ha
  cases h
  simp only [Bool.and_eq_true] at hc
  obtain ⟨⟨h1, h2⟩, h3⟩ := hc
  have h3 : 0 < (N.body n).length := Nat.le_of_ble_eq_true h3
  obtain ⟨fs, hf, h4, _⟩ := F.nm t n e hτ
  rcases hf with ⟨h0, _⟩ | ⟨len', el, i, he', hu, hi, hfs⟩
  ·exact absurd h0 he
  ·subst hfs
   have hl := FieldsFit_len _ _ _ h4
   have hl2 : (virt len' el i.size).toArray.toList.length = len' := by simp [virt]
   have hlen : len' = (N.body n).length := by rw [hl, hl2]
   have hb := all_replicate _ _ h2
   rw [hlen] at hu h4
   refine ⟨el, ?_⟩
   cases hbo : N.body n with
   | nil => rw [hbo] at h3; cases h3
   | cons t0 ts =>
    rw [hbo] at h4 hb
    obtain ⟨m, hm⟩ : ∃ m, (t0 :: ts).length = m + 1 := ⟨ts.length, rfl⟩
    have hv : (virt (t0 :: ts).length el i.size).toArray.toList = ({ name := "x", type := el, offset := 0 * i.size, embedded := false, tag := "", pkgPath := "", byteOffset := 0 } : Field) :: ((List.range' 1 m).map fun i' => { name := "x", type := el, offset := i' * i.size, embedded := false, tag := "", pkgPath := "", byteOffset := 0 }) := by
     rw [hm]
     simp only [virt, List.range'_succ, List.map_cons, List.toArray_cons, Nat.zero_add]
    rw [hv] at h4
    obtain ⟨_, ⟨e', h5⟩, _⟩ := h4
    have ht0 : t0 = T := by
     rw [hm, List.replicate_succ] at hb
     exact (List.cons.inj hb).1
    rw [ht0] at h5
    refine ⟨e', by rw [hbo] at hu; exact hu, h5, hb, by simp, h1⟩
 ·cases ha
theorem rowC_repL {w : World} {ok : Nat → Prop} {T : Ty} : ∀ (xs : List (T.den N.ρ)) (ts : List Ty) (x : HL N.ρ ts) (cells : List Value), ts = List.replicate xs.length T → (∀ (m : Nat) z, xs[m]? = some z → hlGetR N.ρ ts x m = some ⟨T, z⟩) →
  RowC (Rep w ok T) xs cells → RepL w ok (RepN w ok) ts x cells
 | [], ts, x, cells, ht, hg, hr => by
  subst ht
  exact hr
 | y :: ys, ts, x, cells, ht, hg, hr => by
  subst ht
  obtain ⟨c1, c2, e, h1, h2⟩ := hr
  refine ⟨c1, c2, e, ?_, rowC_repL ys _ x.2 c2 rfl (fun m z hm => hg (m + 1) z hm) h2⟩
  have h0 := hg 0 y rfl
  simp only [List.length_cons, List.replicate_succ, hlGetR, Option.some.injEq, Sigma.mk.injEq, heq_eq_eq, true_and] at h0
  show Rep w ok T x.1 c1
  rw [h0]
  exact h1
theorem repL_rowC {w : World} {ok : Nat → Prop} {T : Ty} : ∀ (xs : List (T.den N.ρ)) (ts : List Ty) (x : HL N.ρ ts) (cells : List Value), ts = List.replicate xs.length T → (∀ (m : Nat) z, xs[m]? = some z → hlGetR N.ρ ts x m = some ⟨T, z⟩) →
  RepL w ok (RepN w ok) ts x cells → RowC (Rep w ok T) xs cells
 | [], ts, x, cells, ht, hg, hr => by
  subst ht
  exact hr
 | y :: ys, ts, x, cells, ht, hg, hr => by
  subst ht
  obtain ⟨c1, c2, e, h1, h2⟩ := hr
  refine ⟨c1, c2, e, ?_, repL_rowC ys _ x.2 c2 rfl (fun m z hm => hg (m + 1) z hm) h2⟩
  have h0 := hg 0 y rfl
  simp only [List.length_cons, List.replicate_succ, hlGetR, Option.some.injEq, Sigma.mk.injEq, heq_eq_eq, true_and] at h0
  have h1 : Rep w ok T x.1 c1 := h1
  rw [h0] at h1
  exact h1
theorem offL_replicate (T : Ty) : ∀ (len m : Nat), m ≤ len → offL N (List.replicate len T) m = m * N.sz T
 | len, 0, _ => by cases len <;> simp [offL]
 | 0, m + 1, h => by omega
 | len + 1, m + 1, h => by rw [List.replicate_succ, offL, offL_replicate T len m (by omega), Nat.add_mul, Nat.one_mul, Nat.add_comm]
theorem run_indexArr (F : Fits P N τ) {t el e' : TypeId} {T : Ty} {len : Nat} (hu : P.underlying t = some (.array len el)) (hel : τ el = some ⟨T, e'⟩) (ad : Addr) (kk : IntKind) (n : Int) (h0 : 0 ≤ n) (h1 : n < len) (w : World) :
  (Instr.indexAt t (.pointer (some ad)) (.int kk n)).run P w = .ok (.pointer (some (ad.add (n.toNat * N.sz T)))) w := by
 have hs := F.sizeOf hel w
 simp [Instr.indexAt, asIntOf, run_underlying hu, Instr.sureAddr, h0, h1, hs]
def evIdxArr (own : List (Nat × Blk N)) (n : Nat) (e : TypeId) (x i : RV N) (k : KK N β) : Option β :=
 match arrOf N n with
 | some (T, len) => bif Nat.beq e 0 then none else match i with
  | .int _ m => match x with
   | .optr id 0 0 => match look own id with
    | some (.row e' T' _ _ _) => bif Nat.beq e' (tagA len) && decide (T' = T) then if 0 ≤ m then if m < (len : Int) then k (.one (.optr id m.toNat 0)) [] else none else none else none
    | _ => none
   | .sptr t' v bs => match castTy N t' (.nm n) v with
    | some v => match N.lst n T v with
     | some l => if 0 ≤ m then if m < (len : Int) then k (.one (.sptr T (l.getD m.toNat (N.dflt T)) bs)) [] else none else none
     | none => none
    | none => none
   | _ => none
  | _ => none
 | none => none
theorem OwnR.arr {w : World} {len size n : Nat} {v : Value} {xs : List Value} (h : OwnR w (tagA len) size v n xs) (hlen : 0 < len) :
  n = len ∨ (v = .slice none 0 0 ∧ n = 0) := by
 rcases h.2 with hn | ⟨g, cap, cur, T, fz, h1, h2, h3, h4, h5⟩
 ·exact .inr hn
 ·exact .inl (tagA_inj (h4.2 (two_tagA len)).2).symm
theorem evIdxArr_sound (F : Fits P N τ) {σ : St N} {t : TypeId} {n : Nat} {e : TypeId} (hτ : τ t = some ⟨.nm n, e⟩) {x i : Operand} {k : KK N β} {r : β} (h : evIdxArr σ.own n e (ev σ x) (ev σ i) k = some r) :
  ∃ s ad, k s ad = some r ∧ Does P σ (fun a => Instr.indexAt t (a.eval x) (a.eval i)) s ad := by
 unfold evIdxArr at h
 split at h
 ·rename_i T len ha
  cases hb : Nat.beq e 0 with
  | true => rw [hb] at h; cases h
  | false =>
  rw [hb] at h
  simp only [cond_false] at h
  obtain ⟨el, e', hu, hel, hbody, hlen, _⟩ := arrOf_spec F hτ ha (fun e0 => by rw [e0] at hb; cases hb)
  split at h
  ·rename_i kk m hi
   have hi' : ∀ {io w0 E a w}, RelE io w0 σ E a w → a.eval i = .int kk m := fun hr => by
    have := hr.ev i
    rw [hi] at this
    exact this
   split at h
   ·rename_i id hx
    split at h
    ·rename_i e1 T' xs bs p hl
     obtain ⟨hc, h2⟩ := bif_none h
     clear h
     simp only [Bool.and_eq_true, decide_eq_true_eq] at hc
     obtain ⟨hc1, rfl⟩ := hc
     have hc1 := Nat.eq_of_beq_eq_true hc1
     subst hc1
     split at h2
     ·rename_i h0
      split at h2
      ·rename_i h1
       refine ⟨_, _, h2, Does.pure fun io w0 E a w hr => ?_⟩
       have hx' := hr.ev x
       rw [hx] at hx'
       obtain ⟨g, cap, n', t2, ⟨e2, xs2, bs2, p2, q1, q2⟩, k2, k3, k4⟩ := hx'
       rw [hl] at q1
       cases q1
       subst q2
       obtain ⟨cells, c1, _⟩ := hr.own id _ hl
       have hn : xs.length = len := by
        rcases c1.arr hlen with hn | ⟨hv, _⟩
        ·exact hn
        ·rw [k3] at hv; cases hv
       refine ⟨_, by rw [k4, hi' hr]; exact run_indexArr F hu hel _ kk m h0 h1 w, g, cap, xs.length, T', ⟨_, xs, bs, p, hl, rfl⟩, by omega, k3, ?_⟩
       rw [add_lit', Nat.zero_mul, Nat.zero_add, Nat.add_zero]
      ·cases h2
     ·cases h2
    ·cases h
   ·rename_i t' v bs hx
    split at h
    ·rename_i v' hv'
     split at h
     ·rename_i l hl
      split at h
      ·rename_i h0
       split at h
       ·rename_i h1
        refine ⟨_, _, h, Does.pure fun io w0 E a w hr => ?_⟩
        have hx' := hr.ev x
        rw [hx] at hx'
        obtain ⟨ad, cs, g1, g2, g3, g4⟩ := hx'
        obtain ⟨et, rfl⟩ := castTy_some hv'
        subst et
        obtain ⟨l1, l2⟩ := N.lst_ok n T v l hl
        have hlt : m.toNat < l.length := by rw [l1, hbody, List.length_replicate]; omega
        have hg := l2 m.toNat l[m.toNat] (List.getElem?_eq_getElem hlt)
        have hg' : hlGet (N.body n) (N.un n v) m.toNat = some ⟨T, l[m.toNat]⟩ := by rw [hlGet_R, hg]; rfl
        obtain ⟨k1, k2⟩ := hlGet_rep (N.body n) (N.un n v) m.toNat _ cs hg' (RepN_open g3)
        have hoff : offL N (N.body n) m.toNat = m.toNat * N.sz T := by rw [hbody]; exact offL_replicate T len _ (by omega)
        rw [hoff] at k1
        refine ⟨_, by rw [g1, hi' hr]; exact run_indexArr F hu hel ad kk m h0 h1 w, ad.add (m.toNat * N.sz T), (cs.drop (m.toNat * N.sz T)).take (N.sz T), rfl, by rw [addr_add_block]; exact g2, ?_, fun j u hu => ?_⟩
        ·rw [List.getD_eq_getElem?_getD, List.getElem?_eq_getElem hlt]
         exact k1
        ·rw [addr_add_add]
         exact g4 _ _ (take_drop_get hu)
       ·cases h
      ·cases h
     ·cases h
    ·cases h
   ·cases h
  ·cases h
 ·cases h
def evLoadArr (ty : Ty) (e' : TypeId) (T' : Ty) (xs : List (T'.den N.ρ)) (bs : List Nat) (i off : Nat) (k : KK N β) : Option β :=
 match ty with
 | .nm n => match arrOf N n with
  | some (T, len) => bif Nat.beq e' (tagA len) && Nat.beq i 0 && Nat.beq off 0 then match castTy N (.sl T') (.sl T) xs with
   | some xs => match N.ofL n T xs with
    | some y => k (.one (.data (.nm n) y bs)) []
    | none => none
   | none => none
   else none
  | none => none
 | _ => none
theorem arrOf_body {n len : Nat} {T : Ty} (ha : arrOf N n = some (T, len)) : N.body n = List.replicate len T ∧ 0 < len := by
 unfold arrOf at ha
 split at ha
 ·obtain ⟨hc, h⟩ := bif_none ha
  cases h
  simp only [Bool.and_eq_true] at hc
  exact ⟨all_replicate _ _ hc.1.2, Nat.le_of_ble_eq_true hc.2⟩
 ·cases ha
theorem evLoadArr_some {ty : Ty} {e' : TypeId} {T' : Ty} {xs : List (T'.den N.ρ)} {bs : List Nat} {i off : Nat} {k : KK N β} {r : β} (h : evLoadArr ty e' T' xs bs i off k = some r) :
  ∃ n y, ty = .nm n ∧ i = 0 ∧ off = 0 ∧ k (.one (.data (.nm n) y bs)) [] = some r ∧ (∀ {β' : Type} (k' : KK N β'), evLoadArr ty e' T' xs bs i off k' = k' (.one (.data (.nm n) y bs)) []) ∧
   ∀ {w : World} {ok : Nat → Prop} {v : Value} {cells : List Value}, OwnR w e' (N.sz T') v xs.length cells → v ≠ .slice none 0 0 → RowC (Rep w ok T') xs cells → Rep w ok (.nm n) y cells := by
 unfold evLoadArr at h
 split at h
 ·rename_i n
  split at h
  ·rename_i T len ha
   obtain ⟨hc, h2⟩ := bif_none h
   clear h
   have hc0 := hc
   simp only [Bool.and_eq_true] at hc
   obtain ⟨⟨h1, hi⟩, ho⟩ := hc
   have h1 := Nat.eq_of_beq_eq_true h1
   have hi := Nat.eq_of_beq_eq_true hi
   have ho := Nat.eq_of_beq_eq_true ho
   split at h2
   ·rename_i xs' hxs
    split at h2
    ·rename_i y hy
     refine ⟨n, y, rfl, hi, ho, h2, fun k' => by simp only [evLoadArr, ha, hc0, cond_true, hxs, hy], ?_⟩
     intro w ok v cells hown hv hrow
     obtain ⟨et, rfl⟩ := castTy_some hxs
     cases et
     obtain ⟨hb, hlen⟩ := arrOf_body ha
     subst h1
     have hn : xs.length = len := by
      rcases hown.arr hlen with hn | ⟨hv', _⟩
      ·exact hn
      ·exact absurd hv' hv
     refine RepN_close (rowC_repL xs _ _ _ (by rw [hn, hb]) ?_ hrow)
     exact N.ofL_ok n _ xs y (by rw [hb, List.length_replicate, hn]) hy
    ·cases h2
   ·cases h2
  ·cases h
 ·cases h
def evSliceArr (own : List (Nat × Blk N)) (n : Nat) (e : TypeId) (x : RV N) (lo hi : Option Operand) (k : KK N β) : Option β :=
 match arrOf N n, lo, hi with
 | some (T, len), none, none => bif Nat.beq e 0 then none else match x with
  | .optr id 0 0 => match look own id with
   | some (.row e' T' _ _ _) => bif Nat.beq e' (tagA len) && decide (T' = T) then k (.one (.own id)) [] else none
   | _ => none
  | _ => none
 | _, _, _ => none
theorem evSliceArr_sound (F : Fits P N τ) {σ : St N} {t : TypeId} {n : Nat} {e : TypeId} (hτ : τ t = some ⟨.nm n, e⟩) {x : Operand} {lo hi : Option Operand} {k : KK N β} {r : β} (h : evSliceArr σ.own n e (ev σ x) lo hi k = some r) :
  ∃ s ad, k s ad = some r ∧ Does P σ (fun a => Instr.sliceAt t (a.eval x) (lo.map a.eval) (hi.map a.eval) none) s ad := by
 unfold evSliceArr at h
 split at h
 ·rename_i T len ha
  cases hb : Nat.beq e 0 with
  | true => rw [hb] at h; cases h
  | false =>
  rw [hb] at h
  simp only [cond_false] at h
  obtain ⟨el, e', hu, hel, hbody, hlen, _⟩ := arrOf_spec F hτ ha (fun e0 => by rw [e0] at hb; cases hb)
  split at h
  ·rename_i id hx
   split at h
   ·rename_i e1 T' xs bs p hl
    obtain ⟨hc, h2⟩ := bif_none h
    clear h
    simp only [Bool.and_eq_true, decide_eq_true_eq] at hc
    obtain ⟨hc1, rfl⟩ := hc
    have hc1 := Nat.eq_of_beq_eq_true hc1
    subst hc1
    refine ⟨_, _, h2, Does.pure fun io w0 E a w hr => ?_⟩
    have hx' := hr.ev x
    rw [hx] at hx'
    obtain ⟨g, cap, n', t2, ⟨e2, xs2, bs2, p2, q1, q2⟩, k2, k3, k4⟩ := hx'
    rw [hl] at q1
    cases q1
    subst q2
    obtain ⟨cells, c1, _⟩ := hr.own id _ hl
    rcases c1.2 with ⟨hv, hn⟩ | ⟨g', cap', cur, T0, fz, hv, hg, hfz, hT0, _⟩
    ·rw [k3] at hv; cases hv
    ·rw [k3] at hv
     simp only [Value.slice.injEq, Option.some.injEq, Addr.mk.injEq] at hv
     obtain ⟨⟨rfl, _⟩, _, rfl⟩ := hv
     obtain ⟨t1, t2⟩ := hT0.2 (two_tagA len)
     have hn : xs.length = len := (tagA_inj t2).symm
     have hs := F.sizeOf hel w
     refine ⟨.slice (some ⟨g, 0, none⟩) len len, ?_, by rw [k3, t1, hn], xs.length, T', _, xs, bs, p, hl, rfl⟩
     rw [k4]
     have h0 : ¬ len = 0 := by omega
     simp [Instr.sliceAt, run_underlying hu, Instr.sureAddr, Instr.sliceBounds, hs, h0, add_lit']
   ·cases h
  ·cases h
 ·cases h
def storeArr (tv : Ty) (y : tv.den N.ρ) (e' : TypeId) (T' : Ty) (i off : Nat) : Option (List (T'.den N.ρ)) :=
 match tv, y with
 | .nm n, y => match arrOf N n with
  | some (T, len) => bif Nat.beq e' (tagA len) && Nat.beq i 0 && Nat.beq off 0 then match N.lst n T y with
   | some l => castTy N (.sl T) (.sl T') l
   | none => none
   else none
  | none => none
 | _, _ => none
theorem storeArr_some {tv : Ty} {y : tv.den N.ρ} {e' : TypeId} {T' : Ty} {i off : Nat} {l : List (T'.den N.ρ)} (h : storeArr tv y e' T' i off = some l) :
  i = 0 ∧ off = 0 ∧ ∃ len, 0 < len ∧ e' = tagA len ∧ l.length = len ∧ ∀ {w : World} {ok : Nat → Prop} {cells : List Value}, Rep w ok tv y cells → RowC (Rep w ok T') l cells := by
 unfold storeArr at h
 split at h
 ·rename_i n y
  split at h
  ·rename_i T len ha
   obtain ⟨hc, h2⟩ := bif_none h
   simp only [Bool.and_eq_true] at hc
   obtain ⟨⟨h1, hi⟩, ho⟩ := hc
   split at h2
   ·rename_i l' hl
    obtain ⟨et, rfl⟩ := castTy_some h2
    cases et
    obtain ⟨hb, hlen⟩ := arrOf_body ha
    obtain ⟨l1, l2⟩ := N.lst_ok n _ y l' hl
    have hll : l'.length = len := by rw [l1, hb, List.length_replicate]
    refine ⟨Nat.eq_of_beq_eq_true hi, Nat.eq_of_beq_eq_true ho, len, hlen, Nat.eq_of_beq_eq_true h1, hll, ?_⟩
    intro w ok cells hr
    exact repL_rowC l' _ _ _ (by rw [hll, hb]) l2 (RepN_open hr)
   ·cases h2
  ·cases h
 ·cases h
end Go.Eng

set_option linter.unusedVariables false
set_option linter.unusedSimpArgs false
namespace Go.Eng
variable {N : Names} {P : Program} {τ : TypeId → Option TI} {β : Type}
def evMove (τ : TypeId → Option TI) (own : List (Nat × Blk N)) (ty : TypeId) (dst : Option Nat) (r : RV N) (k : KK N β) : Option β :=
 match r with
 | .nil => match τ ty with
  | some ⟨.sl e, el⟩ => match dst with
   | some d => match look own (1000 + d) with
    | none => k (.one (.own (1000 + d))) [(1000 + d, .row el e [] [] false)]
    | some _ => none
   | none => none
  | _ => k (.one .nil) []
 | r => k (.one r) []
theorem evMove_sound {σ : St N} {ty : TypeId} {dst : Option Nat} {x : Operand} {k : KK N β} {r : β} (h : evMove τ σ.own ty dst (ev σ x) k = some r) :
  ∃ s ad, k s ad = some r ∧ Does P σ (fun a => pure (a.eval x)) s ad := by
 have plain : ∀ y, ev σ x = y → k (.one y) [] = some r → ∃ s ad, k s ad = some r ∧ Does P σ (fun a => pure (a.eval x)) s ad := fun y hy hk =>
  ⟨_, _, hk, Does.pure fun io w0 E a w hr => ⟨_, rfl, by rw [← hy]; exact hr.ev x⟩⟩
 unfold evMove at h
 split at h
 ·rename_i hx
  split at h
  ·rename_i e el hτ
   split at h
   ·rename_i d
    split at h
    ·rename_i hl
     refine ⟨_, _, h, fun io w0 E a w hr => ?_⟩
     have hv : a.eval x = .slice none 0 0 := by
      have := hr.ev x
      rw [hx] at this
      exact this
     have hadd := hr.add (Ext.refl w) (V := .slice none 0 0) (b := .row el e [] [] false) hl (fun g hg => by cases hg)
      ⟨[], by rw [updE_same]; exact ⟨by simp, .inl ⟨rfl, rfl⟩⟩, rfl⟩
     refine ⟨_, w, _, rfl, hadd, ?_, ?_⟩
     ·rw [updE_same]; exact hv
     ·exact ⟨0, e, el, [], [], false, by rw [show insAll [(1000 + d, Blk.row el e [] [] false)] σ.own = ins _ _ σ.own from rfl, look_ins, if_pos rfl], rfl⟩
    ·cases h
   ·cases h
  ·exact plain _ hx h
 ·exact plain _ rfl h
theorem FieldsFit_get : ∀ (ts : List Ty) (off : Nat) (fs : List Field) (x : HL N.ρ ts) (i : Nat) (tv : TV N), FieldsFit N τ ts off fs → hlGet ts x i = some tv →
  ∃ f e, fs[i]? = some f ∧ f.offset = off + offL N ts i ∧ τ f.type = some ⟨tv.t, e⟩ ∧ N.sz tv.t ≠ 0
 | [], _, _, _, _, _, _, h => by cases h
 | t :: ts, off, [], _, _, _, hf, _ => hf.elim
 | t :: ts, off, f :: fs, x, 0, tv, hf, h => by
  simp only [hlGet, Option.some.injEq] at h
  subst h
  obtain ⟨f1, ⟨e, f2⟩, f3, _, _⟩ := hf
  exact ⟨f, e, rfl, by simp [offL, f1], f2, f3⟩
 | t :: ts, off, f :: fs, x, i + 1, tv, hf, h => by
  obtain ⟨_, _, _, _, f5⟩ := hf
  obtain ⟨f', e, h1, h2, h3, h4⟩ := FieldsFit_get ts _ fs x.2 i tv f5 (by simpa [hlGet] using h)
  exact ⟨f', e, by simpa using h1, by rw [h2]; simp [offL, Nat.add_assoc], h3, h4⟩
def hasField : List Ty → Nat → Bool
 | [], _ => false
 | _ :: _, 0 => true
 | _ :: ts, i + 1 => hasField ts i
theorem FieldsFit_has : ∀ (ts : List Ty) (off : Nat) (fs : List Field) (i : Nat), FieldsFit N τ ts off fs → hasField ts i = true →
  ∃ f e ty, fs[i]? = some f ∧ f.offset = off + offL N ts i ∧ τ f.type = some ⟨ty, e⟩ ∧ N.sz ty ≠ 0
 | [], _, _, _, _, h => by cases h
 | t :: ts, off, [], _, hf, _ => hf.elim
 | t :: ts, off, f :: fs, 0, hf, h => by
  obtain ⟨f1, ⟨e, f2⟩, f3, _, _⟩ := hf
  exact ⟨f, e, t, rfl, by simp [offL, f1], f2, f3⟩
 | t :: ts, off, f :: fs, i + 1, hf, h => by
  obtain ⟨_, _, _, _, f5⟩ := hf
  obtain ⟨f', e, ty, h1, h2, h3, h4⟩ := FieldsFit_has ts _ fs i f5 (by simpa [hasField] using h)
  exact ⟨f', e, ty, by simpa using h1, by rw [h2]; simp [offL, Nat.add_assoc], h3, h4⟩
def evFieldAddr (τ : TypeId → Option TI) (xt : TypeId) (x : RV N) (f : Nat) (k : KK N β) : Option β :=
 match τ xt with
 | some ⟨.nm m, e⟩ => bif Nat.beq e 0 then match x with
  | .sptr t v bs => match castTy N t (.nm m) v with
   | some v => match hlGet (N.body m) (N.un m v) f with
    | some tv => k (.one (.sptr tv.t tv.x bs)) []
    | none => none
   | none => none
  | .bptr id off => bif hasField (N.body m) f then k (.one (.bptr id (off + offL N (N.body m) f))) [] else none
  | .optr id i off => bif hasField (N.body m) f then k (.one (.optr id i (off + offL N (N.body m) f))) [] else none
  | _ => none
  else none
 | _ => none
theorem run_fieldAt (F : Fits P N τ) {xt : TypeId} {fs : Array Field} (u1 : P.underlying xt = some (.struct fs)) {f : Nat} {fd : Field} {ty : Ty} {e : TypeId} (g1 : fs.toList[f]? = some fd) (g3 : τ fd.type = some ⟨ty, e⟩) (g4 : N.sz ty ≠ 0) (ad : Addr) (w : World) :
  (Instr.fieldAt xt (.pointer (some ad)) f).run P w = .ok (.pointer (some (ad.add fd.offset))) w := by
 have g1' : fs[f]? = some fd := by simpa using g1
 have hs := F.sizeOf g3 w
 simp only [Instr.fieldAt, Sem.run_bind, run_underlying u1, Result.andThen_ok, g1', Instr.sureAddr, Sem.run_pure, fieldPlace, hs, g4, if_false]
theorem evFieldAddr_sound (F : Fits P N τ) {σ : St N} {xt : TypeId} {x : Operand} {f : Nat} {k : KK N β} {r : β} (h : evFieldAddr τ xt (ev σ x) f k = some r) :
  ∃ s ad, k s ad = some r ∧ Does P σ (fun a => Instr.fieldAt xt (a.eval x) f) s ad := by
 unfold evFieldAddr at h
 split at h
 ·rename_i m e hτ
  obtain ⟨he, h⟩ := bif_none h
  obtain ⟨fs, u1, u2, _⟩ := F.nm xt m e hτ
  have u1 := u1.struct (Nat.eq_of_beq_eq_true he)
  split at h
  ·rename_i t v bs hx
   split at h
   ·rename_i v' hv'
    split at h
    ·rename_i tv htv
     refine ⟨_, _, h, Does.pure fun io w0 E a w hr => ?_⟩
     have hx' := hr.ev x
     rw [hx] at hx'
     obtain ⟨ad, cs, h1, h2, h3, h4⟩ := hx'
     obtain ⟨et, rfl⟩ := castTy_some hv'
     subst et
     obtain ⟨k1, k2⟩ := hlGet_rep (N.body m) (N.un m v) f tv cs htv (RepN_open h3)
     obtain ⟨fd, e', g1, g2, g3, g4⟩ := FieldsFit_get _ 0 _ _ f tv u2 htv
     rw [Nat.zero_add] at g2
     refine ⟨_, by rw [h1]; exact run_fieldAt F u1 g1 g3 g4 ad w, ad.add fd.offset, _, rfl, by rw [addr_add_block]; exact h2, k1, fun j u hu => ?_⟩
     rw [addr_add_add, g2]
     exact h4 _ _ (take_drop_get hu)
    ·cases h
   ·cases h
  ·rename_i id off hx
   obtain ⟨hf, h⟩ := bif_none h
   refine ⟨_, _, h, Does.pure fun io w0 E a w hr => ?_⟩
   have hx' := hr.ev x
   rw [hx] at hx'
   obtain ⟨h1, g, h2, h3⟩ := hx'
   obtain ⟨fd, e', ty, g1, g2, g3, g4⟩ := FieldsFit_has _ 0 _ f u2 hf
   rw [Nat.zero_add] at g2
   exact ⟨_, by rw [h3]; exact run_fieldAt F u1 g1 g3 g4 _ w, h1, g, h2, by rw [add_lit', g2]⟩
  ·rename_i id i off hx
   obtain ⟨hf, h⟩ := bif_none h
   refine ⟨_, _, h, Does.pure fun io w0 E a w hr => ?_⟩
   have hx' := hr.ev x
   rw [hx] at hx'
   obtain ⟨g, cap, n, t, h1, h2, h3, h4⟩ := hx'
   obtain ⟨fd, e', ty, g1, g2, g3, g4⟩ := FieldsFit_has _ 0 _ f u2 hf
   rw [Nat.zero_add] at g2
   exact ⟨_, by rw [h4]; exact run_fieldAt F u1 g1 g3 g4 _ w, g, cap, n, t, h1, h2, h3, by rw [add_lit', g2, Nat.add_assoc]⟩
  ·cases h
 ·cases h
def evIndexAddr (τ : TypeId → Option TI) (own : List (Nat × Blk N)) (t : TypeId) (x i : RV N) (k : KK N β) : Option β :=
 match τ t with
 | some ⟨.sl e, _⟩ => match i with
  | .int _ n => match x with
   | .data t' l bs => match castTy N t' (.sl e) l with
    | some l => if 0 ≤ n then if n < (l.length : Int) then k (.one (.sptr e (l.getD n.toNat (N.dflt e)) bs)) [] else none else none
    | none => none
   | .own id => match look own id with
    | some (.row _ e' xs _ _) => bif decide (e' = e) then if 0 ≤ n then if n < (xs.length : Int) then k (.one (.optr id n.toNat 0)) [] else none else none else none
    | _ => none
   | _ => none
  | _ => none
 | some ⟨.nm n, e⟩ => evIdxArr own n e x i k
 | _ => none
theorem run_indexAt (F : Fits P N τ) {t e e' : TypeId} {ty : Ty} (hτ : τ t = some ⟨.sl ty, e⟩) (ad : Addr) (len cap : Nat) (kk : IntKind) (n : Int) (h0 : 0 ≤ n) (h1 : n < len) (w : World) :
  (Instr.indexAt t (.slice (some ad) len cap) (.int kk n)).run P w = .ok (.pointer (some (ad.add (n.toNat * N.sz ty)))) w := by
 obtain ⟨u1, ⟨e'', u2⟩, _⟩ := F.sl t ty e hτ
 have hs := F.sizeOf u2 w
 simp [Instr.indexAt, asIntOf, run_underlying u1, h0, h1, hs]
theorem evIndexAddr_sound (F : Fits P N τ) {σ : St N} {t : TypeId} {x i : Operand} {k : KK N β} {r : β} (h : evIndexAddr τ σ.own t (ev σ x) (ev σ i) k = some r) :
  ∃ s ad, k s ad = some r ∧ Does P σ (fun a => Instr.indexAt t (a.eval x) (a.eval i)) s ad := by
 unfold evIndexAddr at h
 split at h
 ·rename_i e el hτ
  split at h
  ·rename_i kk n hi
   have hi' : ∀ {io w0 E a w}, RelE io w0 σ E a w → a.eval i = .int kk n := fun hr => by
    have := hr.ev i
    rw [hi] at this
    exact this
   split at h
   ·rename_i t' l bs hx
    split at h
    ·rename_i l' hl'
     split at h
     ·rename_i h0
      split at h
      ·rename_i h1
       refine ⟨_, _, h, Does.pure fun io w0 E a w hr => ?_⟩
       have hx' := hr.ev x
       rw [hx] at hx'
       obtain ⟨cs, k1, k2⟩ := hx'
       obtain ⟨et, rfl⟩ := castTy_some hl'
       subst et
       obtain ⟨A, cap, c1, c2, c2', c3⟩ := k1
       have c4 : cs = [a.eval x] := k2
       rw [c1] at c4
       have c5 : a.eval x = .slice A l.length cap := (List.cons.inj c4).1.symm
       have h1 : n < (l.length : Int) := h1
       have hlt : n.toNat < l.length := by omega
       obtain ⟨ad, ccs, d1, d2, d3, d4⟩ := c3 n.toNat l[n.toNat] (List.getElem?_eq_getElem hlt)
       subst d1
       refine ⟨_, by rw [c5, hi' hr]; exact run_indexAt F (e' := 0) hτ ad l.length cap kk n h0 h1 w, ad.add (n.toNat * N.sz e), ccs, rfl, by rw [addr_add_block]; exact d2, ?_, fun j u hu => by rw [addr_add_add]; exact d4 j u hu⟩
       rw [List.getD_eq_getElem?_getD, List.getElem?_eq_getElem hlt]
       exact d3
      ·cases h
     ·cases h
    ·cases h
   ·rename_i id hx
    split at h
    ·rename_i e1 e' xs bs p hl
     obtain ⟨he, h2⟩ := bif_none h
     clear h
     have h := h2
     clear h2
     have he : e' = e := by simpa using he
     subst he
     split at h
     ·rename_i h0
      split at h
      ·rename_i h1
       refine ⟨_, _, h, Does.pure fun io w0 E a w hr => ?_⟩
       have hx' := hr.ev x
       rw [hx] at hx'
       obtain ⟨k1, k2⟩ := hx'
       obtain ⟨cells, g1, g2⟩ := hr.own id _ hl
       rcases g1.2 with ⟨hv, hn⟩ | ⟨g, cap, cur, _, _, hv, _⟩
       ·omega
       ·refine ⟨_, by rw [k1, hv, hi' hr]; exact run_indexAt F (e' := 0) hτ _ xs.length cap kk n h0 h1 w, g, cap, xs.length, e', ⟨e1, xs, bs, p, hl, rfl⟩, by omega, hv, ?_⟩
        rw [add_lit', Nat.zero_add, Nat.add_zero]
      ·cases h
     ·cases h
    ·cases h
   ·cases h
  ·cases h
 ·rename_i n e hτ
  exact evIdxArr_sound F hτ h
 ·cases h
def evIndex (τ : TypeId → Option TI) (t : TypeId) (x i : RV N) (k : KK N β) : Option β :=
 match τ t with
 | some ⟨.str, _⟩ => match i with
  | .int _ n => match x with
   | .str l => if 0 ≤ n then if n < (l.length : Int) then k (.one (.int .u8 (l.getD n.toNat 0))) [] else none else none
   | _ => none
  | _ => none
 | _ => none
theorem evIndex_sound (F : Fits P N τ) {σ : St N} {t : TypeId} {x i : Operand} {k : KK N β} {r : β} (h : evIndex τ t (ev σ x) (ev σ i) k = some r) :
  ∃ s ad, k s ad = some r ∧ Does P σ (fun a => Instr.index t (a.eval x) (a.eval i)) s ad := by
 unfold evIndex at h
 split at h
 ·rename_i el hτ
  split at h
  ·rename_i kk n hi
   split at h
   ·rename_i l hx
    split at h
    ·rename_i h0
     split at h
     ·rename_i h1
      refine ⟨_, _, h, Does.pure fun io w0 E a w hr => ?_⟩
      have hx' := hr.ev x
      have hi' := hr.ev i
      rw [hx] at hx'
      rw [hi] at hi'
      obtain ⟨s, k1, k2⟩ := hx'
      subst k2
      rw [bytesL_length] at h1
      refine ⟨.int .u8 ((s[n.toNat]'(by omega)).toNat), ?_, ?_⟩
      ·rw [k1, show a.eval i = _ from hi', run_index_string w t s kk n (F.str t el hτ).1, dif_pos ⟨h0, h1⟩]
      ·show _ = _
       congr 1
       have hlt : n.toNat < (bytesL s).length := by rw [bytesL_length]; omega
       rw [List.getD_eq_getElem?_getD, List.getElem?_eq_getElem hlt]
       simp only [bytesL, List.getElem_map, Option.getD_some]
       rfl
     ·cases h
    ·cases h
   ·cases h
  ·cases h
 ·cases h
end Go.Eng
