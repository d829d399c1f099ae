/- The engine, part I: operations on numbers, bools, strings. -/
import Derived.Test.YtgfklnmckakclaaGreatDoorEngH
set_option linter.unusedVariables false
set_option linter.unusedSimpArgs false
namespace Go.Eng
variable {N : Names}

theorem bytesL_inj {a b : ByteArray} (h : bytesL a = bytesL b) : a = b := by
  have hm : a.data.toList = b.data.toList := by
    unfold bytesL at h
    have inj : ∀ (l m : List UInt8), (l.map fun b => (b.toNat : Int)) = (m.map fun b => (b.toNat : Int)) → l = m := by
      intro l
      induction l with
      | nil => intro m h; cases m <;> simp_all
      | cons x l ih =>
        intro m h
        cases m with
        | nil => simp at h
        | cons y m =>
          simp only [List.map_cons, List.cons.injEq] at h
          rw [ih m h.2, UInt8.toNat_inj.1 (show x.toNat = y.toNat by omega)]
    exact inj _ _ h
  cases a; cases b
  simp only [ByteArray.mk.injEq]
  exact Array.ext' hm

/-- The order of strings. -/
def strLt : List Int → List Int → Bool
  | _, [] => false
  | [], _ :: _ => true
  | a :: x, b :: y => decide (a < b) || (decide (a = b) && strLt x y)

theorem bytesLess_strLt : ∀ (l m : List UInt8), Op.bytesLess l m = strLt (l.map fun b => (b.toNat : Int)) (m.map fun b => (b.toNat : Int))
  | l, [] => by cases l <;> rfl
  | [], _ :: _ => rfl
  | a :: x, b :: y => by
    simp only [Op.bytesLess, List.map_cons, strLt, bytesLess_strLt x y]
    congr 1
    · rw [decide_eq_decide, UInt8.lt_iff_toNat_lt]; omega
    · congr 1
      rw [Bool.eq_iff_iff]
      simp only [beq_iff_eq, decide_eq_true_eq]
      rw [← UInt8.toNat_inj]
      omega

theorem strLt_total : ∀ (a b : List Int), (strLt a b || decide (a = b)) = !strLt b a
  | [], [] => by simp [strLt]
  | [], _ :: _ => by simp [strLt]
  | _ :: _, [] => by simp [strLt]
  | x :: a, y :: b => by
    have ih := strLt_total a b
    rw [Bool.eq_iff_iff] at ih ⊢
    simp only [strLt, Bool.or_eq_true, Bool.and_eq_true, decide_eq_true_eq, List.cons.injEq, Bool.not_eq_true', Bool.or_eq_false_iff, Bool.and_eq_false_iff, decide_eq_false_iff_not] at ih ⊢
    constructor
    · rintro ((h | ⟨h1, h2⟩) | ⟨h1, h2⟩)
      · exact ⟨by omega, .inl (by omega)⟩
      · exact ⟨by omega, .inr (ih.1 (.inl h2))⟩
      · exact ⟨by omega, .inr (ih.1 (.inr h2))⟩
    · rintro ⟨h1, h2⟩
      by_cases hxy : x < y
      · exact .inl (.inl hxy)
      · have hx : x = y := by omega
        rcases h2 with h2 | h2
        · exact absurd hx.symm h2
        · rcases ih.2 h2 with h3 | h3
          · exact .inl (.inr ⟨hx, h3⟩)
          · exact .inr ⟨hx, h3⟩

def lim : Nat := 4294967296

section
variable {β : Type}

def evInt (op : BinOp) (kx : IntKind) (a b : Int) (k : RV N → Option β) : Option β :=
  match op with
  | .add => k (.int kx (kx.wrap (a + b)))
  | .sub => k (.int kx (kx.wrap (a - b)))
  | .mul => k (.int kx (kx.wrap (a * b)))
  | .quo => if b = 0 then none else k (.int kx (kx.wrap (a.tdiv b)))
  | .rem => if b = 0 then none else k (.int kx (a.tmod b))
  | .and => k (.int kx (Go.bits .and kx a b))
  | .or => k (.int kx (Go.bits .or kx a b))
  | .xor => k (.int kx (Go.bits .xor kx a b))
  | .andNot => k (.int kx (Go.bits .andNot kx a b))
  | .eql => k (.bool (decide (a = b)))
  | .neq => k (.bool (!decide (a = b)))
  | .lss => k (.bool (decide (a < b)))
  | .leq => k (.bool (decide (a ≤ b)))
  | .gtr => k (.bool (decide (b < a)))
  | .geq => k (.bool (decide (b ≤ a)))
  | _ => none

def evShift (op : BinOp) (kx : IntKind) (a b : Int) (k : RV N → Option β) : Option β :=
  match op with
  | .shl => if 0 ≤ b then k (.int kx (kx.wrap (a * 2 ^ (min b.toNat kx.bits)))) else none
  | .shr => if 0 ≤ b then k (.int kx (a / 2 ^ (min b.toNat kx.bits))) else none
  | _ => none

def evStr (op : BinOp) (a b : List Int) (k : RV N → Option β) : Option β :=
  match op with
  | .add => if a.length + b.length ≤ lim then k (.str (a ++ b)) else none
  | .eql => k (.bool (decide (a = b)))
  | .neq => k (.bool (!decide (a = b)))
  | .lss => k (.bool (strLt a b))
  | .leq => k (.bool (!strLt b a))
  | .gtr => k (.bool (strLt b a))
  | .geq => k (.bool (!strLt a b))
  | _ => none

/-- Equality of comparable values. -/
def eqL (g : (t : Ty) → t.den N.ρ → t.den N.ρ → Option Bool) : (ts : List Ty) → HL N.ρ ts → HL N.ρ ts → Option Bool
  | [], _, _ => some true
  | t :: ts, x, y => match g t x.1 y.1, eqL g ts x.2 y.2 with
    | some b, some c => some (b && c)
    | _, _ => none

def eqD : Nat → (t : Ty) → t.den N.ρ → t.den N.ρ → Option Bool
  | _, .int _, a, b => some (decide (a = b))
  | _, .bool, a, b => some (decide (a = b))
  | _, .str, a, b => some (decide (a = b))
  | _, .sl _, _, _ => none
  | _, .opq, _, _ => none
  | 0, .nm _, _, _ => none
  | f + 1, .nm n, a, b => eqL (eqD f) (N.body n) (N.un n a) (N.un n b)

def evBin (τ : TypeId → Option TI) (op : BinOp) (xt : TypeId) (x y : RV N) (k : RV N → Option β) : Option β :=
  match x with
  | .int kx a => match y with
    | .int ky b => match op with
      | .shl => evShift .shl kx a b k
      | .shr => evShift .shr kx a b k
      | op => bif decide (kx = ky) then evInt op kx a b k else none
    | _ => none
  | .str a => match y with
    | .str b => evStr op a b k
    | _ => none
  | .bool a => match y with
    | .bool b => match τ xt with
      | some ⟨.bool, _⟩ => match op with
        | .eql => k (.bool (decide (a = b)))
        | .neq => k (.bool (!decide (a = b)))
        | _ => none
      | _ => none
    | _ => none
  | .data (.nm n) a _ => match y with
    | .data t' b _ => match τ xt with
      | some ⟨.nm m, _⟩ => match castTy N (.nm n) (.nm m) a, castTy N t' (.nm m) b with
        | some a, some b => match eqD 4 (.nm m) a b with
          | some r => match op with
            | .eql => k (.bool r)
            | .neq => k (.bool (!r))
            | _ => none
          | none => none
        | _, _ => none
      | _ => none
    | _ => none
  | _ => none

def evUn (op : UnOp) (x : RV N) (k : RV N → Option β) : Option β :=
  match op, x with
  | .neg, .int kx n => k (.int kx (kx.wrap (0 - n)))
  | .xor, .int kx n => k (.int kx (Go.bits .xor kx (if kx.signed then -1 else kx.max) n))
  | .not, .bool b => k (.bool (!b))
  | _, _ => none

theorem evInt_sound {op : BinOp} {kx : IntKind} {p q : Int} {k : RV N → Option β} {r : β} (hs : op ≠ .shl) (hs2 : op ≠ .shr) (h : evInt op kx p q k = some r) :
    ∃ z, k z = some r ∧ ∃ v, (∀ (P : Program) (t : TypeId) (w : World), (binOp op t (.int kx p) (.int kx q)).run P w = .ok v w) ∧ ∀ w (own : List (Nat × Blk N)) E, RVRel w own E z v := by
  cases op with
  | shl => exact absurd rfl hs
  | shr => exact absurd rfl hs2
  | add => exact ⟨_, h, _, fun P t w => by rw [binOp_add]; rfl, fun _ _ _ => rfl⟩
  | sub => exact ⟨_, h, _, fun P t w => by rw [binOp_sub]; rfl, fun _ _ _ => rfl⟩
  | mul => exact ⟨_, h, _, fun P t w => by rw [binOp_mul]; rfl, fun _ _ _ => rfl⟩
  | quo =>
    simp only [evInt] at h
    split at h
    · cases h
    · rename_i h0
      exact ⟨_, h, _, fun P t w => by rw [binOp_quo]; simp only [Op.intDiv, if_neg h0]; rfl, fun _ _ _ => rfl⟩
  | rem =>
    simp only [evInt] at h
    split at h
    · cases h
    · rename_i h0
      exact ⟨_, h, _, fun P t w => by rw [binOp_rem]; simp only [Op.intDiv, if_neg h0]; rfl, fun _ _ _ => rfl⟩
  | and => exact ⟨_, h, _, fun P t w => by rw [binOp_and]; rfl, fun _ _ _ => rfl⟩
  | or => exact ⟨_, h, _, fun P t w => by rw [binOp_or]; rfl, fun _ _ _ => rfl⟩
  | xor => exact ⟨_, h, _, fun P t w => by rw [binOp_xor]; rfl, fun _ _ _ => rfl⟩
  | andNot => exact ⟨_, h, _, fun P t w => by rw [binOp_andNot]; rfl, fun _ _ _ => rfl⟩
  | eql => exact ⟨_, h, _, fun P t w => by rw [binOp_eql]; rfl, fun _ _ _ => rfl⟩
  | neq => exact ⟨_, h, _, fun P t w => by rw [binOp_neq]; rfl, fun _ _ _ => rfl⟩
  | lss => exact ⟨_, h, _, fun P t w => by rw [binOp_lss]; rfl, fun _ _ _ => rfl⟩
  | leq => exact ⟨_, h, _, fun P t w => by rw [binOp_leq]; rfl, fun _ _ _ => rfl⟩
  | gtr => exact ⟨_, h, _, fun P t w => by rw [binOp_gtr]; rfl, fun _ _ _ => rfl⟩
  | geq => exact ⟨_, h, _, fun P t w => by rw [binOp_geq]; rfl, fun _ _ _ => rfl⟩

theorem fdiv_pow (x : Int) (n : Nat) : x.fdiv (2 ^ n) = x / 2 ^ n := by
  rw [Int.fdiv_eq_ediv_of_nonneg]
  exact Int.le_of_lt (Int.pow_pos (by decide))

theorem evShift_sound {op : BinOp} {kx ky : IntKind} {p q : Int} {k : RV N → Option β} {r : β} (h : evShift op kx p q k = some r) :
    ∃ z, k z = some r ∧ ∃ v, (∀ (P : Program) (t : TypeId) (w : World), (binOp op t (.int kx p) (.int ky q)).run P w = .ok v w) ∧ ∀ w (own : List (Nat × Blk N)) E, RVRel w own E z v := by
  cases op <;> try (cases h; done)
  case shl =>
    simp only [evShift] at h
    split at h
    · rename_i h0
      exact ⟨_, h, _, fun P t w => by rw [binOp_shl]; simp only [Op.shift, if_neg (show ¬ q < 0 by omega)]; rfl, fun _ _ _ => rfl⟩
    · cases h
  case shr =>
    simp only [evShift] at h
    split at h
    · rename_i h0
      refine ⟨_, h, .int kx (p / 2 ^ (min q.toNat kx.bits)), fun P t w => ?_, fun _ _ _ => rfl⟩
      rw [binOp_shr]
      simp only [Op.shift, if_neg (show ¬ q < 0 by omega)]
      rw [← fdiv_pow]
      rfl
    · cases h

theorem bytesL_append (a b : ByteArray) : bytesL (a ++ b) = bytesL a ++ bytesL b := by
  simp [bytesL, ByteArray.data_append]
theorem bytesL_length (a : ByteArray) : (bytesL a).length = a.size := by
  simp only [bytesL, List.length_map, Array.length_toList]
  rfl
theorem bytesL_eq (a b : ByteArray) : (a.toList == b.toList) = decide (bytesL a = bytesL b) := by
  rw [Bool.eq_iff_iff, beq_iff_eq, decide_eq_true_eq, ByteArray.toList_eq, ByteArray.toList_eq]
  constructor
  · intro h; simp [bytesL, h]
  · intro h; rw [bytesL_inj h]
theorem bytesL_less (a b : ByteArray) : Op.bytesLess a.toList b.toList = strLt (bytesL a) (bytesL b) := by
  rw [ByteArray.toList_eq, ByteArray.toList_eq, bytesLess_strLt]; rfl

theorem evStr_sound {op : BinOp} {s u : ByteArray} {k : RV N → Option β} {r : β} (h : evStr op (bytesL s) (bytesL u) k = some r) :
    ∃ z, k z = some r ∧ ∃ v, (∀ (P : Program) (t : TypeId) (w : World), (binOp op t (.string s) (.string u)).run P w = .ok v w) ∧ ∀ w (own : List (Nat × Blk N)) E, RVRel w own E z v := by
  cases op <;> try (cases h; done)
  case add =>
    simp only [evStr] at h
    split at h
    · rename_i h0
      rw [bytesL_length, bytesL_length] at h0
      refine ⟨_, h, .string (s ++ u), fun P t w => ?_, fun _ _ _ => ⟨_, rfl, bytesL_append s u⟩⟩
      rw [binOp_string_add]
      simp only [Op.stringOp]
      rw [if_neg (by rw [IntKind.max_i64]; unfold lim at h0; omega)]
      rfl
    · cases h
  case eql => exact ⟨_, h, _, fun P t w => by rw [binOp_string_eql, bytesL_eq]; rfl, fun _ _ _ => rfl⟩
  case neq => exact ⟨_, h, _, fun P t w => by rw [binOp_string_neq, bytesL_eq]; rfl, fun _ _ _ => rfl⟩
  case lss => exact ⟨_, h, _, fun P t w => by rw [binOp_string_lss, bytesL_less]; rfl, fun _ _ _ => rfl⟩
  case leq => exact ⟨_, h, _, fun P t w => by simp only [binOp, Op.stringOp]; rw [bytesL_less, bytesL_eq, strLt_total]; rfl, fun _ _ _ => rfl⟩
  case gtr => exact ⟨_, h, _, fun P t w => by simp only [binOp, Op.stringOp]; rw [bytesL_less, bytesL_eq, strLt_total, Bool.not_not]; rfl, fun _ _ _ => rfl⟩
  case geq => exact ⟨_, h, _, fun P t w => by simp only [binOp, Op.stringOp]; rw [bytesL_less]; rfl, fun _ _ _ => rfl⟩

theorem evUn_sound {op : UnOp} {x : RV N} {k : RV N → Option β} {r : β} (h : evUn op x k = some r) :
    ∃ z, k z = some r ∧ ∀ (P : Program) w own E vx, RVRel w own E x vx → ∃ v, (Op.unary op vx).run P w = .ok v w ∧ ∀ w own E, RVRel (N := N) w own E z v := by
  unfold evUn at h
  split at h
  · exact ⟨_, h, fun P w own E vx hx => ⟨_, by rw [show vx = _ from hx]; rfl, fun _ _ _ => rfl⟩⟩
  · exact ⟨_, h, fun P w own E vx hx => ⟨_, by rw [show vx = _ from hx]; rfl, fun _ _ _ => rfl⟩⟩
  · exact ⟨_, h, fun P w own E vx hx => ⟨_, by rw [show vx = _ from hx]; rfl, fun _ _ _ => rfl⟩⟩
  · cases h
end
end Go.Eng
