/- The engine, part U: a call, as its caller sees it. -/
import Derived.Test.YtgfklnmckakclaaGreatDoorEngT
set_option linter.unusedVariables false
set_option linter.unusedSimpArgs false
namespace Go.Eng
variable {N : Names} {io : Io} {w0 w w' : World} {σ : St N} {E : Env} {a : Act} {P : Program}

theorem ownAt_more {own : List (Nat × Blk N)} {bs bs' : List Nat} (hs : ∀ i ∈ bs, i ∈ bs') {el : TypeId} {e : Ty} {xs : List (e.den N.ρ)} {v : Value} (h : OwnAt w (okb w.heap.size own E bs) el e xs v) : OwnAt w (okb w.heap.size own E bs') el e xs v := by
  obtain ⟨cells, h1, h2⟩ := h
  exact ⟨cells, h1, RowC_mono (fun x cs hx => Rep_more hs hx) h2⟩

theorem RelE.ownAt (h : RelE io w0 σ E a w) {id : Nat} {el : TypeId} {e : Ty} {xs : List (e.den N.ρ)} {bs : List Nat} {p : Bool} (hl : look σ.own id = some (.row el e xs bs p)) : OwnAt w (okb w.heap.size σ.own E bs) el e xs (E id) := h.own id _ hl

theorem oneBlk_box {v : Value} {g : Nat} {T : TypeId} {arr : Array Value} (h : BoxAt w v g T arr) : oneBlk v = [g] := by
  rw [h.1]; rfl

theorem cellsIn_rel (h : RelE io w0 σ E a w) {B0 : List Nat} : ∀ (l : List CK) (rs : List (RV N)) (us : List Value) (x : HC N.ρ l) (B J : List Nat), cellsIn σ.own l rs = some (x, B, J) → us.length = rs.length →
    (∀ (i : Nat) r u, rs[i]? = some r → us[i]? = some u → RVRel w σ.own E r u) → (∀ i ∈ B, i ∈ B0) →
    HCRel w (okb w.heap.size σ.own E B0) l x us ∧ HCBlk l us = J.flatMap (fun j => oneBlk (E j)) ∧ ∀ j ∈ J, ∃ b, look σ.own j = some b ∧ b.pinned = false
  | [], [], us, x, B, J, hc, hl, hr, hB => by
    cases hc
    have : us = [] := List.eq_nil_of_length_eq_zero hl
    subst this
    exact ⟨rfl, rfl, (fun j hj => by cases hj)⟩
  | [], _ :: _, us, x, B, J, hc, hl, hr, hB => by cases hc
  | .c t :: l, [], us, x, B, J, hc, hl, hr, hB => by cases hc
  | .o el e :: l, [], us, x, B, J, hc, hl, hr, hB => by cases hc
  | .c t :: l, r :: rs, us, x, B, J, hc, hl, hr, hB => by
    simp only [cellsIn] at hc
    cases hn : isNm t with
    | true => rw [hn] at hc; cases hc
    | false =>
      rw [hn] at hc
      simp only [cond_false] at hc
      split at hc
      · rename_i x1 b1 y B1 J1 h1 h2
        cases hc
        match us, hl with
        | u :: us, hl =>
          have hru := hr 0 r u rfl rfl
          obtain ⟨cs, k1, k2⟩ := h.toDen h1 hru
          have hcs := AsV_ty k1 (fun n hn' => by subst hn'; cases hn) k2
          subst hcs
          obtain ⟨q1, q2, q3⟩ := cellsIn_rel h l rs us y B1 J h2 (by simpa using hl) (fun i r u hi hu => hr (i + 1) r u (by simpa using hi) (by simpa using hu)) (fun i hi => hB i (List.mem_append.2 (.inr hi)))
          exact ⟨⟨u, us, rfl, Rep_more (fun i hi => hB i (List.mem_append.2 (.inl hi))) k1, q1⟩, by simpa [HCBlk, CKBlk] using q2, q3⟩
      · cases hc
  | .o el e :: l, r :: rs, us, x, B, J, hc, hl, hr, hB => by
    simp only [cellsIn] at hc
    split at hc
    · rename_i j
      split at hc
      · rename_i el' e' xs bs hlk
        obtain ⟨hel, hc⟩ := bif_none hc
        have hel : el' = el := by simpa using hel
        subst hel
        split at hc
        · rename_i xs' y B1 J1 h1 h2
          cases hc
          obtain ⟨et, rfl⟩ := castTy_some h1
          cases et
          match us, hl with
          | u :: us, hl =>
            have hru := hr 0 _ u rfl rfl
            obtain ⟨q1, q2, q3⟩ := cellsIn_rel h l rs us y B1 J1 h2 (by simpa using hl) (fun i r u hi hu => hr (i + 1) r u (by simpa using hi) (by simpa using hu)) (fun i hi => hB i (List.mem_append.2 (.inr hi)))
            have hu : u = E j := hru.1
            refine ⟨⟨u, us, rfl, ?_, q1⟩, ?_, fun k hk => ?_⟩
            · rw [hu]
              exact ownAt_more (fun i hi => hB i (List.mem_append.2 (.inl hi))) (h.ownAt hlk)
            · simp only [HCBlk, CKBlk, List.flatMap_cons, hu, q2]
            · rcases List.mem_cons.1 hk with rfl | hk
              · exact ⟨_, hlk, rfl⟩
              · exact q3 k hk
        · cases hc
      · cases hc
    · cases hc

theorem self_rel {id : Nat} {f : FuncId} {own : List (Nat × Blk N)} {v u : Value} (hl : ∃ l, look own id = some (.cells l)) (hE : E id = v) {g : Nat} (hv : v = .pointer (some ⟨g, 0, none⟩)) (hu : u = .func (.func f) #[] #[v]) : RVRel w own E (.fn f [id]) u := by
  subst hE
  exact ⟨by rw [hu]; rfl, fun k hk => by
    rw [List.mem_singleton] at hk
    subst hk
    exact ⟨.inr (.inl hl), g, hv⟩⟩

theorem callIn_rel {ι : Type} {ρ : ι → RV N} {val : ι → Value} (h : RelE io w0 σ E a w) {B0 : List Nat} : ∀ (ps : List PK) (os : List ι) (hρ : ∀ o ∈ os, RVRel w σ.own E (ρ o) (val o)) (x : HIn N.ρ ps) (B D U : List Nat), callIn σ.own ρ ps os = some (x, B, D, U) → (∀ i ∈ B, i ∈ B0) →
    InRel w (okb w.heap.size σ.own E B0) ps x (os.map val) (D.flatMap fun id => oneBlk (E id)) ∧ (∀ id ∈ D, ∃ b, look σ.own id = some b) ∧ (∀ id ∈ U, id ∈ D ∧ ∀ b, look σ.own id = some b → b.pinned = false)
  | [], [], hρ, x, B, D, U, hc, hB => by
    cases hc
    exact ⟨⟨rfl, rfl⟩, (fun id hi => by cases hi), (fun id hi => by cases hi)⟩
  | [], _ :: _, hρ, x, B, D, U, hc, hB => by cases hc
  | .v t :: ps, [], hρ, x, B, D, U, hc, hB => by cases hc
  | .io el e :: ps, [], hρ, x, B, D, U, hc, hB => by cases hc
  | .bw t :: ps, [], hρ, x, B, D, U, hc, hB => by cases hc
  | .bc l :: ps, [], hρ, x, B, D, U, hc, hB => by cases hc
  | .fv f :: ps, [], hρ, x, B, D, U, hc, hB => by cases hc
  | .fb f :: ps, [], hρ, x, B, D, U, hc, hB => by cases hc
  | .fv f :: ps, o :: os, hρ, x, B, D, U, hc, hB => by
    simp only [callIn] at hc
    obtain ⟨hf, hc⟩ := bif_none hc
    split at hc
    · rename_i y B1 D1 U1 h2
      cases hc
      have hev := hρ o List.mem_cons_self
      rw [plainFn_spec hf] at hev
      obtain ⟨q1, q2, q3⟩ := callIn_rel h ps os (fun o ho => hρ o (List.mem_cons_of_mem _ ho)) y B D U h2 hB
      exact ⟨⟨val o, os.map val, [], _, rfl, rfl, ⟨hev.1, rfl⟩, q1⟩, q2, q3⟩
    · cases hc
  | .fb f :: ps, o :: os, hρ, x, B, D, U, hc, hB => by
    simp only [callIn] at hc
    split at hc
    · rename_i id hid
      split at hc
      · rename_i rs hlk
        obtain ⟨hf, hc⟩ := bif_none hc
        rw [selfIs_spec hf] at hlk
        split at hc
        · rename_i y B1 D1 U1 h2
          cases hc
          have hev := hρ o List.mem_cons_self
          rw [hid] at hev
          obtain ⟨_, g, e1, e2⟩ := hev
          obtain ⟨g', T, arr, c1, c2, c3, c4⟩ := h.own id _ hlk
          rw [e1] at c1
          cases c1
          obtain ⟨q1, q2, q3⟩ := callIn_rel h ps os (fun o ho => hρ o (List.mem_cons_of_mem _ ho)) y B D1 U h2 hB
          refine ⟨⟨val o, os.map val, [g], _, rfl, ?_, ⟨g, T, arr, ⟨e2, c2⟩, ?_, rfl⟩, q1⟩, fun k hk => ?_, fun k hk => ⟨List.mem_cons_of_mem _ (q3 k hk).1, (q3 k hk).2⟩⟩
          · rw [List.flatMap_cons, e1]; rfl
          · obtain ⟨l⟩ := arr
            match l, c3 with
            | [u], _ =>
              have := (c4 0 _ u rfl (by simp)).1
              rw [this, e2, ← e1]
              rfl
          · rcases List.mem_cons.1 hk with rfl | hk
            · exact ⟨_, hlk⟩
            · exact q2 k hk
        · cases hc
      · cases hc
    · cases hc
  | .v t :: ps, o :: os, hρ, x, B, D, U, hc, hB => by
    simp only [callIn] at hc
    split at hc
    · rename_i x1 b1 y B1 D1 U1 h1 h2
      cases hc
      obtain ⟨cs, k1, k2⟩ := h.toDen h1 (hρ o List.mem_cons_self)
      obtain ⟨q1, q2, q3⟩ := callIn_rel h ps os (fun o ho => hρ o (List.mem_cons_of_mem _ ho)) y B1 D U h2 (fun i hi => hB i (List.mem_append.2 (.inr hi)))
      exact ⟨⟨val o, os.map val, [], _, rfl, rfl, ⟨⟨cs, Rep_more (fun i hi => hB i (List.mem_append.2 (.inl hi))) k1, k2⟩, rfl⟩, q1⟩, q2, q3⟩
    · cases hc
  | .io el e :: ps, o :: os, hρ, x, B, D, U, hc, hB => by
    simp only [callIn] at hc
    split at hc
    · rename_i id hid
      split at hc
      · rename_i el' e' xs bs p hlk
        obtain ⟨hel, hc⟩ := bif_none hc
        have hel : el' = el := by simpa using hel
        subst hel
        split at hc
        · rename_i xs' y B1 D1 U1 h1 h2
          cases hc
          obtain ⟨et, rfl⟩ := castTy_some h1
          cases et
          have hev := hρ o List.mem_cons_self
          rw [hid] at hev
          obtain ⟨q1, q2, q3⟩ := callIn_rel h ps os (fun o ho => hρ o (List.mem_cons_of_mem _ ho)) y B1 D1 U h2 (fun i hi => hB i (List.mem_append.2 (.inr hi)))
          refine ⟨⟨val o, os.map val, oneBlk (E id), _, rfl, rfl, ⟨?_, by rw [hev.1]⟩, q1⟩, fun k hk => ?_, fun k hk => ⟨List.mem_cons_of_mem _ (q3 k hk).1, (q3 k hk).2⟩⟩
          · rw [hev.1]
            exact ownAt_more (fun i hi => hB i (List.mem_append.2 (.inl hi))) (h.ownAt hlk)
          · rcases List.mem_cons.1 hk with rfl | hk
            · exact ⟨_, hlk⟩
            · exact q2 k hk
        · cases hc
      · cases hc
    · cases hc
  | .bw t :: ps, o :: os, hρ, x, B, D, U, hc, hB => by
    simp only [callIn] at hc
    split at hc
    · rename_i id hid
      split at hc
      · rename_i t' xv bs hlk
        split at hc
        · rename_i x1 y B1 D1 U1 h1 h2
          cases hc
          obtain ⟨et, rfl⟩ := castTy_some h1
          subst et
          have hev := hρ o List.mem_cons_self
          rw [hid] at hev
          obtain ⟨_, g, e1, e2⟩ := hev
          obtain ⟨g', T, arr, c1, c2, c3⟩ := h.own id _ hlk
          rw [e1] at c1
          cases c1
          obtain ⟨q1, q2, q3⟩ := callIn_rel h ps os (fun o ho => hρ o (List.mem_cons_of_mem _ ho)) y B1 D1 U h2 (fun i hi => hB i (List.mem_append.2 (.inr hi)))
          refine ⟨⟨val o, os.map val, [g], _, rfl, ?_, ⟨g, T, arr, ⟨e2, c2⟩, Rep_more (fun i hi => hB i (List.mem_append.2 (.inl hi))) c3, rfl⟩, q1⟩, fun k hk => ?_, fun k hk => ⟨List.mem_cons_of_mem _ (q3 k hk).1, (q3 k hk).2⟩⟩
          · rw [List.flatMap_cons, e1]; rfl
          · rcases List.mem_cons.1 hk with rfl | hk
            · exact ⟨_, hlk⟩
            · exact q2 k hk
        · cases hc
      · cases hc
    · cases hc
  | .bc l :: ps, o :: os, hρ, x, B, D, U, hc, hB => by
    simp only [callIn] at hc
    split at hc
    · rename_i id hid
      split at hc
      · rename_i rs hlk
        split at hc
        · rename_i x1 b1 J1 y B1 D1 U1 h1 h2
          cases hc
          have hev := hρ o List.mem_cons_self
          rw [hid] at hev
          obtain ⟨_, g, e1, e2⟩ := hev
          obtain ⟨g', T, arr, c1, c2, c3, c4⟩ := h.own id _ hlk
          rw [e1] at c1
          cases c1
          obtain ⟨p1, p2, p3⟩ := cellsIn_rel h (B0 := B0) l rs arr.toList x1 b1 J1 h1 (by simpa using c3) (fun i r u hi hu => c4 i r u hi (by simpa using hu)) (fun i hi => hB i (List.mem_append.2 (.inl hi)))
          obtain ⟨q1, q2, q3⟩ := callIn_rel h ps os (fun o ho => hρ o (List.mem_cons_of_mem _ ho)) y B1 D1 U1 h2 (fun i hi => hB i (List.mem_append.2 (.inr hi)))
          refine ⟨⟨val o, os.map val, g :: HCBlk l arr.toList, _, rfl, ?_, ⟨g, T, arr, ⟨e2, c2⟩, p1, rfl⟩, q1⟩, fun k hk => ?_, fun k hk => ?_⟩
          · rw [List.flatMap_cons, List.flatMap_append, e1, p2]
            simp [oneBlk, blkOf]
          · rcases List.mem_cons.1 hk with rfl | hk
            · exact ⟨_, hlk⟩
            · rcases List.mem_append.1 hk with hk | hk
              · obtain ⟨b, hb, _⟩ := p3 k hk
                exact ⟨b, hb⟩
              · exact q2 k hk
          · rcases List.mem_append.1 hk with hk | hk
            · refine ⟨List.mem_cons_of_mem _ (List.mem_append.2 (.inl hk)), fun b hb => ?_⟩
              obtain ⟨b', hb', hp⟩ := p3 k hk
              rw [hb] at hb'
              cases hb'
              exact hp
            · exact ⟨List.mem_cons_of_mem _ (List.mem_append.2 (.inr (q3 k hk).1)), (q3 k hk).2⟩
        · cases hc
      · cases hc
    · cases hc

/-! Behind the call. -/
abbrev Ent (N : Names) := Nat × Blk N × Value
def Ent.two (e : Ent N) : Nat × Blk N := (e.1, e.2.1)

/-- The entries stand in the new list of blocks. -/
def Stand (l : List (Ent N)) (own' : List (Nat × Blk N)) (E' : Env) : Prop := ∀ e ∈ l, look own' e.1 = some e.2.1 ∧ E' e.1 = e.2.2
def EntRel (w' : World) (okA : Nat → Prop) (B : List Nat) (l : List (Ent N)) : Prop :=
  ∀ own' E', Stand l own' E' → (∀ g, okA g → okb w'.heap.size own' E' B g) → ∀ e ∈ l, BlkRel w' own' E' e.1 e.2.1

theorem ownAt_blk {okA : Nat → Prop} {B : List Nat} {own' : List (Nat × Blk N)} {E' : Env} {id : Nat} {el : TypeId} {e : Ty} {xs : List (e.den N.ρ)} {v : Value} {p : Bool} (h : OwnAt w' okA el e xs v) (hE : E' id = v) (hok : ∀ g, okA g → okb w'.heap.size own' E' B g) :
    BlkRel w' own' E' id (.row el e xs B p) := by
  obtain ⟨cells, h1, h2⟩ := h
  exact ⟨cells, by rw [hE]; exact h1, RowC_mono (fun x cs hx => Rep_mono (fun _ _ _ h => h) hok hx) h2⟩

theorem cellsNew_rel {okA : Nat → Prop} {B : List Nat} {own : List (Nat × Blk N)} : ∀ (l : List CK) (rs : List (RV N)) (x0 : HC N.ρ l) (B0 J : List Nat) (y : HC N.ρ l) (us : List Value), cellsIn own l rs = some (x0, B0, J) → HCRel w' okA l y us →
    ∃ L : List (Ent N), L.map Ent.two = cellsNew B l rs y ∧ L.map (·.1) = J ∧ HCBlk l us = L.flatMap (fun e => oneBlk e.2.2) ∧ EntRel w' okA B L ∧ us.length = (cellsVal B l rs y).length ∧
      ∀ own' E', Stand L own' E' → (∀ g, okA g → okb w'.heap.size own' E' B g) → ∀ (i : Nat) r u, (cellsVal B l rs y)[i]? = some r → us[i]? = some u → RVRel w' own' E' r u
  | [], [], x0, B0, J, y, us, hc, hr => by
    cases hc
    rw [show us = [] from hr]
    exact ⟨[], rfl, rfl, rfl, (fun _ _ _ _ e he => by cases he), rfl, fun _ _ _ _ i r u hi _ => by simp [cellsVal] at hi⟩
  | [], _ :: _, x0, B0, J, y, us, hc, hr => by cases hc
  | .c t :: l, [], x0, B0, J, y, us, hc, hr => by cases hc
  | .o el e :: l, [], x0, B0, J, y, us, hc, hr => by cases hc
  | .c t :: l, r :: rs, x0, B0, J, y, us, hc, hr => by
    simp only [cellsIn] at hc
    cases hn : isNm t with
    | true => rw [hn] at hc; cases hc
    | false =>
      rw [hn] at hc
      simp only [cond_false] at hc
      split at hc
      · rename_i x1 b1 y1 B1 J1 h1 h2
        cases hc
        obtain ⟨u, rest, rfl, k1, k2⟩ := hr
        obtain ⟨L, l1, l2, l3, l4, l5, l6⟩ := cellsNew_rel (B := B) l rs y1 B1 J y.2 rest h2 k2
        refine ⟨L, l1, l2, by simpa [HCBlk, CKBlk] using l3, l4, by simp [cellsVal, l5], fun own' E' hst hok i r u' hi hu => ?_⟩
        cases i with
        | zero =>
          simp only [cellsVal, List.getElem?_cons_zero, Option.some.injEq] at hi hu
          subst hi hu
          have hv : AsV t u [u] := by
            cases t with
            | nm n => cases hn
            | _ => rfl
          exact ofDen_rel (Rep_mono (fun _ _ _ h => h) hok k1) hv
        | succ i => exact l6 own' E' hst hok i r u' (by simpa [cellsVal] using hi) (by simpa using hu)
      · cases hc
  | .o el e :: l, r :: rs, x0, B0, J, y, us, hc, hr => by
    simp only [cellsIn] at hc
    split at hc
    · rename_i j
      split at hc
      · rename_i el' e' xs bs hlk
        obtain ⟨hel, hc⟩ := bif_none hc
        have hel : el' = el := by simpa using hel
        subst hel
        split at hc
        · rename_i xs' y1 B1 J1 h1 h2
          cases hc
          obtain ⟨u, rest, rfl, k1, k2⟩ := hr
          obtain ⟨L, l1, l2, l3, l4, l5, l6⟩ := cellsNew_rel (B := B) l rs y1 B1 J1 y.2 rest h2 k2
          refine ⟨(j, .row el' e y.1 B false, u) :: L, by simp [cellsNew, Ent.two, l1], by simp [l2], by simp [HCBlk, CKBlk, l3], ?_, by simp [cellsVal, l5], fun own' E' hst hok i r u' hi hu => ?_⟩
          · intro own' E' hst hok e he
            rcases List.mem_cons.1 he with rfl | he
            · exact ownAt_blk k1 (hst _ List.mem_cons_self).2 hok
            · exact l4 own' E' (fun e he => hst e (List.mem_cons_of_mem _ he)) hok e he
          · cases i with
            | zero =>
              simp only [cellsVal, List.getElem?_cons_zero, Option.some.injEq] at hi hu
              subst hi hu
              obtain ⟨s1, s2⟩ := hst _ List.mem_cons_self
              exact ⟨s2.symm, y.1.length, e, el', y.1, B, false, s1, rfl⟩
            | succ i => exact l6 own' E' (fun e he => hst e (List.mem_cons_of_mem _ he)) hok i r u' (by simpa [cellsVal] using hi) (by simpa using hu)
        · cases hc
      · cases hc
    · cases hc

theorem ownsRow_len {base el size n m : Nat} {A : Option Addr} {cap : Nat} {cells : List Value} (h : w.ownsRow base el size (.slice A n cap) m cells) : m = n := by
  rcases h.2 with ⟨hv, hm⟩ | ⟨g, cap', cur, hv, _⟩
  · cases hv; exact hm
  · cases hv; rfl

theorem callNew_rel {ι : Type} {ρ : ι → RV N} {val : ι → Value} (h : RelE io w0 σ E a w) {okA : Nat → Prop} {B : List Nat} : ∀ (ps : List PK) (os : List ι) (hρ : ∀ o ∈ os, RVRel w σ.own E (ρ o) (val o)) (x0 : HIn N.ρ ps) (B0 D U : List Nat) (y : HOut N.ρ ps) (bl : List Nat), callIn σ.own ρ ps os = some (x0, B0, D, U) → D.Nodup → OutRel w' okA ps y (os.map val) bl →
    ∃ L : List (Ent N), L.map Ent.two = callNew σ.own ρ B ps os y ∧ L.map (·.1) = D ∧ bl = L.flatMap (fun e => oneBlk e.2.2) ∧ EntRel w' okA B L ∧
      ∀ e ∈ L, e.1 ∈ U ∨ ∃ b0, look σ.own e.1 = some b0 ∧ sameShape b0 e.2.1 ∧ e.2.2 = E e.1 ∧ (b0.pinned = true → e.2.1.pinned = true)
  | [], [], hρ, x0, B0, D, U, y, bl, hc, hD, hr => by
    cases hc
    exact ⟨[], rfl, rfl, hr, (fun _ _ _ _ e he => by cases he), fun e he => by cases he⟩
  | [], _ :: _, hρ, x0, B0, D, U, y, bl, hc, hD, hr => by cases hc
  | .v t :: ps, [], hρ, x0, B0, D, U, y, bl, hc, hD, hr => by cases hc
  | .io el e :: ps, [], hρ, x0, B0, D, U, y, bl, hc, hD, hr => by cases hc
  | .bw t :: ps, [], hρ, x0, B0, D, U, y, bl, hc, hD, hr => by cases hc
  | .bc l :: ps, [], hρ, x0, B0, D, U, y, bl, hc, hD, hr => by cases hc
  | .fv f :: ps, [], hρ, x0, B0, D, U, y, bl, hc, hD, hr => by cases hc
  | .fb f :: ps, [], hρ, x0, B0, D, U, y, bl, hc, hD, hr => by cases hc
  | .fv f :: ps, o :: os, hρ, x0, B0, D, U, y, bl, hc, hD, hr => by
    simp only [callIn] at hc
    obtain ⟨hf, hc⟩ := bif_none hc
    split at hc
    · rename_i y1 B1 D1 U1 h2
      cases hc
      exact callNew_rel (B := B) h ps os (fun o ho => hρ o (List.mem_cons_of_mem _ ho)) y1 B0 D U y bl h2 hD hr
    · cases hc
  | .fb f :: ps, o :: os, hρ, x0, B0, D, U, y, bl, hc, hD, hr => by
    simp only [callIn] at hc
    split at hc
    · rename_i id hid
      split at hc
      · rename_i rs hlk
        obtain ⟨hf, hc⟩ := bif_none hc
        split at hc
        · rename_i y1 B1 D1 U1 h2
          cases hc
          obtain ⟨v, rest, b1, b2, hv, rfl, ⟨g, T, arr, ⟨kb1, kb2⟩, k1, rfl⟩, k2⟩ := hr
          rw [List.map_cons] at hv
          obtain ⟨rfl, rfl⟩ := List.cons.inj hv
          have hev := hρ o List.mem_cons_self
          rw [hid] at hev
          obtain ⟨_, g', e1, e2⟩ := hev
          have hg : g' = g := by rw [e2] at kb1; cases kb1; rfl
          subst hg
          obtain ⟨L, l1, l2, l3, l4, l5⟩ := callNew_rel (B := B) h ps os (fun o ho => hρ o (List.mem_cons_of_mem _ ho)) y1 B0 D1 U y.2 b2 h2 (List.nodup_cons.1 hD).2 k2
          refine ⟨(id, .cells [.fn f [id]], val o) :: L, by simp [callNew, hid, Ent.two, l1], by simp [l2], by simp [l3, kb1, oneBlk, blkOf], ?_, fun e' he => ?_⟩
          · intro own' E' hst hok e' he
            rcases List.mem_cons.1 he with rfl | he
            · obtain ⟨s1, s2⟩ := hst _ List.mem_cons_self
              refine ⟨g', T, arr, by rw [s2]; exact kb1, kb2, by rw [k1]; rfl, fun i r u hi hu => ?_⟩
              subst k1
              cases i with
              | zero =>
                simp only [List.getElem?_cons_zero, Option.some.injEq] at hi
                subst hi
                exact self_rel ⟨_, s1⟩ s2 kb1 (Option.some.inj hu).symm
              | succ i => simp at hi
            · exact l4 own' E' (fun e he => hst e (List.mem_cons_of_mem _ he)) hok e' he
          · rcases List.mem_cons.1 he with rfl | he
            · exact .inr ⟨_, hlk, trivial, by rw [e1]; exact kb1, fun _ => rfl⟩
            · exact l5 e' he
        · cases hc
      · cases hc
    · cases hc
  | .v t :: ps, o :: os, hρ, x0, B0, D, U, y, bl, hc, hD, hr => by
    simp only [callIn] at hc
    split at hc
    · rename_i x1 b1 y1 B1 D1 U1 h1 h2
      cases hc
      exact callNew_rel (B := B) h ps os (fun o ho => hρ o (List.mem_cons_of_mem _ ho)) y1 B1 D U y bl h2 hD hr
    · cases hc
  | .io el e :: ps, o :: os, hρ, x0, B0, D, U, y, bl, hc, hD, hr => by
    simp only [callIn] at hc
    split at hc
    · rename_i id hid
      split at hc
      · rename_i el' e' xs bs p hlk
        obtain ⟨hel, hc⟩ := bif_none hc
        have hel : el' = el := by simpa using hel
        subst hel
        split at hc
        · rename_i xs' y1 B1 D1 U1 h1 h2
          cases hc
          obtain ⟨et, rfl⟩ := castTy_some h1
          cases et
          obtain ⟨v, rest, b1, b2, hv, rfl, ⟨k1, rfl⟩, k2⟩ := hr
          rw [List.map_cons] at hv
          obtain ⟨rfl, rfl⟩ := List.cons.inj hv
          have hev := hρ o List.mem_cons_self
          rw [hid] at hev
          obtain ⟨L, l1, l2, l3, l4, l5⟩ := callNew_rel (B := B) h ps os (fun o ho => hρ o (List.mem_cons_of_mem _ ho)) y1 B1 D1 U y.2 b2 h2 (List.nodup_cons.1 hD).2 k2
          refine ⟨(id, .row el' e y.1 B p, val o) :: L, by simp [callNew, hid, hlk, Ent.two, l1], by simp [l2], by simp [l3], ?_, fun e' he => ?_⟩
          · intro own' E' hst hok e' he
            rcases List.mem_cons.1 he with rfl | he
            · exact ownAt_blk k1 (hst _ List.mem_cons_self).2 hok
            · exact l4 own' E' (fun e he => hst e (List.mem_cons_of_mem _ he)) hok e' he
          · rcases List.mem_cons.1 he with rfl | he
            · refine .inr ⟨_, hlk, ⟨rfl, ?_⟩, hev.1, fun h => h⟩
              obtain ⟨_, A, cap, hE⟩ := h.rowRep hlk
              obtain ⟨cells, c1, _⟩ := k1
              rw [hev.1, hE] at c1
              exact (ownsRow_len c1).symm
            · exact l5 e' he
        · cases hc
      · cases hc
    · cases hc
  | .bw t :: ps, o :: os, hρ, x0, B0, D, U, y, bl, hc, hD, hr => by
    simp only [callIn] at hc
    split at hc
    · rename_i id hid
      split at hc
      · rename_i t' xv bs hlk
        split at hc
        · rename_i x1 y1 B1 D1 U1 h1 h2
          cases hc
          obtain ⟨v, rest, b1, b2, hv, rfl, ⟨g, T, arr, ⟨kb1, kb2⟩, k1, rfl⟩, k2⟩ := hr
          rw [List.map_cons] at hv
          obtain ⟨rfl, rfl⟩ := List.cons.inj hv
          have hev := hρ o List.mem_cons_self
          rw [hid] at hev
          obtain ⟨_, g', e1, e2⟩ := hev
          have hg : g' = g := by rw [e2] at kb1; cases kb1; rfl
          subst hg
          obtain ⟨L, l1, l2, l3, l4, l5⟩ := callNew_rel (B := B) h ps os (fun o ho => hρ o (List.mem_cons_of_mem _ ho)) y1 B1 D1 U y.2 b2 h2 (List.nodup_cons.1 hD).2 k2
          refine ⟨(id, .whole t y.1 B, val o) :: L, by simp [callNew, hid, Ent.two, l1], by simp [l2], by simp [l3, kb1, oneBlk, blkOf], ?_, fun e' he => ?_⟩
          · intro own' E' hst hok e' he
            rcases List.mem_cons.1 he with rfl | he
            · exact ⟨g', T, arr, by rw [(hst _ List.mem_cons_self).2]; exact kb1, kb2, Rep_mono (fun _ _ _ h => h) hok k1⟩
            · exact l4 own' E' (fun e he => hst e (List.mem_cons_of_mem _ he)) hok e' he
          · rcases List.mem_cons.1 he with rfl | he
            · exact .inr ⟨_, hlk, trivial, by rw [e1]; exact kb1, fun _ => rfl⟩
            · exact l5 e' he
        · cases hc
      · cases hc
    · cases hc
  | .bc l :: ps, o :: os, hρ, x0, B0, D, U, y, bl, hc, hD, hr => by
    simp only [callIn] at hc
    split at hc
    · rename_i id hid
      split at hc
      · rename_i rs hlk
        split at hc
        · rename_i x1 bb1 J1 y1 B1 D1 U1 h1 h2
          cases hc
          obtain ⟨v, rest, b1, b2, hv, rfl, ⟨g, T, arr, ⟨kb1, kb2⟩, k1, rfl⟩, k2⟩ := hr
          rw [List.map_cons] at hv
          obtain ⟨rfl, rfl⟩ := List.cons.inj hv
          have hev := hρ o List.mem_cons_self
          rw [hid] at hev
          obtain ⟨_, g', e1, e2⟩ := hev
          have hg : g' = g := by rw [e2] at kb1; cases kb1; rfl
          subst hg
          have hD2 := (List.nodup_cons.1 hD).2
          rw [List.nodup_append] at hD2
          obtain ⟨M, m1, m2, m3, m4, m5, m6⟩ := cellsNew_rel (w' := w') (okA := okA) (B := B) l rs x1 bb1 J1 y.1 arr.toList h1 k1
          obtain ⟨L, l1, l2, l3, l4, l5⟩ := callNew_rel (B := B) h ps os (fun o ho => hρ o (List.mem_cons_of_mem _ ho)) y1 B1 D1 U1 y.2 b2 h2 hD2.2.1 k2
          refine ⟨(id, .cells (cellsVal B l rs y.1), val o) :: (M ++ L), by simp [callNew, hid, hlk, Ent.two, l1, m1], by simp [l2, m2], by simp [l3, m3, kb1, oneBlk, blkOf], ?_, fun e' he => ?_⟩
          · intro own' E' hst hok e' he
            have hstM : Stand M own' E' := fun e he => hst e (List.mem_cons_of_mem _ (List.mem_append.2 (.inl he)))
            rcases List.mem_cons.1 he with rfl | he
            · exact ⟨g', T, arr, by rw [(hst _ List.mem_cons_self).2]; exact kb1, kb2, by simpa using m5, fun i r u hi hu => m6 own' E' hstM hok i r u hi (by simpa using hu)⟩
            · rcases List.mem_append.1 he with he | he
              · exact m4 own' E' hstM hok e' he
              · exact l4 own' E' (fun e he => hst e (List.mem_cons_of_mem _ (List.mem_append.2 (.inr he)))) hok e' he
          · rcases List.mem_cons.1 he with rfl | he
            · exact .inr ⟨_, hlk, trivial, by rw [e1]; exact kb1, fun _ => rfl⟩
            · rcases List.mem_append.1 he with he | he
              · left
                refine List.mem_append.2 (.inl ?_)
                rw [← m2]
                exact List.mem_map.2 ⟨e', he, rfl⟩
              · rcases l5 e' he with h5 | h5
                · exact .inl (List.mem_append.2 (.inr h5))
                · exact .inr h5
        · cases hc
      · cases hc
    · cases hc

theorem res_rel {okA : Nat → Prop} {B : List Nat} {d : Nat} : ∀ (rs : List RK) (j : Nat) (y : HRes N.ρ rs) (us : List Value) (rl : List Nat), ResRel w' okA rs y us rl →
    ∃ L : List (Ent N), L.map Ent.two = resNew B d rs j y ∧ L.map (·.1) = resIds d rs j ∧ rl = L.flatMap (fun e => oneBlk e.2.2) ∧ EntRel w' okA B L ∧ us.length = (resSlots B d rs j y).length ∧
      ∀ own' E', Stand L own' E' → (∀ g, okA g → okb w'.heap.size own' E' B g) → ∀ (i : Nat) r u, (resSlots B d rs j y)[i]? = some r → us[i]? = some u → RVRel w' own' E' r u
  | [], j, y, us, rl, h => by
    obtain ⟨rfl, rfl⟩ := h
    exact ⟨[], rfl, rfl, rfl, (fun _ _ _ _ e he => by cases he), rfl, fun _ _ _ _ i r u hi _ => by simp [resSlots] at hi⟩
  | .v t :: rs, j, y, us, rl, h => by
    obtain ⟨v, rest, b1, b2, rfl, rfl, ⟨⟨cs, k1, k2⟩, rfl⟩, k3⟩ := h
    obtain ⟨L, l1, l2, l3, l4, l5, l6⟩ := res_rel (B := B) (d := d) rs (j + 1) y.2 rest b2 k3
    refine ⟨L, l1, l2, by simpa using l3, l4, by simp [resSlots, l5], fun own' E' hst hok i r u hi hu => ?_⟩
    cases i with
    | zero =>
      simp only [resSlots, List.getElem?_cons_zero, Option.some.injEq] at hi hu
      subst hi hu
      exact ofDen_rel (Rep_mono (fun _ _ _ h => h) hok k1) k2
    | succ i => exact l6 own' E' hst hok i r u (by simpa [resSlots] using hi) (by simpa using hu)
  | .own el e :: rs, j, y, us, rl, h => by
    obtain ⟨v, rest, b1, b2, rfl, rfl, ⟨k1, rfl⟩, k3⟩ := h
    obtain ⟨L, l1, l2, l3, l4, l5, l6⟩ := res_rel (B := B) (d := d) rs (j + 1) y.2 rest b2 k3
    refine ⟨(1000 + d + 10000 * j, .row el e y.1 B false, v) :: L, by simp [resNew, Ent.two, l1], by simp [resIds, l2], by simp [l3], ?_, by simp [resSlots, l5], fun own' E' hst hok i r u hi hu => ?_⟩
    · intro own' E' hst hok e' he
      rcases List.mem_cons.1 he with rfl | he
      · exact ownAt_blk k1 (hst _ List.mem_cons_self).2 hok
      · exact l4 own' E' (fun e he => hst e (List.mem_cons_of_mem _ he)) hok e' he
    · cases i with
      | zero =>
        simp only [resSlots, List.getElem?_cons_zero, Option.some.injEq] at hi hu
        subst hi hu
        obtain ⟨s1, s2⟩ := hst _ List.mem_cons_self
        exact ⟨s2.symm, y.1.length, e, el, y.1, B, false, s1, rfl⟩
      | succ i => exact l6 own' E' (fun e he => hst e (List.mem_cons_of_mem _ he)) hok i r u (by simpa [resSlots] using hi) (by simpa using hu)

end Go.Eng
