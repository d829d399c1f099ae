/- The engine, part U: a call, as its caller sees it.
The engine, part V: what a call leaves behind.
The engine, part VM: maps of plain keys and plain values.
The engine, part W: one operation, and a row of operations.
The engine, part WD: operations that only read or add: what they do does not hang on what else was added. -/
import Derived.Test.YtlkllggdiakpbaaGreatDoorEngine2
import Derived.MapFrom
import Derived.Orders
import Derived.StillTail
set_option linter.unusedVariables false
set_option linter.unusedSimpArgs false
namespace Go.Eng
variable {N : Names} {io : Io} {w0 w w' : World} {σ : St N} {E : Env} {a : Act} {P : Program}
theorem ownAt_more {own : List (Nat × Blk N)} {bs bs' : List Nat} (hs : ∀ i ∈ bs, i ∈ bs') {el : TypeId} {e : Ty} {xs : List (e.den N.ρ)} {v : Value} (h : OwnAt w (okb w.heap.size own E bs) el e xs v) : OwnAt w (okb w.heap.size own E bs') el e xs v := by
 obtain ⟨cells, h1, h2⟩ := h
 exact ⟨cells, h1, RowC_mono (fun x cs hx => Rep_more hs hx) h2⟩
theorem RelE.ownAt (h : RelE io w0 σ E a w) {id : Nat} {el : TypeId} {e : Ty} {xs : List (e.den N.ρ)} {bs : List Nat} {p : Bool} (hl : look σ.own id = some (.row el e xs bs p)) (hlt : el < tagM) : OwnAt w (okb w.heap.size σ.own E bs) el e xs (E id) := by
 obtain ⟨cells, h1, h2⟩ := h.own id _ hl
 exact ⟨cells, ⟨.inr hlt, h1.strict hlt⟩, h2⟩
theorem cellsIn_rel (h : RelE io w0 σ E a w) {B0 : List Nat} {fk : FuncId → List Nat → RV N → Bool} {vs0 : List Value} (hfk : ∀ f js r u, fk f js r = true → RVRel w σ.own E r u → u = closV vs0 f js) : ∀ (l : List CK) (rs : List (RV N)) (us : List Value) (x : HC N.ρ l) (B J : List Nat), cellsIn fk σ.own l rs = some (x, B, J) → us.length = rs.length →
  (∀ (i : Nat) r u, rs[i]? = some r → us[i]? = some u → RVRel w σ.own E r u) → (∀ i ∈ B, i ∈ B0) →
  HCRel w (okb w.heap.size σ.own E B0) vs0 l x us ∧ HCBlk l us = J.flatMap (fun j => oneBlk (E j)) ∧ ∀ j ∈ J, ∃ b, look σ.own j = some b ∧ b.pinned = false
 | [], [], us, x, B, J, hc, hl, hr, hB => by
  cases hc
  have : us = [] := List.eq_nil_of_length_eq_zero hl
  subst this
  exact ⟨rfl, rfl, (fun j hj => by cases hj)⟩
 | [], _ :: _, us, x, B, J, hc, hl, hr, hB => by cases hc
 | .c t :: l, [], us, x, B, J, hc, hl, hr, hB => by cases hc
 | .o el e :: l, [], us, x, B, J, hc, hl, hr, hB => by cases hc
 | .f f js :: l, [], us, x, B, J, hc, hl, hr, hB => by cases hc
 | .f f js :: l, r :: rs, us, x, B, J, hc, hl, hr, hB => by
  simp only [cellsIn] at hc
  obtain ⟨hf, hc⟩ := bif_none hc
  split at hc
  ·rename_i y B1 J1 h2
   cases hc
   match us, hl with
   | u :: us, hl =>
    have hru := hr 0 r u rfl rfl
    obtain ⟨q1, q2, q3⟩ := cellsIn_rel h hfk l rs us y B J h2 (by simpa using hl) (fun i r u hi hu => hr (i + 1) r u (by simpa using hi) (by simpa using hu)) hB
    exact ⟨⟨u, us, rfl, hfk f js r u hf hru, q1⟩, by simpa [HCBlk, CKBlk] using q2, q3⟩
  ·cases hc
 | .c t :: l, r :: rs, us, x, B, J, hc, hl, hr, hB => by
  simp only [cellsIn] at hc
  cases hn : isNm t with
  | true => rw [hn] at hc; cases hc
  | false =>
   rw [hn] at hc
   simp only [cond_false] at hc
   split at hc
   ·rename_i x1 b1 y B1 J1 h1 h2
    cases hc
    match us, hl with
    | u :: us, hl =>
     have hru := hr 0 r u rfl rfl
     obtain ⟨cs, k1, k2⟩ := h.toDen h1 hru
     have hcs := AsV_ty k1 (fun n hn' => by subst hn'; cases hn) k2
     subst hcs
     obtain ⟨q1, q2, q3⟩ := cellsIn_rel h hfk l rs us y B1 J h2 (by simpa using hl) (fun i r u hi hu => hr (i + 1) r u (by simpa using hi) (by simpa using hu)) (fun i hi => hB i (List.mem_append.2 (.inr hi)))
     exact ⟨⟨u, us, rfl, Rep_more (fun i hi => hB i (List.mem_append.2 (.inl hi))) k1, q1⟩, by simpa [HCBlk, CKBlk] using q2, q3⟩
   ·cases hc
 | .o el e :: l, r :: rs, us, x, B, J, hc, hl, hr, hB => by
  simp only [cellsIn] at hc
  split at hc
  ·rename_i j
   split at hc
   ·rename_i el' e' xs bs hlk
    obtain ⟨hel, hc⟩ := bif_none hc
    obtain ⟨hel, hlt⟩ := eqB_spec hel
    subst hel
    split at hc
    ·rename_i xs' y B1 J1 h1 h2
     cases hc
     obtain ⟨et, rfl⟩ := castTy_some h1
     cases et
     match us, hl with
     | u :: us, hl =>
      have hru := hr 0 _ u rfl rfl
      obtain ⟨q1, q2, q3⟩ := cellsIn_rel h hfk l rs us y B1 J1 h2 (by simpa using hl) (fun i r u hi hu => hr (i + 1) r u (by simpa using hi) (by simpa using hu)) (fun i hi => hB i (List.mem_append.2 (.inr hi)))
      have hu : u = E j := hru.1
      refine ⟨⟨u, us, rfl, ?_, q1⟩, ?_, fun k hk => ?_⟩
      ·rw [hu]
       exact ownAt_more (fun i hi => hB i (List.mem_append.2 (.inl hi))) (h.ownAt hlk hlt)
      ·simp only [HCBlk, CKBlk, List.flatMap_cons, hu, q2]
      ·rcases List.mem_cons.1 hk with rfl | hk
       ·exact ⟨_, hlk, rfl⟩
       ·exact q3 k hk
    ·cases hc
   ·cases hc
  ·cases hc
theorem self_rel {id : Nat} {f : FuncId} {own : List (Nat × Blk N)} {v u : Value} (hl : ∃ l, look own id = some (.cells l)) (hE : E id = v) {g : Nat} (hv : v = .pointer (some ⟨g, 0, none⟩)) (hu : u = .func (.func f) #[] #[v]) : RVRel w own E (.fn f [id]) u := by
 subst hE
 exact ⟨by rw [hu]; rfl, fun k hk => by
  rw [List.mem_singleton] at hk
  subst hk
  exact ⟨.inr (.inl hl), g, hv⟩⟩
theorem RelE.okOwn (h : RelE io w0 σ E a w) {id g : Nat} {b : Blk N} (hl : look σ.own id = some b) (hg : blkOf (E id) = some g) (bs : List Nat) : okb w.heap.size σ.own E (id :: bs) g := by
 refine ⟨⟨(h.blk id b hl g hg).1, by rw [h.sc]; exact h.nw g (h.blk id b hl g hg).2⟩, fun j hj hjb hg2 => ?_⟩
 obtain ⟨bj, hbj⟩ := Option.isSome_iff_exists.1 hj
 exact h.sep id j b bj hl hbj (fun e => hjb (by rw [e]; exact List.mem_cons_self)) g hg hg2
theorem RelE.readP (h : RelE io w0 σ E a w) {t : Ty} {r : RV N} {v : Value} {x : t.den N.ρ} {bs : List Nat} (hd : readP σ.own t r = some (x, bs)) (hr : RVRel w σ.own E r v) :
  ∃ ad cs, v = .pointer (some ad) ∧ okb w.heap.size σ.own E bs ad.block ∧ Rep w (okb w.heap.size σ.own E bs) t x cs ∧ ∀ (j : Nat) u, cs[j]? = some u → w.cell? (ad.add j) = some u := by
 unfold Eng.readP at hd
 split at hd
 ·rename_i id
  obtain ⟨_, g, e1, e2⟩ := hr
  split at hd
  ·rename_i t' x' bs' hl
   obtain ⟨y, hy, hq⟩ := Option.map_eq_some_iff.1 hd
   cases hq
   obtain ⟨e, rfl⟩ := castTy_some hy
   subst e
   obtain ⟨g', T, arr, c1, c2, c3⟩ := h.own id _ hl
   rw [e1] at c1
   cases c1
   exact ⟨⟨g, 0, none⟩, arr.toList, e2, h.okOwn hl (by rw [e1]; rfl) bs', Rep_more (fun i hi => List.mem_cons_of_mem _ hi) c3, fun j u hu => h.box (id := id) c2 0 j u (by simpa using hu)⟩
  ·rename_i l hl
   split at hd
   ·rename_i y bs' hy
    cases hd
    obtain ⟨g', T, arr, c1, c2, c3, c4⟩ := h.own id _ hl
    rw [e1] at c1
    cases c1
    have k1 := h.impl 8 t l x bs' arr.toList hy (by simpa using c3) (fun i r u hi hu => c4 i r u hi (by simpa using hu))
    exact ⟨⟨g, 0, none⟩, arr.toList, e2, h.okOwn hl (by rw [e1]; rfl) bs', Rep_more (fun i hi => List.mem_cons_of_mem _ hi) k1, fun j u hu => h.box (id := id) c2 0 j u (by simpa using hu)⟩
   ·cases hd
  ·cases hd
 ·rename_i id
  split at hd
  ·rename_i e' T' xs bs' p hl
   obtain ⟨n, y, rfl, _, _, h1, _, h3⟩ := evLoadArr_some hd
   obtain ⟨y', hy, hq⟩ := Option.map_eq_some_iff.1 h1
   cases hq
   obtain ⟨e, rfl⟩ := castTy_some hy
   cases e
   obtain ⟨g, cap, n', t', ⟨e2, xs2, bs2, p2, q1, q2⟩, g2, g3, g4⟩ := hr
   rw [hl] at q1
   cases q1
   obtain ⟨cells, c1, c2⟩ := h.own id _ hl
   have hrep := h3 c1 (by rw [g3]; exact fun e => by cases e) c2
   rcases c1.2 with ⟨hv, hn⟩ | ⟨g', cap', cur, T0, fz, hv, hg, _, _, _, _, _, ht⟩
   ·rw [g3] at hv; cases hv
   ·rw [g3] at hv
    simp only [Value.slice.injEq, Option.some.injEq, Addr.mk.injEq] at hv
    obtain ⟨⟨rfl, _⟩, _, rfl⟩ := hv
    refine ⟨⟨g, 0, none⟩, cells, by rw [g4]; simp, h.okOwn hl (by rw [g3]; rfl) bs', Rep_more (fun i hi => List.mem_cons_of_mem _ hi) hrep, fun j u hu => ?_⟩
    rw [← ht, List.getElem?_take] at hu
    split at hu
    ·rw [add_lit', cell_of_row w g _ cur _ _ hg, Nat.zero_add]
     simpa using hu
    ·cases hu
  ·cases hd
 ·rename_i t' x' bs'
  obtain ⟨y, hy, hq⟩ := Option.map_eq_some_iff.1 hd
  cases hq
  obtain ⟨e, rfl⟩ := castTy_some hy
  subst e
  exact hr
 ·cases hd
theorem capsAre_spec {ι : Type} {own : List (Nat × Blk N)} {ρ : ι → RV N} {val : ι → Value} {os0 : List ι} (hρ : ∀ o ∈ os0, RVRel w own E (ρ o) (val o)) : ∀ (js caps : List Nat), capsAre ρ os0 js caps = true →
  caps.map E.val = js.map (fun j => (os0.map val).getD j undef) ∧ ∀ c ∈ caps, ∃ o ∈ os0, ρ o = .bptr c 0
 | [], [], _ => ⟨rfl, fun c hc => by cases hc⟩
 | [], _ :: _, h => by cases h
 | _ :: _, [], h => by cases h
 | j :: js, c :: cs, h => by
  simp only [capsAre, Bool.and_eq_true] at h
  obtain ⟨h1, h2⟩ := h
  obtain ⟨k1, k2⟩ := capsAre_spec hρ js cs h2
  split at h1
  ·rename_i o ho
   split at h1
   ·rename_i id hid
    obtain rfl := Nat.eq_of_beq_eq_true h1
    have hmem := List.mem_of_getElem? ho
    have hr := hρ o hmem
    rw [hid] at hr
    obtain ⟨_, g, e1, e2⟩ := hr
    refine ⟨?_, fun c hc => ?_⟩
    ·rw [List.map_cons, List.map_cons, k1]
     congr 1
     rw [List.getD_eq_getElem?_getD, List.getElem?_map, ho]
     show E.val id = val o
     rw [e2]
     exact e1
    ·rcases List.mem_cons.1 hc with rfl | hc
     ·exact ⟨o, hmem, hid⟩
     ·exact k2 c hc
   ·cases h1
  ·cases h1
theorem fnIs_rel {ι : Type} {own : List (Nat × Blk N)} {ρ : ι → RV N} {val : ι → Value} {os0 : List ι} (hρ : ∀ o ∈ os0, RVRel w own E (ρ o) (val o)) (f : FuncId) (js : List Nat) (r : RV N) (u : Value) (h : fnIs ρ os0 f js r = true) (hr : RVRel w own E r u) :
  u = closV (os0.map val) f js := by
 unfold fnIs at h
 split at h
 ·simp only [Bool.and_eq_true] at h
  obtain ⟨h1, h2⟩ := h
  obtain rfl := Nat.eq_of_beq_eq_true h1
  rw [hr.1]
  unfold closV
  rw [(capsAre_spec hρ js _ h2).1]
 ·cases h
theorem callIn_rel {ι : Type} {ρ : ι → RV N} {val : ι → Value} (h : RelE io w0 σ E a w) {B0 : List Nat} {os0 : List ι} (hρ0 : ∀ o ∈ os0, RVRel w σ.own E (ρ o) (val o)) : ∀ (ps : List PK) (os : List ι) (hρ : ∀ o ∈ os, RVRel w σ.own E (ρ o) (val o)) (x : HIn N.ρ ps) (B D U : List Nat), callIn σ.own ρ os0 ps os = some (x, B, D, U) → (∀ i ∈ B, i ∈ B0) →
  InRel w (okb w.heap.size σ.own E B0) (os0.map val) ps x (os.map val) (D.flatMap fun id => oneBlk (E id)) ∧ (∀ id ∈ D, ∃ b, look σ.own id = some b) ∧ (∀ id ∈ U, id ∈ D ∧ ∀ b, look σ.own id = some b → b.pinned = false)
 | [], [], hρ, x, B, D, U, hc, hB => by
  cases hc
  exact ⟨⟨rfl, rfl⟩, (fun id hi => by cases hi), (fun id hi => by cases hi)⟩
 | [], _ :: _, hρ, x, B, D, U, hc, hB => by cases hc
 | .v t :: ps, [], hρ, x, B, D, U, hc, hB => by cases hc
 | .io el e :: ps, [], hρ, x, B, D, U, hc, hB => by cases hc
 | .bw t :: ps, [], hρ, x, B, D, U, hc, hB => by cases hc
 | .bc l :: ps, [], hρ, x, B, D, U, hc, hB => by cases hc
 | .fv f :: ps, [], hρ, x, B, D, U, hc, hB => by cases hc
 | .fb f :: ps, [], hρ, x, B, D, U, hc, hB => by cases hc
 | .ag n l :: ps, [], hρ, x, B, D, U, hc, hB => by cases hc
 | .go el e :: ps, [], hρ, x, B, D, U, hc, hB => by cases hc
 | .fn f js :: ps, [], hρ, x, B, D, U, hc, hB => by cases hc
 | .rp t :: ps, [], hρ, x, B, D, U, hc, hB => by cases hc
 | .rp t :: ps, o :: os, hρ, x, B, D, U, hc, hB => by
  simp only [callIn] at hc
  split at hc
  ·rename_i x1 b1 y B1 D1 U1 h1 h2
   cases hc
   obtain ⟨ad, cs, k1, k2, k3, k4⟩ := h.readP h1 (hρ o List.mem_cons_self)
   obtain ⟨q1, q2, q3⟩ := callIn_rel h hρ0 ps os (fun o ho => hρ o (List.mem_cons_of_mem _ ho)) y B1 D U h2 (fun i hi => hB i (List.mem_append.2 (.inr hi)))
   have hsub : ∀ i ∈ b1, i ∈ B0 := fun i hi => hB i (List.mem_append.2 (.inl hi))
   exact ⟨⟨val o, os.map val, [], _, rfl, rfl, ⟨⟨ad, cs, k1, okb_more hsub k2, Rep_more hsub k3, k4⟩, rfl⟩, q1⟩, q2, q3⟩
  ·cases hc
 | .fn f js :: ps, o :: os, hρ, x, B, D, U, hc, hB => by
  simp only [callIn] at hc
  obtain ⟨hf, hc⟩ := bif_none hc
  split at hc
  ·rename_i y B1 D1 U1 h2
   cases hc
   have hev := hρ o List.mem_cons_self
   obtain ⟨q1, q2, q3⟩ := callIn_rel h hρ0 ps os (fun o ho => hρ o (List.mem_cons_of_mem _ ho)) y B D U h2 hB
   exact ⟨⟨val o, os.map val, [], _, rfl, rfl, ⟨fnIs_rel hρ0 f js _ _ hf hev, rfl⟩, q1⟩, q2, q3⟩
  ·cases hc
 | .go el e :: ps, o :: os, hρ, x, B, D, U, hc, hB => by
  simp only [callIn] at hc
  split at hc
  ·rename_i id hid
   split at hc
   ·rename_i el' e' xs bs hlk
    obtain ⟨hel, hc⟩ := bif_none hc
    obtain ⟨hel, hlt⟩ := eqB_spec hel
    subst hel
    split at hc
    ·rename_i xs' y B1 D1 U1 h1 h2
     cases hc
     obtain ⟨et, rfl⟩ := castTy_some h1
     cases et
     have hev := hρ o List.mem_cons_self
     rw [hid] at hev
     obtain ⟨q1, q2, q3⟩ := callIn_rel h hρ0 ps os (fun o ho => hρ o (List.mem_cons_of_mem _ ho)) y B1 D1 U1 h2 (fun i hi => hB i (List.mem_append.2 (.inr hi)))
     refine ⟨⟨val o, os.map val, oneBlk (E id), _, rfl, rfl, ⟨?_, by rw [hev.1]⟩, q1⟩, fun k hk => ?_, fun k hk => ?_⟩
     ·rw [hev.1]
      exact ownAt_more (fun i hi => hB i (List.mem_append.2 (.inl hi))) (h.ownAt hlk hlt)
     ·rcases List.mem_cons.1 hk with rfl | hk
      ·exact ⟨_, hlk⟩
      ·exact q2 k hk
     ·rcases List.mem_cons.1 hk with rfl | hk
      ·exact ⟨List.mem_cons_self, fun b hb => by rw [hlk] at hb; cases hb; rfl⟩
      ·exact ⟨List.mem_cons_of_mem _ (q3 k hk).1, (q3 k hk).2⟩
    ·cases hc
   ·cases hc
  ·rename_i hid
   split at hc
   ·rename_i y B1 D1 U1 h2
    cases hc
    have hev := hρ o List.mem_cons_self
    rw [hid] at hev
    have hev : val o = .slice none 0 0 := hev
    obtain ⟨q1, q2, q3⟩ := callIn_rel h hρ0 ps os (fun o ho => hρ o (List.mem_cons_of_mem _ ho)) y B D U h2 hB
    refine ⟨⟨val o, os.map val, [], _, rfl, rfl, ⟨⟨[], ?_, rfl⟩, by rw [hev]; rfl⟩, q1⟩, q2, q3⟩
    show _ ∧ w.ownsRow 0 el (N.sz e) (val o) 0 []
    rw [hev]
    exact ⟨.inl rfl, by simp, .inl ⟨rfl, rfl⟩⟩
   ·cases hc
  ·cases hc
 | .ag n l :: ps, o :: os, hρ, x, B, D, U, hc, hB => by
  simp only [callIn] at hc
  split at hc
  ·rename_i id hid
   split at hc
   ·rename_i m rs hlk
    obtain ⟨hm, hc⟩ := bif_none hc
    split at hc
    ·rename_i x1 b1 J1 y B1 D1 U1 h1 h2
     cases hc
     have hev := hρ o List.mem_cons_self
     rw [hid] at hev
     obtain ⟨arr, c1, c2, c3, c4⟩ := h.own id _ hlk
     obtain ⟨p1, p2, p3⟩ := cellsIn_rel h (B0 := B0) (fnIs_rel hρ0) l rs arr.toList x1 b1 J1 h1 (by simpa using c2) (fun i r u hi hu => c4 i r u hi (by simpa using hu)) (fun i hi => hB i (List.mem_append.2 (.inl hi)))
     obtain ⟨q1, q2, q3⟩ := callIn_rel h hρ0 ps os (fun o ho => hρ o (List.mem_cons_of_mem _ ho)) y B1 D1 U1 h2 (fun i hi => hB i (List.mem_append.2 (.inr hi)))
     refine ⟨⟨val o, os.map val, HCBlk l arr.toList, _, rfl, ?_, ⟨arr.toList, ?_, p1, rfl⟩, q1⟩, fun k hk => ?_, fun k hk => ?_⟩
     ·rw [List.flatMap_append, p2]
     ·rw [hev.2, c1]
     ·rcases List.mem_append.1 hk with hk | hk
      ·obtain ⟨b, hb, _⟩ := p3 k hk
       exact ⟨b, hb⟩
      ·exact q2 k hk
     ·rcases List.mem_append.1 hk with hk | hk
      ·refine ⟨List.mem_append.2 (.inl hk), fun b hb => ?_⟩
       obtain ⟨b', hb', hp⟩ := p3 k hk
       rw [hb] at hb'
       cases hb'
       exact hp
      ·exact ⟨List.mem_append.2 (.inr (q3 k hk).1), (q3 k hk).2⟩
    ·cases hc
   ·cases hc
  ·cases hc
 | .fv f :: ps, o :: os, hρ, x, B, D, U, hc, hB => by
  simp only [callIn] at hc
  obtain ⟨hf, hc⟩ := bif_none hc
  split at hc
  ·rename_i y B1 D1 U1 h2
   cases hc
   have hev := hρ o List.mem_cons_self
   rw [plainFn_spec hf] at hev
   obtain ⟨q1, q2, q3⟩ := callIn_rel h hρ0 ps os (fun o ho => hρ o (List.mem_cons_of_mem _ ho)) y B D U h2 hB
   exact ⟨⟨val o, os.map val, [], _, rfl, rfl, ⟨hev.1, rfl⟩, q1⟩, q2, q3⟩
  ·cases hc
 | .fb f :: ps, o :: os, hρ, x, B, D, U, hc, hB => by
  simp only [callIn] at hc
  split at hc
  ·rename_i id hid
   split at hc
   ·rename_i rs hlk
    obtain ⟨hf, hc⟩ := bif_none hc
    rw [selfIs_spec hf] at hlk
    split at hc
    ·rename_i y B1 D1 U1 h2
     cases hc
     have hev := hρ o List.mem_cons_self
     rw [hid] at hev
     obtain ⟨_, g, e1, e2⟩ := hev
     obtain ⟨g', T, arr, c1, c2, c3, c4⟩ := h.own id _ hlk
     rw [e1] at c1
     cases c1
     obtain ⟨q1, q2, q3⟩ := callIn_rel h hρ0 ps os (fun o ho => hρ o (List.mem_cons_of_mem _ ho)) y B D1 U h2 hB
     refine ⟨⟨val o, os.map val, [g], _, rfl, ?_, ⟨g, T, arr, ⟨e2, c2⟩, ?_, rfl⟩, q1⟩, fun k hk => ?_, fun k hk => ⟨List.mem_cons_of_mem _ (q3 k hk).1, (q3 k hk).2⟩⟩
     ·rw [List.flatMap_cons, e1]; rfl
     ·obtain ⟨l⟩ := arr
      match l, c3 with
      | [u], _ =>
       have := (c4 0 _ u rfl (by simp)).1
       rw [this, e2, ← e1]
       rfl
     ·rcases List.mem_cons.1 hk with rfl | hk
      ·exact ⟨_, hlk⟩
      ·exact q2 k hk
    ·cases hc
   ·cases hc
  ·cases hc
 | .v t :: ps, o :: os, hρ, x, B, D, U, hc, hB => by
  simp only [callIn] at hc
  split at hc
  ·rename_i x1 b1 y B1 D1 U1 h1 h2
   cases hc
   obtain ⟨cs, k1, k2⟩ := h.toDen h1 (hρ o List.mem_cons_self)
   obtain ⟨q1, q2, q3⟩ := callIn_rel h hρ0 ps os (fun o ho => hρ o (List.mem_cons_of_mem _ ho)) y B1 D U h2 (fun i hi => hB i (List.mem_append.2 (.inr hi)))
   exact ⟨⟨val o, os.map val, [], _, rfl, rfl, ⟨⟨cs, Rep_more (fun i hi => hB i (List.mem_append.2 (.inl hi))) k1, k2⟩, rfl⟩, q1⟩, q2, q3⟩
  ·cases hc
 | .io el e :: ps, o :: os, hρ, x, B, D, U, hc, hB => by
  simp only [callIn] at hc
  split at hc
  ·rename_i id hid
   split at hc
   ·rename_i el' e' xs bs p hlk
    obtain ⟨hel, hc⟩ := bif_none hc
    obtain ⟨hel, hlt⟩ := eqB_spec hel
    subst hel
    split at hc
    ·rename_i xs' y B1 D1 U1 h1 h2
     cases hc
     obtain ⟨et, rfl⟩ := castTy_some h1
     cases et
     have hev := hρ o List.mem_cons_self
     rw [hid] at hev
     obtain ⟨q1, q2, q3⟩ := callIn_rel h hρ0 ps os (fun o ho => hρ o (List.mem_cons_of_mem _ ho)) y B1 D1 U h2 (fun i hi => hB i (List.mem_append.2 (.inr hi)))
     refine ⟨⟨val o, os.map val, oneBlk (E id), _, rfl, rfl, ⟨?_, by rw [hev.1]⟩, q1⟩, fun k hk => ?_, fun k hk => ⟨List.mem_cons_of_mem _ (q3 k hk).1, (q3 k hk).2⟩⟩
     ·rw [hev.1]
      exact ownAt_more (fun i hi => hB i (List.mem_append.2 (.inl hi))) (h.ownAt hlk hlt)
     ·rcases List.mem_cons.1 hk with rfl | hk
      ·exact ⟨_, hlk⟩
      ·exact q2 k hk
    ·cases hc
   ·cases hc
  ·cases hc
 | .bw t :: ps, o :: os, hρ, x, B, D, U, hc, hB => by
  simp only [callIn] at hc
  split at hc
  ·rename_i id hid
   split at hc
   ·rename_i t' xv bs hlk
    split at hc
    ·rename_i x1 y B1 D1 U1 h1 h2
     cases hc
     obtain ⟨et, rfl⟩ := castTy_some h1
     subst et
     have hev := hρ o List.mem_cons_self
     rw [hid] at hev
     obtain ⟨_, g, e1, e2⟩ := hev
     obtain ⟨g', T, arr, c1, c2, c3⟩ := h.own id _ hlk
     rw [e1] at c1
     cases c1
     obtain ⟨q1, q2, q3⟩ := callIn_rel h hρ0 ps os (fun o ho => hρ o (List.mem_cons_of_mem _ ho)) y B1 D1 U h2 (fun i hi => hB i (List.mem_append.2 (.inr hi)))
     refine ⟨⟨val o, os.map val, [g], _, rfl, ?_, ⟨g, T, arr, ⟨e2, c2⟩, Rep_more (fun i hi => hB i (List.mem_append.2 (.inl hi))) c3, rfl⟩, q1⟩, fun k hk => ?_, fun k hk => ⟨List.mem_cons_of_mem _ (q3 k hk).1, (q3 k hk).2⟩⟩
     ·rw [List.flatMap_cons, e1]; rfl
     ·rcases List.mem_cons.1 hk with rfl | hk
      ·exact ⟨_, hlk⟩
      ·exact q2 k hk
    ·cases hc
   ·cases hc
  ·cases hc
 | .bc l :: ps, o :: os, hρ, x, B, D, U, hc, hB => by
  simp only [callIn] at hc
  split at hc
  ·rename_i id hid
   split at hc
   ·rename_i rs hlk
    split at hc
    ·rename_i x1 b1 J1 y B1 D1 U1 h1 h2
     cases hc
     have hev := hρ o List.mem_cons_self
     rw [hid] at hev
     obtain ⟨_, g, e1, e2⟩ := hev
     obtain ⟨g', T, arr, c1, c2, c3, c4⟩ := h.own id _ hlk
     rw [e1] at c1
     cases c1
     obtain ⟨p1, p2, p3⟩ := cellsIn_rel h (B0 := B0) (fnIs_rel hρ0) l rs arr.toList x1 b1 J1 h1 (by simpa using c3) (fun i r u hi hu => c4 i r u hi (by simpa using hu)) (fun i hi => hB i (List.mem_append.2 (.inl hi)))
     obtain ⟨q1, q2, q3⟩ := callIn_rel h hρ0 ps os (fun o ho => hρ o (List.mem_cons_of_mem _ ho)) y B1 D1 U1 h2 (fun i hi => hB i (List.mem_append.2 (.inr hi)))
     refine ⟨⟨val o, os.map val, g :: HCBlk l arr.toList, _, rfl, ?_, ⟨g, T, arr, ⟨e2, c2⟩, p1, rfl⟩, q1⟩, fun k hk => ?_, fun k hk => ?_⟩
     ·rw [List.flatMap_cons, List.flatMap_append, e1, p2]
      simp [oneBlk, blkOf]
     ·rcases List.mem_cons.1 hk with rfl | hk
      ·exact ⟨_, hlk⟩
      ·rcases List.mem_append.1 hk with hk | hk
       ·obtain ⟨b, hb, _⟩ := p3 k hk
        exact ⟨b, hb⟩
       ·exact q2 k hk
     ·rcases List.mem_append.1 hk with hk | hk
      ·refine ⟨List.mem_cons_of_mem _ (List.mem_append.2 (.inl hk)), fun b hb => ?_⟩
       obtain ⟨b', hb', hp⟩ := p3 k hk
       rw [hb] at hb'
       cases hb'
       exact hp
      ·exact ⟨List.mem_cons_of_mem _ (List.mem_append.2 (.inr (q3 k hk).1)), (q3 k hk).2⟩
    ·cases hc
   ·cases hc
  ·cases hc
/-! Behind the call. -/
abbrev Ent (N : Names) := Nat × Blk N × Value
def Ent.two (e : Ent N) : Nat × Blk N := (e.1, e.2.1)
def Stand (l : List (Ent N)) (own' : List (Nat × Blk N)) (E' : Env) : Prop := ∀ e ∈ l, look own' e.1 = some e.2.1 ∧ E' e.1 = e.2.2
def FkOk (w' : World) (fk : FuncId → List Nat → RV N → Bool) (vs0 : List Value) (own' : List (Nat × Blk N)) (E' : Env) : Prop := ∀ f js r, fk f js r = true → RVRel w' own' E' r (closV vs0 f js)
def EntRel (w' : World) (okA : Nat → Prop) (B : List Nat) (Hf : List (Nat × Blk N) → Env → Prop) (l : List (Ent N)) : Prop :=
 ∀ own' E', Stand l own' E' → Hf own' E' → (∀ g, okA g → okb w'.heap.size own' E' B g) → ∀ e ∈ l, BlkRel w' own' E' e.1 e.2.1
theorem ownAt_blk {okA : Nat → Prop} {B : List Nat} {own' : List (Nat × Blk N)} {E' : Env} {id : Nat} {el : TypeId} {e : Ty} {xs : List (e.den N.ρ)} {v : Value} {p : Bool} (h : OwnAt w' okA el e xs v) (hE : E' id = v) (hok : ∀ g, okA g → okb w'.heap.size own' E' B g) :
  BlkRel w' own' E' id (.row el e xs B p) := by
 obtain ⟨cells, h1, h2⟩ := h
 exact ⟨cells, by rw [hE]; exact .of' h1, RowC_mono (fun x cs hx => Rep_mono (fun _ _ _ h => h) hok hx) h2⟩
theorem Rep_flatB {w : World} {H : Nat} {own : List (Nat × Blk N)} {E : Env} {B : List Nat} {t : Ty} {x : t.den N.ρ} {cs : List Value} (h : Rep w (okb H own E B) t x cs) : Rep w (okb H own E (flatB N t B)) t x cs := by
 unfold flatB
 cases hf : flatT N 4 t with
 | true => exact Rep_flat 4 t x cs hf h
 | false => exact h
theorem flatB_blk {w : World} {own : List (Nat × Blk N)} {E : Env} {id : Nat} {el : TypeId} {e : Ty} {xs : List (e.den N.ρ)} {B : List Nat} {p : Bool} (h : BlkRel w own E id (.row el e xs B p)) : BlkRel w own E id (.row el e xs (flatB N e B) p) := by
 obtain ⟨cells, c1, c2⟩ := h
 exact ⟨cells, c1, RowC_mono (fun x cs hx => Rep_flatB hx) c2⟩
theorem cellsNew_rel {okA : Nat → Prop} {B : List Nat} {own : List (Nat × Blk N)} {fk : FuncId → List Nat → RV N → Bool} {vs0 : List Value} {Hf : List (Nat × Blk N) → Env → Prop} (hHf : ∀ own' E', Hf own' E' → FkOk w' fk vs0 own' E') : ∀ (l : List CK) (rs : List (RV N)) (x0 : HC N.ρ l) (B0 J : List Nat) (y : HC N.ρ l) (us : List Value), cellsIn fk own l rs = some (x0, B0, J) → HCRel w' okA vs0 l y us →
  ∃ L : List (Ent N), L.map Ent.two = cellsNew B l rs y ∧ L.map (·.1) = J ∧ HCBlk l us = L.flatMap (fun e => oneBlk e.2.2) ∧ EntRel w' okA B Hf L ∧ us.length = (cellsVal B l rs y).length ∧
   ∀ own' E', Stand L own' E' → Hf own' E' → (∀ g, okA g → okb w'.heap.size own' E' B g) → ∀ (i : Nat) r u, (cellsVal B l rs y)[i]? = some r → us[i]? = some u → RVRel w' own' E' r u
 | [], [], x0, B0, J, y, us, hc, hr => by
  cases hc
  rw [show us = [] from hr]
  exact ⟨[], rfl, rfl, rfl, (fun _ _ _ _ _ e he => by cases he), rfl, fun _ _ _ _ _ i r u hi _ => by simp [cellsVal] at hi⟩
 | [], _ :: _, x0, B0, J, y, us, hc, hr => by cases hc
 | .c t :: l, [], x0, B0, J, y, us, hc, hr => by cases hc
 | .o el e :: l, [], x0, B0, J, y, us, hc, hr => by cases hc
 | .f f js :: l, [], x0, B0, J, y, us, hc, hr => by cases hc
 | .f f js :: l, r :: rs, x0, B0, J, y, us, hc, hr => by
  simp only [cellsIn] at hc
  obtain ⟨hf, hc⟩ := bif_none hc
  split at hc
  ·rename_i y1 B1 J1 h2
   cases hc
   obtain ⟨u, rest, rfl, k1, k2⟩ := hr
   obtain ⟨L, l1, l2, l3, l4, l5, l6⟩ := cellsNew_rel (B := B) hHf l rs y1 B0 J y.2 rest h2 k2
   refine ⟨L, l1, l2, by simpa [HCBlk, CKBlk] using l3, l4, by simp [cellsVal, l5], fun own' E' hst hhf hok i r' u' hi hu => ?_⟩
   cases i with
   | zero =>
    simp only [cellsVal, List.getElem?_cons_zero, Option.some.injEq] at hi hu
    subst hi hu
    rw [show u = _ from k1]
    exact hHf own' E' hhf f js r hf
   | succ i => exact l6 own' E' hst hhf hok i r' u' (by simpa [cellsVal] using hi) (by simpa using hu)
  ·cases hc
 | .c t :: l, r :: rs, x0, B0, J, y, us, hc, hr => by
  simp only [cellsIn] at hc
  cases hn : isNm t with
  | true => rw [hn] at hc; cases hc
  | false =>
   rw [hn] at hc
   simp only [cond_false] at hc
   split at hc
   ·rename_i x1 b1 y1 B1 J1 h1 h2
    cases hc
    obtain ⟨u, rest, rfl, k1, k2⟩ := hr
    obtain ⟨L, l1, l2, l3, l4, l5, l6⟩ := cellsNew_rel (B := B) hHf l rs y1 B1 J y.2 rest h2 k2
    refine ⟨L, l1, l2, by simpa [HCBlk, CKBlk] using l3, l4, by simp [cellsVal, l5], fun own' E' hst hhf hok i r u' hi hu => ?_⟩
    cases i with
    | zero =>
     simp only [cellsVal, List.getElem?_cons_zero, Option.some.injEq] at hi hu
     subst hi hu
     have hv : AsV t u [u] := by
      cases t with
      | nm n => cases hn
      | _ => rfl
     exact ofDen_rel (Rep_flatB (Rep_mono (fun _ _ _ h => h) hok k1)) hv
    | succ i => exact l6 own' E' hst hhf hok i r u' (by simpa [cellsVal] using hi) (by simpa using hu)
   ·cases hc
 | .o el e :: l, r :: rs, x0, B0, J, y, us, hc, hr => by
  simp only [cellsIn] at hc
  split at hc
  ·rename_i j
   split at hc
   ·rename_i el' e' xs bs hlk
    obtain ⟨hel, hc⟩ := bif_none hc
    obtain ⟨hel, hlt⟩ := eqB_spec hel
    subst hel
    split at hc
    ·rename_i xs' y1 B1 J1 h1 h2
     cases hc
     obtain ⟨u, rest, rfl, k1, k2⟩ := hr
     obtain ⟨L, l1, l2, l3, l4, l5, l6⟩ := cellsNew_rel (B := B) hHf l rs y1 B1 J1 y.2 rest h2 k2
     refine ⟨(j, .row el' e y.1 (flatB N e B) false, u) :: L, by simp [cellsNew, Ent.two, l1], by simp [l2], by simp [HCBlk, CKBlk, l3], ?_, by simp [cellsVal, l5], fun own' E' hst hhf hok i r u' hi hu => ?_⟩
     ·intro own' E' hst hhf hok e he
      rcases List.mem_cons.1 he with rfl | he
      ·exact flatB_blk (ownAt_blk k1 (hst _ List.mem_cons_self).2 hok)
      ·exact l4 own' E' (fun e he => hst e (List.mem_cons_of_mem _ he)) hhf hok e he
     ·cases i with
      | zero =>
       simp only [cellsVal, List.getElem?_cons_zero, Option.some.injEq] at hi hu
       subst hi hu
       obtain ⟨s1, s2⟩ := hst _ List.mem_cons_self
       exact ⟨s2.symm, y.1.length, e, el', y.1, flatB N e B, false, s1, rfl⟩
      | succ i => exact l6 own' E' (fun e he => hst e (List.mem_cons_of_mem _ he)) hhf hok i r u' (by simpa [cellsVal] using hi) (by simpa using hu)
    ·cases hc
   ·cases hc
  ·cases hc
theorem ownsRow_len {base el size n m : Nat} {A : Option Addr} {cap : Nat} {cells : List Value} (h : w.ownsRow base el size (.slice A n cap) m cells) : m = n := by
 rcases h.2 with ⟨hv, hm⟩ | ⟨g, cap', cur, hv, _⟩
 ·cases hv; exact hm
 ·cases hv; rfl
theorem callNew_rel {ι : Type} {ρ : ι → RV N} {val : ι → Value} (h : RelE io w0 σ E a w) {okA : Nat → Prop} {B : List Nat} {os0 : List ι} : ∀ (ps : List PK) (os : List ι) (hρ : ∀ o ∈ os, RVRel w σ.own E (ρ o) (val o)) (x0 : HIn N.ρ ps) (B0 D U : List Nat) (y : HOut N.ρ ps) (bl : List Nat), callIn σ.own ρ os0 ps os = some (x0, B0, D, U) → D.Nodup → OutRel w' okA (os0.map val) ps y (os.map val) bl →
  ∃ L : List (Ent N), L.map Ent.two = callNew σ.own ρ B ps os y ∧ ((L.map (·.1)).Sublist D ∧ ∀ id ∈ D, id ∈ U ∨ id ∈ L.map (·.1)) ∧ bl = L.flatMap (fun e => oneBlk e.2.2) ∧ EntRel w' okA B (FkOk w' (fnIs ρ os0) (os0.map val)) L ∧
   ∀ e ∈ L, e.1 ∈ U ∨ ∃ b0, look σ.own e.1 = some b0 ∧ sameShape b0 e.2.1 ∧ e.2.2 = E e.1 ∧ (b0.pinned = true → e.2.1.pinned = true)
 | [], [], hρ, x0, B0, D, U, y, bl, hc, hD, hr => by
  cases hc
  exact ⟨[], rfl, ⟨.slnil, fun id hid => by cases hid⟩, hr, (fun _ _ _ _ _ e he => by cases he), fun e he => by cases he⟩
 | [], _ :: _, hρ, x0, B0, D, U, y, bl, hc, hD, hr => by cases hc
 | .v t :: ps, [], hρ, x0, B0, D, U, y, bl, hc, hD, hr => by cases hc
 | .io el e :: ps, [], hρ, x0, B0, D, U, y, bl, hc, hD, hr => by cases hc
 | .bw t :: ps, [], hρ, x0, B0, D, U, y, bl, hc, hD, hr => by cases hc
 | .bc l :: ps, [], hρ, x0, B0, D, U, y, bl, hc, hD, hr => by cases hc
 | .fv f :: ps, [], hρ, x0, B0, D, U, y, bl, hc, hD, hr => by cases hc
 | .fb f :: ps, [], hρ, x0, B0, D, U, y, bl, hc, hD, hr => by cases hc
 | .ag n l :: ps, [], hρ, x0, B0, D, U, y, bl, hc, hD, hr => by cases hc
 | .go el e :: ps, [], hρ, x0, B0, D, U, y, bl, hc, hD, hr => by cases hc
 | .fn f js :: ps, [], hρ, x0, B0, D, U, y, bl, hc, hD, hr => by cases hc
 | .rp t :: ps, [], hρ, x0, B0, D, U, y, bl, hc, hD, hr => by cases hc
 | .rp t :: ps, o :: os, hρ, x0, B0, D, U, y, bl, hc, hD, hr => by
  simp only [callIn] at hc
  split at hc
  ·rename_i x1 b1 y1 B1 D1 U1 h1 h2
   cases hc
   exact callNew_rel (B := B) h ps os (fun o ho => hρ o (List.mem_cons_of_mem _ ho)) y1 B1 D U y bl h2 hD hr
  ·cases hc
 | .fn f js :: ps, o :: os, hρ, x0, B0, D, U, y, bl, hc, hD, hr => by
  simp only [callIn] at hc
  obtain ⟨hf, hc⟩ := bif_none hc
  split at hc
  ·rename_i y1 B1 D1 U1 h2
   cases hc
   exact callNew_rel (B := B) h ps os (fun o ho => hρ o (List.mem_cons_of_mem _ ho)) y1 B0 D U y bl h2 hD hr
  ·cases hc
 | .go el e :: ps, o :: os, hρ, x0, B0, D, U, y, bl, hc, hD, hr => by
  simp only [callIn] at hc
  split at hc
  ·rename_i id hid
   split at hc
   ·rename_i el' e' xs bs hlk
    obtain ⟨hel, hc⟩ := bif_none hc
    split at hc
    ·rename_i xs' y1 B1 D1 U1 h1 h2
     cases hc
     obtain ⟨L, l1, l2, l3, l4, l5⟩ := callNew_rel (B := B) h ps os (fun o ho => hρ o (List.mem_cons_of_mem _ ho)) y1 B1 D1 U1 y bl h2 (List.nodup_cons.1 hD).2 hr
     refine ⟨L, l1, ⟨l2.1.cons _, fun k hk => ?_⟩, l3, l4, fun e he => (l5 e he).imp (List.mem_cons_of_mem _) (fun h => h)⟩
     rcases List.mem_cons.1 hk with rfl | hk
     ·exact .inl List.mem_cons_self
     ·exact (l2.2 k hk).imp (List.mem_cons_of_mem _) (fun h => h)
    ·cases hc
   ·cases hc
  ·rename_i hid
   split at hc
   ·rename_i y1 B1 D1 U1 h2
    cases hc
    exact callNew_rel (B := B) h ps os (fun o ho => hρ o (List.mem_cons_of_mem _ ho)) y1 B0 D U y bl h2 hD hr
   ·cases hc
  ·cases hc
 | .ag n l :: ps, o :: os, hρ, x0, B0, D, U, y, bl, hc, hD, hr => by
  simp only [callIn] at hc
  split at hc
  ·rename_i id hid
   split at hc
   ·rename_i m rs hlk
    obtain ⟨hm, hc⟩ := bif_none hc
    split at hc
    ·rename_i x1 bb1 J1 y1 B1 D1 U1 h1 h2
     cases hc
     rw [List.nodup_append] at hD
     obtain ⟨L, l1, l2, l3, l4, l5⟩ := callNew_rel (B := B) h ps os (fun o ho => hρ o (List.mem_cons_of_mem _ ho)) y1 B1 D1 U1 y bl h2 hD.2.1 hr
     refine ⟨L, l1, ⟨l2.1.trans (List.sublist_append_right _ _), fun k hk => ?_⟩, l3, l4, fun e he => (l5 e he).imp (fun h => List.mem_append.2 (.inr h)) (fun h => h)⟩
     rcases List.mem_append.1 hk with hk | hk
     ·exact .inl (List.mem_append.2 (.inl hk))
     ·exact (l2.2 k hk).imp (fun h => List.mem_append.2 (.inr h)) (fun h => h)
    ·cases hc
   ·cases hc
  ·cases hc
 | .fv f :: ps, o :: os, hρ, x0, B0, D, U, y, bl, hc, hD, hr => by
  simp only [callIn] at hc
  obtain ⟨hf, hc⟩ := bif_none hc
  split at hc
  ·rename_i y1 B1 D1 U1 h2
   cases hc
   exact callNew_rel (B := B) h ps os (fun o ho => hρ o (List.mem_cons_of_mem _ ho)) y1 B0 D U y bl h2 hD hr
  ·cases hc
 | .fb f :: ps, o :: os, hρ, x0, B0, D, U, y, bl, hc, hD, hr => by
  simp only [callIn] at hc
  split at hc
  ·rename_i id hid
   split at hc
   ·rename_i rs hlk
    obtain ⟨hf, hc⟩ := bif_none hc
    split at hc
    ·rename_i y1 B1 D1 U1 h2
     cases hc
     obtain ⟨v, rest, b1, b2, hv, rfl, ⟨g, T, arr, ⟨kb1, kb2⟩, k1, rfl⟩, k2⟩ := hr
     rw [List.map_cons] at hv
     obtain ⟨rfl, rfl⟩ := List.cons.inj hv
     have hev := hρ o List.mem_cons_self
     rw [hid] at hev
     obtain ⟨_, g', e1, e2⟩ := hev
     have hg : g' = g := by rw [e2] at kb1; cases kb1; rfl
     subst hg
     obtain ⟨L, l1, l2, l3, l4, l5⟩ := callNew_rel (B := B) h ps os (fun o ho => hρ o (List.mem_cons_of_mem _ ho)) y1 B0 D1 U y.2 b2 h2 (List.nodup_cons.1 hD).2 k2
     refine ⟨(id, .cells [.fn f [id]], val o) :: L, by simp [callNew, hid, Ent.two, l1], ⟨by simpa using l2.1, fun k hk => by rcases List.mem_cons.1 hk with rfl | hk; exact .inr List.mem_cons_self; exact (l2.2 k hk).imp (fun h => h) (fun h => List.mem_cons_of_mem _ h)⟩, by simp [l3, kb1, oneBlk, blkOf], ?_, fun e' he => ?_⟩
     ·intro own' E' hst hhf hok e' he
      rcases List.mem_cons.1 he with rfl | he
      ·obtain ⟨s1, s2⟩ := hst _ List.mem_cons_self
       refine ⟨g', T, arr, by rw [s2]; exact kb1, kb2, by rw [k1]; rfl, fun i r u hi hu => ?_⟩
       subst k1
       cases i with
       | zero =>
        simp only [List.getElem?_cons_zero, Option.some.injEq] at hi
        subst hi
        exact self_rel ⟨_, s1⟩ s2 kb1 (Option.some.inj hu).symm
       | succ i => simp at hi
      ·exact l4 own' E' (fun e he => hst e (List.mem_cons_of_mem _ he)) hhf hok e' he
     ·rcases List.mem_cons.1 he with rfl | he
      ·exact .inr ⟨_, hlk, trivial, by rw [e1]; exact kb1, fun _ => rfl⟩
      ·exact l5 e' he
    ·cases hc
   ·cases hc
  ·cases hc
 | .v t :: ps, o :: os, hρ, x0, B0, D, U, y, bl, hc, hD, hr => by
  simp only [callIn] at hc
  split at hc
  ·rename_i x1 b1 y1 B1 D1 U1 h1 h2
   cases hc
   exact callNew_rel (B := B) h ps os (fun o ho => hρ o (List.mem_cons_of_mem _ ho)) y1 B1 D U y bl h2 hD hr
  ·cases hc
 | .io el e :: ps, o :: os, hρ, x0, B0, D, U, y, bl, hc, hD, hr => by
  simp only [callIn] at hc
  split at hc
  ·rename_i id hid
   split at hc
   ·rename_i el' e' xs bs p hlk
    obtain ⟨hel, hc⟩ := bif_none hc
    obtain ⟨hel, hlt⟩ := eqB_spec hel
    subst hel
    split at hc
    ·rename_i xs' y1 B1 D1 U1 h1 h2
     cases hc
     obtain ⟨et, rfl⟩ := castTy_some h1
     cases et
     obtain ⟨v, rest, b1, b2, hv, rfl, ⟨k1, rfl⟩, k2⟩ := hr
     rw [List.map_cons] at hv
     obtain ⟨rfl, rfl⟩ := List.cons.inj hv
     have hev := hρ o List.mem_cons_self
     rw [hid] at hev
     obtain ⟨L, l1, l2, l3, l4, l5⟩ := callNew_rel (B := B) h ps os (fun o ho => hρ o (List.mem_cons_of_mem _ ho)) y1 B1 D1 U y.2 b2 h2 (List.nodup_cons.1 hD).2 k2
     refine ⟨(id, .row el' e y.1 (flatB N e B) p, val o) :: L, by simp [callNew, hid, hlk, Ent.two, l1], ⟨by simpa using l2.1, fun k hk => by rcases List.mem_cons.1 hk with rfl | hk; exact .inr List.mem_cons_self; exact (l2.2 k hk).imp (fun h => h) (fun h => List.mem_cons_of_mem _ h)⟩, by simp [l3], ?_, fun e' he => ?_⟩
     ·intro own' E' hst hhf hok e' he
      rcases List.mem_cons.1 he with rfl | he
      ·exact flatB_blk (ownAt_blk k1 (hst _ List.mem_cons_self).2 hok)
      ·exact l4 own' E' (fun e he => hst e (List.mem_cons_of_mem _ he)) hhf hok e' he
     ·rcases List.mem_cons.1 he with rfl | he
      ·refine .inr ⟨_, hlk, ⟨rfl, ?_⟩, hev.1, fun h => h⟩
       obtain ⟨_, A, cap, hE⟩ := h.rowRep hlk
       obtain ⟨cells, c1, _⟩ := k1
       rw [hev.1, hE] at c1
       exact (ownsRow_len c1.2).symm
      ·exact l5 e' he
    ·cases hc
   ·cases hc
  ·cases hc
 | .bw t :: ps, o :: os, hρ, x0, B0, D, U, y, bl, hc, hD, hr => by
  simp only [callIn] at hc
  split at hc
  ·rename_i id hid
   split at hc
   ·rename_i t' xv bs hlk
    split at hc
    ·rename_i x1 y1 B1 D1 U1 h1 h2
     cases hc
     obtain ⟨v, rest, b1, b2, hv, rfl, ⟨g, T, arr, ⟨kb1, kb2⟩, k1, rfl⟩, k2⟩ := hr
     rw [List.map_cons] at hv
     obtain ⟨rfl, rfl⟩ := List.cons.inj hv
     have hev := hρ o List.mem_cons_self
     rw [hid] at hev
     obtain ⟨_, g', e1, e2⟩ := hev
     have hg : g' = g := by rw [e2] at kb1; cases kb1; rfl
     subst hg
     obtain ⟨L, l1, l2, l3, l4, l5⟩ := callNew_rel (B := B) h ps os (fun o ho => hρ o (List.mem_cons_of_mem _ ho)) y1 B1 D1 U y.2 b2 h2 (List.nodup_cons.1 hD).2 k2
     refine ⟨(id, .whole t y.1 B, val o) :: L, by simp [callNew, hid, Ent.two, l1], ⟨by simpa using l2.1, fun k hk => by rcases List.mem_cons.1 hk with rfl | hk; exact .inr List.mem_cons_self; exact (l2.2 k hk).imp (fun h => h) (fun h => List.mem_cons_of_mem _ h)⟩, by simp [l3, kb1, oneBlk, blkOf], ?_, fun e' he => ?_⟩
     ·intro own' E' hst hhf hok e' he
      rcases List.mem_cons.1 he with rfl | he
      ·exact ⟨g', T, arr, by rw [(hst _ List.mem_cons_self).2]; exact kb1, kb2, Rep_mono (fun _ _ _ h => h) hok k1⟩
      ·exact l4 own' E' (fun e he => hst e (List.mem_cons_of_mem _ he)) hhf hok e' he
     ·rcases List.mem_cons.1 he with rfl | he
      ·exact .inr ⟨_, hlk, trivial, by rw [e1]; exact kb1, fun _ => rfl⟩
      ·exact l5 e' he
    ·cases hc
   ·cases hc
  ·cases hc
 | .bc l :: ps, o :: os, hρ, x0, B0, D, U, y, bl, hc, hD, hr => by
  simp only [callIn] at hc
  split at hc
  ·rename_i id hid
   split at hc
   ·rename_i rs hlk
    split at hc
    ·rename_i x1 bb1 J1 y1 B1 D1 U1 h1 h2
     cases hc
     obtain ⟨v, rest, b1, b2, hv, rfl, ⟨g, T, arr, ⟨kb1, kb2⟩, k1, rfl⟩, k2⟩ := hr
     rw [List.map_cons] at hv
     obtain ⟨rfl, rfl⟩ := List.cons.inj hv
     have hev := hρ o List.mem_cons_self
     rw [hid] at hev
     obtain ⟨_, g', e1, e2⟩ := hev
     have hg : g' = g := by rw [e2] at kb1; cases kb1; rfl
     subst hg
     have hD2 := (List.nodup_cons.1 hD).2
     rw [List.nodup_append] at hD2
     obtain ⟨M, m1, m2, m3, m4, m5, m6⟩ := cellsNew_rel (w' := w') (okA := okA) (B := B) (fun _ _ h => h) l rs x1 bb1 J1 y.1 arr.toList h1 k1
     obtain ⟨L, l1, l2, l3, l4, l5⟩ := callNew_rel (B := B) h ps os (fun o ho => hρ o (List.mem_cons_of_mem _ ho)) y1 B1 D1 U1 y.2 b2 h2 hD2.2.1 k2
     refine ⟨(id, .cells (cellsVal B l rs y.1), val o) :: (M ++ L), by simp [callNew, hid, hlk, Ent.two, l1, m1], ⟨by simpa [m2] using l2.1.append_left J1, fun k hk => by
       rcases List.mem_cons.1 hk with rfl | hk
       ·exact .inr List.mem_cons_self
       ·rcases List.mem_append.1 hk with hk | hk
        ·exact .inl (List.mem_append.2 (.inl hk))
        ·rcases l2.2 k hk with h | h
         ·exact .inl (List.mem_append.2 (.inr h))
         ·refine .inr (List.mem_cons_of_mem _ ?_)
          rw [List.map_append]
          exact List.mem_append.2 (.inr h)⟩, by simp [l3, m3, kb1, oneBlk, blkOf], ?_, fun e' he => ?_⟩
     ·intro own' E' hst hhf hok e' he
      have hstM : Stand M own' E' := fun e he => hst e (List.mem_cons_of_mem _ (List.mem_append.2 (.inl he)))
      rcases List.mem_cons.1 he with rfl | he
      ·exact ⟨g', T, arr, by rw [(hst _ List.mem_cons_self).2]; exact kb1, kb2, by simpa using m5, fun i r u hi hu => m6 own' E' hstM hhf hok i r u hi (by simpa using hu)⟩
      ·rcases List.mem_append.1 he with he | he
       ·exact m4 own' E' hstM hhf hok e' he
       ·exact l4 own' E' (fun e he => hst e (List.mem_cons_of_mem _ (List.mem_append.2 (.inr he)))) hhf hok e' he
     ·rcases List.mem_cons.1 he with rfl | he
      ·exact .inr ⟨_, hlk, trivial, by rw [e1]; exact kb1, fun _ => rfl⟩
      ·rcases List.mem_append.1 he with he | he
       ·left
        refine List.mem_append.2 (.inl ?_)
        rw [← m2]
        exact List.mem_map.2 ⟨e', he, rfl⟩
       ·rcases l5 e' he with h5 | h5
        ·exact .inl (List.mem_append.2 (.inr h5))
        ·exact .inr h5
    ·cases hc
   ·cases hc
  ·cases hc
theorem HCRel_one {ok : Nat → Prop} {vs0 : List Value} : ∀ (l : List CK) (x : HC N.ρ l) (us : List Value), HCRel w ok vs0 l x us → ∀ u ∈ us, u.oneCell' = true
 | [], x, us, h, u, hu => by rw [show us = [] from h] at hu; cases hu
 | .c t :: l, x, us, h, u, hu => by
  obtain ⟨u0, rest, rfl, k1, k2⟩ := h
  rcases List.mem_cons.1 hu with rfl | hu
  ·exact Rep_one (show Rep w ok t x.1 [u] from k1) u (by simp)
  ·exact HCRel_one l x.2 rest k2 u hu
 | .o el e :: l, x, us, h, u, hu => by
  obtain ⟨u0, rest, rfl, k1, k2⟩ := h
  rcases List.mem_cons.1 hu with rfl | hu
  ·obtain ⟨cells, c1, _⟩ := k1
   rcases c1.2.2 with ⟨hv, _⟩ | ⟨g, cap, cur, hv, _⟩ <;> (rw [hv]; rfl)
  ·exact HCRel_one l x.2 rest k2 u hu
 | .f f js :: l, x, us, h, u, hu => by
  obtain ⟨u0, rest, rfl, k1, k2⟩ := h
  rcases List.mem_cons.1 hu with rfl | hu
  ·rw [show u = _ from k1]; rfl
  ·exact HCRel_one l x.2 rest k2 u hu
theorem resCells_rel {okA : Nat → Prop} {B : List Nat} {d j : Nat} : ∀ (l : List CK) (i : Nat) (y : HC N.ρ l) (us : List Value), HCRel w' okA [] l y us →
  ∃ L : List (Ent N), L.map Ent.two = resCellNew B d j i l y ∧ L.map (·.1) = resCellIds d j i l ∧ HCBlk l us = L.flatMap (fun e => oneBlk e.2.2) ∧ us.length = (resCells B d j i l y).length ∧
   ∀ own' E', Stand L own' E' → (∀ g, okA g → okb w'.heap.size own' E' B g) → (∀ e ∈ L, BlkRel w' own' E' e.1 e.2.1) ∧ ∀ (k : Nat) r u, (resCells B d j i l y)[k]? = some r → us[k]? = some u → RVRel w' own' E' r u
 | [], i, y, us, h => by
  rw [show us = [] from h]
  exact ⟨[], rfl, rfl, rfl, rfl, fun _ _ _ _ => ⟨(fun e he => by cases he), fun k r u hk _ => by simp [resCells] at hk⟩⟩
 | .c t :: l, i, y, us, h => by
  obtain ⟨u, rest, rfl, k1, k2⟩ := h
  obtain ⟨L, l1, l2, l3, l4, l5⟩ := resCells_rel (B := B) (d := d) (j := j) l (i + 1) y.2 rest k2
  refine ⟨L, l1, l2, by simpa [HCBlk, CKBlk] using l3, by simp [resCells, l4], fun own' E' hst hok => ?_⟩
  obtain ⟨m1, m2⟩ := l5 own' E' hst hok
  refine ⟨m1, fun k r u' hk hu => ?_⟩
  cases k with
  | zero =>
   simp only [resCells, List.getElem?_cons_zero, Option.some.injEq] at hk hu
   subst hk hu
   have hrep : Rep w' okA t y.1 [u] := k1
   cases t with
   | nm n => trivial
   | _ => exact ofDen_rel (Rep_flatB (Rep_mono (fun _ _ _ h => h) hok hrep)) rfl
  | succ k => exact m2 k r u' (by simpa [resCells] using hk) (by simpa using hu)
 | .o el e :: l, i, y, us, h => by
  obtain ⟨u, rest, rfl, k1, k2⟩ := h
  obtain ⟨L, l1, l2, l3, l4, l5⟩ := resCells_rel (B := B) (d := d) (j := j) l (i + 1) y.2 rest k2
  refine ⟨(rid d j i, .row el e y.1 (flatB N e B) false, u) :: L, by simp [resCellNew, Ent.two, l1], by simp [resCellIds, l2], by simp [HCBlk, CKBlk, l3], by simp [resCells, l4], fun own' E' hst hok => ?_⟩
  obtain ⟨m1, m2⟩ := l5 own' E' (fun e he => hst e (List.mem_cons_of_mem _ he)) hok
  obtain ⟨s1, s2⟩ := hst _ List.mem_cons_self
  refine ⟨fun e' he => ?_, fun k r u' hk hu => ?_⟩
  ·rcases List.mem_cons.1 he with rfl | he
   ·exact flatB_blk (ownAt_blk k1 s2 hok)
   ·exact m1 e' he
  ·cases k with
   | zero =>
    simp only [resCells, List.getElem?_cons_zero, Option.some.injEq] at hk hu
    subst hk hu
    exact ⟨s2.symm, y.1.length, e, el, y.1, flatB N e B, false, s1, rfl⟩
   | succ k => exact m2 k r u' (by simpa [resCells] using hk) (by simpa using hu)
 | .f f js :: l, i, y, us, h => by
  obtain ⟨u, rest, rfl, k1, k2⟩ := h
  obtain ⟨L, l1, l2, l3, l4, l5⟩ := resCells_rel (B := B) (d := d) (j := j) l (i + 1) y.2 rest k2
  refine ⟨L, l1, l2, by simpa [HCBlk, CKBlk] using l3, by simp [resCells, l4], fun own' E' hst hok => ?_⟩
  obtain ⟨m1, m2⟩ := l5 own' E' hst hok
  refine ⟨m1, fun k r u' hk hu => ?_⟩
  cases k with
  | zero =>
   simp only [resCells, List.getElem?_cons_zero, Option.some.injEq] at hk hu
   subst hk hu
   cases js with
   | nil => exact ⟨k1, fun id hid => by cases hid⟩
   | cons j js => trivial
  | succ k => exact m2 k r u' (by simpa [resCells] using hk) (by simpa using hu)
theorem res_rel {okA : Nat → Prop} {B : List Nat} {d : Nat} : ∀ (rs : List RK) (j : Nat) (y : HRes N.ρ rs) (us : List Value) (rl : List Nat), ResRel w' okA rs y us rl →
  ∃ L : List (Ent N), L.map Ent.two = resNew B d rs j y ∧ L.map (·.1) = resIds d rs j ∧ rl = L.flatMap (fun e => oneBlk e.2.2) ∧ EntRel w' okA B (fun _ _ => True) L ∧ us.length = (resSlots B d rs j y).length ∧
   ∀ own' E', Stand L own' E' → (∀ g, okA g → okb w'.heap.size own' E' B g) → ∀ (i : Nat) r u, (resSlots B d rs j y)[i]? = some r → us[i]? = some u → RVRel w' own' E' r u
 | [], j, y, us, rl, h => by
  obtain ⟨rfl, rfl⟩ := h
  exact ⟨[], rfl, rfl, rfl, (fun _ _ _ _ _ e he => by cases he), rfl, fun _ _ _ _ i r u hi _ => by simp [resSlots] at hi⟩
 | .v t :: rs, j, y, us, rl, h => by
  obtain ⟨v, rest, b1, b2, rfl, rfl, ⟨⟨cs, k1, k2⟩, rfl⟩, k3⟩ := h
  obtain ⟨L, l1, l2, l3, l4, l5, l6⟩ := res_rel (B := B) (d := d) rs (j + 1) y.2 rest b2 k3
  refine ⟨L, l1, l2, by simpa using l3, l4, by simp [resSlots, l5], fun own' E' hst hok i r u hi hu => ?_⟩
  cases i with
  | zero =>
   simp only [resSlots, List.getElem?_cons_zero, Option.some.injEq] at hi hu
   subst hi hu
   exact ofDen_rel (Rep_flatB (Rep_mono (fun _ _ _ h => h) hok k1)) k2
  | succ i => exact l6 own' E' hst hok i r u (by simpa [resSlots] using hi) (by simpa using hu)
 | .own el e :: rs, j, y, us, rl, h => by
  obtain ⟨v, rest, b1, b2, rfl, rfl, ⟨k1, rfl⟩, k3⟩ := h
  obtain ⟨L, l1, l2, l3, l4, l5, l6⟩ := res_rel (B := B) (d := d) rs (j + 1) y.2 rest b2 k3
  refine ⟨(1000 + d + 10000 * j, .row el e y.1 (flatB N e B) false, v) :: L, by simp [resNew, Ent.two, l1], by simp [resIds, l2], by simp [l3], ?_, by simp [resSlots, l5], fun own' E' hst hok i r u hi hu => ?_⟩
  ·intro own' E' hst hhf hok e' he
   rcases List.mem_cons.1 he with rfl | he
   ·exact flatB_blk (ownAt_blk k1 (hst _ List.mem_cons_self).2 hok)
   ·exact l4 own' E' (fun e he => hst e (List.mem_cons_of_mem _ he)) hhf hok e' he
  ·cases i with
   | zero =>
    simp only [resSlots, List.getElem?_cons_zero, Option.some.injEq] at hi hu
    subst hi hu
    obtain ⟨s1, s2⟩ := hst _ List.mem_cons_self
    exact ⟨s2.symm, y.1.length, e, el, y.1, flatB N e B, false, s1, rfl⟩
   | succ i => exact l6 own' E' (fun e he => hst e (List.mem_cons_of_mem _ he)) hok i r u (by simpa [resSlots] using hi) (by simpa using hu)
 | .ag n l :: rs, j, y, us, rl, h => by
  obtain ⟨v, rest, b1, b2, rfl, rfl, ⟨cs, k1, k1', rfl⟩, k3⟩ := h
  obtain ⟨L, l1, l2, l3, l4, l5, l6⟩ := res_rel (B := B) (d := d) rs (j + 1) y.2 rest b2 k3
  obtain ⟨M, m1, m2, m3, m4, m5⟩ := resCells_rel (B := B) (d := d) (j := j) l 0 y.1 cs k1'
  have hvals : ∀ own' E', Stand ((1000 + d + 10000 * j, .vals n (resCells B d j 0 l y.1), v) :: (M ++ L)) own' E' → Stand M own' E' := fun own' E' hst e he => hst e (List.mem_cons_of_mem _ (List.mem_append.2 (.inl he)))
  refine ⟨(1000 + d + 10000 * j, .vals n (resCells B d j 0 l y.1), v) :: (M ++ L), by simp [resNew, Ent.two, l1, m1], by simp [resIds, l2, m2], by simp [l3, m3, k1, oneBlk, blkOf], ?_, by simp [resSlots, l5], fun own' E' hst hok i r u hi hu => ?_⟩
  ·intro own' E' hst hhf hok e' he
   obtain ⟨n1, n2⟩ := m5 own' E' (hvals own' E' hst) hok
   rcases List.mem_cons.1 he with rfl | he
   ·exact ⟨cs.toArray, (hst _ List.mem_cons_self).2.trans k1, by simpa using m4, fun u hu => HCRel_one l y.1 cs k1' u (by simpa using hu), fun i r u hi hu => n2 i r u hi (by simpa using hu)⟩
   ·rcases List.mem_append.1 he with he | he
    ·exact n1 e' he
    ·exact l4 own' E' (fun e he => hst e (List.mem_cons_of_mem _ (List.mem_append.2 (.inr he)))) trivial hok e' he
  ·cases i with
   | zero =>
    simp only [resSlots, List.getElem?_cons_zero, Option.some.injEq] at hi hu
    subst hi hu
    obtain ⟨s1, s2⟩ := hst _ List.mem_cons_self
    exact ⟨.inr (.inr (.inr ⟨n, _, s1⟩)), s2.symm⟩
   | succ i => exact l6 own' E' (fun e he => hst e (List.mem_cons_of_mem _ (List.mem_append.2 (.inr he)))) hok i r u (by simpa [resSlots] using hi) (by simpa using hu)
end Go.Eng

set_option linter.unusedVariables false
set_option linter.unusedSimpArgs false
namespace Go.Eng
variable {N : Names} {io : Io} {w0 w w' : World} {σ : St N} {E : Env} {a : Act} {P : Program}
theorem mem_oneBlk {v : Value} {g : Nat} : g ∈ oneBlk v ↔ blkOf v = some g := by
 unfold oneBlk
 cases blkOf v with
 | none => simp
 | some b =>
  simp only [Option.toList, List.mem_singleton, Option.some.injEq]
  exact eq_comm
def valOf : List (Ent N) → Nat → Value
 | [], _ => .tuple #[]
 | e :: l, i => if e.1 = i then e.2.2 else valOf l i
theorem ent_look : ∀ {L : List (Ent N)}, (L.map (·.1)).Nodup → ∀ e ∈ L, look (L.map Ent.two) e.1 = some e.2.1 ∧ valOf L e.1 = e.2.2
 | [], _, e, he => by cases he
 | x :: L, hn, e, he => by
  rw [List.map_cons, List.nodup_cons] at hn
  rcases List.mem_cons.1 he with rfl | he
  ·exact ⟨by simp [look, Ent.two], by simp [valOf]⟩
  ·have hne : x.1 ≠ e.1 := fun h => hn.1 (List.mem_map.2 ⟨e, he, h.symm⟩)
   obtain ⟨h1, h2⟩ := ent_look hn.2 e he
   have : (x.1 == e.1) = false := by simpa using hne
   exact ⟨by simp only [List.map_cons, look, Ent.two, this, cond_false]; exact h1, by simp only [valOf, if_neg hne]; exact h2⟩
theorem look_ent : ∀ {L : List (Ent N)} {i : Nat} {b : Blk N}, look (L.map Ent.two) i = some b → ∃ e ∈ L, e.1 = i ∧ e.2.1 = b
 | [], _, _, h => by cases h
 | x :: L, i, b, h => by
  simp only [List.map_cons, look, Ent.two] at h
  cases hx : (x.1 == i) with
  | true =>
   rw [hx] at h
   cases h
   exact ⟨x, List.mem_cons_self, by simpa using hx, rfl⟩
  | false =>
   rw [hx] at h
   obtain ⟨e, he, h1, h2⟩ := look_ent (L := L) h
   exact ⟨e, List.mem_cons_of_mem _ he, h1, h2⟩
theorem ent_sep : ∀ {L : List (Ent N)}, (L.flatMap fun e => oneBlk e.2.2).Nodup → ∀ e ∈ L, ∀ e' ∈ L, e.1 ≠ e'.1 → ∀ g, blkOf e.2.2 = some g → blkOf e'.2.2 ≠ some g
 | [], _, e, he, _, _, _, _, _ => by cases he
 | x :: L, hn, e, he, e', he', hne, g, hg => by
  rw [List.flatMap_cons, List.nodup_append] at hn
  rcases List.mem_cons.1 he with rfl | he
  ·rcases List.mem_cons.1 he' with rfl | he'
   ·exact absurd rfl hne
   ·intro hg'
    exact hn.2.2 g (mem_oneBlk.2 hg) g (List.mem_flatMap.2 ⟨e', he', mem_oneBlk.2 hg'⟩) rfl
  ·rcases List.mem_cons.1 he' with rfl | he'
   ·rename_i he2
    intro hg'
    exact hn.2.2 g (mem_oneBlk.2 hg') g (List.mem_flatMap.2 ⟨e, he2, mem_oneBlk.2 hg⟩) rfl
   ·exact ent_sep hn.2.1 e he e' he' hne g hg
theorem killD_nil (r : RV N) : killD [] [] r = r := by
 have h1 : ∀ l, meets [] l = false := fun l => by
  unfold meets
  rw [List.any_eq_false]
  intro i _
  simp
 simp [killD, h1]
theorem killDB_nil (b : Blk N) : killDB [] [] b = b := by
 cases b with
 | cells l =>
  simp only [killDB, Blk.map]
  rw [List.map_congr_left (fun r _ => killD_nil r), List.map_id']
 | vals n l =>
  simp only [killDB, Blk.map]
  rw [List.map_congr_left (fun r _ => killD_nil r), List.map_id']
 | _ => rfl
theorem slotKill_nil (s : Slot N) : s.map (killD [] []) = s := by
 cases s with
 | one r => simp [Slot.map, killD_nil]
 | tup l =>
  simp only [Slot.map]
  rw [List.map_congr_left (fun r _ => killD_nil r), List.map_id']
theorem havR_eq {D U : List Nat} (hU : D = [] → U = []) (σ : St N) (new : List (Nat × Blk N)) :
  havR D U σ new = { regs := σ.regs.map (Slot.map (killD D U)), own := insAll new (delL D (mapO (killDB D U) σ.own)) } := by
 cases D with
 | nil =>
  rw [hU rfl]
  have h1 : σ.regs.map (Slot.map (killD [] [])) = σ.regs := by rw [List.map_congr_left (fun s _ => slotKill_nil s), List.map_id']
  have h2 : mapO (killDB [] []) σ.own = σ.own := by
   unfold mapO
   rw [List.map_congr_left (g := fun p => p) (fun p _ => by rw [killDB_nil]), List.map_id']
  rw [h1, h2]
  rfl
 | cons i r => rfl
theorem nodup_blks (h : RelE io w0 σ E a w) : ∀ {D : List Nat}, D.Nodup → (∀ id ∈ D, ∃ b, look σ.own id = some b) → (D.flatMap fun id => oneBlk (E id)).Nodup
 | [], _, _ => List.nodup_nil
 | i :: D, hn, hs => by
  rw [List.nodup_cons] at hn
  rw [List.flatMap_cons, List.nodup_append]
  refine ⟨?_, nodup_blks h hn.2 (fun id hid => hs id (List.mem_cons_of_mem _ hid)), ?_⟩
  ·unfold oneBlk
   cases blkOf (E i) <;> simp
  ·intro g hg g' hg' e
   subst e
   obtain ⟨j, hj, hg2⟩ := List.mem_flatMap.1 hg'
   obtain ⟨bi, hbi⟩ := hs i List.mem_cons_self
   obtain ⟨bj, hbj⟩ := hs j (List.mem_cons_of_mem _ hj)
   exact h.sep i j bi bj hbi hbj (fun e => hn.1 (e ▸ hj)) g (mem_oneBlk.1 hg) (mem_oneBlk.1 hg2)
theorem packRel {l : List (RV N)} {us : List Value} {own : List (Nat × Blk N)} (hl : us.length = l.length) (h : ∀ (i : Nat) r u, l[i]? = some r → us[i]? = some u → RVRel w own E r u) : SlotRel w own E (packS l) (packV us) := by
 match l, us, hl with
 | [], [], _ => exact ⟨[], rfl, rfl, fun i r u hi _ => by simp at hi⟩
 | [r], [u], _ => exact h 0 r u rfl rfl
 | r :: r2 :: l, u :: u2 :: us, hl => exact ⟨u :: u2 :: us, rfl, hl, h⟩
theorem evCall_sound {β ι : Type} {S : Spec N} {f : FuncId} (hg : Good P f S) {σ : St N} {ρ : ι → RV N} {os : List ι} {dst : Option Nat} {k : Slot N → St N → Option β} {r : β} (h : evCall S σ ρ os dst k = some r) :
  ∃ s σ', k s σ' = some r ∧ σ'.regs.length = σ.regs.length ∧ ∀ io w0 E a w (val : ι → Value), RelE io w0 σ E a w → (∀ o ∈ os, RVRel w σ.own E (ρ o) (val o)) → Calls P f ((os.map val).take (S.ps.length - S.gh)).toArray w fun e w' => ∃ v E', e = .returned v ∧ RelE io w0 σ' E' a w' ∧ SlotRel w' σ'.own E' s v := by
 unfold evCall at h
 split at h
 ·cases h
 ·rename_i x B D U hc
  obtain ⟨hcond, h⟩ := bif_none h
  simp only [Bool.and_eq_true, Bool.not_eq_true'] at hcond
  obtain ⟨⟨⟨⟨hD, hDB⟩, hno⟩, hfr⟩, hrn⟩ := hcond
  have hrn := nodupB_spec hrn
  have hD := nodupB_spec hD
  have hDB := meets_false hDB
  obtain ⟨y, hy, hk⟩ := Option.bind_eq_some_iff.1 h
  refine ⟨_, _, hk, ?_, fun io w0 E a w val hr hρ => ?_⟩
  ·cases D <;> simp [havR]
  obtain ⟨c1, c2, c3⟩ := callIn_rel hr (B0 := B) hρ S.ps os hρ x B D U hc (fun _ h => h)
  have hcall := hg.calls w (okb w.heap.size σ.own E B) x (os.map val) _ y (fun b hb => hb.1.1) c1 (nodup_blks hr hD c2) (fun g hg => by
   obtain ⟨d, hd, hg2⟩ := List.mem_flatMap.1 hg
   obtain ⟨bd, hbd⟩ := c2 d hd
   refine ⟨fun hok => hok.2 d (by rw [hbd]; rfl) (fun hm => hDB d hm hd) (mem_oneBlk.1 hg2), (hr.blk d bd hbd g (mem_oneBlk.1 hg2)).1⟩) hy
  refine hcall.mono ?_
  rintro e w' ⟨us, bl', rl, rfl, hA⟩
  obtain ⟨L1, a1, a2, a3, a4, a5⟩ := callNew_rel (w' := w') (B := B) hr S.ps os hρ x B D U _ bl' hc hD hA.out
  obtain ⟨L2, b1, b2, b3, b4, b5, b6⟩ := res_rel (w' := w') (B := B) (d := dst.getD 0) S.rs 0 _ us rl hA.res
  have hres := freshIds_spec hfr
  have hids : ((L1 ++ L2).map (·.1)).Nodup := by
   rw [List.map_append, b2, List.nodup_append]
   refine ⟨hD.sublist a2.1, hrn, fun i hi j hj e => ?_⟩
   subst e
   obtain ⟨b, hb⟩ := c2 i (a2.1.subset hi)
   rw [hres i hj] at hb
   cases hb
  have hnew : (L1 ++ L2).map Ent.two = callNew σ.own ρ B S.ps os (S.out y).2 ++ resNew B (dst.getD 0) S.rs 0 (S.out y).1 := by
   rw [List.map_append, a1, b1]
  have hblks : ((L1 ++ L2).flatMap fun e => oneBlk e.2.2) = bl' ++ rl := by
   rw [List.flatMap_append, ← a3, ← b3]
  have hinD : ∀ e ∈ L1, e.1 ∈ D := fun e he => a2.1.subset (List.mem_map.2 ⟨e, he, rfl⟩)
  have hinR : ∀ e ∈ L2, e.1 ∈ resIds (dst.getD 0) S.rs 0 := fun e he => by rw [← b2]; exact List.mem_map.2 ⟨e, he, rfl⟩
  rw [← hnew, havR_eq (D := D) (U := U) (fun e => by
   subst e
   cases U with
   | nil => rfl
   | cons i U => exact absurd (c3 i List.mem_cons_self).1 (by simp))]
  generalize hnw : (L1 ++ L2).map Ent.two = new at *
  have hin : ∀ e ∈ L1 ++ L2, look new e.1 = some e.2.1 ∧ valOf (L1 ++ L2) e.1 = e.2.2 := by
   intro e he
   have := ent_look hids e he
   rw [hnw] at this
   exact this
  have hof : ∀ id b, look new id = some b → ∃ e ∈ L1 ++ L2, e.1 = id ∧ e.2.1 = b ∧ valOf (L1 ++ L2) id = e.2.2 := by
   intro id b hb
   rw [← hnw] at hb
   obtain ⟨e, he, rfl, rfl⟩ := look_ent hb
   exact ⟨e, he, rfl, rfl, (hin e he).2⟩
  have hsep := ent_sep (L := L1 ++ L2) (by rw [hblks]; exact hA.nodup)
  have hold : ∀ g ∈ bl' ++ rl, g < w'.heap.size ∧ ((∃ d ∈ D, (look σ.own d).isSome = true ∧ blkOf (E d) = some g) ∨ w.heap.size ≤ g) := by
   intro g hg
   refine ⟨(hA.old g hg).2, ?_⟩
   rcases (hA.old g hg).1 with h1 | h1
   ·obtain ⟨d, hd, hg2⟩ := List.mem_flatMap.1 h1
    obtain ⟨bd, hbd⟩ := c2 d hd
    exact .inl ⟨d, hd, by rw [hbd]; rfl, mem_oneBlk.1 hg2⟩
   ·exact .inr h1
  have hN : NewOk σ.own E D U new (valOf (L1 ++ L2)) w w' := by
   refine ⟨?_, ?_, ?_, ?_, fun id hid b hb => (c3 id hid).2 b hb⟩
   ·intro id b hb g hg
    obtain ⟨e, he, rfl, rfl, hv⟩ := hof id b hb
    rw [hv] at hg
    exact hold g (by rw [← hblks]; exact List.mem_flatMap.2 ⟨e, he, mem_oneBlk.2 hg⟩)
   ·intro id id' b b' hb hb' hne g hg
    obtain ⟨e, he, rfl, rfl, hv⟩ := hof id b hb
    obtain ⟨e', he', rfl, rfl, hv'⟩ := hof id' b' hb'
    rw [hv] at hg
    rw [hv']
    exact hsep e he e' he' hne g hg
   ·intro id b hb
    obtain ⟨e, he, rfl, rfl, hv⟩ := hof id b hb
    rcases List.mem_append.1 he with he | he
    ·exact .inl (hinD e he)
    ·exact .inr (hres _ (hinR e he))
   ·intro id hid hU b hb
    have hid := (a2.2 id hid).resolve_left hU
    obtain ⟨e, he, rfl⟩ := List.mem_map.1 hid
    obtain ⟨h1, h2⟩ := hin e (List.mem_append.2 (.inl he))
    rcases a5 e he with h3 | ⟨b0, h3, h4, h5, h6⟩
    ·exact absurd h3 hU
    ·rw [hb] at h3
     cases h3
     exact ⟨_, h1, h4, by rw [h2, h5], h6⟩
  have hH : HavocW σ.own E D w w' := by
   refine ⟨hA.kept.os, hA.kept.tape, hA.kept.output, hA.kept.size, fun g hg hd => hA.kept.block g hg (fun hm => ?_)⟩
   obtain ⟨d, hdd, hg2⟩ := List.mem_flatMap.1 hm
   obtain ⟨bd, hbd⟩ := c2 d hdd
   exact hd d hdd (by rw [hbd]; rfl) (mem_oneBlk.1 hg2)
  have hlook : ∀ j, look (insAll new (delL D (mapO (killDB D U) σ.own))) j = match look new j with
    | some b => some b
    | none => if j ∈ D then none else (look σ.own j).map (killDB D U) := by
   intro j
   rw [look_insAll, look_delL, look_mapO]
   cases look new j <;> rfl
  have hst : ∀ e ∈ L1 ++ L2, look (insAll new (delL D (mapO (killDB D U) σ.own))) e.1 = some e.2.1 ∧ envOf E new (valOf (L1 ++ L2)) e.1 = e.2.2 := by
   intro e he
   obtain ⟨h1, h2⟩ := hin e he
   exact ⟨by rw [hlook, h1], by rw [envOf_new h1, h2]⟩
  have hok : ∀ g, okAfter (okb w.heap.size σ.own E B) w w' (D.flatMap fun id => oneBlk (E id)) (bl' ++ rl) g → okb w'.heap.size (insAll new (delL D (mapO (killDB D U) σ.own))) (envOf E new (valOf (L1 ++ L2))) B g := by
   rintro g ⟨g1, g2, g3⟩
   refine ⟨⟨g1, ?_⟩, fun id hid hB => ?_⟩
   ·show E.A g
    rcases g2 with g2 | g2 | g2
    ·exact g2.1.2
    ·obtain ⟨d, hd, hg2⟩ := List.mem_flatMap.1 g2
     obtain ⟨bd, hbd⟩ := c2 d hd
     rw [hr.sc]
     exact hr.nw g (hr.blk d bd hbd g (mem_oneBlk.1 hg2)).2
    ·rw [hr.sc]
     exact hr.nw g (.inl (Nat.le_trans hr.kept.size g2))
   ·cases hl : look new id with
    | some b =>
     obtain ⟨e, he, rfl, rfl, hv⟩ := hof id b hl
     rw [envOf_new hl, hv]
     intro hg
     exact g3 (by rw [← hblks]; exact List.mem_flatMap.2 ⟨e, he, mem_oneBlk.2 hg⟩)
    | none =>
     rw [envOf_old hl]
     rw [hlook, hl] at hid
     simp only at hid
     by_cases hidD : id ∈ D
     ·rw [if_pos hidD] at hid; cases hid
     ·rw [if_neg hidD] at hid
      have hs : (look σ.own id).isSome = true := by
       cases h : look σ.own id with
       | none => rw [h] at hid; cases hid
       | some b => rfl
      intro hg
      rcases g2 with g2 | g2 | g2
      ·exact g2.2 id hs hB hg
      ·obtain ⟨d, hd, hg2⟩ := List.mem_flatMap.1 g2
       obtain ⟨bd, hbd⟩ := c2 d hd
       obtain ⟨b, hb⟩ := Option.isSome_iff_exists.1 hs
       exact hr.sep id d b bd hb hbd (fun e => hidD (e ▸ hd)) g hg (mem_oneBlk.1 hg2)
      ·obtain ⟨b, hb⟩ := Option.isSome_iff_exists.1 hs
       have := (hr.blk id b hb g hg).1
       omega
  have hfk : FkOk w' (fnIs ρ os) (os.map val) (insAll new (delL D (mapO (killDB D U) σ.own))) (envOf E new (valOf (L1 ++ L2))) := by
   intro f' js r' hf'
   unfold fnIs at hf'
   split at hf'
   ·rename_i f'' caps
    simp only [Bool.and_eq_true] at hf'
    obtain ⟨hf1, hf2⟩ := hf'
    obtain rfl := Nat.eq_of_beq_eq_true hf1
    obtain ⟨q1, q2⟩ := capsAre_spec hρ js caps hf2
    have hbx : ∀ c ∈ caps, isBox (insAll new (delL D (mapO (killDB D U) σ.own))) c ∧ envOf E new (valOf (L1 ++ L2)) c = E c ∧ ∃ g, E c = .pointer (some ⟨g, 0, none⟩) := by
     intro c hcm
     obtain ⟨o, ho, hoc⟩ := q2 c hcm
     have hro := hρ o ho
     rw [hoc] at hro
     obtain ⟨hbox, g, e1, e2⟩ := hro
     obtain ⟨b, hb⟩ := isBox_some hbox
     have hbp : b.pinned = true := by
      rcases hbox with ⟨t, x, bs, k1⟩ | ⟨l, k1⟩ | ⟨kt, vt, es, k1⟩ | ⟨n, l, k1⟩ <;> (rw [k1] at hb; cases hb; rfl)
     have hcU : c ∉ U := fun hu => by rw [(c3 c hu).2 b hb] at hbp; cases hbp
     have hl := hlook c
     by_cases hcD : c ∈ D
     ·obtain ⟨b', n1, n2, n3, _⟩ := hN.stay c hcD hcU b hb
      refine ⟨?_, by rw [envOf_new n1, n3], g, e1⟩
      rw [n1] at hl
      cases b' with
      | row e' t' xs' bs' p' =>
       rcases hbox with ⟨t, x, bs, k1⟩ | ⟨l, k1⟩ | ⟨kt, vt, es, k1⟩ | ⟨n, l, k1⟩ <;> (rw [k1] at hb; cases hb; exact n2.elim)
      | whole t x bs => exact .inl ⟨t, x, bs, hl⟩
      | cells l => exact .inr (.inl ⟨l, hl⟩)
      | mapB kt vt es => exact .inr (.inr (.inl ⟨kt, vt, es, hl⟩))
      | vals n l => exact .inr (.inr (.inr ⟨n, l, hl⟩))
     ·have hnn : look new c = none := by
       cases hn : look new c with
       | none => rfl
       | some b' =>
        rcases hN.fresh c b' hn with h1 | h1
        ·exact absurd h1 hcD
        ·rw [hb] at h1; cases h1
      refine ⟨?_, envOf_old hnn, g, e1⟩
      rw [hnn] at hl
      simp only [if_neg hcD] at hl
      rcases hbox with ⟨t, x, bs, k1⟩ | ⟨l, k1⟩ | ⟨kt, vt, es, k1⟩ | ⟨n, l, k1⟩
      ·rw [k1] at hl; exact .inl ⟨t, x, bs, hl⟩
      ·rw [k1] at hl; exact .inr (.inl ⟨_, hl⟩)
      ·rw [k1] at hl; exact .inr (.inr (.inl ⟨kt, vt, es, hl⟩))
      ·rw [k1] at hl; exact .inr (.inr (.inr ⟨_, _, hl⟩))
    refine ⟨?_, fun c hcm => ⟨(hbx c hcm).1, (hbx c hcm).2.2.imp fun g hg => (hbx c hcm).2.1.trans hg⟩⟩
    unfold closV
    rw [← q1, List.map_congr_left (fun c hcm => (hbx c hcm).2.1)]
   ·cases hf'
  have hrel := hr.havoc hH hN (noBsD_spec hno) (fun id b hb => by
   obtain ⟨e, he, rfl, rfl, hv⟩ := hof id b hb
   rcases List.mem_append.1 he with he' | he'
   ·exact a4 _ _ (fun e he => hst e (List.mem_append.2 (.inl he))) hfk hok e he'
   ·exact b4 _ _ (fun e he => hst e (List.mem_append.2 (.inr he))) trivial hok e he')
  exact ⟨_, _, rfl, hrel, packRel b5 (b6 _ _ (fun e he => hst e (List.mem_append.2 (.inr he))) hok)⟩
end Go.Eng

set_option linter.unusedVariables false
set_option linter.unusedSimpArgs false
namespace Go.Eng
variable {N : Names} {P : Program} {τ : TypeId → Option TI} {β : Type}
def scal : Ty → Bool
 | .int _ => true
 | .bool => true
 | .str => true
 | _ => false
def keyEq : (t : Ty) → t.den N.ρ → t.den N.ρ → Bool
 | .int _, a, b => decide (a = b)
 | .bool, a, b => decide (a = b)
 | .str, a, b => decide (a = b)
 | _, _, _ => false
def mfind {α β : Type} (eq : α → α → Bool) : List (α × β) → α → Option β
 | [], _ => none
 | (k, z) :: r, x => bif eq x k then some z else mfind eq r x
def mset {α β : Type} (eq : α → α → Bool) : List (α × β) → α → β → List (α × β)
 | [], x, y => [(x, y)]
 | (k, z) :: r, x, y => bif eq x k then (x, y) :: r else (k, z) :: mset eq r x y
def hasK {α : Type} : Option α → Bool
 | some _ => true
 | none => false
def orZ {α : Type} : Option α → α → α
 | some x, _ => x
 | none, z => z
def KeyDesc : Ty → TypeDesc → Prop
 | .int k, d => d = .int k
 | .bool, d => d = .bool
 | .str, d => d = .string
 | _, _ => False
theorem keyDesc (F : Fits P N τ) {t e : TypeId} {kt : Ty} (h : τ t = some ⟨kt, e⟩) (hs : scal kt = true) : ∃ d, P.underlying t = some d ∧ KeyDesc kt d := by
 cases kt with
 | int k => exact ⟨_, (F.int t k e h).1, rfl⟩
 | bool => exact ⟨_, (F.bool t e h).1, rfl⟩
 | str => exact ⟨_, (F.str t e h).1, rfl⟩
 | _ => cases hs
theorem isKey_of {kt : Ty} {d : TypeDesc} {x : kt.den N.ρ} {v : Value} (hd : KeyDesc kt d) (h : ScalRel kt x v) : MapKept.IsKey d v := by
 cases kt with
 | int k => cases hd; cases h; exact rfl
 | bool => cases hd; cases h; exact trivial
 | str => cases hd; obtain ⟨s, rfl, _⟩ := h; exact trivial
 | _ => exact h.elim
theorem scal_eq {kt : Ty} {x y : kt.den N.ρ} {v u : Value} (hx : ScalRel kt x v) (hy : ScalRel kt y u) : keyEq (N := N) kt x y = true ↔ v = u := by
 cases kt with
 | int k => cases hx; cases hy; simp [keyEq]
 | bool => cases hx; cases hy; simp [keyEq]
 | str =>
  obtain ⟨s, rfl, rfl⟩ := hx
  obtain ⟨s', rfl, rfl⟩ := hy
  simp only [keyEq, decide_eq_true_eq, Value.string.injEq]
  exact ⟨bytesL_inj, fun h => by rw [h]⟩
 | _ => exact hx.elim
theorem find_rel {kt vt : Ty} {d : TypeDesc} (hd : KeyDesc kt d) {x : kt.den N.ρ} {v : Value} (hx : ScalRel kt x v) : ∀ (es : List (kt.den N.ρ × vt.den N.ρ)) (arr : List MapEntry) (i : Nat), MapRel kt vt es arr →
  (mfind (keyEq (N := N) kt) es x = none ∧ Instr.findNow d v arr i = some none ∧ ∀ y u c, ScalRel vt y u → MapRel kt vt (mset (keyEq (N := N) kt) es x y) (arr ++ [⟨v, u, c⟩])) ∨
  ∃ j e z, mfind (keyEq (N := N) kt) es x = some z ∧ Instr.findNow d v arr i = some (some (i + j, e.val)) ∧ arr[j]? = some e ∧ e.key = v ∧ ScalRel vt z e.val ∧ ∀ y u, ScalRel vt y u → MapRel kt vt (mset (keyEq (N := N) kt) es x y) (arr.modify j fun e => { e with key := v, val := u })
 | [], arr, i, h => by
  rw [show arr = [] from h]
  exact .inl ⟨rfl, rfl, fun y u c hu => ⟨_, [], rfl, hx, hu, rfl⟩⟩
 | (k, z) :: xs, arr, i, h => by
  obtain ⟨e, rest, rfl, h1, h2, h3⟩ := h
  have hk := isKey_of hd hx
  have hk' := isKey_of hd h1
  obtain ⟨r, hr, hiff⟩ := MapKept.sameNow_of_keys hk hk'
  have hse := scal_eq hx h1
  cases hke : keyEq (N := N) kt x k with
  | true =>
   have hv : v = e.key := hse.1 hke
   have hrt : r = true := hiff.2 hv
   subst hrt
   refine .inr ⟨0, e, z, by simp [mfind, hke], by simp [Instr.findNow, hr], rfl, hv.symm, h2, fun y u hu => ?_⟩
   simp only [mset, hke, cond_true, List.modify_zero_cons]
   exact ⟨_, rest, rfl, hx, hu, h3⟩
  | false =>
   have hrf : r = false := by
    cases r with
    | false => rfl
    | true =>
     have := hse.2 (hiff.1 rfl)
     rw [hke] at this
     cases this
   subst hrf
   rcases find_rel hd hx xs rest (i + 1) h3 with ⟨q1, q2, q3⟩ | ⟨j, e', z', q1, q2, q3, q4, q5, q6⟩
   ·refine .inl ⟨by simp [mfind, hke, q1], by simp [Instr.findNow, hr, q2], fun y u c hu => ?_⟩
    simp only [mset, hke, cond_false, List.cons_append]
    exact ⟨e, _, rfl, h1, h2, q3 y u c hu⟩
   ·refine .inr ⟨j + 1, e', z', by simp [mfind, hke, q1], by simp [Instr.findNow, hr, q2]; omega, by simpa using q3, q4, q5, fun y u hu => ?_⟩
    simp only [mset, hke, cond_false, List.modify_succ_cons]
    exact ⟨e, _, rfl, h1, h2, q6 y u hu⟩
def toScal (t : Ty) (r : RV N) : Option (t.den N.ρ) :=
 match r with
 | .int k n => castTy N (.int k) t n
 | .bool b => castTy N .bool t b
 | .str l => castTy N .str t l
 | _ => none
theorem toScal_rel {w : World} {own : List (Nat × Blk N)} {E : Env} {t : Ty} {r : RV N} {v : Value} {x : t.den N.ρ} (h : toScal t r = some x) (hr : RVRel w own E r v) : ScalRel t x v := by
 cases r with
 | int k n => obtain ⟨e, rfl⟩ := castTy_some h; subst e; exact hr
 | bool b => obtain ⟨e, rfl⟩ := castTy_some h; subst e; exact hr
 | str l => obtain ⟨e, rfl⟩ := castTy_some h; subst e; exact hr
 | _ => cases h
theorem scal_rv {w : World} {own : List (Nat × Blk N)} {E : Env} {t : Ty} {x : t.den N.ρ} {v : Value} (h : ScalRel t x v) : RVRel w own E (ofDen t x []) v := by
 cases t with
 | int k => exact h
 | bool => exact h
 | str => exact h
 | _ => exact h.elim
def mapTys (τ : TypeId → Option TI) (t : TypeId) : Option (Ty × Ty) :=
 match τ t with
 | some ⟨.opq, e⟩ => bif decide (e = 0) then none else match τ (e / 100000), τ (e % 100000) with
  | some ⟨kt, _⟩, some ⟨vt, _⟩ => bif scal kt && scal vt then some (kt, vt) else none
  | _, _ => none
 | _ => none
theorem mapTys_spec (F : Fits P N τ) {t : TypeId} {kt vt : Ty} (h : mapTys τ t = some (kt, vt)) : ∃ k e ek ee, P.underlying t = some (.map k e) ∧ τ k = some ⟨kt, ek⟩ ∧ τ e = some ⟨vt, ee⟩ ∧ scal kt = true ∧ scal vt = true := by
 unfold mapTys at h
 split at h
 ·rename_i e hτ
  cases he : decide (e = 0) with
  | true => rw [he] at h; cases h
  | false =>
   rw [he] at h
   simp only [cond_false] at h
   split at h
   ·rename_i kt' ek vt' ee h1 h2
    obtain ⟨hs, h⟩ := bif_none h
    cases h
    simp only [Bool.and_eq_true] at hs
    rcases F.mp t e hτ with h0 | h0
    ·exact absurd h0 (by simpa using he)
    ·exact ⟨_, _, _, _, h0, h1, h2, hs.1, hs.2⟩
   ·cases h
 ·cases h
def evMakeMap (τ : TypeId → Option TI) (σ : St N) (t : TypeId) (res : Option Operand) (dst : Option Nat) (k : KK N β) : Option β :=
 match dst with
 | none => none
 | some d => match look σ.own (1000 + d) with
  | some _ => none
  | none => match mapTys τ t with
   | some (kt, vt) => match res with
    | none => k (.one (.mp (1000 + d))) [(1000 + d, .mapB kt vt [])]
    | some o => match ev σ o with
     | .int _ _ => k (.one (.mp (1000 + d))) [(1000 + d, .mapB kt vt [])]
     | _ => none
   | none => none
theorem evMakeMap_sound (F : Fits P N τ) {σ : St N} {t : TypeId} {res : Option Operand} {dst : Option Nat} {k : KK N β} {r : β} (h : evMakeMap τ σ t res dst k = some r) :
  ∃ s ad, k s ad = some r ∧ Does P σ (fun a => Instr.makeMap t (res.map a.eval)) s ad := by
 unfold evMakeMap at h
 split at h
 ·cases h
 ·rename_i d
  split at h
  ·cases h
  ·rename_i hl
   split at h
   ·rename_i kt vt hm
    obtain ⟨kk, ee, ek, ev', hu, _⟩ := mapTys_spec F hm
    have key : (∀ io w0 E a w, RelE io w0 σ E a w → (Instr.makeMap t (res.map a.eval)).run P w = .ok (.map (some w.heap.size)) (w.alloc (.map #[] 0))) →
      k (.one (.mp (1000 + d))) [(1000 + d, .mapB kt vt [])] = some r → ∃ s ad, k s ad = some r ∧ Does P σ (fun a => Instr.makeMap t (res.map a.eval)) s ad := by
     intro hrun hk
     refine ⟨_, _, hk, fun io w0 E a w hr => ?_⟩
     have he := Ext.alloc w (.map #[] 0)
     have hadd := hr.add he (V := .map (some w.heap.size)) (b := .mapB kt vt []) hl (fun g hg => by cases hg; exact ⟨Nat.le_refl _, by simp⟩) ⟨w.heap.size, #[], 0, updE_same _ _ _, heap_alloc_new w _, rfl⟩
     exact ⟨_, _, _, hrun io w0 E a w hr, hadd, .inr (.inr (.inl ⟨kt, vt, [], by rw [show insAll [(1000 + d, Blk.mapB kt vt [])] σ.own = ins _ _ σ.own from rfl, look_ins, if_pos rfl]⟩)), (updE_same _ _ _).symm⟩
    split at h
    ·exact key (fun io w0 E a w hr => rfl) h
    ·rename_i o
     split at h
     ·rename_i k' n hn
      refine key (fun io w0 E a w hr => ?_) h
      have hv := hr.ev o
      rw [hn] at hv
      have hv : a.eval o = .int k' n := hv
      simp [Instr.makeMap, hv, run_underlying hu, asInt, asIntOf]
     ·cases h
   ·cases h
def evLookup (τ : TypeId → Option TI) (own : List (Nat × Blk N)) (t : TypeId) (m x : RV N) (ok : Bool) (k : KK N β) : Option β :=
 match m with
 | .mp id => match look own id with
  | some (.mapB kt vt es) => match mapTys τ t with
   | some (kt', vt') => bif decide (kt' = kt) && decide (vt' = vt) then match toScal kt x with
    | some key => bif ok then k (.tup [ofDen vt (orZ (mfind (keyEq (N := N) kt) es key) (N.dflt vt)) [], .bool (hasK (mfind (keyEq (N := N) kt) es key))]) [] else k (.one (ofDen vt (orZ (mfind (keyEq (N := N) kt) es key) (N.dflt vt)) [])) []
    | none => none
    else none
   | none => none
  | _ => none
 | _ => none
theorem zero_scal (F : Fits P N τ) {t e : TypeId} {vt : Ty} (h : τ t = some ⟨vt, e⟩) (hs : scal vt = true) : ∃ z, (∀ w, (zeroValue t).run P w = .ok z w) ∧ ScalRel vt (N.dflt vt) z := by
 obtain ⟨i, z, zc, h1, h2, h3, h4, h5, h6, h7⟩ := F.info h
 refine ⟨z, fun w => by simp [zeroValue, typeInfo, h1, h2], ?_⟩
 have h7 := h7 default (fun _ => True)
 cases vt with
 | int k =>
  have h6 : zc.toList = [z] := h6
  rw [h6] at h7
  cases h7
  exact rfl
 | bool =>
  have h6 : zc.toList = [z] := h6
  rw [h6] at h7
  cases h7
  exact rfl
 | str =>
  have h6 : zc.toList = [z] := h6
  rw [h6] at h7
  obtain ⟨s, hs, hb⟩ := h7
  cases hs
  exact ⟨s, rfl, hb⟩
 | _ => cases hs
theorem evLookup_sound (F : Fits P N τ) {σ : St N} {t : TypeId} {m x : Operand} {ok : Bool} {k : KK N β} {r : β} (h : evLookup τ σ.own t (ev σ m) (ev σ x) ok k = some r) :
  ∃ s ad, k s ad = some r ∧ Does P σ (fun a => Instr.lookup t (a.eval m) (a.eval x) ok) s ad := by
 unfold evLookup at h
 split at h
 ·rename_i id hid
  split at h
  ·rename_i kt vt es hlk
   split at h
   ·rename_i kt' vt' hm
    obtain ⟨ht, h⟩ := bif_none h
    simp only [Bool.and_eq_true, decide_eq_true_eq] at ht
    obtain ⟨rfl, rfl⟩ := ht
    split at h
    ·rename_i key hkey
     obtain ⟨kk, ee, ek, ev', hu, hτk, hτe, hsk, hsv⟩ := mapTys_spec F hm
     obtain ⟨d, hd, hkd⟩ := keyDesc F hτk hsk
     obtain ⟨z, hz, hzr⟩ := zero_scal F hτe hsv
     have run : ∀ io w0 E a w, RelE io w0 σ E a w → ∃ u, ScalRel vt' (orZ (mfind (keyEq (N := N) kt') es key) (N.dflt vt')) u ∧ (Instr.lookup t (a.eval m) (a.eval x) ok).run P w = .ok (if ok then .tuple #[u, .bool (hasK (mfind (keyEq (N := N) kt') es key))] else u) w := by
      intro io w0 E a w hr
      have hmv := hr.ev m
      rw [hid] at hmv
      obtain ⟨_, hmv⟩ := hmv
      obtain ⟨g, arr, clock, c1, c2, c3⟩ := hr.own id _ hlk
      rw [c1] at hmv
      have hx := toScal_rel hkey (hr.ev x)
      have hik := isKey_of hkd hx
      rcases find_rel hkd hx es arr.toList 0 c3 with ⟨q1, q2, q3⟩ | ⟨j, e, y, q1, q2, q3, q4, q5, q6⟩
      ·refine ⟨z, by rw [q1]; exact hzr, ?_⟩
       simp [Instr.lookup, run_underlying hu, hmv, MapKept.run_getObj_map c2, MapKept.run_checkKey hd hik, MapKept.run_findKey hd q2, hz, q1, hasK]
      ·refine ⟨e.val, by rw [q1]; exact q5, ?_⟩
       simp [Instr.lookup, run_underlying hu, hmv, MapKept.run_getObj_map c2, MapKept.run_checkKey hd hik, MapKept.run_findKey hd q2, q1, hasK]
     cases ok with
     | true =>
      refine ⟨_, _, h, fun io w0 E a w hr => ?_⟩
      obtain ⟨u, u1, u2⟩ := run io w0 E a w hr
      refine ⟨_, w, E, u2, hr, [u, .bool (hasK (mfind (keyEq (N := N) kt') es key))], rfl, rfl, fun i r' v hi hv => ?_⟩
      match i, hi, hv with
      | 0, hi, hv =>
       simp only [List.getElem?_cons_zero, Option.some.injEq] at hi hv
       subst hi hv
       exact scal_rv u1
      | 1, hi, hv =>
       simp only [List.getElem?_cons_succ, List.getElem?_cons_zero, Option.some.injEq] at hi hv
       subst hi hv
       exact rfl
      | n + 2, hi, hv => simp at hi
     | false =>
      refine ⟨_, _, h, fun io w0 E a w hr => ?_⟩
      obtain ⟨u, u1, u2⟩ := run io w0 E a w hr
      exact ⟨_, w, E, u2, hr, scal_rv u1⟩
    ·cases h
   ·cases h
  ·cases h
 ·cases h
def evMapUpdate (τ : TypeId → Option TI) (σ : St N) (t : TypeId) (m x y : RV N) (k : St N → Option β) : Option β :=
 match m with
 | .mp id => match look σ.own id with
  | some (.mapB kt vt es) => match mapTys τ t with
   | some (kt', vt') => bif decide (kt' = kt) && decide (vt' = vt) && noBs' σ.own id then match toScal kt x, toScal vt y with
    | some key, some v => k { regs := σ.regs.map (Slot.map (scrub id)), own := ins id (.mapB kt vt (mset (keyEq (N := N) kt) es key v)) σ.own }
    | _, _ => none
    else none
   | none => none
  | _ => none
 | _ => none
theorem grown_setBlk {w : World} {g : Nat} (o : Obj) : w.grownBy { w with heap := w.heap.setIfInBounds g o } (some g) :=
 ⟨rfl, rfl, rfl, by simp, fun k hk hne => by
  simp only
  rw [Array.getElem?_setIfInBounds_ne]
  intro e
  exact hne (by rw [e])⟩
theorem evMapUpdate_sound (F : Fits P N τ) {σ : St N} {t : TypeId} {m x y : Operand} {k : St N → Option β} {r : β} (h : evMapUpdate τ σ t (ev σ m) (ev σ x) (ev σ y) k = some r) :
  ∃ σ', k σ' = some r ∧ DoesS P σ (fun a => Instr.mapUpdate t (a.eval m) (a.eval x) (a.eval y)) σ' := by
 unfold evMapUpdate at h
 split at h
 ·rename_i id hid
  split at h
  ·rename_i kt vt es hlk
   split at h
   ·rename_i kt' vt' hm
    obtain ⟨ht, h⟩ := bif_none h
    simp only [Bool.and_eq_true, decide_eq_true_eq] at ht
    obtain ⟨⟨rfl, rfl⟩, hno⟩ := ht
    split at h
    ·rename_i key v hkey hv
     obtain ⟨kk, ee, ek, ev', hu, hτk, hτe, hsk, hsv⟩ := mapTys_spec F hm
     obtain ⟨d, hd, hkd⟩ := keyDesc F hτk hsk
     refine ⟨_, h, fun io w0 E a w hr => ?_⟩
     have hmv := hr.ev m
     rw [hid] at hmv
     obtain ⟨_, hmv⟩ := hmv
     obtain ⟨g, arr, clock, c1, c2, c3⟩ := hr.own id _ hlk
     rw [c1] at hmv
     have hx := toScal_rel hkey (hr.ev x)
     have hy := toScal_rel hv (hr.ev y)
     have hik := isKey_of hkd hx
     have hblk : blkOf (E id) = some g := by rw [c1]; rfl
     have hlt : g < w.heap.size := (Array.getElem?_eq_some_iff.1 c2).1
     have fin : ∀ o : Obj, (∃ arr' clock', o = .map arr' clock' ∧ MapRel kt' vt' (mset (keyEq (N := N) kt') es key v) arr'.toList) →
       RelE io w0 { regs := σ.regs.map (Slot.map (scrub id)), own := ins id (.mapB kt' vt' (mset (keyEq (N := N) kt') es key v)) σ.own } E a { w with heap := w.heap.setIfInBounds g o } := by
      rintro o ⟨arr', clock', rfl, ho⟩
      refine hr.store hlk trivial (fun h => h) (by rw [hblk]; exact grown_setBlk _) (noBs'_spec hno) ⟨g, arr', clock', c1, ?_, ho⟩
      simp [hlt]
     rcases find_rel hkd hx es arr.toList 0 c3 with ⟨q1, q2, q3⟩ | ⟨j, e, z, q1, q2, q3, q4, q5, q6⟩
     ·refine ⟨_, E, ?_, fin (.map (arr.push { key := a.eval x, val := a.eval y, born := clock }) (clock + 1)) ⟨_, _, rfl, by simpa using q3 v (a.eval y) clock hy⟩⟩
      simp [Instr.mapUpdate, run_underlying hu, hmv, MapKept.run_getObj_map c2, MapKept.run_checkKey hd hik, MapKept.run_findKey hd q2, MapKept.run_setObj_map _ c2]
     ·have hj : arr[j]? = some e := by simpa using q3
      refine ⟨_, E, ?_, fin (.map (arr.modify j fun e => { e with key := a.eval x, val := a.eval y }) clock) ⟨_, _, rfl, by simpa using q6 v (a.eval y) hy⟩⟩
      simp [Instr.mapUpdate, run_underlying hu, hmv, MapKept.run_getObj_map c2, MapKept.run_checkKey hd hik, MapKept.run_findKey hd q2, hj, q4, MapKept.run_keyThatStays hik, MapKept.run_setObj_map _ c2]
    ·cases h
   ·cases h
  ·cases h
 ·cases h
end Go.Eng

set_option linter.unusedVariables false
set_option linter.unusedSimpArgs false
namespace Go.Eng
variable {N : Names} {P : Program} {τ : TypeId → Option TI} {β : Type}
def DoesO (P : Program) (o : Oper) (σ σ' : St N) : Prop :=
 ∀ io w0 a w (K : Act → World → Prop) (Q : Exit → Act → World → Prop), Rel io w0 σ a w → (∀ a' w', Rel io w0 σ' a' w' → K a' w') → o.wp P a w K Q
def fin1 (σ : St N) (d : Option Nat) (k : St N → Option β) : KK N β := fun s ad => k (({ σ with own := insAll ad σ.own } : St N).put d s)
def fin2 (d : Option Nat) (k : St N → Option β) : Slot N → St N → Option β := fun s σ' => k (σ'.put d s)
inductive Arg where
 | op (o : Operand)
 | cap (id : Nat)
def argR (σ : St N) : Arg → RV N
 | .op o => ev σ o
 | .cap id => match look σ.own id with
  | some (.whole _ _ _) => .bptr id 0
  | some (.cells _) => .bptr id 0
  | _ => .undef
def argV (a : Act) (E : Env) : Arg → Value
 | .op o => a.eval o
 | .cap id => E id
def fnArg : List (RV N) → Option FuncId
 | [] => none
 | .fn g _ :: _ => some g
 | _ :: l => fnArg l
def pickS (Φ : FuncId → Option (Spec N)) (f : FuncId) (rs : List (RV N)) : Option (Spec N) :=
 bif Nat.blt f 1000000 then match fnArg rs with
  | some g => match Φ (f + 1000000 * (g + 1)) with
   | some S => some S
   | none => Φ f
  | none => Φ f
 else none
def ctab : List CK → List (RV N) → List (Nat × Nat)
 | .f _ js :: l, .fn _ caps :: rs => js.zip caps ++ ctab l rs
 | _ :: l, _ :: rs => ctab l rs
 | _, _ => []
def gtab (own : List (Nat × Blk N)) : List PK → List (RV N) → List (Nat × Nat)
 | .fn _ js :: ps, .fn _ caps :: rs => js.zip caps ++ gtab own ps rs
 | .bc l :: ps, .bptr id 0 :: rs => match look own id with
  | some (.cells us) => ctab l us ++ gtab own ps rs
  | _ => gtab own ps rs
 | _ :: ps, _ :: rs => gtab own ps rs
 | _, _ => []
def ghostIds (own : List (Nat × Blk N)) (ps : List PK) : Nat → List (RV N) → List Nat
 | 0, _ => []
 | g + 1, rs => match look (gtab own ps rs) rs.length with
  | some id => id :: ghostIds own ps g (rs ++ [.bptr id 0])
  | none => 0 :: ghostIds own ps g (rs ++ [.undef])
theorem ghostIds_length (own : List (Nat × Blk N)) (ps : List PK) : ∀ (g : Nat) (rs : List (RV N)), (ghostIds own ps g rs).length = g
 | 0, _ => rfl
 | g + 1, rs => by
  unfold ghostIds
  split <;> simp [ghostIds_length own ps g]
theorem pickS_good {Φ : FuncId → Option (Spec N)} (hΦ : ∀ f S, Φ f = some S → Good P (f % 1000000) S) {f : FuncId} {rs : List (RV N)} {S : Spec N} (h : pickS Φ f rs = some S) : Good P f S := by
 unfold pickS at h
 cases hb : Nat.blt f 1000000 with
 | false => rw [hb] at h; cases h
 | true =>
 rw [hb, cond_true] at h
 have hlt : f < 1000000 := by simpa [Nat.blt_eq] using hb
 have h0 : Φ f = some S → Good P f S := fun h => by
  have := hΦ f S h
  rwa [Nat.mod_eq_of_lt hlt] at this
 split at h
 ·rename_i g _
  split at h
  ·rename_i S' hS
   cases h
   have := hΦ _ _ hS
   rwa [Nat.add_mul_mod_self_left, Nat.mod_eq_of_lt hlt] at this
  ·exact h0 h
 ·exact h0 h
def evCallee (Φ : FuncId → Option (Spec N)) (σ : St N) (dst : Option Nat) (f : RV N) (os : List Operand) (k : Slot N → St N → Option β) : Option β :=
 match f with
 | .fn f caps => match pickS Φ f (os.map (ev σ)) with
  | some S => bif Nat.beq S.ps.length ((os.map Arg.op ++ caps.map Arg.cap).length + S.gh) then
    evCall S σ (argR σ) ((os.map Arg.op ++ caps.map Arg.cap) ++ (ghostIds σ.own S.ps S.gh ((os.map Arg.op ++ caps.map Arg.cap).map (argR σ))).map Arg.cap) dst k
   else none
  | none => none
 | _ => none
def evMoveS (τ : TypeId → Option TI) (σ : St N) (ty : TypeId) (dst : Option Nat) (x : Operand) (k : KK N β) : Option β :=
 match x with
 | .tmp t => match σ.reg t with
  | .tup l => k (.tup l) []
  | _ => evMove τ σ.own ty dst (ev σ x) k
 | _ => evMove τ σ.own ty dst (ev σ x) k
theorem evMoveS_sound {σ : St N} {ty : TypeId} {dst : Option Nat} {x : Operand} {k : KK N β} {r : β} (h : evMoveS τ σ ty dst x k = some r) :
  ∃ s ad, k s ad = some r ∧ Does P σ (fun a => pure (a.eval x)) s ad := by
 unfold evMoveS at h
 split at h
 ·rename_i t
  split at h
  ·rename_i l hl
   refine ⟨_, _, h, fun io w0 E a w hr => ?_⟩
   have hlt : t < σ.regs.length := by
    rcases Nat.lt_or_ge t σ.regs.length with h' | h'
    ·exact h'
    ·unfold St.reg at hl
     rw [List.getD_eq_getElem?_getD, List.getElem?_eq_none h'] at hl
     cases hl
   have hs : σ.regs[t]? = some (.tup l) := by
    unfold St.reg at hl
    rw [List.getD_eq_getElem?_getD, List.getElem?_eq_getElem hlt] at hl
    rw [List.getElem?_eq_getElem hlt]
    exact congrArg some hl
   exact ⟨_, w, E, rfl, hr, hr.regs t _ hs⟩
  ·exact evMove_sound h
 ·exact evMove_sound h
def isNilC : Operand → Bool
 | .const (.slice none 0 0) => true
 | _ => false
def evNil (τ : TypeId → Option TI) (own : List (Nat × Blk N)) (op : BinOp) (t : TypeId) (x : RV N) (k : RV N → Option β) : Option β :=
 match τ t with
 | some ⟨.sl e, _⟩ => match toDen own (.sl e) x with
  | some (l, _) => match op with
   | .eql => if l.length = 0 then none else k (.bool false)
   | .neq => if l.length = 0 then none else k (.bool true)
   | _ => none
  | none => none
 | _ => none
theorem run_equal_nil {t el : TypeId} (u1 : P.underlying t = some (.slice el)) (A : Addr) (n cap : Nat) (w : World) : (Op.equal t (.slice (some A) n cap) (.slice none 0 0)).run P w = .ok false w := by
 have one : ∀ d, (Op.equalIn (d + 1) t (.slice (some A) n cap) (.slice none 0 0)).run P w = .ok false w := fun d => by
  rw [Op.equalIn]
  simp [run_underlying u1]
 exact one _
theorem evNil_sound (F : Fits P N τ) {σ : St N} {op : BinOp} {t : TypeId} {x : Operand} {k : RV N → Option β} {r : β} (h : evNil τ σ.own op t (ev σ x) k = some r) :
  ∃ z, k z = some r ∧ ∀ io w0 E a w, RelE io w0 σ E a w → ∃ v, ∀ X Y, (do eqGuard op t X Y (a.eval x) (.slice none 0 0); binOp op t (a.eval x) (.slice none 0 0)).run P w = .ok v w ∧ RVRel w σ.own E z v := by
 unfold evNil at h
 split at h
 ·rename_i e el hτ
  split at h
  ·rename_i l bs hl
   have key : l.length ≠ 0 → ∀ io w0 E a w, RelE io w0 σ E a w → ∃ A n cap, a.eval x = .slice (some A) n cap := fun hn io w0 E a w hr => by
    obtain ⟨cs, ⟨A, cap, c1, c2, c2', c3⟩, k2⟩ := hr.toDen hl (hr.ev x)
    have c4 : cs = [a.eval x] := k2
    rw [c1] at c4
    have c5 : a.eval x = .slice A l.length cap := (List.cons.inj c4).1.symm
    cases A with
    | none => have := c2' rfl; omega
    | some A => exact ⟨A, _, _, c5⟩
   obtain ⟨u1, _⟩ := F.sl t e el hτ
   split at h
   ·split at h
    ·cases h
    ·rename_i hn
     refine ⟨_, h, fun io w0 E a w hr => ⟨.bool false, fun X Y => ⟨?_, rfl⟩⟩⟩
     obtain ⟨A, n, cap, hx⟩ := key hn io w0 E a w hr
     rw [hx]
     simp [eqGuard, binOp, run_equal_nil u1]
   ·split at h
    ·cases h
    ·rename_i hn
     refine ⟨_, h, fun io w0 E a w hr => ⟨.bool true, fun X Y => ⟨?_, rfl⟩⟩⟩
     obtain ⟨A, n, cap, hx⟩ := key hn io w0 E a w hr
     rw [hx]
     simp [eqGuard, binOp, run_equal_nil u1]
   ·cases h
  ·cases h
 ·cases h
def evOp (τ : TypeId → Option TI) (Φ : FuncId → Option (Spec N)) (o : Oper) (σ : St N) (k : St N → Option β) : Option β :=
 match o.op with
 | .move x => evMoveS τ σ o.type o.dst x (fin1 σ o.dst k)
 | .assign x => evMoveS τ σ o.type o.dst x (fin1 σ o.dst k)
 | .pick c x y => match ev σ c with
  | .bool b => bif b then evMove τ σ.own o.type o.dst (ev σ x) (fin1 σ o.dst k) else evMove τ σ.own o.type o.dst (ev σ y) (fin1 σ o.dst k)
  | _ => none
 | .alloc t => evAlloc τ σ.own t o.dst (fin1 σ o.dst k)
 | .box t x => evBox τ σ.own t o.dst (ev σ x) (fin1 σ o.dst k)
 | .build t ps => evBuild τ σ t o.dst ps.toList (fin1 σ o.dst k)
 | .buildSlice t n ps => evBuildSlice τ σ t n ps.toList o.dst (fin1 σ o.dst k)
 | .load t x => evLoad τ σ.own t o.dst (ev σ x) (fin1 σ o.dst k)
 | .store t x y => evStore τ σ t (ev σ x) (ev σ y) fun σ' => k (σ'.put o.dst (.tup []))
 | .nilCheck x => match ev σ x with
  | .bptr i j => k (σ.put o.dst (.one (.bptr i j)))
  | .sptr t y bs => k (σ.put o.dst (.one (.sptr t y bs)))
  | .optr i j l => k (σ.put o.dst (.one (.optr i j l)))
  | .fn f caps => k (σ.put o.dst (.one (.fn f caps)))
  | _ => none
 | .binOp op t x y _ => match isNilC y with
  | true => evNil τ σ.own op t (ev σ x) fun z => k (σ.put o.dst (.one z))
  | false => evBin τ op t (ev σ x) (ev σ y) fun z => k (σ.put o.dst (.one z))
 | .unOp op _ x => evUn op (ev σ x) fun z => k (σ.put o.dst (.one z))
 | .convert t t' x => evConv τ σ t t' o.dst (ev σ x) (fin1 σ o.dst k)
 | .makeFunc (.func f) fs cs => match fs.toList with
  | [] => match boxIds σ cs.toList with
   | some ids => k (σ.put o.dst (.one (.fn f ids)))
   | none => none
  | _ => none
 | .makeMap t res => evMakeMap τ σ t res o.dst (fin1 σ o.dst k)
 | .lookup t x i ok => evLookup τ σ.own t (ev σ x) (ev σ i) ok (fin1 σ o.dst k)
 | .mapUpdate t m x y => evMapUpdate τ σ t (ev σ m) (ev σ x) (ev σ y) fun σ' => k (σ'.put o.dst (.tup []))
 | .insert t m x y => evMapUpdate τ σ t (ev σ m) (ev σ x) (ev σ y) fun σ' => k (σ'.put o.dst (.tup []))
 | .makeSlice t l c => evMake τ σ t o.dst l c (fin1 σ o.dst k)
 | .slice t x lo hi none => evSlice τ σ t (ev σ x) lo hi (fin1 σ o.dst k)
 | .fieldAddr t x f => evFieldAddr τ t (ev σ x) f (fin1 σ o.dst k)
 | .field t x f => evField τ σ.own t o.dst (ev σ x) f (fin1 σ o.dst k)
 | .indexAddr t x i => evIndexAddr τ σ.own t (ev σ x) (ev σ i) (fin1 σ o.dst k)
 | .index t x i => evIndex τ t (ev σ x) (ev σ i) (fin1 σ o.dst k)
 | .extract x i => match x with
  | .tmp t => match σ.reg t with
   | .tup l => match l[i]? with
    | some r => k (σ.put o.dst (.one r))
    | none => none
   | _ => none
  | _ => none
 | .call c => match c.callee with
  | .value f => evCallee Φ σ o.dst (ev σ f) c.args.toList (fin2 o.dst k)
  | .builtin .len => match c.args.toList, c.argTypes.toList with
   | [x], [t] => evLen τ σ.own t (ev σ x) (fin1 σ o.dst k)
   | _, _ => none
  | .builtin .append => match c.args.toList, c.argTypes.toList with
   | [x, y], [t, t'] => evAppend τ σ t t' o.dst (ev σ x) (ev σ y) (fin2 o.dst k)
   | _, _ => none
  | .builtin .copy => match c.args.toList, c.argTypes.toList with
   | [x, y], [t, _] => evCopy τ σ t (ev σ x) (ev σ y) (fin2 o.dst k)
   | _, _ => none
  | .builtin .min => match c.args.toList with
   | [x, y] => evMM true (ev σ x) (ev σ y) (fin1 σ o.dst k)
   | _ => none
  | .builtin .max => match c.args.toList with
   | [x, y] => evMM false (ev σ x) (ev σ y) (fin1 σ o.dst k)
   | _ => none
  | _ => none
 | _ => none
where
 boxIds (σ : St N) : List Operand → Option (List Nat)
  | [] => some []
  | x :: l => match ev σ x, boxIds σ l with
   | .bptr i 0, some ids => some (i :: ids)
   | _, _ => none
theorem upon_run {o : Oper} {s : Sem Value} {a : Act} {w w' : World} {v : Value} {K : Act → World → Prop} {Q : Exit → Act → World → Prop}
  (h : execOp a.eval o = (do pure (Next.value (← s)))) (hr : s.run P w = .ok v w') (hk : K (a.put o.dst v) w') : o.wp P a w K Q := by
 unfold Oper.wp
 rw [h]
 simp only [Sem.run_bind, hr, Result.andThen_ok, Sem.run_pure]
 exact hk
theorem doesO_of {o : Oper} {σ : St N} {run : Act → Sem Value} {s : Slot N} {ad : List (Nat × Blk N)} (he : ∀ a : Act, execOp a.eval o = (do pure (Next.value (← run a)))) (h : Does P σ run s ad) :
  DoesO P o σ (({ σ with own := insAll ad σ.own } : St N).put o.dst s) := by
 rintro io w0 a w K Q ⟨E, hr⟩ hk
 obtain ⟨v, w', E', h1, h2, h3⟩ := h io w0 E a w hr
 exact upon_run (he a) h1 (hk _ _ ⟨E', h2.put o.dst h3⟩)
theorem doesO_ofW {o : Oper} {σ σ' : St N} {run : Act → Sem Value} {s : Slot N} (he : ∀ a : Act, execOp a.eval o = (do pure (Next.value (← run a)))) (h : DoesW P σ run s σ') :
  DoesO P o σ (σ'.put o.dst s) := by
 rintro io w0 a w K Q ⟨E, hr⟩ hk
 obtain ⟨v, w', E', h1, h2, h3⟩ := h io w0 E a w hr
 exact upon_run (he a) h1 (hk _ _ ⟨E', h2.put o.dst h3⟩)
theorem sound1 {o : Oper} {σ : St N} {run : Act → Sem Value} {k : St N → Option β} {r : β} (he : ∀ a : Act, execOp a.eval o = (do pure (Next.value (← run a))))
  (h : ∃ s ad, fin1 σ o.dst k s ad = some r ∧ Does P σ run s ad) : ∃ σ', k σ' = some r ∧ DoesO P o σ σ' := by
 obtain ⟨s, ad, h1, h2⟩ := h
 exact ⟨_, h1, doesO_of he h2⟩
theorem sound2 {o : Oper} {σ : St N} {run : Act → Sem Value} {k : St N → Option β} {r : β} (he : ∀ a : Act, execOp a.eval o = (do pure (Next.value (← run a))))
  (h : ∃ s σ', fin2 o.dst k s σ' = some r ∧ DoesW P σ run s σ') : ∃ σ', k σ' = some r ∧ DoesO P o σ σ' := by
 obtain ⟨s, ad, h1, h2⟩ := h
 exact ⟨_, h1, doesO_ofW he h2⟩
theorem boxIds_spec {io : Io} {w0 w : World} {σ : St N} {E : Env} {a : Act} (h : RelE io w0 σ E a w) : ∀ {l : List Operand} {ids : List Nat}, evOp.boxIds σ l = some ids →
  l.map a.eval = ids.map E.val ∧ ∀ id ∈ ids, isBox σ.own id ∧ ∃ g, E id = .pointer (some ⟨g, 0, none⟩)
 | [], ids, hl => by
  cases hl
  exact ⟨rfl, fun _ h => by cases h⟩
 | x :: l, ids, hl => by
  simp only [evOp.boxIds] at hl
  split at hl
  ·rename_i i ids' hx hl'
   cases hl
   obtain ⟨h1, h2⟩ := boxIds_spec h hl'
   have hv := h.ev x
   rw [hx] at hv
   obtain ⟨k1, g, k2, k3⟩ := hv
   refine ⟨by simp only [List.map_cons, h1, k3, k2], fun id hid => ?_⟩
   rcases List.mem_cons.1 hid with rfl | hid
   ·exact ⟨k1, g, k2⟩
   ·exact h2 id hid
  ·cases hl
theorem enter_wp {S : Spec N} {f : FuncId} (hg : Good P f S) {o : Oper} {c : Call} (ho : o.op = .call c) {f' : Operand} (hc : c.callee = .value f') {a : Act} {w : World} {caps : List Value} (hf : a.eval f' = .func (.func f) #[] caps.toArray)
  {K : Act → World → Prop} {Q : Exit → Act → World → Prop} (h : Calls P f (c.args.map a.eval ++ caps.toArray) w fun e w' => ∃ v, e = .returned v ∧ K (a.put o.dst v) w') : o.wp P a w K Q := by
 have he : (execOp a.eval o).run P w = .ok (.enter f (c.args.map a.eval ++ caps.toArray)) w := by
  unfold execOp
  simp only [ho, resolve, hc, hf, Deferred.ofValue, Array.empty_append, Sem.run_bind, Sem.run_pure, Result.andThen_ok, invoke]
  exact hg.enter w _
 unfold Oper.wp
 rw [he]
 simp only [Oper.upon]
 refine h.mono ?_
 rintro e w' ⟨v, rfl, hv⟩
 exact hv
theorem evOp_sound (F : Fits P N τ) {Φ : FuncId → Option (Spec N)} (hΦ : ∀ f S, Φ f = some S → Good P (f % 1000000) S) {o : Oper} {σ : St N} {k : St N → Option β} {r : β} (h : evOp τ Φ o σ k = some r) :
  ∃ σ', k σ' = some r ∧ DoesO P o σ σ' := by
 obtain ⟨dst, op, ty, pos, after, guard⟩ := o
 unfold evOp at h
 cases op with
 | move x => exact sound1 (run := fun a => pure (a.eval x)) (fun _ => rfl) (evMoveS_sound (P := P) h)
 | assign x => exact sound1 (run := fun a => pure (a.eval x)) (fun _ => rfl) (evMoveS_sound (P := P) h)
 | pick c x y =>
  simp only at h
  split at h
  ·rename_i b hb
   have key : ∀ z, (b = true → z = x) → (b = false → z = y) → evMove τ σ.own ty dst (ev σ z) (fin1 σ dst k) = some r → ∃ σ', k σ' = some r ∧ DoesO P ⟨dst, .pick c x y, ty, pos, after, guard⟩ σ σ' := by
    intro z h1 h2 h
    obtain ⟨s, ad, k1, k2⟩ := evMove_sound (P := P) h
    refine ⟨_, k1, ?_⟩
    rintro io w0 a w K Q ⟨E, hr⟩ hk
    obtain ⟨v, w', E', h3, h4, h5⟩ := k2 io w0 E a w hr
    have hcv := hr.ev c
    rw [hb] at hcv
    have hcv : a.eval c = .bool b := hcv
    refine upon_run (s := pure (if b then a.eval x else a.eval y)) ?_ ?_ (hk _ _ ⟨E', h4.put dst h5⟩)
    ·simp only [execOp, hcv, asBool]
     rfl
    ·cases b with
     | true => rw [if_pos rfl, ← h1 rfl]; exact h3
     | false => rw [if_neg (by simp), ← h2 rfl]; exact h3
   cases b with
   | true => exact key x (fun _ => rfl) (fun e => by cases e) h
   | false => exact key y (fun e => by cases e) (fun _ => rfl) h
  ·cases h
 | alloc t => exact sound1 (fun _ => rfl) (evAlloc_sound F h)
 | box t x => exact sound1 (fun _ => rfl) (evBox_sound F h)
 | build t ps => exact sound1 (fun _ => rfl) (evBuild_sound F h)
 | buildSlice t n ps => exact sound1 (fun _ => rfl) (evBuildSlice_sound F h)
 | load t x => exact sound1 (fun _ => rfl) (evLoad_sound F h)
 | store t x y =>
  obtain ⟨σ', h1, h2⟩ := evStore_sound F h
  refine ⟨_, h1, ?_⟩
  rintro io w0 a w K Q ⟨E, hr⟩ hk
  obtain ⟨w', E', h3, h4⟩ := h2 io w0 E a w hr
  unfold Oper.wp
  simp only [execOp, Sem.run_bind, h3, Result.andThen_ok, Sem.run_pure]
  exact hk _ _ ⟨E', h4.put dst (s := .tup []) ⟨[], rfl, rfl, fun i r u hi _ => by simp at hi⟩⟩
 | nilCheck x =>
  simp only at h
  have hp : ∀ (a : Act) ad, a.eval x = .pointer (some ad) → execOp a.eval ⟨dst, .nilCheck x, ty, pos, after, guard⟩ = (do pure (Next.value (← (pure (a.eval x) : Sem Value)))) := by
   intro a ad hx
   simp only [execOp, hx]
   rfl
  have go : ∀ z, ev σ x = z → (∀ w own E v, RVRel (N := N) w own E z v → ∃ ad, v = .pointer (some ad)) → k (σ.put dst (.one z)) = some r → ∃ σ', k σ' = some r ∧ DoesO P ⟨dst, .nilCheck x, ty, pos, after, guard⟩ σ σ' := by
   intro z hz hv hk
   refine ⟨_, hk, ?_⟩
   rintro io w0 a w K Q ⟨E, hr⟩ hK
   have hxr := hr.ev x
   rw [hz] at hxr
   obtain ⟨ad, had⟩ := hv _ _ _ _ hxr
   exact upon_run (hp a ad had) rfl (hK _ _ ⟨E, hr.put dst hxr⟩)
  split at h
  ·rename_i i j hx
   exact go _ hx (fun w own E v hv => by obtain ⟨_, g, _, e⟩ := hv; exact ⟨_, e⟩) h
  ·rename_i t y bs hx
   exact go _ hx (fun w own E v hv => by obtain ⟨ad, cs, e, _⟩ := hv; exact ⟨_, e⟩) h
  ·rename_i i j l hx
   exact go _ hx (fun w own E v hv => by obtain ⟨g, cap, n, t, _, _, _, e⟩ := hv; exact ⟨_, e⟩) h
  ·rename_i f caps hx
   refine ⟨_, h, ?_⟩
   rintro io w0 a w K Q ⟨E, hr⟩ hK
   have hxr := hr.ev x
   rw [hx] at hxr
   have hv := hxr.1
   refine upon_run (s := pure (a.eval x)) ?_ rfl (hK _ _ ⟨E, hr.put dst hxr⟩)
   simp only [execOp, hv]
   rfl
  ·cases h
 | binOp op t x y yt =>
  simp only at h
  split at h
  ·rename_i hy
   have hy' : y = .const (.slice none 0 0) := by
    unfold isNilC at hy
    split at hy
    ·rfl
    ·cases hy
   subst hy'
   obtain ⟨z, h1, h2⟩ := evNil_sound F h
   refine ⟨_, h1, ?_⟩
   rintro io w0 a w K Q ⟨E, hr⟩ hK
   obtain ⟨v, h3⟩ := h2 io w0 E a w hr
   exact upon_run (s := do eqGuard op t x (.const (.slice none 0 0)) (a.eval x) (a.eval (.const (.slice none 0 0))); binOp op t (a.eval x) (a.eval (.const (.slice none 0 0)))) rfl (h3 _ _).1 (hK _ _ ⟨E, hr.put dst (s := .one z) (h3 x x).2⟩)
  obtain ⟨z, h1, h2⟩ := evBin_sound F h
  refine ⟨_, h1, ?_⟩
  rintro io w0 a w K Q ⟨E, hr⟩ hK
  obtain ⟨v, h3, h4⟩ := h2 w _ E _ _ x y (hr.ev x) (hr.ev y)
  exact upon_run (s := do eqGuard op t x y (a.eval x) (a.eval y); binOp op t (a.eval x) (a.eval y)) rfl h3 (hK _ _ ⟨E, hr.put dst (s := .one z) h4⟩)
 | unOp op t x =>
  simp only at h
  obtain ⟨z, h1, h2⟩ := evUn_sound h
  refine ⟨_, h1, ?_⟩
  rintro io w0 a w K Q ⟨E, hr⟩ hK
  obtain ⟨v, h3, h4⟩ := h2 P w _ E _ (hr.ev x)
  exact upon_run (s := Op.unary op (a.eval x)) rfl h3 (hK _ _ ⟨E, hr.put dst (s := .one z) (h4 _ _ _)⟩)
 | convert t t' x => exact sound1 (fun _ => rfl) (evConv_sound F h)
 | makeFunc fn fs cs =>
  cases fn with
  | func f =>
   simp only at h
   split at h
   ·rename_i hfs
    split at h
    ·rename_i ids hids
     refine ⟨_, h, ?_⟩
     rintro io w0 a w K Q ⟨E, hr⟩ hK
     obtain ⟨b1, b2⟩ := boxIds_spec hr hids
     have hfs' : fs = #[] := by
      obtain ⟨l⟩ := fs
      simp only at hfs
      rw [hfs]
     refine upon_run (s := Instr.makeFunc (.func f) (fs.map a.eval) (cs.map a.eval)) rfl rfl (hK _ _ ⟨E, hr.put dst (s := .one (.fn f ids)) ⟨?_, b2⟩⟩)
     rw [hfs', ← b1]
     have hcs : cs.map a.eval = (cs.toList.map a.eval).toArray := by rw [← Array.toList_map]
     rw [hcs]
     simp
    ·cases h
   ·cases h
  | _ => cases h
 | makeMap t res => exact sound1 (run := fun a => Instr.makeMap t (res.map a.eval)) (fun _ => rfl) (evMakeMap_sound F h)
 | lookup t x i ok => exact sound1 (fun _ => rfl) (evLookup_sound F h)
 | mapUpdate t m x y =>
  obtain ⟨σ', h1, h2⟩ := evMapUpdate_sound F h
  refine ⟨_, h1, ?_⟩
  rintro io w0 a w K Q ⟨E, hr⟩ hk
  obtain ⟨w', E', h3, h4⟩ := h2 io w0 E a w hr
  unfold Oper.wp
  simp only [execOp, Sem.run_bind, h3, Result.andThen_ok, Sem.run_pure]
  exact hk _ _ ⟨E', h4.put dst (s := .tup []) ⟨[], rfl, rfl, fun i r u hi _ => by simp at hi⟩⟩
 | insert t m x y =>
  obtain ⟨σ', h1, h2⟩ := evMapUpdate_sound F h
  refine ⟨_, h1, ?_⟩
  rintro io w0 a w K Q ⟨E, hr⟩ hk
  obtain ⟨w', E', h3, h4⟩ := h2 io w0 E a w hr
  unfold Oper.wp
  simp only [execOp, Sem.run_bind, h3, Result.andThen_ok, Sem.run_pure]
  exact hk _ _ ⟨E', h4.put dst (s := .tup []) ⟨[], rfl, rfl, fun i r u hi _ => by simp at hi⟩⟩
 | makeSlice t l c => exact sound1 (fun _ => rfl) (evMake_sound F h)
 | slice t x lo hi mx =>
  cases mx with
  | none => exact sound1 (fun _ => rfl) (evSlice_sound F h)
  | some m => cases h
 | fieldAddr t x f => exact sound1 (fun _ => rfl) (evFieldAddr_sound F h)
 | field t x f => exact sound1 (fun _ => rfl) (evField_sound F h)
 | indexAddr t x i => exact sound1 (fun _ => rfl) (evIndexAddr_sound F h)
 | index t x i => exact sound1 (fun _ => rfl) (evIndex_sound F h)
 | extract x i =>
  simp only at h
  split at h
  ·rename_i t
   split at h
   ·rename_i l hl
    split at h
    ·rename_i z hz
     refine ⟨_, h, ?_⟩
     rintro io w0 a w K Q ⟨E, hr⟩ hK
     have hlt : t < σ.regs.length := by
      rcases Nat.lt_or_ge t σ.regs.length with h' | h'
      ·exact h'
      ·unfold St.reg at hl
       rw [List.getD_eq_getElem?_getD, List.getElem?_eq_none h'] at hl
       cases hl
     have hs : σ.regs[t]? = some (.tup l) := by
      unfold St.reg at hl
      rw [List.getD_eq_getElem?_getD, List.getElem?_eq_getElem hlt] at hl
      rw [List.getElem?_eq_getElem hlt]
      exact congrArg some hl
     obtain ⟨vs, v1, v2, v3⟩ := hr.regs t _ hs
     have hlen := (List.getElem?_eq_some_iff.1 hz).1
     obtain ⟨u, hu⟩ : ∃ u, vs[i]? = some u := ⟨_, List.getElem?_eq_getElem (by omega)⟩
     have hev : a.eval (.tmp t) = .tuple vs.toArray := by
      rw [← v1]
      simp only [Act.eval]
     refine upon_run (s := Instr.extract (a.eval (.tmp t)) i) (v := u) rfl ?_ (hK _ _ ⟨E, hr.put dst (s := .one z) (v3 i z u hz hu)⟩)
     rw [hev]
     simp only [Instr.extract, List.getElem?_toArray, hu]
     rfl
    ·cases h
   ·cases h
  ·cases h
 | call c =>
  simp only at h
  split at h
  ·rename_i f hf
   unfold evCallee at h
   split at h
   ·rename_i f' caps hfn
    split at h
    ·rename_i S hS
     obtain ⟨hlen, h⟩ := bif_none h
     have hlen := Nat.eq_of_beq_eq_true hlen
     have hgood := pickS_good hΦ hS
     obtain ⟨s, σ', h1, _, h2⟩ := evCall_sound hgood h
     refine ⟨_, h1, ?_⟩
     rintro io w0 a w K Q ⟨E, hr⟩ hK
     have hfv := hr.ev f
     rw [hfn] at hfv
     refine enter_wp hgood rfl hf hfv.1 ?_
     generalize hgs : ghostIds σ.own S.ps S.gh ((c.args.toList.map Arg.op ++ caps.map Arg.cap).map (argR σ)) = gs at *
     have hgl : gs.length = S.gh := by rw [← hgs]; exact ghostIds_length _ _ _ _
     have hargs : ∀ x ∈ (c.args.toList.map Arg.op ++ caps.map Arg.cap) ++ gs.map Arg.cap, RVRel w σ.own E (argR σ x) (argV a E x) := by
      intro x hx
      cases x with
      | op y => exact hr.ev y
      | cap y =>
       simp only [argR]
       split
       ·rename_i t x bs hl
        obtain ⟨g, T, arr, c1, _⟩ := hr.own y _ hl
        exact ⟨.inl ⟨_, _, _, hl⟩, g, c1, c1⟩
       ·rename_i l hl
        obtain ⟨g, T, arr, c1, _⟩ := hr.own y _ hl
        exact ⟨.inr (.inl ⟨_, hl⟩), g, c1, c1⟩
       ·trivial
     have := h2 io w0 E a w (argV a E) hr hargs
     have hl : ((List.map (argV a E) ((c.args.toList.map Arg.op ++ caps.map Arg.cap) ++ gs.map Arg.cap)).take (S.ps.length - S.gh)).toArray = c.args.map a.eval ++ (caps.map E.val).toArray := by
      rw [List.map_append, List.take_append_of_le_length (by rw [List.length_map]; omega), List.take_of_length_le (by rw [List.length_map]; omega)]
      generalize c.args = ar
      obtain ⟨l⟩ := ar
      simp [Function.comp_def, argV]
     rw [hl] at this
     refine this.mono ?_
     rintro e w' ⟨v, E', rfl, k1, k2⟩
     exact ⟨v, rfl, hK _ _ ⟨E', k1.put dst k2⟩⟩
    ·cases h
   ·cases h
  ·rename_i hb
   split at h
   ·rename_i x t hx ht
    have hx' : c.args = #[x] := Array.ext' hx
    have ht' : c.argTypes = #[t] := Array.ext' ht
    refine sound1 (run := fun a => Builtin.len_ #[t] ty #[a.eval x]) (fun a => ?_) (evLen_sound F h)
    simp only [execOp, resolve, hb, hx', ht', List.map_toArray, List.map]
    rfl
   ·cases h
  ·rename_i hb
   split at h
   ·rename_i x y t t' hx ht
    have hx' : c.args = #[x, y] := Array.ext' hx
    have ht' : c.argTypes = #[t, t'] := Array.ext' ht
    refine sound2 (run := fun a => Builtin.append_ #[t, t'] ty #[a.eval x, a.eval y]) (fun a => ?_) (evAppend_sound F h)
    simp only [execOp, resolve, hb, hx', ht', List.map_toArray, List.map]
    rfl
   ·cases h
  ·rename_i hb
   split at h
   ·rename_i x y t t' hx ht
    have hx' : c.args = #[x, y] := Array.ext' hx
    have ht' : c.argTypes = #[t, t'] := Array.ext' ht
    refine sound2 (run := fun a => Builtin.copy_ #[t, t'] ty #[a.eval x, a.eval y]) (fun a => ?_) (evCopy_sound F h)
    simp only [execOp, resolve, hb, hx', ht', List.map_toArray, List.map]
    rfl
   ·cases h
  ·rename_i hb
   split at h
   ·rename_i x y hx
    have hx' : c.args = #[x, y] := Array.ext' hx
    refine sound1 (run := fun a => Builtin.min_ c.argTypes ty #[a.eval x, a.eval y]) (fun a => ?_) (evMin_sound h)
    simp only [execOp, resolve, hb, hx', List.map_toArray, List.map]
    rfl
   ·cases h
  ·rename_i hb
   split at h
   ·rename_i x y hx
    have hx' : c.args = #[x, y] := Array.ext' hx
    refine sound1 (run := fun a => Builtin.max_ c.argTypes ty #[a.eval x, a.eval y]) (fun a => ?_) (evMax_sound h)
    simp only [execOp, resolve, hb, hx', List.map_toArray, List.map]
    rfl
   ·cases h
  ·cases h
 | _ => cases h
/-! Rows of operations. -/
def guardReg (ops : List Oper) (g : Nat) : Option Nat := match ops[g]? with
 | some o => o.dst
 | none => none
def execOps (τ : TypeId → Option TI) (Φ : FuncId → Option (Spec N)) (ops : List Oper) : List Oper → St N → (St N → Option β) → Option β
 | [], σ, k => k σ
 | o :: rest, σ, k => match o.guard with
  | none => evOp τ Φ o σ fun σ' => execOps τ Φ ops rest σ' k
  | some (g, want) => match guardReg ops g with
   | none => execOps τ Φ ops rest (σ.put o.dst (.tup [])) k
   | some d => match σ.reg d with
    | .one (.bool b) =>
     bif b then
      (bif want then evOp τ Φ o (σ.putS d (.one (.bool true))) fun σ' => execOps τ Φ ops rest σ' k
      else execOps τ Φ ops rest ((σ.putS d (.one (.bool true))).put o.dst (.tup [])) k)
     else
      (bif want then execOps τ Φ ops rest ((σ.putS d (.one (.bool false))).put o.dst (.tup [])) k
      else evOp τ Φ o (σ.putS d (.one (.bool false))) fun σ' => execOps τ Φ ops rest σ' k)
    | .tup [] => execOps τ Φ ops rest (σ.put o.dst (.tup [])) k
    | _ => none
theorem Rel.skip {io : Io} {w0 w : World} {σ : St N} {a : Act} (h : Rel io w0 σ a w) (d : Option Nat) : Rel io w0 (σ.put d (.tup [])) (a.put d undef) w := by
 obtain ⟨E, h⟩ := h
 exact ⟨E, h.put d ⟨[], rfl, rfl, fun i r u hi _ => by simp at hi⟩⟩
theorem Rel.reput {io : Io} {w0 w : World} {σ : St N} {a : Act} {d : Nat} {s : Slot N} (h : Rel io w0 σ a w) (hs : ∀ E, RelE io w0 σ E a w → SlotRel w σ.own E s (a.tmps.getD d undef)) : Rel io w0 (σ.putS d s) a w := by
 obtain ⟨E, h⟩ := h
 have := h.put (some d) (hs E h)
 have he : a.put (some d) (a.tmps.getD d undef) = a := by
  obtain ⟨t, df⟩ := a
  simp only [Act.put, Act.mk.injEq, and_true]
  apply Array.ext_getElem?
  intro i
  rw [Array.getElem?_setIfInBounds]
  by_cases hi : d = i
  ·subst hi
   rw [if_pos rfl]
   by_cases hlt : d < t.size
   ·simp [hlt]
   ·simp [hlt]
  ·rw [if_neg hi]
 rw [he] at this
 exact ⟨E, this⟩
theorem reg_slot {io : Io} {w0 w : World} {σ : St N} {E : Env} {a : Act} (h : RelE io w0 σ E a w) {d : Nat} {s : Slot N} (hs : σ.reg d = s) (hne : s ≠ .one .undef) : SlotRel w σ.own E s (a.tmps.getD d undef) ∧ d < a.tmps.size := by
 unfold St.reg at hs
 rw [List.getD_eq_getElem?_getD] at hs
 rcases Nat.lt_or_ge d σ.regs.length with h' | h'
 ·rw [List.getElem?_eq_getElem h'] at hs
  exact ⟨h.regs d s (by rw [List.getElem?_eq_getElem h']; exact congrArg some hs), by rw [h.size]; exact h'⟩
 ·rw [List.getElem?_eq_none h'] at hs
  exact absurd hs.symm hne
theorem guardReg_toArray {ops : List Oper} {g : Nat} : guardReg ops g = ((ops.toArray)[g]?).bind (·.dst) := by
 unfold guardReg
 rw [List.getElem?_toArray]
 cases ops[g]? <;> rfl
theorem execOps_sound (F : Fits P N τ) {Φ : FuncId → Option (Spec N)} (hΦ : ∀ f S, Φ f = some S → Good P (f % 1000000) S) {ops : List Oper} {k : St N → Option β} {r : β} {io : Io} {w0 : World} {Q : Exit → Act → World → Prop}
  (hk : ∀ σ a w, k σ = some r → Rel io w0 σ a w → Q .normal a w) : ∀ (l : List Oper) (σ : St N), execOps τ Φ ops l σ k = some r → ∀ a w, Rel io w0 σ a w → wpList P ops.toArray Q l a w
 | [], σ, h, a, w, hr => hk σ a w h hr
 | o :: rest, σ, h, a, w, hr => by
  have ih := execOps_sound F hΦ (ops := ops) hk rest
  have hstep : ∀ σ0, Rel io w0 σ0 a w → (evOp τ Φ o σ0 fun σ' => execOps τ Φ ops rest σ' k) = some r → o.wp P a w (wpList P ops.toArray Q rest) Q := by
   intro σ0 hr0 h0
   obtain ⟨σ', h1, h2⟩ := evOp_sound F hΦ h0
   exact h2 io w0 a w _ Q hr0 (fun a' w' hr' => ih σ' h1 a' w' hr')
  simp only [execOps] at h
  simp only [wpList]
  split at h
  ·rename_i hg
   rw [if_pos (by simp [Region.wanted, hg])]
   exact .inl (hstep σ hr h)
  ·rename_i g want hg
   have hW : Region.wanted o (yielded ops.toArray a.tmps) = (yielded ops.toArray a.tmps g == some want) := by simp [Region.wanted, hg]
   have hskip : ∀ σ0, Rel io w0 σ0 a w → Region.wanted o (yielded ops.toArray a.tmps) = false → execOps τ Φ ops rest (σ0.put o.dst (.tup [])) k = some r →
     (if Region.wanted o (yielded ops.toArray a.tmps) = true then o.wp P a w (wpList P ops.toArray Q rest) Q ∨ (o.asks P a w ∧ LetsOut Q) else wpList P ops.toArray Q rest (a.put o.dst undef) w) := by
    intro σ0 hr0 hw0 h0
    rw [hw0, if_neg (by simp)]
    exact ih _ h0 _ _ (hr0.skip o.dst)
   have hy : yielded ops.toArray a.tmps g = match (guardReg ops g).bind (a.tmps[·]?) with
     | some (.bool b) => some b
     | _ => none := by
    unfold yielded
    rw [guardReg_toArray]
    rfl
   split at h
   ·rename_i hgr
    refine hskip σ hr ?_ h
    rw [hW, hy, hgr]
    rfl
   ·rename_i d hgr
    split at h
    ·rename_i b hb
     obtain ⟨E, hrE⟩ := hr
     obtain ⟨hv, hlt⟩ := reg_slot hrE hb (by simp)
     have hv : a.tmps.getD d undef = .bool b := hv
     have hyb : yielded ops.toArray a.tmps g = some b := by
      rw [hy, hgr]
      simp only [Option.bind_some]
      rw [Array.getD_eq_getD_getElem?, Array.getElem?_eq_getElem hlt] at hv
      rw [Array.getElem?_eq_getElem hlt]
      simp only [Option.getD_some] at hv
      rw [hv]
     have hre : Rel io w0 (σ.putS d (.one (.bool b))) a w := Rel.reput ⟨E, hrE⟩ (fun E' hE' => hv)
     rw [hyb] at hW
     cases b with
     | true =>
      simp only [cond_true] at h
      cases want with
      | true =>
       rw [hW]
       exact .inl (hstep _ hre h)
      | false => exact hskip _ hre (by rw [hW]; rfl) h
     | false =>
      simp only [cond_false] at h
      cases want with
      | true => exact hskip _ hre (by rw [hW]; rfl) h
      | false =>
       rw [hW]
       exact .inl (hstep _ hre h)
    ·rename_i hb
     obtain ⟨E, hrE⟩ := hr
     obtain ⟨⟨vs, hv, hl, _⟩, hlt⟩ := reg_slot hrE hb (by simp)
     refine hskip σ ⟨E, hrE⟩ ?_ h
     rw [hW, hy, hgr]
     simp only [Option.bind_some]
     rw [Array.getD_eq_getD_getElem?, Array.getElem?_eq_getElem hlt] at hv
     rw [Array.getElem?_eq_getElem hlt]
     simp only [Option.getD_some] at hv
     rw [hv]
     rfl
    ·cases h
end Go.Eng

set_option linter.unusedVariables false
set_option linter.unusedSimpArgs false
namespace Go.Eng
variable {N : Names} {P : Program} {τ : TypeId → Option TI} {β : Type}

def Sub (own own' : List (Nat × Blk N)) : Prop := ∀ id b, look own id = some b → look own' id = some b

theorem toDen0_sub {own own' : List (Nat × Blk N)} (hs : Sub own own') {t : Ty} {r : RV N} {y : t.den N.ρ × List Nat} (h : toDen0 own t r = some y) : toDen0 own' t r = some y := by
  cases r with
  | own id =>
    simp only [toDen0] at h ⊢
    split at h
    · rename_i e ty xs bs p hl
      rw [hs _ _ hl]
      exact h
    · cases h
  | _ => exact h

theorem implL_sub {g g' : (t : Ty) → List (RV N) → Option (t.den N.ρ × List Nat)} (hg : ∀ t l y, g t l = some y → g' t l = some y) : ∀ (ts : List Ty) (l : List (RV N)) (y : HL N.ρ ts × List Nat), implL g ts l = some y → implL g' ts l = some y
  | [], [], y, h => h
  | [], _ :: _, y, h => by cases h
  | t :: ts, l, y, h => by
    simp only [implL] at h ⊢
    split at h
    · rename_i p q hp hq
      rw [hg _ _ _ hp, implL_sub hg ts _ _ hq]
      exact h
    · cases h

theorem oneDen_sub {own own' : List (Nat × Blk N)} (hs : Sub own own') {t : Ty} {l : List (RV N)} {y : t.den N.ρ × List Nat} (h : oneDen own t l = some y) : oneDen own' t l = some y := by
  unfold oneDen at h ⊢
  split at h
  · exact toDen0_sub hs h
  · cases h

theorem impl_sub {own own' : List (Nat × Blk N)} (hs : Sub own own') : ∀ (f : Nat) (t : Ty) (l : List (RV N)) (y : t.den N.ρ × List Nat), impl own f t l = some y → impl own' f t l = some y
  | 0, t, l, y, h => by cases h
  | f + 1, t, l, y, h => by
    cases t with
    | nm n =>
      simp only [impl, Option.map_eq_some_iff] at h ⊢
      obtain ⟨p, hp, hq⟩ := h
      exact ⟨p, implL_sub (fun t l y => impl_sub hs f t l y) _ _ _ hp, hq⟩
    | _ => exact oneDen_sub hs h

theorem toDen_sub {own own' : List (Nat × Blk N)} (hs : Sub own own') {t : Ty} {r : RV N} {y : t.den N.ρ × List Nat} (h : toDen own t r = some y) : toDen own' t r = some y := by
  cases r with
  | mp id =>
    simp only [toDen] at h ⊢
    split at h
    · rename_i n l hl
      rw [hs _ _ hl]
      split at h
      · rename_i p hp
        simp only [impl_sub hs 8 _ _ _ hp]
        exact h
      · cases h
    · cases h
  | _ =>
    rw [toDen_eq0 rfl] at h ⊢
    exact toDen0_sub hs h

theorem evMove_par {own : List (Nat × Blk N)} {ty : TypeId} {dst : Option Nat} {x : RV N} {k : KK N β} {r : β} (h : evMove τ own ty dst x k = some r) :
    ∃ s ad, k s ad = some r ∧ (∀ p ∈ ad, look own p.1 = none) ∧ ∀ own' : List (Nat × Blk N), (∀ p ∈ ad, look own' p.1 = none) → ∀ {β' : Type} (k' : KK N β'), evMove τ own' ty dst x k' = k' s ad := by
  cases x with
  | nil =>
    simp only [evMove] at h ⊢
    split at h
    · rename_i e el hτ
      split at h
      · rename_i d
        split at h
        · rename_i hl
          refine ⟨_, _, h, fun p hp => by rw [List.mem_singleton.1 hp]; exact hl, fun own' hf β' k' => ?_⟩
          have := hf _ List.mem_cons_self
          simp only at this
          simp only [this]
        · cases h
      · cases h
    · rename_i hn
      refine ⟨_, _, h, (fun p hp => by cases hp), fun own' hf β' k' => ?_⟩
      first | rfl | (split <;> first | (rename_i e el he; exact (hn _ _ he).elim) | rfl)
  | _ => exact ⟨_, _, h, (fun p hp => by cases hp), fun own' hf β' k' => rfl⟩

theorem freshIds_of {own : List (Nat × Blk N)} : ∀ {l : List Nat}, (∀ i ∈ l, look own i = none) → freshIds own l = true
  | [], _ => rfl
  | i :: r, h => by
    simp only [freshIds, h i List.mem_cons_self, Bool.true_and]
    exact freshIds_of (fun j hj => h j (List.mem_cons_of_mem _ hj))

theorem outVals_par {own : List (Nat × Blk N)} {dst : Option Nat} {n : Nat} {l : List (RV N)} {k : KK N β} {r : β} (h : outVals own dst n l k = some r) :
    ∃ s ad, k s ad = some r ∧ (∀ p ∈ ad, look own p.1 = none) ∧ ∀ own' : List (Nat × Blk N), (∀ p ∈ ad, look own' p.1 = none) → ∀ {β' : Type} (k' : KK N β'), outVals own' dst n l k' = k' s ad := by
  unfold outVals at h
  split at h
  · rename_i d
    split at h
    · rename_i hl
      split at h
      rename_i m es hes
      obtain ⟨hc, h⟩ := bif_none h
      have hc' := hc
      simp only [Bool.and_eq_true] at hc
      refine ⟨_, _, h, fun p hp => ?_, fun own' hf {β'} k' => ?_⟩
      · rcases List.mem_cons.1 hp with rfl | hp
        · exact hl
        · exact freshIds_spec hc.2 _ (List.mem_map.2 ⟨p, hp, rfl⟩)
      · have e1 := hf _ List.mem_cons_self
        simp only at e1
        have e2 : freshIds own' (es.map (·.1)) = true := freshIds_of (fun i hi => by
          obtain ⟨p, hp, rfl⟩ := List.mem_map.1 hi
          exact hf p (List.mem_cons_of_mem _ hp))
        simp only [outVals, e1, hes, hc.1.1, hc.1.2, e2, Bool.and_self, cond_true]
    · cases h
  · cases h

theorem evField_par {own : List (Nat × Blk N)} {xt : TypeId} {dst : Option Nat} {x : RV N} {f : Nat} {k : KK N β} {r : β} (h : evField τ own xt dst x f k = some r) :
    ∃ s ad, k s ad = some r ∧ (∀ p ∈ ad, look own p.1 = none) ∧ ∀ own' : List (Nat × Blk N), Sub own own' → (∀ p ∈ ad, look own' p.1 = none) → ∀ {β' : Type} (k' : KK N β'), evField τ own' xt dst x f k' = k' s ad := by
  unfold evField at h
  split at h
  · split at h
    · rename_i hτ
      obtain ⟨he, h⟩ := bif_none h
      split at h
      · rename_i hc
        split at h
        · rename_i hg
          exact ⟨_, [], h, (fun p hp => by cases hp), fun own' hs hf {β'} k' => by simp only [evField, hτ, he, cond_true, hc, hg]⟩
        · cases h
      · cases h
    · cases h
  · split at h
    · rename_i hl
      split at h
      · rename_i hτ
        obtain ⟨he, h⟩ := bif_none h
        split at h
        · rename_i n hty
          obtain ⟨s, ad, h1, h2, h3⟩ := outVals_par h
          exact ⟨s, ad, h1, h2, fun own' hs hf {β'} k' => by simp only [evField, hs _ _ hl, hτ, he, cond_true, hty]; exact h3 own' hf k'⟩
        · rename_i ty hnn hty
          split at h
          · rename_i hr
            refine ⟨_, [], h, (fun p hp => by cases hp), fun own' hs hf {β'} k' => ?_⟩
            simp only [evField, hs _ _ hl, hτ, he, cond_true, hty]
            cases ty with
            | nm n => exact (hnn n rfl).elim
            | _ => simp only [hr]
          · cases h
        · cases h
      · cases h
    · cases h
  · cases h

theorem evFieldAddr_par {xt : TypeId} {x : RV N} {f : Nat} {k : KK N β} {r : β} (h : evFieldAddr τ xt x f k = some r) :
    ∃ s, k s [] = some r ∧ ∀ {β' : Type} (k' : KK N β'), evFieldAddr τ xt x f k' = k' s [] := by
  unfold evFieldAddr at h
  split at h
  · rename_i hτ
    obtain ⟨he, h⟩ := bif_none h
    split at h
    · split at h
      · rename_i hc
        split at h
        · rename_i hg
          exact ⟨_, h, fun {β'} k' => by simp only [evFieldAddr, hτ, he, cond_true, hc, hg]⟩
        · cases h
      · cases h
    · obtain ⟨hf, h⟩ := bif_none h
      exact ⟨_, h, fun {β'} k' => by simp only [evFieldAddr, hτ, he, hf, cond_true]⟩
    · obtain ⟨hf, h⟩ := bif_none h
      exact ⟨_, h, fun {β'} k' => by simp only [evFieldAddr, hτ, he, hf, cond_true]⟩
    · cases h
  · cases h

theorem evIdxArr_par {own : List (Nat × Blk N)} {n : Nat} {e : TypeId} {x i : RV N} {k : KK N β} {r : β} (h : evIdxArr own n e x i k = some r) :
    ∃ s, k s [] = some r ∧ ∀ own' : List (Nat × Blk N), Sub own own' → ∀ {β' : Type} (k' : KK N β'), evIdxArr own' n e x i k' = k' s [] := by
  unfold evIdxArr at h
  split at h
  · rename_i ha
    cases hb : Nat.beq e 0 with
    | true => rw [hb] at h; cases h
    | false =>
    rw [hb] at h
    simp only [cond_false] at h
    split at h
    · split at h
      · split at h
        · rename_i hl
          obtain ⟨hc, h⟩ := bif_none h
          split at h
          · rename_i h0
            split at h
            · rename_i h1
              exact ⟨_, h, fun own' hs {β'} k' => by simp only [evIdxArr, ha, hb, cond_false, hs _ _ hl, hc, cond_true, if_pos h0, if_pos h1]⟩
            · cases h
          · cases h
        · cases h
      · split at h
        · rename_i hv
          split at h
          · rename_i hl
            split at h
            · rename_i h0
              split at h
              · rename_i h1
                exact ⟨_, h, fun own' hs {β'} k' => by simp only [evIdxArr, ha, hb, cond_false, hv, hl, if_pos h0, if_pos h1]⟩
              · cases h
            · cases h
          · cases h
        · cases h
      · cases h
    · cases h
  · cases h

theorem evSliceArr_par {own : List (Nat × Blk N)} {n : Nat} {e : TypeId} {x : RV N} {lo hi : Option Operand} {k : KK N β} {r : β} (h : evSliceArr own n e x lo hi k = some r) :
    ∃ s, k s [] = some r ∧ ∀ own' : List (Nat × Blk N), Sub own own' → ∀ {β' : Type} (k' : KK N β'), evSliceArr own' n e x lo hi k' = k' s [] := by
  unfold evSliceArr at h
  split at h
  · rename_i ha
    cases hb : Nat.beq e 0 with
    | true => rw [hb] at h; cases h
    | false =>
    rw [hb] at h
    simp only [cond_false] at h
    split at h
    · split at h
      · rename_i hl
        obtain ⟨hc, h⟩ := bif_none h
        exact ⟨_, h, fun own' hs {β'} k' => by simp only [evSliceArr, ha, hb, cond_false, hs _ _ hl, hc, cond_true]⟩
      · cases h
    · cases h
  · cases h

theorem evIndexAddr_par {own : List (Nat × Blk N)} {t : TypeId} {x i : RV N} {k : KK N β} {r : β} (h : evIndexAddr τ own t x i k = some r) :
    ∃ s, k s [] = some r ∧ ∀ own' : List (Nat × Blk N), Sub own own' → ∀ {β' : Type} (k' : KK N β'), evIndexAddr τ own' t x i k' = k' s [] := by
  unfold evIndexAddr at h
  split at h
  · rename_i hτ
    split at h
    · split at h
      · split at h
        · rename_i hc
          split at h
          · rename_i h0
            split at h
            · rename_i h1
              exact ⟨_, h, fun own' hs {β'} k' => by simp only [evIndexAddr, hτ, hc, if_pos h0, if_pos h1]⟩
            · cases h
          · cases h
        · cases h
      · split at h
        · rename_i hl
          obtain ⟨he, h⟩ := bif_none h
          split at h
          · rename_i h0
            split at h
            · rename_i h1
              exact ⟨_, h, fun own' hs {β'} k' => by simp only [evIndexAddr, hτ, hs _ _ hl, he, cond_true, if_pos h0, if_pos h1]⟩
            · cases h
          · cases h
        · cases h
      · cases h
    · cases h
  · rename_i hτ
    obtain ⟨s, h1, h2⟩ := evIdxArr_par h
    exact ⟨s, h1, fun own' hs {β'} k' => by simp only [evIndexAddr, hτ]; exact h2 own' hs k'⟩
  · cases h

theorem evIndex_par {t : TypeId} {x i : RV N} {k : KK N β} {r : β} (h : evIndex τ t x i k = some r) :
    ∃ s, k s [] = some r ∧ ∀ {β' : Type} (k' : KK N β'), evIndex τ t x i k' = k' s [] := by
  unfold evIndex at h
  split at h
  · rename_i hτ
    split at h
    · split at h
      · split at h
        · rename_i h0
          split at h
          · rename_i h1
            exact ⟨_, h, fun {β'} k' => by simp only [evIndex, hτ, if_pos h0, if_pos h1]⟩
          · cases h
        · cases h
      · cases h
    · cases h
  · cases h

theorem evLoad_par {own : List (Nat × Blk N)} {t : TypeId} {dst : Option Nat} {x : RV N} {k : KK N β} {r : β} (h : evLoad τ own t dst x k = some r) :
    ∃ s ad, k s ad = some r ∧ (∀ p ∈ ad, look own p.1 = none) ∧ ∀ own' : List (Nat × Blk N), Sub own own' → (∀ p ∈ ad, look own' p.1 = none) → ∀ {β' : Type} (k' : KK N β'), evLoad τ own' t dst x k' = k' s ad := by
  unfold evLoad at h
  split at h
  · rename_i ty e hτ
    split at h
    · split at h
      · rename_i hv
        exact ⟨_, [], h, (fun p hp => by cases hp), fun own' hs hf {β'} k' => by simp only [evLoad, hτ, hv]⟩
      · cases h
    · split at h
      · rename_i hl
        split at h
        · rename_i hv
          exact ⟨_, [], h, (fun p hp => by cases hp), fun own' hs hf {β'} k' => by simp only [evLoad, hτ, hs _ _ hl, hv]⟩
        · rename_i hv
          obtain ⟨n, y, _, _, _, h1, h2, _⟩ := evLoadArr_some h
          exact ⟨_, [], h1, (fun p hp => by cases hp), fun own' hs hf {β'} k' => by simp only [evLoad, hτ, hs _ _ hl, hv]; exact h2 k'⟩
      · cases h
    · split at h
      · rename_i hl
        split at h
        · rename_i hv
          exact ⟨_, [], h, (fun p hp => by cases hp), fun own' hs hf {β'} k' => by simp only [evLoad, hτ, hs _ _ hl, hv]⟩
        · cases h
      · rename_i hl
        cases ty with
        | nm n =>
          simp only at h
          cases hd : (N.rowsAt n).isEmpty with
          | true =>
            rw [hd, cond_true] at h
            split at h
            · rename_i hv
              exact ⟨_, [], h, (fun p hp => by cases hp), fun own' hs hf {β'} k' => by simp only [evLoad, hτ, hs _ _ hl, hd, cond_true, impl_sub hs _ _ _ _ hv]⟩
            · cases h
          | false =>
            rw [hd, cond_false] at h
            obtain ⟨s, ad, h1, h2, h3⟩ := outVals_par h
            exact ⟨s, ad, h1, h2, fun own' hs hf {β'} k' => by simp only [evLoad, hτ, hs _ _ hl, hd, cond_false]; exact h3 own' hf k'⟩
        | _ =>
          simp only at h
          split at h
          · rename_i hv
            exact ⟨_, [], h, (fun p hp => by cases hp), fun own' hs hf {β'} k' => by simp only [evLoad, hτ, hs _ _ hl, hv]⟩
          · cases h
      · cases h
    · cases h
  · cases h

theorem evLen_par {own : List (Nat × Blk N)} {t : TypeId} {x : RV N} {k : KK N β} {r : β} (h : evLen τ own t x k = some r) :
    ∃ s, k s [] = some r ∧ ∀ own' : List (Nat × Blk N), Sub own own' → ∀ {β' : Type} (k' : KK N β'), evLen τ own' t x k' = k' s [] := by
  unfold evLen at h
  split at h
  · rename_i hτ
    split at h
    · exact ⟨_, h, fun own' hs {β'} k' => by simp only [evLen, hτ]⟩
    · cases h
  · rename_i hτ
    split at h
    · rename_i hd
      exact ⟨_, h, fun own' hs {β'} k' => by simp only [evLen, hτ, toDen_sub hs hd]⟩
    · cases h
  · cases h

theorem setFields_par {own own' : List (Nat × Blk N)} (hs : Sub own own') {ρ ρ' : Operand → RV N} {ts : List Ty} : ∀ (parts : List (Nat × Operand)) (x : HL N.ρ ts) (bs : List Nat) (r : HL N.ρ ts × List Nat), (∀ p ∈ parts, ρ' p.2 = ρ p.2) → setFields own ρ ts parts x bs = some r → setFields own' ρ' ts parts x bs = some r
  | [], x, bs, r, _, h => h
  | (i, o) :: parts, x, bs, r, hp, h => by
    simp only [setFields] at h ⊢
    split at h
    · rename_i t ht
      split at h
      · rename_i y b hy
        split at h
        · rename_i x' hx'
          rw [hp (i, o) List.mem_cons_self, toDen_sub hs hy]
          simp only [ht, hx']
          exact setFields_par hs parts x' _ r (fun p hp' => hp p (List.mem_cons_of_mem _ hp')) h
        · cases h
      · cases h
    · cases h
theorem storeVals_sub {own own' : List (Nat × Blk N)} (hs : Sub own own') {t : Ty} {r : RV N} {y : List (RV N)} (h : storeVals own t r = some y) : storeVals own' t r = some y := by
  have gen : ∀ (b : Bool) (t : Ty), (bif b then some [r] else match toDen own t r with | some (y, b) => some [ofDen t y b] | none => none) = some y → (bif b then some [r] else match toDen own' t r with | some (y, b) => some [ofDen t y b] | none => none) = some y := by
    intro b t h
    cases b with
    | true => exact h
    | false =>
      simp only [cond_false] at h ⊢
      split at h
      · rename_i hd
        rw [toDen_sub hs hd]
        exact h
      · cases h
  cases t with
  | nm n =>
    have old : (match toDen own (.nm n) r with | some (y, b) => expl b 8 (.nm n) y | none => none) = some y → (match toDen own' (.nm n) r with | some (y, b) => expl b 8 (.nm n) y | none => none) = some y := by
      intro h
      split at h
      · rename_i hd
        rw [toDen_sub hs hd]
        exact h
      · cases h
    cases r with
    | mp id =>
      simp only [storeVals] at h ⊢
      split at h
      · rename_i hl
        rw [hs _ _ hl]
        exact h
      · cases h
    | _ => exact old h
  | opq => exact h
  | int k => exact gen _ _ h
  | bool => exact gen _ _ h
  | str => exact gen _ _ h
  | sl e => exact gen _ _ h
theorem setCells_par {own own' : List (Nat × Blk N)} (hs : Sub own own') {ρ ρ' : Operand → RV N} {ts : List Ty} : ∀ (parts : List (Nat × Operand)) (l m : List (RV N)), (∀ p ∈ parts, ρ' p.2 = ρ p.2) → setCells own ρ ts parts l = some m → setCells own' ρ' ts parts l = some m
  | [], l, m, _, h => h
  | (i, o) :: parts, l, m, hp, h => by
    simp only [setCells] at h ⊢
    split at h
    · rename_i t ht
      split at h
      · rename_i vs hvs
        obtain ⟨hle, h⟩ := bif_none h
        simp only [hp (i, o) List.mem_cons_self, storeVals_sub hs hvs, hle, cond_true]
        exact setCells_par hs parts _ m (fun p h => hp p (List.mem_cons_of_mem _ h)) h
      · cases h
    · cases h
theorem evBuild_par {σ : St N} {t : TypeId} {dst : Option Nat} {parts : List (Nat × Operand)} {k : KK N β} {r : β} (h : evBuild τ σ t dst parts k = some r) :
    ∃ s ad, k s ad = some r ∧ (∀ p ∈ ad, look σ.own p.1 = none) ∧ ∀ σ' : St N, Sub σ.own σ'.own → (∀ p ∈ parts, ev σ' p.2 = ev σ p.2) → (∀ p ∈ ad, look σ'.own p.1 = none) → ∀ {β' : Type} (k' : KK N β'), evBuild τ σ' t dst parts k' = k' s ad := by
  unfold evBuild at h
  split at h
  · rename_i n el hτ
    cases hd : (N.rowsAt n).isEmpty with
    | true =>
      rw [hd, cond_true] at h
      split at h
      · rename_i x bs hx
        exact ⟨_, [], h, (fun p hp => by cases hp), fun σ' hs hp hf {β'} k' => by simp only [evBuild, hτ, hd, cond_true, setFields_par hs parts _ _ _ hp hx]⟩
      · cases h
    | false =>
      rw [hd, cond_false] at h
      split at h
      · rename_i l hl
        obtain ⟨s, ad, h1, h2, h3⟩ := outVals_par h
        exact ⟨s, ad, h1, h2, fun σ' hs hp hf {β'} k' => by simp only [evBuild, hτ, hd, cond_false, setCells_par hs parts _ _ hp hl]; exact h3 _ hf k'⟩
      · cases h
  · cases h
theorem setParts_par {own own' : List (Nat × Blk N)} (hs : Sub own own') {ρ ρ' : Operand → RV N} {e : Ty} : ∀ (parts : List (Nat × Operand)) (xs : List (e.den N.ρ)) (bs : List Nat) (r : List (e.den N.ρ) × List Nat), (∀ p ∈ parts, ρ' p.2 = ρ p.2) → setParts own ρ e parts xs bs = some r → setParts own' ρ' e parts xs bs = some r
  | [], xs, bs, r, _, h => h
  | (i, o) :: parts, xs, bs, r, hp, h => by
    simp only [setParts] at h ⊢
    split at h
    · rename_i y b hy
      rw [hp (i, o) List.mem_cons_self, toDen_sub hs hy]
      obtain ⟨hlt, h⟩ := bif_none h
      simp only [hlt, cond_true]
      exact setParts_par hs parts _ _ r (fun p hp' => hp p (List.mem_cons_of_mem _ hp')) h
    · cases h
theorem evBuildSlice_par {σ : St N} {t : TypeId} {len : Nat} {parts : List (Nat × Operand)} {dst : Option Nat} {k : KK N β} {r : β} (h : evBuildSlice τ σ t len parts dst k = some r) :
    ∃ s ad, k s ad = some r ∧ (∀ p ∈ ad, look σ.own p.1 = none) ∧ ∀ σ' : St N, Sub σ.own σ'.own → (∀ p ∈ parts, ev σ' p.2 = ev σ p.2) → (∀ p ∈ ad, look σ'.own p.1 = none) → ∀ {β' : Type} (k' : KK N β'), evBuildSlice τ σ' t len parts dst k' = k' s ad := by
  unfold evBuildSlice at h
  split at h
  · cases h
  · rename_i d
    split at h
    · cases h
    · rename_i hl
      split at h
      · rename_i e el hτ
        obtain ⟨hbig, h⟩ := bif_none h
        split at h
        · rename_i xs bs hx
          refine ⟨_, _, h, (fun p hp => by rw [List.mem_singleton] at hp; subst hp; exact hl), fun σ' hs hp hf {β'} k' => ?_⟩
          have hl' := hf _ (List.mem_singleton.2 rfl)
          simp only [evBuildSlice, hl', hτ, hbig, cond_true, setParts_par hs parts _ _ _ hp hx]
        · cases h
      · cases h

theorem evMake_par {σ : St N} {t : TypeId} {dst : Option Nat} {l c : Operand} {k : KK N β} {r : β} (h : evMake τ σ t dst l c k = some r) :
    ∃ s ad, k s ad = some r ∧ (∀ p ∈ ad, look σ.own p.1 = none) ∧ ∀ σ' : St N, ev σ' l = ev σ l → ev σ' c = ev σ c → (∀ p ∈ ad, look σ'.own p.1 = none) → ∀ {β' : Type} (k' : KK N β'), evMake τ σ' t dst l c k' = k' s ad := by
  unfold evMake at h
  split at h
  · cases h
  · rename_i d
    split at h
    · cases h
    · rename_i hl
      split at h
      · rename_i e el hτ
        split at h
        · rename_i kn n km m hn hm
          have hs : ∀ σ' : St N, sameLen σ' l c = sameLen σ l c := fun σ' => by cases l <;> cases c <;> rfl
          cases hsl : sameLen σ l c with
          | true =>
            rw [hsl, cond_true] at h
            split at h
            · rename_i h0
              split at h
              · rename_i h1
                refine ⟨_, _, h, (fun p hp => by rw [List.mem_singleton] at hp; subst hp; exact hl), fun σ' e1 e2 hf {β'} k' => ?_⟩
                have e3 := hf _ List.mem_cons_self
                simp only at e3
                simp only [evMake, e3, hτ, e1, e2, hn, hm, hs σ', hsl, cond_true, if_pos h0, if_pos h1]
              · cases h
            · cases h
          | false =>
            rw [hsl, cond_false] at h
            obtain ⟨hz, h⟩ := bif_none h
            split at h
            · rename_i h0
              split at h
              · rename_i h1
                refine ⟨_, _, h, (fun p hp => by rw [List.mem_singleton] at hp; subst hp; exact hl), fun σ' e1 e2 hf {β'} k' => ?_⟩
                have e3 := hf _ List.mem_cons_self
                simp only at e3
                simp only [evMake, e3, hτ, e1, e2, hn, hm, hs σ', hsl, hz, cond_true, cond_false, if_pos h0, if_pos h1]
              · cases h
            · cases h
        · cases h
      · cases h
theorem evAlloc_par {own : List (Nat × Blk N)} {t : TypeId} {dst : Option Nat} {k : KK N β} {r : β} (h : evAlloc τ own t dst k = some r) :
    ∃ s ad, k s ad = some r ∧ (∀ p ∈ ad, look own p.1 = none) ∧ ∀ own' : List (Nat × Blk N), (∀ p ∈ ad, look own' p.1 = none) → ∀ {β' : Type} (k' : KK N β'), evAlloc τ own' t dst k' = k' s ad := by
  unfold evAlloc at h
  split at h
  · cases h
  · rename_i d
    split at h
    · cases h
    · rename_i hl
      split at h
      · rename_i e el hτ
        split at h
        · cases h
        · rename_i hl2
          refine ⟨_, _, h, fun p hp => ?_, fun own' hf {β'} k' => ?_⟩
          · rcases List.mem_cons.1 hp with rfl | hp
            · exact hl
            · rw [List.mem_singleton] at hp; subst hp; exact hl2
          · have e1 := hf _ List.mem_cons_self
            have e2 := hf _ (List.mem_cons_of_mem _ List.mem_cons_self)
            simp only at e1 e2
            simp only [evAlloc, e1, e2, hτ]
      · rename_i e hτ
        refine ⟨_, _, h, (fun p hp => by rw [List.mem_singleton] at hp; subst hp; exact hl), fun own' hf {β'} k' => ?_⟩
        have e1 := hf _ List.mem_cons_self
        simp only at e1
        simp only [evAlloc, e1, hτ]
      · rename_i n e hτ
        split at h
        · rename_i T len harr
          refine ⟨_, _, h, (fun p hp => by rw [List.mem_singleton] at hp; subst hp; exact hl), fun own' hf {β'} k' => ?_⟩
          have e1 := hf _ List.mem_cons_self
          simp only at e1
          simp only [evAlloc, e1, hτ, harr]
        · rename_i harr
          cases hd : (N.rowsAt n).isEmpty with
          | true =>
            rw [hd, cond_true] at h
            refine ⟨_, _, h, (fun p hp => by rw [List.mem_singleton] at hp; subst hp; exact hl), fun own' hf {β'} k' => ?_⟩
            have e1 := hf _ List.mem_cons_self
            simp only at e1
            simp only [evAlloc, e1, hτ, harr, hd, cond_true]
          | false =>
            rw [hd, cond_false] at h
            split at h
            rename_i m es hes
            obtain ⟨hc, h⟩ := bif_none h
            refine ⟨_, _, h, fun p hp => ?_, fun own' hf {β'} k' => ?_⟩
            · rcases List.mem_cons.1 hp with rfl | hp
              · exact hl
              · exact freshIds_spec hc _ (List.mem_map.2 ⟨p, hp, rfl⟩)
            · have e1 := hf _ List.mem_cons_self
              simp only at e1
              have e2 : freshIds own' (es.map (·.1)) = true := freshIds_of (fun i hi => by
                obtain ⟨p, hp, rfl⟩ := List.mem_map.1 hi
                exact hf p (List.mem_cons_of_mem _ hp))
              simp only [evAlloc, e1, hτ, harr, hd, cond_false, hes, e2, cond_true]
      · rename_i ty e hn1 hn2 hn3 hτ
        refine ⟨_, _, h, (fun p hp => by rw [List.mem_singleton] at hp; subst hp; exact hl), fun own' hf {β'} k' => ?_⟩
        have e1 := hf _ List.mem_cons_self
        simp only at e1
        cases ty <;> first | exact (hn1 _ rfl).elim | exact (hn2 rfl).elim | exact (hn3 _ rfl).elim | simp only [evAlloc, e1, hτ]
      · cases h

theorem evMM_par {b : Bool} {x y : RV N} {k : KK N β} {r : β} (h : evMM b x y k = some r) :
    ∃ s, k s [] = some r ∧ ∀ {β' : Type} (k' : KK N β'), evMM b x y k' = k' s [] := by
  unfold evMM at h
  split at h
  · cases b with
    | true => exact ⟨_, h, fun {β'} k' => rfl⟩
    | false => exact ⟨_, h, fun {β'} k' => rfl⟩
  · cases h

theorem evConvert_par {own : List (Nat × Blk N)} {t t' : TypeId} {x : RV N} {k : KK N β} {r : β} (h : evConvert τ own t t' x k = some r) :
    ∃ s, k s [] = some r ∧ ∀ own' : List (Nat × Blk N), Sub own own' → ∀ {β' : Type} (k' : KK N β'), evConvert τ own' t t' x k' = k' s [] := by
  unfold evConvert at h
  obtain ⟨hsrc, h⟩ := bif_none h
  split at h
  · rename_i hτ
    split at h
    · exact ⟨_, h, fun own' hs {β'} k' => by simp only [evConvert, hsrc, cond_true, hτ]⟩
    · cases h
  · rename_i hτ
    cases x with
    | str l => exact ⟨_, h, fun own' hs {β'} k' => by simp only [evConvert, hsrc, cond_true, hτ]⟩
    | int _ _ => cases h
    | _ =>
      simp only at h
      split at h
      · rename_i hsr
        split at h
        · rename_i hd
          exact ⟨_, h, fun own' hs {β'} k' => by simp only [evConvert, hτ, hsr, toDen_sub hs hd]; rfl⟩
        · cases h
      · cases h
  · rename_i hτ
    split at h
    · exact ⟨_, h, fun own' hs {β'} k' => by simp only [evConvert, hsrc, cond_true, hτ]⟩
    · cases h
  · cases h

theorem evConv_par {σ : St N} {t t' : TypeId} {dst : Option Nat} {x : RV N} {k : KK N β} {r : β} (h : evConv τ σ t t' dst x k = some r) :
    ∃ s ad, k s ad = some r ∧ (∀ p ∈ ad, look σ.own p.1 = none) ∧ ∀ σ' : St N, Sub σ.own σ'.own → (∀ p ∈ ad, look σ'.own p.1 = none) → ∀ {β' : Type} (k' : KK N β'), evConv τ σ' t t' dst x k' = k' s ad := by
  cases dst with
  | none =>
    obtain ⟨s, h1, h3⟩ := evConvert_par (show evConvert τ σ.own t t' x k = some r from h)
    exact ⟨s, [], h1, (fun p hp => by cases hp), fun σ' hs hf β' k' => h3 _ hs k'⟩
  | some d =>
    unfold evConv at h
    simp only at h
    cases hb : bytesDst τ t' with
    | none =>
      rw [hb] at h
      obtain ⟨s, h1, h3⟩ := evConvert_par h
      exact ⟨s, [], h1, (fun p hp => by cases hp), fun σ' hs hf β' k' => by simp only [evConv, hb]; exact h3 _ hs k'⟩
    | some el =>
      rw [hb] at h
      cases x with
      | str l =>
        simp only at h
        split at h
        · cases h
        · rename_i hl
          obtain ⟨hsrc, h⟩ := bif_none h
          split at h
          · rename_i hlim
            refine ⟨_, _, h, (fun p hp => by rw [List.mem_singleton.1 hp]; exact hl), fun σ' hs hf β' k' => ?_⟩
            have hl' := hf (1000 + d, _) (List.mem_singleton.2 rfl)
            simp only at hl'
            simp only [evConv, hb, hl', hsrc, cond_true, if_pos hlim]
          · cases h
      | _ =>
        obtain ⟨s, h1, h3⟩ := evConvert_par h
        exact ⟨s, [], h1, (fun p hp => by cases hp), fun σ' hs hf β' k' => by simp only [evConv, hb]; exact h3 _ hs k'⟩

theorem evBin_par {op : BinOp} {xt : TypeId} {x y : RV N} {k : RV N → Option β} {r : β} (h : evBin τ op xt x y k = some r) :
    ∃ z, k z = some r ∧ ∀ {β' : Type} (k' : RV N → Option β'), evBin τ op xt x y k' = k' z := by
  have hint : ∀ {op : BinOp} {kx : IntKind} {a b : Int}, evInt op kx a b k = some r → ∃ z, k z = some r ∧ ∀ {β' : Type} (k' : RV N → Option β'), evInt op kx a b k' = k' z := by
    intro op kx a b h
    cases op <;> simp only [evInt] at h ⊢ <;> first
      | exact ⟨_, h, fun {β'} _ => rfl⟩
      | (split at h
         · cases h
         · rename_i hb
           exact ⟨_, h, fun {β'} k' => by rw [if_neg hb]⟩)
      | cases h
  have hsh : ∀ {op : BinOp} {kx : IntKind} {a b : Int}, evShift op kx a b k = some r → ∃ z, k z = some r ∧ ∀ {β' : Type} (k' : RV N → Option β'), evShift op kx a b k' = k' z := by
    intro op kx a b h
    cases op <;> simp only [evShift] at h ⊢ <;> first
      | (split at h
         · rename_i hb
           exact ⟨_, h, fun {β'} k' => by rw [if_pos hb]⟩
         · cases h)
      | cases h
  have hst : ∀ {op : BinOp} {a b : List Int}, evStr op a b k = some r → ∃ z, k z = some r ∧ ∀ {β' : Type} (k' : RV N → Option β'), evStr op a b k' = k' z := by
    intro op a b h
    cases op <;> simp only [evStr] at h ⊢ <;> first
      | exact ⟨_, h, fun {β'} _ => rfl⟩
      | (split at h
         · rename_i hb
           exact ⟨_, h, fun {β'} k' => by rw [if_pos hb]⟩
         · cases h)
      | cases h
  cases x with
  | int kx a =>
    cases y with
    | int ky b =>
      by_cases h1 : op = .shl
      · subst h1
        have h : evShift .shl kx a b k = some r := h
        exact hsh h
      · by_cases h2 : op = .shr
        · subst h2
          have h : evShift .shr kx a b k = some r := h
          exact hsh h
        · have e : ∀ {γ : Type} (k : RV N → Option γ), evBin τ op xt (.int kx a) (.int ky b) k = bif decide (kx = ky) then evInt op kx a b k else none := by
            intro γ k
            cases op <;> first | rfl | exact absurd rfl h1 | exact absurd rfl h2
          rw [e] at h
          obtain ⟨hk, h⟩ := bif_none h
          obtain ⟨z, z1, z2⟩ := hint h
          exact ⟨z, z1, fun {β'} k' => by rw [e, hk]; exact z2 k'⟩
    | _ => cases h
  | str a =>
    cases y with
    | str b => exact hst h
    | _ => cases h
  | bool a =>
    cases y with
    | bool b =>
      simp only [evBin] at h ⊢
      split at h
      · rename_i hτ
        split at h
        · exact ⟨_, h, fun {β'} k' => by simp only [hτ]⟩
        · exact ⟨_, h, fun {β'} k' => by simp only [hτ]⟩
        · cases h
      · cases h
    | _ => cases h
  | data t a bs =>
    cases t with
    | nm n =>
      cases y with
      | data t' b bs' =>
        simp only [evBin] at h ⊢
        split at h
        · rename_i hτ
          split at h
          · rename_i h1 h2
            split at h
            · rename_i h3
              split at h
              · exact ⟨_, h, fun {β'} k' => by simp only [hτ, h1, h2, h3]⟩
              · exact ⟨_, h, fun {β'} k' => by simp only [hτ, h1, h2, h3]⟩
              · cases h
            · cases h
          · cases h
        · cases h
      | _ => cases h
    | _ => cases h
  | _ => cases h

theorem evUn_par {op : UnOp} {x : RV N} {k : RV N → Option β} {r : β} (h : evUn op x k = some r) :
    ∃ z, k z = some r ∧ ∀ {β' : Type} (k' : RV N → Option β'), evUn op x k' = k' z := by
  unfold evUn at h
  split at h
  · exact ⟨_, h, fun {β'} _ => rfl⟩
  · exact ⟨_, h, fun {β'} _ => rfl⟩
  · exact ⟨_, h, fun {β'} _ => rfl⟩
  · cases h

theorem evSlice_par {σ : St N} {t : TypeId} {x : RV N} {lo hi : Option Operand} {k : KK N β} {r : β} (h : evSlice τ σ t x lo hi k = some r) :
    ∃ s, k s [] = some r ∧ ∀ σ' : St N, Sub σ.own σ'.own → (∀ o, lo = some o → ev σ' o = ev σ o) → (∀ o, hi = some o → ev σ' o = ev σ o) → ∀ {β' : Type} (k' : KK N β'), evSlice τ σ' t x lo hi k' = k' s [] := by
  have e1 : ∀ σ' : St N, (∀ o, lo = some o → ev σ' o = ev σ o) → cutLo σ' lo = cutLo σ lo := by
    intro σ' hlo
    cases lo with
    | none => rfl
    | some o => simp only [cutLo, hlo o rfl]
  have e2 : ∀ σ' : St N, (∀ o, hi = some o → ev σ' o = ev σ o) → ∀ n, cutHi σ' n hi = cutHi σ n hi := by
    intro σ' hhi n
    cases hi with
    | none => rfl
    | some o => simp only [cutHi, hhi o rfl]
  unfold evSlice at h
  split at h
  · rename_i hτ
    split at h
    · split at h
      · rename_i h1 h2
        split at h
        · rename_i a0
          split at h
          · rename_i a1
            split at h
            · rename_i a2
              exact ⟨_, h, fun σ' hs hlo hhi {β'} k' => by simp only [evSlice, hτ, e1 σ' hlo, e2 σ' hhi, h1, h2, if_pos a0, if_pos a1, if_pos a2]⟩
            · cases h
          · cases h
        · cases h
      · cases h
    · cases h
  · rename_i hτ
    split at h
    · rename_i hd
      split at h
      · rename_i h1 h2
        split at h
        · rename_i a0
          split at h
          · rename_i a1
            split at h
            · rename_i a2
              exact ⟨_, h, fun σ' hs hlo hhi {β'} k' => by simp only [evSlice, hτ, toDen_sub hs hd, e1 σ' hlo, e2 σ' hhi, h1, h2, if_pos a0, if_pos a1, if_pos a2]⟩
            · cases h
          · cases h
        · cases h
      · cases h
    · cases h
  · rename_i hτ
    obtain ⟨s, h1, h2⟩ := evSliceArr_par h
    exact ⟨s, h1, fun σ' hs hlo hhi {β'} k' => by simp only [evSlice, hτ]; exact h2 _ hs k'⟩
  · cases h

theorem capsAre_sub {ι : Type} {ρ ρ' : ι → RV N} {os0 : List ι} (hρ0 : ∀ o ∈ os0, ρ' o = ρ o) : ∀ (js cs : List Nat), capsAre ρ os0 js cs = true → capsAre ρ' os0 js cs = true
  | [], [], h => h
  | [], _ :: _, h => by cases h
  | _ :: _, [], h => by cases h
  | j :: js, c :: cs, h => by
    simp only [capsAre, Bool.and_eq_true] at h ⊢
    refine ⟨?_, capsAre_sub hρ0 js cs h.2⟩
    have h1 := h.1
    split at h1
    · rename_i o ho
      rw [hρ0 o (List.mem_of_getElem? ho)]
      exact h1
    · cases h1
theorem fnIs_sub {ι : Type} {ρ ρ' : ι → RV N} {os0 : List ι} (hρ0 : ∀ o ∈ os0, ρ' o = ρ o) (f : FuncId) (js : List Nat) (r : RV N) (h : fnIs ρ os0 f js r = true) : fnIs ρ' os0 f js r = true := by
  unfold fnIs at h ⊢
  split at h
  · simp only [Bool.and_eq_true] at h ⊢
    exact ⟨h.1, capsAre_sub hρ0 _ _ h.2⟩
  · cases h
theorem cellsIn_sub {own own' : List (Nat × Blk N)} (hs : Sub own own') {fk fk' : FuncId → List Nat → RV N → Bool} (hfk : ∀ f js r, fk f js r = true → fk' f js r = true) : ∀ (l : List CK) (rs : List (RV N)) (x : HC N.ρ l) (B J : List Nat), cellsIn fk own l rs = some (x, B, J) → cellsIn fk' own' l rs = some (x, B, J)
  | [], [], x, B, J, h => h
  | [], _ :: _, x, B, J, h => by cases h
  | .c t :: l, [], x, B, J, h => by cases h
  | .o el e :: l, [], x, B, J, h => by cases h
  | .f f js :: l, [], x, B, J, h => by cases h
  | .c t :: l, r :: rs, x, B, J, h => by
    simp only [cellsIn] at h ⊢
    cases hn : isNm t with
    | true => rw [hn] at h; cases h
    | false =>
      rw [hn] at h
      simp only [cond_false] at h ⊢
      split at h
      · rename_i x1 b1 y B1 J1 h1 h2
        cases h
        rw [toDen_sub hs h1, cellsIn_sub hs hfk l rs _ _ _ h2]
      · cases h
  | .o el e :: l, r :: rs, x, B, J, h => by
    simp only [cellsIn] at h ⊢
    split at h
    · rename_i j
      split at h
      · rename_i el' e' xs bs hl
        obtain ⟨he, h⟩ := bif_none h
        rw [hs _ _ hl]
        simp only [he, cond_true]
        split at h
        · rename_i xs' y B1 J1 h1 h2
          cases h
          rw [h1, cellsIn_sub hs hfk l rs _ _ _ h2]
        · cases h
      · cases h
    · cases h
  | .f f js :: l, r :: rs, x, B, J, h => by
    simp only [cellsIn] at h ⊢
    obtain ⟨hf, h⟩ := bif_none h
    split at h
    · rename_i y B1 J1 h2
      cases h
      rw [hfk f js r hf, cellsIn_sub hs hfk l rs _ _ _ h2]
      rfl
    · cases h

theorem readP_sub {own own' : List (Nat × Blk N)} (hs : Sub own own') {t : Ty} {r : RV N} {y : t.den N.ρ × List Nat} (h : readP own t r = some y) : readP own' t r = some y := by
  unfold readP at h ⊢
  split at h
  · split at h
    · rename_i hl
      simp only [hs _ _ hl]
      exact h
    · rename_i hl
      simp only [hs _ _ hl]
      split at h
      · rename_i hi
        simp only [impl_sub hs 8 _ _ _ hi]
        exact h
      · cases h
    · cases h
  · split at h
    · rename_i hl
      simp only [hs _ _ hl]
      exact h
    · cases h
  · exact h
  · cases h
theorem callIn_sub {ι : Type} {own own' : List (Nat × Blk N)} (hs : Sub own own') {ρ ρ' : ι → RV N} {os0 : List ι} (hρ0 : ∀ o ∈ os0, ρ' o = ρ o) : ∀ (ps : List PK) (os : List ι) (x : HIn N.ρ ps) (B U : List Nat), (∀ o ∈ os, ρ' o = ρ o) → callIn own ρ os0 ps os = some (x, B, [], U) → callIn own' ρ' os0 ps os = some (x, B, [], U)
  | [], [], x, B, U, hρ, h => h
  | [], _ :: _, x, B, U, hρ, h => by cases h
  | .v t :: ps, [], x, B, U, hρ, h => by cases h
  | .io el e :: ps, [], x, B, U, hρ, h => by cases h
  | .bw t :: ps, [], x, B, U, hρ, h => by cases h
  | .bc l :: ps, [], x, B, U, hρ, h => by cases h
  | .fv f :: ps, [], x, B, U, hρ, h => by cases h
  | .fb f :: ps, [], x, B, U, hρ, h => by cases h
  | .ag n l :: ps, [], x, B, U, hρ, h => by cases h
  | .go el e :: ps, [], x, B, U, hρ, h => by cases h
  | .fn f js :: ps, [], x, B, U, hρ, h => by cases h
  | .rp t :: ps, [], x, B, U, hρ, h => by cases h
  | .rp t :: ps, o :: os, x, B, U, hρ, h => by
    simp only [callIn] at h ⊢
    split at h
    · rename_i x1 b1 y1 B1 D1 U1 h1 h2
      cases h
      rw [hρ o List.mem_cons_self, readP_sub hs h1, callIn_sub hs hρ0 ps os _ _ _ (fun o ho => hρ o (List.mem_cons_of_mem _ ho)) h2]
    · cases h
  | .fn f js :: ps, o :: os, x, B, U, hρ, h => by
    simp only [callIn] at h ⊢
    obtain ⟨hf, h⟩ := bif_none h
    split at h
    · rename_i y1 B1 D1 U1 h2
      cases h
      rw [hρ o List.mem_cons_self, fnIs_sub hρ0 _ _ _ hf, callIn_sub hs hρ0 ps os _ _ _ (fun o ho => hρ o (List.mem_cons_of_mem _ ho)) h2]
      rfl
    · cases h
  | .go el e :: ps, o :: os, x, B, U, hρ, h => by
    simp only [callIn] at h ⊢
    split at h
    · split at h
      · obtain ⟨_, h⟩ := bif_none h
        split at h
        · cases h
        · cases h
      · cases h
    · rename_i ho
      split at h
      · rename_i y1 B1 D1 U1 h2
        cases h
        rw [hρ o List.mem_cons_self, ho]
        simp only
        rw [callIn_sub hs hρ0 ps os _ _ _ (fun o ho => hρ o (List.mem_cons_of_mem _ ho)) h2]
      · cases h
    · cases h
  | .ag n l :: ps, o :: os, x, B, U, hρ, h => by
    simp only [callIn] at h ⊢
    split at h
    · rename_i id ho
      split at h
      · rename_i m rs hl
        obtain ⟨hm, h⟩ := bif_none h
        split at h
        · rename_i x1 b1 J1 y1 B1 D1 U1 h1 h2
          simp only [Option.some.injEq, Prod.mk.injEq, List.append_eq_nil_iff] at h
          obtain ⟨rfl, rfl, ⟨rfl, rfl⟩, rfl⟩ := h
          rw [hρ o List.mem_cons_self, ho]
          simp only
          rw [hs _ _ hl]
          simp only [hm, cond_true]
          rw [cellsIn_sub hs (fun f js r h => fnIs_sub hρ0 f js r h) l rs _ _ _ h1, callIn_sub hs hρ0 ps os _ _ _ (fun o ho => hρ o (List.mem_cons_of_mem _ ho)) h2]
          rfl
        · cases h
      · cases h
    · cases h
  | .fv f :: ps, o :: os, x, B, U, hρ, h => by
    simp only [callIn] at h ⊢
    obtain ⟨hf, h⟩ := bif_none h
    split at h
    · rename_i y1 B1 D1 U1 h2
      cases h
      rw [hρ o List.mem_cons_self, hf, callIn_sub hs hρ0 ps os _ _ _ (fun o ho => hρ o (List.mem_cons_of_mem _ ho)) h2]
      rfl
    · cases h
  | .fb f :: ps, o :: os, x, B, U, hρ, h => by
    simp only [callIn] at h
    split at h
    · split at h
      · obtain ⟨_, h⟩ := bif_none h
        split at h
        · cases h
        · cases h
      · cases h
    · cases h
  | .v t :: ps, o :: os, x, B, U, hρ, h => by
    simp only [callIn] at h ⊢
    split at h
    · rename_i x1 b1 y1 B1 D1 U1 h1 h2
      cases h
      rw [hρ o List.mem_cons_self, toDen_sub hs h1, callIn_sub hs hρ0 ps os _ _ _ (fun o ho => hρ o (List.mem_cons_of_mem _ ho)) h2]
    · cases h
  | .io el e :: ps, o :: os, x, B, U, hρ, h => by
    simp only [callIn] at h
    split at h
    · split at h
      · obtain ⟨_, h⟩ := bif_none h
        split at h
        · cases h
        · cases h
      · cases h
    · cases h
  | .bw t :: ps, o :: os, x, B, U, hρ, h => by
    simp only [callIn] at h
    split at h
    · split at h
      · split at h
        · cases h
        · cases h
      · cases h
    · cases h
  | .bc l :: ps, o :: os, x, B, U, hρ, h => by
    simp only [callIn] at h
    split at h
    · split at h
      · split at h
        · cases h
        · cases h
      · cases h
    · cases h

theorem callNew_nil {ι : Type} {own : List (Nat × Blk N)} {ρ : ι → RV N} {B' : List Nat} {os0 : List ι} : ∀ (ps : List PK) (os : List ι) (x : HIn N.ρ ps) (B U : List Nat) (y : HOut N.ρ ps), callIn own ρ os0 ps os = some (x, B, [], U) → callNew own ρ B' ps os y = []
  | [], [], x, B, U, y, h => rfl
  | [], _ :: _, x, B, U, y, h => by cases h
  | .v t :: ps, [], x, B, U, y, h => by cases h
  | .io el e :: ps, [], x, B, U, y, h => by cases h
  | .bw t :: ps, [], x, B, U, y, h => by cases h
  | .bc l :: ps, [], x, B, U, y, h => by cases h
  | .fv f :: ps, [], x, B, U, y, h => by cases h
  | .fb f :: ps, [], x, B, U, y, h => by cases h
  | .ag n l :: ps, [], x, B, U, y, h => by cases h
  | .go el e :: ps, [], x, B, U, y, h => by cases h
  | .fn f js :: ps, [], x, B, U, y, h => by cases h
  | .rp t :: ps, [], x, B, U, y, h => by cases h
  | .rp t :: ps, o :: os, x, B, U, y, h => by
    simp only [callIn] at h
    split at h
    · rename_i x1 b1 y1 B1 D1 U1 h1 h2
      cases h
      exact callNew_nil ps os y1 B1 U y h2
    · cases h
  | .fn f js :: ps, o :: os, x, B, U, y, h => by
    simp only [callIn] at h
    obtain ⟨hf, h⟩ := bif_none h
    split at h
    · rename_i y1 B1 D1 U1 h2
      cases h
      exact callNew_nil ps os y1 B U y h2
    · cases h
  | .go el e :: ps, o :: os, x, B, U, y, h => by
    simp only [callIn] at h
    split at h
    · split at h
      · obtain ⟨_, h⟩ := bif_none h
        split at h
        · cases h
        · cases h
      · cases h
    · split at h
      · rename_i y1 B1 D1 U1 h2
        cases h
        exact callNew_nil ps os y1 B U y h2
      · cases h
    · cases h
  | .ag n l :: ps, o :: os, x, B, U, y, h => by
    simp only [callIn] at h
    split at h
    · split at h
      · obtain ⟨_, h⟩ := bif_none h
        split at h
        · rename_i x1 b1 J1 y1 B1 D1 U1 h1 h2
          simp only [Option.some.injEq, Prod.mk.injEq, List.append_eq_nil_iff] at h
          obtain ⟨rfl, rfl, ⟨rfl, rfl⟩, rfl⟩ := h
          exact callNew_nil ps os y1 B1 U1 y h2
        · cases h
      · cases h
    · cases h
  | .fv f :: ps, o :: os, x, B, U, y, h => by
    simp only [callIn] at h
    obtain ⟨hf, h⟩ := bif_none h
    split at h
    · rename_i y1 B1 D1 U1 h2
      cases h
      exact callNew_nil ps os y1 B U y h2
    · cases h
  | .fb f :: ps, o :: os, x, B, U, y, h => by
    simp only [callIn] at h
    split at h
    · split at h
      · obtain ⟨_, h⟩ := bif_none h
        split at h
        · cases h
        · cases h
      · cases h
    · cases h
  | .v t :: ps, o :: os, x, B, U, y, h => by
    simp only [callIn] at h
    split at h
    · rename_i x1 b1 y1 B1 D1 U1 h1 h2
      cases h
      exact callNew_nil ps os y1 B1 U y h2
    · cases h
  | .io el e :: ps, o :: os, x, B, U, y, h => by
    simp only [callIn] at h
    split at h
    · split at h
      · obtain ⟨_, h⟩ := bif_none h
        split at h
        · cases h
        · cases h
      · cases h
    · cases h
  | .bw t :: ps, o :: os, x, B, U, y, h => by
    simp only [callIn] at h
    split at h
    · split at h
      · split at h
        · cases h
        · cases h
      · cases h
    · cases h
  | .bc l :: ps, o :: os, x, B, U, y, h => by
    simp only [callIn] at h
    split at h
    · split at h
      · split at h
        · cases h
        · cases h
      · cases h
    · cases h

theorem resCellNew_ids (B : List Nat) (d j : Nat) : ∀ (l : List CK) (i : Nat) (x : HC N.ρ l), (resCellNew B d j i l x).map (·.1) = resCellIds d j i l
  | [], i, x => rfl
  | .c t :: l, i, x => resCellNew_ids B d j l (i + 1) x.2
  | .o el e :: l, i, x => by simp [resCellNew, resCellIds, resCellNew_ids B d j l (i + 1) x.2]
  | .f f js :: l, i, x => resCellNew_ids B d j l (i + 1) x.2
theorem resNew_ids (B : List Nat) (d : Nat) : ∀ (rs : List RK) (j : Nat) (x : HRes N.ρ rs), (resNew B d rs j x).map (·.1) = resIds d rs j
  | [], j, x => rfl
  | .v t :: rs, j, x => resNew_ids B d rs (j + 1) x.2
  | .own el e :: rs, j, x => by simp [resNew, resIds, resNew_ids B d rs (j + 1) x.2]
  | .ag n l :: rs, j, x => by simp [resNew, resIds, resNew_ids B d rs (j + 1) x.2, resCellNew_ids B d j l 0 x.1]

/-- A call that only reads what was there. -/
def evCallE {ι : Type} (S : Spec N) (own : List (Nat × Blk N)) (ρ : ι → RV N) (os : List ι) (dst : Option Nat) (k : KK N β) : Option β :=
  match callIn own ρ os S.ps os with
  | some (x, B, [], []) => bif freshIds own (resIds (dst.getD 0) S.rs 0) && nodupB (resIds (dst.getD 0) S.rs 0) then
      (S.f x).bind fun r => k (packS (resSlots B (dst.getD 0) S.rs 0 (S.out r).1)) (resNew B (dst.getD 0) S.rs 0 (S.out r).1)
    else none
  | _ => none

theorem evCallE_par {ι : Type} {S : Spec N} {own : List (Nat × Blk N)} {ρ : ι → RV N} {os : List ι} {dst : Option Nat} {k : KK N β} {r : β} (h : evCallE S own ρ os dst k = some r) :
    ∃ s ad, k s ad = some r ∧ (∀ p ∈ ad, look own p.1 = none) ∧ ∀ (own' : List (Nat × Blk N)) (ρ' : ι → RV N), Sub own own' → (∀ o ∈ os, ρ' o = ρ o) → (∀ p ∈ ad, look own' p.1 = none) → ∀ {β' : Type} (k' : KK N β'), evCallE S own' ρ' os dst k' = k' s ad := by
  unfold evCallE at h
  split at h
  · rename_i x B hc
    obtain ⟨hf, h⟩ := bif_none h
    simp only [Bool.and_eq_true] at hf
    obtain ⟨hf, hnd⟩ := hf
    obtain ⟨y, hy, hk⟩ := Option.bind_eq_some_iff.1 h
    refine ⟨_, _, hk, fun p hp => ?_, fun own' ρ' hs hρ hf' β' k' => ?_⟩
    · refine freshIds_spec hf p.1 ?_
      rw [← resNew_ids (N := N) B (dst.getD 0) S.rs 0 (S.out y).1]
      exact List.mem_map.2 ⟨p, hp, rfl⟩
    · have hfr : freshIds own' (resIds (dst.getD 0) S.rs 0) = true := freshIds_of (fun i hi => by
        rw [← resNew_ids (N := N) B (dst.getD 0) S.rs 0 (S.out y).1] at hi
        obtain ⟨p, hp, rfl⟩ := List.mem_map.1 hi
        exact hf' p hp)
      simp only [evCallE, callIn_sub hs hρ S.ps os x B [] hρ hc, hfr, hnd, Bool.and_self, cond_true, hy, Option.bind_some]
  · cases h

theorem noBsD_nil (own : List (Nat × Blk N)) : noBsD own [] = true := by
  unfold noBsD
  rw [List.all_eq_true]
  rintro ⟨i, b⟩ _
  have : ∀ l, meets [] l = false := fun l => by
    unfold meets
    rw [List.any_eq_false]
    intro i _
    simp
  cases b <;> simp [this]

theorem evCallE_eq {ι : Type} {S : Spec N} {σ : St N} {ρ : ι → RV N} {os : List ι} {dst : Option Nat} {s : Slot N} {ad : List (Nat × Blk N)} (h : evCallE S σ.own ρ os dst (fun s ad => some (s, ad)) = some (s, ad)) {k : Slot N → St N → Option β} :
    evCall S σ ρ os dst k = k s { σ with own := insAll ad σ.own } := by
  unfold evCallE at h
  split at h
  · rename_i x B hc
    obtain ⟨hf, h⟩ := bif_none h
    simp only [Bool.and_eq_true] at hf
    obtain ⟨hf, hnd⟩ := hf
    obtain ⟨y, hy, hk⟩ := Option.bind_eq_some_iff.1 h
    cases hk
    have hm : meets [] B = false := by
      unfold meets
      rw [List.any_eq_false]
      intro i _
      simp
    simp only [evCall, hc, hnd, show nodupB ([] : List Nat) = true from rfl, hm, noBsD_nil, hf, Bool.not_false, Bool.and_self, cond_true, hy, Option.bind_some, havR, callNew_nil S.ps os x B [] _ hc, List.nil_append]
  · cases h

def usesT (o : Oper) : List Nat := o.op.operands.toList.filterMap fun | .tmp t => some t | _ => none

structure Agree (o : Oper) (σ σ' : St N) : Prop where
  regs : ∀ t ∈ usesT o, σ'.reg t = σ.reg t
  sub : Sub σ.own σ'.own

theorem ev_const (σ σ' : St N) (v : Value) : Eng.ev σ' (.const v) = Eng.ev σ (.const v) := by
  cases v with
  | slice a l c =>
    cases a with
    | none =>
      cases l with
      | zero =>
        cases c with
        | zero => rfl
        | succ _ => rfl
      | succ _ => rfl
    | some _ => rfl
  | _ => rfl

theorem Agree.ev {o : Oper} {σ σ' : St N} (h : Agree o σ σ') {x : Operand} (hx : x ∈ o.op.operands.toList) : Eng.ev σ' x = Eng.ev σ x := by
  cases x with
  | tmp t =>
    have := h.regs t (List.mem_filterMap.2 ⟨_, hx, rfl⟩)
    simp only [Eng.ev, this]
  | const v => exact ev_const σ σ' v
  | _ => rfl

theorem evMoveS_par {o : Oper} {σ : St N} {ty : TypeId} {dst : Option Nat} {x : Operand} (hx : x ∈ o.op.operands.toList) {k : KK N β} {r : β} (h : evMoveS τ σ ty dst x k = some r) :
    ∃ s ad, k s ad = some r ∧ (∀ p ∈ ad, look σ.own p.1 = none) ∧ ∀ σ' : St N, Agree o σ σ' → (∀ p ∈ ad, look σ'.own p.1 = none) → ∀ {β' : Type} (k' : KK N β'), evMoveS τ σ' ty dst x k' = k' s ad := by
  have base : evMove τ σ.own ty dst (ev σ x) k = some r → (∀ (σ' : St N), Agree o σ σ' → ∀ {β' : Type} (k' : KK N β'), evMoveS τ σ' ty dst x k' = evMove τ σ'.own ty dst (ev σ' x) k') → ∃ s ad, k s ad = some r ∧ (∀ p ∈ ad, look σ.own p.1 = none) ∧ ∀ σ' : St N, Agree o σ σ' → (∀ p ∈ ad, look σ'.own p.1 = none) → ∀ {β' : Type} (k' : KK N β'), evMoveS τ σ' ty dst x k' = k' s ad := by
    intro hb he
    obtain ⟨s, ad, h1, h2, h3⟩ := evMove_par hb
    exact ⟨s, ad, h1, h2, fun σ' hA hf β' k' => by rw [he σ' hA k', hA.ev hx]; exact h3 _ hf k'⟩
  cases x with
  | tmp t =>
    have ht : t ∈ usesT o := List.mem_filterMap.2 ⟨_, hx, rfl⟩
    unfold evMoveS at h
    simp only at h
    cases hl : σ.reg t with
    | tup l =>
      rw [hl] at h
      exact ⟨_, _, h, (fun p hp => by cases hp), fun σ' hA hf β' k' => by simp only [evMoveS, hA.regs t ht, hl]⟩
    | one r0 =>
      rw [hl] at h
      exact base h (fun σ' hA β' k' => by simp only [evMoveS, hA.regs t ht, hl])
  | const v => exact base h (fun σ' hA β' k' => rfl)
  | global g => exact base h (fun σ' hA β' k' => rfl)
  | func f => exact base h (fun σ' hA β' k' => rfl)

def bxB (own : List (Nat × Blk N)) (id : Nat) : Bool := match look own id with
  | some (.whole _ _ _) => true
  | some (.cells _) => true
  | _ => false
theorem argR_sub {σ σ' : St N} (hs : Sub σ.own σ'.own) {id : Nat} (h : bxB σ.own id = true) : argR σ' (.cap id) = argR σ (.cap id) := by
  unfold bxB at h
  simp only [argR]
  split at h
  · rename_i hl
    first | rw [hl, hs _ _ hl] | rw [hs _ _ hl]
  · rename_i hl
    first | rw [hl, hs _ _ hl] | rw [hs _ _ hl]
  · cases h

def evE (τ : TypeId → Option TI) (Φ : FuncId → Option (Spec N)) (o : Oper) (σ : St N) (k : KK N β) : Option β :=
  match o.op with
  | .move x => evMoveS τ σ o.type o.dst x k
  | .assign x => evMoveS τ σ o.type o.dst x k
  | .load t x => evLoad τ σ.own t o.dst (ev σ x) k
  | .nilCheck x => match ev σ x with
    | .bptr i j => k (.one (.bptr i j)) []
    | .sptr t y bs => k (.one (.sptr t y bs)) []
    | .optr i j l => k (.one (.optr i j l)) []
    | .fn f caps => k (.one (.fn f caps)) []
    | _ => none
  | .binOp op t x y _ => evBin τ op t (ev σ x) (ev σ y) fun z => k (.one z) []
  | .unOp op _ x => evUn op (ev σ x) fun z => k (.one z) []
  | .convert t t' x => evConv τ σ t t' o.dst (ev σ x) k
  | .slice t x lo hi none => evSlice τ σ t (ev σ x) lo hi k
  | .pick c x y => match ev σ c with
    | .bool b => bif b then evMove τ σ.own o.type o.dst (ev σ x) k else evMove τ σ.own o.type o.dst (ev σ y) k
    | _ => none
  | .alloc t => evAlloc τ σ.own t o.dst k
  | .build t ps => evBuild τ σ t o.dst ps.toList k
  | .buildSlice t n ps => evBuildSlice τ σ t n ps.toList o.dst k
  | .makeSlice t l c => evMake τ σ t o.dst l c k
  | .fieldAddr t x f => evFieldAddr τ t (ev σ x) f k
  | .field t x f => evField τ σ.own t o.dst (ev σ x) f k
  | .indexAddr t x i => evIndexAddr τ σ.own t (ev σ x) (ev σ i) k
  | .index t x i => evIndex τ t (ev σ x) (ev σ i) k
  | .extract x i => match x with
    | .tmp t => match σ.reg t with
      | .tup l => match l[i]? with
        | some r => k (.one r) []
        | none => none
      | _ => none
    | _ => none
  | .call c => match c.callee with
    | .value f => match ev σ f with
      | .fn f caps => match pickS Φ f (c.args.toList.map (ev σ)) with
        | some S => bif Nat.beq S.gh 0 && Nat.beq S.ps.length (c.args.toList.map Arg.op ++ caps.map Arg.cap).length && caps.all (bxB σ.own) then evCallE S σ.own (argR σ) (c.args.toList.map Arg.op ++ caps.map Arg.cap) o.dst k else none
        | none => none
      | _ => none
    | .builtin .len => match c.args.toList, c.argTypes.toList with
      | [x], [t] => evLen τ σ.own t (ev σ x) k
      | _, _ => none
    | .builtin .min => match c.args.toList with
      | [x, y] => evMM true (ev σ x) (ev σ y) k
      | _ => none
    | .builtin .max => match c.args.toList with
      | [x, y] => evMM false (ev σ x) (ev σ y) k
      | _ => none
    | _ => none
  | _ => none

theorem evE_par {Φ : FuncId → Option (Spec N)} {o : Oper} {σ : St N} {k : KK N β} {r : β} (h : evE τ Φ o σ k = some r) :
    ∃ s ad, k s ad = some r ∧ (∀ p ∈ ad, look σ.own p.1 = none) ∧ ∀ σ' : St N, Agree o σ σ' → (∀ p ∈ ad, look σ'.own p.1 = none) → ∀ {β' : Type} (k' : KK N β'), evE τ Φ o σ' k' = k' s ad := by
  obtain ⟨dst, op, ty, pos, after, guard⟩ := o
  have none0 : ∀ (own : List (Nat × Blk N)), ∀ p ∈ ([] : List (Nat × Blk N)), look own p.1 = none := fun own p hp => by cases hp
  unfold evE at h
  cases op with
  | move x =>
    obtain ⟨s, ad, h1, h2, h3⟩ := evMoveS_par (o := ⟨dst, .move x, ty, pos, after, guard⟩) (by simp [Op.operands]) h
    exact ⟨s, ad, h1, h2, fun σ' hA hf β' k' => h3 σ' hA hf k'⟩
  | assign x =>
    obtain ⟨s, ad, h1, h2, h3⟩ := evMoveS_par (o := ⟨dst, .assign x, ty, pos, after, guard⟩) (by simp [Op.operands]) h
    exact ⟨s, ad, h1, h2, fun σ' hA hf β' k' => h3 σ' hA hf k'⟩
  | build t ps =>
    obtain ⟨s, ad, h1, h2, h3⟩ := evBuild_par h
    exact ⟨s, ad, h1, h2, fun σ' hA hf β' k' => by simp only [evE]; exact h3 σ' hA.sub (fun p hp => hA.ev (by simp only [Op.operands]; exact List.mem_map.2 ⟨p, hp, rfl⟩)) hf k'⟩
  | makeSlice t l c =>
    obtain ⟨s, ad, h1, h2, h3⟩ := evMake_par h
    exact ⟨s, ad, h1, h2, fun σ' hA hf β' k' => by simp only [evE]; exact h3 σ' (hA.ev (by simp [Op.operands])) (hA.ev (by simp [Op.operands])) hf k'⟩
  | alloc t =>
    obtain ⟨s, ad, h1, h2, h3⟩ := evAlloc_par h
    exact ⟨s, ad, h1, h2, fun σ' hA hf β' k' => by simp only [evE]; exact h3 _ hf k'⟩
  | buildSlice t n ps =>
    obtain ⟨s, ad, h1, h2, h3⟩ := evBuildSlice_par h
    exact ⟨s, ad, h1, h2, fun σ' hA hf β' k' => by simp only [evE]; exact h3 σ' hA.sub (fun p hp => hA.ev (by simp only [Op.operands]; exact List.mem_map.2 ⟨p, hp, rfl⟩)) hf k'⟩
  | pick c x y =>
    simp only at h
    split at h
    · rename_i b hb
      have hc : ∀ σ' : St N, Agree ⟨dst, .pick c x y, ty, pos, after, guard⟩ σ σ' → ev σ' c = .bool b := fun σ' hA => by rw [hA.ev (x := c) (by simp [Op.operands])]; exact hb
      cases b with
      | true =>
        simp only [cond_true] at h
        obtain ⟨s, ad, h1, h2, h3⟩ := evMove_par h
        refine ⟨s, ad, h1, h2, fun σ' hA hf β' k' => ?_⟩
        simp only [evE, hc σ' hA, hA.ev (x := x) (by simp [Op.operands]), cond_true]
        exact h3 _ hf k'
      | false =>
        simp only [cond_false] at h
        obtain ⟨s, ad, h1, h2, h3⟩ := evMove_par h
        refine ⟨s, ad, h1, h2, fun σ' hA hf β' k' => ?_⟩
        simp only [evE, hc σ' hA, hA.ev (x := y) (by simp [Op.operands]), cond_false]
        exact h3 _ hf k'
    · cases h
  | load t x =>
    obtain ⟨s, ad, h1, h2, h3⟩ := evLoad_par h
    exact ⟨s, ad, h1, h2, fun σ' hA hf β' k' => by simp only [evE, hA.ev (x := x) (by simp [Op.operands])]; exact h3 _ hA.sub hf k'⟩
  | nilCheck x =>
    simp only at h
    split at h
    · rename_i hx
      exact ⟨_, _, h, none0 _, fun σ' hA hf β' k' => by simp only [evE, hA.ev (x := x) (by simp [Op.operands]), hx]⟩
    · rename_i hx
      exact ⟨_, _, h, none0 _, fun σ' hA hf β' k' => by simp only [evE, hA.ev (x := x) (by simp [Op.operands]), hx]⟩
    · rename_i hx
      exact ⟨_, _, h, none0 _, fun σ' hA hf β' k' => by simp only [evE, hA.ev (x := x) (by simp [Op.operands]), hx]⟩
    · rename_i hx
      exact ⟨_, _, h, none0 _, fun σ' hA hf β' k' => by simp only [evE, hA.ev (x := x) (by simp [Op.operands]), hx]⟩
    · cases h
  | binOp op t x y yt =>
    obtain ⟨z, h1, h3⟩ := evBin_par h
    exact ⟨.one z, [], h1, none0 _, fun σ' hA hf β' k' => by simp only [evE, hA.ev (x := x) (by simp [Op.operands]), hA.ev (x := y) (by simp [Op.operands])]; exact h3 fun z => k' (.one z) []⟩
  | unOp op t x =>
    obtain ⟨z, h1, h3⟩ := evUn_par h
    exact ⟨.one z, [], h1, none0 _, fun σ' hA hf β' k' => by simp only [evE, hA.ev (x := x) (by simp [Op.operands])]; exact h3 fun z => k' (.one z) []⟩
  | convert t t' x =>
    obtain ⟨s, ad, h1, h2, h3⟩ := evConv_par h
    exact ⟨s, ad, h1, h2, fun σ' hA hf β' k' => by simp only [evE, hA.ev (x := x) (by simp [Op.operands])]; exact h3 _ hA.sub hf k'⟩
  | slice t x lo hi mx =>
    cases mx with
    | none =>
      obtain ⟨s, h1, h3⟩ := evSlice_par h
      refine ⟨s, [], h1, none0 _, fun σ' hA hf β' k' => ?_⟩
      simp only [evE, hA.ev (x := x) (by simp [Op.operands])]
      exact h3 σ' hA.sub (fun o ho => hA.ev (by simp [Op.operands, ho])) (fun o ho => hA.ev (by simp [Op.operands, ho])) k'
    | some m => cases h
  | fieldAddr t x f =>
    obtain ⟨s, h1, h3⟩ := evFieldAddr_par h
    exact ⟨s, [], h1, none0 _, fun σ' hA hf β' k' => by simp only [evE, hA.ev (x := x) (by simp [Op.operands])]; exact h3 k'⟩
  | field t x f =>
    obtain ⟨s, ad, h1, h2, h3⟩ := evField_par h
    exact ⟨s, ad, h1, h2, fun σ' hA hf β' k' => by simp only [evE, hA.ev (x := x) (by simp [Op.operands])]; exact h3 _ hA.sub hf k'⟩
  | indexAddr t x i =>
    obtain ⟨s, h1, h3⟩ := evIndexAddr_par h
    exact ⟨s, [], h1, none0 _, fun σ' hA hf β' k' => by simp only [evE, hA.ev (x := x) (by simp [Op.operands]), hA.ev (x := i) (by simp [Op.operands])]; exact h3 _ hA.sub k'⟩
  | index t x i =>
    obtain ⟨s, h1, h3⟩ := evIndex_par h
    exact ⟨s, [], h1, none0 _, fun σ' hA hf β' k' => by simp only [evE, hA.ev (x := x) (by simp [Op.operands]), hA.ev (x := i) (by simp [Op.operands])]; exact h3 k'⟩
  | extract x i =>
    simp only at h
    split at h
    · rename_i t
      split at h
      · rename_i l hl
        split at h
        · rename_i z hz
          refine ⟨_, _, h, none0 _, fun σ' hA hf β' k' => ?_⟩
          have := hA.regs t (by simp [usesT, Op.operands])
          simp only [evE, this, hl, hz]
        · cases h
      · cases h
    · cases h
  | call c =>
    simp only at h
    split at h
    · rename_i f hf
      split at h
      · rename_i f' caps hfn
        split at h
        · rename_i S hS
          obtain ⟨hg, h⟩ := bif_none h
          have hg' := hg
          simp only [Bool.and_eq_true] at hg'
          have hbx := List.all_eq_true.1 hg'.2
          obtain ⟨s, ad, h1, h2, h3⟩ := evCallE_par h
          refine ⟨s, ad, h1, h2, fun σ' hA hfr β' k' => ?_⟩
          have e1 : ev σ' f = .fn f' caps := by
            rw [hA.ev (x := f) (by simp [Op.operands, Call.operands, hf])]
            exact hfn
          have e3 : ∀ y ∈ c.args.toList, ev σ' y = ev σ y := fun y hy => hA.ev (by simp only [Op.operands, Call.operands, Array.toList_append, List.mem_append]; exact .inr hy)
          have e2 : c.args.toList.map (ev σ') = c.args.toList.map (ev σ) := List.map_congr_left e3
          have e4 : caps.all (bxB σ'.own) = true := by
            rw [List.all_eq_true]
            intro y hy
            have := hbx y hy
            unfold bxB at this ⊢
            split at this
            · rename_i hl; rw [hA.sub _ _ hl]
            · rename_i hl; rw [hA.sub _ _ hl]
            · cases this
          simp only [evE, hf, e1, e2, hS, hg'.1, e4, Bool.and_self, cond_true]
          refine h3 _ _ hA.sub (fun o ho => ?_) hfr k'
          rcases List.mem_append.1 ho with ho | ho
          · obtain ⟨y, hy, rfl⟩ := List.mem_map.1 ho
            exact e3 y hy
          · obtain ⟨y, hy, rfl⟩ := List.mem_map.1 ho
            exact argR_sub hA.sub (hbx y hy)
        · cases h
      · cases h
    · rename_i hb
      split at h
      · rename_i x t hx ht
        obtain ⟨s, h1, h3⟩ := evLen_par h
        refine ⟨s, [], h1, none0 _, fun σ' hA hf β' k' => ?_⟩
        have e1 : ev σ' x = ev σ x := hA.ev (by simp only [Op.operands, Call.operands, Array.toList_append, List.mem_append, hx]; exact .inr List.mem_cons_self)
        simp only [evE, hb, hx, ht, e1]
        exact h3 _ hA.sub k'
      · cases h
    · rename_i hb
      split at h
      · rename_i x y hx
        obtain ⟨s, h1, h3⟩ := evMM_par h
        refine ⟨s, [], h1, none0 _, fun σ' hA hf β' k' => ?_⟩
        have e1 : ev σ' x = ev σ x := hA.ev (by simp only [Op.operands, Call.operands, Array.toList_append, List.mem_append, hx]; exact .inr List.mem_cons_self)
        have e2 : ev σ' y = ev σ y := hA.ev (by simp only [Op.operands, Call.operands, Array.toList_append, List.mem_append, hx]; exact .inr (List.mem_cons_of_mem _ List.mem_cons_self))
        simp only [evE, hb, hx, e1, e2]
        exact h3 k'
      · cases h
    · rename_i hb
      split at h
      · rename_i x y hx
        obtain ⟨s, h1, h3⟩ := evMM_par h
        refine ⟨s, [], h1, none0 _, fun σ' hA hf β' k' => ?_⟩
        have e1 : ev σ' x = ev σ x := hA.ev (by simp only [Op.operands, Call.operands, Array.toList_append, List.mem_append, hx]; exact .inr List.mem_cons_self)
        have e2 : ev σ' y = ev σ y := hA.ev (by simp only [Op.operands, Call.operands, Array.toList_append, List.mem_append, hx]; exact .inr (List.mem_cons_of_mem _ List.mem_cons_self))
        simp only [evE, hb, hx, e1, e2]
        exact h3 k'
      · cases h
    · cases h
  | _ => cases h

theorem evE_evOp {Φ : FuncId → Option (Spec N)} {o : Oper} {σ : St N} {s : Slot N} {ad : List (Nat × Blk N)} (h : evE τ Φ o σ (fun s ad => some (s, ad)) = some (s, ad)) (hp : ∀ {β' : Type} (k' : KK N β'), evE τ Φ o σ k' = k' s ad) {k : St N → Option β} :
    evOp τ Φ o σ k = k (({ σ with own := insAll ad σ.own } : St N).put o.dst s) := by
  obtain ⟨dst, op, ty, pos, after, guard⟩ := o
  have h1 := hp (fin1 σ dst k)
  cases op with
  | call c =>
    simp only [evE, evOp] at h h1 ⊢
    cases hc : c.callee with
    | value f =>
      simp only [hc] at h h1 ⊢
      cases hf : ev σ f with
      | fn f' caps =>
        simp only [hf] at h h1 ⊢
        simp only [evCallee]
        cases hS : pickS Φ f' (c.args.toList.map (ev σ)) with
        | none => rw [hS] at h; cases h
        | some S =>
          simp only [hS] at h h1 ⊢
          obtain ⟨hg, h⟩ := bif_none h
          simp only [Bool.and_eq_true] at hg
          have hg0 := Nat.eq_of_beq_eq_true hg.1.1
          have hg1 := Nat.eq_of_beq_eq_true hg.1.2
          have hg2 : Nat.beq S.ps.length ((c.args.toList.map Arg.op ++ caps.map Arg.cap).length + S.gh) = true := by
            rw [hg0, Nat.add_zero, hg1]
            exact Nat.beq_refl _
          rw [hg2, cond_true]
          rw [show (c.args.toList.map Arg.op ++ caps.map Arg.cap) ++ (ghostIds σ.own S.ps S.gh ((c.args.toList.map Arg.op ++ caps.map Arg.cap).map (argR σ))).map Arg.cap = c.args.toList.map Arg.op ++ caps.map Arg.cap from by rw [hg0]; simp [ghostIds]]
          rw [evCallE_eq h]
          rfl
      | _ => rw [hf] at h; cases h
    | invoke r m => rw [hc] at h; cases h
    | builtin b =>
      simp only [hc] at h h1 ⊢
      cases b with
      | len =>
        simp only at h h1 ⊢
        exact h1
      | min =>
        simp only at h h1 ⊢
        exact h1
      | max =>
        simp only at h h1 ⊢
        exact h1
      | _ => cases h
  | slice t x lo hi mx =>
    cases mx with
    | none => exact h1
    | some m => cases h
  | extract x i =>
    simp only [evE, evOp] at h h1 ⊢
    exact h1
  | pick c x y =>
    simp only [evE, evOp] at h h1 ⊢
    cases hx : ev σ c <;> rw [hx] at h h1 <;> first | exact h1 | cases h
  | nilCheck x =>
    simp only [evE, evOp] at h h1 ⊢
    cases hx : ev σ x <;> rw [hx] at h h1 <;> first | exact h1 | cases h
  | move x => exact h1
  | build t ps => exact h1
  | alloc t => exact h1
  | makeSlice t l c => exact h1
  | buildSlice t n ps => exact h1
  | assign x => exact h1
  | load t x => exact h1
  | binOp op t x y yt =>
    have hn : isNilC y = false := by
      cases hy : isNilC y with
      | false => rfl
      | true =>
        exfalso
        have hy' : y = .const (.slice none 0 0) := by
          unfold isNilC at hy
          split at hy
          · rfl
          · cases hy
        subst hy'
        simp only [evE, show ev σ (.const (.slice none 0 0)) = (.nil : RV N) from rfl] at h
        unfold evBin at h
        cases hx : ev σ x with
        | data t' a bs => rw [hx] at h; cases t' <;> cases h
        | _ => rw [hx] at h; cases h
    simp only [evE, evOp, hn] at h1 ⊢
    exact h1
  | unOp op t x => exact h1
  | convert t t' x => exact h1
  | fieldAddr t x f => exact h1
  | field t x f => exact h1
  | indexAddr t x i => exact h1
  | index t x i => exact h1
  | _ => cases h

/-- An operation that reads or adds: its effect, wherever it is carried out. -/
theorem evE_does (F : Fits P N τ) {Φ : FuncId → Option (Spec N)} (hΦ : ∀ f S, Φ f = some S → Good P (f % 1000000) S) {o : Oper} {σ : St N} {k : KK N β} {r : β} (h : evE τ Φ o σ k = some r) :
    ∃ s ad, k s ad = some r ∧ (∀ p ∈ ad, look σ.own p.1 = none) ∧ ∀ σ' : St N, Agree o σ σ' → (∀ p ∈ ad, look σ'.own p.1 = none) → DoesO P o σ' (({ σ' with own := insAll ad σ'.own } : St N).put o.dst s) ∧ ∀ {β' : Type} (k' : KK N β'), evE τ Φ o σ' k' = k' s ad := by
  obtain ⟨s, ad, h1, h2, h3⟩ := evE_par h
  refine ⟨s, ad, h1, h2, fun σ' hA hf => ⟨?_, fun k' => h3 σ' hA hf k'⟩⟩
  have hp : ∀ {β' : Type} (k' : KK N β'), evE τ Φ o σ' k' = k' s ad := fun k' => h3 σ' hA hf k'
  have := evE_evOp (hp fun s ad => some (s, ad)) hp (k := fun σ => some σ)
  obtain ⟨σ1, e1, e2⟩ := evOp_sound F hΦ this
  cases e1
  exact e2

end Go.Eng
