/- The engine, part V: what a call leaves behind.
The engine, part VM: maps of plain keys and plain values.
The engine, part W: one operation, and a row of operations.
The engine, part WD: operations that only read or add: what they do does not hang on what else was added.
The engine, part WE: regions whose order is open: reading operations in any order, then a tail in its order.
The engine, part WF: a region whose order is open, followed. -/
import Derived.Test.YtlkllggdiakpbaaGreatDoorEngine2
import Derived.MapFrom
import Derived.Orders
import Derived.StillTail
set_option linter.unusedVariables false
set_option linter.unusedSimpArgs false
namespace Go.Eng
variable {N : Names} {io : Io} {w0 w w' : World} {σ : St N} {E : Env} {a : Act} {P : Program}
theorem mem_oneBlk {v : Value} {g : Nat} : g ∈ oneBlk v ↔ blkOf v = some g := by
 unfold oneBlk
 cases blkOf v with
 | none => simp
 | some b =>
  simp only [Option.toList, List.mem_singleton, Option.some.injEq]
  exact eq_comm
def valOf : List (Ent N) → Nat → Value
 | [], _ => .tuple #[]
 | e :: l, i => if e.1 = i then e.2.2 else valOf l i
theorem ent_look : ∀ {L : List (Ent N)}, (L.map (·.1)).Nodup → ∀ e ∈ L, look (L.map Ent.two) e.1 = some e.2.1 ∧ valOf L e.1 = e.2.2
 | [], _, e, he => by cases he
 | x :: L, hn, e, he => by
  rw [List.map_cons, List.nodup_cons] at hn
  rcases List.mem_cons.1 he with rfl | he
  ·exact ⟨by simp [look, Ent.two], by simp [valOf]⟩
  ·have hne : x.1 ≠ e.1 := fun h => hn.1 (List.mem_map.2 ⟨e, he, h.symm⟩)
   obtain ⟨h1, h2⟩ := ent_look hn.2 e he
   have : (x.1 == e.1) = false := by simpa using hne
   exact ⟨by simp only [List.map_cons, look, Ent.two, this, cond_false]; exact h1, by simp only [valOf, if_neg hne]; exact h2⟩
theorem look_ent : ∀ {L : List (Ent N)} {i : Nat} {b : Blk N}, look (L.map Ent.two) i = some b → ∃ e ∈ L, e.1 = i ∧ e.2.1 = b
 | [], _, _, h => by cases h
 | x :: L, i, b, h => by
  simp only [List.map_cons, look, Ent.two] at h
  cases hx : (x.1 == i) with
  | true =>
   rw [hx] at h
   cases h
   exact ⟨x, List.mem_cons_self, by simpa using hx, rfl⟩
  | false =>
   rw [hx] at h
   obtain ⟨e, he, h1, h2⟩ := look_ent (L := L) h
   exact ⟨e, List.mem_cons_of_mem _ he, h1, h2⟩
theorem ent_sep : ∀ {L : List (Ent N)}, (L.flatMap fun e => oneBlk e.2.2).Nodup → ∀ e ∈ L, ∀ e' ∈ L, e.1 ≠ e'.1 → ∀ g, blkOf e.2.2 = some g → blkOf e'.2.2 ≠ some g
 | [], _, e, he, _, _, _, _, _ => by cases he
 | x :: L, hn, e, he, e', he', hne, g, hg => by
  rw [List.flatMap_cons, List.nodup_append] at hn
  rcases List.mem_cons.1 he with rfl | he
  ·rcases List.mem_cons.1 he' with rfl | he'
   ·exact absurd rfl hne
   ·intro hg'
    exact hn.2.2 g (mem_oneBlk.2 hg) g (List.mem_flatMap.2 ⟨e', he', mem_oneBlk.2 hg'⟩) rfl
  ·rcases List.mem_cons.1 he' with rfl | he'
   ·rename_i he2
    intro hg'
    exact hn.2.2 g (mem_oneBlk.2 hg') g (List.mem_flatMap.2 ⟨e, he2, mem_oneBlk.2 hg⟩) rfl
   ·exact ent_sep hn.2.1 e he e' he' hne g hg
theorem killD_nil (r : RV N) : killD [] [] r = r := by
 have h1 : ∀ l, meets [] l = false := fun l => by
  unfold meets
  rw [List.any_eq_false]
  intro i _
  simp
 simp [killD, h1]
theorem killDB_nil (b : Blk N) : killDB [] [] b = b := by
 cases b with
 | cells l =>
  simp only [killDB, Blk.map]
  rw [List.map_congr_left (fun r _ => killD_nil r), List.map_id']
 | vals n l =>
  simp only [killDB, Blk.map]
  rw [List.map_congr_left (fun r _ => killD_nil r), List.map_id']
 | _ => rfl
theorem slotKill_nil (s : Slot N) : s.map (killD [] []) = s := by
 cases s with
 | one r => simp [Slot.map, killD_nil]
 | tup l =>
  simp only [Slot.map]
  rw [List.map_congr_left (fun r _ => killD_nil r), List.map_id']
theorem havR_eq {D U : List Nat} (hU : D = [] → U = []) (σ : St N) (new : List (Nat × Blk N)) :
  havR D U σ new = { regs := σ.regs.map (Slot.map (killD D U)), own := insAll new (delL D (mapO (killDB D U) σ.own)) } := by
 cases D with
 | nil =>
  rw [hU rfl]
  have h1 : σ.regs.map (Slot.map (killD [] [])) = σ.regs := by rw [List.map_congr_left (fun s _ => slotKill_nil s), List.map_id']
  have h2 : mapO (killDB [] []) σ.own = σ.own := by
   unfold mapO
   rw [List.map_congr_left (g := fun p => p) (fun p _ => by rw [killDB_nil]), List.map_id']
  rw [h1, h2]
  rfl
 | cons i r => rfl
theorem nodup_blks (h : RelE io w0 σ E a w) : ∀ {D : List Nat}, D.Nodup → (∀ id ∈ D, ∃ b, look σ.own id = some b) → (D.flatMap fun id => oneBlk (E id)).Nodup
 | [], _, _ => List.nodup_nil
 | i :: D, hn, hs => by
  rw [List.nodup_cons] at hn
  rw [List.flatMap_cons, List.nodup_append]
  refine ⟨?_, nodup_blks h hn.2 (fun id hid => hs id (List.mem_cons_of_mem _ hid)), ?_⟩
  ·unfold oneBlk
   cases blkOf (E i) <;> simp
  ·intro g hg g' hg' e
   subst e
   obtain ⟨j, hj, hg2⟩ := List.mem_flatMap.1 hg'
   obtain ⟨bi, hbi⟩ := hs i List.mem_cons_self
   obtain ⟨bj, hbj⟩ := hs j (List.mem_cons_of_mem _ hj)
   exact h.sep i j bi bj hbi hbj (fun e => hn.1 (e ▸ hj)) g (mem_oneBlk.1 hg) (mem_oneBlk.1 hg2)
theorem packRel {l : List (RV N)} {us : List Value} {own : List (Nat × Blk N)} (hl : us.length = l.length) (h : ∀ (i : Nat) r u, l[i]? = some r → us[i]? = some u → RVRel w own E r u) : SlotRel w own E (packS l) (packV us) := by
 match l, us, hl with
 | [], [], _ => exact ⟨[], rfl, rfl, fun i r u hi _ => by simp at hi⟩
 | [r], [u], _ => exact h 0 r u rfl rfl
 | r :: r2 :: l, u :: u2 :: us, hl => exact ⟨u :: u2 :: us, rfl, hl, h⟩
theorem evCall_sound {β ι : Type} {S : Spec N} {f : FuncId} (hg : Good P f S) {σ : St N} {ρ : ι → RV N} {os : List ι} {dst : Option Nat} {k : Slot N → St N → Option β} {r : β} (h : evCall S σ ρ os dst k = some r) :
  ∃ s σ', k s σ' = some r ∧ σ'.regs.length = σ.regs.length ∧ ∀ io w0 E a w (val : ι → Value), RelE io w0 σ E a w → (∀ o ∈ os, RVRel w σ.own E (ρ o) (val o)) → Calls P f ((os.map val).take (S.ps.length - S.gh)).toArray w fun e w' => ∃ v E', e = .returned v ∧ RelE io w0 σ' E' a w' ∧ SlotRel w' σ'.own E' s v := by
 unfold evCall at h
 split at h
 ·cases h
 ·rename_i x B D U hc
  obtain ⟨hcond, h⟩ := bif_none h
  simp only [Bool.and_eq_true, Bool.not_eq_true'] at hcond
  obtain ⟨⟨⟨⟨hD, hDB⟩, hno⟩, hfr⟩, hrn⟩ := hcond
  have hrn := nodupB_spec hrn
  have hD := nodupB_spec hD
  have hDB := meets_false hDB
  obtain ⟨y, hy, hk⟩ := Option.bind_eq_some_iff.1 h
  refine ⟨_, _, hk, ?_, fun io w0 E a w val hr hρ => ?_⟩
  ·cases D <;> simp [havR]
  obtain ⟨c1, c2, c3⟩ := callIn_rel hr (B0 := B) hρ S.ps os hρ x B D U hc (fun _ h => h)
  have hcall := hg.calls w (okb w.heap.size σ.own E B) x (os.map val) _ y (fun b hb => hb.1.1) c1 (nodup_blks hr hD c2) (fun g hg => by
   obtain ⟨d, hd, hg2⟩ := List.mem_flatMap.1 hg
   obtain ⟨bd, hbd⟩ := c2 d hd
   refine ⟨fun hok => hok.2 d (by rw [hbd]; rfl) (fun hm => hDB d hm hd) (mem_oneBlk.1 hg2), (hr.blk d bd hbd g (mem_oneBlk.1 hg2)).1⟩) hy
  refine hcall.mono ?_
  rintro e w' ⟨us, bl', rl, rfl, hA⟩
  obtain ⟨L1, a1, a2, a3, a4, a5⟩ := callNew_rel (w' := w') (B := B) hr S.ps os hρ x B D U _ bl' hc hD hA.out
  obtain ⟨L2, b1, b2, b3, b4, b5, b6⟩ := res_rel (w' := w') (B := B) (d := dst.getD 0) S.rs 0 _ us rl hA.res
  have hres := freshIds_spec hfr
  have hids : ((L1 ++ L2).map (·.1)).Nodup := by
   rw [List.map_append, b2, List.nodup_append]
   refine ⟨hD.sublist a2.1, hrn, fun i hi j hj e => ?_⟩
   subst e
   obtain ⟨b, hb⟩ := c2 i (a2.1.subset hi)
   rw [hres i hj] at hb
   cases hb
  have hnew : (L1 ++ L2).map Ent.two = callNew σ.own ρ B S.ps os (S.out y).2 ++ resNew B (dst.getD 0) S.rs 0 (S.out y).1 := by
   rw [List.map_append, a1, b1]
  have hblks : ((L1 ++ L2).flatMap fun e => oneBlk e.2.2) = bl' ++ rl := by
   rw [List.flatMap_append, ← a3, ← b3]
  have hinD : ∀ e ∈ L1, e.1 ∈ D := fun e he => a2.1.subset (List.mem_map.2 ⟨e, he, rfl⟩)
  have hinR : ∀ e ∈ L2, e.1 ∈ resIds (dst.getD 0) S.rs 0 := fun e he => by rw [← b2]; exact List.mem_map.2 ⟨e, he, rfl⟩
  rw [← hnew, havR_eq (D := D) (U := U) (fun e => by
   subst e
   cases U with
   | nil => rfl
   | cons i U => exact absurd (c3 i List.mem_cons_self).1 (by simp))]
  generalize hnw : (L1 ++ L2).map Ent.two = new at *
  have hin : ∀ e ∈ L1 ++ L2, look new e.1 = some e.2.1 ∧ valOf (L1 ++ L2) e.1 = e.2.2 := by
   intro e he
   have := ent_look hids e he
   rw [hnw] at this
   exact this
  have hof : ∀ id b, look new id = some b → ∃ e ∈ L1 ++ L2, e.1 = id ∧ e.2.1 = b ∧ valOf (L1 ++ L2) id = e.2.2 := by
   intro id b hb
   rw [← hnw] at hb
   obtain ⟨e, he, rfl, rfl⟩ := look_ent hb
   exact ⟨e, he, rfl, rfl, (hin e he).2⟩
  have hsep := ent_sep (L := L1 ++ L2) (by rw [hblks]; exact hA.nodup)
  have hold : ∀ g ∈ bl' ++ rl, g < w'.heap.size ∧ ((∃ d ∈ D, (look σ.own d).isSome = true ∧ blkOf (E d) = some g) ∨ w.heap.size ≤ g) := by
   intro g hg
   refine ⟨(hA.old g hg).2, ?_⟩
   rcases (hA.old g hg).1 with h1 | h1
   ·obtain ⟨d, hd, hg2⟩ := List.mem_flatMap.1 h1
    obtain ⟨bd, hbd⟩ := c2 d hd
    exact .inl ⟨d, hd, by rw [hbd]; rfl, mem_oneBlk.1 hg2⟩
   ·exact .inr h1
  have hN : NewOk σ.own E D U new (valOf (L1 ++ L2)) w w' := by
   refine ⟨?_, ?_, ?_, ?_, fun id hid b hb => (c3 id hid).2 b hb⟩
   ·intro id b hb g hg
    obtain ⟨e, he, rfl, rfl, hv⟩ := hof id b hb
    rw [hv] at hg
    exact hold g (by rw [← hblks]; exact List.mem_flatMap.2 ⟨e, he, mem_oneBlk.2 hg⟩)
   ·intro id id' b b' hb hb' hne g hg
    obtain ⟨e, he, rfl, rfl, hv⟩ := hof id b hb
    obtain ⟨e', he', rfl, rfl, hv'⟩ := hof id' b' hb'
    rw [hv] at hg
    rw [hv']
    exact hsep e he e' he' hne g hg
   ·intro id b hb
    obtain ⟨e, he, rfl, rfl, hv⟩ := hof id b hb
    rcases List.mem_append.1 he with he | he
    ·exact .inl (hinD e he)
    ·exact .inr (hres _ (hinR e he))
   ·intro id hid hU b hb
    have hid := (a2.2 id hid).resolve_left hU
    obtain ⟨e, he, rfl⟩ := List.mem_map.1 hid
    obtain ⟨h1, h2⟩ := hin e (List.mem_append.2 (.inl he))
    rcases a5 e he with h3 | ⟨b0, h3, h4, h5, h6⟩
    ·exact absurd h3 hU
    ·rw [hb] at h3
     cases h3
     exact ⟨_, h1, h4, by rw [h2, h5], h6⟩
  have hH : HavocW σ.own E D w w' := by
   refine ⟨hA.kept.os, hA.kept.tape, hA.kept.output, hA.kept.size, fun g hg hd => hA.kept.block g hg (fun hm => ?_)⟩
   obtain ⟨d, hdd, hg2⟩ := List.mem_flatMap.1 hm
   obtain ⟨bd, hbd⟩ := c2 d hdd
   exact hd d hdd (by rw [hbd]; rfl) (mem_oneBlk.1 hg2)
  have hlook : ∀ j, look (insAll new (delL D (mapO (killDB D U) σ.own))) j = match look new j with
    | some b => some b
    | none => if j ∈ D then none else (look σ.own j).map (killDB D U) := by
   intro j
   rw [look_insAll, look_delL, look_mapO]
   cases look new j <;> rfl
  have hst : ∀ e ∈ L1 ++ L2, look (insAll new (delL D (mapO (killDB D U) σ.own))) e.1 = some e.2.1 ∧ envOf E new (valOf (L1 ++ L2)) e.1 = e.2.2 := by
   intro e he
   obtain ⟨h1, h2⟩ := hin e he
   exact ⟨by rw [hlook, h1], by rw [envOf_new h1, h2]⟩
  have hok : ∀ g, okAfter (okb w.heap.size σ.own E B) w w' (D.flatMap fun id => oneBlk (E id)) (bl' ++ rl) g → okb w'.heap.size (insAll new (delL D (mapO (killDB D U) σ.own))) (envOf E new (valOf (L1 ++ L2))) B g := by
   rintro g ⟨g1, g2, g3⟩
   refine ⟨⟨g1, ?_⟩, fun id hid hB => ?_⟩
   ·show E.A g
    rcases g2 with g2 | g2 | g2
    ·exact g2.1.2
    ·obtain ⟨d, hd, hg2⟩ := List.mem_flatMap.1 g2
     obtain ⟨bd, hbd⟩ := c2 d hd
     rw [hr.sc]
     exact hr.nw g (hr.blk d bd hbd g (mem_oneBlk.1 hg2)).2
    ·rw [hr.sc]
     exact hr.nw g (.inl (Nat.le_trans hr.kept.size g2))
   ·cases hl : look new id with
    | some b =>
     obtain ⟨e, he, rfl, rfl, hv⟩ := hof id b hl
     rw [envOf_new hl, hv]
     intro hg
     exact g3 (by rw [← hblks]; exact List.mem_flatMap.2 ⟨e, he, mem_oneBlk.2 hg⟩)
    | none =>
     rw [envOf_old hl]
     rw [hlook, hl] at hid
     simp only at hid
     by_cases hidD : id ∈ D
     ·rw [if_pos hidD] at hid; cases hid
     ·rw [if_neg hidD] at hid
      have hs : (look σ.own id).isSome = true := by
       cases h : look σ.own id with
       | none => rw [h] at hid; cases hid
       | some b => rfl
      intro hg
      rcases g2 with g2 | g2 | g2
      ·exact g2.2 id hs hB hg
      ·obtain ⟨d, hd, hg2⟩ := List.mem_flatMap.1 g2
       obtain ⟨bd, hbd⟩ := c2 d hd
       obtain ⟨b, hb⟩ := Option.isSome_iff_exists.1 hs
       exact hr.sep id d b bd hb hbd (fun e => hidD (e ▸ hd)) g hg (mem_oneBlk.1 hg2)
      ·obtain ⟨b, hb⟩ := Option.isSome_iff_exists.1 hs
       have := (hr.blk id b hb g hg).1
       omega
  have hfk : FkOk w' (fnIs ρ os) (os.map val) (insAll new (delL D (mapO (killDB D U) σ.own))) (envOf E new (valOf (L1 ++ L2))) := by
   intro f' js r' hf'
   unfold fnIs at hf'
   split at hf'
   ·rename_i f'' caps
    simp only [Bool.and_eq_true] at hf'
    obtain ⟨hf1, hf2⟩ := hf'
    obtain rfl := Nat.eq_of_beq_eq_true hf1
    obtain ⟨q1, q2⟩ := capsAre_spec hρ js caps hf2
    have hbx : ∀ c ∈ caps, isBox (insAll new (delL D (mapO (killDB D U) σ.own))) c ∧ envOf E new (valOf (L1 ++ L2)) c = E c ∧ ∃ g, E c = .pointer (some ⟨g, 0, none⟩) := by
     intro c hcm
     obtain ⟨o, ho, hoc⟩ := q2 c hcm
     have hro := hρ o ho
     rw [hoc] at hro
     obtain ⟨hbox, g, e1, e2⟩ := hro
     obtain ⟨b, hb⟩ := isBox_some hbox
     have hbp : b.pinned = true := by
      rcases hbox with ⟨t, x, bs, k1⟩ | ⟨l, k1⟩ | ⟨kt, vt, es, k1⟩ | ⟨n, l, k1⟩ <;> (rw [k1] at hb; cases hb; rfl)
     have hcU : c ∉ U := fun hu => by rw [(c3 c hu).2 b hb] at hbp; cases hbp
     have hl := hlook c
     by_cases hcD : c ∈ D
     ·obtain ⟨b', n1, n2, n3, _⟩ := hN.stay c hcD hcU b hb
      refine ⟨?_, by rw [envOf_new n1, n3], g, e1⟩
      rw [n1] at hl
      cases b' with
      | row e' t' xs' bs' p' =>
       rcases hbox with ⟨t, x, bs, k1⟩ | ⟨l, k1⟩ | ⟨kt, vt, es, k1⟩ | ⟨n, l, k1⟩ <;> (rw [k1] at hb; cases hb; exact n2.elim)
      | whole t x bs => exact .inl ⟨t, x, bs, hl⟩
      | cells l => exact .inr (.inl ⟨l, hl⟩)
      | mapB kt vt es => exact .inr (.inr (.inl ⟨kt, vt, es, hl⟩))
      | vals n l => exact .inr (.inr (.inr ⟨n, l, hl⟩))
     ·have hnn : look new c = none := by
       cases hn : look new c with
       | none => rfl
       | some b' =>
        rcases hN.fresh c b' hn with h1 | h1
        ·exact absurd h1 hcD
        ·rw [hb] at h1; cases h1
      refine ⟨?_, envOf_old hnn, g, e1⟩
      rw [hnn] at hl
      simp only [if_neg hcD] at hl
      rcases hbox with ⟨t, x, bs, k1⟩ | ⟨l, k1⟩ | ⟨kt, vt, es, k1⟩ | ⟨n, l, k1⟩
      ·rw [k1] at hl; exact .inl ⟨t, x, bs, hl⟩
      ·rw [k1] at hl; exact .inr (.inl ⟨_, hl⟩)
      ·rw [k1] at hl; exact .inr (.inr (.inl ⟨kt, vt, es, hl⟩))
      ·rw [k1] at hl; exact .inr (.inr (.inr ⟨_, _, hl⟩))
    refine ⟨?_, fun c hcm => ⟨(hbx c hcm).1, (hbx c hcm).2.2.imp fun g hg => (hbx c hcm).2.1.trans hg⟩⟩
    unfold closV
    rw [← q1, List.map_congr_left (fun c hcm => (hbx c hcm).2.1)]
   ·cases hf'
  have hrel := hr.havoc hH hN (noBsD_spec hno) (fun id b hb => by
   obtain ⟨e, he, rfl, rfl, hv⟩ := hof id b hb
   rcases List.mem_append.1 he with he' | he'
   ·exact a4 _ _ (fun e he => hst e (List.mem_append.2 (.inl he))) hfk hok e he'
   ·exact b4 _ _ (fun e he => hst e (List.mem_append.2 (.inr he))) trivial hok e he')
  exact ⟨_, _, rfl, hrel, packRel b5 (b6 _ _ (fun e he => hst e (List.mem_append.2 (.inr he))) hok)⟩
end Go.Eng

set_option linter.unusedVariables false
set_option linter.unusedSimpArgs false
namespace Go.Eng
variable {N : Names} {P : Program} {τ : TypeId → Option TI} {β : Type}
def scal : Ty → Bool
 | .int _ => true
 | .bool => true
 | .str => true
 | _ => false
def keyEq : (t : Ty) → t.den N.ρ → t.den N.ρ → Bool
 | .int _, a, b => decide (a = b)
 | .bool, a, b => decide (a = b)
 | .str, a, b => decide (a = b)
 | _, _, _ => false
def mfind {α β : Type} (eq : α → α → Bool) : List (α × β) → α → Option β
 | [], _ => none
 | (k, z) :: r, x => bif eq x k then some z else mfind eq r x
def mset {α β : Type} (eq : α → α → Bool) : List (α × β) → α → β → List (α × β)
 | [], x, y => [(x, y)]
 | (k, z) :: r, x, y => bif eq x k then (x, y) :: r else (k, z) :: mset eq r x y
def hasK {α : Type} : Option α → Bool
 | some _ => true
 | none => false
def orZ {α : Type} : Option α → α → α
 | some x, _ => x
 | none, z => z
def KeyDesc : Ty → TypeDesc → Prop
 | .int k, d => d = .int k
 | .bool, d => d = .bool
 | .str, d => d = .string
 | _, _ => False
theorem keyDesc (F : Fits P N τ) {t e : TypeId} {kt : Ty} (h : τ t = some ⟨kt, e⟩) (hs : scal kt = true) : ∃ d, P.underlying t = some d ∧ KeyDesc kt d := by
 cases kt with
 | int k => exact ⟨_, (F.int t k e h).1, rfl⟩
 | bool => exact ⟨_, (F.bool t e h).1, rfl⟩
 | str => exact ⟨_, (F.str t e h).1, rfl⟩
 | _ => cases hs
theorem isKey_of {kt : Ty} {d : TypeDesc} {x : kt.den N.ρ} {v : Value} (hd : KeyDesc kt d) (h : ScalRel kt x v) : MapKept.IsKey d v := by
 cases kt with
 | int k => cases hd; cases h; exact rfl
 | bool => cases hd; cases h; exact trivial
 | str => cases hd; obtain ⟨s, rfl, _⟩ := h; exact trivial
 | _ => exact h.elim
theorem scal_eq {kt : Ty} {x y : kt.den N.ρ} {v u : Value} (hx : ScalRel kt x v) (hy : ScalRel kt y u) : keyEq (N := N) kt x y = true ↔ v = u := by
 cases kt with
 | int k => cases hx; cases hy; simp [keyEq]
 | bool => cases hx; cases hy; simp [keyEq]
 | str =>
  obtain ⟨s, rfl, rfl⟩ := hx
  obtain ⟨s', rfl, rfl⟩ := hy
  simp only [keyEq, decide_eq_true_eq, Value.string.injEq]
  exact ⟨bytesL_inj, fun h => by rw [h]⟩
 | _ => exact hx.elim
theorem find_rel {kt vt : Ty} {d : TypeDesc} (hd : KeyDesc kt d) {x : kt.den N.ρ} {v : Value} (hx : ScalRel kt x v) : ∀ (es : List (kt.den N.ρ × vt.den N.ρ)) (arr : List MapEntry) (i : Nat), MapRel kt vt es arr →
  (mfind (keyEq (N := N) kt) es x = none ∧ Instr.findNow d v arr i = some none ∧ ∀ y u c, ScalRel vt y u → MapRel kt vt (mset (keyEq (N := N) kt) es x y) (arr ++ [⟨v, u, c⟩])) ∨
  ∃ j e z, mfind (keyEq (N := N) kt) es x = some z ∧ Instr.findNow d v arr i = some (some (i + j, e.val)) ∧ arr[j]? = some e ∧ e.key = v ∧ ScalRel vt z e.val ∧ ∀ y u, ScalRel vt y u → MapRel kt vt (mset (keyEq (N := N) kt) es x y) (arr.modify j fun e => { e with key := v, val := u })
 | [], arr, i, h => by
  rw [show arr = [] from h]
  exact .inl ⟨rfl, rfl, fun y u c hu => ⟨_, [], rfl, hx, hu, rfl⟩⟩
 | (k, z) :: xs, arr, i, h => by
  obtain ⟨e, rest, rfl, h1, h2, h3⟩ := h
  have hk := isKey_of hd hx
  have hk' := isKey_of hd h1
  obtain ⟨r, hr, hiff⟩ := MapKept.sameNow_of_keys hk hk'
  have hse := scal_eq hx h1
  cases hke : keyEq (N := N) kt x k with
  | true =>
   have hv : v = e.key := hse.1 hke
   have hrt : r = true := hiff.2 hv
   subst hrt
   refine .inr ⟨0, e, z, by simp [mfind, hke], by simp [Instr.findNow, hr], rfl, hv.symm, h2, fun y u hu => ?_⟩
   simp only [mset, hke, cond_true, List.modify_zero_cons]
   exact ⟨_, rest, rfl, hx, hu, h3⟩
  | false =>
   have hrf : r = false := by
    cases r with
    | false => rfl
    | true =>
     have := hse.2 (hiff.1 rfl)
     rw [hke] at this
     cases this
   subst hrf
   rcases find_rel hd hx xs rest (i + 1) h3 with ⟨q1, q2, q3⟩ | ⟨j, e', z', q1, q2, q3, q4, q5, q6⟩
   ·refine .inl ⟨by simp [mfind, hke, q1], by simp [Instr.findNow, hr, q2], fun y u c hu => ?_⟩
    simp only [mset, hke, cond_false, List.cons_append]
    exact ⟨e, _, rfl, h1, h2, q3 y u c hu⟩
   ·refine .inr ⟨j + 1, e', z', by simp [mfind, hke, q1], by simp [Instr.findNow, hr, q2]; omega, by simpa using q3, q4, q5, fun y u hu => ?_⟩
    simp only [mset, hke, cond_false, List.modify_succ_cons]
    exact ⟨e, _, rfl, h1, h2, q6 y u hu⟩
def toScal (t : Ty) (r : RV N) : Option (t.den N.ρ) :=
 match r with
 | .int k n => castTy N (.int k) t n
 | .bool b => castTy N .bool t b
 | .str l => castTy N .str t l
 | _ => none
theorem toScal_rel {w : World} {own : List (Nat × Blk N)} {E : Env} {t : Ty} {r : RV N} {v : Value} {x : t.den N.ρ} (h : toScal t r = some x) (hr : RVRel w own E r v) : ScalRel t x v := by
 cases r with
 | int k n => obtain ⟨e, rfl⟩ := castTy_some h; subst e; exact hr
 | bool b => obtain ⟨e, rfl⟩ := castTy_some h; subst e; exact hr
 | str l => obtain ⟨e, rfl⟩ := castTy_some h; subst e; exact hr
 | _ => cases h
theorem scal_rv {w : World} {own : List (Nat × Blk N)} {E : Env} {t : Ty} {x : t.den N.ρ} {v : Value} (h : ScalRel t x v) : RVRel w own E (ofDen t x []) v := by
 cases t with
 | int k => exact h
 | bool => exact h
 | str => exact h
 | _ => exact h.elim
def mapTys (τ : TypeId → Option TI) (t : TypeId) : Option (Ty × Ty) :=
 match τ t with
 | some ⟨.opq, e⟩ => bif decide (e = 0) then none else match τ (e / 100000), τ (e % 100000) with
  | some ⟨kt, _⟩, some ⟨vt, _⟩ => bif scal kt && scal vt then some (kt, vt) else none
  | _, _ => none
 | _ => none
theorem mapTys_spec (F : Fits P N τ) {t : TypeId} {kt vt : Ty} (h : mapTys τ t = some (kt, vt)) : ∃ k e ek ee, P.underlying t = some (.map k e) ∧ τ k = some ⟨kt, ek⟩ ∧ τ e = some ⟨vt, ee⟩ ∧ scal kt = true ∧ scal vt = true := by
 unfold mapTys at h
 split at h
 ·rename_i e hτ
  cases he : decide (e = 0) with
  | true => rw [he] at h; cases h
  | false =>
   rw [he] at h
   simp only [cond_false] at h
   split at h
   ·rename_i kt' ek vt' ee h1 h2
    obtain ⟨hs, h⟩ := bif_none h
    cases h
    simp only [Bool.and_eq_true] at hs
    rcases F.mp t e hτ with h0 | h0
    ·exact absurd h0 (by simpa using he)
    ·exact ⟨_, _, _, _, h0, h1, h2, hs.1, hs.2⟩
   ·cases h
 ·cases h
def evMakeMap (τ : TypeId → Option TI) (σ : St N) (t : TypeId) (res : Option Operand) (dst : Option Nat) (k : KK N β) : Option β :=
 match dst with
 | none => none
 | some d => match look σ.own (1000 + d) with
  | some _ => none
  | none => match mapTys τ t with
   | some (kt, vt) => match res with
    | none => k (.one (.mp (1000 + d))) [(1000 + d, .mapB kt vt [])]
    | some o => match ev σ o with
     | .int _ _ => k (.one (.mp (1000 + d))) [(1000 + d, .mapB kt vt [])]
     | _ => none
   | none => none
theorem evMakeMap_sound (F : Fits P N τ) {σ : St N} {t : TypeId} {res : Option Operand} {dst : Option Nat} {k : KK N β} {r : β} (h : evMakeMap τ σ t res dst k = some r) :
  ∃ s ad, k s ad = some r ∧ Does P σ (fun a => Instr.makeMap t (res.map a.eval)) s ad := by
 unfold evMakeMap at h
 split at h
 ·cases h
 ·rename_i d
  split at h
  ·cases h
  ·rename_i hl
   split at h
   ·rename_i kt vt hm
    obtain ⟨kk, ee, ek, ev', hu, _⟩ := mapTys_spec F hm
    have key : (∀ io w0 E a w, RelE io w0 σ E a w → (Instr.makeMap t (res.map a.eval)).run P w = .ok (.map (some w.heap.size)) (w.alloc (.map #[] 0))) →
      k (.one (.mp (1000 + d))) [(1000 + d, .mapB kt vt [])] = some r → ∃ s ad, k s ad = some r ∧ Does P σ (fun a => Instr.makeMap t (res.map a.eval)) s ad := by
     intro hrun hk
     refine ⟨_, _, hk, fun io w0 E a w hr => ?_⟩
     have he := Ext.alloc w (.map #[] 0)
     have hadd := hr.add he (V := .map (some w.heap.size)) (b := .mapB kt vt []) hl (fun g hg => by cases hg; exact ⟨Nat.le_refl _, by simp⟩) ⟨w.heap.size, #[], 0, updE_same _ _ _, heap_alloc_new w _, rfl⟩
     exact ⟨_, _, _, hrun io w0 E a w hr, hadd, .inr (.inr (.inl ⟨kt, vt, [], by rw [show insAll [(1000 + d, Blk.mapB kt vt [])] σ.own = ins _ _ σ.own from rfl, look_ins, if_pos rfl]⟩)), (updE_same _ _ _).symm⟩
    split at h
    ·exact key (fun io w0 E a w hr => rfl) h
    ·rename_i o
     split at h
     ·rename_i k' n hn
      refine key (fun io w0 E a w hr => ?_) h
      have hv := hr.ev o
      rw [hn] at hv
      have hv : a.eval o = .int k' n := hv
      simp [Instr.makeMap, hv, run_underlying hu, asInt, asIntOf]
     ·cases h
   ·cases h
def evLookup (τ : TypeId → Option TI) (own : List (Nat × Blk N)) (t : TypeId) (m x : RV N) (ok : Bool) (k : KK N β) : Option β :=
 match m with
 | .mp id => match look own id with
  | some (.mapB kt vt es) => match mapTys τ t with
   | some (kt', vt') => bif decide (kt' = kt) && decide (vt' = vt) then match toScal kt x with
    | some key => bif ok then k (.tup [ofDen vt (orZ (mfind (keyEq (N := N) kt) es key) (N.dflt vt)) [], .bool (hasK (mfind (keyEq (N := N) kt) es key))]) [] else k (.one (ofDen vt (orZ (mfind (keyEq (N := N) kt) es key) (N.dflt vt)) [])) []
    | none => none
    else none
   | none => none
  | _ => none
 | _ => none
theorem zero_scal (F : Fits P N τ) {t e : TypeId} {vt : Ty} (h : τ t = some ⟨vt, e⟩) (hs : scal vt = true) : ∃ z, (∀ w, (zeroValue t).run P w = .ok z w) ∧ ScalRel vt (N.dflt vt) z := by
 obtain ⟨i, z, zc, h1, h2, h3, h4, h5, h6, h7⟩ := F.info h
 refine ⟨z, fun w => by simp [zeroValue, typeInfo, h1, h2], ?_⟩
 have h7 := h7 default (fun _ => True)
 cases vt with
 | int k =>
  have h6 : zc.toList = [z] := h6
  rw [h6] at h7
  cases h7
  exact rfl
 | bool =>
  have h6 : zc.toList = [z] := h6
  rw [h6] at h7
  cases h7
  exact rfl
 | str =>
  have h6 : zc.toList = [z] := h6
  rw [h6] at h7
  obtain ⟨s, hs, hb⟩ := h7
  cases hs
  exact ⟨s, rfl, hb⟩
 | _ => cases hs
theorem evLookup_sound (F : Fits P N τ) {σ : St N} {t : TypeId} {m x : Operand} {ok : Bool} {k : KK N β} {r : β} (h : evLookup τ σ.own t (ev σ m) (ev σ x) ok k = some r) :
  ∃ s ad, k s ad = some r ∧ Does P σ (fun a => Instr.lookup t (a.eval m) (a.eval x) ok) s ad := by
 unfold evLookup at h
 split at h
 ·rename_i id hid
  split at h
  ·rename_i kt vt es hlk
   split at h
   ·rename_i kt' vt' hm
    obtain ⟨ht, h⟩ := bif_none h
    simp only [Bool.and_eq_true, decide_eq_true_eq] at ht
    obtain ⟨rfl, rfl⟩ := ht
    split at h
    ·rename_i key hkey
     obtain ⟨kk, ee, ek, ev', hu, hτk, hτe, hsk, hsv⟩ := mapTys_spec F hm
     obtain ⟨d, hd, hkd⟩ := keyDesc F hτk hsk
     obtain ⟨z, hz, hzr⟩ := zero_scal F hτe hsv
     have run : ∀ io w0 E a w, RelE io w0 σ E a w → ∃ u, ScalRel vt' (orZ (mfind (keyEq (N := N) kt') es key) (N.dflt vt')) u ∧ (Instr.lookup t (a.eval m) (a.eval x) ok).run P w = .ok (if ok then .tuple #[u, .bool (hasK (mfind (keyEq (N := N) kt') es key))] else u) w := by
      intro io w0 E a w hr
      have hmv := hr.ev m
      rw [hid] at hmv
      obtain ⟨_, hmv⟩ := hmv
      obtain ⟨g, arr, clock, c1, c2, c3⟩ := hr.own id _ hlk
      rw [c1] at hmv
      have hx := toScal_rel hkey (hr.ev x)
      have hik := isKey_of hkd hx
      rcases find_rel hkd hx es arr.toList 0 c3 with ⟨q1, q2, q3⟩ | ⟨j, e, y, q1, q2, q3, q4, q5, q6⟩
      ·refine ⟨z, by rw [q1]; exact hzr, ?_⟩
       simp [Instr.lookup, run_underlying hu, hmv, MapKept.run_getObj_map c2, MapKept.run_checkKey hd hik, MapKept.run_findKey hd q2, hz, q1, hasK]
      ·refine ⟨e.val, by rw [q1]; exact q5, ?_⟩
       simp [Instr.lookup, run_underlying hu, hmv, MapKept.run_getObj_map c2, MapKept.run_checkKey hd hik, MapKept.run_findKey hd q2, q1, hasK]
     cases ok with
     | true =>
      refine ⟨_, _, h, fun io w0 E a w hr => ?_⟩
      obtain ⟨u, u1, u2⟩ := run io w0 E a w hr
      refine ⟨_, w, E, u2, hr, [u, .bool (hasK (mfind (keyEq (N := N) kt') es key))], rfl, rfl, fun i r' v hi hv => ?_⟩
      match i, hi, hv with
      | 0, hi, hv =>
       simp only [List.getElem?_cons_zero, Option.some.injEq] at hi hv
       subst hi hv
       exact scal_rv u1
      | 1, hi, hv =>
       simp only [List.getElem?_cons_succ, List.getElem?_cons_zero, Option.some.injEq] at hi hv
       subst hi hv
       exact rfl
      | n + 2, hi, hv => simp at hi
     | false =>
      refine ⟨_, _, h, fun io w0 E a w hr => ?_⟩
      obtain ⟨u, u1, u2⟩ := run io w0 E a w hr
      exact ⟨_, w, E, u2, hr, scal_rv u1⟩
    ·cases h
   ·cases h
  ·cases h
 ·cases h
def evMapUpdate (τ : TypeId → Option TI) (σ : St N) (t : TypeId) (m x y : RV N) (k : St N → Option β) : Option β :=
 match m with
 | .mp id => match look σ.own id with
  | some (.mapB kt vt es) => match mapTys τ t with
   | some (kt', vt') => bif decide (kt' = kt) && decide (vt' = vt) && noBs' σ.own id then match toScal kt x, toScal vt y with
    | some key, some v => k { regs := σ.regs.map (Slot.map (scrub id)), own := ins id (.mapB kt vt (mset (keyEq (N := N) kt) es key v)) σ.own }
    | _, _ => none
    else none
   | none => none
  | _ => none
 | _ => none
theorem grown_setBlk {w : World} {g : Nat} (o : Obj) : w.grownBy { w with heap := w.heap.setIfInBounds g o } (some g) :=
 ⟨rfl, rfl, rfl, by simp, fun k hk hne => by
  simp only
  rw [Array.getElem?_setIfInBounds_ne]
  intro e
  exact hne (by rw [e])⟩
theorem evMapUpdate_sound (F : Fits P N τ) {σ : St N} {t : TypeId} {m x y : Operand} {k : St N → Option β} {r : β} (h : evMapUpdate τ σ t (ev σ m) (ev σ x) (ev σ y) k = some r) :
  ∃ σ', k σ' = some r ∧ DoesS P σ (fun a => Instr.mapUpdate t (a.eval m) (a.eval x) (a.eval y)) σ' := by
 unfold evMapUpdate at h
 split at h
 ·rename_i id hid
  split at h
  ·rename_i kt vt es hlk
   split at h
   ·rename_i kt' vt' hm
    obtain ⟨ht, h⟩ := bif_none h
    simp only [Bool.and_eq_true, decide_eq_true_eq] at ht
    obtain ⟨⟨rfl, rfl⟩, hno⟩ := ht
    split at h
    ·rename_i key v hkey hv
     obtain ⟨kk, ee, ek, ev', hu, hτk, hτe, hsk, hsv⟩ := mapTys_spec F hm
     obtain ⟨d, hd, hkd⟩ := keyDesc F hτk hsk
     refine ⟨_, h, fun io w0 E a w hr => ?_⟩
     have hmv := hr.ev m
     rw [hid] at hmv
     obtain ⟨_, hmv⟩ := hmv
     obtain ⟨g, arr, clock, c1, c2, c3⟩ := hr.own id _ hlk
     rw [c1] at hmv
     have hx := toScal_rel hkey (hr.ev x)
     have hy := toScal_rel hv (hr.ev y)
     have hik := isKey_of hkd hx
     have hblk : blkOf (E id) = some g := by rw [c1]; rfl
     have hlt : g < w.heap.size := (Array.getElem?_eq_some_iff.1 c2).1
     have fin : ∀ o : Obj, (∃ arr' clock', o = .map arr' clock' ∧ MapRel kt' vt' (mset (keyEq (N := N) kt') es key v) arr'.toList) →
       RelE io w0 { regs := σ.regs.map (Slot.map (scrub id)), own := ins id (.mapB kt' vt' (mset (keyEq (N := N) kt') es key v)) σ.own } E a { w with heap := w.heap.setIfInBounds g o } := by
      rintro o ⟨arr', clock', rfl, ho⟩
      refine hr.store hlk trivial (fun h => h) (by rw [hblk]; exact grown_setBlk _) (noBs'_spec hno) ⟨g, arr', clock', c1, ?_, ho⟩
      simp [hlt]
     rcases find_rel hkd hx es arr.toList 0 c3 with ⟨q1, q2, q3⟩ | ⟨j, e, z, q1, q2, q3, q4, q5, q6⟩
     ·refine ⟨_, E, ?_, fin (.map (arr.push { key := a.eval x, val := a.eval y, born := clock }) (clock + 1)) ⟨_, _, rfl, by simpa using q3 v (a.eval y) clock hy⟩⟩
      simp [Instr.mapUpdate, run_underlying hu, hmv, MapKept.run_getObj_map c2, MapKept.run_checkKey hd hik, MapKept.run_findKey hd q2, MapKept.run_setObj_map _ c2]
     ·have hj : arr[j]? = some e := by simpa using q3
      refine ⟨_, E, ?_, fin (.map (arr.modify j fun e => { e with key := a.eval x, val := a.eval y }) clock) ⟨_, _, rfl, by simpa using q6 v (a.eval y) hy⟩⟩
      simp [Instr.mapUpdate, run_underlying hu, hmv, MapKept.run_getObj_map c2, MapKept.run_checkKey hd hik, MapKept.run_findKey hd q2, hj, q4, MapKept.run_keyThatStays hik, MapKept.run_setObj_map _ c2]
    ·cases h
   ·cases h
  ·cases h
 ·cases h
end Go.Eng

set_option linter.unusedVariables false
set_option linter.unusedSimpArgs false
namespace Go.Eng
variable {N : Names} {P : Program} {τ : TypeId → Option TI} {β : Type}
def DoesO (P : Program) (o : Oper) (σ σ' : St N) : Prop :=
 ∀ io w0 a w (K : Act → World → Prop) (Q : Exit → Act → World → Prop), Rel io w0 σ a w → (∀ a' w', Rel io w0 σ' a' w' → K a' w') → o.wp P a w K Q
def fin1 (σ : St N) (d : Option Nat) (k : St N → Option β) : KK N β := fun s ad => k (({ σ with own := insAll ad σ.own } : St N).put d s)
def fin2 (d : Option Nat) (k : St N → Option β) : Slot N → St N → Option β := fun s σ' => k (σ'.put d s)
inductive Arg where
 | op (o : Operand)
 | cap (id : Nat)
def argR (σ : St N) : Arg → RV N
 | .op o => ev σ o
 | .cap id => match look σ.own id with
  | some (.whole _ _ _) => .bptr id 0
  | some (.cells _) => .bptr id 0
  | _ => .undef
def argV (a : Act) (E : Env) : Arg → Value
 | .op o => a.eval o
 | .cap id => E id
def fnArg : List (RV N) → Option FuncId
 | [] => none
 | .fn g _ :: _ => some g
 | _ :: l => fnArg l
def pickS (Φ : FuncId → Option (Spec N)) (f : FuncId) (rs : List (RV N)) : Option (Spec N) :=
 bif Nat.blt f 1000000 then match fnArg rs with
  | some g => match Φ (f + 1000000 * (g + 1)) with
   | some S => some S
   | none => Φ f
  | none => Φ f
 else none
def ctab : List CK → List (RV N) → List (Nat × Nat)
 | .f _ js :: l, .fn _ caps :: rs => js.zip caps ++ ctab l rs
 | _ :: l, _ :: rs => ctab l rs
 | _, _ => []
def gtab (own : List (Nat × Blk N)) : List PK → List (RV N) → List (Nat × Nat)
 | .fn _ js :: ps, .fn _ caps :: rs => js.zip caps ++ gtab own ps rs
 | .bc l :: ps, .bptr id 0 :: rs => match look own id with
  | some (.cells us) => ctab l us ++ gtab own ps rs
  | _ => gtab own ps rs
 | _ :: ps, _ :: rs => gtab own ps rs
 | _, _ => []
def ghostIds (own : List (Nat × Blk N)) (ps : List PK) : Nat → List (RV N) → List Nat
 | 0, _ => []
 | g + 1, rs => match look (gtab own ps rs) rs.length with
  | some id => id :: ghostIds own ps g (rs ++ [.bptr id 0])
  | none => 0 :: ghostIds own ps g (rs ++ [.undef])
theorem ghostIds_length (own : List (Nat × Blk N)) (ps : List PK) : ∀ (g : Nat) (rs : List (RV N)), (ghostIds own ps g rs).length = g
 | 0, _ => rfl
 | g + 1, rs => by
  unfold ghostIds
  split <;> simp [ghostIds_length own ps g]
theorem pickS_good {Φ : FuncId → Option (Spec N)} (hΦ : ∀ f S, Φ f = some S → Good P (f % 1000000) S) {f : FuncId} {rs : List (RV N)} {S : Spec N} (h : pickS Φ f rs = some S) : Good P f S := by
 unfold pickS at h
 cases hb : Nat.blt f 1000000 with
 | false => rw [hb] at h; cases h
 | true =>
 rw [hb, cond_true] at h
 have hlt : f < 1000000 := by simpa [Nat.blt_eq] using hb
 have h0 : Φ f = some S → Good P f S := fun h => by
  have := hΦ f S h
  rwa [Nat.mod_eq_of_lt hlt] at this
 split at h
 ·rename_i g _
  split at h
  ·rename_i S' hS
   cases h
   have := hΦ _ _ hS
   rwa [Nat.add_mul_mod_self_left, Nat.mod_eq_of_lt hlt] at this
  ·exact h0 h
 ·exact h0 h
def evCallee (Φ : FuncId → Option (Spec N)) (σ : St N) (dst : Option Nat) (f : RV N) (os : List Operand) (k : Slot N → St N → Option β) : Option β :=
 match f with
 | .fn f caps => match pickS Φ f (os.map (ev σ)) with
  | some S => bif Nat.beq S.ps.length ((os.map Arg.op ++ caps.map Arg.cap).length + S.gh) then
    evCall S σ (argR σ) ((os.map Arg.op ++ caps.map Arg.cap) ++ (ghostIds σ.own S.ps S.gh ((os.map Arg.op ++ caps.map Arg.cap).map (argR σ))).map Arg.cap) dst k
   else none
  | none => none
 | _ => none
def evMoveS (τ : TypeId → Option TI) (σ : St N) (ty : TypeId) (dst : Option Nat) (x : Operand) (k : KK N β) : Option β :=
 match x with
 | .tmp t => match σ.reg t with
  | .tup l => k (.tup l) []
  | _ => evMove τ σ.own ty dst (ev σ x) k
 | _ => evMove τ σ.own ty dst (ev σ x) k
theorem evMoveS_sound {σ : St N} {ty : TypeId} {dst : Option Nat} {x : Operand} {k : KK N β} {r : β} (h : evMoveS τ σ ty dst x k = some r) :
  ∃ s ad, k s ad = some r ∧ Does P σ (fun a => pure (a.eval x)) s ad := by
 unfold evMoveS at h
 split at h
 ·rename_i t
  split at h
  ·rename_i l hl
   refine ⟨_, _, h, fun io w0 E a w hr => ?_⟩
   have hlt : t < σ.regs.length := by
    rcases Nat.lt_or_ge t σ.regs.length with h' | h'
    ·exact h'
    ·unfold St.reg at hl
     rw [List.getD_eq_getElem?_getD, List.getElem?_eq_none h'] at hl
     cases hl
   have hs : σ.regs[t]? = some (.tup l) := by
    unfold St.reg at hl
    rw [List.getD_eq_getElem?_getD, List.getElem?_eq_getElem hlt] at hl
    rw [List.getElem?_eq_getElem hlt]
    exact congrArg some hl
   exact ⟨_, w, E, rfl, hr, hr.regs t _ hs⟩
  ·exact evMove_sound h
 ·exact evMove_sound h
def isNilC : Operand → Bool
 | .const (.slice none 0 0) => true
 | _ => false
def evNil (τ : TypeId → Option TI) (own : List (Nat × Blk N)) (op : BinOp) (t : TypeId) (x : RV N) (k : RV N → Option β) : Option β :=
 match τ t with
 | some ⟨.sl e, _⟩ => match toDen own (.sl e) x with
  | some (l, _) => match op with
   | .eql => if l.length = 0 then none else k (.bool false)
   | .neq => if l.length = 0 then none else k (.bool true)
   | _ => none
  | none => none
 | _ => none
theorem run_equal_nil {t el : TypeId} (u1 : P.underlying t = some (.slice el)) (A : Addr) (n cap : Nat) (w : World) : (Op.equal t (.slice (some A) n cap) (.slice none 0 0)).run P w = .ok false w := by
 have one : ∀ d, (Op.equalIn (d + 1) t (.slice (some A) n cap) (.slice none 0 0)).run P w = .ok false w := fun d => by
  rw [Op.equalIn]
  simp [run_underlying u1]
 exact one _
theorem evNil_sound (F : Fits P N τ) {σ : St N} {op : BinOp} {t : TypeId} {x : Operand} {k : RV N → Option β} {r : β} (h : evNil τ σ.own op t (ev σ x) k = some r) :
  ∃ z, k z = some r ∧ ∀ io w0 E a w, RelE io w0 σ E a w → ∃ v, ∀ X Y, (do eqGuard op t X Y (a.eval x) (.slice none 0 0); binOp op t (a.eval x) (.slice none 0 0)).run P w = .ok v w ∧ RVRel w σ.own E z v := by
 unfold evNil at h
 split at h
 ·rename_i e el hτ
  split at h
  ·rename_i l bs hl
   have key : l.length ≠ 0 → ∀ io w0 E a w, RelE io w0 σ E a w → ∃ A n cap, a.eval x = .slice (some A) n cap := fun hn io w0 E a w hr => by
    obtain ⟨cs, ⟨A, cap, c1, c2, c2', c3⟩, k2⟩ := hr.toDen hl (hr.ev x)
    have c4 : cs = [a.eval x] := k2
    rw [c1] at c4
    have c5 : a.eval x = .slice A l.length cap := (List.cons.inj c4).1.symm
    cases A with
    | none => have := c2' rfl; omega
    | some A => exact ⟨A, _, _, c5⟩
   obtain ⟨u1, _⟩ := F.sl t e el hτ
   split at h
   ·split at h
    ·cases h
    ·rename_i hn
     refine ⟨_, h, fun io w0 E a w hr => ⟨.bool false, fun X Y => ⟨?_, rfl⟩⟩⟩
     obtain ⟨A, n, cap, hx⟩ := key hn io w0 E a w hr
     rw [hx]
     simp [eqGuard, binOp, run_equal_nil u1]
   ·split at h
    ·cases h
    ·rename_i hn
     refine ⟨_, h, fun io w0 E a w hr => ⟨.bool true, fun X Y => ⟨?_, rfl⟩⟩⟩
     obtain ⟨A, n, cap, hx⟩ := key hn io w0 E a w hr
     rw [hx]
     simp [eqGuard, binOp, run_equal_nil u1]
   ·cases h
  ·cases h
 ·cases h
def evOp (τ : TypeId → Option TI) (Φ : FuncId → Option (Spec N)) (o : Oper) (σ : St N) (k : St N → Option β) : Option β :=
 match o.op with
 | .move x => evMoveS τ σ o.type o.dst x (fin1 σ o.dst k)
 | .assign x => evMoveS τ σ o.type o.dst x (fin1 σ o.dst k)
 | .pick c x y => match ev σ c with
  | .bool b => bif b then evMove τ σ.own o.type o.dst (ev σ x) (fin1 σ o.dst k) else evMove τ σ.own o.type o.dst (ev σ y) (fin1 σ o.dst k)
  | _ => none
 | .alloc t => evAlloc τ σ.own t o.dst (fin1 σ o.dst k)
 | .box t x => evBox τ σ.own t o.dst (ev σ x) (fin1 σ o.dst k)
 | .build t ps => evBuild τ σ t o.dst ps.toList (fin1 σ o.dst k)
 | .buildSlice t n ps => evBuildSlice τ σ t n ps.toList o.dst (fin1 σ o.dst k)
 | .load t x => evLoad τ σ.own t o.dst (ev σ x) (fin1 σ o.dst k)
 | .store t x y => evStore τ σ t (ev σ x) (ev σ y) fun σ' => k (σ'.put o.dst (.tup []))
 | .nilCheck x => match ev σ x with
  | .bptr i j => k (σ.put o.dst (.one (.bptr i j)))
  | .sptr t y bs => k (σ.put o.dst (.one (.sptr t y bs)))
  | .optr i j l => k (σ.put o.dst (.one (.optr i j l)))
  | .fn f caps => k (σ.put o.dst (.one (.fn f caps)))
  | _ => none
 | .binOp op t x y _ => match isNilC y with
  | true => evNil τ σ.own op t (ev σ x) fun z => k (σ.put o.dst (.one z))
  | false => evBin τ op t (ev σ x) (ev σ y) fun z => k (σ.put o.dst (.one z))
 | .unOp op _ x => evUn op (ev σ x) fun z => k (σ.put o.dst (.one z))
 | .convert t t' x => evConv τ σ t t' o.dst (ev σ x) (fin1 σ o.dst k)
 | .makeFunc (.func f) fs cs => match fs.toList with
  | [] => match boxIds σ cs.toList with
   | some ids => k (σ.put o.dst (.one (.fn f ids)))
   | none => none
  | _ => none
 | .makeMap t res => evMakeMap τ σ t res o.dst (fin1 σ o.dst k)
 | .lookup t x i ok => evLookup τ σ.own t (ev σ x) (ev σ i) ok (fin1 σ o.dst k)
 | .mapUpdate t m x y => evMapUpdate τ σ t (ev σ m) (ev σ x) (ev σ y) fun σ' => k (σ'.put o.dst (.tup []))
 | .insert t m x y => evMapUpdate τ σ t (ev σ m) (ev σ x) (ev σ y) fun σ' => k (σ'.put o.dst (.tup []))
 | .makeSlice t l c => evMake τ σ t o.dst l c (fin1 σ o.dst k)
 | .slice t x lo hi none => evSlice τ σ t (ev σ x) lo hi (fin1 σ o.dst k)
 | .fieldAddr t x f => evFieldAddr τ t (ev σ x) f (fin1 σ o.dst k)
 | .field t x f => evField τ σ.own t o.dst (ev σ x) f (fin1 σ o.dst k)
 | .indexAddr t x i => evIndexAddr τ σ.own t (ev σ x) (ev σ i) (fin1 σ o.dst k)
 | .index t x i => evIndex τ t (ev σ x) (ev σ i) (fin1 σ o.dst k)
 | .extract x i => match x with
  | .tmp t => match σ.reg t with
   | .tup l => match l[i]? with
    | some r => k (σ.put o.dst (.one r))
    | none => none
   | _ => none
  | _ => none
 | .call c => match c.callee with
  | .value f => evCallee Φ σ o.dst (ev σ f) c.args.toList (fin2 o.dst k)
  | .builtin .len => match c.args.toList, c.argTypes.toList with
   | [x], [t] => evLen τ σ.own t (ev σ x) (fin1 σ o.dst k)
   | _, _ => none
  | .builtin .append => match c.args.toList, c.argTypes.toList with
   | [x, y], [t, t'] => evAppend τ σ t t' o.dst (ev σ x) (ev σ y) (fin2 o.dst k)
   | _, _ => none
  | .builtin .min => match c.args.toList with
   | [x, y] => evMM true (ev σ x) (ev σ y) (fin1 σ o.dst k)
   | _ => none
  | .builtin .max => match c.args.toList with
   | [x, y] => evMM false (ev σ x) (ev σ y) (fin1 σ o.dst k)
   | _ => none
  | _ => none
 | _ => none
where
 boxIds (σ : St N) : List Operand → Option (List Nat)
  | [] => some []
  | x :: l => match ev σ x, boxIds σ l with
   | .bptr i 0, some ids => some (i :: ids)
   | _, _ => none
theorem upon_run {o : Oper} {s : Sem Value} {a : Act} {w w' : World} {v : Value} {K : Act → World → Prop} {Q : Exit → Act → World → Prop}
  (h : execOp a.eval o = (do pure (Next.value (← s)))) (hr : s.run P w = .ok v w') (hk : K (a.put o.dst v) w') : o.wp P a w K Q := by
 unfold Oper.wp
 rw [h]
 simp only [Sem.run_bind, hr, Result.andThen_ok, Sem.run_pure]
 exact hk
theorem doesO_of {o : Oper} {σ : St N} {run : Act → Sem Value} {s : Slot N} {ad : List (Nat × Blk N)} (he : ∀ a : Act, execOp a.eval o = (do pure (Next.value (← run a)))) (h : Does P σ run s ad) :
  DoesO P o σ (({ σ with own := insAll ad σ.own } : St N).put o.dst s) := by
 rintro io w0 a w K Q ⟨E, hr⟩ hk
 obtain ⟨v, w', E', h1, h2, h3⟩ := h io w0 E a w hr
 exact upon_run (he a) h1 (hk _ _ ⟨E', h2.put o.dst h3⟩)
theorem doesO_ofW {o : Oper} {σ σ' : St N} {run : Act → Sem Value} {s : Slot N} (he : ∀ a : Act, execOp a.eval o = (do pure (Next.value (← run a)))) (h : DoesW P σ run s σ') :
  DoesO P o σ (σ'.put o.dst s) := by
 rintro io w0 a w K Q ⟨E, hr⟩ hk
 obtain ⟨v, w', E', h1, h2, h3⟩ := h io w0 E a w hr
 exact upon_run (he a) h1 (hk _ _ ⟨E', h2.put o.dst h3⟩)
theorem sound1 {o : Oper} {σ : St N} {run : Act → Sem Value} {k : St N → Option β} {r : β} (he : ∀ a : Act, execOp a.eval o = (do pure (Next.value (← run a))))
  (h : ∃ s ad, fin1 σ o.dst k s ad = some r ∧ Does P σ run s ad) : ∃ σ', k σ' = some r ∧ DoesO P o σ σ' := by
 obtain ⟨s, ad, h1, h2⟩ := h
 exact ⟨_, h1, doesO_of he h2⟩
theorem sound2 {o : Oper} {σ : St N} {run : Act → Sem Value} {k : St N → Option β} {r : β} (he : ∀ a : Act, execOp a.eval o = (do pure (Next.value (← run a))))
  (h : ∃ s σ', fin2 o.dst k s σ' = some r ∧ DoesW P σ run s σ') : ∃ σ', k σ' = some r ∧ DoesO P o σ σ' := by
 obtain ⟨s, ad, h1, h2⟩ := h
 exact ⟨_, h1, doesO_ofW he h2⟩
theorem boxIds_spec {io : Io} {w0 w : World} {σ : St N} {E : Env} {a : Act} (h : RelE io w0 σ E a w) : ∀ {l : List Operand} {ids : List Nat}, evOp.boxIds σ l = some ids →
  l.map a.eval = ids.map E.val ∧ ∀ id ∈ ids, isBox σ.own id ∧ ∃ g, E id = .pointer (some ⟨g, 0, none⟩)
 | [], ids, hl => by
  cases hl
  exact ⟨rfl, fun _ h => by cases h⟩
 | x :: l, ids, hl => by
  simp only [evOp.boxIds] at hl
  split at hl
  ·rename_i i ids' hx hl'
   cases hl
   obtain ⟨h1, h2⟩ := boxIds_spec h hl'
   have hv := h.ev x
   rw [hx] at hv
   obtain ⟨k1, g, k2, k3⟩ := hv
   refine ⟨by simp only [List.map_cons, h1, k3, k2], fun id hid => ?_⟩
   rcases List.mem_cons.1 hid with rfl | hid
   ·exact ⟨k1, g, k2⟩
   ·exact h2 id hid
  ·cases hl
theorem enter_wp {S : Spec N} {f : FuncId} (hg : Good P f S) {o : Oper} {c : Call} (ho : o.op = .call c) {f' : Operand} (hc : c.callee = .value f') {a : Act} {w : World} {caps : List Value} (hf : a.eval f' = .func (.func f) #[] caps.toArray)
  {K : Act → World → Prop} {Q : Exit → Act → World → Prop} (h : Calls P f (c.args.map a.eval ++ caps.toArray) w fun e w' => ∃ v, e = .returned v ∧ K (a.put o.dst v) w') : o.wp P a w K Q := by
 have he : (execOp a.eval o).run P w = .ok (.enter f (c.args.map a.eval ++ caps.toArray)) w := by
  unfold execOp
  simp only [ho, resolve, hc, hf, Deferred.ofValue, Array.empty_append, Sem.run_bind, Sem.run_pure, Result.andThen_ok, invoke]
  exact hg.enter w _
 unfold Oper.wp
 rw [he]
 simp only [Oper.upon]
 refine h.mono ?_
 rintro e w' ⟨v, rfl, hv⟩
 exact hv
theorem evOp_sound (F : Fits P N τ) {Φ : FuncId → Option (Spec N)} (hΦ : ∀ f S, Φ f = some S → Good P (f % 1000000) S) {o : Oper} {σ : St N} {k : St N → Option β} {r : β} (h : evOp τ Φ o σ k = some r) :
  ∃ σ', k σ' = some r ∧ DoesO P o σ σ' := by
 obtain ⟨dst, op, ty, pos, after, guard⟩ := o
 unfold evOp at h
 cases op with
 | move x => exact sound1 (run := fun a => pure (a.eval x)) (fun _ => rfl) (evMoveS_sound (P := P) h)
 | assign x => exact sound1 (run := fun a => pure (a.eval x)) (fun _ => rfl) (evMoveS_sound (P := P) h)
 | pick c x y =>
  simp only at h
  split at h
  ·rename_i b hb
   have key : ∀ z, (b = true → z = x) → (b = false → z = y) → evMove τ σ.own ty dst (ev σ z) (fin1 σ dst k) = some r → ∃ σ', k σ' = some r ∧ DoesO P ⟨dst, .pick c x y, ty, pos, after, guard⟩ σ σ' := by
    intro z h1 h2 h
    obtain ⟨s, ad, k1, k2⟩ := evMove_sound (P := P) h
    refine ⟨_, k1, ?_⟩
    rintro io w0 a w K Q ⟨E, hr⟩ hk
    obtain ⟨v, w', E', h3, h4, h5⟩ := k2 io w0 E a w hr
    have hcv := hr.ev c
    rw [hb] at hcv
    have hcv : a.eval c = .bool b := hcv
    refine upon_run (s := pure (if b then a.eval x else a.eval y)) ?_ ?_ (hk _ _ ⟨E', h4.put dst h5⟩)
    ·simp only [execOp, hcv, asBool]
     rfl
    ·cases b with
     | true => rw [if_pos rfl, ← h1 rfl]; exact h3
     | false => rw [if_neg (by simp), ← h2 rfl]; exact h3
   cases b with
   | true => exact key x (fun _ => rfl) (fun e => by cases e) h
   | false => exact key y (fun e => by cases e) (fun _ => rfl) h
  ·cases h
 | alloc t => exact sound1 (fun _ => rfl) (evAlloc_sound F h)
 | box t x => exact sound1 (fun _ => rfl) (evBox_sound F h)
 | build t ps => exact sound1 (fun _ => rfl) (evBuild_sound F h)
 | buildSlice t n ps => exact sound1 (fun _ => rfl) (evBuildSlice_sound F h)
 | load t x => exact sound1 (fun _ => rfl) (evLoad_sound F h)
 | store t x y =>
  obtain ⟨σ', h1, h2⟩ := evStore_sound F h
  refine ⟨_, h1, ?_⟩
  rintro io w0 a w K Q ⟨E, hr⟩ hk
  obtain ⟨w', E', h3, h4⟩ := h2 io w0 E a w hr
  unfold Oper.wp
  simp only [execOp, Sem.run_bind, h3, Result.andThen_ok, Sem.run_pure]
  exact hk _ _ ⟨E', h4.put dst (s := .tup []) ⟨[], rfl, rfl, fun i r u hi _ => by simp at hi⟩⟩
 | nilCheck x =>
  simp only at h
  have hp : ∀ (a : Act) ad, a.eval x = .pointer (some ad) → execOp a.eval ⟨dst, .nilCheck x, ty, pos, after, guard⟩ = (do pure (Next.value (← (pure (a.eval x) : Sem Value)))) := by
   intro a ad hx
   simp only [execOp, hx]
   rfl
  have go : ∀ z, ev σ x = z → (∀ w own E v, RVRel (N := N) w own E z v → ∃ ad, v = .pointer (some ad)) → k (σ.put dst (.one z)) = some r → ∃ σ', k σ' = some r ∧ DoesO P ⟨dst, .nilCheck x, ty, pos, after, guard⟩ σ σ' := by
   intro z hz hv hk
   refine ⟨_, hk, ?_⟩
   rintro io w0 a w K Q ⟨E, hr⟩ hK
   have hxr := hr.ev x
   rw [hz] at hxr
   obtain ⟨ad, had⟩ := hv _ _ _ _ hxr
   exact upon_run (hp a ad had) rfl (hK _ _ ⟨E, hr.put dst hxr⟩)
  split at h
  ·rename_i i j hx
   exact go _ hx (fun w own E v hv => by obtain ⟨_, g, _, e⟩ := hv; exact ⟨_, e⟩) h
  ·rename_i t y bs hx
   exact go _ hx (fun w own E v hv => by obtain ⟨ad, cs, e, _⟩ := hv; exact ⟨_, e⟩) h
  ·rename_i i j l hx
   exact go _ hx (fun w own E v hv => by obtain ⟨g, cap, n, t, _, _, _, e⟩ := hv; exact ⟨_, e⟩) h
  ·rename_i f caps hx
   refine ⟨_, h, ?_⟩
   rintro io w0 a w K Q ⟨E, hr⟩ hK
   have hxr := hr.ev x
   rw [hx] at hxr
   have hv := hxr.1
   refine upon_run (s := pure (a.eval x)) ?_ rfl (hK _ _ ⟨E, hr.put dst hxr⟩)
   simp only [execOp, hv]
   rfl
  ·cases h
 | binOp op t x y yt =>
  simp only at h
  split at h
  ·rename_i hy
   have hy' : y = .const (.slice none 0 0) := by
    unfold isNilC at hy
    split at hy
    ·rfl
    ·cases hy
   subst hy'
   obtain ⟨z, h1, h2⟩ := evNil_sound F h
   refine ⟨_, h1, ?_⟩
   rintro io w0 a w K Q ⟨E, hr⟩ hK
   obtain ⟨v, h3⟩ := h2 io w0 E a w hr
   exact upon_run (s := do eqGuard op t x (.const (.slice none 0 0)) (a.eval x) (a.eval (.const (.slice none 0 0))); binOp op t (a.eval x) (a.eval (.const (.slice none 0 0)))) rfl (h3 _ _).1 (hK _ _ ⟨E, hr.put dst (s := .one z) (h3 x x).2⟩)
  obtain ⟨z, h1, h2⟩ := evBin_sound F h
  refine ⟨_, h1, ?_⟩
  rintro io w0 a w K Q ⟨E, hr⟩ hK
  obtain ⟨v, h3, h4⟩ := h2 w _ E _ _ x y (hr.ev x) (hr.ev y)
  exact upon_run (s := do eqGuard op t x y (a.eval x) (a.eval y); binOp op t (a.eval x) (a.eval y)) rfl h3 (hK _ _ ⟨E, hr.put dst (s := .one z) h4⟩)
 | unOp op t x =>
  simp only at h
  obtain ⟨z, h1, h2⟩ := evUn_sound h
  refine ⟨_, h1, ?_⟩
  rintro io w0 a w K Q ⟨E, hr⟩ hK
  obtain ⟨v, h3, h4⟩ := h2 P w _ E _ (hr.ev x)
  exact upon_run (s := Op.unary op (a.eval x)) rfl h3 (hK _ _ ⟨E, hr.put dst (s := .one z) (h4 _ _ _)⟩)
 | convert t t' x => exact sound1 (fun _ => rfl) (evConv_sound F h)
 | makeFunc fn fs cs =>
  cases fn with
  | func f =>
   simp only at h
   split at h
   ·rename_i hfs
    split at h
    ·rename_i ids hids
     refine ⟨_, h, ?_⟩
     rintro io w0 a w K Q ⟨E, hr⟩ hK
     obtain ⟨b1, b2⟩ := boxIds_spec hr hids
     have hfs' : fs = #[] := by
      obtain ⟨l⟩ := fs
      simp only at hfs
      rw [hfs]
     refine upon_run (s := Instr.makeFunc (.func f) (fs.map a.eval) (cs.map a.eval)) rfl rfl (hK _ _ ⟨E, hr.put dst (s := .one (.fn f ids)) ⟨?_, b2⟩⟩)
     rw [hfs', ← b1]
     have hcs : cs.map a.eval = (cs.toList.map a.eval).toArray := by rw [← Array.toList_map]
     rw [hcs]
     simp
    ·cases h
   ·cases h
  | _ => cases h
 | makeMap t res => exact sound1 (run := fun a => Instr.makeMap t (res.map a.eval)) (fun _ => rfl) (evMakeMap_sound F h)
 | lookup t x i ok => exact sound1 (fun _ => rfl) (evLookup_sound F h)
 | mapUpdate t m x y =>
  obtain ⟨σ', h1, h2⟩ := evMapUpdate_sound F h
  refine ⟨_, h1, ?_⟩
  rintro io w0 a w K Q ⟨E, hr⟩ hk
  obtain ⟨w', E', h3, h4⟩ := h2 io w0 E a w hr
  unfold Oper.wp
  simp only [execOp, Sem.run_bind, h3, Result.andThen_ok, Sem.run_pure]
  exact hk _ _ ⟨E', h4.put dst (s := .tup []) ⟨[], rfl, rfl, fun i r u hi _ => by simp at hi⟩⟩
 | insert t m x y =>
  obtain ⟨σ', h1, h2⟩ := evMapUpdate_sound F h
  refine ⟨_, h1, ?_⟩
  rintro io w0 a w K Q ⟨E, hr⟩ hk
  obtain ⟨w', E', h3, h4⟩ := h2 io w0 E a w hr
  unfold Oper.wp
  simp only [execOp, Sem.run_bind, h3, Result.andThen_ok, Sem.run_pure]
  exact hk _ _ ⟨E', h4.put dst (s := .tup []) ⟨[], rfl, rfl, fun i r u hi _ => by simp at hi⟩⟩
 | makeSlice t l c => exact sound1 (fun _ => rfl) (evMake_sound F h)
 | slice t x lo hi mx =>
  cases mx with
  | none => exact sound1 (fun _ => rfl) (evSlice_sound F h)
  | some m => cases h
 | fieldAddr t x f => exact sound1 (fun _ => rfl) (evFieldAddr_sound F h)
 | field t x f => exact sound1 (fun _ => rfl) (evField_sound F h)
 | indexAddr t x i => exact sound1 (fun _ => rfl) (evIndexAddr_sound F h)
 | index t x i => exact sound1 (fun _ => rfl) (evIndex_sound F h)
 | extract x i =>
  simp only at h
  split at h
  ·rename_i t
   split at h
   ·rename_i l hl
    split at h
    ·rename_i z hz
     refine ⟨_, h, ?_⟩
     rintro io w0 a w K Q ⟨E, hr⟩ hK
     have hlt : t < σ.regs.length := by
      rcases Nat.lt_or_ge t σ.regs.length with h' | h'
      ·exact h'
      ·unfold St.reg at hl
       rw [List.getD_eq_getElem?_getD, List.getElem?_eq_none h'] at hl
       cases hl
     have hs : σ.regs[t]? = some (.tup l) := by
      unfold St.reg at hl
      rw [List.getD_eq_getElem?_getD, List.getElem?_eq_getElem hlt] at hl
      rw [List.getElem?_eq_getElem hlt]
      exact congrArg some hl
     obtain ⟨vs, v1, v2, v3⟩ := hr.regs t _ hs
     have hlen := (List.getElem?_eq_some_iff.1 hz).1
     obtain ⟨u, hu⟩ : ∃ u, vs[i]? = some u := ⟨_, List.getElem?_eq_getElem (by omega)⟩
     have hev : a.eval (.tmp t) = .tuple vs.toArray := by
      rw [← v1]
      simp only [Act.eval]
     refine upon_run (s := Instr.extract (a.eval (.tmp t)) i) (v := u) rfl ?_ (hK _ _ ⟨E, hr.put dst (s := .one z) (v3 i z u hz hu)⟩)
     rw [hev]
     simp only [Instr.extract, List.getElem?_toArray, hu]
     rfl
    ·cases h
   ·cases h
  ·cases h
 | call c =>
  simp only at h
  split at h
  ·rename_i f hf
   unfold evCallee at h
   split at h
   ·rename_i f' caps hfn
    split at h
    ·rename_i S hS
     obtain ⟨hlen, h⟩ := bif_none h
     have hlen := Nat.eq_of_beq_eq_true hlen
     have hgood := pickS_good hΦ hS
     obtain ⟨s, σ', h1, _, h2⟩ := evCall_sound hgood h
     refine ⟨_, h1, ?_⟩
     rintro io w0 a w K Q ⟨E, hr⟩ hK
     have hfv := hr.ev f
     rw [hfn] at hfv
     refine enter_wp hgood rfl hf hfv.1 ?_
     generalize hgs : ghostIds σ.own S.ps S.gh ((c.args.toList.map Arg.op ++ caps.map Arg.cap).map (argR σ)) = gs at *
     have hgl : gs.length = S.gh := by rw [← hgs]; exact ghostIds_length _ _ _ _
     have hargs : ∀ x ∈ (c.args.toList.map Arg.op ++ caps.map Arg.cap) ++ gs.map Arg.cap, RVRel w σ.own E (argR σ x) (argV a E x) := by
      intro x hx
      cases x with
      | op y => exact hr.ev y
      | cap y =>
       simp only [argR]
       split
       ·rename_i t x bs hl
        obtain ⟨g, T, arr, c1, _⟩ := hr.own y _ hl
        exact ⟨.inl ⟨_, _, _, hl⟩, g, c1, c1⟩
       ·rename_i l hl
        obtain ⟨g, T, arr, c1, _⟩ := hr.own y _ hl
        exact ⟨.inr (.inl ⟨_, hl⟩), g, c1, c1⟩
       ·trivial
     have := h2 io w0 E a w (argV a E) hr hargs
     have hl : ((List.map (argV a E) ((c.args.toList.map Arg.op ++ caps.map Arg.cap) ++ gs.map Arg.cap)).take (S.ps.length - S.gh)).toArray = c.args.map a.eval ++ (caps.map E.val).toArray := by
      rw [List.map_append, List.take_append_of_le_length (by rw [List.length_map]; omega), List.take_of_length_le (by rw [List.length_map]; omega)]
      generalize c.args = ar
      obtain ⟨l⟩ := ar
      simp [Function.comp_def, argV]
     rw [hl] at this
     refine this.mono ?_
     rintro e w' ⟨v, E', rfl, k1, k2⟩
     exact ⟨v, rfl, hK _ _ ⟨E', k1.put dst k2⟩⟩
    ·cases h
   ·cases h
  ·rename_i hb
   split at h
   ·rename_i x t hx ht
    have hx' : c.args = #[x] := Array.ext' hx
    have ht' : c.argTypes = #[t] := Array.ext' ht
    refine sound1 (run := fun a => Builtin.len_ #[t] ty #[a.eval x]) (fun a => ?_) (evLen_sound F h)
    simp only [execOp, resolve, hb, hx', ht', List.map_toArray, List.map]
    rfl
   ·cases h
  ·rename_i hb
   split at h
   ·rename_i x y t t' hx ht
    have hx' : c.args = #[x, y] := Array.ext' hx
    have ht' : c.argTypes = #[t, t'] := Array.ext' ht
    refine sound2 (run := fun a => Builtin.append_ #[t, t'] ty #[a.eval x, a.eval y]) (fun a => ?_) (evAppend_sound F h)
    simp only [execOp, resolve, hb, hx', ht', List.map_toArray, List.map]
    rfl
   ·cases h
  ·rename_i hb
   split at h
   ·rename_i x y hx
    have hx' : c.args = #[x, y] := Array.ext' hx
    refine sound1 (run := fun a => Builtin.min_ c.argTypes ty #[a.eval x, a.eval y]) (fun a => ?_) (evMin_sound h)
    simp only [execOp, resolve, hb, hx', List.map_toArray, List.map]
    rfl
   ·cases h
  ·rename_i hb
   split at h
   ·rename_i x y hx
    have hx' : c.args = #[x, y] := Array.ext' hx
    refine sound1 (run := fun a => Builtin.max_ c.argTypes ty #[a.eval x, a.eval y]) (fun a => ?_) (evMax_sound h)
    simp only [execOp, resolve, hb, hx', List.map_toArray, List.map]
    rfl
   ·cases h
  ·cases h
 | _ => cases h
/-! Rows of operations. -/
def guardReg (ops : List Oper) (g : Nat) : Option Nat := match ops[g]? with
 | some o => o.dst
 | none => none
def execOps (τ : TypeId → Option TI) (Φ : FuncId → Option (Spec N)) (ops : List Oper) : List Oper → St N → (St N → Option β) → Option β
 | [], σ, k => k σ
 | o :: rest, σ, k => match o.guard with
  | none => evOp τ Φ o σ fun σ' => execOps τ Φ ops rest σ' k
  | some (g, want) => match guardReg ops g with
   | none => execOps τ Φ ops rest (σ.put o.dst (.tup [])) k
   | some d => match σ.reg d with
    | .one (.bool b) =>
     bif b then
      (bif want then evOp τ Φ o (σ.putS d (.one (.bool true))) fun σ' => execOps τ Φ ops rest σ' k
      else execOps τ Φ ops rest ((σ.putS d (.one (.bool true))).put o.dst (.tup [])) k)
     else
      (bif want then execOps τ Φ ops rest ((σ.putS d (.one (.bool false))).put o.dst (.tup [])) k
      else evOp τ Φ o (σ.putS d (.one (.bool false))) fun σ' => execOps τ Φ ops rest σ' k)
    | .tup [] => execOps τ Φ ops rest (σ.put o.dst (.tup [])) k
    | _ => none
theorem Rel.skip {io : Io} {w0 w : World} {σ : St N} {a : Act} (h : Rel io w0 σ a w) (d : Option Nat) : Rel io w0 (σ.put d (.tup [])) (a.put d undef) w := by
 obtain ⟨E, h⟩ := h
 exact ⟨E, h.put d ⟨[], rfl, rfl, fun i r u hi _ => by simp at hi⟩⟩
theorem Rel.reput {io : Io} {w0 w : World} {σ : St N} {a : Act} {d : Nat} {s : Slot N} (h : Rel io w0 σ a w) (hs : ∀ E, RelE io w0 σ E a w → SlotRel w σ.own E s (a.tmps.getD d undef)) : Rel io w0 (σ.putS d s) a w := by
 obtain ⟨E, h⟩ := h
 have := h.put (some d) (hs E h)
 have he : a.put (some d) (a.tmps.getD d undef) = a := by
  obtain ⟨t, df⟩ := a
  simp only [Act.put, Act.mk.injEq, and_true]
  apply Array.ext_getElem?
  intro i
  rw [Array.getElem?_setIfInBounds]
  by_cases hi : d = i
  ·subst hi
   rw [if_pos rfl]
   by_cases hlt : d < t.size
   ·simp [hlt]
   ·simp [hlt]
  ·rw [if_neg hi]
 rw [he] at this
 exact ⟨E, this⟩
theorem reg_slot {io : Io} {w0 w : World} {σ : St N} {E : Env} {a : Act} (h : RelE io w0 σ E a w) {d : Nat} {s : Slot N} (hs : σ.reg d = s) (hne : s ≠ .one .undef) : SlotRel w σ.own E s (a.tmps.getD d undef) ∧ d < a.tmps.size := by
 unfold St.reg at hs
 rw [List.getD_eq_getElem?_getD] at hs
 rcases Nat.lt_or_ge d σ.regs.length with h' | h'
 ·rw [List.getElem?_eq_getElem h'] at hs
  exact ⟨h.regs d s (by rw [List.getElem?_eq_getElem h']; exact congrArg some hs), by rw [h.size]; exact h'⟩
 ·rw [List.getElem?_eq_none h'] at hs
  exact absurd hs.symm hne
theorem guardReg_toArray {ops : List Oper} {g : Nat} : guardReg ops g = ((ops.toArray)[g]?).bind (·.dst) := by
 unfold guardReg
 rw [List.getElem?_toArray]
 cases ops[g]? <;> rfl
theorem execOps_sound (F : Fits P N τ) {Φ : FuncId → Option (Spec N)} (hΦ : ∀ f S, Φ f = some S → Good P (f % 1000000) S) {ops : List Oper} {k : St N → Option β} {r : β} {io : Io} {w0 : World} {Q : Exit → Act → World → Prop}
  (hk : ∀ σ a w, k σ = some r → Rel io w0 σ a w → Q .normal a w) : ∀ (l : List Oper) (σ : St N), execOps τ Φ ops l σ k = some r → ∀ a w, Rel io w0 σ a w → wpList P ops.toArray Q l a w
 | [], σ, h, a, w, hr => hk σ a w h hr
 | o :: rest, σ, h, a, w, hr => by
  have ih := execOps_sound F hΦ (ops := ops) hk rest
  have hstep : ∀ σ0, Rel io w0 σ0 a w → (evOp τ Φ o σ0 fun σ' => execOps τ Φ ops rest σ' k) = some r → o.wp P a w (wpList P ops.toArray Q rest) Q := by
   intro σ0 hr0 h0
   obtain ⟨σ', h1, h2⟩ := evOp_sound F hΦ h0
   exact h2 io w0 a w _ Q hr0 (fun a' w' hr' => ih σ' h1 a' w' hr')
  simp only [execOps] at h
  simp only [wpList]
  split at h
  ·rename_i hg
   rw [if_pos (by simp [Region.wanted, hg])]
   exact .inl (hstep σ hr h)
  ·rename_i g want hg
   have hW : Region.wanted o (yielded ops.toArray a.tmps) = (yielded ops.toArray a.tmps g == some want) := by simp [Region.wanted, hg]
   have hskip : ∀ σ0, Rel io w0 σ0 a w → Region.wanted o (yielded ops.toArray a.tmps) = false → execOps τ Φ ops rest (σ0.put o.dst (.tup [])) k = some r →
     (if Region.wanted o (yielded ops.toArray a.tmps) = true then o.wp P a w (wpList P ops.toArray Q rest) Q ∨ (o.asks P a w ∧ LetsOut Q) else wpList P ops.toArray Q rest (a.put o.dst undef) w) := by
    intro σ0 hr0 hw0 h0
    rw [hw0, if_neg (by simp)]
    exact ih _ h0 _ _ (hr0.skip o.dst)
   have hy : yielded ops.toArray a.tmps g = match (guardReg ops g).bind (a.tmps[·]?) with
     | some (.bool b) => some b
     | _ => none := by
    unfold yielded
    rw [guardReg_toArray]
    rfl
   split at h
   ·rename_i hgr
    refine hskip σ hr ?_ h
    rw [hW, hy, hgr]
    rfl
   ·rename_i d hgr
    split at h
    ·rename_i b hb
     obtain ⟨E, hrE⟩ := hr
     obtain ⟨hv, hlt⟩ := reg_slot hrE hb (by simp)
     have hv : a.tmps.getD d undef = .bool b := hv
     have hyb : yielded ops.toArray a.tmps g = some b := by
      rw [hy, hgr]
      simp only [Option.bind_some]
      rw [Array.getD_eq_getD_getElem?, Array.getElem?_eq_getElem hlt] at hv
      rw [Array.getElem?_eq_getElem hlt]
      simp only [Option.getD_some] at hv
      rw [hv]
     have hre : Rel io w0 (σ.putS d (.one (.bool b))) a w := Rel.reput ⟨E, hrE⟩ (fun E' hE' => hv)
     rw [hyb] at hW
     cases b with
     | true =>
      simp only [cond_true] at h
      cases want with
      | true =>
       rw [hW]
       exact .inl (hstep _ hre h)
      | false => exact hskip _ hre (by rw [hW]; rfl) h
     | false =>
      simp only [cond_false] at h
      cases want with
      | true => exact hskip _ hre (by rw [hW]; rfl) h
      | false =>
       rw [hW]
       exact .inl (hstep _ hre h)
    ·rename_i hb
     obtain ⟨E, hrE⟩ := hr
     obtain ⟨⟨vs, hv, hl, _⟩, hlt⟩ := reg_slot hrE hb (by simp)
     refine hskip σ ⟨E, hrE⟩ ?_ h
     rw [hW, hy, hgr]
     simp only [Option.bind_some]
     rw [Array.getD_eq_getD_getElem?, Array.getElem?_eq_getElem hlt] at hv
     rw [Array.getElem?_eq_getElem hlt]
     simp only [Option.getD_some] at hv
     rw [hv]
     rfl
    ·cases h
end Go.Eng

set_option linter.unusedVariables false
set_option linter.unusedSimpArgs false
namespace Go.Eng
variable {N : Names} {P : Program} {τ : TypeId → Option TI} {β : Type}

def Sub (own own' : List (Nat × Blk N)) : Prop := ∀ id b, look own id = some b → look own' id = some b

theorem toDen0_sub {own own' : List (Nat × Blk N)} (hs : Sub own own') {t : Ty} {r : RV N} {y : t.den N.ρ × List Nat} (h : toDen0 own t r = some y) : toDen0 own' t r = some y := by
  cases r with
  | own id =>
    simp only [toDen0] at h ⊢
    split at h
    · rename_i e ty xs bs p hl
      rw [hs _ _ hl]
      exact h
    · cases h
  | _ => exact h

theorem implL_sub {g g' : (t : Ty) → List (RV N) → Option (t.den N.ρ × List Nat)} (hg : ∀ t l y, g t l = some y → g' t l = some y) : ∀ (ts : List Ty) (l : List (RV N)) (y : HL N.ρ ts × List Nat), implL g ts l = some y → implL g' ts l = some y
  | [], [], y, h => h
  | [], _ :: _, y, h => by cases h
  | t :: ts, l, y, h => by
    simp only [implL] at h ⊢
    split at h
    · rename_i p q hp hq
      rw [hg _ _ _ hp, implL_sub hg ts _ _ hq]
      exact h
    · cases h

theorem oneDen_sub {own own' : List (Nat × Blk N)} (hs : Sub own own') {t : Ty} {l : List (RV N)} {y : t.den N.ρ × List Nat} (h : oneDen own t l = some y) : oneDen own' t l = some y := by
  unfold oneDen at h ⊢
  split at h
  · exact toDen0_sub hs h
  · cases h

theorem impl_sub {own own' : List (Nat × Blk N)} (hs : Sub own own') : ∀ (f : Nat) (t : Ty) (l : List (RV N)) (y : t.den N.ρ × List Nat), impl own f t l = some y → impl own' f t l = some y
  | 0, t, l, y, h => by cases h
  | f + 1, t, l, y, h => by
    cases t with
    | nm n =>
      simp only [impl, Option.map_eq_some_iff] at h ⊢
      obtain ⟨p, hp, hq⟩ := h
      exact ⟨p, implL_sub (fun t l y => impl_sub hs f t l y) _ _ _ hp, hq⟩
    | _ => exact oneDen_sub hs h

theorem toDen_sub {own own' : List (Nat × Blk N)} (hs : Sub own own') {t : Ty} {r : RV N} {y : t.den N.ρ × List Nat} (h : toDen own t r = some y) : toDen own' t r = some y := by
  cases r with
  | mp id =>
    simp only [toDen] at h ⊢
    split at h
    · rename_i n l hl
      rw [hs _ _ hl]
      split at h
      · rename_i p hp
        simp only [impl_sub hs 8 _ _ _ hp]
        exact h
      · cases h
    · cases h
  | _ =>
    rw [toDen_eq0 rfl] at h ⊢
    exact toDen0_sub hs h

theorem evMove_par {own : List (Nat × Blk N)} {ty : TypeId} {dst : Option Nat} {x : RV N} {k : KK N β} {r : β} (h : evMove τ own ty dst x k = some r) :
    ∃ s ad, k s ad = some r ∧ (∀ p ∈ ad, look own p.1 = none) ∧ ∀ own' : List (Nat × Blk N), (∀ p ∈ ad, look own' p.1 = none) → ∀ {β' : Type} (k' : KK N β'), evMove τ own' ty dst x k' = k' s ad := by
  cases x with
  | nil =>
    simp only [evMove] at h ⊢
    split at h
    · rename_i e el hτ
      split at h
      · rename_i d
        split at h
        · rename_i hl
          refine ⟨_, _, h, fun p hp => by rw [List.mem_singleton.1 hp]; exact hl, fun own' hf β' k' => ?_⟩
          have := hf _ List.mem_cons_self
          simp only at this
          simp only [this]
        · cases h
      · cases h
    · rename_i hn
      refine ⟨_, _, h, (fun p hp => by cases hp), fun own' hf β' k' => ?_⟩
      first | rfl | (split <;> first | (rename_i e el he; exact (hn _ _ he).elim) | rfl)
  | _ => exact ⟨_, _, h, (fun p hp => by cases hp), fun own' hf β' k' => rfl⟩

theorem freshIds_of {own : List (Nat × Blk N)} : ∀ {l : List Nat}, (∀ i ∈ l, look own i = none) → freshIds own l = true
  | [], _ => rfl
  | i :: r, h => by
    simp only [freshIds, h i List.mem_cons_self, Bool.true_and]
    exact freshIds_of (fun j hj => h j (List.mem_cons_of_mem _ hj))

theorem outVals_par {own : List (Nat × Blk N)} {dst : Option Nat} {n : Nat} {l : List (RV N)} {k : KK N β} {r : β} (h : outVals own dst n l k = some r) :
    ∃ s ad, k s ad = some r ∧ (∀ p ∈ ad, look own p.1 = none) ∧ ∀ own' : List (Nat × Blk N), (∀ p ∈ ad, look own' p.1 = none) → ∀ {β' : Type} (k' : KK N β'), outVals own' dst n l k' = k' s ad := by
  unfold outVals at h
  split at h
  · rename_i d
    split at h
    · rename_i hl
      split at h
      rename_i m es hes
      obtain ⟨hc, h⟩ := bif_none h
      have hc' := hc
      simp only [Bool.and_eq_true] at hc
      refine ⟨_, _, h, fun p hp => ?_, fun own' hf {β'} k' => ?_⟩
      · rcases List.mem_cons.1 hp with rfl | hp
        · exact hl
        · exact freshIds_spec hc.2 _ (List.mem_map.2 ⟨p, hp, rfl⟩)
      · have e1 := hf _ List.mem_cons_self
        simp only at e1
        have e2 : freshIds own' (es.map (·.1)) = true := freshIds_of (fun i hi => by
          obtain ⟨p, hp, rfl⟩ := List.mem_map.1 hi
          exact hf p (List.mem_cons_of_mem _ hp))
        simp only [outVals, e1, hes, hc.1.1, hc.1.2, e2, Bool.and_self, cond_true]
    · cases h
  · cases h

theorem evField_par {own : List (Nat × Blk N)} {xt : TypeId} {dst : Option Nat} {x : RV N} {f : Nat} {k : KK N β} {r : β} (h : evField τ own xt dst x f k = some r) :
    ∃ s ad, k s ad = some r ∧ (∀ p ∈ ad, look own p.1 = none) ∧ ∀ own' : List (Nat × Blk N), Sub own own' → (∀ p ∈ ad, look own' p.1 = none) → ∀ {β' : Type} (k' : KK N β'), evField τ own' xt dst x f k' = k' s ad := by
  unfold evField at h
  split at h
  · split at h
    · rename_i hτ
      obtain ⟨he, h⟩ := bif_none h
      split at h
      · rename_i hc
        split at h
        · rename_i hg
          exact ⟨_, [], h, (fun p hp => by cases hp), fun own' hs hf {β'} k' => by simp only [evField, hτ, he, cond_true, hc, hg]⟩
        · cases h
      · cases h
    · cases h
  · split at h
    · rename_i hl
      split at h
      · rename_i hτ
        obtain ⟨he, h⟩ := bif_none h
        split at h
        · rename_i n hty
          obtain ⟨s, ad, h1, h2, h3⟩ := outVals_par h
          exact ⟨s, ad, h1, h2, fun own' hs hf {β'} k' => by simp only [evField, hs _ _ hl, hτ, he, cond_true, hty]; exact h3 own' hf k'⟩
        · rename_i ty hnn hty
          split at h
          · rename_i hr
            refine ⟨_, [], h, (fun p hp => by cases hp), fun own' hs hf {β'} k' => ?_⟩
            simp only [evField, hs _ _ hl, hτ, he, cond_true, hty]
            cases ty with
            | nm n => exact (hnn n rfl).elim
            | _ => simp only [hr]
          · cases h
        · cases h
      · cases h
    · cases h
  · cases h

theorem evFieldAddr_par {xt : TypeId} {x : RV N} {f : Nat} {k : KK N β} {r : β} (h : evFieldAddr τ xt x f k = some r) :
    ∃ s, k s [] = some r ∧ ∀ {β' : Type} (k' : KK N β'), evFieldAddr τ xt x f k' = k' s [] := by
  unfold evFieldAddr at h
  split at h
  · rename_i hτ
    obtain ⟨he, h⟩ := bif_none h
    split at h
    · split at h
      · rename_i hc
        split at h
        · rename_i hg
          exact ⟨_, h, fun {β'} k' => by simp only [evFieldAddr, hτ, he, cond_true, hc, hg]⟩
        · cases h
      · cases h
    · obtain ⟨hf, h⟩ := bif_none h
      exact ⟨_, h, fun {β'} k' => by simp only [evFieldAddr, hτ, he, hf, cond_true]⟩
    · obtain ⟨hf, h⟩ := bif_none h
      exact ⟨_, h, fun {β'} k' => by simp only [evFieldAddr, hτ, he, hf, cond_true]⟩
    · cases h
  · cases h

theorem evIndexAddr_par {own : List (Nat × Blk N)} {t : TypeId} {x i : RV N} {k : KK N β} {r : β} (h : evIndexAddr τ own t x i k = some r) :
    ∃ s, k s [] = some r ∧ ∀ own' : List (Nat × Blk N), Sub own own' → ∀ {β' : Type} (k' : KK N β'), evIndexAddr τ own' t x i k' = k' s [] := by
  unfold evIndexAddr at h
  split at h
  · rename_i hτ
    split at h
    · split at h
      · split at h
        · rename_i hc
          split at h
          · rename_i h0
            split at h
            · rename_i h1
              exact ⟨_, h, fun own' hs {β'} k' => by simp only [evIndexAddr, hτ, hc, if_pos h0, if_pos h1]⟩
            · cases h
          · cases h
        · cases h
      · split at h
        · rename_i hl
          obtain ⟨he, h⟩ := bif_none h
          split at h
          · rename_i h0
            split at h
            · rename_i h1
              exact ⟨_, h, fun own' hs {β'} k' => by simp only [evIndexAddr, hτ, hs _ _ hl, he, cond_true, if_pos h0, if_pos h1]⟩
            · cases h
          · cases h
        · cases h
      · cases h
    · cases h
  · cases h

theorem evIndex_par {t : TypeId} {x i : RV N} {k : KK N β} {r : β} (h : evIndex τ t x i k = some r) :
    ∃ s, k s [] = some r ∧ ∀ {β' : Type} (k' : KK N β'), evIndex τ t x i k' = k' s [] := by
  unfold evIndex at h
  split at h
  · rename_i hτ
    split at h
    · split at h
      · split at h
        · rename_i h0
          split at h
          · rename_i h1
            exact ⟨_, h, fun {β'} k' => by simp only [evIndex, hτ, if_pos h0, if_pos h1]⟩
          · cases h
        · cases h
      · cases h
    · cases h
  · cases h

theorem evLoad_par {own : List (Nat × Blk N)} {t : TypeId} {dst : Option Nat} {x : RV N} {k : KK N β} {r : β} (h : evLoad τ own t dst x k = some r) :
    ∃ s ad, k s ad = some r ∧ (∀ p ∈ ad, look own p.1 = none) ∧ ∀ own' : List (Nat × Blk N), Sub own own' → (∀ p ∈ ad, look own' p.1 = none) → ∀ {β' : Type} (k' : KK N β'), evLoad τ own' t dst x k' = k' s ad := by
  unfold evLoad at h
  split at h
  · rename_i ty e hτ
    split at h
    · split at h
      · rename_i hv
        exact ⟨_, [], h, (fun p hp => by cases hp), fun own' hs hf {β'} k' => by simp only [evLoad, hτ, hv]⟩
      · cases h
    · split at h
      · rename_i hl
        split at h
        · rename_i hv
          exact ⟨_, [], h, (fun p hp => by cases hp), fun own' hs hf {β'} k' => by simp only [evLoad, hτ, hs _ _ hl, hv]⟩
        · cases h
      · cases h
    · split at h
      · rename_i hl
        split at h
        · rename_i hv
          exact ⟨_, [], h, (fun p hp => by cases hp), fun own' hs hf {β'} k' => by simp only [evLoad, hτ, hs _ _ hl, hv]⟩
        · cases h
      · rename_i hl
        cases ty with
        | nm n =>
          simp only at h
          cases hd : (N.rowsAt n).isEmpty with
          | true =>
            rw [hd, cond_true] at h
            split at h
            · rename_i hv
              exact ⟨_, [], h, (fun p hp => by cases hp), fun own' hs hf {β'} k' => by simp only [evLoad, hτ, hs _ _ hl, hd, cond_true, impl_sub hs _ _ _ _ hv]⟩
            · cases h
          | false =>
            rw [hd, cond_false] at h
            obtain ⟨s, ad, h1, h2, h3⟩ := outVals_par h
            exact ⟨s, ad, h1, h2, fun own' hs hf {β'} k' => by simp only [evLoad, hτ, hs _ _ hl, hd, cond_false]; exact h3 own' hf k'⟩
        | _ =>
          simp only at h
          split at h
          · rename_i hv
            exact ⟨_, [], h, (fun p hp => by cases hp), fun own' hs hf {β'} k' => by simp only [evLoad, hτ, hs _ _ hl, hv]⟩
          · cases h
      · cases h
    · cases h
  · cases h

theorem evLen_par {own : List (Nat × Blk N)} {t : TypeId} {x : RV N} {k : KK N β} {r : β} (h : evLen τ own t x k = some r) :
    ∃ s, k s [] = some r ∧ ∀ own' : List (Nat × Blk N), Sub own own' → ∀ {β' : Type} (k' : KK N β'), evLen τ own' t x k' = k' s [] := by
  unfold evLen at h
  split at h
  · rename_i hτ
    split at h
    · exact ⟨_, h, fun own' hs {β'} k' => by simp only [evLen, hτ]⟩
    · cases h
  · rename_i hτ
    split at h
    · rename_i hd
      exact ⟨_, h, fun own' hs {β'} k' => by simp only [evLen, hτ, toDen_sub hs hd]⟩
    · cases h
  · cases h

theorem setFields_par {own own' : List (Nat × Blk N)} (hs : Sub own own') {ρ ρ' : Operand → RV N} {ts : List Ty} : ∀ (parts : List (Nat × Operand)) (x : HL N.ρ ts) (bs : List Nat) (r : HL N.ρ ts × List Nat), (∀ p ∈ parts, ρ' p.2 = ρ p.2) → setFields own ρ ts parts x bs = some r → setFields own' ρ' ts parts x bs = some r
  | [], x, bs, r, _, h => h
  | (i, o) :: parts, x, bs, r, hp, h => by
    simp only [setFields] at h ⊢
    split at h
    · rename_i t ht
      split at h
      · rename_i y b hy
        split at h
        · rename_i x' hx'
          rw [hp (i, o) List.mem_cons_self, toDen_sub hs hy]
          simp only [ht, hx']
          exact setFields_par hs parts x' _ r (fun p hp' => hp p (List.mem_cons_of_mem _ hp')) h
        · cases h
      · cases h
    · cases h
theorem storeVals_sub {own own' : List (Nat × Blk N)} (hs : Sub own own') {t : Ty} {r : RV N} {y : List (RV N)} (h : storeVals own t r = some y) : storeVals own' t r = some y := by
  have gen : ∀ (b : Bool) (t : Ty), (bif b then some [r] else match toDen own t r with | some (y, b) => some [ofDen t y b] | none => none) = some y → (bif b then some [r] else match toDen own' t r with | some (y, b) => some [ofDen t y b] | none => none) = some y := by
    intro b t h
    cases b with
    | true => exact h
    | false =>
      simp only [cond_false] at h ⊢
      split at h
      · rename_i hd
        rw [toDen_sub hs hd]
        exact h
      · cases h
  cases t with
  | nm n =>
    have old : (match toDen own (.nm n) r with | some (y, b) => expl b 8 (.nm n) y | none => none) = some y → (match toDen own' (.nm n) r with | some (y, b) => expl b 8 (.nm n) y | none => none) = some y := by
      intro h
      split at h
      · rename_i hd
        rw [toDen_sub hs hd]
        exact h
      · cases h
    cases r with
    | mp id =>
      simp only [storeVals] at h ⊢
      split at h
      · rename_i hl
        rw [hs _ _ hl]
        exact h
      · cases h
    | _ => exact old h
  | opq => exact h
  | int k => exact gen _ _ h
  | bool => exact gen _ _ h
  | str => exact gen _ _ h
  | sl e => exact gen _ _ h
theorem setCells_par {own own' : List (Nat × Blk N)} (hs : Sub own own') {ρ ρ' : Operand → RV N} {ts : List Ty} : ∀ (parts : List (Nat × Operand)) (l m : List (RV N)), (∀ p ∈ parts, ρ' p.2 = ρ p.2) → setCells own ρ ts parts l = some m → setCells own' ρ' ts parts l = some m
  | [], l, m, _, h => h
  | (i, o) :: parts, l, m, hp, h => by
    simp only [setCells] at h ⊢
    split at h
    · rename_i t ht
      split at h
      · rename_i vs hvs
        obtain ⟨hle, h⟩ := bif_none h
        simp only [hp (i, o) List.mem_cons_self, storeVals_sub hs hvs, hle, cond_true]
        exact setCells_par hs parts _ m (fun p h => hp p (List.mem_cons_of_mem _ h)) h
      · cases h
    · cases h
theorem evBuild_par {σ : St N} {t : TypeId} {dst : Option Nat} {parts : List (Nat × Operand)} {k : KK N β} {r : β} (h : evBuild τ σ t dst parts k = some r) :
    ∃ s ad, k s ad = some r ∧ (∀ p ∈ ad, look σ.own p.1 = none) ∧ ∀ σ' : St N, Sub σ.own σ'.own → (∀ p ∈ parts, ev σ' p.2 = ev σ p.2) → (∀ p ∈ ad, look σ'.own p.1 = none) → ∀ {β' : Type} (k' : KK N β'), evBuild τ σ' t dst parts k' = k' s ad := by
  unfold evBuild at h
  split at h
  · rename_i n el hτ
    cases hd : (N.rowsAt n).isEmpty with
    | true =>
      rw [hd, cond_true] at h
      split at h
      · rename_i x bs hx
        exact ⟨_, [], h, (fun p hp => by cases hp), fun σ' hs hp hf {β'} k' => by simp only [evBuild, hτ, hd, cond_true, setFields_par hs parts _ _ _ hp hx]⟩
      · cases h
    | false =>
      rw [hd, cond_false] at h
      split at h
      · rename_i l hl
        obtain ⟨s, ad, h1, h2, h3⟩ := outVals_par h
        exact ⟨s, ad, h1, h2, fun σ' hs hp hf {β'} k' => by simp only [evBuild, hτ, hd, cond_false, setCells_par hs parts _ _ hp hl]; exact h3 _ hf k'⟩
      · cases h
  · cases h
theorem setParts_par {own own' : List (Nat × Blk N)} (hs : Sub own own') {ρ ρ' : Operand → RV N} {e : Ty} : ∀ (parts : List (Nat × Operand)) (xs : List (e.den N.ρ)) (bs : List Nat) (r : List (e.den N.ρ) × List Nat), (∀ p ∈ parts, ρ' p.2 = ρ p.2) → setParts own ρ e parts xs bs = some r → setParts own' ρ' e parts xs bs = some r
  | [], xs, bs, r, _, h => h
  | (i, o) :: parts, xs, bs, r, hp, h => by
    simp only [setParts] at h ⊢
    split at h
    · rename_i y b hy
      rw [hp (i, o) List.mem_cons_self, toDen_sub hs hy]
      obtain ⟨hlt, h⟩ := bif_none h
      simp only [hlt, cond_true]
      exact setParts_par hs parts _ _ r (fun p hp' => hp p (List.mem_cons_of_mem _ hp')) h
    · cases h
theorem evBuildSlice_par {σ : St N} {t : TypeId} {len : Nat} {parts : List (Nat × Operand)} {dst : Option Nat} {k : KK N β} {r : β} (h : evBuildSlice τ σ t len parts dst k = some r) :
    ∃ s ad, k s ad = some r ∧ (∀ p ∈ ad, look σ.own p.1 = none) ∧ ∀ σ' : St N, Sub σ.own σ'.own → (∀ p ∈ parts, ev σ' p.2 = ev σ p.2) → (∀ p ∈ ad, look σ'.own p.1 = none) → ∀ {β' : Type} (k' : KK N β'), evBuildSlice τ σ' t len parts dst k' = k' s ad := by
  unfold evBuildSlice at h
  split at h
  · cases h
  · rename_i d
    split at h
    · cases h
    · rename_i hl
      split at h
      · rename_i e el hτ
        obtain ⟨hbig, h⟩ := bif_none h
        split at h
        · rename_i xs bs hx
          refine ⟨_, _, h, (fun p hp => by rw [List.mem_singleton] at hp; subst hp; exact hl), fun σ' hs hp hf {β'} k' => ?_⟩
          have hl' := hf _ (List.mem_singleton.2 rfl)
          simp only [evBuildSlice, hl', hτ, hbig, cond_true, setParts_par hs parts _ _ _ hp hx]
        · cases h
      · cases h

theorem evMake_par {σ : St N} {t : TypeId} {dst : Option Nat} {l c : Operand} {k : KK N β} {r : β} (h : evMake τ σ t dst l c k = some r) :
    ∃ s ad, k s ad = some r ∧ (∀ p ∈ ad, look σ.own p.1 = none) ∧ ∀ σ' : St N, ev σ' l = ev σ l → ev σ' c = ev σ c → (∀ p ∈ ad, look σ'.own p.1 = none) → ∀ {β' : Type} (k' : KK N β'), evMake τ σ' t dst l c k' = k' s ad := by
  unfold evMake at h
  split at h
  · cases h
  · rename_i d
    split at h
    · cases h
    · rename_i hl
      split at h
      · rename_i e el hτ
        split at h
        · rename_i kn n km m hn hm
          have hs : ∀ σ' : St N, sameLen σ' l c = sameLen σ l c := fun σ' => by cases l <;> cases c <;> rfl
          cases hsl : sameLen σ l c with
          | true =>
            rw [hsl, cond_true] at h
            split at h
            · rename_i h0
              split at h
              · rename_i h1
                refine ⟨_, _, h, (fun p hp => by rw [List.mem_singleton] at hp; subst hp; exact hl), fun σ' e1 e2 hf {β'} k' => ?_⟩
                have e3 := hf _ List.mem_cons_self
                simp only at e3
                simp only [evMake, e3, hτ, e1, e2, hn, hm, hs σ', hsl, cond_true, if_pos h0, if_pos h1]
              · cases h
            · cases h
          | false =>
            rw [hsl, cond_false] at h
            obtain ⟨hz, h⟩ := bif_none h
            split at h
            · rename_i h0
              split at h
              · rename_i h1
                refine ⟨_, _, h, (fun p hp => by rw [List.mem_singleton] at hp; subst hp; exact hl), fun σ' e1 e2 hf {β'} k' => ?_⟩
                have e3 := hf _ List.mem_cons_self
                simp only at e3
                simp only [evMake, e3, hτ, e1, e2, hn, hm, hs σ', hsl, hz, cond_true, cond_false, if_pos h0, if_pos h1]
              · cases h
            · cases h
        · cases h
      · cases h
theorem evAlloc_par {own : List (Nat × Blk N)} {t : TypeId} {dst : Option Nat} {k : KK N β} {r : β} (h : evAlloc τ own t dst k = some r) :
    ∃ s ad, k s ad = some r ∧ (∀ p ∈ ad, look own p.1 = none) ∧ ∀ own' : List (Nat × Blk N), (∀ p ∈ ad, look own' p.1 = none) → ∀ {β' : Type} (k' : KK N β'), evAlloc τ own' t dst k' = k' s ad := by
  unfold evAlloc at h
  split at h
  · cases h
  · rename_i d
    split at h
    · cases h
    · rename_i hl
      split at h
      · rename_i e el hτ
        split at h
        · cases h
        · rename_i hl2
          refine ⟨_, _, h, fun p hp => ?_, fun own' hf {β'} k' => ?_⟩
          · rcases List.mem_cons.1 hp with rfl | hp
            · exact hl
            · rw [List.mem_singleton] at hp; subst hp; exact hl2
          · have e1 := hf _ List.mem_cons_self
            have e2 := hf _ (List.mem_cons_of_mem _ List.mem_cons_self)
            simp only at e1 e2
            simp only [evAlloc, e1, e2, hτ]
      · rename_i e hτ
        refine ⟨_, _, h, (fun p hp => by rw [List.mem_singleton] at hp; subst hp; exact hl), fun own' hf {β'} k' => ?_⟩
        have e1 := hf _ List.mem_cons_self
        simp only at e1
        simp only [evAlloc, e1, hτ]
      · rename_i n e hτ
        cases hd : (N.rowsAt n).isEmpty with
        | true =>
          rw [hd, cond_true] at h
          refine ⟨_, _, h, (fun p hp => by rw [List.mem_singleton] at hp; subst hp; exact hl), fun own' hf {β'} k' => ?_⟩
          have e1 := hf _ List.mem_cons_self
          simp only at e1
          simp only [evAlloc, e1, hτ, hd, cond_true]
        | false =>
          rw [hd, cond_false] at h
          split at h
          rename_i m es hes
          obtain ⟨hc, h⟩ := bif_none h
          refine ⟨_, _, h, fun p hp => ?_, fun own' hf {β'} k' => ?_⟩
          · rcases List.mem_cons.1 hp with rfl | hp
            · exact hl
            · exact freshIds_spec hc _ (List.mem_map.2 ⟨p, hp, rfl⟩)
          · have e1 := hf _ List.mem_cons_self
            simp only at e1
            have e2 : freshIds own' (es.map (·.1)) = true := freshIds_of (fun i hi => by
              obtain ⟨p, hp, rfl⟩ := List.mem_map.1 hi
              exact hf p (List.mem_cons_of_mem _ hp))
            simp only [evAlloc, e1, hτ, hd, cond_false, hes, e2, cond_true]
      · rename_i ty e hn1 hn2 hn3 hτ
        refine ⟨_, _, h, (fun p hp => by rw [List.mem_singleton] at hp; subst hp; exact hl), fun own' hf {β'} k' => ?_⟩
        have e1 := hf _ List.mem_cons_self
        simp only at e1
        cases ty <;> first | exact (hn1 _ rfl).elim | exact (hn2 rfl).elim | exact (hn3 _ rfl).elim | simp only [evAlloc, e1, hτ]
      · cases h

theorem evMM_par {b : Bool} {x y : RV N} {k : KK N β} {r : β} (h : evMM b x y k = some r) :
    ∃ s, k s [] = some r ∧ ∀ {β' : Type} (k' : KK N β'), evMM b x y k' = k' s [] := by
  unfold evMM at h
  split at h
  · cases b with
    | true => exact ⟨_, h, fun {β'} k' => rfl⟩
    | false => exact ⟨_, h, fun {β'} k' => rfl⟩
  · cases h

theorem evConvert_par {own : List (Nat × Blk N)} {t t' : TypeId} {x : RV N} {k : KK N β} {r : β} (h : evConvert τ own t t' x k = some r) :
    ∃ s, k s [] = some r ∧ ∀ own' : List (Nat × Blk N), Sub own own' → ∀ {β' : Type} (k' : KK N β'), evConvert τ own' t t' x k' = k' s [] := by
  unfold evConvert at h
  obtain ⟨hsrc, h⟩ := bif_none h
  split at h
  · rename_i hτ
    split at h
    · exact ⟨_, h, fun own' hs {β'} k' => by simp only [evConvert, hsrc, cond_true, hτ]⟩
    · cases h
  · rename_i hτ
    cases x with
    | str l => exact ⟨_, h, fun own' hs {β'} k' => by simp only [evConvert, hsrc, cond_true, hτ]⟩
    | int _ _ => cases h
    | _ =>
      simp only at h
      split at h
      · rename_i hsr
        split at h
        · rename_i hd
          exact ⟨_, h, fun own' hs {β'} k' => by simp only [evConvert, hτ, hsr, toDen_sub hs hd]; rfl⟩
        · cases h
      · cases h
  · rename_i hτ
    split at h
    · exact ⟨_, h, fun own' hs {β'} k' => by simp only [evConvert, hsrc, cond_true, hτ]⟩
    · cases h
  · cases h

theorem evConv_par {σ : St N} {t t' : TypeId} {dst : Option Nat} {x : RV N} {k : KK N β} {r : β} (h : evConv τ σ t t' dst x k = some r) :
    ∃ s ad, k s ad = some r ∧ (∀ p ∈ ad, look σ.own p.1 = none) ∧ ∀ σ' : St N, Sub σ.own σ'.own → (∀ p ∈ ad, look σ'.own p.1 = none) → ∀ {β' : Type} (k' : KK N β'), evConv τ σ' t t' dst x k' = k' s ad := by
  cases dst with
  | none =>
    obtain ⟨s, h1, h3⟩ := evConvert_par (show evConvert τ σ.own t t' x k = some r from h)
    exact ⟨s, [], h1, (fun p hp => by cases hp), fun σ' hs hf β' k' => h3 _ hs k'⟩
  | some d =>
    unfold evConv at h
    simp only at h
    cases hb : bytesDst τ t' with
    | none =>
      rw [hb] at h
      obtain ⟨s, h1, h3⟩ := evConvert_par h
      exact ⟨s, [], h1, (fun p hp => by cases hp), fun σ' hs hf β' k' => by simp only [evConv, hb]; exact h3 _ hs k'⟩
    | some el =>
      rw [hb] at h
      cases x with
      | str l =>
        simp only at h
        split at h
        · cases h
        · rename_i hl
          obtain ⟨hsrc, h⟩ := bif_none h
          split at h
          · rename_i hlim
            refine ⟨_, _, h, (fun p hp => by rw [List.mem_singleton.1 hp]; exact hl), fun σ' hs hf β' k' => ?_⟩
            have hl' := hf (1000 + d, _) (List.mem_singleton.2 rfl)
            simp only at hl'
            simp only [evConv, hb, hl', hsrc, cond_true, if_pos hlim]
          · cases h
      | _ =>
        obtain ⟨s, h1, h3⟩ := evConvert_par h
        exact ⟨s, [], h1, (fun p hp => by cases hp), fun σ' hs hf β' k' => by simp only [evConv, hb]; exact h3 _ hs k'⟩

theorem evBin_par {op : BinOp} {xt : TypeId} {x y : RV N} {k : RV N → Option β} {r : β} (h : evBin τ op xt x y k = some r) :
    ∃ z, k z = some r ∧ ∀ {β' : Type} (k' : RV N → Option β'), evBin τ op xt x y k' = k' z := by
  have hint : ∀ {op : BinOp} {kx : IntKind} {a b : Int}, evInt op kx a b k = some r → ∃ z, k z = some r ∧ ∀ {β' : Type} (k' : RV N → Option β'), evInt op kx a b k' = k' z := by
    intro op kx a b h
    cases op <;> simp only [evInt] at h ⊢ <;> first
      | exact ⟨_, h, fun {β'} _ => rfl⟩
      | (split at h
         · cases h
         · rename_i hb
           exact ⟨_, h, fun {β'} k' => by rw [if_neg hb]⟩)
      | cases h
  have hsh : ∀ {op : BinOp} {kx : IntKind} {a b : Int}, evShift op kx a b k = some r → ∃ z, k z = some r ∧ ∀ {β' : Type} (k' : RV N → Option β'), evShift op kx a b k' = k' z := by
    intro op kx a b h
    cases op <;> simp only [evShift] at h ⊢ <;> first
      | (split at h
         · rename_i hb
           exact ⟨_, h, fun {β'} k' => by rw [if_pos hb]⟩
         · cases h)
      | cases h
  have hst : ∀ {op : BinOp} {a b : List Int}, evStr op a b k = some r → ∃ z, k z = some r ∧ ∀ {β' : Type} (k' : RV N → Option β'), evStr op a b k' = k' z := by
    intro op a b h
    cases op <;> simp only [evStr] at h ⊢ <;> first
      | exact ⟨_, h, fun {β'} _ => rfl⟩
      | (split at h
         · rename_i hb
           exact ⟨_, h, fun {β'} k' => by rw [if_pos hb]⟩
         · cases h)
      | cases h
  cases x with
  | int kx a =>
    cases y with
    | int ky b =>
      by_cases h1 : op = .shl
      · subst h1
        have h : evShift .shl kx a b k = some r := h
        exact hsh h
      · by_cases h2 : op = .shr
        · subst h2
          have h : evShift .shr kx a b k = some r := h
          exact hsh h
        · have e : ∀ {γ : Type} (k : RV N → Option γ), evBin τ op xt (.int kx a) (.int ky b) k = bif decide (kx = ky) then evInt op kx a b k else none := by
            intro γ k
            cases op <;> first | rfl | exact absurd rfl h1 | exact absurd rfl h2
          rw [e] at h
          obtain ⟨hk, h⟩ := bif_none h
          obtain ⟨z, z1, z2⟩ := hint h
          exact ⟨z, z1, fun {β'} k' => by rw [e, hk]; exact z2 k'⟩
    | _ => cases h
  | str a =>
    cases y with
    | str b => exact hst h
    | _ => cases h
  | bool a =>
    cases y with
    | bool b =>
      simp only [evBin] at h ⊢
      split at h
      · rename_i hτ
        split at h
        · exact ⟨_, h, fun {β'} k' => by simp only [hτ]⟩
        · exact ⟨_, h, fun {β'} k' => by simp only [hτ]⟩
        · cases h
      · cases h
    | _ => cases h
  | data t a bs =>
    cases t with
    | nm n =>
      cases y with
      | data t' b bs' =>
        simp only [evBin] at h ⊢
        split at h
        · rename_i hτ
          split at h
          · rename_i h1 h2
            split at h
            · rename_i h3
              split at h
              · exact ⟨_, h, fun {β'} k' => by simp only [hτ, h1, h2, h3]⟩
              · exact ⟨_, h, fun {β'} k' => by simp only [hτ, h1, h2, h3]⟩
              · cases h
            · cases h
          · cases h
        · cases h
      | _ => cases h
    | _ => cases h
  | _ => cases h

theorem evUn_par {op : UnOp} {x : RV N} {k : RV N → Option β} {r : β} (h : evUn op x k = some r) :
    ∃ z, k z = some r ∧ ∀ {β' : Type} (k' : RV N → Option β'), evUn op x k' = k' z := by
  unfold evUn at h
  split at h
  · exact ⟨_, h, fun {β'} _ => rfl⟩
  · exact ⟨_, h, fun {β'} _ => rfl⟩
  · exact ⟨_, h, fun {β'} _ => rfl⟩
  · cases h

theorem evSlice_par {σ : St N} {t : TypeId} {x : RV N} {lo hi : Option Operand} {k : KK N β} {r : β} (h : evSlice τ σ t x lo hi k = some r) :
    ∃ s, k s [] = some r ∧ ∀ σ' : St N, Sub σ.own σ'.own → (∀ o, lo = some o → ev σ' o = ev σ o) → (∀ o, hi = some o → ev σ' o = ev σ o) → ∀ {β' : Type} (k' : KK N β'), evSlice τ σ' t x lo hi k' = k' s [] := by
  have e1 : ∀ σ' : St N, (∀ o, lo = some o → ev σ' o = ev σ o) → cutLo σ' lo = cutLo σ lo := by
    intro σ' hlo
    cases lo with
    | none => rfl
    | some o => simp only [cutLo, hlo o rfl]
  have e2 : ∀ σ' : St N, (∀ o, hi = some o → ev σ' o = ev σ o) → ∀ n, cutHi σ' n hi = cutHi σ n hi := by
    intro σ' hhi n
    cases hi with
    | none => rfl
    | some o => simp only [cutHi, hhi o rfl]
  unfold evSlice at h
  split at h
  · rename_i hτ
    split at h
    · split at h
      · rename_i h1 h2
        split at h
        · rename_i a0
          split at h
          · rename_i a1
            split at h
            · rename_i a2
              exact ⟨_, h, fun σ' hs hlo hhi {β'} k' => by simp only [evSlice, hτ, e1 σ' hlo, e2 σ' hhi, h1, h2, if_pos a0, if_pos a1, if_pos a2]⟩
            · cases h
          · cases h
        · cases h
      · cases h
    · cases h
  · rename_i hτ
    split at h
    · rename_i hd
      split at h
      · rename_i h1 h2
        split at h
        · rename_i a0
          split at h
          · rename_i a1
            split at h
            · rename_i a2
              exact ⟨_, h, fun σ' hs hlo hhi {β'} k' => by simp only [evSlice, hτ, toDen_sub hs hd, e1 σ' hlo, e2 σ' hhi, h1, h2, if_pos a0, if_pos a1, if_pos a2]⟩
            · cases h
          · cases h
        · cases h
      · cases h
    · cases h
  · cases h

theorem capsAre_sub {ι : Type} {ρ ρ' : ι → RV N} {os0 : List ι} (hρ0 : ∀ o ∈ os0, ρ' o = ρ o) : ∀ (js cs : List Nat), capsAre ρ os0 js cs = true → capsAre ρ' os0 js cs = true
  | [], [], h => h
  | [], _ :: _, h => by cases h
  | _ :: _, [], h => by cases h
  | j :: js, c :: cs, h => by
    simp only [capsAre, Bool.and_eq_true] at h ⊢
    refine ⟨?_, capsAre_sub hρ0 js cs h.2⟩
    have h1 := h.1
    split at h1
    · rename_i o ho
      rw [hρ0 o (List.mem_of_getElem? ho)]
      exact h1
    · cases h1
theorem fnIs_sub {ι : Type} {ρ ρ' : ι → RV N} {os0 : List ι} (hρ0 : ∀ o ∈ os0, ρ' o = ρ o) (f : FuncId) (js : List Nat) (r : RV N) (h : fnIs ρ os0 f js r = true) : fnIs ρ' os0 f js r = true := by
  unfold fnIs at h ⊢
  split at h
  · simp only [Bool.and_eq_true] at h ⊢
    exact ⟨h.1, capsAre_sub hρ0 _ _ h.2⟩
  · cases h
theorem cellsIn_sub {own own' : List (Nat × Blk N)} (hs : Sub own own') {fk fk' : FuncId → List Nat → RV N → Bool} (hfk : ∀ f js r, fk f js r = true → fk' f js r = true) : ∀ (l : List CK) (rs : List (RV N)) (x : HC N.ρ l) (B J : List Nat), cellsIn fk own l rs = some (x, B, J) → cellsIn fk' own' l rs = some (x, B, J)
  | [], [], x, B, J, h => h
  | [], _ :: _, x, B, J, h => by cases h
  | .c t :: l, [], x, B, J, h => by cases h
  | .o el e :: l, [], x, B, J, h => by cases h
  | .f f js :: l, [], x, B, J, h => by cases h
  | .c t :: l, r :: rs, x, B, J, h => by
    simp only [cellsIn] at h ⊢
    cases hn : isNm t with
    | true => rw [hn] at h; cases h
    | false =>
      rw [hn] at h
      simp only [cond_false] at h ⊢
      split at h
      · rename_i x1 b1 y B1 J1 h1 h2
        cases h
        rw [toDen_sub hs h1, cellsIn_sub hs hfk l rs _ _ _ h2]
      · cases h
  | .o el e :: l, r :: rs, x, B, J, h => by
    simp only [cellsIn] at h ⊢
    split at h
    · rename_i j
      split at h
      · rename_i el' e' xs bs hl
        obtain ⟨he, h⟩ := bif_none h
        rw [hs _ _ hl]
        simp only [he, cond_true]
        split at h
        · rename_i xs' y B1 J1 h1 h2
          cases h
          rw [h1, cellsIn_sub hs hfk l rs _ _ _ h2]
        · cases h
      · cases h
    · cases h
  | .f f js :: l, r :: rs, x, B, J, h => by
    simp only [cellsIn] at h ⊢
    obtain ⟨hf, h⟩ := bif_none h
    split at h
    · rename_i y B1 J1 h2
      cases h
      rw [hfk f js r hf, cellsIn_sub hs hfk l rs _ _ _ h2]
      rfl
    · cases h

theorem readP_sub {own own' : List (Nat × Blk N)} (hs : Sub own own') {t : Ty} {r : RV N} {y : t.den N.ρ × List Nat} (h : readP own t r = some y) : readP own' t r = some y := by
  unfold readP at h ⊢
  split at h
  · split at h
    · rename_i hl
      simp only [hs _ _ hl]
      exact h
    · rename_i hl
      simp only [hs _ _ hl]
      split at h
      · rename_i hi
        simp only [impl_sub hs 8 _ _ _ hi]
        exact h
      · cases h
    · cases h
  · exact h
  · cases h
theorem callIn_sub {ι : Type} {own own' : List (Nat × Blk N)} (hs : Sub own own') {ρ ρ' : ι → RV N} {os0 : List ι} (hρ0 : ∀ o ∈ os0, ρ' o = ρ o) : ∀ (ps : List PK) (os : List ι) (x : HIn N.ρ ps) (B U : List Nat), (∀ o ∈ os, ρ' o = ρ o) → callIn own ρ os0 ps os = some (x, B, [], U) → callIn own' ρ' os0 ps os = some (x, B, [], U)
  | [], [], x, B, U, hρ, h => h
  | [], _ :: _, x, B, U, hρ, h => by cases h
  | .v t :: ps, [], x, B, U, hρ, h => by cases h
  | .io el e :: ps, [], x, B, U, hρ, h => by cases h
  | .bw t :: ps, [], x, B, U, hρ, h => by cases h
  | .bc l :: ps, [], x, B, U, hρ, h => by cases h
  | .fv f :: ps, [], x, B, U, hρ, h => by cases h
  | .fb f :: ps, [], x, B, U, hρ, h => by cases h
  | .ag n l :: ps, [], x, B, U, hρ, h => by cases h
  | .go el e :: ps, [], x, B, U, hρ, h => by cases h
  | .fn f js :: ps, [], x, B, U, hρ, h => by cases h
  | .rp t :: ps, [], x, B, U, hρ, h => by cases h
  | .rp t :: ps, o :: os, x, B, U, hρ, h => by
    simp only [callIn] at h ⊢
    split at h
    · rename_i x1 b1 y1 B1 D1 U1 h1 h2
      cases h
      rw [hρ o List.mem_cons_self, readP_sub hs h1, callIn_sub hs hρ0 ps os _ _ _ (fun o ho => hρ o (List.mem_cons_of_mem _ ho)) h2]
    · cases h
  | .fn f js :: ps, o :: os, x, B, U, hρ, h => by
    simp only [callIn] at h ⊢
    obtain ⟨hf, h⟩ := bif_none h
    split at h
    · rename_i y1 B1 D1 U1 h2
      cases h
      rw [hρ o List.mem_cons_self, fnIs_sub hρ0 _ _ _ hf, callIn_sub hs hρ0 ps os _ _ _ (fun o ho => hρ o (List.mem_cons_of_mem _ ho)) h2]
      rfl
    · cases h
  | .go el e :: ps, o :: os, x, B, U, hρ, h => by
    simp only [callIn] at h ⊢
    split at h
    · split at h
      · obtain ⟨_, h⟩ := bif_none h
        split at h
        · cases h
        · cases h
      · cases h
    · rename_i ho
      split at h
      · rename_i y1 B1 D1 U1 h2
        cases h
        rw [hρ o List.mem_cons_self, ho]
        simp only
        rw [callIn_sub hs hρ0 ps os _ _ _ (fun o ho => hρ o (List.mem_cons_of_mem _ ho)) h2]
      · cases h
    · cases h
  | .ag n l :: ps, o :: os, x, B, U, hρ, h => by
    simp only [callIn] at h ⊢
    split at h
    · rename_i id ho
      split at h
      · rename_i m rs hl
        obtain ⟨hm, h⟩ := bif_none h
        split at h
        · rename_i x1 b1 J1 y1 B1 D1 U1 h1 h2
          simp only [Option.some.injEq, Prod.mk.injEq, List.append_eq_nil_iff] at h
          obtain ⟨rfl, rfl, ⟨rfl, rfl⟩, rfl⟩ := h
          rw [hρ o List.mem_cons_self, ho]
          simp only
          rw [hs _ _ hl]
          simp only [hm, cond_true]
          rw [cellsIn_sub hs (fun f js r h => fnIs_sub hρ0 f js r h) l rs _ _ _ h1, callIn_sub hs hρ0 ps os _ _ _ (fun o ho => hρ o (List.mem_cons_of_mem _ ho)) h2]
          rfl
        · cases h
      · cases h
    · cases h
  | .fv f :: ps, o :: os, x, B, U, hρ, h => by
    simp only [callIn] at h ⊢
    obtain ⟨hf, h⟩ := bif_none h
    split at h
    · rename_i y1 B1 D1 U1 h2
      cases h
      rw [hρ o List.mem_cons_self, hf, callIn_sub hs hρ0 ps os _ _ _ (fun o ho => hρ o (List.mem_cons_of_mem _ ho)) h2]
      rfl
    · cases h
  | .fb f :: ps, o :: os, x, B, U, hρ, h => by
    simp only [callIn] at h
    split at h
    · split at h
      · obtain ⟨_, h⟩ := bif_none h
        split at h
        · cases h
        · cases h
      · cases h
    · cases h
  | .v t :: ps, o :: os, x, B, U, hρ, h => by
    simp only [callIn] at h ⊢
    split at h
    · rename_i x1 b1 y1 B1 D1 U1 h1 h2
      cases h
      rw [hρ o List.mem_cons_self, toDen_sub hs h1, callIn_sub hs hρ0 ps os _ _ _ (fun o ho => hρ o (List.mem_cons_of_mem _ ho)) h2]
    · cases h
  | .io el e :: ps, o :: os, x, B, U, hρ, h => by
    simp only [callIn] at h
    split at h
    · split at h
      · obtain ⟨_, h⟩ := bif_none h
        split at h
        · cases h
        · cases h
      · cases h
    · cases h
  | .bw t :: ps, o :: os, x, B, U, hρ, h => by
    simp only [callIn] at h
    split at h
    · split at h
      · split at h
        · cases h
        · cases h
      · cases h
    · cases h
  | .bc l :: ps, o :: os, x, B, U, hρ, h => by
    simp only [callIn] at h
    split at h
    · split at h
      · split at h
        · cases h
        · cases h
      · cases h
    · cases h

theorem callNew_nil {ι : Type} {own : List (Nat × Blk N)} {ρ : ι → RV N} {B' : List Nat} {os0 : List ι} : ∀ (ps : List PK) (os : List ι) (x : HIn N.ρ ps) (B U : List Nat) (y : HOut N.ρ ps), callIn own ρ os0 ps os = some (x, B, [], U) → callNew own ρ B' ps os y = []
  | [], [], x, B, U, y, h => rfl
  | [], _ :: _, x, B, U, y, h => by cases h
  | .v t :: ps, [], x, B, U, y, h => by cases h
  | .io el e :: ps, [], x, B, U, y, h => by cases h
  | .bw t :: ps, [], x, B, U, y, h => by cases h
  | .bc l :: ps, [], x, B, U, y, h => by cases h
  | .fv f :: ps, [], x, B, U, y, h => by cases h
  | .fb f :: ps, [], x, B, U, y, h => by cases h
  | .ag n l :: ps, [], x, B, U, y, h => by cases h
  | .go el e :: ps, [], x, B, U, y, h => by cases h
  | .fn f js :: ps, [], x, B, U, y, h => by cases h
  | .rp t :: ps, [], x, B, U, y, h => by cases h
  | .rp t :: ps, o :: os, x, B, U, y, h => by
    simp only [callIn] at h
    split at h
    · rename_i x1 b1 y1 B1 D1 U1 h1 h2
      cases h
      exact callNew_nil ps os y1 B1 U y h2
    · cases h
  | .fn f js :: ps, o :: os, x, B, U, y, h => by
    simp only [callIn] at h
    obtain ⟨hf, h⟩ := bif_none h
    split at h
    · rename_i y1 B1 D1 U1 h2
      cases h
      exact callNew_nil ps os y1 B U y h2
    · cases h
  | .go el e :: ps, o :: os, x, B, U, y, h => by
    simp only [callIn] at h
    split at h
    · split at h
      · obtain ⟨_, h⟩ := bif_none h
        split at h
        · cases h
        · cases h
      · cases h
    · split at h
      · rename_i y1 B1 D1 U1 h2
        cases h
        exact callNew_nil ps os y1 B U y h2
      · cases h
    · cases h
  | .ag n l :: ps, o :: os, x, B, U, y, h => by
    simp only [callIn] at h
    split at h
    · split at h
      · obtain ⟨_, h⟩ := bif_none h
        split at h
        · rename_i x1 b1 J1 y1 B1 D1 U1 h1 h2
          simp only [Option.some.injEq, Prod.mk.injEq, List.append_eq_nil_iff] at h
          obtain ⟨rfl, rfl, ⟨rfl, rfl⟩, rfl⟩ := h
          exact callNew_nil ps os y1 B1 U1 y h2
        · cases h
      · cases h
    · cases h
  | .fv f :: ps, o :: os, x, B, U, y, h => by
    simp only [callIn] at h
    obtain ⟨hf, h⟩ := bif_none h
    split at h
    · rename_i y1 B1 D1 U1 h2
      cases h
      exact callNew_nil ps os y1 B U y h2
    · cases h
  | .fb f :: ps, o :: os, x, B, U, y, h => by
    simp only [callIn] at h
    split at h
    · split at h
      · obtain ⟨_, h⟩ := bif_none h
        split at h
        · cases h
        · cases h
      · cases h
    · cases h
  | .v t :: ps, o :: os, x, B, U, y, h => by
    simp only [callIn] at h
    split at h
    · rename_i x1 b1 y1 B1 D1 U1 h1 h2
      cases h
      exact callNew_nil ps os y1 B1 U y h2
    · cases h
  | .io el e :: ps, o :: os, x, B, U, y, h => by
    simp only [callIn] at h
    split at h
    · split at h
      · obtain ⟨_, h⟩ := bif_none h
        split at h
        · cases h
        · cases h
      · cases h
    · cases h
  | .bw t :: ps, o :: os, x, B, U, y, h => by
    simp only [callIn] at h
    split at h
    · split at h
      · split at h
        · cases h
        · cases h
      · cases h
    · cases h
  | .bc l :: ps, o :: os, x, B, U, y, h => by
    simp only [callIn] at h
    split at h
    · split at h
      · split at h
        · cases h
        · cases h
      · cases h
    · cases h

theorem resCellNew_ids (B : List Nat) (d j : Nat) : ∀ (l : List CK) (i : Nat) (x : HC N.ρ l), (resCellNew B d j i l x).map (·.1) = resCellIds d j i l
  | [], i, x => rfl
  | .c t :: l, i, x => resCellNew_ids B d j l (i + 1) x.2
  | .o el e :: l, i, x => by simp [resCellNew, resCellIds, resCellNew_ids B d j l (i + 1) x.2]
  | .f f js :: l, i, x => resCellNew_ids B d j l (i + 1) x.2
theorem resNew_ids (B : List Nat) (d : Nat) : ∀ (rs : List RK) (j : Nat) (x : HRes N.ρ rs), (resNew B d rs j x).map (·.1) = resIds d rs j
  | [], j, x => rfl
  | .v t :: rs, j, x => resNew_ids B d rs (j + 1) x.2
  | .own el e :: rs, j, x => by simp [resNew, resIds, resNew_ids B d rs (j + 1) x.2]
  | .ag n l :: rs, j, x => by simp [resNew, resIds, resNew_ids B d rs (j + 1) x.2, resCellNew_ids B d j l 0 x.1]

/-- A call that only reads what was there. -/
def evCallE {ι : Type} (S : Spec N) (own : List (Nat × Blk N)) (ρ : ι → RV N) (os : List ι) (dst : Option Nat) (k : KK N β) : Option β :=
  match callIn own ρ os S.ps os with
  | some (x, B, [], []) => bif freshIds own (resIds (dst.getD 0) S.rs 0) && nodupB (resIds (dst.getD 0) S.rs 0) then
      (S.f x).bind fun r => k (packS (resSlots B (dst.getD 0) S.rs 0 (S.out r).1)) (resNew B (dst.getD 0) S.rs 0 (S.out r).1)
    else none
  | _ => none

theorem evCallE_par {ι : Type} {S : Spec N} {own : List (Nat × Blk N)} {ρ : ι → RV N} {os : List ι} {dst : Option Nat} {k : KK N β} {r : β} (h : evCallE S own ρ os dst k = some r) :
    ∃ s ad, k s ad = some r ∧ (∀ p ∈ ad, look own p.1 = none) ∧ ∀ (own' : List (Nat × Blk N)) (ρ' : ι → RV N), Sub own own' → (∀ o ∈ os, ρ' o = ρ o) → (∀ p ∈ ad, look own' p.1 = none) → ∀ {β' : Type} (k' : KK N β'), evCallE S own' ρ' os dst k' = k' s ad := by
  unfold evCallE at h
  split at h
  · rename_i x B hc
    obtain ⟨hf, h⟩ := bif_none h
    simp only [Bool.and_eq_true] at hf
    obtain ⟨hf, hnd⟩ := hf
    obtain ⟨y, hy, hk⟩ := Option.bind_eq_some_iff.1 h
    refine ⟨_, _, hk, fun p hp => ?_, fun own' ρ' hs hρ hf' β' k' => ?_⟩
    · refine freshIds_spec hf p.1 ?_
      rw [← resNew_ids (N := N) B (dst.getD 0) S.rs 0 (S.out y).1]
      exact List.mem_map.2 ⟨p, hp, rfl⟩
    · have hfr : freshIds own' (resIds (dst.getD 0) S.rs 0) = true := freshIds_of (fun i hi => by
        rw [← resNew_ids (N := N) B (dst.getD 0) S.rs 0 (S.out y).1] at hi
        obtain ⟨p, hp, rfl⟩ := List.mem_map.1 hi
        exact hf' p hp)
      simp only [evCallE, callIn_sub hs hρ S.ps os x B [] hρ hc, hfr, hnd, Bool.and_self, cond_true, hy, Option.bind_some]
  · cases h

theorem noBsD_nil (own : List (Nat × Blk N)) : noBsD own [] = true := by
  unfold noBsD
  rw [List.all_eq_true]
  rintro ⟨i, b⟩ _
  have : ∀ l, meets [] l = false := fun l => by
    unfold meets
    rw [List.any_eq_false]
    intro i _
    simp
  cases b <;> simp [this]

theorem evCallE_eq {ι : Type} {S : Spec N} {σ : St N} {ρ : ι → RV N} {os : List ι} {dst : Option Nat} {s : Slot N} {ad : List (Nat × Blk N)} (h : evCallE S σ.own ρ os dst (fun s ad => some (s, ad)) = some (s, ad)) {k : Slot N → St N → Option β} :
    evCall S σ ρ os dst k = k s { σ with own := insAll ad σ.own } := by
  unfold evCallE at h
  split at h
  · rename_i x B hc
    obtain ⟨hf, h⟩ := bif_none h
    simp only [Bool.and_eq_true] at hf
    obtain ⟨hf, hnd⟩ := hf
    obtain ⟨y, hy, hk⟩ := Option.bind_eq_some_iff.1 h
    cases hk
    have hm : meets [] B = false := by
      unfold meets
      rw [List.any_eq_false]
      intro i _
      simp
    simp only [evCall, hc, hnd, show nodupB ([] : List Nat) = true from rfl, hm, noBsD_nil, hf, Bool.not_false, Bool.and_self, cond_true, hy, Option.bind_some, havR, callNew_nil S.ps os x B [] _ hc, List.nil_append]
  · cases h

def usesT (o : Oper) : List Nat := o.op.operands.toList.filterMap fun | .tmp t => some t | _ => none

structure Agree (o : Oper) (σ σ' : St N) : Prop where
  regs : ∀ t ∈ usesT o, σ'.reg t = σ.reg t
  sub : Sub σ.own σ'.own

theorem ev_const (σ σ' : St N) (v : Value) : Eng.ev σ' (.const v) = Eng.ev σ (.const v) := by
  cases v with
  | slice a l c =>
    cases a with
    | none =>
      cases l with
      | zero =>
        cases c with
        | zero => rfl
        | succ _ => rfl
      | succ _ => rfl
    | some _ => rfl
  | _ => rfl

theorem Agree.ev {o : Oper} {σ σ' : St N} (h : Agree o σ σ') {x : Operand} (hx : x ∈ o.op.operands.toList) : Eng.ev σ' x = Eng.ev σ x := by
  cases x with
  | tmp t =>
    have := h.regs t (List.mem_filterMap.2 ⟨_, hx, rfl⟩)
    simp only [Eng.ev, this]
  | const v => exact ev_const σ σ' v
  | _ => rfl

theorem evMoveS_par {o : Oper} {σ : St N} {ty : TypeId} {dst : Option Nat} {x : Operand} (hx : x ∈ o.op.operands.toList) {k : KK N β} {r : β} (h : evMoveS τ σ ty dst x k = some r) :
    ∃ s ad, k s ad = some r ∧ (∀ p ∈ ad, look σ.own p.1 = none) ∧ ∀ σ' : St N, Agree o σ σ' → (∀ p ∈ ad, look σ'.own p.1 = none) → ∀ {β' : Type} (k' : KK N β'), evMoveS τ σ' ty dst x k' = k' s ad := by
  have base : evMove τ σ.own ty dst (ev σ x) k = some r → (∀ (σ' : St N), Agree o σ σ' → ∀ {β' : Type} (k' : KK N β'), evMoveS τ σ' ty dst x k' = evMove τ σ'.own ty dst (ev σ' x) k') → ∃ s ad, k s ad = some r ∧ (∀ p ∈ ad, look σ.own p.1 = none) ∧ ∀ σ' : St N, Agree o σ σ' → (∀ p ∈ ad, look σ'.own p.1 = none) → ∀ {β' : Type} (k' : KK N β'), evMoveS τ σ' ty dst x k' = k' s ad := by
    intro hb he
    obtain ⟨s, ad, h1, h2, h3⟩ := evMove_par hb
    exact ⟨s, ad, h1, h2, fun σ' hA hf β' k' => by rw [he σ' hA k', hA.ev hx]; exact h3 _ hf k'⟩
  cases x with
  | tmp t =>
    have ht : t ∈ usesT o := List.mem_filterMap.2 ⟨_, hx, rfl⟩
    unfold evMoveS at h
    simp only at h
    cases hl : σ.reg t with
    | tup l =>
      rw [hl] at h
      exact ⟨_, _, h, (fun p hp => by cases hp), fun σ' hA hf β' k' => by simp only [evMoveS, hA.regs t ht, hl]⟩
    | one r0 =>
      rw [hl] at h
      exact base h (fun σ' hA β' k' => by simp only [evMoveS, hA.regs t ht, hl])
  | const v => exact base h (fun σ' hA β' k' => rfl)
  | global g => exact base h (fun σ' hA β' k' => rfl)
  | func f => exact base h (fun σ' hA β' k' => rfl)

def bxB (own : List (Nat × Blk N)) (id : Nat) : Bool := match look own id with
  | some (.whole _ _ _) => true
  | some (.cells _) => true
  | _ => false
theorem argR_sub {σ σ' : St N} (hs : Sub σ.own σ'.own) {id : Nat} (h : bxB σ.own id = true) : argR σ' (.cap id) = argR σ (.cap id) := by
  unfold bxB at h
  simp only [argR]
  split at h
  · rename_i hl
    first | rw [hl, hs _ _ hl] | rw [hs _ _ hl]
  · rename_i hl
    first | rw [hl, hs _ _ hl] | rw [hs _ _ hl]
  · cases h

def evE (τ : TypeId → Option TI) (Φ : FuncId → Option (Spec N)) (o : Oper) (σ : St N) (k : KK N β) : Option β :=
  match o.op with
  | .move x => evMoveS τ σ o.type o.dst x k
  | .assign x => evMoveS τ σ o.type o.dst x k
  | .load t x => evLoad τ σ.own t o.dst (ev σ x) k
  | .nilCheck x => match ev σ x with
    | .bptr i j => k (.one (.bptr i j)) []
    | .sptr t y bs => k (.one (.sptr t y bs)) []
    | .optr i j l => k (.one (.optr i j l)) []
    | .fn f caps => k (.one (.fn f caps)) []
    | _ => none
  | .binOp op t x y _ => evBin τ op t (ev σ x) (ev σ y) fun z => k (.one z) []
  | .unOp op _ x => evUn op (ev σ x) fun z => k (.one z) []
  | .convert t t' x => evConv τ σ t t' o.dst (ev σ x) k
  | .slice t x lo hi none => evSlice τ σ t (ev σ x) lo hi k
  | .pick c x y => match ev σ c with
    | .bool b => bif b then evMove τ σ.own o.type o.dst (ev σ x) k else evMove τ σ.own o.type o.dst (ev σ y) k
    | _ => none
  | .alloc t => evAlloc τ σ.own t o.dst k
  | .build t ps => evBuild τ σ t o.dst ps.toList k
  | .buildSlice t n ps => evBuildSlice τ σ t n ps.toList o.dst k
  | .makeSlice t l c => evMake τ σ t o.dst l c k
  | .fieldAddr t x f => evFieldAddr τ t (ev σ x) f k
  | .field t x f => evField τ σ.own t o.dst (ev σ x) f k
  | .indexAddr t x i => evIndexAddr τ σ.own t (ev σ x) (ev σ i) k
  | .index t x i => evIndex τ t (ev σ x) (ev σ i) k
  | .extract x i => match x with
    | .tmp t => match σ.reg t with
      | .tup l => match l[i]? with
        | some r => k (.one r) []
        | none => none
      | _ => none
    | _ => none
  | .call c => match c.callee with
    | .value f => match ev σ f with
      | .fn f caps => match pickS Φ f (c.args.toList.map (ev σ)) with
        | some S => bif Nat.beq S.gh 0 && Nat.beq S.ps.length (c.args.toList.map Arg.op ++ caps.map Arg.cap).length && caps.all (bxB σ.own) then evCallE S σ.own (argR σ) (c.args.toList.map Arg.op ++ caps.map Arg.cap) o.dst k else none
        | none => none
      | _ => none
    | .builtin .len => match c.args.toList, c.argTypes.toList with
      | [x], [t] => evLen τ σ.own t (ev σ x) k
      | _, _ => none
    | .builtin .min => match c.args.toList with
      | [x, y] => evMM true (ev σ x) (ev σ y) k
      | _ => none
    | .builtin .max => match c.args.toList with
      | [x, y] => evMM false (ev σ x) (ev σ y) k
      | _ => none
    | _ => none
  | _ => none

theorem evE_par {Φ : FuncId → Option (Spec N)} {o : Oper} {σ : St N} {k : KK N β} {r : β} (h : evE τ Φ o σ k = some r) :
    ∃ s ad, k s ad = some r ∧ (∀ p ∈ ad, look σ.own p.1 = none) ∧ ∀ σ' : St N, Agree o σ σ' → (∀ p ∈ ad, look σ'.own p.1 = none) → ∀ {β' : Type} (k' : KK N β'), evE τ Φ o σ' k' = k' s ad := by
  obtain ⟨dst, op, ty, pos, after, guard⟩ := o
  have none0 : ∀ (own : List (Nat × Blk N)), ∀ p ∈ ([] : List (Nat × Blk N)), look own p.1 = none := fun own p hp => by cases hp
  unfold evE at h
  cases op with
  | move x =>
    obtain ⟨s, ad, h1, h2, h3⟩ := evMoveS_par (o := ⟨dst, .move x, ty, pos, after, guard⟩) (by simp [Op.operands]) h
    exact ⟨s, ad, h1, h2, fun σ' hA hf β' k' => h3 σ' hA hf k'⟩
  | assign x =>
    obtain ⟨s, ad, h1, h2, h3⟩ := evMoveS_par (o := ⟨dst, .assign x, ty, pos, after, guard⟩) (by simp [Op.operands]) h
    exact ⟨s, ad, h1, h2, fun σ' hA hf β' k' => h3 σ' hA hf k'⟩
  | build t ps =>
    obtain ⟨s, ad, h1, h2, h3⟩ := evBuild_par h
    exact ⟨s, ad, h1, h2, fun σ' hA hf β' k' => by simp only [evE]; exact h3 σ' hA.sub (fun p hp => hA.ev (by simp only [Op.operands]; exact List.mem_map.2 ⟨p, hp, rfl⟩)) hf k'⟩
  | makeSlice t l c =>
    obtain ⟨s, ad, h1, h2, h3⟩ := evMake_par h
    exact ⟨s, ad, h1, h2, fun σ' hA hf β' k' => by simp only [evE]; exact h3 σ' (hA.ev (by simp [Op.operands])) (hA.ev (by simp [Op.operands])) hf k'⟩
  | alloc t =>
    obtain ⟨s, ad, h1, h2, h3⟩ := evAlloc_par h
    exact ⟨s, ad, h1, h2, fun σ' hA hf β' k' => by simp only [evE]; exact h3 _ hf k'⟩
  | buildSlice t n ps =>
    obtain ⟨s, ad, h1, h2, h3⟩ := evBuildSlice_par h
    exact ⟨s, ad, h1, h2, fun σ' hA hf β' k' => by simp only [evE]; exact h3 σ' hA.sub (fun p hp => hA.ev (by simp only [Op.operands]; exact List.mem_map.2 ⟨p, hp, rfl⟩)) hf k'⟩
  | pick c x y =>
    simp only at h
    split at h
    · rename_i b hb
      have hc : ∀ σ' : St N, Agree ⟨dst, .pick c x y, ty, pos, after, guard⟩ σ σ' → ev σ' c = .bool b := fun σ' hA => by rw [hA.ev (x := c) (by simp [Op.operands])]; exact hb
      cases b with
      | true =>
        simp only [cond_true] at h
        obtain ⟨s, ad, h1, h2, h3⟩ := evMove_par h
        refine ⟨s, ad, h1, h2, fun σ' hA hf β' k' => ?_⟩
        simp only [evE, hc σ' hA, hA.ev (x := x) (by simp [Op.operands]), cond_true]
        exact h3 _ hf k'
      | false =>
        simp only [cond_false] at h
        obtain ⟨s, ad, h1, h2, h3⟩ := evMove_par h
        refine ⟨s, ad, h1, h2, fun σ' hA hf β' k' => ?_⟩
        simp only [evE, hc σ' hA, hA.ev (x := y) (by simp [Op.operands]), cond_false]
        exact h3 _ hf k'
    · cases h
  | load t x =>
    obtain ⟨s, ad, h1, h2, h3⟩ := evLoad_par h
    exact ⟨s, ad, h1, h2, fun σ' hA hf β' k' => by simp only [evE, hA.ev (x := x) (by simp [Op.operands])]; exact h3 _ hA.sub hf k'⟩
  | nilCheck x =>
    simp only at h
    split at h
    · rename_i hx
      exact ⟨_, _, h, none0 _, fun σ' hA hf β' k' => by simp only [evE, hA.ev (x := x) (by simp [Op.operands]), hx]⟩
    · rename_i hx
      exact ⟨_, _, h, none0 _, fun σ' hA hf β' k' => by simp only [evE, hA.ev (x := x) (by simp [Op.operands]), hx]⟩
    · rename_i hx
      exact ⟨_, _, h, none0 _, fun σ' hA hf β' k' => by simp only [evE, hA.ev (x := x) (by simp [Op.operands]), hx]⟩
    · rename_i hx
      exact ⟨_, _, h, none0 _, fun σ' hA hf β' k' => by simp only [evE, hA.ev (x := x) (by simp [Op.operands]), hx]⟩
    · cases h
  | binOp op t x y yt =>
    obtain ⟨z, h1, h3⟩ := evBin_par h
    exact ⟨.one z, [], h1, none0 _, fun σ' hA hf β' k' => by simp only [evE, hA.ev (x := x) (by simp [Op.operands]), hA.ev (x := y) (by simp [Op.operands])]; exact h3 fun z => k' (.one z) []⟩
  | unOp op t x =>
    obtain ⟨z, h1, h3⟩ := evUn_par h
    exact ⟨.one z, [], h1, none0 _, fun σ' hA hf β' k' => by simp only [evE, hA.ev (x := x) (by simp [Op.operands])]; exact h3 fun z => k' (.one z) []⟩
  | convert t t' x =>
    obtain ⟨s, ad, h1, h2, h3⟩ := evConv_par h
    exact ⟨s, ad, h1, h2, fun σ' hA hf β' k' => by simp only [evE, hA.ev (x := x) (by simp [Op.operands])]; exact h3 _ hA.sub hf k'⟩
  | slice t x lo hi mx =>
    cases mx with
    | none =>
      obtain ⟨s, h1, h3⟩ := evSlice_par h
      refine ⟨s, [], h1, none0 _, fun σ' hA hf β' k' => ?_⟩
      simp only [evE, hA.ev (x := x) (by simp [Op.operands])]
      exact h3 σ' hA.sub (fun o ho => hA.ev (by simp [Op.operands, ho])) (fun o ho => hA.ev (by simp [Op.operands, ho])) k'
    | some m => cases h
  | fieldAddr t x f =>
    obtain ⟨s, h1, h3⟩ := evFieldAddr_par h
    exact ⟨s, [], h1, none0 _, fun σ' hA hf β' k' => by simp only [evE, hA.ev (x := x) (by simp [Op.operands])]; exact h3 k'⟩
  | field t x f =>
    obtain ⟨s, ad, h1, h2, h3⟩ := evField_par h
    exact ⟨s, ad, h1, h2, fun σ' hA hf β' k' => by simp only [evE, hA.ev (x := x) (by simp [Op.operands])]; exact h3 _ hA.sub hf k'⟩
  | indexAddr t x i =>
    obtain ⟨s, h1, h3⟩ := evIndexAddr_par h
    exact ⟨s, [], h1, none0 _, fun σ' hA hf β' k' => by simp only [evE, hA.ev (x := x) (by simp [Op.operands]), hA.ev (x := i) (by simp [Op.operands])]; exact h3 _ hA.sub k'⟩
  | index t x i =>
    obtain ⟨s, h1, h3⟩ := evIndex_par h
    exact ⟨s, [], h1, none0 _, fun σ' hA hf β' k' => by simp only [evE, hA.ev (x := x) (by simp [Op.operands]), hA.ev (x := i) (by simp [Op.operands])]; exact h3 k'⟩
  | extract x i =>
    simp only at h
    split at h
    · rename_i t
      split at h
      · rename_i l hl
        split at h
        · rename_i z hz
          refine ⟨_, _, h, none0 _, fun σ' hA hf β' k' => ?_⟩
          have := hA.regs t (by simp [usesT, Op.operands])
          simp only [evE, this, hl, hz]
        · cases h
      · cases h
    · cases h
  | call c =>
    simp only at h
    split at h
    · rename_i f hf
      split at h
      · rename_i f' caps hfn
        split at h
        · rename_i S hS
          obtain ⟨hg, h⟩ := bif_none h
          have hg' := hg
          simp only [Bool.and_eq_true] at hg'
          have hbx := List.all_eq_true.1 hg'.2
          obtain ⟨s, ad, h1, h2, h3⟩ := evCallE_par h
          refine ⟨s, ad, h1, h2, fun σ' hA hfr β' k' => ?_⟩
          have e1 : ev σ' f = .fn f' caps := by
            rw [hA.ev (x := f) (by simp [Op.operands, Call.operands, hf])]
            exact hfn
          have e3 : ∀ y ∈ c.args.toList, ev σ' y = ev σ y := fun y hy => hA.ev (by simp only [Op.operands, Call.operands, Array.toList_append, List.mem_append]; exact .inr hy)
          have e2 : c.args.toList.map (ev σ') = c.args.toList.map (ev σ) := List.map_congr_left e3
          have e4 : caps.all (bxB σ'.own) = true := by
            rw [List.all_eq_true]
            intro y hy
            have := hbx y hy
            unfold bxB at this ⊢
            split at this
            · rename_i hl; rw [hA.sub _ _ hl]
            · rename_i hl; rw [hA.sub _ _ hl]
            · cases this
          simp only [evE, hf, e1, e2, hS, hg'.1, e4, Bool.and_self, cond_true]
          refine h3 _ _ hA.sub (fun o ho => ?_) hfr k'
          rcases List.mem_append.1 ho with ho | ho
          · obtain ⟨y, hy, rfl⟩ := List.mem_map.1 ho
            exact e3 y hy
          · obtain ⟨y, hy, rfl⟩ := List.mem_map.1 ho
            exact argR_sub hA.sub (hbx y hy)
        · cases h
      · cases h
    · rename_i hb
      split at h
      · rename_i x t hx ht
        obtain ⟨s, h1, h3⟩ := evLen_par h
        refine ⟨s, [], h1, none0 _, fun σ' hA hf β' k' => ?_⟩
        have e1 : ev σ' x = ev σ x := hA.ev (by simp only [Op.operands, Call.operands, Array.toList_append, List.mem_append, hx]; exact .inr List.mem_cons_self)
        simp only [evE, hb, hx, ht, e1]
        exact h3 _ hA.sub k'
      · cases h
    · rename_i hb
      split at h
      · rename_i x y hx
        obtain ⟨s, h1, h3⟩ := evMM_par h
        refine ⟨s, [], h1, none0 _, fun σ' hA hf β' k' => ?_⟩
        have e1 : ev σ' x = ev σ x := hA.ev (by simp only [Op.operands, Call.operands, Array.toList_append, List.mem_append, hx]; exact .inr List.mem_cons_self)
        have e2 : ev σ' y = ev σ y := hA.ev (by simp only [Op.operands, Call.operands, Array.toList_append, List.mem_append, hx]; exact .inr (List.mem_cons_of_mem _ List.mem_cons_self))
        simp only [evE, hb, hx, e1, e2]
        exact h3 k'
      · cases h
    · rename_i hb
      split at h
      · rename_i x y hx
        obtain ⟨s, h1, h3⟩ := evMM_par h
        refine ⟨s, [], h1, none0 _, fun σ' hA hf β' k' => ?_⟩
        have e1 : ev σ' x = ev σ x := hA.ev (by simp only [Op.operands, Call.operands, Array.toList_append, List.mem_append, hx]; exact .inr List.mem_cons_self)
        have e2 : ev σ' y = ev σ y := hA.ev (by simp only [Op.operands, Call.operands, Array.toList_append, List.mem_append, hx]; exact .inr (List.mem_cons_of_mem _ List.mem_cons_self))
        simp only [evE, hb, hx, e1, e2]
        exact h3 k'
      · cases h
    · cases h
  | _ => cases h

theorem evE_evOp {Φ : FuncId → Option (Spec N)} {o : Oper} {σ : St N} {s : Slot N} {ad : List (Nat × Blk N)} (h : evE τ Φ o σ (fun s ad => some (s, ad)) = some (s, ad)) (hp : ∀ {β' : Type} (k' : KK N β'), evE τ Φ o σ k' = k' s ad) {k : St N → Option β} :
    evOp τ Φ o σ k = k (({ σ with own := insAll ad σ.own } : St N).put o.dst s) := by
  obtain ⟨dst, op, ty, pos, after, guard⟩ := o
  have h1 := hp (fin1 σ dst k)
  cases op with
  | call c =>
    simp only [evE, evOp] at h h1 ⊢
    cases hc : c.callee with
    | value f =>
      simp only [hc] at h h1 ⊢
      cases hf : ev σ f with
      | fn f' caps =>
        simp only [hf] at h h1 ⊢
        simp only [evCallee]
        cases hS : pickS Φ f' (c.args.toList.map (ev σ)) with
        | none => rw [hS] at h; cases h
        | some S =>
          simp only [hS] at h h1 ⊢
          obtain ⟨hg, h⟩ := bif_none h
          simp only [Bool.and_eq_true] at hg
          have hg0 := Nat.eq_of_beq_eq_true hg.1.1
          have hg1 := Nat.eq_of_beq_eq_true hg.1.2
          have hg2 : Nat.beq S.ps.length ((c.args.toList.map Arg.op ++ caps.map Arg.cap).length + S.gh) = true := by
            rw [hg0, Nat.add_zero, hg1]
            exact Nat.beq_refl _
          rw [hg2, cond_true]
          rw [show (c.args.toList.map Arg.op ++ caps.map Arg.cap) ++ (ghostIds σ.own S.ps S.gh ((c.args.toList.map Arg.op ++ caps.map Arg.cap).map (argR σ))).map Arg.cap = c.args.toList.map Arg.op ++ caps.map Arg.cap from by rw [hg0]; simp [ghostIds]]
          rw [evCallE_eq h]
          rfl
      | _ => rw [hf] at h; cases h
    | invoke r m => rw [hc] at h; cases h
    | builtin b =>
      simp only [hc] at h h1 ⊢
      cases b with
      | len =>
        simp only at h h1 ⊢
        exact h1
      | min =>
        simp only at h h1 ⊢
        exact h1
      | max =>
        simp only at h h1 ⊢
        exact h1
      | _ => cases h
  | slice t x lo hi mx =>
    cases mx with
    | none => exact h1
    | some m => cases h
  | extract x i =>
    simp only [evE, evOp] at h h1 ⊢
    exact h1
  | pick c x y =>
    simp only [evE, evOp] at h h1 ⊢
    cases hx : ev σ c <;> rw [hx] at h h1 <;> first | exact h1 | cases h
  | nilCheck x =>
    simp only [evE, evOp] at h h1 ⊢
    cases hx : ev σ x <;> rw [hx] at h h1 <;> first | exact h1 | cases h
  | move x => exact h1
  | build t ps => exact h1
  | alloc t => exact h1
  | makeSlice t l c => exact h1
  | buildSlice t n ps => exact h1
  | assign x => exact h1
  | load t x => exact h1
  | binOp op t x y yt =>
    have hn : isNilC y = false := by
      cases hy : isNilC y with
      | false => rfl
      | true =>
        exfalso
        have hy' : y = .const (.slice none 0 0) := by
          unfold isNilC at hy
          split at hy
          · rfl
          · cases hy
        subst hy'
        simp only [evE, show ev σ (.const (.slice none 0 0)) = (.nil : RV N) from rfl] at h
        unfold evBin at h
        cases hx : ev σ x with
        | data t' a bs => rw [hx] at h; cases t' <;> cases h
        | _ => rw [hx] at h; cases h
    simp only [evE, evOp, hn] at h1 ⊢
    exact h1
  | unOp op t x => exact h1
  | convert t t' x => exact h1
  | fieldAddr t x f => exact h1
  | field t x f => exact h1
  | indexAddr t x i => exact h1
  | index t x i => exact h1
  | _ => cases h

/-- An operation that reads or adds: its effect, wherever it is carried out. -/
theorem evE_does (F : Fits P N τ) {Φ : FuncId → Option (Spec N)} (hΦ : ∀ f S, Φ f = some S → Good P (f % 1000000) S) {o : Oper} {σ : St N} {k : KK N β} {r : β} (h : evE τ Φ o σ k = some r) :
    ∃ s ad, k s ad = some r ∧ (∀ p ∈ ad, look σ.own p.1 = none) ∧ ∀ σ' : St N, Agree o σ σ' → (∀ p ∈ ad, look σ'.own p.1 = none) → DoesO P o σ' (({ σ' with own := insAll ad σ'.own } : St N).put o.dst s) ∧ ∀ {β' : Type} (k' : KK N β'), evE τ Φ o σ' k' = k' s ad := by
  obtain ⟨s, ad, h1, h2, h3⟩ := evE_par h
  refine ⟨s, ad, h1, h2, fun σ' hA hf => ⟨?_, fun k' => h3 σ' hA hf k'⟩⟩
  have hp : ∀ {β' : Type} (k' : KK N β'), evE τ Φ o σ' k' = k' s ad := fun k' => h3 σ' hA hf k'
  have := evE_evOp (hp fun s ad => some (s, ad)) hp (k := fun σ => some σ)
  obtain ⟨σ1, e1, e2⟩ := evOp_sound F hΦ this
  cases e1
  exact e2

end Go.Eng

set_option linter.unusedVariables false
set_option linter.unusedSimpArgs false
namespace Go.Eng
variable {N : Names} {P : Program} {τ : TypeId → Option TI} {β : Type}
structure Eff (N : Names) where
 dst : Option Nat
 s : Slot N
 ad : List (Nat × Blk N)
def applyE (σ : St N) (e : Eff N) : St N := ({ regs := σ.regs, own := insAll e.ad σ.own } : St N).put e.dst e.s
def sq (σ0 : St N) (eff : Nat → Eff N) : List Nat → St N
 | [] => σ0
 | j :: L => applyE (sq σ0 eff L) (eff j)
def predsOf (ops : List Oper) (i : Nat) : List Nat := match ops[i]? with
 | some o => (o.after.toList.filter (Region.binds .any)).map (·.on)
 | none => []
def addAll : List Nat → List Nat → List Nat
 | [], l => l
 | i :: r, l => bif l.contains i then addAll r l else addAll r (i :: l)
/-! What is done before operation i in any case: bits of a number, row by row. -/
def rowM (T : List Nat) (n : Nat) : List Nat → Nat
 | [] => 0
 | j :: r => Nat.lor (Nat.lor (2 ^ j) (bif Nat.blt j n then T.getD (n - 1 - j) 0 else 0)) (rowM T n r)
def extM (ops : List Oper) (n : Nat) (T : List Nat) : List Nat := rowM T n (predsOf ops n) :: T
def cloM (ops : List Oper) : Nat → List Nat
 | 0 => []
 | n + 1 => extM ops n (cloM ops n)
def bitsDown (m : Nat) : Nat → List Nat
 | 0 => []
 | k + 1 => bif m.testBit k then k :: bitsDown m k else bitsDown m k
def clo (ops : List Oper) (_ i : Nat) : List Nat := bitsDown ((cloM ops (i + 1)).headD 0) i
def CloR (ops : List Oper) (j k : Nat) : Prop := ∀ S : Nat → Prop, (∀ j, S j → ∀ k ∈ predsOf ops j, S k) → (∀ k ∈ predsOf ops j, S k) → S k
theorem rowM_bit {ops : List Oper} {T : List Nat} {n : Nat} (hT : ∀ j, j < n → ∀ k, (T.getD (n - 1 - j) 0).testBit k = true → CloR ops j k) {i : Nat} : ∀ (l : List Nat), (∀ j ∈ l, j ∈ predsOf ops i) → ∀ k, (rowM T n l).testBit k = true → CloR ops i k
 | [], _, k, h => by simp [rowM] at h
 | j :: r, hl, k, h => by
  have h : (Nat.lor (Nat.lor (2 ^ j) (bif Nat.blt j n then T.getD (n - 1 - j) 0 else 0)) (rowM T n r)).testBit k = true := h
  rw [show ∀ a b, Nat.lor a b = a ||| b from fun _ _ => rfl, show ∀ a b, Nat.lor a b = a ||| b from fun _ _ => rfl, Nat.testBit_or, Nat.testBit_or, Bool.or_eq_true, Bool.or_eq_true] at h
  rcases h with (h | h) | h
  ·rw [Nat.testBit_two_pow, decide_eq_true_eq] at h
   subst h
   exact fun S _ hp => hp _ (hl _ List.mem_cons_self)
  ·cases hb : Nat.blt j n with
   | false => rw [hb] at h; simp at h
   | true =>
    rw [hb, cond_true] at h
    have hj : j < n := by simpa [Nat.blt_eq] using hb
    exact fun S hS hp => hT j hj k h S hS (hS j (hp j (hl _ List.mem_cons_self)))
  ·exact rowM_bit hT r (fun j hj => hl j (List.mem_cons_of_mem _ hj)) k h
theorem cloM_bit {ops : List Oper} : ∀ (n : Nat), ∀ j, j < n → ∀ k, ((cloM ops n).getD (n - 1 - j) 0).testBit k = true → CloR ops j k
 | 0, j, hj => by omega
 | n + 1, j, hj => by
  intro k h
  by_cases e : j = n
  ·subst e
   rw [show j + 1 - 1 - j = 0 from by omega] at h
   exact rowM_bit (cloM_bit j) _ (fun _ h => h) k h
  ·rw [show n + 1 - 1 - j = (n - 1 - j) + 1 from by omega] at h
   exact cloM_bit n j (by omega) k h
theorem mem_bitsDown {m : Nat} : ∀ {n k : Nat}, k ∈ bitsDown m n → m.testBit k = true
 | 0, k, h => by cases h
 | n + 1, k, h => by
  unfold bitsDown at h
  cases hb : m.testBit n with
  | false => rw [hb, cond_false] at h; exact mem_bitsDown h
  | true =>
   rw [hb, cond_true] at h
   rcases List.mem_cons.1 h with rfl | h
   ·exact hb
   ·exact mem_bitsDown h
theorem clo_sub {ops : List Oper} {S : Nat → Prop} (hS : ∀ j, S j → ∀ k ∈ predsOf ops j, S k) (f i : Nat) (h : ∀ k ∈ predsOf ops i, S k) (k : Nat) (hk : k ∈ clo ops f i) : S k := by
 have h1 := mem_bitsDown hk
 refine cloM_bit (ops := ops) (i + 1) i (by omega) k ?_ S hS h
 rw [show i + 1 - 1 - i = 0 from by omega]
 have : (cloM ops (i + 1)).headD 0 = (cloM ops (i + 1)).getD 0 0 := rfl
 rw [← this]
 exact h1
theorem reg_putS {σ : St N} {d : Nat} {s : Slot N} (hd : d < σ.regs.length) (t : Nat) : (σ.putS d s).reg t = if d = t then s else σ.reg t := by
 unfold St.putS St.reg
 simp only [List.getD_eq_getElem?_getD, List.getElem?_set]
 by_cases h : d = t
 ·subst h; simp [hd]
 ·simp [h]
theorem applyE_regs (σ : St N) (e : Eff N) : (applyE σ e).regs.length = σ.regs.length := by
 unfold applyE St.put St.putS
 cases e.dst <;> simp
theorem sq_regs (σ0 : St N) (eff : Nat → Eff N) : ∀ L, (sq σ0 eff L).regs.length = σ0.regs.length
 | [] => rfl
 | j :: L => by rw [sq, applyE_regs, sq_regs σ0 eff L]
theorem applyE_reg {σ : St N} {e : Eff N} (hd : ∀ d, e.dst = some d → d < σ.regs.length) (t : Nat) : (applyE σ e).reg t = if e.dst = some t then e.s else σ.reg t := by
 unfold applyE
 cases h : e.dst with
 | none => rfl
 | some d =>
  simp only [St.put]
  rw [reg_putS (by exact hd d h)]
  by_cases hdt : d = t
  ·simp [hdt]
  ·simp [hdt]; rfl
theorem applyE_own (σ : St N) (e : Eff N) (id : Nat) : look (applyE σ e).own id = match look e.ad id with
  | some b => some b
  | none => look σ.own id := by
 have h : (applyE σ e).own = insAll e.ad σ.own := by
  unfold applyE St.put St.putS
  cases e.dst <;> rfl
 rw [h, look_insAll]
 cases look e.ad id <;> rfl
structure EffsOk (σ0 : St N) (eff : Nat → Eff N) (m : Nat) : Prop where
 dst : ∀ j, j < m → ∀ d, (eff j).dst = some d → d < σ0.regs.length
 one : ∀ i j, i < m → j < m → ∀ d, (eff i).dst = some d → (eff j).dst = some d → i = j
 ids : ∀ i j, i < m → j < m → ∀ id b b', look (eff i).ad id = some b → look (eff j).ad id = some b' → i = j
 fresh : ∀ j, j < m → ∀ id b, look (eff j).ad id = some b → look σ0.own id = none
theorem sq_reg {σ0 : St N} {eff : Nat → Eff N} {m : Nat} (h : EffsOk σ0 eff m) {t : Nat} : ∀ {L : List Nat}, (∀ j ∈ L, j < m) → (∀ j ∈ L, (eff j).dst = some t → (sq σ0 eff L).reg t = (eff j).s) ∧ ((∀ j ∈ L, (eff j).dst ≠ some t) → (sq σ0 eff L).reg t = σ0.reg t)
 | [], _ => ⟨(fun j hj => by cases hj), fun _ => rfl⟩
 | i :: L, hL => by
  have ih := sq_reg h (L := L) (t := t) (fun j hj => hL j (List.mem_cons_of_mem _ hj))
  have hr : (sq σ0 eff (i :: L)).reg t = if (eff i).dst = some t then (eff i).s else (sq σ0 eff L).reg t :=
   applyE_reg (fun d hd => by rw [sq_regs]; exact h.dst i (hL i List.mem_cons_self) d hd) t
  rw [hr]
  refine ⟨fun j hj hd => ?_, fun hn => ?_⟩
  ·by_cases hi : (eff i).dst = some t
   ·rw [if_pos hi, h.one i j (hL i List.mem_cons_self) (hL j hj) t hi hd]
   ·rw [if_neg hi]
    rcases List.mem_cons.1 hj with rfl | hj
    ·exact absurd hd hi
    ·exact ih.1 j hj hd
  ·rw [if_neg (hn i List.mem_cons_self)]
   exact ih.2 (fun j hj => hn j (List.mem_cons_of_mem _ hj))
theorem sq_own {σ0 : St N} {eff : Nat → Eff N} {m : Nat} (h : EffsOk σ0 eff m) {id : Nat} : ∀ {L : List Nat}, (∀ j ∈ L, j < m) → (∀ j ∈ L, ∀ b, look (eff j).ad id = some b → look (sq σ0 eff L).own id = some b) ∧ ((∀ j ∈ L, look (eff j).ad id = none) → look (sq σ0 eff L).own id = look σ0.own id)
 | [], _ => ⟨(fun j hj => by cases hj), fun _ => rfl⟩
 | i :: L, hL => by
  have ih := sq_own h (L := L) (id := id) (fun j hj => hL j (List.mem_cons_of_mem _ hj))
  have hr : look (sq σ0 eff (i :: L)).own id = match look (eff i).ad id with
    | some b => some b
    | none => look (sq σ0 eff L).own id := applyE_own _ _ _
  rw [hr]
  refine ⟨fun j hj b hb => ?_, fun hn => ?_⟩
  ·cases hi : look (eff i).ad id with
   | some b' =>
    have := h.ids i j (hL i List.mem_cons_self) (hL j hj) id b' b hi hb
    subst this
    rw [hb] at hi
    exact hi.symm
   | none =>
    rcases List.mem_cons.1 hj with rfl | hj
    ·rw [hb] at hi; cases hi
    ·exact ih.1 j hj b hb
  ·rw [hn i List.mem_cons_self]
   exact ih.2 (fun j hj => hn j (List.mem_cons_of_mem _ hj))
theorem RelE.same {io : Io} {w0 w : World} {σ σ' : St N} {E : Env} {a : Act} (h : RelE io w0 σ E a w) (hl : σ'.regs.length = σ.regs.length) (hr : ∀ t, σ'.reg t = σ.reg t) (ho : ∀ id, look σ'.own id = look σ.own id) : RelE io w0 σ' E a w := by
 have hregs : σ'.regs = σ.regs := by
  apply List.ext_getElem?
  intro i
  have := hr i
  unfold St.reg at this
  rw [List.getD_eq_getElem?_getD, List.getD_eq_getElem?_getD] at this
  rcases Nat.lt_or_ge i σ.regs.length with hi | hi
  ·rw [List.getElem?_eq_getElem (by omega), List.getElem?_eq_getElem hi] at this ⊢
   simpa using this
  ·rw [List.getElem?_eq_none (by omega), List.getElem?_eq_none hi]
 have hok : ∀ bs g, okb w.heap.size σ.own E bs g → okb w.heap.size σ'.own E bs g := fun bs g hg => ⟨hg.1, fun id hid => hg.2 id (by rw [← ho]; exact hid)⟩
 have hrv : ∀ r v, RVRel w σ.own E r v → RVRel w σ'.own E r v := fun r v hr =>
  RVRel_mono (fun _ _ _ _ _ h => h) (fun bs _ g hg => hok bs g hg) (fun id n t _ ⟨e, xs, bs, p, k1, k2⟩ => ⟨⟨e, xs, bs, p, by rw [ho]; exact k1, k2⟩, rfl⟩)
   (fun id _ hb => ⟨by
    rcases hb with ⟨t, x, bs, k1⟩ | ⟨l, k1⟩ | ⟨kt, vt, es, k1⟩ | ⟨n, l, k1⟩
    ·exact .inl ⟨t, x, bs, by rw [ho]; exact k1⟩
    ·exact .inr (.inl ⟨l, by rw [ho]; exact k1⟩)
    ·exact .inr (.inr (.inl ⟨kt, vt, es, by rw [ho]; exact k1⟩))
    ·exact .inr (.inr (.inr ⟨n, l, by rw [ho]; exact k1⟩)), rfl⟩) hr
 refine ⟨h.kept, by rw [hl]; exact h.size, h.defers, ?_, ?_, ?_, ?_, h.sc, h.nw, ?_⟩
 ·intro t s hs
  rw [hregs] at hs
  exact SlotRel_mono hrv (h.regs t s hs)
 ·intro id b hb
  rw [ho] at hb
  have := h.own id b hb
  cases b with
  | row e t xs bs p =>
   obtain ⟨cells, k1, k2⟩ := this
   exact ⟨cells, k1, RowC_mono (fun x cs hx => Rep_mono (fun _ _ _ h => h) (hok bs) hx) k2⟩
  | whole t x bs =>
   obtain ⟨g, T, arr, k1, k2, k3⟩ := this
   exact ⟨g, T, arr, k1, k2, Rep_mono (fun _ _ _ h => h) (hok bs) k3⟩
  | cells l =>
   obtain ⟨g, T, arr, k1, k2, k3, k4⟩ := this
   exact ⟨g, T, arr, k1, k2, k3, fun i r u hi hu => hrv r u (k4 i r u hi hu)⟩
  | mapB kt vt es => exact this
  | vals n l =>
   obtain ⟨arr, k1, k2, k3, k4⟩ := this
   exact ⟨arr, k1, k2, k3, fun i r u hi hu => hrv r u (k4 i r u hi hu)⟩
 ·intro id b hb
  rw [ho] at hb
  exact h.blk id b hb
 ·intro i j b b' h1 h2
  rw [ho] at h1 h2
  exact h.sep i j b b' h1 h2
 ·intro i hi
  obtain ⟨b, k1, k2⟩ := h.fx i hi
  exact ⟨b, by rw [ho]; exact k1, k2⟩
/-! The operations of the head, each in its own state. -/
def guardT (ops : List Oper) (o : Oper) : List Nat := match o.guard with
 | some (g, _) => (guardReg ops g).toList
 | none => []
def usesG (ops : List Oper) (o : Oper) : List Nat := guardT ops o ++ usesT o
structure AgreeG (ops : List Oper) (o : Oper) (σ σ' : St N) : Prop where
 regs : ∀ t ∈ usesG ops o, σ'.reg t = σ.reg t
 sub : Sub σ.own σ'.own
 len : σ'.regs.length = σ.regs.length
def HeadOp (P : Program) (ops : List Oper) (i : Nat) (o : Oper) (σ : St N) (e : Eff N) : Prop :=
 e.dst = o.dst ∧ ∀ σ', AgreeG ops o σ σ' → (∀ p ∈ e.ad, look σ'.own p.1 = none) → ∀ io w0 a w (K : Act → World → Prop) (Q : Exit → Act → World → Prop), Rel io w0 σ' a w → (∀ a' w', Rel io w0 (applyE σ' e) a' w' → K a' w') → wpOp P ops.toArray Q i K a w
def asked (i : Nat) : List Oper → Bool
 | [] => false
 | o :: r => (match o.guard with
  | some (g, _) => Nat.beq g i
  | none => false) || asked i r
def splitB (g : Bool) (s : Slot N) (k : Slot N → Option β) : Option β :=
 match g, s with
 | true, .one (.bool b) => bif b then k (.one (.bool true)) else k (.one (.bool false))
 | _, s => k s
theorem splitB_eq (g : Bool) (s : Slot N) (k : Slot N → Option β) : splitB g s k = k s := by
 unfold splitB
 split
 ·rename_i b
  cases b <;> rfl
 ·rfl
def drawHead (τ : TypeId → Option TI) (Φ : FuncId → Option (Spec N)) (ops : List Oper) (σ0 : St N) : List Oper → List (Eff N) → (List (Eff N) → Option β) → Option β
 | [], effs, k => k effs
 | o :: rest, effs, k =>
  drawOne (sq σ0 (fun j => effs.getD j ⟨none, .tup [], []⟩) (clo ops ops.length effs.length)) o fun s ad => splitB (asked effs.length ops) s fun s => drawHead τ Φ ops σ0 rest (effs ++ [⟨o.dst, s, ad⟩]) k
where
 drawOne (σ : St N) (o : Oper) (k : KK N β) : Option β :=
  match o.guard with
  | none => evE τ Φ o σ k
  | some (g, want) => match guardReg ops g with
   | none => k (.tup []) []
   | some d => match σ.reg d with
    | .one (.bool b) => bif want then (bif b then evE τ Φ o σ k else k (.tup []) []) else (bif b then k (.tup []) [] else evE τ Φ o σ k)
    | .tup [] => k (.tup []) []
    | _ => none
def ParD (τ : TypeId → Option TI) (Φ : FuncId → Option (Spec N)) (ops : List Oper) (o : Oper) (σ : St N) (s : Slot N) (ad : List (Nat × Blk N)) : Prop :=
 ∀ σ' : St N, AgreeG ops o σ σ' → (∀ p ∈ ad, look σ'.own p.1 = none) → ∀ {β' : Type} (k' : KK N β'), drawHead.drawOne τ Φ ops σ' o k' = k' s ad
theorem drawOne_sound (F : Fits P N τ) {Φ : FuncId → Option (Spec N)} (hΦ : ∀ f S, Φ f = some S → Good P (f % 1000000) S) {ops : List Oper} {i : Nat} {o : Oper} (hi : ops[i]? = some o) {σ : St N} {k : KK N β} {r : β} (h : drawHead.drawOne τ Φ ops σ o k = some r) :
  ∃ s ad, k s ad = some r ∧ (∀ p ∈ ad, look σ.own p.1 = none) ∧ HeadOp P ops i o σ ⟨o.dst, s, ad⟩ ∧ ParD τ Φ ops o σ s ad := by
 have hoi : (ops.toArray)[i]? = some o := by rw [List.getElem?_toArray]; exact hi
 have run : ∀ {k : KK N β}, evE τ Φ o σ k = some r → (∀ (σ' : St N), AgreeG ops o σ σ' → ∀ io w0 a w, Rel io w0 σ' a w → Region.wanted o (yielded ops.toArray a.tmps) = true) → (∀ (σ' : St N), AgreeG ops o σ σ' → ∀ {β' : Type} (k' : KK N β'), drawHead.drawOne τ Φ ops σ' o k' = evE τ Φ o σ' k') → ∃ s ad, k s ad = some r ∧ (∀ p ∈ ad, look σ.own p.1 = none) ∧ HeadOp P ops i o σ ⟨o.dst, s, ad⟩ ∧ ParD τ Φ ops o σ s ad := by
  intro k hk hw hdr
  obtain ⟨s, ad, h1, h2, h3⟩ := evE_does F hΦ hk
  refine ⟨s, ad, h1, h2, ⟨rfl, fun σ' hA hf io w0 a w K Q hr hK => ?_⟩, fun σ' hA hf {β'} k' => (hdr σ' hA k').trans ((h3 σ' ⟨fun t ht => hA.regs t (List.mem_append.2 (.inr ht)), hA.sub⟩ hf).2 k')⟩
  unfold wpOp
  simp only [hoi]
  rw [if_pos (hw σ' hA io w0 a w hr)]
  exact .inl ((h3 σ' ⟨fun t ht => hA.regs t (List.mem_append.2 (.inr ht)), hA.sub⟩ hf).1 io w0 a w K Q hr hK)
 have skip : ∀ {k : KK N β}, k (.tup []) [] = some r → (∀ (σ' : St N), AgreeG ops o σ σ' → ∀ io w0 a w, Rel io w0 σ' a w → Region.wanted o (yielded ops.toArray a.tmps) = false) → (∀ (σ' : St N), AgreeG ops o σ σ' → ∀ {β' : Type} (k' : KK N β'), drawHead.drawOne τ Φ ops σ' o k' = k' (.tup []) []) → ∃ s ad, k s ad = some r ∧ (∀ p ∈ ad, look σ.own p.1 = none) ∧ HeadOp P ops i o σ ⟨o.dst, s, ad⟩ ∧ ParD τ Φ ops o σ s ad := by
  intro k hk hw hdr
  refine ⟨_, _, hk, (fun p hp => by cases hp), ⟨rfl, fun σ' hA hf io w0 a w K Q hr hK => ?_⟩, fun σ' hA hf {β'} k' => hdr σ' hA k'⟩
  unfold wpOp
  simp only [hoi]
  rw [if_neg (by rw [hw σ' hA io w0 a w hr]; simp)]
  exact hK _ _ (hr.skip o.dst)
 unfold drawHead.drawOne at h
 split at h
 ·rename_i hg
  exact run h (fun σ' hA io w0 a w hr => by simp [Region.wanted, hg]) (fun σ' hA {β'} k' => by simp only [drawHead.drawOne, hg])
 ·rename_i g want hg
  have hW : ∀ a : Act, Region.wanted o (yielded ops.toArray a.tmps) = (yielded ops.toArray a.tmps g == some want) := fun a => by simp [Region.wanted, hg]
  have hy : ∀ a : Act, yielded ops.toArray a.tmps g = match (guardReg ops g).bind (a.tmps[·]?) with
    | some (.bool b) => some b
    | _ => none := by
   intro a
   unfold yielded
   rw [guardReg_toArray]
   rfl
  split at h
  ·rename_i hgr
   refine skip h (fun σ' hA io w0 a w hr => ?_) (fun σ' hA {β'} k' => by simp only [drawHead.drawOne, hg, hgr])
   rw [hW, hy, hgr]
   rfl
  ·rename_i d hgr
   have hd : d ∈ usesG ops o := List.mem_append.2 (.inl (by simp [guardT, hg, hgr]))
   split at h
   ·rename_i b hb
    have hyb : ∀ (σ' : St N), AgreeG ops o σ σ' → ∀ io w0 a w, Rel io w0 σ' a w → yielded ops.toArray a.tmps g = some b := by
     rintro σ' hA io w0 a w ⟨E, hrE⟩
     obtain ⟨hv, hlt⟩ := reg_slot hrE ((hA.regs d hd).trans hb) (by simp)
     have hv : a.tmps.getD d undef = .bool b := hv
     rw [hy, hgr]
     simp only [Option.bind_some]
     rw [Array.getD_eq_getD_getElem?, Array.getElem?_eq_getElem hlt] at hv
     rw [Array.getElem?_eq_getElem hlt]
     simp only [Option.getD_some] at hv
     rw [hv]
    cases want with
    | true =>
     simp only [cond_true] at h
     cases b with
     | true => exact run h (fun σ' hA io w0 a w hr => by rw [hW, hyb σ' hA io w0 a w hr]; rfl) (fun σ' hA {β'} k' => by simp only [drawHead.drawOne, hg, hgr, (hA.regs d hd).trans hb, cond_true, cond_false])
     | false => exact skip h (fun σ' hA io w0 a w hr => by rw [hW, hyb σ' hA io w0 a w hr]; rfl) (fun σ' hA {β'} k' => by simp only [drawHead.drawOne, hg, hgr, (hA.regs d hd).trans hb, cond_true, cond_false])
    | false =>
     simp only [cond_false] at h
     cases b with
     | true => exact skip h (fun σ' hA io w0 a w hr => by rw [hW, hyb σ' hA io w0 a w hr]; rfl) (fun σ' hA {β'} k' => by simp only [drawHead.drawOne, hg, hgr, (hA.regs d hd).trans hb, cond_true, cond_false])
     | false => exact run h (fun σ' hA io w0 a w hr => by rw [hW, hyb σ' hA io w0 a w hr]; rfl) (fun σ' hA {β'} k' => by simp only [drawHead.drawOne, hg, hgr, (hA.regs d hd).trans hb, cond_true, cond_false])
   ·rename_i hb
    refine skip h (fun σ' hA io w0 a w hr => ?_) (fun σ' hA {β'} k' => by simp only [drawHead.drawOne, hg, hgr, (hA.regs d hd).trans hb])
    obtain ⟨E, hrE⟩ := hr
    obtain ⟨⟨vs, hv, hl, _⟩, hlt⟩ := reg_slot hrE ((hA.regs d hd).trans hb) (by simp)
    rw [hW, hy, hgr]
    simp only [Option.bind_some]
    rw [Array.getD_eq_getD_getElem?, Array.getElem?_eq_getElem hlt] at hv
    rw [Array.getElem?_eq_getElem hlt]
    simp only [Option.getD_some] at hv
    rw [hv]
    rfl
   ·cases h
/-! Any order. -/
structure DrawOk (ops : List Oper) (m : Nat) : Prop where
 fwd : ∀ i, i < ops.length → ∀ k ∈ predsOf ops i, k < i
 uses : ∀ i j o o', i < m → j < m → ops[i]? = some o → ops[j]? = some o' → ∀ d, o'.dst = some d → d ∈ usesG ops o → i = j ∨ j ∈ clo ops ops.length i ∨ i ∈ clo ops ops.length j
theorem mem_preds {ops : List Oper} {i k : Nat} : k ∈ predsOf ops i ↔ ∃ o, ops[i]? = some o ∧ ∃ e ∈ o.after, Region.binds .any e = true ∧ e.on = k := by
 unfold predsOf
 cases h : ops[i]? with
 | none => simp
 | some o => simp [List.mem_map, List.mem_filter, and_assoc]
structure Inv (io : Io) (w0 : World) (ops : List Oper) (m : Nat) (σ0 : St N) (eff : Nat → Eff N) (listed : Array Bool) (seq : List Nat) (a : Act) (w : World) : Prop where
 head : HeadInv .any ops.toArray m listed
 mem : ∀ j, j < ops.length → (listed.getD j false = true ↔ j ∈ seq)
 lt : ∀ j ∈ seq, j < m
 nodup : seq.Nodup
 rel : Rel io w0 (sq σ0 eff seq) a w
theorem range_le : ∀ (m : Nat) (l : List Nat), (∀ i, i < m → i ∈ l) → m ≤ l.length
 | 0, l, _ => Nat.zero_le _
 | m + 1, l, h => by
  have h1 : m ∈ l := h m (by omega)
  have h2 := range_le m (l.erase m) (fun i hi => (List.mem_erase_of_ne (by omega)).2 (h i (by omega)))
  rw [List.length_erase_of_mem h1] at h2
  have := List.length_pos_of_mem h1
  omega
theorem getD_bool {listed : Array Bool} {i : Nat} (hi : i < listed.size) : listed.getD i true = listed.getD i false := by
 simp [hi]
theorem wpAny_draw {ops : List Oper} {m g : Nat} {σ0 : St N} {eff : Nat → Eff N} {io : Io} {w0 : World} {Q : Exit → Act → World → Prop} (hm : m ≤ ops.length) (hD : DrawOk ops m) (hE : EffsOk σ0 eff m)
  (hH : ∀ i, i < m → ∃ o, ops[i]? = some o ∧ HeadOp P ops i o (sq σ0 eff (clo ops ops.length i)) (eff i))
  (htail : m < ops.length → Region.sinkB .any ops.toArray m = true ∧ Region.chainB .any ops.toArray m = true)
  (hend : ∀ listed seq a w, Inv io w0 ops m σ0 eff listed seq a w → seq.length = m → wpAny P .any ops.toArray Q g listed a w) :
  ∀ (f : Nat) (listed : Array Bool) (seq : List Nat) (a : Act) (w : World), f + seq.length = m → Inv io w0 ops m σ0 eff listed seq a w → wpAny P .any ops.toArray Q (f + g) listed a w
 | 0, listed, seq, a, w, hf, hI => by
  rw [Nat.zero_add]
  exact hend listed seq a w hI (by omega)
 | f + 1, listed, seq, a, w, hf, hI => by
  have hsz : listed.size = ops.length := by have := hI.head.size; simpa using this
  -- some operation of the head is open
  obtain ⟨i0, hi0, hun0, hpre0⟩ : ∃ i, i < m ∧ listed.getD i false = false ∧ ∀ k, k < i → listed.getD k false = true := by
   have hex : ∃ i, i < m ∧ listed.getD i false = false := by
    apply Classical.byContradiction
    intro hno
    have hall : ∀ i, i < m → i ∈ seq := fun i hi => by
     rw [← hI.mem i (by omega)]
     cases h : listed.getD i false with
     | true => rfl
     | false => exact absurd ⟨i, hi, h⟩ hno
    have := range_le m seq hall
    omega
   obtain ⟨i, hi⟩ := hex
   induction i using Nat.strongRecOn with
   | _ i ih =>
    by_cases h : ∃ k, k < i ∧ listed.getD k false = false
    ·obtain ⟨k, hk, hk2⟩ := h
     exact ih k hk ⟨by omega, hk2⟩
    ·refine ⟨i, hi.1, hi.2, fun k hk => ?_⟩
     cases h2 : listed.getD k false with
     | true => rfl
     | false => exact absurd ⟨k, hk, h2⟩ h
  have hi0s : i0 < listed.size := by omega
  have hready0 : i0 ∈ Region.ready .any ops.toArray listed := by
   rw [mem_ready]
   refine ⟨by rw [getD_bool hi0s]; exact hun0, ?_⟩
   have hlt : i0 < ops.length := by omega
   refine ⟨ops[i0], by simp [hlt], fun e he hb => ?_⟩
   exact hpre0 _ (hD.fwd i0 hlt e.on (mem_preds.2 ⟨_, by simp [hlt], e, he, hb, rfl⟩))
  rw [show f + 1 + g = (f + g) + 1 from by omega]
  refine ⟨(fun h0 => by rw [h0] at hready0; cases hready0), fun i hi => ?_⟩
  obtain ⟨hun, oi, hoi, hall⟩ := mem_ready.1 hi
  have hoi' : ops[i]? = some oi := by rw [List.getElem?_toArray] at hoi; exact hoi
  have hilt : i < ops.length := (List.getElem?_eq_some_iff.1 hoi').1
  have him : i < m := by
   rcases Nat.lt_or_ge i m with h | h
   ·exact h
   ·have hml : m < ops.length := by omega
    obtain ⟨hs, hc⟩ := htail hml
    exact absurd hi (tail_waits hs hc (by simpa using hml) hI.head (m - i0) i0 rfl hi0 (by rw [getD_bool hi0s]; exact hun0) i h)
  have hins : i ∉ seq := fun hm' => by
   have := (hI.mem i hilt).2 hm'
   rw [← getD_bool (by omega)] at this
   rw [this] at hun
   cases hun
  have hclosed : ∀ j, j ∈ seq → ∀ k ∈ predsOf ops j, k ∈ seq := by
   intro j hj k hk
   obtain ⟨oj, hoj, e, he, hb, rfl⟩ := mem_preds.1 hk
   have hjl : j < ops.length := (List.getElem?_eq_some_iff.1 hoj).1
   have h1 := hI.head.closed j oj (by rw [List.getElem?_toArray]; exact hoj) ((hI.mem j hjl).2 hj) e he hb
   exact (hI.mem e.on (Nat.lt_trans (hD.fwd j hjl e.on hk) hjl)).1 h1
  have hpreds : ∀ k ∈ predsOf ops i, k ∈ seq := by
   intro k hk
   obtain ⟨oj, hoj, e, he, hb, rfl⟩ := mem_preds.1 hk
   have : oj = oi := Option.some.inj (hoj.symm.trans hoi')
   subst this
   exact (hI.mem e.on (Nat.lt_trans (hD.fwd i hilt e.on hk) hilt)).1 (hall e he hb)
  have hclo : ∀ k ∈ clo ops ops.length i, k ∈ seq := clo_sub (S := fun k => k ∈ seq) hclosed _ i hpreds
  have hcloj : ∀ j ∈ seq, ∀ k ∈ clo ops ops.length j, k ∈ seq := fun j hj => clo_sub (S := fun k => k ∈ seq) hclosed _ j (hclosed j hj)
  have hback : ∀ j, j < ops.length → ∀ k ∈ clo ops ops.length j, k < j := fun j hj => clo_sub (S := fun k => k < j) (fun k hk l hl => Nat.lt_trans (hD.fwd k (by omega) l hl) hk) _ j (hD.fwd j hj)
  have hclom : ∀ k ∈ clo ops ops.length i, k < m := fun k hk => Nat.lt_trans (hback i hilt k hk) him
  obtain ⟨o, ho, hdst, hop⟩ := hH i him
  have : o = oi := Option.some.inj (ho.symm.trans hoi')
  subst this
  have hA : AgreeG ops o (sq σ0 eff (clo ops ops.length i)) (sq σ0 eff seq) := by
   refine ⟨fun t ht => ?_, fun id b hb => ?_, by rw [sq_regs, sq_regs]⟩
   ·have r1 := sq_reg hE (t := t) hI.lt
    have r2 := sq_reg hE (t := t) hclom
    by_cases hx : ∃ j, j < m ∧ (eff j).dst = some t
    ·obtain ⟨j, hj, hjd⟩ := hx
     obtain ⟨oj, hoj, hdj, _⟩ := hH j hj
     by_cases hjs : j ∈ seq
     ·rw [r1.1 j hjs hjd]
      by_cases hjc : j ∈ clo ops ops.length i
      ·rw [r2.1 j hjc hjd]
      ·exfalso
       rcases hD.uses i j o oj him hj ho hoj t (by rw [← hdj]; exact hjd) ht with h | h | h
       ·subst h; exact hins hjs
       ·exact hjc h
       ·exact hins (hcloj j hjs i h)
     ·have hjc : j ∉ clo ops ops.length i := fun h => hjs (hclo j h)
      have u : ∀ (L : List Nat), (∀ k ∈ L, k < m) → j ∉ L → ∀ k ∈ L, (eff k).dst ≠ some t := fun L hL hjL k hk hkd => hjL (by rw [hE.one j k hj (hL k hk) t hjd hkd]; exact hk)
      rw [r1.2 (u seq hI.lt hjs), r2.2 (u _ hclom hjc)]
    ·have u : ∀ (L : List Nat), (∀ k ∈ L, k < m) → ∀ k ∈ L, (eff k).dst ≠ some t := fun L hL k hk hkd => hx ⟨k, hL k hk, hkd⟩
     rw [r1.2 (u seq hI.lt), r2.2 (u _ hclom)]
   ·have r1 := sq_own hE (id := id) hI.lt
    have r2 := sq_own hE (id := id) hclom
    by_cases hx : ∃ j ∈ clo ops ops.length i, ∃ b', look (eff j).ad id = some b'
    ·obtain ⟨j, hj, b', hb'⟩ := hx
     rw [r2.1 j hj b' hb'] at hb
     rw [r1.1 j (hclo j hj) b' hb']
     exact hb
    ·have hn : ∀ j ∈ clo ops ops.length i, look (eff j).ad id = none := fun j hj => by
      cases h : look (eff j).ad id with
      | none => rfl
      | some b' => exact absurd ⟨j, hj, b', h⟩ hx
     rw [r2.2 hn] at hb
     have hn1 : ∀ j ∈ seq, look (eff j).ad id = none := fun j hj => by
      cases h : look (eff j).ad id with
      | none => rfl
      | some b' =>
       have := hE.fresh j (hI.lt j hj) id b' h
       rw [hb] at this
       cases this
     rw [r1.2 hn1]
     exact hb
  have hfr : ∀ p ∈ (eff i).ad, look (sq σ0 eff seq).own p.1 = none := by
   intro p hp
   have hsome : ∃ b, look (eff i).ad p.1 = some b := look_of_mem hp
   obtain ⟨b, hb⟩ := hsome
   have r1 := sq_own hE (id := p.1) hI.lt
   rw [r1.2 (fun j hj => by
    cases h : look (eff j).ad p.1 with
    | none => rfl
    | some b' => exact absurd (hE.ids i j him (hI.lt j hj) p.1 b b' hb h) (fun e => hins (e ▸ hj)))]
   exact hE.fresh i him p.1 b hb
  refine hop (sq σ0 eff seq) hA hfr io w0 a w _ _ hI.rel (fun a' w' hr => ?_)
  refine wpAny_draw hm hD hE hH htail hend f (listed.setIfInBounds i true) (i :: seq) a' w' (by simp only [List.length_cons]; omega) ⟨hI.head.set hi him, fun j hj => ?_, fun j hj => ?_, List.nodup_cons.2 ⟨hins, hI.nodup⟩, hr⟩
  ·by_cases hij : i = j
   ·subst hij
    simp [hsz, hj]
   ·rw [getD_set_ne false hij, hI.mem j hj, List.mem_cons]
    exact ⟨.inr, fun h => h.resolve_left (fun e => hij e.symm)⟩
  ·rcases List.mem_cons.1 hj with rfl | hj
   ·exact him
   ·exact hI.lt j hj
where
 look_of_mem {β : Type} : ∀ {l : List (Nat × β)} {p : Nat × β}, p ∈ l → ∃ b, look l p.1 = some b
  | [], p, h => by cases h
  | (k, v) :: r, p, h => by
   unfold look
   cases hk : (k == p.1) with
   | true => exact ⟨v, rfl⟩
   | false =>
    rcases List.mem_cons.1 h with rfl | h
    ·simp at hk
    ·exact look_of_mem h
end Go.Eng

set_option linter.unusedVariables false
set_option linter.unusedSimpArgs false
namespace Go.Eng
variable {N : Names} {P : Program} {τ : TypeId → Option TI} {β : Type}
def isE (o : Oper) : Bool := match o.op with
 | .move _ => true
 | .assign _ => true
 | .load _ _ => true
 | .nilCheck _ => true
 | .binOp .. => true
 | .unOp .. => true
 | .convert .. => true
 | .slice .. => true
 | .pick .. => true
 | .alloc _ => true
 | .build .. => true
 | .buildSlice .. => true
 | .makeSlice .. => true
 | .fieldAddr .. => true
 | .field .. => true
 | .indexAddr .. => true
 | .index .. => true
 | .extract .. => true
 | .call c => match c.callee with
  | .value _ => true
  | .builtin .len => true
  | .builtin .min => true
  | .builtin .max => true
  | _ => false
 | _ => false
def headLen : List Oper → Nat
 | [] => 0
 | o :: r => bif isE o then headLen r + 1 else 0
def allLt (f : Nat → Bool) : Nat → Bool
 | 0 => true
 | n + 1 => f n && allLt f n
theorem allLt_spec {f : Nat → Bool} : ∀ {n : Nat}, allLt f n = true → ∀ i, i < n → f i = true
 | 0, _, i, hi => by omega
 | n + 1, h, i, hi => by
  simp only [allLt, Bool.and_eq_true] at h
  rcases Nat.lt_or_ge i n with h' | h'
  ·exact allLt_spec h.2 i h'
  ·rw [show i = n from by omega]
   exact h.1
def fwdOk (ops : List Oper) : Bool := allLt (fun i => (predsOf ops i).all fun k => Nat.blt k i) ops.length
def usesOk (ops : List Oper) (m : Nat) : Bool := allLt (fun i => allLt (fun j => match ops[i]?, ops[j]? with
 | some o, some o' => match o'.dst with
  | some d => !(usesG ops o).contains d || (Nat.beq i j || ((clo ops ops.length i).contains j || (clo ops ops.length j).contains i))
  | none => true
 | _, _ => true) m) m
def canon (n m : Nat) : Array Bool := (List.replicate m true ++ List.replicate (n - m) false).toArray
def statOk (ops : List Oper) (m : Nat) : Bool :=
 fwdOk ops && usesOk ops m && (Nat.beq m ops.length || (Region.sinkB .any ops.toArray m && Region.chainB .any ops.toArray m)) && Region.seqB .any ops.toArray (ops.length - m) m (canon ops.length m)
def effDsts : List (Eff N) → List Nat
 | [] => []
 | e :: r => match e.dst with
  | some d => d :: effDsts r
  | none => effDsts r
def effIds : List (Eff N) → List Nat
 | [] => []
 | e :: r => e.ad.map (·.1) ++ effIds r
def effsChk (σ0 : St N) (effs : List (Eff N)) : Bool :=
 (effDsts effs).all (fun d => Nat.blt d σ0.regs.length) && nodupB (effDsts effs) && nodupB (effIds effs) && freshIds σ0.own (effIds effs)
def downTo : Nat → List Nat
 | 0 => []
 | n + 1 => n :: downTo n
def effAt (effs : List (Eff N)) (j : Nat) : Eff N := effs.getD j ⟨none, .tup [], []⟩
def drawHeadC (τ : TypeId → Option TI) (Φ : FuncId → Option (Spec N)) (ops : List Oper) (σ0 : St N) : List Oper → List (Eff N) → St N → (List (Eff N) → Option β) → Option β
 | [], effs, _, k => k effs
 | o :: rest, effs, cur, k =>
  drawHead.drawOne τ Φ ops (bif Nat.beq (clo ops ops.length effs.length).length effs.length then cur else sq σ0 (effAt effs) (clo ops ops.length effs.length)) o fun s ad => splitB (asked effs.length ops) s fun s => drawHeadC τ Φ ops σ0 rest (effs ++ [⟨o.dst, s, ad⟩]) (applyE cur ⟨o.dst, s, ad⟩) k
def execDraw (τ : TypeId → Option TI) (Φ : FuncId → Option (Spec N)) (ops : List Oper) (m : Nat) (σ0 : St N) (k : St N → Option β) : Option β :=
 bif statOk ops (m) then
  drawHeadC τ Φ ops σ0 (ops.take (m)) [] σ0 fun effs =>
   bif effsChk σ0 effs then execOps τ Φ ops (ops.drop (m)) (sq σ0 (effAt effs) (downTo (m))) k else none
 else none
theorem mem_downTo {n i : Nat} : i ∈ downTo n ↔ i < n := by
 induction n with
 | zero => simp [downTo]
 | succ n ih => simp only [downTo, List.mem_cons, ih]; omega
def tailFrom (ops : List Oper) : Nat → Nat
 | 0 => 0
 | t + 1 => bif Nat.beq (clo ops ops.length t).length t then tailFrom ops t else t + 1
def headLenT (ops : List Oper) : Nat := Nat.min (headLen ops) (tailFrom ops ops.length)
theorem headLen_le : ∀ (ops : List Oper), headLen ops ≤ ops.length
 | [] => Nat.le_refl _
 | o :: r => by
  unfold headLen
  cases isE o with
  | true => simpa using headLen_le r
  | false => simp
theorem drawOk_of {ops : List Oper} {m : Nat} (h1 : fwdOk ops = true) (h2 : usesOk ops m = true) : DrawOk ops m := by
 refine ⟨fun i hi k hk => ?_, fun i j o o' hi hj ho ho' d hd hu => ?_⟩
 ·have := allLt_spec h1 i hi
  exact Nat.le_of_ble_eq_true (List.all_eq_true.1 this k hk)
 ·have := allLt_spec (allLt_spec h2 i hi) j hj
  simp only [ho, ho', hd, Bool.or_eq_true, Bool.not_eq_true'] at this
  rcases this with h | h | h | h
  ·exact absurd hu (contains_false h)
  ·exact .inl (Nat.eq_of_beq_eq_true h)
  ·exact .inr (.inl (List.contains_iff_mem.1 h))
  ·exact .inr (.inr (List.contains_iff_mem.1 h))
theorem nodup_get {α : Type} {f : α → List Nat} : ∀ {l : List α}, (l.flatMap f).Nodup → ∀ (i j : Nat) x y, l[i]? = some x → l[j]? = some y → ∀ k, k ∈ f x → k ∈ f y → i = j
 | [], _, i, j, x, y, hi, hj, k, hx, hy => by simp at hi
 | a :: l, h, i, j, x, y, hi, hj, k, hx, hy => by
  rw [List.flatMap_cons, List.nodup_append] at h
  cases i with
  | zero =>
   simp only [List.getElem?_cons_zero, Option.some.injEq] at hi
   subst hi
   cases j with
   | zero => rfl
   | succ j =>
    have hj : l[j]? = some y := by simpa using hj
    exact absurd rfl (h.2.2 k hx k (List.mem_flatMap.2 ⟨y, List.mem_of_getElem? hj, hy⟩))
  | succ i =>
   have hi : l[i]? = some x := by simpa using hi
   cases j with
   | zero =>
    simp only [List.getElem?_cons_zero, Option.some.injEq] at hj
    subst hj
    exact absurd rfl (h.2.2 k hy k (List.mem_flatMap.2 ⟨x, List.mem_of_getElem? hi, hx⟩))
   | succ j =>
    have hj : l[j]? = some y := by simpa using hj
    rw [nodup_get h.2.1 i j x y hi hj k hx hy]
theorem effDsts_eq : ∀ (effs : List (Eff N)), effDsts effs = effs.flatMap (fun e => e.dst.toList)
 | [] => rfl
 | e :: r => by
  unfold effDsts
  cases h : e.dst <;> simp [List.flatMap_cons, effDsts_eq r, h]
theorem effIds_eq : ∀ (effs : List (Eff N)), effIds effs = effs.flatMap (fun e => e.ad.map (·.1))
 | [] => rfl
 | e :: r => by simp [effIds, List.flatMap_cons, effIds_eq r]
theorem effAt_get {effs : List (Eff N)} {j : Nat} (h : j < effs.length) : effs[j]? = some (effAt effs j) := by
 unfold effAt
 rw [List.getD_eq_getElem?_getD, List.getElem?_eq_getElem h]
 rfl
theorem effsOk_of {σ0 : St N} {effs : List (Eff N)} (h : effsChk σ0 effs = true) : EffsOk σ0 (effAt effs) effs.length := by
 simp only [effsChk, Bool.and_eq_true] at h
 obtain ⟨⟨⟨h1, h2⟩, h3⟩, h4⟩ := h
 have h2 := nodupB_spec h2
 have h3 := nodupB_spec h3
 have h4 := freshIds_spec h4
 rw [effDsts_eq] at h1 h2
 rw [effIds_eq] at h3 h4
 refine ⟨fun j hj d hd => ?_, fun i j hi hj d h5 h6 => ?_, fun i j hi hj id b b' h5 h6 => ?_, fun j hj id b hb => ?_⟩
 ·exact Nat.le_of_ble_eq_true (List.all_eq_true.1 h1 d (List.mem_flatMap.2 ⟨_, List.mem_of_getElem? (effAt_get hj), by rw [hd]; simp⟩))
 ·exact nodup_get h2 i j _ _ (effAt_get hi) (effAt_get hj) d (by rw [h5]; simp) (by rw [h6]; simp)
 ·exact nodup_get h3 i j _ _ (effAt_get hi) (effAt_get hj) id (List.mem_map.2 ⟨_, look_mem h5, rfl⟩) (List.mem_map.2 ⟨_, look_mem h6, rfl⟩)
 ·exact h4 id (List.mem_flatMap.2 ⟨_, List.mem_of_getElem? (effAt_get hj), List.mem_map.2 ⟨_, look_mem hb, rfl⟩⟩)
theorem sq_congr {σ0 : St N} {eff eff' : Nat → Eff N} : ∀ {L : List Nat}, (∀ j ∈ L, eff j = eff' j) → sq σ0 eff L = sq σ0 eff' L
 | [], _ => rfl
 | j :: L, h => by
  rw [sq, sq, h j List.mem_cons_self, sq_congr (fun k hk => h k (List.mem_cons_of_mem _ hk))]
theorem bitsDown_le (m : Nat) : ∀ n, (bitsDown m n).length ≤ n
 | 0 => Nat.le_refl _
 | n + 1 => by
  unfold bitsDown
  cases m.testBit n with
  | true => simpa using bitsDown_le m n
  | false => exact Nat.le_succ_of_le (bitsDown_le m n)
theorem bitsDown_all {m : Nat} : ∀ {n : Nat}, (bitsDown m n).length = n → bitsDown m n = downTo n
 | 0, _ => rfl
 | n + 1, h => by
  unfold bitsDown at h ⊢
  cases hb : m.testBit n with
  | true =>
   rw [hb, cond_true, List.length_cons] at h
   rw [cond_true, bitsDown_all (Nat.succ.inj h)]
   rfl
  | false =>
   rw [hb, cond_false] at h
   have := bitsDown_le m n
   omega
theorem drawHeadC_eq {τ : TypeId → Option TI} {Φ : FuncId → Option (Spec N)} {ops : List Oper} {σ0 : St N} : ∀ (todo : List Oper) (effs : List (Eff N)) (cur : St N) (k : List (Eff N) → Option β), cur = sq σ0 (effAt effs) (downTo effs.length) →
  drawHeadC τ Φ ops σ0 todo effs cur k = drawHead τ Φ ops σ0 todo effs k
 | [], effs, cur, k, _ => rfl
 | o :: rest, effs, cur, k, hc => by
  unfold drawHeadC drawHead
  have e1 : (bif Nat.beq (clo ops ops.length effs.length).length effs.length then cur else sq σ0 (effAt effs) (clo ops ops.length effs.length)) = sq σ0 (effAt effs) (clo ops ops.length effs.length) := by
   cases hb : Nat.beq (clo ops ops.length effs.length).length effs.length with
   | false => rfl
   | true =>
    rw [cond_true, hc]
    congr 1
    exact (bitsDown_all (Nat.eq_of_beq_eq_true hb)).symm
  rw [e1]
  have e2 : ∀ (s : Slot N) (ad : List (Nat × Blk N)), drawHeadC τ Φ ops σ0 rest (effs ++ [⟨o.dst, s, ad⟩]) (applyE cur ⟨o.dst, s, ad⟩) k = drawHead τ Φ ops σ0 rest (effs ++ [⟨o.dst, s, ad⟩]) k := fun s ad => by
   refine drawHeadC_eq rest _ _ k ?_
   rw [List.length_append, List.length_singleton]
   have hnew : effAt (effs ++ [⟨o.dst, s, ad⟩]) effs.length = ⟨o.dst, s, ad⟩ := by
    unfold effAt
    rw [List.getD_eq_getElem?_getD, List.getElem?_append_right (Nat.le_refl _)]
    simp
   show _ = applyE (sq σ0 _ (downTo effs.length)) (effAt _ effs.length)
   rw [hnew, hc]
   congr 1
   refine sq_congr (fun j hj => ?_)
   have hj := mem_downTo.1 hj
   unfold effAt
   rw [List.getD_eq_getElem?_getD, List.getD_eq_getElem?_getD, List.getElem?_append_left hj]
  simp only [e2]
  rfl
theorem drawHead_sound (F : Fits P N τ) {Φ : FuncId → Option (Spec N)} (hΦ : ∀ f S, Φ f = some S → Good P (f % 1000000) S) {ops : List Oper} (hfwd : ∀ i, i < ops.length → ∀ k ∈ clo ops ops.length i, k < i) {σ0 : St N} {r : β} : ∀ (todo : List Oper) (effs : List (Eff N)) (k : List (Eff N) → Option β),
  (∀ j, todo[j]? = none ∨ todo[j]? = ops[effs.length + j]?) → drawHead τ Φ ops σ0 todo effs k = some r →
  (∀ i, i < effs.length → ∃ o, ops[i]? = some o ∧ HeadOp P ops i o (sq σ0 (effAt effs) (clo ops ops.length i)) (effAt effs i)) →
  ∃ all : List (Eff N), k all = some r ∧ all.length = effs.length + todo.length ∧ ∀ i, i < all.length → ∃ o, ops[i]? = some o ∧ HeadOp P ops i o (sq σ0 (effAt all) (clo ops ops.length i)) (effAt all i)
 | [], effs, k, ht, h, hH => ⟨effs, h, rfl, hH⟩
 | o :: rest, effs, k, ht, h, hH => by
  have ho : ops[effs.length]? = some o := by
   rcases ht 0 with h0 | h0
   ·simp at h0
   ·simpa using h0.symm
  have hl : effs.length < ops.length := (List.getElem?_eq_some_iff.1 ho).1
  unfold drawHead at h
  obtain ⟨s, ad, h1, h2, h3, _⟩ := drawOne_sound F hΦ ho h
  rw [splitB_eq] at h1
  have hold : ∀ j, j < effs.length → effAt (effs ++ [⟨o.dst, s, ad⟩]) j = effAt effs j := fun j hj => by
   unfold effAt
   rw [List.getD_eq_getElem?_getD, List.getD_eq_getElem?_getD, List.getElem?_append_left hj]
  have hnew : effAt (effs ++ [⟨o.dst, s, ad⟩]) effs.length = ⟨o.dst, s, ad⟩ := by
   unfold effAt
   rw [List.getD_eq_getElem?_getD, List.getElem?_append_right (Nat.le_refl _)]
   simp
  obtain ⟨all, a1, a2, a3⟩ := drawHead_sound F hΦ hfwd rest (effs ++ [⟨o.dst, s, ad⟩]) k (fun j => by
   have := ht (j + 1)
   simp only [List.getElem?_cons_succ] at this
   rcases this with h | h
   ·exact .inl h
   ·exact .inr (by rw [h]; congr 1; simp; omega)) h1 (fun i hi => by
   rw [List.length_append, List.length_singleton] at hi
   rcases Nat.lt_or_ge i effs.length with h' | h'
   ·obtain ⟨oi, o1, o2⟩ := hH i h'
    refine ⟨oi, o1, ?_⟩
    rw [hold i h', sq_congr (fun j hj => hold j (Nat.lt_trans (hfwd i (by omega) j hj) h'))]
    exact o2
   ·have hi' : i = effs.length := by omega
    subst hi'
    refine ⟨o, ho, ?_⟩
    rw [hnew, sq_congr (fun j hj => hold j (hfwd _ hl j hj))]
    exact h3)
  exact ⟨all, a1, by rw [a2]; simp; omega, a3⟩
theorem Ext.drawn (w : World) : Ext w { w with drawn := w.drawn + 1 } := ⟨rfl, rfl, rfl, Nat.le_refl _, fun _ _ => rfl⟩
theorem execDraw_sound (F : Fits P N τ) {Φ : FuncId → Option (Spec N)} (hΦ : ∀ f S, Φ f = some S → Good P (f % 1000000) S) (hm : P.follows .mixedOrders = true) {ops : List Oper} {k : St N → Option β} {r : β} {io : Io} {w0 : World} {Q : Exit → Act → World → Prop}
  (hk : ∀ σ a w, k σ = some r → Rel io w0 σ a w → Q .normal a w) {σ : St N} {m : Nat} (hm' : m ≤ ops.length) (h : execDraw τ Φ ops m σ k = some r) {a : Act} {w : World} (hr : Rel io w0 σ a w) {id : Nat} : (Code.region id ops.toArray true).wp P Q a w := by
 unfold execDraw at h
 simp only [drawHeadC_eq (σ0 := σ) _ _ _ _ (show σ = sq σ (effAt ([] : List (Eff N))) (downTo 0) from rfl)] at h
 obtain ⟨hst, h⟩ := bif_none h
 simp only [statOk, Bool.and_eq_true, Bool.or_eq_true] at hst
 obtain ⟨⟨⟨s1, s2⟩, s3⟩, s4⟩ := hst
 have hD := drawOk_of s1 s2
 have hfwd : ∀ i, i < ops.length → ∀ k ∈ clo ops ops.length i, k < i := fun j hj => clo_sub (S := fun k => k < j) (fun k hk l hl => Nat.lt_trans (hD.fwd k (by omega) l hl) hk) _ j (hD.fwd j hj)
 obtain ⟨all, h1, h2, h3⟩ := drawHead_sound F hΦ hfwd (ops.take m) [] _ (fun j => by
  rw [List.getElem?_take]
  split
  ·exact .inr (by simp)
  ·exact .inl rfl) h (fun i hi => by cases hi)
 have hlen : all.length = m := by rw [h2]; simp; omega
 obtain ⟨hc, h1⟩ := bif_none h1
 have hE := effsOk_of hc
 rw [hlen] at hE h3
 have hr' : Rel io w0 σ a { w with drawn := w.drawn + 1 } := by
  obtain ⟨E, hE'⟩ := hr
  exact ⟨E, hE'.ext (Ext.drawn w)⟩
 refine wp_region_any hm ?_
 have hsz : ops.toArray.size = m + (ops.length - m) := by simp; omega
 rw [hsz]
 refine wpAny_draw (σ0 := σ) (eff := effAt all) hm' hD hE h3 (fun hlt => ?_) ?_ m _ [] a _ (by simp) ⟨⟨by simp; omega, fun j oj _ hl => (by rw [getD_replicate_false] at hl; cases hl), fun t _ ht => getD_in (by simp at ht ⊢; omega) (getD_replicate_false _ _)⟩, fun j hj => ?_, (fun j hj => by cases hj), List.nodup_nil, hr'⟩
 ·rcases s3 with s3 | s3
  ·have := Nat.eq_of_beq_eq_true s3
   omega
  ·exact s3
 ·-- the head is done
  intro listed seq a w hI hl
  have hall : ∀ j, j < m → j ∈ seq := by
   intro j hj
   apply Classical.byContradiction
   intro hn
   have h5 : ∀ m (l : List Nat), l.Nodup → (∀ x ∈ l, x < m) → j < m → j ∉ l → l.length < m := by
    intro m l hnd hlt hjm hjl
    have h6 : (j :: l).Nodup := List.nodup_cons.2 ⟨hjl, hnd⟩
    have h7 := nodup_le m (j :: l) h6 (fun x hx => by
     rcases List.mem_cons.1 hx with rfl | hx
     ·exact hjm
     ·exact hlt x hx)
    simp only [List.length_cons] at h7
    omega
   have := h5 _ seq hI.nodup hI.lt hj hn
   omega
  have hrel : Rel io w0 (sq σ (effAt all) (downTo m)) a w := by
   obtain ⟨E, hE'⟩ := hI.rel
   have hdl : ∀ j ∈ downTo m, j < m := fun j hj => mem_downTo.1 hj
   refine ⟨E, hE'.same (by rw [sq_regs, sq_regs]) (fun t => ?_) (fun id => ?_)⟩
   ·have r1 := sq_reg hE (t := t) hI.lt
    have r2 := sq_reg hE (t := t) hdl
    by_cases hx : ∃ j, j < m ∧ (effAt all j).dst = some t
    ·obtain ⟨j, hj, hjd⟩ := hx
     rw [r1.1 j (hall j hj) hjd, r2.1 j (mem_downTo.2 hj) hjd]
    ·rw [r1.2 (fun j hj hjd => hx ⟨j, hI.lt j hj, hjd⟩), r2.2 (fun j hj hjd => hx ⟨j, hdl j hj, hjd⟩)]
   ·have r1 := sq_own hE (id := id) hI.lt
    have r2 := sq_own hE (id := id) hdl
    by_cases hx : ∃ j, j < m ∧ ∃ b, look (effAt all j).ad id = some b
    ·obtain ⟨j, hj, b, hb⟩ := hx
     rw [r1.1 j (hall j hj) b hb, r2.1 j (mem_downTo.2 hj) b hb]
    ·have hn : ∀ j, j < m → look (effAt all j).ad id = none := fun j hj => by
      cases h : look (effAt all j).ad id with
      | none => rfl
      | some b => exact absurd ⟨j, hj, b, h⟩ hx
     rw [r1.2 (fun j hj => hn j (hI.lt j hj)), r2.2 (fun j hj => hn j (hdl j hj))]
  have hlst : listed = canon ops.length m := by
   have hs1 : listed.size = ops.length := by have := hI.head.size; simpa using this
   apply Array.ext
   ·rw [hs1]; simp [canon]; omega
   ·intro j hj1 hj2
    have hj : j < ops.length := by omega
    have hg : listed.getD j false = listed[j] := by simp [hj1]
    have hmem := hI.mem j hj
    rw [hg] at hmem
    rcases Nat.lt_or_ge j m with h' | h'
    ·rw [hmem.2 (hall j h')]
     simp [canon, List.getElem_append, h']
    ·have : listed[j] = false := by
      cases hv : listed[j] with
      | false => rfl
      | true =>
       have := hI.lt j (hmem.1 hv)
       omega
     rw [this]
     simp only [canon, List.getElem_toArray, List.getElem_append, List.length_replicate]
     rw [dif_neg (by omega)]
     simp
  have hlst2 := execOps_sound (ops := ops) (Q := Q) F hΦ hk (ops.drop m) _ h1 a w hrel
  have := wpAny_of_seq (P := P) (md := .any) (ops := ops.toArray) (Q' := Q) (ops.drop m) m listed a w (fun j => by simp) (by rw [hlst, List.length_drop]; exact s4) hlst2
  rw [List.length_drop] at this
  exact this
 ·rw [getD_replicate_false]
  simp
where
 nodup_le : ∀ (m : Nat) (l : List Nat), l.Nodup → (∀ x ∈ l, x < m) → l.length ≤ m
  | 0, l, _, h => by
   cases l with
   | nil => exact Nat.le_refl _
   | cons x r => have := h x List.mem_cons_self; omega
  | m + 1, l, hn, h => by
   have h1 := nodup_le m (l.erase m) (hn.erase m) (fun x hx => by
    have h2 := h x (List.mem_of_mem_erase hx)
    have h3 : x ≠ m := fun e => by
     subst e
     exact (List.Nodup.not_mem_erase hn) hx
    omega)
   have h4 := List.length_erase_le (a := m) (l := l)
   by_cases hm : m ∈ l
   ·rw [List.length_erase_of_mem hm] at h1
    omega
   ·rw [List.erase_of_not_mem hm] at h1
    omega
end Go.Eng
