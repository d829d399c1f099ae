/- The engine, part V: what a call leaves behind. -/
import Derived.Test.YtgfklnmckakclaaGreatDoorEngU
set_option linter.unusedVariables false
set_option linter.unusedSimpArgs false
namespace Go.Eng
variable {N : Names} {io : Io} {w0 w w' : World} {σ : St N} {E : Env} {a : Act} {P : Program}

theorem mem_oneBlk {v : Value} {g : Nat} : g ∈ oneBlk v ↔ blkOf v = some g := by
  unfold oneBlk
  cases blkOf v with
  | none => simp
  | some b =>
    simp only [Option.toList, List.mem_singleton, Option.some.injEq]
    exact eq_comm

def valOf : List (Ent N) → Nat → Value
  | [], _ => .tuple #[]
  | e :: l, i => if e.1 = i then e.2.2 else valOf l i

theorem ent_look : ∀ {L : List (Ent N)}, (L.map (·.1)).Nodup → ∀ e ∈ L, look (L.map Ent.two) e.1 = some e.2.1 ∧ valOf L e.1 = e.2.2
  | [], _, e, he => by cases he
  | x :: L, hn, e, he => by
    rw [List.map_cons, List.nodup_cons] at hn
    rcases List.mem_cons.1 he with rfl | he
    · exact ⟨by simp [look, Ent.two], by simp [valOf]⟩
    · have hne : x.1 ≠ e.1 := fun h => hn.1 (List.mem_map.2 ⟨e, he, h.symm⟩)
      obtain ⟨h1, h2⟩ := ent_look hn.2 e he
      have : (x.1 == e.1) = false := by simpa using hne
      exact ⟨by simp only [List.map_cons, look, Ent.two, this, cond_false]; exact h1, by simp only [valOf, if_neg hne]; exact h2⟩

theorem look_ent : ∀ {L : List (Ent N)} {i : Nat} {b : Blk N}, look (L.map Ent.two) i = some b → ∃ e ∈ L, e.1 = i ∧ e.2.1 = b
  | [], _, _, h => by cases h
  | x :: L, i, b, h => by
    simp only [List.map_cons, look, Ent.two] at h
    cases hx : (x.1 == i) with
    | true =>
      rw [hx] at h
      cases h
      exact ⟨x, List.mem_cons_self, by simpa using hx, rfl⟩
    | false =>
      rw [hx] at h
      obtain ⟨e, he, h1, h2⟩ := look_ent (L := L) h
      exact ⟨e, List.mem_cons_of_mem _ he, h1, h2⟩

theorem ent_sep : ∀ {L : List (Ent N)}, (L.flatMap fun e => oneBlk e.2.2).Nodup → ∀ e ∈ L, ∀ e' ∈ L, e.1 ≠ e'.1 → ∀ g, blkOf e.2.2 = some g → blkOf e'.2.2 ≠ some g
  | [], _, e, he, _, _, _, _, _ => by cases he
  | x :: L, hn, e, he, e', he', hne, g, hg => by
    rw [List.flatMap_cons, List.nodup_append] at hn
    rcases List.mem_cons.1 he with rfl | he
    · rcases List.mem_cons.1 he' with rfl | he'
      · exact absurd rfl hne
      · intro hg'
        exact hn.2.2 g (mem_oneBlk.2 hg) g (List.mem_flatMap.2 ⟨e', he', mem_oneBlk.2 hg'⟩) rfl
    · rcases List.mem_cons.1 he' with rfl | he'
      · rename_i he2
        intro hg'
        exact hn.2.2 g (mem_oneBlk.2 hg') g (List.mem_flatMap.2 ⟨e, he2, mem_oneBlk.2 hg⟩) rfl
      · exact ent_sep hn.2.1 e he e' he' hne g hg

theorem resIds_ge (d : Nat) : ∀ (rs : List RK) (j : Nat), ∀ i ∈ resIds d rs j, 1000 + d + 10000 * j ≤ i
  | [], _, i, hi => by cases hi
  | .v _ :: rs, j, i, hi => by
    have := resIds_ge d rs (j + 1) i hi
    omega
  | .own _ _ :: rs, j, i, hi => by
    rcases List.mem_cons.1 hi with rfl | hi
    · omega
    · have := resIds_ge d rs (j + 1) i hi
      omega
theorem resIds_nodup (d : Nat) : ∀ (rs : List RK) (j : Nat), (resIds d rs j).Nodup
  | [], _ => List.nodup_nil
  | .v _ :: rs, j => resIds_nodup d rs (j + 1)
  | .own _ _ :: rs, j => List.nodup_cons.2 ⟨fun h => by
      have := resIds_ge d rs (j + 1) _ h
      omega, resIds_nodup d rs (j + 1)⟩

theorem freshIds_spec {own : List (Nat × Blk N)} : ∀ {l : List Nat}, freshIds own l = true → ∀ i ∈ l, look own i = none
  | [], _, i, hi => by cases hi
  | x :: l, h, i, hi => by
    simp only [freshIds, Bool.and_eq_true] at h
    rcases List.mem_cons.1 hi with rfl | hi
    · cases hl : look own i with
      | none => rfl
      | some b => rw [hl] at h; exact absurd h.1 (by simp)
    · exact freshIds_spec h.2 i hi

theorem killD_nil (r : RV N) : killD [] [] r = r := by
  have h1 : ∀ l, meets [] l = false := fun l => by
    unfold meets
    rw [List.any_eq_false]
    intro i _
    simp
  simp [killD, h1]
theorem killDB_nil (b : Blk N) : killDB [] [] b = b := by
  cases b with
  | cells l =>
    simp only [killDB, Blk.map]
    rw [List.map_congr_left (fun r _ => killD_nil r), List.map_id']
  | _ => rfl
theorem slotKill_nil (s : Slot N) : s.map (killD [] []) = s := by
  cases s with
  | one r => simp [Slot.map, killD_nil]
  | tup l =>
    simp only [Slot.map]
    rw [List.map_congr_left (fun r _ => killD_nil r), List.map_id']

theorem havR_eq {D U : List Nat} (hU : D = [] → U = []) (σ : St N) (new : List (Nat × Blk N)) :
    havR D U σ new = { regs := σ.regs.map (Slot.map (killD D U)), own := insAll new (delL D (mapO (killDB D U) σ.own)) } := by
  cases D with
  | nil =>
    rw [hU rfl]
    have h1 : σ.regs.map (Slot.map (killD [] [])) = σ.regs := by rw [List.map_congr_left (fun s _ => slotKill_nil s), List.map_id']
    have h2 : mapO (killDB [] []) σ.own = σ.own := by
      unfold mapO
      rw [List.map_congr_left (g := fun p => p) (fun p _ => by rw [killDB_nil]), List.map_id']
    rw [h1, h2]
    rfl
  | cons i r => rfl

theorem nodup_blks (h : RelE io w0 σ E a w) : ∀ {D : List Nat}, D.Nodup → (∀ id ∈ D, ∃ b, look σ.own id = some b) → (D.flatMap fun id => oneBlk (E id)).Nodup
  | [], _, _ => List.nodup_nil
  | i :: D, hn, hs => by
    rw [List.nodup_cons] at hn
    rw [List.flatMap_cons, List.nodup_append]
    refine ⟨?_, nodup_blks h hn.2 (fun id hid => hs id (List.mem_cons_of_mem _ hid)), ?_⟩
    · unfold oneBlk
      cases blkOf (E i) <;> simp
    · intro g hg g' hg' e
      subst e
      obtain ⟨j, hj, hg2⟩ := List.mem_flatMap.1 hg'
      obtain ⟨bi, hbi⟩ := hs i List.mem_cons_self
      obtain ⟨bj, hbj⟩ := hs j (List.mem_cons_of_mem _ hj)
      exact h.sep i j bi bj hbi hbj (fun e => hn.1 (e ▸ hj)) g (mem_oneBlk.1 hg) (mem_oneBlk.1 hg2)

theorem packRel {l : List (RV N)} {us : List Value} {own : List (Nat × Blk N)} (hl : us.length = l.length) (h : ∀ (i : Nat) r u, l[i]? = some r → us[i]? = some u → RVRel w own E r u) : SlotRel w own E (packS l) (packV us) := by
  match l, us, hl with
  | [], [], _ => exact ⟨[], rfl, rfl, fun i r u hi _ => by simp at hi⟩
  | [r], [u], _ => exact h 0 r u rfl rfl
  | r :: r2 :: l, u :: u2 :: us, hl => exact ⟨u :: u2 :: us, rfl, hl, h⟩

theorem evCall_sound {β ι : Type} {S : Spec N} {f : FuncId} (hg : Good P f S) {σ : St N} {ρ : ι → RV N} {os : List ι} {dst : Option Nat} {k : Slot N → St N → Option β} {r : β} (h : evCall S σ ρ os dst k = some r) :
    ∃ s σ', k s σ' = some r ∧ σ'.regs.length = σ.regs.length ∧ ∀ io w0 E a w (val : ι → Value), RelE io w0 σ E a w → (∀ o ∈ os, RVRel w σ.own E (ρ o) (val o)) → Calls P f (os.map val).toArray w fun e w' => ∃ v E', e = .returned v ∧ RelE io w0 σ' E' a w' ∧ SlotRel w' σ'.own E' s v := by
  unfold evCall at h
  split at h
  · cases h
  · rename_i x B D U hc
    obtain ⟨hcond, h⟩ := bif_none h
    simp only [Bool.and_eq_true, Bool.not_eq_true'] at hcond
    obtain ⟨⟨⟨hD, hDB⟩, hno⟩, hfr⟩ := hcond
    have hD := nodupB_spec hD
    have hDB := meets_false hDB
    obtain ⟨y, hy, hk⟩ := Option.bind_eq_some_iff.1 h
    refine ⟨_, _, hk, ?_, fun io w0 E a w val hr hρ => ?_⟩
    · cases D <;> simp [havR]
    obtain ⟨c1, c2, c3⟩ := callIn_rel hr (B0 := B) S.ps os hρ x B D U hc (fun _ h => h)
    have hcall := hg.calls w (okb w.heap.size σ.own E B) x (os.map val) _ y (fun b hb => hb.1.1) c1 (nodup_blks hr hD c2) (fun g hg => by
      obtain ⟨d, hd, hg2⟩ := List.mem_flatMap.1 hg
      obtain ⟨bd, hbd⟩ := c2 d hd
      refine ⟨fun hok => hok.2 d (by rw [hbd]; rfl) (fun hm => hDB d hm hd) (mem_oneBlk.1 hg2), (hr.blk d bd hbd g (mem_oneBlk.1 hg2)).1⟩) hy
    refine hcall.mono ?_
    rintro e w' ⟨us, bl', rl, rfl, hA⟩
    obtain ⟨L1, a1, a2, a3, a4, a5⟩ := callNew_rel (w' := w') (B := B) hr S.ps os hρ x B D U _ bl' hc hD hA.out
    obtain ⟨L2, b1, b2, b3, b4, b5, b6⟩ := res_rel (w' := w') (B := B) (d := dst.getD 0) S.rs 0 _ us rl hA.res
    have hres := freshIds_spec hfr
    have hids : ((L1 ++ L2).map (·.1)).Nodup := by
      rw [List.map_append, a2, b2, List.nodup_append]
      refine ⟨hD, resIds_nodup _ _ _, fun i hi j hj e => ?_⟩
      subst e
      obtain ⟨b, hb⟩ := c2 i hi
      rw [hres i hj] at hb
      cases hb
    have hnew : (L1 ++ L2).map Ent.two = callNew σ.own ρ B S.ps os (S.out y).2 ++ resNew B (dst.getD 0) S.rs 0 (S.out y).1 := by
      rw [List.map_append, a1, b1]
    have hblks : ((L1 ++ L2).flatMap fun e => oneBlk e.2.2) = bl' ++ rl := by
      rw [List.flatMap_append, ← a3, ← b3]
    have hinD : ∀ e ∈ L1, e.1 ∈ D := fun e he => by rw [← a2]; exact List.mem_map.2 ⟨e, he, rfl⟩
    have hinR : ∀ e ∈ L2, e.1 ∈ resIds (dst.getD 0) S.rs 0 := fun e he => by rw [← b2]; exact List.mem_map.2 ⟨e, he, rfl⟩
    rw [← hnew, havR_eq (D := D) (U := U) (fun e => by
      subst e
      cases U with
      | nil => rfl
      | cons i U => exact absurd (c3 i List.mem_cons_self).1 (by simp))]
    generalize hnw : (L1 ++ L2).map Ent.two = new at *
    have hin : ∀ e ∈ L1 ++ L2, look new e.1 = some e.2.1 ∧ valOf (L1 ++ L2) e.1 = e.2.2 := by
      intro e he
      have := ent_look hids e he
      rw [hnw] at this
      exact this
    have hof : ∀ id b, look new id = some b → ∃ e ∈ L1 ++ L2, e.1 = id ∧ e.2.1 = b ∧ valOf (L1 ++ L2) id = e.2.2 := by
      intro id b hb
      rw [← hnw] at hb
      obtain ⟨e, he, rfl, rfl⟩ := look_ent hb
      exact ⟨e, he, rfl, rfl, (hin e he).2⟩
    have hsep := ent_sep (L := L1 ++ L2) (by rw [hblks]; exact hA.nodup)
    have hold : ∀ g ∈ bl' ++ rl, g < w'.heap.size ∧ ((∃ d ∈ D, (look σ.own d).isSome = true ∧ blkOf (E d) = some g) ∨ w.heap.size ≤ g) := by
      intro g hg
      refine ⟨(hA.old g hg).2, ?_⟩
      rcases (hA.old g hg).1 with h1 | h1
      · obtain ⟨d, hd, hg2⟩ := List.mem_flatMap.1 h1
        obtain ⟨bd, hbd⟩ := c2 d hd
        exact .inl ⟨d, hd, by rw [hbd]; rfl, mem_oneBlk.1 hg2⟩
      · exact .inr h1
    have hN : NewOk σ.own E D U new (valOf (L1 ++ L2)) w w' := by
      refine ⟨?_, ?_, ?_, ?_, fun id hid b hb => (c3 id hid).2 b hb⟩
      · intro id b hb g hg
        obtain ⟨e, he, rfl, rfl, hv⟩ := hof id b hb
        rw [hv] at hg
        exact hold g (by rw [← hblks]; exact List.mem_flatMap.2 ⟨e, he, mem_oneBlk.2 hg⟩)
      · intro id id' b b' hb hb' hne g hg
        obtain ⟨e, he, rfl, rfl, hv⟩ := hof id b hb
        obtain ⟨e', he', rfl, rfl, hv'⟩ := hof id' b' hb'
        rw [hv] at hg
        rw [hv']
        exact hsep e he e' he' hne g hg
      · intro id b hb
        obtain ⟨e, he, rfl, rfl, hv⟩ := hof id b hb
        rcases List.mem_append.1 he with he | he
        · exact .inl (hinD e he)
        · exact .inr (hres _ (hinR e he))
      · intro id hid hU b hb
        rw [← a2] at hid
        obtain ⟨e, he, rfl⟩ := List.mem_map.1 hid
        obtain ⟨h1, h2⟩ := hin e (List.mem_append.2 (.inl he))
        rcases a5 e he with h3 | ⟨b0, h3, h4, h5, h6⟩
        · exact absurd h3 hU
        · rw [hb] at h3
          cases h3
          exact ⟨_, h1, h4, by rw [h2, h5], h6⟩
    have hH : HavocW σ.own E D w w' := by
      refine ⟨hA.kept.os, hA.kept.tape, hA.kept.output, hA.kept.size, fun g hg hd => hA.kept.block g hg (fun hm => ?_)⟩
      obtain ⟨d, hdd, hg2⟩ := List.mem_flatMap.1 hm
      obtain ⟨bd, hbd⟩ := c2 d hdd
      exact hd d hdd (by rw [hbd]; rfl) (mem_oneBlk.1 hg2)
    have hlook : ∀ j, look (insAll new (delL D (mapO (killDB D U) σ.own))) j = match look new j with
        | some b => some b
        | none => if j ∈ D then none else (look σ.own j).map (killDB D U) := by
      intro j
      rw [look_insAll, look_delL, look_mapO]
      cases look new j <;> rfl
    have hst : ∀ e ∈ L1 ++ L2, look (insAll new (delL D (mapO (killDB D U) σ.own))) e.1 = some e.2.1 ∧ envOf E new (valOf (L1 ++ L2)) e.1 = e.2.2 := by
      intro e he
      obtain ⟨h1, h2⟩ := hin e he
      exact ⟨by rw [hlook, h1], by rw [envOf_new h1, h2]⟩
    have hok : ∀ g, okAfter (okb w.heap.size σ.own E B) w w' (D.flatMap fun id => oneBlk (E id)) (bl' ++ rl) g → okb w'.heap.size (insAll new (delL D (mapO (killDB D U) σ.own))) (envOf E new (valOf (L1 ++ L2))) B g := by
      rintro g ⟨g1, g2, g3⟩
      refine ⟨⟨g1, ?_⟩, fun id hid hB => ?_⟩
      · show E.A g
        rcases g2 with g2 | g2 | g2
        · exact g2.1.2
        · obtain ⟨d, hd, hg2⟩ := List.mem_flatMap.1 g2
          obtain ⟨bd, hbd⟩ := c2 d hd
          rw [hr.sc]
          exact hr.nw g (hr.blk d bd hbd g (mem_oneBlk.1 hg2)).2
        · rw [hr.sc]
          exact hr.nw g (.inl (Nat.le_trans hr.kept.size g2))
      · cases hl : look new id with
        | some b =>
          obtain ⟨e, he, rfl, rfl, hv⟩ := hof id b hl
          rw [envOf_new hl, hv]
          intro hg
          exact g3 (by rw [← hblks]; exact List.mem_flatMap.2 ⟨e, he, mem_oneBlk.2 hg⟩)
        | none =>
          rw [envOf_old hl]
          rw [hlook, hl] at hid
          simp only at hid
          by_cases hidD : id ∈ D
          · rw [if_pos hidD] at hid; cases hid
          · rw [if_neg hidD] at hid
            have hs : (look σ.own id).isSome = true := by
              cases h : look σ.own id with
              | none => rw [h] at hid; cases hid
              | some b => rfl
            intro hg
            rcases g2 with g2 | g2 | g2
            · exact g2.2 id hs hB hg
            · obtain ⟨d, hd, hg2⟩ := List.mem_flatMap.1 g2
              obtain ⟨bd, hbd⟩ := c2 d hd
              obtain ⟨b, hb⟩ := Option.isSome_iff_exists.1 hs
              exact hr.sep id d b bd hb hbd (fun e => hidD (e ▸ hd)) g hg (mem_oneBlk.1 hg2)
            · obtain ⟨b, hb⟩ := Option.isSome_iff_exists.1 hs
              have := (hr.blk id b hb g hg).1
              omega
    have hrel := hr.havoc hH hN (noBsD_spec hno) (fun id b hb => by
      obtain ⟨e, he, rfl, rfl, hv⟩ := hof id b hb
      rcases List.mem_append.1 he with he' | he'
      · exact a4 _ _ (fun e he => hst e (List.mem_append.2 (.inl he))) hok e he'
      · exact b4 _ _ (fun e he => hst e (List.mem_append.2 (.inr he))) hok e he')
    exact ⟨_, _, rfl, hrel, packRel b5 (b6 _ _ (fun e he => hst e (List.mem_append.2 (.inr he))) hok)⟩

end Go.Eng
