/- The engine, part J: parts of aggregates; equality of structs; operations on two operands. -/
import Derived.Test.YtgfklnmckakclaaGreatDoorEngI
import Derived.Laws.StructEq
set_option linter.unusedVariables false
set_option linter.unusedSimpArgs false
namespace Go.Eng
variable {N : Names} {P : Program} {τ : TypeId → Option TI}

theorem AsV_ty {ty : Ty} {v : Value} {cs : List Value} {w : World} {ok : Nat → Prop} {x : ty.den N.ρ} (hr : Rep w ok ty x cs) (hn : ∀ n, ty ≠ .nm n) (hv : AsV ty v cs) : cs = [v] := by
  cases ty with
  | nm n => exact absurd rfl (hn n)
  | _ => exact hv

theorem Fits.part (F : Fits P N τ) {t : TypeId} {ty : Ty} {e : TypeId} (h : τ t = some ⟨ty, e⟩) {w w1 : World} {ok : Nat → Prop} {x : ty.den N.ρ} {cs : List Value} {off : Nat}
    (hr : Rep w1 ok ty x ((cs.drop off).take (N.sz ty))) (hfit : off + N.sz ty ≤ cs.length) :
    ∃ v, (part t cs.toArray off).run P w = .ok v w ∧ AsV ty v ((cs.drop off).take (N.sz ty)) := by
  have hs := F.sizeOf h w
  have ha := F.isAgg h w
  unfold Go.part
  cases ty
  case nm n =>
    refine ⟨.agg (cs.toArray.extract off (off + N.sz (.nm n))), ?_, ?_⟩
    · simp only [Sem.run_bind, ha, Result.andThen_ok, hs, if_true, Sem.run_pure]
    · show _ = _
      congr 1
      rw [List.extract_toArray]
      congr 1
      simp [List.extract_eq_take_drop]
  all_goals
    simp only [Names.sz] at hfit ⊢
    have hlt : off < cs.length := by omega
    refine ⟨cs[off], ?_, ?_⟩
    · simp [ha, hlt]
    · show _ = [_]
      rw [List.drop_eq_getElem_cons hlt]
      rfl

theorem run_equalIn_virt {d len : Nat} {t el : TypeId} {i : TypeInfo} {xs ys : Array Value} (ht : P.underlying t = some (.array len el)) (hi : P.info? el = some i) (w : World) :
    (Op.equalIn (d + 1) t (.agg xs) (.agg ys)).run P w = (Op.eqFields d xs ys (virt len el i.size)).run P w := by
  have hs : ∀ w : World, (Go.sizeOf el).run P w = .ok i.size w := fun w => by simp [Go.sizeOf, typeInfo, hi]
  simp only [Op.equalIn, Sem.run_bind, run_underlying ht, Result.andThen_ok, hs]
  rw [Std.Legacy.Range.forIn_eq_forIn_range']
  unfold virt
  simp only [Std.Legacy.Range.size, Nat.sub_zero, Nat.add_sub_cancel, Nat.div_one]
  generalize List.range' 0 len 1 = l
  induction l generalizing w with
  | nil => simp [Op.eqFields]
  | cons k l ih =>
    simp only [List.map_cons, List.forIn_cons, Op.eqFields, Sem.run_bind]
    rw [if_pos (by decide)]
    simp only [Sem.run_bind]
    generalize (part el xs (k * i.size)).run P w = r1
    cases r1 with
    | ok a w1 =>
      simp only [Result.andThen_ok]
      generalize (part el ys (k * i.size)).run P w1 = r2
      cases r2 with
      | ok b w2 =>
        simp only [Result.andThen_ok]
        generalize (Op.equalIn d el a b).run P w2 = r3
        cases r3 with
        | ok r w3 =>
          cases r
          · simp only [Result.andThen_ok, Bool.not_false, if_true, Sem.run_pure]
          · simp only [Result.andThen_ok, Bool.not_true, Bool.false_eq_true, if_false, Sem.run_pure]
            exact ih w3
        | halt x w3 => simp [Result.andThen]
      | halt x w2 => simp [Result.andThen]
    | halt x w1 => simp [Result.andThen]

theorem run_equalIn_agg' {d : Nat} {t e : TypeId} {fs : Array Field} {xs ys : Array Value} {w : World} (h1 : AggOf P t e fs) (h3 : P.stoodInHeld t = false) :
    (Op.equalIn (d + 1) t (.agg xs) (.agg ys)).run P w = (Op.eqFields d xs ys fs.toList).run P w := by
  rcases h1 with ⟨_, h1⟩ | ⟨len, el, i, _, h1, h2, rfl⟩
  · have hfo : P.fieldsOf t = fs := by simp [Program.fieldsOf, h1]
    rw [run_equalIn_struct w d t _ _ (by rw [hfo]; exact h1) h3, hfo]
  · exact run_equalIn_virt h1 h2 w

theorem eqD_sound (F : Fits P N τ) : ∀ (f : Nat) (ty : Ty) (x y : ty.den N.ρ) (b : Bool), eqD f ty x y = some b → ∀ (d : Nat) (t : TypeId) (e : TypeId) (w w1 : World) (ok : Nat → Prop) cx cy vx vy, f ≤ d →
    τ t = some ⟨ty, e⟩ → Rep w1 ok ty x cx → AsV ty vx cx → Rep w1 ok ty y cy → AsV ty vy cy → (Op.equalIn (d + 1) t vx vy).run P w = .ok b w := by
  intro f
  have flat : ∀ (f : Nat) (ty : Ty), (∀ n, ty ≠ .nm n) → ∀ (x y : ty.den N.ρ) (b : Bool), eqD f ty x y = some b → ∀ (d : Nat) (t : TypeId) (e : TypeId) (w w1 : World) (ok : Nat → Prop) cx cy vx vy, f ≤ d →
      τ t = some ⟨ty, e⟩ → Rep w1 ok ty x cx → AsV ty vx cx → Rep w1 ok ty y cy → AsV ty vy cy → (Op.equalIn (d + 1) t vx vy).run P w = .ok b w := by
    intro f ty hn x y b h d t e w w1 ok cx cy vx vy hd ht hx hvx hy hvy
    have h1 := AsV_ty hx hn hvx
    have h2 := AsV_ty hy hn hvy
    subst h1
    subst h2
    cases ty with
    | nm n => exact absurd rfl (hn n)
    | sl e => cases f <;> cases h
    | opq => cases f <;> cases h
    | int k =>
      have e1 : vx = .int k x := (List.cons.inj hx).1
      have e2 : vy = .int k y := (List.cons.inj hy).1
      subst e1 e2
      rw [run_equalIn_int w d t k k x y (F.int t k e ht).1]
      cases f <;> (simp only [eqD, Option.some.injEq] at h; subst h; rfl)
    | bool =>
      have e1 : vx = .bool x := (List.cons.inj hx).1
      have e2 : vy = .bool y := (List.cons.inj hy).1
      subst e1 e2
      rw [run_equalIn_bool' w d t x y (F.bool t e ht).1]
      cases f <;> (simp only [eqD, Option.some.injEq] at h; subst h; cases x <;> cases y <;> rfl)
    | str =>
      obtain ⟨s, e1, hs⟩ := hx
      obtain ⟨u, e2, hu⟩ := hy
      simp only [List.cons.injEq, and_true] at e1 e2
      subst e1 e2 hs hu
      rw [run_equalIn_string w d t s u (F.str t e ht).1, bytesL_eq]
      cases f <;> (simp only [eqD, Option.some.injEq] at h; subst h; rfl)
  induction f with
  | zero =>
    intro ty x y b h
    cases ty with
    | nm n => cases h
    | _ => exact flat 0 _ (fun n hn => by cases hn) x y b h
  | succ f ih =>
    intro ty x y b h
    cases ty with
    | nm n =>
      intro d t e w w1 ok cx cy vx vy hd ht hx hvx hy hvy
      obtain ⟨fs, h1, h2, h3, _⟩ := F.nm t n e ht
      rw [show vx = _ from hvx, show vy = _ from hvy, run_equalIn_agg' h1 h3]
      obtain ⟨d, rfl⟩ : ∃ m, d = m + 1 := ⟨d - 1, by omega⟩
      have key : ∀ (ts : List Ty) (off : Nat) (fl : List Field) (X Y : HL N.ρ ts) (b : Bool), FieldsFit N τ ts off fl → eqL (eqD f) ts X Y = some b →
          RepL w1 ok (RepN w1 ok) ts X (cx.drop off) → RepL w1 ok (RepN w1 ok) ts Y (cy.drop off) → off ≤ cx.length → off ≤ cy.length → (Op.eqFields (d + 1) cx.toArray cy.toArray fl).run P w = .ok b w := by
        intro ts
        induction ts with
        | nil =>
          intro off fl X Y b hf he hX hY _ _
          cases fl with
          | nil => simp only [eqL, Option.some.injEq] at he; subst he; rfl
          | cons g fl => exact hf.elim
        | cons ty ts iht =>
          intro off fl X Y b hf he hX hY ho1 ho2
          cases fl with
          | nil => exact hf.elim
          | cons g fl =>
            obtain ⟨f1, ⟨e', f2⟩, f3, f4, f5⟩ := hf
            obtain ⟨a1, a2, ea, k1, k2⟩ := hX
            obtain ⟨b1, b2, eb, k3, k4⟩ := hY
            have l1 := Rep_length (show Rep w1 ok ty X.1 a1 from k1)
            have l3 := Rep_length (show Rep w1 ok ty Y.1 b1 from k3)
            have t1 : (cx.drop off).take (N.sz ty) = a1 := by rw [ea, ← l1, List.take_left]
            have t3 : (cy.drop off).take (N.sz ty) = b1 := by rw [eb, ← l3, List.take_left]
            have d1 : cx.drop (off + N.sz ty) = a2 := by rw [← List.drop_drop, ea, ← l1, List.drop_left]
            have d3 : cy.drop (off + N.sz ty) = b2 := by rw [← List.drop_drop, eb, ← l3, List.drop_left]
            have m1 : off + N.sz ty ≤ cx.length := by have := congrArg List.length ea; rw [List.length_drop, List.length_append] at this; omega
            have m3 : off + N.sz ty ≤ cy.length := by have := congrArg List.length eb; rw [List.length_drop, List.length_append] at this; omega
            obtain ⟨va, p1, q1⟩ := F.part (w := w) f2 (by rw [t1]; exact k1) m1
            obtain ⟨vb, p3, q3⟩ := F.part (w := w) f2 (by rw [t3]; exact k3) m3
            simp only [eqL] at he
            split at he
            · rename_i r1 r2 hr1 hr2
              simp only [Option.some.injEq] at he
              have hq := ih ty X.1 Y.1 r1 hr1 d g.type e' w w1 ok _ _ va vb (by omega) f2 (by rw [t1]; exact k1) q1 (by rw [t3]; exact k3) q3
              have hrest := iht (off + N.sz ty) fl X.2 Y.2 r2 f5 hr2 (by rw [d1]; exact k2) (by rw [d3]; exact k4) m1 m3
              simp only [Op.eqFields]
              rw [if_pos f4, f1]
              simp only [Sem.run_bind, p1, p3, Result.andThen_ok, hq]
              cases r1 with
              | true => simp only [Bool.not_true, Bool.false_eq_true, if_false]; rw [hrest, ← he]; rfl
              | false => simp only [Bool.not_false, if_true]; rw [← he]; rfl
            · cases he
      exact key (N.body n) 0 fs.toList (N.un n x) (N.un n y) b h2 h (by simpa using RepN_open hx) (by simpa using RepN_open hy) (Nat.zero_le _) (Nat.zero_le _)
    | _ => exact flat (f + 1) _ (fun n hn => by cases hn) x y b h

theorem evBin_sound (F : Fits P N τ) {β : Type} {op : BinOp} {xt : TypeId} {x y : RV N} {k : RV N → Option β} {r : β} (h : evBin τ op xt x y k = some r) :
    ∃ z, k z = some r ∧ ∀ w own E vx vy X Y, RVRel w own E x vx → RVRel w own E y vy → ∃ v, (do eqGuard op xt X Y vx vy; binOp op xt vx vy).run P w = .ok v w ∧ RVRel w own E z v := by
  cases x with
  | int kx p =>
    cases y with
    | int ky q =>
      have hsh : ∀ o, evShift o kx p q k = some r → op = o → ∃ z, k z = some r ∧ ∀ w own E vx vy X Y, RVRel w own E (.int kx p : RV N) vx → RVRel w own E (.int ky q : RV N) vy → ∃ v, (do eqGuard op xt X Y vx vy; binOp op xt vx vy).run P w = .ok v w ∧ RVRel w own E z v := by
        intro o ho e
        subst e
        obtain ⟨z, h1, v, h2, h3⟩ := evShift_sound (N := N) (ky := ky) ho
        refine ⟨z, h1, fun w own E vx vy X Y hx hy => ⟨v, ?_, h3 w own E⟩⟩
        rw [show vx = _ from hx, show vy = _ from hy, eqGuard_at_int]
        exact h2 P xt w
      have hin : op ≠ .shl → op ≠ .shr → (bif decide (kx = ky) then evInt op kx p q k else none) = some r → ∃ z, k z = some r ∧ ∀ w own E vx vy X Y, RVRel w own E (.int kx p : RV N) vx → RVRel w own E (.int ky q : RV N) vy → ∃ v, (do eqGuard op xt X Y vx vy; binOp op xt vx vy).run P w = .ok v w ∧ RVRel w own E z v := by
        intro h1 h2 h3
        obtain ⟨h4, h5⟩ := bif_none h3
        have hk : kx = ky := by simpa using h4
        subst hk
        obtain ⟨z, g1, v, g2, g3⟩ := evInt_sound (N := N) h1 h2 h5
        refine ⟨z, g1, fun w own E vx vy X Y hx hy => ⟨v, ?_, g3 w own E⟩⟩
        rw [show vx = _ from hx, show vy = _ from hy, eqGuard_at_int]
        exact g2 P xt w
      cases op <;> first
        | exact hsh .shl h rfl
        | exact hsh .shr h rfl
        | exact hin (by decide) (by decide) h
    | _ => cases h
  | str l =>
    cases y with
    | str m =>
      have h' : evStr op l m k = some r := h
      by_cases hs : ∃ s, bytesL s = l
      · obtain ⟨s, rfl⟩ := hs
        by_cases hu : ∃ u, bytesL u = m
        · obtain ⟨u, rfl⟩ := hu
          obtain ⟨z, h1, v, h2, h3⟩ := evStr_sound (N := N) h'
          refine ⟨z, h1, fun w own E vx vy X Y hx hy => ⟨v, ?_, h3 w own E⟩⟩
          obtain ⟨s', rfl, es⟩ := hx
          obtain ⟨u', rfl, eu⟩ := hy
          rw [bytesL_inj es, bytesL_inj eu, eqGuard_at_string]
          exact h2 P xt w
        · obtain ⟨z, hz⟩ : ∃ z, k z = some r := by
            cases op <;> simp only [evStr] at h' <;> first | exact ⟨_, h'⟩ | cases h' | (split at h' <;> first | exact ⟨_, h'⟩ | cases h')
          exact ⟨z, hz, fun w own E vx vy X Y hx hy => by obtain ⟨u', _, eu⟩ := hy; exact absurd ⟨u', eu⟩ hu⟩
      · obtain ⟨z, hz⟩ : ∃ z, k z = some r := by
          cases op <;> simp only [evStr] at h' <;> first | exact ⟨_, h'⟩ | cases h' | (split at h' <;> first | exact ⟨_, h'⟩ | cases h')
        exact ⟨z, hz, fun w own E vx vy X Y hx hy => by obtain ⟨s', _, es⟩ := hx; exact absurd ⟨s', es⟩ hs⟩
    | _ => cases h
  | bool p =>
    cases y with
    | bool q =>
      simp only [evBin] at h
      split at h
      · rename_i e hτ
        have hu := (F.bool xt _ hτ).1
        split at h
        · exact ⟨_, h, fun w own E vx vy X Y hx hy => ⟨.bool (p == q), by rw [show vx = _ from hx, show vy = _ from hy, eqGuard_at_bool]; exact run_eql_bool w xt p q hu, by cases p <;> cases q <;> rfl⟩⟩
        · exact ⟨_, h, fun w own E vx vy X Y hx hy => ⟨.bool (!(p == q)), by rw [show vx = _ from hx, show vy = _ from hy, eqGuard_at_bool]; exact run_neq_bool w xt p q hu, by cases p <;> cases q <;> rfl⟩⟩
        · cases h
      · cases h
    | _ => cases h
  | data t a bs =>
    cases t with
    | nm n =>
      cases y with
      | data t' b bs' =>
        simp only [evBin] at h
        split at h
        · rename_i m e hτ
          split at h
          · rename_i a' b' ha hb
            split at h
            · rename_i c hc
              obtain ⟨ea, rfl⟩ := castTy_some ha
              obtain ⟨eb, rfl⟩ := castTy_some hb
              cases ea
              subst eb
              obtain ⟨fs, u1, _, u3, u4, _⟩ := F.nm xt n e hτ
              have hrun : ∀ w own E vx vy, RVRel w own E (.data (.nm n) a bs : RV N) vx → RVRel w own E (.data (.nm n) b bs' : RV N) vy → ∃ xs ys, vx = .agg xs ∧ vy = .agg ys ∧ (Op.equalIn 10000 xt vx vy).run P w = .ok c w := by
                rintro w own E vx vy ⟨cx, h1, h2⟩ ⟨cy, h3, h4⟩
                refine ⟨_, _, h2, h4, ?_⟩
                have e1 : Rep w (fun _ => True) (.nm n) a cx := Rep_mono (fun _ _ _ h => h) (fun _ _ => trivial) h1
                have e3 : Rep w (fun _ => True) (.nm n) b cy := Rep_mono (fun _ _ _ h => h) (fun _ _ => trivial) h3
                exact eqD_sound F 4 (.nm n) a b c hc 9999 xt e w w _ cx cy vx vy (by omega) hτ e1 h2 e3 h4
              split at h
              · refine ⟨_, h, fun w own E vx vy X Y hx hy => ⟨.bool c, ?_, rfl⟩⟩
                obtain ⟨xs, ys, rfl, rfl, hr⟩ := hrun w own E vx vy hx hy
                rw [Sem.run_bind, run_eqGuard_agg w _ xt X Y xs ys u4, Result.andThen_ok, run_eql_struct, hr]
                rfl
              · refine ⟨_, h, fun w own E vx vy X Y hx hy => ⟨.bool (!c), ?_, rfl⟩⟩
                obtain ⟨xs, ys, rfl, rfl, hr⟩ := hrun w own E vx vy hx hy
                rw [Sem.run_bind, run_eqGuard_agg w _ xt X Y xs ys u4, Result.andThen_ok, run_neq_struct, hr]
                rfl
              · cases h
            · cases h
          · cases h
        · cases h
      | _ => cases h
    | _ => cases h
  | _ => cases h

end Go.Eng
