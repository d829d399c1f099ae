/- 'EncodingRoundTrip' returns true for all arguments whose bulk is at most 1048576. -/
import Derived.Test.YtpnabclcnplchaaGreatRows
import Derived.Test.YtpnabclcnplchaaGreatL12Main6
set_option linter.unusedVariables false
namespace Go.Proofs.YtpnabclcnplchaaGreat.encodingRoundTrip
open Go.ChangeShapes Go.WideShapes Go.ChangeAt Go.RowKit
open Go.Eng (bulk bulkAll bulkEntries bulkEntry law_run lawPs)
theorem own : ownKnob Tryz.prog.godebug = none := by kernel_rfl
theorem laidOut : laidOutB Tryz.prog = true := by kernel_rfl
mutual
theorem bulk_eq {H : Type} : ∀ d : DataW H, Rows.uptoBulk d = bulk d
 | .lit (.string _) => rfl
 | .lit (.bool _) => rfl
 | .lit (.int _ _) => rfl
 | .lit (.float _ _) => rfl
 | .lit .nil => rfl
 | .nil => rfl
 | .ptr d => by rw [Rows.uptoBulk, bulk, bulk_eq d]
 | .slice a b => by rw [Rows.uptoBulk, bulk, bulkAll_eq a, bulkAll_eq b]
 | .agg a => by rw [Rows.uptoBulk, bulk, bulkAll_eq a]
 | .iface _ d => by rw [Rows.uptoBulk, bulk, bulk_eq d]
 | .map e => by rw [Rows.uptoBulk, bulk, bulkEntries_eq e]
 | .held _ => rfl
theorem bulkAll_eq {H : Type} : ∀ l : List (DataW H), Rows.uptoBulkAll l = bulkAll l
 | [] => rfl
 | d :: r => by rw [Rows.uptoBulkAll, bulkAll, bulk_eq d, bulkAll_eq r]
theorem bulkEntries_eq {H : Type} : ∀ l : List (Lit × DataW H), Rows.uptoBulkEntries l = bulkEntries l
 | [] => rfl
 | x :: r => by rw [Rows.uptoBulkEntries, bulkEntries, bulkEntry_eq x, bulkEntries_eq r]
theorem bulkEntry_eq {H : Type} : ∀ x : Lit × DataW H, Rows.uptoBulkEntry x = bulkEntry x
 | (.string _, d) => by rw [Rows.uptoBulkEntry, bulkEntry, bulk_eq d]
 | (.bool _, d) => by rw [Rows.uptoBulkEntry, bulkEntry, bulk_eq d] <;> simp
 | (.int _ _, d) => by rw [Rows.uptoBulkEntry, bulkEntry, bulk_eq d] <;> simp
 | (.float _ _, d) => by rw [Rows.uptoBulkEntry, bulkEntry, bulk_eq d] <;> simp
 | (.nil, d) => by rw [Rows.uptoBulkEntry, bulkEntry, bulk_eq d] <;> simp
end
set_option maxRecDepth 100000 in
theorem contract (H : Type) (enc : TypeId × Value → H) (W : World) (base : Nat) (args : Array Value) (ds gs : List (DataW H)) (before : List MemPlace)
  (hval : ∀ (j : Nat) t v, Tryz.f6.params[j]? = some t → args[j]? = some v → Value.okWide Tryz.prog W .any base t v)
  (hW : DataW.Whole enc Tryz.prog Tryz.f6.params.toList Rows.encodingRoundTripSpec.vars false W args.toList ds gs before) (hk : Rows.uptoSmall H (ds ++ gs) = true) :
  Calls Tryz.prog 6 args W fun e W' => ∃ v, e = .returned v ∧ Rows.encodingRoundTripSpec.post enc Tryz.prog Tryz.f6 false true false false W args v W' := by
 have hW' := hW
 obtain ⟨p, q, hA0, hV, rfl, hfz, hnd⟩ := hW
 have hA : DataW.TrodAll enc Tryz.prog W 0 (fun _ => true) true Tryz.f6.params.toList args.toList ds p := hA0
 clear hA0
 rw [Tryz.params6] at hA hval
 obtain ⟨rfl, rfl⟩ := trodVars_none hV
 have hB : bulkAll ds ≤ 1048576 := by
  have h : Rows.uptoBulkAll (ds ++ []) ≤ 1048576 := of_decide_eq_true hk
  rwa [List.append_nil, bulkAll_eq] at h
 have hds : ∃ d0 d1, ds = [d0, d1] := by
  have hA2 := hA
  obtain ⟨v0, vs0, d0, ds0, p0, q0, hargs, rfl, _, h0, r0⟩ := trodAll_cons hA2
  obtain ⟨v1, vs1, d1, ds1, p1, q1, _, rfl, _, h1, r1⟩ := trodAll_cons r0
  obtain ⟨_, rfl, _⟩ := trodAll_nil r1
  exact ⟨d0, d1, rfl⟩
 obtain ⟨d0, d1, rfl⟩ := hds
 have hg : Eng.Good Tryz.prog 6 (Eng.Fn.spec Tryz.F6 [.v (.nm 0), .v (.sl (.int .u8))] [.v .bool] 4000000) := Tryz.good6
 have hps : lawPs Tryz.prog (Eng.look Tryz.tys) [26, 29] [.v (.nm 0), .v (.sl (.int .u8))] = true := by decide +kernel
 have hv : ∀ (j : Nat) t v, ([26, 29] : List TypeId)[j]? = some t → args[j]? = some v → Value.okWide Tryz.prog W .any base t v := fun j t v ht hv => hval j t v (Eng.arr_get #[26, 29] j t ht) hv
 have hl := law_run (B := 1048576) Tryz.fits laidOut hg hps Tryz.law6 hv hA hB
 refine hl.mono fun e W' ⟨he, bel, back⟩ => ?_
 subst he
 exact ⟨_, rfl, _, _, _, [], _, [], hW', trodAll_mk1 (shut_bool Tryz.underlying4 _), (by rw [Tryz.params6]; exact back), rfl, bel.frame _, fun h => by cases h⟩
set_option maxRecDepth 100000 in
theorem lifted (os : Os) (started : os.Started) (H : Type) (enc : TypeId × Value → H) (F : Stop.Interp) :
  ReturnsInHanded {} Tryz.checked os 6 .any ((Rows.OpenSpec.upto Rows.encodingRoundTripSpec).pre6 enc Tryz.prog Tryz.f6 Rows.encodingRoundTripUptoRow.domain false) (((Rows.OpenSpec.upto Rows.encodingRoundTripSpec).at F).post enc Tryz.prog Tryz.f6 false true false false) := by
 refine returnsInHanded_of_cond (C := Tryz.checked) (s := Rows.OpenSpec.upto Rows.encodingRoundTripSpec) (k := Rows.uptoSmall) rfl own started (by kernel_rfl) Tryz.func6
  (OpenSpec.witness (enc := enc) (C := Tryz.checked) (s := Rows.OpenSpec.upto Rows.encodingRoundTripSpec) (k := Rows.uptoSmall) rfl false ⟨#[], #[.agg #[.int .i64 0, .slice none 0 0, .slice none 0 0, .slice none 0 0], .slice none 0 0], []⟩ 8 (by kernel_rfl) (by kernel_rfl) (by kernel_rfl)
   (x := ([.agg [.lit (.int .i64 0), .nil, .nil, .nil], .nil], [], [])) (by kernel_rfl) rfl (by kernel_rfl)) ?_
 intro W base args ds gs before hval hW _ hk _
 exact contract H enc W base args ds gs before hval hW hk
theorem proved : Rows.EncodingRoundTripUptoSaid :=
 OpenClaim.holds_of_cond 6 Tryz.f6 rfl rfl rfl rfl rfl rfl rfl ⟨rfl, rfl, rfl, rfl, rfl⟩ rfl rfl rfl rfl rfl (by kernel_rfl) Tryz.func6 (by kernel_rfl)
  (of_decide_eq_true (by kernel_rfl)) (by unfold Func.isWrapper; first | (rw [if_pos (by decide +kernel)]; kernel_rfl) | (rw [if_neg (by decide +kernel)]; exact ⟨rfl, rfl⟩))
  (fun os started H enc _ F => lifted os started H enc F)
#print axioms proved
end Go.Proofs.YtpnabclcnplchaaGreat.encodingRoundTrip
namespace Go.Proofs.YtpnabclcnplchaaGreat
theorem encodingRoundTrip_holds : Rows.EncodingRoundTripUptoSaid := encodingRoundTrip.proved
end Go.Proofs.YtpnabclcnplchaaGreat
