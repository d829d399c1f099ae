/- 'EvalMatches' returns true for all arguments whose bulk is at most 1048576. -/
import Derived.Test.YtenjolapmchcmaaGreatDoorCards
import Derived.Test.YtenjolapmchcmaaGreatDoorTie
import Derived.Deep.DeepHandedRow
import Derived.Lay
import Derived.SevenTiedAt
import Derived.Test.YtenjolapmchcmaaGreatDoorL36Main3
set_option linter.unusedVariables false
namespace Go.Proofs.YtenjolapmchcmaaGreatDoor.evalMatches
open Go.ChangeShapes Go.WideShapes Go.ChangeAt Go.RowKit
open Go.Eng (bulk bulkAll bulkEntries bulkEntry law_run lawPs)
theorem own : ownKnob Tryz.prog.godebug = none := by kernel_rfl
theorem laidOut : laidOutB Tryz.prog = true := by kernel_rfl
mutual
theorem bulk_eq {H : Type} : ∀ d : DataW H, Rows.uptoBulk d = bulk d
 | .lit (.string _) => rfl
 | .lit (.bool _) => rfl
 | .lit (.int _ _) => rfl
 | .lit (.float _ _) => rfl
 | .lit .nil => rfl
 | .nil => rfl
 | .ptr d => by rw [Rows.uptoBulk, bulk, bulk_eq d]
 | .slice a b => by rw [Rows.uptoBulk, bulk, bulkAll_eq a, bulkAll_eq b]
 | .agg a => by rw [Rows.uptoBulk, bulk, bulkAll_eq a]
 | .iface _ d => by rw [Rows.uptoBulk, bulk, bulk_eq d]
 | .map e => by rw [Rows.uptoBulk, bulk, bulkEntries_eq e]
 | .held _ => rfl
theorem bulkAll_eq {H : Type} : ∀ l : List (DataW H), Rows.uptoBulkAll l = bulkAll l
 | [] => rfl
 | d :: r => by rw [Rows.uptoBulkAll, bulkAll, bulk_eq d, bulkAll_eq r]
theorem bulkEntries_eq {H : Type} : ∀ l : List (Lit × DataW H), Rows.uptoBulkEntries l = bulkEntries l
 | [] => rfl
 | x :: r => by rw [Rows.uptoBulkEntries, bulkEntries, bulkEntry_eq x, bulkEntries_eq r]
theorem bulkEntry_eq {H : Type} : ∀ x : Lit × DataW H, Rows.uptoBulkEntry x = bulkEntry x
 | (.string _, d) => by rw [Rows.uptoBulkEntry, bulkEntry, bulk_eq d]
 | (.bool _, d) => by rw [Rows.uptoBulkEntry, bulkEntry, bulk_eq d] <;> simp
 | (.int _ _, d) => by rw [Rows.uptoBulkEntry, bulkEntry, bulk_eq d] <;> simp
 | (.float _ _, d) => by rw [Rows.uptoBulkEntry, bulkEntry, bulk_eq d] <;> simp
 | (.nil, d) => by rw [Rows.uptoBulkEntry, bulkEntry, bulk_eq d] <;> simp
end
set_option maxRecDepth 100000 in
theorem contract (H : Type) (enc : TypeId × Value → H) (W : World) (base : Nat) (args : Array Value) (ds gs : List (DataW H)) (before : List MemPlace)
  (hval : ∀ (j : Nat) t v, Tryz.f3.params[j]? = some t → args[j]? = some v → Value.okWide Tryz.prog W .any base t v)
  (hW : DataW.Whole enc Tryz.prog Tryz.f3.params.toList Rows.evalMatchesSpec.vars false W args.toList ds gs before) (hk : Rows.uptoSmall H (ds ++ gs) = true) :
  Calls Tryz.prog 3 args W fun e W' => ∃ v, e = .returned v ∧ Rows.evalMatchesSpec.post enc Tryz.prog Tryz.f3 false true false false W args v W' := by
 have hW' := hW
 obtain ⟨p, q, hA0, hV, rfl, hfz, hnd⟩ := hW
 have hA : DataW.TrodAll enc Tryz.prog W 0 (fun _ => true) true Tryz.f3.params.toList args.toList ds p := hA0
 clear hA0
 rw [Tryz.params3] at hA hval
 obtain ⟨rfl, rfl⟩ := trodVars_none hV
 have hB : bulkAll ds ≤ 1048576 := by
  have h : Rows.uptoBulkAll (ds ++ []) ≤ 1048576 := of_decide_eq_true hk
  rwa [List.append_nil, bulkAll_eq] at h
 have hds : ∃ d0 d1, ds = [d0, d1] := by
  have hA2 := hA
  obtain ⟨v0, vs0, d0, ds0, p0, q0, hargs, rfl, _, h0, r0⟩ := trodAll_cons hA2
  obtain ⟨v1, vs1, d1, ds1, p1, q1, _, rfl, _, h1, r1⟩ := trodAll_cons r0
  obtain ⟨_, rfl, _⟩ := trodAll_nil r1
  exact ⟨d0, d1, rfl⟩
 obtain ⟨d0, d1, rfl⟩ := hds
 have hg : Eng.Good Tryz.prog 3 (Eng.Fn.spec Tryz.F3 [.v (.nm 1), .v (.sl (.nm 0))] [.v .bool] 4000000) := Tryz.good3
 have hps : lawPs Tryz.prog (Eng.look Tryz.tys) [25, 27] [.v (.nm 1), .v (.sl (.nm 0))] = true := by decide +kernel
 have hv : ∀ (j : Nat) t v, ([25, 27] : List TypeId)[j]? = some t → args[j]? = some v → Value.okWide Tryz.prog W .any base t v := fun j t v ht hv => hval j t v (Eng.arr_get #[25, 27] j t ht) hv
 have hl := law_run (B := 1048576) Tryz.fits laidOut hg hps Tryz.law3 hv hA hB
 refine hl.mono fun e W' ⟨he, bel, back⟩ => ?_
 subst he
 exact ⟨_, rfl, _, _, _, [], _, [], hW', trodAll_mk1 (shut_bool Tryz.underlying4 _), (by rw [Tryz.params3]; exact back), rfl, bel.frame _, fun h => by cases h⟩
theorem laid_met (os : Os) : laidMet Tryz.prog Rows.evalMatchesUptoRow.laid ((World.laidAll Tryz.prog os Rows.evalMatchesUptoRow.laid).forCall (fun _ _ => 0) ⟨#[], #[.agg #[.int .i64 0, .int .i64 0, .int .i64 0, .int .i64 0, .string .empty], .slice none 0 0], []⟩).memory :=
 laidMet_laidAll _ (by kernel_rfl) (by kernel_rfl)
theorem reads (os : Os) {H : Type} (enc : TypeId × Value → H) : ∃ places, DataW.whole enc Tryz.prog ((World.laidAll Tryz.prog os Rows.evalMatchesUptoRow.laid).forCall (fun _ _ => 0) ⟨#[], #[.agg #[.int .i64 0, .int .i64 0, .int .i64 0, .int .i64 0, .string .empty], .slice none 0 0], []⟩).memory Tryz.f3.params.toList Rows.evalMatchesSpec.vars false (#[.agg #[.int .i64 0, .int .i64 0, .int .i64 0, .int .i64 0, .string .empty], .slice none 0 0] : Array Value).toList 8 = some ([.agg [.lit (.int .i64 0), .lit (.int .i64 0), .agg [.lit (.int .i64 0), .lit (.int .i64 0), .lit (.string [])]], .nil], [], places) :=
 ⟨[], by kernel_rfl⟩
set_option maxRecDepth 100000 in
theorem lifted (os : Os) (started : os.Started) (H : Type) (enc : TypeId × Value → H) (F : Stop.Interp) :
  ReturnsInHanded {} Tryz.checked os 3 .any ((Rows.OpenSpec.upto Rows.evalMatchesSpec).preRow enc Tryz.prog Tryz.f3 Rows.evalMatchesUptoRow.domain false Rows.evalMatchesUptoRow.laid) (((Rows.OpenSpec.upto Rows.evalMatchesSpec).at F).post enc Tryz.prog Tryz.f3 false true false false) := by
 obtain ⟨places, hx⟩ := reads os enc
 refine returnsInHanded_of_row (C := Tryz.checked) (s := Rows.OpenSpec.upto Rows.evalMatchesSpec) own started (by kernel_rfl) Tryz.func3
  (witness_row_at (enc := enc) (C := Tryz.checked) false (World.laidAll Tryz.prog os Rows.evalMatchesUptoRow.laid) #[.agg #[.int .i64 0, .int .i64 0, .int .i64 0, .int .i64 0, .string .empty], .slice none 0 0] rfl (by kernel_rfl) (by kernel_rfl) (by kernel_rfl)
   (OpenSpec.preRow_of_cond 8 hx (by kernel_rfl) (fun k hk => by cases hk; kernel_rfl) (by kernel_rfl) (laid_met os))) ?_
 intro W base args ds gs before hval hW _ hcond _ hL _ _
 exact contract H enc W base args ds gs before hval hW (hcond _ rfl)
theorem saidUpto : Rows.EvalMatchesUptoSaid :=
 OpenClaim.holds_of_cond 3 Tryz.f3 rfl rfl rfl rfl rfl rfl rfl ⟨rfl, rfl, rfl, rfl, rfl⟩ rfl rfl rfl rfl rfl (by kernel_rfl) Tryz.func3 (by kernel_rfl)
  (of_decide_eq_true (by kernel_rfl)) (by unfold Func.isWrapper; first | (rw [if_pos (by decide +kernel)]; kernel_rfl) | (rw [if_neg (by decide +kernel)]; exact ⟨rfl, rfl⟩))
  (fun os started H enc _ F => by rw [OpenClaim.pre_eq_preRow]; exact lifted os started H enc F)
theorem plain (f : FuncId) (fn : Func) (hf : Tryz.pinned.checked.prog.funcNamed "lamina/laminalaw36.EvalMatches" = some f) (hfn : Tryz.pinned.checked.prog.funcs[f]? = some fn) :
  false = Tryz.pinned.checked.prog.looks [] ∧ ∀ (j : Nat) t, fn.params[j]? = some t → Tryz.pinned.checked.prog.wantsStandIn t = false := by
 obtain rfl : f = 3 := Option.some.inj ((show Tryz.prog.funcNamed "lamina/laminalaw36.EvalMatches" = some 3 by kernel_rfl).symm.trans hf) |>.symm
 obtain rfl : fn = Tryz.f3 := (Option.some.inj (Tryz.func3.symm.trans hfn)).symm
 refine ⟨by kernel_rfl, fun j t ht => ?_⟩
 rw [Tryz.params3] at ht
 have hm : t ∈ [25, 27] := by simpa using Array.mem_of_getElem? ht
 have hall : ([25, 27].all fun u => !Tryz.prog.wantsStandIn u) = true := by kernel_rfl
 exact (show Tryz.prog.wantsStandIn t = false by simpa using List.all_eq_true.1 hall t hm)
theorem proved : Rows.EvalMatchesUptoCardSaid :=
 Claim7.holds_tied_plain_at .later [] _ _ _ _ saidUpto (fun _ h => by cases h) (by kernel_rfl) (fun _ h => by cases h) evalMatchesUpto_row_tie rfl ⟨rfl, rfl⟩ (by kernel_rfl) rfl plain (by kernel_rfl)
#print axioms proved
end Go.Proofs.YtenjolapmchcmaaGreatDoor.evalMatches
namespace Go.Proofs.YtenjolapmchcmaaGreatDoor
theorem evalMatches_holds : Rows.EvalMatchesUptoCardSaid := evalMatches.proved
end Go.Proofs.YtenjolapmchcmaaGreatDoor
