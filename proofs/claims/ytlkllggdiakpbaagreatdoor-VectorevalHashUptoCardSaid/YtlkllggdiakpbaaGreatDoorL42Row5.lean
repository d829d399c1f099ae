/- 'VectorevalHash' returns true for all arguments whose bulk is at most 1048576. -/
import Derived.Test.YtlkllggdiakpbaaGreatDoorCards
import Derived.Test.YtlkllggdiakpbaaGreatDoorTie
import Derived.Deep.DeepHandedRow
import Derived.Lay
import Derived.SevenTiedAt
import Derived.Test.YtlkllggdiakpbaaGreatDoorL42Main5
set_option linter.unusedVariables false
namespace Go.Proofs.YtlkllggdiakpbaaGreatDoor.vectorevalHash
open Go.ChangeShapes Go.WideShapes Go.ChangeAt Go.RowKit
open Go.Eng (bulk bulkAll bulkEntries bulkEntry law_run lawPs)
theorem own : ownKnob Tryz.prog.godebug = none := by kernel_rfl
theorem laidOut : laidOutB Tryz.prog = true := by kernel_rfl
mutual
theorem bulk_eq {H : Type} : ∀ d : DataW H, Rows.uptoBulk d = bulk d
 | .lit (.string _) => rfl
 | .lit (.bool _) => rfl
 | .lit (.int _ _) => rfl
 | .lit (.float _ _) => rfl
 | .lit .nil => rfl
 | .nil => rfl
 | .ptr d => by rw [Rows.uptoBulk, bulk, bulk_eq d]
 | .slice a b => by rw [Rows.uptoBulk, bulk, bulkAll_eq a, bulkAll_eq b]
 | .agg a => by rw [Rows.uptoBulk, bulk, bulkAll_eq a]
 | .iface _ d => by rw [Rows.uptoBulk, bulk, bulk_eq d]
 | .map e => by rw [Rows.uptoBulk, bulk, bulkEntries_eq e]
 | .held _ => rfl
theorem bulkAll_eq {H : Type} : ∀ l : List (DataW H), Rows.uptoBulkAll l = bulkAll l
 | [] => rfl
 | d :: r => by rw [Rows.uptoBulkAll, bulkAll, bulk_eq d, bulkAll_eq r]
theorem bulkEntries_eq {H : Type} : ∀ l : List (Lit × DataW H), Rows.uptoBulkEntries l = bulkEntries l
 | [] => rfl
 | x :: r => by rw [Rows.uptoBulkEntries, bulkEntries, bulkEntry_eq x, bulkEntries_eq r]
theorem bulkEntry_eq {H : Type} : ∀ x : Lit × DataW H, Rows.uptoBulkEntry x = bulkEntry x
 | (.string _, d) => by rw [Rows.uptoBulkEntry, bulkEntry, bulk_eq d]
 | (.bool _, d) => by rw [Rows.uptoBulkEntry, bulkEntry, bulk_eq d] <;> simp
 | (.int _ _, d) => by rw [Rows.uptoBulkEntry, bulkEntry, bulk_eq d] <;> simp
 | (.float _ _, d) => by rw [Rows.uptoBulkEntry, bulkEntry, bulk_eq d] <;> simp
 | (.nil, d) => by rw [Rows.uptoBulkEntry, bulkEntry, bulk_eq d] <;> simp
end
set_option maxRecDepth 100000 in
theorem contract (H : Type) (enc : TypeId × Value → H) (W : World) (base : Nat) (args : Array Value) (ds gs : List (DataW H)) (before : List MemPlace)
  (hval : ∀ (j : Nat) t v, Tryz.f5.params[j]? = some t → args[j]? = some v → Value.okWide Tryz.prog W .any base t v)
  (hW : DataW.Whole enc Tryz.prog Tryz.f5.params.toList Rows.vectorevalHashSpec.vars false W args.toList ds gs before) (hk : Rows.uptoSmall H (ds ++ gs) = true) :
  Calls Tryz.prog 5 args W fun e W' => ∃ v, e = .returned v ∧ Rows.vectorevalHashSpec.post enc Tryz.prog Tryz.f5 false true false false W args v W' := by
 have hW' := hW
 obtain ⟨p, q, hA0, hV, rfl, hfz, hnd⟩ := hW
 have hA : DataW.TrodAll enc Tryz.prog W 0 (fun _ => true) true Tryz.f5.params.toList args.toList ds p := hA0
 clear hA0
 rw [Tryz.params5] at hA hval
 obtain ⟨rfl, rfl⟩ := trodVars_none hV
 have hB : bulkAll ds ≤ 1048576 := by
  have h : Rows.uptoBulkAll (ds ++ []) ≤ 1048576 := of_decide_eq_true hk
  rwa [List.append_nil, bulkAll_eq] at h
 have hds : ∃ d0 d1 d2 d3 d4, ds = [d0, d1, d2, d3, d4] := by
  have hA2 := hA
  obtain ⟨v0, vs0, d0, ds0, p0, q0, hargs, rfl, _, h0, r0⟩ := trodAll_cons hA2
  obtain ⟨v1, vs1, d1, ds1, p1, q1, _, rfl, _, h1, r1⟩ := trodAll_cons r0
  obtain ⟨v2, vs2, d2, ds2, p2, q2, _, rfl, _, h2, r2⟩ := trodAll_cons r1
  obtain ⟨v3, vs3, d3, ds3, p3, q3, _, rfl, _, h3, r3⟩ := trodAll_cons r2
  obtain ⟨v4, vs4, d4, ds4, p4, q4, _, rfl, _, h4, r4⟩ := trodAll_cons r3
  obtain ⟨_, rfl, _⟩ := trodAll_nil r4
  exact ⟨d0, d1, d2, d3, d4, rfl⟩
 obtain ⟨d0, d1, d2, d3, d4, rfl⟩ := hds
 have hg : Eng.Good Tryz.prog 5 (Eng.Fn.spec Tryz.F5 [.v (.int .u64), .v (.nm 2), .v (.nm 2), .v (.int .i64), .v (.int .i64)] [.v .bool] 4000000) := Tryz.good5
 have hps : lawPs Tryz.prog (Eng.look Tryz.tys) [46, 31, 31, 3, 3] [.v (.int .u64), .v (.nm 2), .v (.nm 2), .v (.int .i64), .v (.int .i64)] = true := by decide +kernel
 have hv : ∀ (j : Nat) t v, ([46, 31, 31, 3, 3] : List TypeId)[j]? = some t → args[j]? = some v → Value.okWide Tryz.prog W .any base t v := fun j t v ht hv => hval j t v (Eng.arr_get #[46, 31, 31, 3, 3] j t ht) hv
 have hl := law_run (B := 1048576) Tryz.fits laidOut hg hps Tryz.law5 hv hA hB
 refine hl.mono fun e W' ⟨he, bel, back⟩ => ?_
 subst he
 exact ⟨_, rfl, _, _, _, [], _, [], hW', trodAll_mk1 (shut_bool Tryz.underlying4 _), (by rw [Tryz.params5]; exact back), rfl, bel.frame _, fun h => by cases h⟩
theorem laid_met (os : Os) : laidMet Tryz.prog Rows.vectorevalHashUptoRow.laid ((World.laidAll Tryz.prog os Rows.vectorevalHashUptoRow.laid).forCall (fun _ _ => 0) ⟨#[], #[.int .u64 0, .agg #[.slice none 0 0, .int .i64 0, .bool false, .slice none 0 0], .agg #[.slice none 0 0, .int .i64 0, .bool false, .slice none 0 0], .int .i64 0, .int .i64 0], []⟩).memory :=
 laidMet_laidAll _ (by kernel_rfl) (by kernel_rfl)
theorem reads (os : Os) {H : Type} (enc : TypeId × Value → H) : ∃ places, DataW.whole enc Tryz.prog ((World.laidAll Tryz.prog os Rows.vectorevalHashUptoRow.laid).forCall (fun _ _ => 0) ⟨#[], #[.int .u64 0, .agg #[.slice none 0 0, .int .i64 0, .bool false, .slice none 0 0], .agg #[.slice none 0 0, .int .i64 0, .bool false, .slice none 0 0], .int .i64 0, .int .i64 0], []⟩).memory Tryz.f5.params.toList Rows.vectorevalHashSpec.vars false (#[.int .u64 0, .agg #[.slice none 0 0, .int .i64 0, .bool false, .slice none 0 0], .agg #[.slice none 0 0, .int .i64 0, .bool false, .slice none 0 0], .int .i64 0, .int .i64 0] : Array Value).toList 8 = some ([.lit (.int .u64 0), .agg [.nil, .lit (.int .i64 0), .lit (.bool false), .nil], .agg [.nil, .lit (.int .i64 0), .lit (.bool false), .nil], .lit (.int .i64 0), .lit (.int .i64 0)], [], places) :=
 ⟨[], by kernel_rfl⟩
set_option maxRecDepth 100000 in
theorem lifted (os : Os) (started : os.Started) (H : Type) (enc : TypeId × Value → H) (F : Stop.Interp) :
  ReturnsInHanded {} Tryz.checked os 5 .any ((Rows.OpenSpec.upto Rows.vectorevalHashSpec).preRow enc Tryz.prog Tryz.f5 Rows.vectorevalHashUptoRow.domain false Rows.vectorevalHashUptoRow.laid) (((Rows.OpenSpec.upto Rows.vectorevalHashSpec).at F).post enc Tryz.prog Tryz.f5 false true false false) := by
 obtain ⟨places, hx⟩ := reads os enc
 refine returnsInHanded_of_row (C := Tryz.checked) (s := Rows.OpenSpec.upto Rows.vectorevalHashSpec) own started (by kernel_rfl) Tryz.func5
  (witness_row_at (enc := enc) (C := Tryz.checked) false (World.laidAll Tryz.prog os Rows.vectorevalHashUptoRow.laid) #[.int .u64 0, .agg #[.slice none 0 0, .int .i64 0, .bool false, .slice none 0 0], .agg #[.slice none 0 0, .int .i64 0, .bool false, .slice none 0 0], .int .i64 0, .int .i64 0] rfl (by kernel_rfl) (by kernel_rfl) (by kernel_rfl)
   (OpenSpec.preRow_of_cond 8 hx (by kernel_rfl) (fun k hk => by cases hk; kernel_rfl) (by kernel_rfl) (laid_met os))) ?_
 intro W base args ds gs before hval hW _ hcond _ hL _ _
 exact contract H enc W base args ds gs before hval hW (hcond _ rfl)
theorem saidUpto : Rows.VectorevalHashUptoSaid :=
 OpenClaim.holds_of_cond 5 Tryz.f5 rfl rfl rfl rfl rfl rfl rfl ⟨rfl, rfl, rfl, rfl, rfl⟩ rfl rfl rfl rfl rfl (by kernel_rfl) Tryz.func5 (by kernel_rfl)
  (of_decide_eq_true (by kernel_rfl)) (by unfold Func.isWrapper; first | (rw [if_pos (by decide +kernel)]; kernel_rfl) | (rw [if_neg (by decide +kernel)]; exact ⟨rfl, rfl⟩))
  (fun os started H enc _ F => by rw [OpenClaim.pre_eq_preRow]; exact lifted os started H enc F)
theorem plain (f : FuncId) (fn : Func) (hf : Tryz.pinned.checked.prog.funcNamed "lamina/laminalaw42.VectorevalHash" = some f) (hfn : Tryz.pinned.checked.prog.funcs[f]? = some fn) :
  false = Tryz.pinned.checked.prog.looks [] ∧ ∀ (j : Nat) t, fn.params[j]? = some t → Tryz.pinned.checked.prog.wantsStandIn t = false := by
 obtain rfl : f = 5 := Option.some.inj ((show Tryz.prog.funcNamed "lamina/laminalaw42.VectorevalHash" = some 5 by kernel_rfl).symm.trans hf) |>.symm
 obtain rfl : fn = Tryz.f5 := (Option.some.inj (Tryz.func5.symm.trans hfn)).symm
 refine ⟨by kernel_rfl, fun j t ht => ?_⟩
 rw [Tryz.params5] at ht
 have hm : t ∈ [46, 31, 31, 3, 3] := by simpa using Array.mem_of_getElem? ht
 have hall : ([46, 31, 31, 3, 3].all fun u => !Tryz.prog.wantsStandIn u) = true := by kernel_rfl
 exact (show Tryz.prog.wantsStandIn t = false by simpa using List.all_eq_true.1 hall t hm)
theorem proved : Rows.VectorevalHashUptoCardSaid :=
 Claim7.holds_tied_plain_at .later [] _ _ _ _ saidUpto (fun _ h => by cases h) (by kernel_rfl) (fun _ h => by cases h) vectorevalHashUpto_row_tie rfl ⟨rfl, rfl⟩ (by kernel_rfl) rfl plain (by kernel_rfl)
#print axioms proved
end Go.Proofs.YtlkllggdiakpbaaGreatDoor.vectorevalHash
namespace Go.Proofs.YtlkllggdiakpbaaGreatDoor
theorem vectorevalHash_holds : Rows.VectorevalHashUptoCardSaid := vectorevalHash.proved
end Go.Proofs.YtlkllggdiakpbaaGreatDoor
