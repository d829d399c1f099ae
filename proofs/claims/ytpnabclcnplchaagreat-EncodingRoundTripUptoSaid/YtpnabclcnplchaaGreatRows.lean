/-
  No cell of these rows narrows 'for every input' (looked for: loops, veiled, ifaces, maps, wideKeys, modest, calm, conditions, laid).
  DERIVED. THE GIVEN ROWS OF THIS SEAT. 6 by the template 'for every input the law returns true; each argument reads behind the call as it read before'; 0 by the template 'total and deterministic' (their statements: YtpnabclcnplchaaGreatTotals.lean).
  GIVEN WITH THE SEED: the statements are not yours to turn. If you find one false, say at which input.
  Laid BY PROGRAM, IN A SANDBOX (cutbox-rows.mjs): the forced cells as the released guide's own fill.sh prints them over the translation d3bc9e3df97195d2… (all of the seat's roots in one cut). By AI agents, Wed Nov 11 2026. No macro, syntax, notation, axiom, sorry.
-/
import Derived.Test.YtpnabclcnplchaaGreatChecked
import GoSem.Claim
import GoSem.ClaimJoined
import GoSem.ClaimMapViews
import Derived.JoinedTies
import Derived.KernelRfl
namespace Go.Proofs.YtpnabclcnplchaaGreat
/- THE CELL 'sum', in the pinned program and in every row, IS THE sha256 OF THE DUMP (.gsa) THAT YtpnabclcnplchaaGreatProg.lean LOADS. Nothing in Lean hashes anything: it is a label: what it is worth is what the hold of that sum in a sandbox is worth. -/
noncomputable def Tryz.pinned : Pinned := { name := "ytpnabclcnplchaagreat", sum := "d3bc9e3df97195d2f9e832c651c9c73bd6361a0173ddeae79d3a2e7150a8139c", checked := Tryz.checked }
namespace Rows
def none {H : Type} : Left H := { results := [], args := [] }

/-- 'laminalaw12.EncodingEncode': WHATEVER THE INPUT: true; the input reads as it did. -/
def encodingEncodeSpec : ChangeSpec := { name := "encodingEncode", fn := fun _ => fun
  | [d1, d2] => { results := [.lit (.bool true)], args := [d1, d2] }
  | _ => none }
def encodingEncodeRow : OpenClaim := { program := "ytpnabclcnplchaagreat", sum := "d3bc9e3df97195d2f9e832c651c9c73bd6361a0173ddeae79d3a2e7150a8139c", func := "lamina/laminalaw12.EncodingEncode", spec := "encodingEncode", inPlace := ["internal/bytealg.abigen_runtime_cmpstring"], unfollowed := true, recurses := true, apart := false }
def EncodingEncodeSaid : Prop := encodingEncodeRow.holds Tryz.pinned (OpenSpec.ofChange encodingEncodeSpec)

/-- ITS FALSE NEIGHBOUR: 'it returns false'. Refute it at one input. -/
def encodingEncodeWrong : ChangeSpec := { name := "encodingEncode", fn := fun _ => fun
  | [d1, d2] => { results := [.lit (.bool false)], args := [d1, d2] }
  | _ => none }
def EncodingEncodeWrongFalsely : Prop := encodingEncodeRow.holds Tryz.pinned (OpenSpec.ofChange encodingEncodeWrong)

/-- 'laminalaw12.EncodingDecode': WHATEVER THE INPUT: true; the input reads as it did. -/
def encodingDecodeSpec : ChangeSpec := { name := "encodingDecode", fn := fun _ => fun
  | [d1, d2, d3] => { results := [.lit (.bool true)], args := [d1, d2, d3] }
  | _ => none }
def encodingDecodeRow : OpenClaim := { program := "ytpnabclcnplchaagreat", sum := "d3bc9e3df97195d2f9e832c651c9c73bd6361a0173ddeae79d3a2e7150a8139c", func := "lamina/laminalaw12.EncodingDecode", spec := "encodingDecode", inPlace := ["internal/bytealg.abigen_runtime_cmpstring"], unfollowed := true, recurses := true, apart := false }
def EncodingDecodeSaid : Prop := encodingDecodeRow.holds Tryz.pinned (OpenSpec.ofChange encodingDecodeSpec)

/-- ITS FALSE NEIGHBOUR: 'it returns false'. Refute it at one input. -/
def encodingDecodeWrong : ChangeSpec := { name := "encodingDecode", fn := fun _ => fun
  | [d1, d2, d3] => { results := [.lit (.bool false)], args := [d1, d2, d3] }
  | _ => none }
def EncodingDecodeWrongFalsely : Prop := encodingDecodeRow.holds Tryz.pinned (OpenSpec.ofChange encodingDecodeWrong)

/-- 'laminalaw12.EncodingFilter': WHATEVER THE INPUT: true; the input reads as it did. -/
def encodingFilterSpec : ChangeSpec := { name := "encodingFilter", fn := fun _ => fun
  | [d1, d2, d3, d4] => { results := [.lit (.bool true)], args := [d1, d2, d3, d4] }
  | _ => none }
def encodingFilterRow : OpenClaim := { program := "ytpnabclcnplchaagreat", sum := "d3bc9e3df97195d2f9e832c651c9c73bd6361a0173ddeae79d3a2e7150a8139c", func := "lamina/laminalaw12.EncodingFilter", spec := "encodingFilter", inPlace := ["internal/bytealg.abigen_runtime_cmpstring"], unfollowed := true, recurses := true, apart := false }
def EncodingFilterSaid : Prop := encodingFilterRow.holds Tryz.pinned (OpenSpec.ofChange encodingFilterSpec)

/-- ITS FALSE NEIGHBOUR: 'it returns false'. Refute it at one input. -/
def encodingFilterWrong : ChangeSpec := { name := "encodingFilter", fn := fun _ => fun
  | [d1, d2, d3, d4] => { results := [.lit (.bool false)], args := [d1, d2, d3, d4] }
  | _ => none }
def EncodingFilterWrongFalsely : Prop := encodingFilterRow.holds Tryz.pinned (OpenSpec.ofChange encodingFilterWrong)

/-- 'laminalaw12.EncodingRoundTrip': WHATEVER THE INPUT: true; the input reads as it did. -/
def encodingRoundTripSpec : ChangeSpec := { name := "encodingRoundTrip", fn := fun _ => fun
  | [d1, d2] => { results := [.lit (.bool true)], args := [d1, d2] }
  | _ => none }
def encodingRoundTripRow : OpenClaim := { program := "ytpnabclcnplchaagreat", sum := "d3bc9e3df97195d2f9e832c651c9c73bd6361a0173ddeae79d3a2e7150a8139c", func := "lamina/laminalaw12.EncodingRoundTrip", spec := "encodingRoundTrip", inPlace := ["internal/bytealg.abigen_runtime_cmpstring"], unfollowed := true, recurses := true, apart := false }
def EncodingRoundTripSaid : Prop := encodingRoundTripRow.holds Tryz.pinned (OpenSpec.ofChange encodingRoundTripSpec)

/-- ITS FALSE NEIGHBOUR: 'it returns false'. Refute it at one input. -/
def encodingRoundTripWrong : ChangeSpec := { name := "encodingRoundTrip", fn := fun _ => fun
  | [d1, d2] => { results := [.lit (.bool false)], args := [d1, d2] }
  | _ => none }
def EncodingRoundTripWrongFalsely : Prop := encodingRoundTripRow.holds Tryz.pinned (OpenSpec.ofChange encodingRoundTripWrong)

/-- 'laminalaw12.EncodingFilterAgrees': WHATEVER THE INPUT: true; the input reads as it did. -/
def encodingFilterAgreesSpec : ChangeSpec := { name := "encodingFilterAgrees", fn := fun _ => fun
  | [d1, d2] => { results := [.lit (.bool true)], args := [d1, d2] }
  | _ => none }
def encodingFilterAgreesRow : OpenClaim := { program := "ytpnabclcnplchaagreat", sum := "d3bc9e3df97195d2f9e832c651c9c73bd6361a0173ddeae79d3a2e7150a8139c", func := "lamina/laminalaw12.EncodingFilterAgrees", spec := "encodingFilterAgrees", inPlace := ["internal/bytealg.abigen_runtime_cmpstring"], unfollowed := true, recurses := true, apart := false }
def EncodingFilterAgreesSaid : Prop := encodingFilterAgreesRow.holds Tryz.pinned (OpenSpec.ofChange encodingFilterAgreesSpec)

/-- ITS FALSE NEIGHBOUR: 'it returns false'. Refute it at one input. -/
def encodingFilterAgreesWrong : ChangeSpec := { name := "encodingFilterAgrees", fn := fun _ => fun
  | [d1, d2] => { results := [.lit (.bool false)], args := [d1, d2] }
  | _ => none }
def EncodingFilterAgreesWrongFalsely : Prop := encodingFilterAgreesRow.holds Tryz.pinned (OpenSpec.ofChange encodingFilterAgreesWrong)

/-- 'laminalaw12.EncodingChooses': WHATEVER THE INPUT: true; the input reads as it did. -/
def encodingChoosesSpec : ChangeSpec := { name := "encodingChooses", fn := fun _ => fun
  | [d] => { results := [.lit (.bool true)], args := [d] }
  | _ => none }
def encodingChoosesRow : OpenClaim := { program := "ytpnabclcnplchaagreat", sum := "d3bc9e3df97195d2f9e832c651c9c73bd6361a0173ddeae79d3a2e7150a8139c", func := "lamina/laminalaw12.EncodingChooses", spec := "encodingChooses", inPlace := ["internal/bytealg.abigen_runtime_cmpstring"], unfollowed := true, recurses := true, apart := false }
def EncodingChoosesSaid : Prop := encodingChoosesRow.holds Tryz.pinned (OpenSpec.ofChange encodingChoosesSpec)

/-- ITS FALSE NEIGHBOUR: 'it returns false'. Refute it at one input. -/
def encodingChoosesWrong : ChangeSpec := { name := "encodingChooses", fn := fun _ => fun
  | [d] => { results := [.lit (.bool false)], args := [d] }
  | _ => none }
def EncodingChoosesWrongFalsely : Prop := encodingChoosesRow.holds Tryz.pinned (OpenSpec.ofChange encodingChoosesWrong)

/- THE SECOND FORM. 'bulk': how many values and letters a reading holds, each counted each time it is reached (what is shared counts as often as it is met; a slice's spare places count too). A statement '..UptoSaid' is the law's where the arguments, and the package variables that the reading takes, are together of bulk at most 1048576: NARROWER than '..Said'. Prove '..Said' where nothing that the law and all that it calls make is longer than what came in: it says more and counts as full. Else prove '..UptoSaid'. A law counts once. -/
mutual
def uptoBulk {H : Type} : DataW H → Nat
  | .lit (.string bytes) => bytes.length + 1
  | .lit _ => 1
  | .nil => 1
  | .ptr d => uptoBulk d + 1
  | .slice elems spare => uptoBulkAll elems + uptoBulkAll spare + 1
  | .agg parts => uptoBulkAll parts + 1
  | .iface _ d => uptoBulk d + 1
  | .map entries => uptoBulkEntries entries + 1
  | .held _ => 1
def uptoBulkAll {H : Type} : List (DataW H) → Nat
  | [] => 0
  | d :: r => uptoBulk d + uptoBulkAll r
def uptoBulkEntries {H : Type} : List (Lit × DataW H) → Nat
  | [] => 0
  | x :: r => uptoBulkEntry x + uptoBulkEntries r
def uptoBulkEntry {H : Type} : Lit × DataW H → Nat
  | (.string bytes, d) => bytes.length + uptoBulk d + 1
  | (_, d) => uptoBulk d + 1
 end
def uptoSmall : (H : Type) → List (DataW H) → Bool := fun _ ds => decide (uptoBulkAll ds ≤ 1048576)
def OpenSpec.upto (s : _root_.Go.ChangeSpec) : _root_.Go.OpenSpec := { _root_.Go.OpenSpec.ofChange s with cond := some uptoSmall }

/-- 'laminalaw12.EncodingEncode', WHERE WHAT IT READS IS OF BULK AT MOST 1048576: true; the input reads as it did. -/
def encodingEncodeUptoRow : OpenClaim := { program := "ytpnabclcnplchaagreat", sum := "d3bc9e3df97195d2f9e832c651c9c73bd6361a0173ddeae79d3a2e7150a8139c", func := "lamina/laminalaw12.EncodingEncode", spec := "encodingEncode", inPlace := ["internal/bytealg.abigen_runtime_cmpstring"], unfollowed := true, recurses := true, apart := false, narrowed := true }
def EncodingEncodeUptoSaid : Prop := encodingEncodeUptoRow.holds Tryz.pinned (OpenSpec.upto encodingEncodeSpec)

/-- 'laminalaw12.EncodingDecode', WHERE WHAT IT READS IS OF BULK AT MOST 1048576: true; the input reads as it did. -/
def encodingDecodeUptoRow : OpenClaim := { program := "ytpnabclcnplchaagreat", sum := "d3bc9e3df97195d2f9e832c651c9c73bd6361a0173ddeae79d3a2e7150a8139c", func := "lamina/laminalaw12.EncodingDecode", spec := "encodingDecode", inPlace := ["internal/bytealg.abigen_runtime_cmpstring"], unfollowed := true, recurses := true, apart := false, narrowed := true }
def EncodingDecodeUptoSaid : Prop := encodingDecodeUptoRow.holds Tryz.pinned (OpenSpec.upto encodingDecodeSpec)

/-- 'laminalaw12.EncodingFilter', WHERE WHAT IT READS IS OF BULK AT MOST 1048576: true; the input reads as it did. -/
def encodingFilterUptoRow : OpenClaim := { program := "ytpnabclcnplchaagreat", sum := "d3bc9e3df97195d2f9e832c651c9c73bd6361a0173ddeae79d3a2e7150a8139c", func := "lamina/laminalaw12.EncodingFilter", spec := "encodingFilter", inPlace := ["internal/bytealg.abigen_runtime_cmpstring"], unfollowed := true, recurses := true, apart := false, narrowed := true }
def EncodingFilterUptoSaid : Prop := encodingFilterUptoRow.holds Tryz.pinned (OpenSpec.upto encodingFilterSpec)

/-- 'laminalaw12.EncodingRoundTrip', WHERE WHAT IT READS IS OF BULK AT MOST 1048576: true; the input reads as it did. -/
def encodingRoundTripUptoRow : OpenClaim := { program := "ytpnabclcnplchaagreat", sum := "d3bc9e3df97195d2f9e832c651c9c73bd6361a0173ddeae79d3a2e7150a8139c", func := "lamina/laminalaw12.EncodingRoundTrip", spec := "encodingRoundTrip", inPlace := ["internal/bytealg.abigen_runtime_cmpstring"], unfollowed := true, recurses := true, apart := false, narrowed := true }
def EncodingRoundTripUptoSaid : Prop := encodingRoundTripUptoRow.holds Tryz.pinned (OpenSpec.upto encodingRoundTripSpec)

/-- 'laminalaw12.EncodingFilterAgrees', WHERE WHAT IT READS IS OF BULK AT MOST 1048576: true; the input reads as it did. -/
def encodingFilterAgreesUptoRow : OpenClaim := { program := "ytpnabclcnplchaagreat", sum := "d3bc9e3df97195d2f9e832c651c9c73bd6361a0173ddeae79d3a2e7150a8139c", func := "lamina/laminalaw12.EncodingFilterAgrees", spec := "encodingFilterAgrees", inPlace := ["internal/bytealg.abigen_runtime_cmpstring"], unfollowed := true, recurses := true, apart := false, narrowed := true }
def EncodingFilterAgreesUptoSaid : Prop := encodingFilterAgreesUptoRow.holds Tryz.pinned (OpenSpec.upto encodingFilterAgreesSpec)

/-- 'laminalaw12.EncodingChooses', WHERE WHAT IT READS IS OF BULK AT MOST 1048576: true; the input reads as it did. -/
def encodingChoosesUptoRow : OpenClaim := { program := "ytpnabclcnplchaagreat", sum := "d3bc9e3df97195d2f9e832c651c9c73bd6361a0173ddeae79d3a2e7150a8139c", func := "lamina/laminalaw12.EncodingChooses", spec := "encodingChooses", inPlace := ["internal/bytealg.abigen_runtime_cmpstring"], unfollowed := true, recurses := true, apart := false, narrowed := true }
def EncodingChoosesUptoSaid : Prop := encodingChoosesUptoRow.holds Tryz.pinned (OpenSpec.upto encodingChoosesSpec)

end Rows
end Go.Proofs.YtpnabclcnplchaaGreat
