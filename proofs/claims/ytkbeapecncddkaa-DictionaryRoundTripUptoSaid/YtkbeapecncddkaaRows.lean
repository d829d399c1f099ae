/-
  No cell of these rows narrows 'for every input' (looked for: loops, veiled, ifaces, maps, wideKeys, modest, calm, conditions, laid).
  DERIVED. THE GIVEN ROWS OF THIS SEAT. 5 by the template 'for every input the law returns true; each argument reads behind the call as it read before'; 0 by the template 'total and deterministic' (their statements: YtkbeapecncddkaaTotals.lean).
  GIVEN WITH THE SEED: the statements are not yours to turn. If you find one false, say at which input.
  Laid BY PROGRAM, IN A SANDBOX (cutbox-rows.mjs): the forced cells as the released guide's own fill.sh prints them over the translation a27d8bfa1bf78209… (all of the seat's roots in one cut). By AI agents, Wed Nov 11 2026. No macro, syntax, notation, axiom, sorry.
-/
import Derived.Test.YtkbeapecncddkaaChecked
import GoSem.Claim
import GoSem.ClaimJoined
import GoSem.ClaimMapViews
import Derived.JoinedTies
import Derived.KernelRfl
namespace Go.Proofs.Ytkbeapecncddkaa
/- THE CELL 'sum', in the pinned program and in every row, IS THE sha256 OF THE DUMP (.gsa) THAT YtkbeapecncddkaaProg.lean LOADS. Nothing in Lean hashes anything: it is a label: what it is worth is what the hold of that sum in a sandbox is worth. -/
noncomputable def Try.pinned : Pinned := { name := "ytkbeapecncddkaa", sum := "a27d8bfa1bf78209318b314d242298d8a82ff8bba11189b876c91ecd3b011928", checked := Try.checked }
namespace Rows
def none {H : Type} : Left H := { results := [], args := [] }

/-- 'laminalaw10.DictionaryBuilds': WHATEVER THE INPUT: true; the input reads as it did. -/
def dictionaryBuildsSpec : ChangeSpec := { name := "dictionaryBuilds", fn := fun _ => fun
  | [d1, d2] => { results := [.lit (.bool true)], args := [d1, d2] }
  | _ => none }
def dictionaryBuildsRow : OpenClaim := { program := "ytkbeapecncddkaa", sum := "a27d8bfa1bf78209318b314d242298d8a82ff8bba11189b876c91ecd3b011928", func := "lamina/laminalaw10.DictionaryBuilds", spec := "dictionaryBuilds", unfollowed := true, recurses := true, apart := false }
def DictionaryBuildsSaid : Prop := dictionaryBuildsRow.holds Try.pinned (OpenSpec.ofChange dictionaryBuildsSpec)

/-- ITS FALSE NEIGHBOUR: 'it returns false'. Refute it at one input. -/
def dictionaryBuildsWrong : ChangeSpec := { name := "dictionaryBuilds", fn := fun _ => fun
  | [d1, d2] => { results := [.lit (.bool false)], args := [d1, d2] }
  | _ => none }
def DictionaryBuildsWrongFalsely : Prop := dictionaryBuildsRow.holds Try.pinned (OpenSpec.ofChange dictionaryBuildsWrong)

/-- 'laminalaw10.DictionaryRanges': WHATEVER THE INPUT: true; the input reads as it did. -/
def dictionaryRangesSpec : ChangeSpec := { name := "dictionaryRanges", fn := fun _ => fun
  | [d1, d2, d3] => { results := [.lit (.bool true)], args := [d1, d2, d3] }
  | _ => none }
def dictionaryRangesRow : OpenClaim := { program := "ytkbeapecncddkaa", sum := "a27d8bfa1bf78209318b314d242298d8a82ff8bba11189b876c91ecd3b011928", func := "lamina/laminalaw10.DictionaryRanges", spec := "dictionaryRanges", unfollowed := true, recurses := true, apart := false }
def DictionaryRangesSaid : Prop := dictionaryRangesRow.holds Try.pinned (OpenSpec.ofChange dictionaryRangesSpec)

/-- ITS FALSE NEIGHBOUR: 'it returns false'. Refute it at one input. -/
def dictionaryRangesWrong : ChangeSpec := { name := "dictionaryRanges", fn := fun _ => fun
  | [d1, d2, d3] => { results := [.lit (.bool false)], args := [d1, d2, d3] }
  | _ => none }
def DictionaryRangesWrongFalsely : Prop := dictionaryRangesRow.holds Try.pinned (OpenSpec.ofChange dictionaryRangesWrong)

/-- 'laminalaw10.DictionaryEncodes': WHATEVER THE INPUT: true; the input reads as it did. -/
def dictionaryEncodesSpec : ChangeSpec := { name := "dictionaryEncodes", fn := fun _ => fun
  | [d] => { results := [.lit (.bool true)], args := [d] }
  | _ => none }
def dictionaryEncodesRow : OpenClaim := { program := "ytkbeapecncddkaa", sum := "a27d8bfa1bf78209318b314d242298d8a82ff8bba11189b876c91ecd3b011928", func := "lamina/laminalaw10.DictionaryEncodes", spec := "dictionaryEncodes", unfollowed := true, recurses := true, apart := false }
def DictionaryEncodesSaid : Prop := dictionaryEncodesRow.holds Try.pinned (OpenSpec.ofChange dictionaryEncodesSpec)

/-- ITS FALSE NEIGHBOUR: 'it returns false'. Refute it at one input. -/
def dictionaryEncodesWrong : ChangeSpec := { name := "dictionaryEncodes", fn := fun _ => fun
  | [d] => { results := [.lit (.bool false)], args := [d] }
  | _ => none }
def DictionaryEncodesWrongFalsely : Prop := dictionaryEncodesRow.holds Try.pinned (OpenSpec.ofChange dictionaryEncodesWrong)

/-- 'laminalaw10.DictionaryDecodes': WHATEVER THE INPUT: true; the input reads as it did. -/
def dictionaryDecodesSpec : ChangeSpec := { name := "dictionaryDecodes", fn := fun _ => fun
  | [d1, d2, d3] => { results := [.lit (.bool true)], args := [d1, d2, d3] }
  | _ => none }
def dictionaryDecodesRow : OpenClaim := { program := "ytkbeapecncddkaa", sum := "a27d8bfa1bf78209318b314d242298d8a82ff8bba11189b876c91ecd3b011928", func := "lamina/laminalaw10.DictionaryDecodes", spec := "dictionaryDecodes", unfollowed := true, recurses := true, apart := false }
def DictionaryDecodesSaid : Prop := dictionaryDecodesRow.holds Try.pinned (OpenSpec.ofChange dictionaryDecodesSpec)

/-- ITS FALSE NEIGHBOUR: 'it returns false'. Refute it at one input. -/
def dictionaryDecodesWrong : ChangeSpec := { name := "dictionaryDecodes", fn := fun _ => fun
  | [d1, d2, d3] => { results := [.lit (.bool false)], args := [d1, d2, d3] }
  | _ => none }
def DictionaryDecodesWrongFalsely : Prop := dictionaryDecodesRow.holds Try.pinned (OpenSpec.ofChange dictionaryDecodesWrong)

/-- 'laminalaw10.DictionaryRoundTrip': WHATEVER THE INPUT: true; the input reads as it did. -/
def dictionaryRoundTripSpec : ChangeSpec := { name := "dictionaryRoundTrip", fn := fun _ => fun
  | [d1, d2, d3] => { results := [.lit (.bool true)], args := [d1, d2, d3] }
  | _ => none }
def dictionaryRoundTripRow : OpenClaim := { program := "ytkbeapecncddkaa", sum := "a27d8bfa1bf78209318b314d242298d8a82ff8bba11189b876c91ecd3b011928", func := "lamina/laminalaw10.DictionaryRoundTrip", spec := "dictionaryRoundTrip", unfollowed := true, recurses := true, apart := false }
def DictionaryRoundTripSaid : Prop := dictionaryRoundTripRow.holds Try.pinned (OpenSpec.ofChange dictionaryRoundTripSpec)

/-- ITS FALSE NEIGHBOUR: 'it returns false'. Refute it at one input. -/
def dictionaryRoundTripWrong : ChangeSpec := { name := "dictionaryRoundTrip", fn := fun _ => fun
  | [d1, d2, d3] => { results := [.lit (.bool false)], args := [d1, d2, d3] }
  | _ => none }
def DictionaryRoundTripWrongFalsely : Prop := dictionaryRoundTripRow.holds Try.pinned (OpenSpec.ofChange dictionaryRoundTripWrong)

/- THE SECOND FORM. 'bulk': how many values and letters a reading holds, each counted each time it is reached (what is shared counts as often as it is met; a slice's spare places count too). A statement '..UptoSaid' is the law's where the arguments, and the package variables that the reading takes, are together of bulk at most 1048576: NARROWER than '..Said'. Prove '..Said' where nothing that the law and all that it calls make is longer than what came in: it says more and counts as full. Else prove '..UptoSaid'. A law counts once. -/
mutual
def uptoBulk {H : Type} : DataW H → Nat
  | .lit (.string bytes) => bytes.length + 1
  | .lit _ => 1
  | .nil => 1
  | .ptr d => uptoBulk d + 1
  | .slice elems spare => uptoBulkAll elems + uptoBulkAll spare + 1
  | .agg parts => uptoBulkAll parts + 1
  | .iface _ d => uptoBulk d + 1
  | .map entries => uptoBulkEntries entries + 1
  | .held _ => 1
def uptoBulkAll {H : Type} : List (DataW H) → Nat
  | [] => 0
  | d :: r => uptoBulk d + uptoBulkAll r
def uptoBulkEntries {H : Type} : List (Lit × DataW H) → Nat
  | [] => 0
  | x :: r => uptoBulkEntry x + uptoBulkEntries r
def uptoBulkEntry {H : Type} : Lit × DataW H → Nat
  | (.string bytes, d) => bytes.length + uptoBulk d + 1
  | (_, d) => uptoBulk d + 1
 end
def uptoSmall : (H : Type) → List (DataW H) → Bool := fun _ ds => decide (uptoBulkAll ds ≤ 1048576)
def OpenSpec.upto (s : _root_.Go.ChangeSpec) : _root_.Go.OpenSpec := { _root_.Go.OpenSpec.ofChange s with cond := some uptoSmall }

/-- 'laminalaw10.DictionaryBuilds', WHERE WHAT IT READS IS OF BULK AT MOST 1048576: true; the input reads as it did. -/
def dictionaryBuildsUptoRow : OpenClaim := { program := "ytkbeapecncddkaa", sum := "a27d8bfa1bf78209318b314d242298d8a82ff8bba11189b876c91ecd3b011928", func := "lamina/laminalaw10.DictionaryBuilds", spec := "dictionaryBuilds", unfollowed := true, recurses := true, apart := false, narrowed := true }
def DictionaryBuildsUptoSaid : Prop := dictionaryBuildsUptoRow.holds Try.pinned (OpenSpec.upto dictionaryBuildsSpec)

/-- 'laminalaw10.DictionaryRanges', WHERE WHAT IT READS IS OF BULK AT MOST 1048576: true; the input reads as it did. -/
def dictionaryRangesUptoRow : OpenClaim := { program := "ytkbeapecncddkaa", sum := "a27d8bfa1bf78209318b314d242298d8a82ff8bba11189b876c91ecd3b011928", func := "lamina/laminalaw10.DictionaryRanges", spec := "dictionaryRanges", unfollowed := true, recurses := true, apart := false, narrowed := true }
def DictionaryRangesUptoSaid : Prop := dictionaryRangesUptoRow.holds Try.pinned (OpenSpec.upto dictionaryRangesSpec)

/-- 'laminalaw10.DictionaryEncodes', WHERE WHAT IT READS IS OF BULK AT MOST 1048576: true; the input reads as it did. -/
def dictionaryEncodesUptoRow : OpenClaim := { program := "ytkbeapecncddkaa", sum := "a27d8bfa1bf78209318b314d242298d8a82ff8bba11189b876c91ecd3b011928", func := "lamina/laminalaw10.DictionaryEncodes", spec := "dictionaryEncodes", unfollowed := true, recurses := true, apart := false, narrowed := true }
def DictionaryEncodesUptoSaid : Prop := dictionaryEncodesUptoRow.holds Try.pinned (OpenSpec.upto dictionaryEncodesSpec)

/-- 'laminalaw10.DictionaryDecodes', WHERE WHAT IT READS IS OF BULK AT MOST 1048576: true; the input reads as it did. -/
def dictionaryDecodesUptoRow : OpenClaim := { program := "ytkbeapecncddkaa", sum := "a27d8bfa1bf78209318b314d242298d8a82ff8bba11189b876c91ecd3b011928", func := "lamina/laminalaw10.DictionaryDecodes", spec := "dictionaryDecodes", unfollowed := true, recurses := true, apart := false, narrowed := true }
def DictionaryDecodesUptoSaid : Prop := dictionaryDecodesUptoRow.holds Try.pinned (OpenSpec.upto dictionaryDecodesSpec)

/-- 'laminalaw10.DictionaryRoundTrip', WHERE WHAT IT READS IS OF BULK AT MOST 1048576: true; the input reads as it did. -/
def dictionaryRoundTripUptoRow : OpenClaim := { program := "ytkbeapecncddkaa", sum := "a27d8bfa1bf78209318b314d242298d8a82ff8bba11189b876c91ecd3b011928", func := "lamina/laminalaw10.DictionaryRoundTrip", spec := "dictionaryRoundTrip", unfollowed := true, recurses := true, apart := false, narrowed := true }
def DictionaryRoundTripUptoSaid : Prop := dictionaryRoundTripUptoRow.holds Try.pinned (OpenSpec.upto dictionaryRoundTripSpec)

end Rows
end Go.Proofs.Ytkbeapecncddkaa
