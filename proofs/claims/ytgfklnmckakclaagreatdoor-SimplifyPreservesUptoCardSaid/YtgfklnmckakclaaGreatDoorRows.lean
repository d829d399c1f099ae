/-
  NARROWER THAN 'FOR EVERY INPUT', by the rows' own cells (each row's printed sentence says how): SimplifyFolds: loops, laid · SimplifyJoinKeys: loops, laid · SimplifyRejects: loops, laid · SimplifySound: loops, laid · SimplifyConjuncts: loops, laid · SimplifyPredicates: loops, laid · SimplifyPreserves: loops, laid · SimplifySplits: loops, laid.
  DERIVED. THE GIVEN ROWS OF THIS SEAT. 8 by the template 'for every input the law returns true; each argument reads behind the call as it read before'; 0 by the template 'total and deterministic' (their statements: YtgfklnmckakclaaGreatDoorTotals.lean).
  GIVEN WITH THE SEED: the statements are not yours to turn. If you find one false, say at which input.
  Laid BY PROGRAM, IN A SANDBOX (cutbox-rows.mjs): the forced cells as the released guide's own fill.sh prints them over the translation e93e865d8e96bf38… (all of the seat's roots in one cut). By AI agents, Wed Nov 11 2026. No macro, syntax, notation, axiom, sorry.
-/
import Derived.Test.YtgfklnmckakclaaGreatDoorChecked
import GoSem.PinnedTables
import GoSem.Claim
import GoSem.ClaimJoined
import GoSem.ClaimMapViews
import Derived.JoinedTies
import Derived.KernelRfl
namespace Go.Proofs.YtgfklnmckakclaaGreatDoor
/- THE CELL 'sum', in the pinned program and in every row, IS THE sha256 OF THE DUMP (.gsa) THAT YtgfklnmckakclaaGreatDoorProg.lean LOADS. Nothing in Lean hashes anything: it is a label: what it is worth is what the hold of that sum in a sandbox is worth. -/
noncomputable def Tryz.pinned : Pinned := { name := "ytgfklnmckakclaagreatdoor", sum := "e93e865d8e96bf38b3b814f77c8aff19edf131478fd6ab3d8fa6351b70b378ca", checked := Tryz.checked }
namespace Rows
def none {H : Type} : Left H := { results := [], args := [] }

/- WHAT THE LISTED PACKAGE-LEVEL VARIABLES READ AS WHEN THE CALL BEGINS. Each datum BY PROGRAM (the guide's laid-datum.mjs) off the statement by which the dump's own 'gosem.cut.vars' lays the variable. In a bare row this is a premise. The card (YtgfklnmckakclaaGreatDoorCards.lean) ties it to the program's text. -/
def laid_unicode_utf8_acceptRanges {H : Type} : DataW H := .agg [.agg [.lit (.int .u8 128), .lit (.int .u8 191)], .agg [.lit (.int .u8 160), .lit (.int .u8 191)], .agg [.lit (.int .u8 128), .lit (.int .u8 159)], .agg [.lit (.int .u8 144), .lit (.int .u8 191)], .agg [.lit (.int .u8 128), .lit (.int .u8 143)], .agg [.lit (.int .u8 0), .lit (.int .u8 0)], .agg [.lit (.int .u8 0), .lit (.int .u8 0)], .agg [.lit (.int .u8 0), .lit (.int .u8 0)], .agg [.lit (.int .u8 0), .lit (.int .u8 0)], .agg [.lit (.int .u8 0), .lit (.int .u8 0)], .agg [.lit (.int .u8 0), .lit (.int .u8 0)], .agg [.lit (.int .u8 0), .lit (.int .u8 0)], .agg [.lit (.int .u8 0), .lit (.int .u8 0)], .agg [.lit (.int .u8 0), .lit (.int .u8 0)], .agg [.lit (.int .u8 0), .lit (.int .u8 0)], .agg [.lit (.int .u8 0), .lit (.int .u8 0)]]
/-- One of Go's own tables, pinned by name: the form's constant. -/
def laid_unicode_utf8_first : DataW Unit := Go.Pinned.utf8First

/-- 'laminalaw40.SimplifyFolds': WHATEVER THE INPUT: true; the input reads as it did. -/
def simplifyFoldsSpec : ChangeSpec := { name := "simplifyFolds", fn := fun _ => fun
  | [d] => { results := [.lit (.bool true)], args := [d] }
  | _ => none }
def simplifyFoldsRow : OpenClaim := { program := "ytgfklnmckakclaagreatdoor", sum := "e93e865d8e96bf38b3b814f77c8aff19edf131478fd6ab3d8fa6351b70b378ca", func := "lamina/laminalaw40.SimplifyFolds", spec := "simplifyFolds", inPlace := ["internal/bytealg.IndexByteString", "internal/bytealg.IndexString", "internal/bytealg.abigen_runtime_cmpstring"], unfollowed := true, recurses := true, named := ["unicode/utf8.first", "unicode/utf8.acceptRanges", "internal/bytealg.MaxLen"], loops := true, apart := false, laid := [("unicode/utf8.acceptRanges", laid_unicode_utf8_acceptRanges), ("unicode/utf8.first", laid_unicode_utf8_first)] }
def SimplifyFoldsSaid : Prop := simplifyFoldsRow.holds Tryz.pinned (OpenSpec.ofChange simplifyFoldsSpec)

/-- ITS FALSE NEIGHBOUR: 'it returns false'. Refute it at one input. -/
def simplifyFoldsWrong : ChangeSpec := { name := "simplifyFolds", fn := fun _ => fun
  | [d] => { results := [.lit (.bool false)], args := [d] }
  | _ => none }
def SimplifyFoldsWrongFalsely : Prop := simplifyFoldsRow.holds Tryz.pinned (OpenSpec.ofChange simplifyFoldsWrong)

/-- 'laminalaw40.SimplifyJoinKeys': WHATEVER THE INPUT: true; the input reads as it did. -/
def simplifyJoinKeysSpec : ChangeSpec := { name := "simplifyJoinKeys", fn := fun _ => fun
  | [d1, d2] => { results := [.lit (.bool true)], args := [d1, d2] }
  | _ => none }
def simplifyJoinKeysRow : OpenClaim := { program := "ytgfklnmckakclaagreatdoor", sum := "e93e865d8e96bf38b3b814f77c8aff19edf131478fd6ab3d8fa6351b70b378ca", func := "lamina/laminalaw40.SimplifyJoinKeys", spec := "simplifyJoinKeys", inPlace := ["internal/bytealg.IndexByteString", "internal/bytealg.IndexString", "internal/bytealg.abigen_runtime_cmpstring"], unfollowed := true, recurses := true, named := ["unicode/utf8.first", "unicode/utf8.acceptRanges", "internal/bytealg.MaxLen"], loops := true, apart := false, laid := [("unicode/utf8.acceptRanges", laid_unicode_utf8_acceptRanges), ("unicode/utf8.first", laid_unicode_utf8_first)] }
def SimplifyJoinKeysSaid : Prop := simplifyJoinKeysRow.holds Tryz.pinned (OpenSpec.ofChange simplifyJoinKeysSpec)

/-- ITS FALSE NEIGHBOUR: 'it returns false'. Refute it at one input. -/
def simplifyJoinKeysWrong : ChangeSpec := { name := "simplifyJoinKeys", fn := fun _ => fun
  | [d1, d2] => { results := [.lit (.bool false)], args := [d1, d2] }
  | _ => none }
def SimplifyJoinKeysWrongFalsely : Prop := simplifyJoinKeysRow.holds Tryz.pinned (OpenSpec.ofChange simplifyJoinKeysWrong)

/-- 'laminalaw40.SimplifyRejects': WHATEVER THE INPUT: true; the input reads as it did. -/
def simplifyRejectsSpec : ChangeSpec := { name := "simplifyRejects", fn := fun _ => fun
  | [d1, d2] => { results := [.lit (.bool true)], args := [d1, d2] }
  | _ => none }
def simplifyRejectsRow : OpenClaim := { program := "ytgfklnmckakclaagreatdoor", sum := "e93e865d8e96bf38b3b814f77c8aff19edf131478fd6ab3d8fa6351b70b378ca", func := "lamina/laminalaw40.SimplifyRejects", spec := "simplifyRejects", inPlace := ["internal/bytealg.IndexByteString", "internal/bytealg.IndexString", "internal/bytealg.abigen_runtime_cmpstring"], unfollowed := true, recurses := true, named := ["unicode/utf8.first", "unicode/utf8.acceptRanges", "internal/bytealg.MaxLen"], loops := true, apart := false, laid := [("unicode/utf8.acceptRanges", laid_unicode_utf8_acceptRanges), ("unicode/utf8.first", laid_unicode_utf8_first)] }
def SimplifyRejectsSaid : Prop := simplifyRejectsRow.holds Tryz.pinned (OpenSpec.ofChange simplifyRejectsSpec)

/-- ITS FALSE NEIGHBOUR: 'it returns false'. Refute it at one input. -/
def simplifyRejectsWrong : ChangeSpec := { name := "simplifyRejects", fn := fun _ => fun
  | [d1, d2] => { results := [.lit (.bool false)], args := [d1, d2] }
  | _ => none }
def SimplifyRejectsWrongFalsely : Prop := simplifyRejectsRow.holds Tryz.pinned (OpenSpec.ofChange simplifyRejectsWrong)

/-- 'laminalaw40.SimplifySound': WHATEVER THE INPUT: true; the input reads as it did. -/
def simplifySoundSpec : ChangeSpec := { name := "simplifySound", fn := fun _ => fun
  | [d1, d2, d3] => { results := [.lit (.bool true)], args := [d1, d2, d3] }
  | _ => none }
def simplifySoundRow : OpenClaim := { program := "ytgfklnmckakclaagreatdoor", sum := "e93e865d8e96bf38b3b814f77c8aff19edf131478fd6ab3d8fa6351b70b378ca", func := "lamina/laminalaw40.SimplifySound", spec := "simplifySound", inPlace := ["internal/bytealg.IndexByteString", "internal/bytealg.IndexString", "internal/bytealg.abigen_runtime_cmpstring"], unfollowed := true, recurses := true, named := ["unicode/utf8.first", "unicode/utf8.acceptRanges", "internal/bytealg.MaxLen"], loops := true, apart := false, laid := [("unicode/utf8.acceptRanges", laid_unicode_utf8_acceptRanges), ("unicode/utf8.first", laid_unicode_utf8_first)] }
def SimplifySoundSaid : Prop := simplifySoundRow.holds Tryz.pinned (OpenSpec.ofChange simplifySoundSpec)

/-- ITS FALSE NEIGHBOUR: 'it returns false'. Refute it at one input. -/
def simplifySoundWrong : ChangeSpec := { name := "simplifySound", fn := fun _ => fun
  | [d1, d2, d3] => { results := [.lit (.bool false)], args := [d1, d2, d3] }
  | _ => none }
def SimplifySoundWrongFalsely : Prop := simplifySoundRow.holds Tryz.pinned (OpenSpec.ofChange simplifySoundWrong)

/-- 'laminalaw40.SimplifyConjuncts': WHATEVER THE INPUT: true; the input reads as it did. -/
def simplifyConjunctsSpec : ChangeSpec := { name := "simplifyConjuncts", fn := fun _ => fun
  | [d1, d2] => { results := [.lit (.bool true)], args := [d1, d2] }
  | _ => none }
def simplifyConjunctsRow : OpenClaim := { program := "ytgfklnmckakclaagreatdoor", sum := "e93e865d8e96bf38b3b814f77c8aff19edf131478fd6ab3d8fa6351b70b378ca", func := "lamina/laminalaw40.SimplifyConjuncts", spec := "simplifyConjuncts", inPlace := ["internal/bytealg.IndexByteString", "internal/bytealg.IndexString", "internal/bytealg.abigen_runtime_cmpstring"], unfollowed := true, recurses := true, named := ["unicode/utf8.first", "unicode/utf8.acceptRanges", "internal/bytealg.MaxLen"], loops := true, apart := false, laid := [("unicode/utf8.acceptRanges", laid_unicode_utf8_acceptRanges), ("unicode/utf8.first", laid_unicode_utf8_first)] }
def SimplifyConjunctsSaid : Prop := simplifyConjunctsRow.holds Tryz.pinned (OpenSpec.ofChange simplifyConjunctsSpec)

/-- ITS FALSE NEIGHBOUR: 'it returns false'. Refute it at one input. -/
def simplifyConjunctsWrong : ChangeSpec := { name := "simplifyConjuncts", fn := fun _ => fun
  | [d1, d2] => { results := [.lit (.bool false)], args := [d1, d2] }
  | _ => none }
def SimplifyConjunctsWrongFalsely : Prop := simplifyConjunctsRow.holds Tryz.pinned (OpenSpec.ofChange simplifyConjunctsWrong)

/-- 'laminalaw40.SimplifyPredicates': WHATEVER THE INPUT: true; the input reads as it did. -/
def simplifyPredicatesSpec : ChangeSpec := { name := "simplifyPredicates", fn := fun _ => fun
  | [d1, d2] => { results := [.lit (.bool true)], args := [d1, d2] }
  | _ => none }
def simplifyPredicatesRow : OpenClaim := { program := "ytgfklnmckakclaagreatdoor", sum := "e93e865d8e96bf38b3b814f77c8aff19edf131478fd6ab3d8fa6351b70b378ca", func := "lamina/laminalaw40.SimplifyPredicates", spec := "simplifyPredicates", inPlace := ["internal/bytealg.IndexByteString", "internal/bytealg.IndexString", "internal/bytealg.abigen_runtime_cmpstring"], unfollowed := true, recurses := true, named := ["unicode/utf8.first", "unicode/utf8.acceptRanges", "internal/bytealg.MaxLen"], loops := true, apart := false, laid := [("unicode/utf8.acceptRanges", laid_unicode_utf8_acceptRanges), ("unicode/utf8.first", laid_unicode_utf8_first)] }
def SimplifyPredicatesSaid : Prop := simplifyPredicatesRow.holds Tryz.pinned (OpenSpec.ofChange simplifyPredicatesSpec)

/-- ITS FALSE NEIGHBOUR: 'it returns false'. Refute it at one input. -/
def simplifyPredicatesWrong : ChangeSpec := { name := "simplifyPredicates", fn := fun _ => fun
  | [d1, d2] => { results := [.lit (.bool false)], args := [d1, d2] }
  | _ => none }
def SimplifyPredicatesWrongFalsely : Prop := simplifyPredicatesRow.holds Tryz.pinned (OpenSpec.ofChange simplifyPredicatesWrong)

/-- 'laminalaw40.SimplifyPreserves': WHATEVER THE INPUT: true; the input reads as it did. -/
def simplifyPreservesSpec : ChangeSpec := { name := "simplifyPreserves", fn := fun _ => fun
  | [d1, d2] => { results := [.lit (.bool true)], args := [d1, d2] }
  | _ => none }
def simplifyPreservesRow : OpenClaim := { program := "ytgfklnmckakclaagreatdoor", sum := "e93e865d8e96bf38b3b814f77c8aff19edf131478fd6ab3d8fa6351b70b378ca", func := "lamina/laminalaw40.SimplifyPreserves", spec := "simplifyPreserves", inPlace := ["internal/bytealg.IndexByteString", "internal/bytealg.IndexString", "internal/bytealg.abigen_runtime_cmpstring"], unfollowed := true, recurses := true, named := ["unicode/utf8.first", "unicode/utf8.acceptRanges", "internal/bytealg.MaxLen"], loops := true, apart := false, laid := [("unicode/utf8.acceptRanges", laid_unicode_utf8_acceptRanges), ("unicode/utf8.first", laid_unicode_utf8_first)] }
def SimplifyPreservesSaid : Prop := simplifyPreservesRow.holds Tryz.pinned (OpenSpec.ofChange simplifyPreservesSpec)

/-- ITS FALSE NEIGHBOUR: 'it returns false'. Refute it at one input. -/
def simplifyPreservesWrong : ChangeSpec := { name := "simplifyPreserves", fn := fun _ => fun
  | [d1, d2] => { results := [.lit (.bool false)], args := [d1, d2] }
  | _ => none }
def SimplifyPreservesWrongFalsely : Prop := simplifyPreservesRow.holds Tryz.pinned (OpenSpec.ofChange simplifyPreservesWrong)

/-- 'laminalaw40.SimplifySplits': WHATEVER THE INPUT: true; the input reads as it did. -/
def simplifySplitsSpec : ChangeSpec := { name := "simplifySplits", fn := fun _ => fun
  | [d1, d2] => { results := [.lit (.bool true)], args := [d1, d2] }
  | _ => none }
def simplifySplitsRow : OpenClaim := { program := "ytgfklnmckakclaagreatdoor", sum := "e93e865d8e96bf38b3b814f77c8aff19edf131478fd6ab3d8fa6351b70b378ca", func := "lamina/laminalaw40.SimplifySplits", spec := "simplifySplits", inPlace := ["internal/bytealg.IndexByteString", "internal/bytealg.IndexString", "internal/bytealg.abigen_runtime_cmpstring"], unfollowed := true, recurses := true, named := ["unicode/utf8.first", "unicode/utf8.acceptRanges", "internal/bytealg.MaxLen"], loops := true, apart := false, laid := [("unicode/utf8.acceptRanges", laid_unicode_utf8_acceptRanges), ("unicode/utf8.first", laid_unicode_utf8_first)] }
def SimplifySplitsSaid : Prop := simplifySplitsRow.holds Tryz.pinned (OpenSpec.ofChange simplifySplitsSpec)

/-- ITS FALSE NEIGHBOUR: 'it returns false'. Refute it at one input. -/
def simplifySplitsWrong : ChangeSpec := { name := "simplifySplits", fn := fun _ => fun
  | [d1, d2] => { results := [.lit (.bool false)], args := [d1, d2] }
  | _ => none }
def SimplifySplitsWrongFalsely : Prop := simplifySplitsRow.holds Tryz.pinned (OpenSpec.ofChange simplifySplitsWrong)

/- THE SECOND FORM. 'bulk': how many values and letters a reading holds, each counted each time it is reached (what is shared counts as often as it is met; a slice's spare places count too). A statement '..UptoSaid' is the law's where the arguments, and the package variables that the reading takes, are together of bulk at most 1048576: NARROWER than '..Said'. Prove '..Said' where nothing that the law and all that it calls make is longer than what came in: it says more and counts as full. Else prove '..UptoSaid'. A law counts once. -/
mutual
def uptoBulk {H : Type} : DataW H → Nat
  | .lit (.string bytes) => bytes.length + 1
  | .lit _ => 1
  | .nil => 1
  | .ptr d => uptoBulk d + 1
  | .slice elems spare => uptoBulkAll elems + uptoBulkAll spare + 1
  | .agg parts => uptoBulkAll parts + 1
  | .iface _ d => uptoBulk d + 1
  | .map entries => uptoBulkEntries entries + 1
  | .held _ => 1
def uptoBulkAll {H : Type} : List (DataW H) → Nat
  | [] => 0
  | d :: r => uptoBulk d + uptoBulkAll r
def uptoBulkEntries {H : Type} : List (Lit × DataW H) → Nat
  | [] => 0
  | x :: r => uptoBulkEntry x + uptoBulkEntries r
def uptoBulkEntry {H : Type} : Lit × DataW H → Nat
  | (.string bytes, d) => bytes.length + uptoBulk d + 1
  | (_, d) => uptoBulk d + 1
 end
def uptoSmall : (H : Type) → List (DataW H) → Bool := fun _ ds => decide (uptoBulkAll ds ≤ 1048576)
def OpenSpec.upto (s : _root_.Go.ChangeSpec) : _root_.Go.OpenSpec := { _root_.Go.OpenSpec.ofChange s with cond := some uptoSmall }

/-- 'laminalaw40.SimplifyFolds', WHERE WHAT IT READS IS OF BULK AT MOST 1048576: true; the input reads as it did. -/
def simplifyFoldsUptoRow : OpenClaim := { program := "ytgfklnmckakclaagreatdoor", sum := "e93e865d8e96bf38b3b814f77c8aff19edf131478fd6ab3d8fa6351b70b378ca", func := "lamina/laminalaw40.SimplifyFolds", spec := "simplifyFolds", inPlace := ["internal/bytealg.IndexByteString", "internal/bytealg.IndexString", "internal/bytealg.abigen_runtime_cmpstring"], unfollowed := true, recurses := true, named := ["unicode/utf8.first", "unicode/utf8.acceptRanges", "internal/bytealg.MaxLen"], loops := true, apart := false, laid := [("unicode/utf8.acceptRanges", laid_unicode_utf8_acceptRanges), ("unicode/utf8.first", laid_unicode_utf8_first)], narrowed := true }
def SimplifyFoldsUptoSaid : Prop := simplifyFoldsUptoRow.holds Tryz.pinned (OpenSpec.upto simplifyFoldsSpec)

/-- 'laminalaw40.SimplifyJoinKeys', WHERE WHAT IT READS IS OF BULK AT MOST 1048576: true; the input reads as it did. -/
def simplifyJoinKeysUptoRow : OpenClaim := { program := "ytgfklnmckakclaagreatdoor", sum := "e93e865d8e96bf38b3b814f77c8aff19edf131478fd6ab3d8fa6351b70b378ca", func := "lamina/laminalaw40.SimplifyJoinKeys", spec := "simplifyJoinKeys", inPlace := ["internal/bytealg.IndexByteString", "internal/bytealg.IndexString", "internal/bytealg.abigen_runtime_cmpstring"], unfollowed := true, recurses := true, named := ["unicode/utf8.first", "unicode/utf8.acceptRanges", "internal/bytealg.MaxLen"], loops := true, apart := false, laid := [("unicode/utf8.acceptRanges", laid_unicode_utf8_acceptRanges), ("unicode/utf8.first", laid_unicode_utf8_first)], narrowed := true }
def SimplifyJoinKeysUptoSaid : Prop := simplifyJoinKeysUptoRow.holds Tryz.pinned (OpenSpec.upto simplifyJoinKeysSpec)

/-- 'laminalaw40.SimplifyRejects', WHERE WHAT IT READS IS OF BULK AT MOST 1048576: true; the input reads as it did. -/
def simplifyRejectsUptoRow : OpenClaim := { program := "ytgfklnmckakclaagreatdoor", sum := "e93e865d8e96bf38b3b814f77c8aff19edf131478fd6ab3d8fa6351b70b378ca", func := "lamina/laminalaw40.SimplifyRejects", spec := "simplifyRejects", inPlace := ["internal/bytealg.IndexByteString", "internal/bytealg.IndexString", "internal/bytealg.abigen_runtime_cmpstring"], unfollowed := true, recurses := true, named := ["unicode/utf8.first", "unicode/utf8.acceptRanges", "internal/bytealg.MaxLen"], loops := true, apart := false, laid := [("unicode/utf8.acceptRanges", laid_unicode_utf8_acceptRanges), ("unicode/utf8.first", laid_unicode_utf8_first)], narrowed := true }
def SimplifyRejectsUptoSaid : Prop := simplifyRejectsUptoRow.holds Tryz.pinned (OpenSpec.upto simplifyRejectsSpec)

/-- 'laminalaw40.SimplifySound', WHERE WHAT IT READS IS OF BULK AT MOST 1048576: true; the input reads as it did. -/
def simplifySoundUptoRow : OpenClaim := { program := "ytgfklnmckakclaagreatdoor", sum := "e93e865d8e96bf38b3b814f77c8aff19edf131478fd6ab3d8fa6351b70b378ca", func := "lamina/laminalaw40.SimplifySound", spec := "simplifySound", inPlace := ["internal/bytealg.IndexByteString", "internal/bytealg.IndexString", "internal/bytealg.abigen_runtime_cmpstring"], unfollowed := true, recurses := true, named := ["unicode/utf8.first", "unicode/utf8.acceptRanges", "internal/bytealg.MaxLen"], loops := true, apart := false, laid := [("unicode/utf8.acceptRanges", laid_unicode_utf8_acceptRanges), ("unicode/utf8.first", laid_unicode_utf8_first)], narrowed := true }
def SimplifySoundUptoSaid : Prop := simplifySoundUptoRow.holds Tryz.pinned (OpenSpec.upto simplifySoundSpec)

/-- 'laminalaw40.SimplifyConjuncts', WHERE WHAT IT READS IS OF BULK AT MOST 1048576: true; the input reads as it did. -/
def simplifyConjunctsUptoRow : OpenClaim := { program := "ytgfklnmckakclaagreatdoor", sum := "e93e865d8e96bf38b3b814f77c8aff19edf131478fd6ab3d8fa6351b70b378ca", func := "lamina/laminalaw40.SimplifyConjuncts", spec := "simplifyConjuncts", inPlace := ["internal/bytealg.IndexByteString", "internal/bytealg.IndexString", "internal/bytealg.abigen_runtime_cmpstring"], unfollowed := true, recurses := true, named := ["unicode/utf8.first", "unicode/utf8.acceptRanges", "internal/bytealg.MaxLen"], loops := true, apart := false, laid := [("unicode/utf8.acceptRanges", laid_unicode_utf8_acceptRanges), ("unicode/utf8.first", laid_unicode_utf8_first)], narrowed := true }
def SimplifyConjunctsUptoSaid : Prop := simplifyConjunctsUptoRow.holds Tryz.pinned (OpenSpec.upto simplifyConjunctsSpec)

/-- 'laminalaw40.SimplifyPredicates', WHERE WHAT IT READS IS OF BULK AT MOST 1048576: true; the input reads as it did. -/
def simplifyPredicatesUptoRow : OpenClaim := { program := "ytgfklnmckakclaagreatdoor", sum := "e93e865d8e96bf38b3b814f77c8aff19edf131478fd6ab3d8fa6351b70b378ca", func := "lamina/laminalaw40.SimplifyPredicates", spec := "simplifyPredicates", inPlace := ["internal/bytealg.IndexByteString", "internal/bytealg.IndexString", "internal/bytealg.abigen_runtime_cmpstring"], unfollowed := true, recurses := true, named := ["unicode/utf8.first", "unicode/utf8.acceptRanges", "internal/bytealg.MaxLen"], loops := true, apart := false, laid := [("unicode/utf8.acceptRanges", laid_unicode_utf8_acceptRanges), ("unicode/utf8.first", laid_unicode_utf8_first)], narrowed := true }
def SimplifyPredicatesUptoSaid : Prop := simplifyPredicatesUptoRow.holds Tryz.pinned (OpenSpec.upto simplifyPredicatesSpec)

/-- 'laminalaw40.SimplifyPreserves', WHERE WHAT IT READS IS OF BULK AT MOST 1048576: true; the input reads as it did. -/
def simplifyPreservesUptoRow : OpenClaim := { program := "ytgfklnmckakclaagreatdoor", sum := "e93e865d8e96bf38b3b814f77c8aff19edf131478fd6ab3d8fa6351b70b378ca", func := "lamina/laminalaw40.SimplifyPreserves", spec := "simplifyPreserves", inPlace := ["internal/bytealg.IndexByteString", "internal/bytealg.IndexString", "internal/bytealg.abigen_runtime_cmpstring"], unfollowed := true, recurses := true, named := ["unicode/utf8.first", "unicode/utf8.acceptRanges", "internal/bytealg.MaxLen"], loops := true, apart := false, laid := [("unicode/utf8.acceptRanges", laid_unicode_utf8_acceptRanges), ("unicode/utf8.first", laid_unicode_utf8_first)], narrowed := true }
def SimplifyPreservesUptoSaid : Prop := simplifyPreservesUptoRow.holds Tryz.pinned (OpenSpec.upto simplifyPreservesSpec)

/-- 'laminalaw40.SimplifySplits', WHERE WHAT IT READS IS OF BULK AT MOST 1048576: true; the input reads as it did. -/
def simplifySplitsUptoRow : OpenClaim := { program := "ytgfklnmckakclaagreatdoor", sum := "e93e865d8e96bf38b3b814f77c8aff19edf131478fd6ab3d8fa6351b70b378ca", func := "lamina/laminalaw40.SimplifySplits", spec := "simplifySplits", inPlace := ["internal/bytealg.IndexByteString", "internal/bytealg.IndexString", "internal/bytealg.abigen_runtime_cmpstring"], unfollowed := true, recurses := true, named := ["unicode/utf8.first", "unicode/utf8.acceptRanges", "internal/bytealg.MaxLen"], loops := true, apart := false, laid := [("unicode/utf8.acceptRanges", laid_unicode_utf8_acceptRanges), ("unicode/utf8.first", laid_unicode_utf8_first)], narrowed := true }
def SimplifySplitsUptoSaid : Prop := simplifySplitsUptoRow.holds Tryz.pinned (OpenSpec.upto simplifySplitsSpec)

end Rows
end Go.Proofs.YtgfklnmckakclaaGreatDoor
