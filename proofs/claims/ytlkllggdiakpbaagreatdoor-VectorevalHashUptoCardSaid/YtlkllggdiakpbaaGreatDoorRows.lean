/-
  NARROWER THAN 'FOR EVERY INPUT', by the rows' own cells (each row's printed sentence says how): VectorevalEval: loops, laid · VectorevalProject: loops, laid · VectorevalHash: laid · VectorevalSelection: loops, laid · VectorevalConjunction: loops, laid.
  DERIVED. THE GIVEN ROWS OF THIS SEAT. 5 by the template 'for every input the law returns true; each argument reads behind the call as it read before'; 0 by the template 'total and deterministic' (their statements: YtlkllggdiakpbaaGreatDoorTotals.lean).
  GIVEN WITH THE SEED: the statements are not yours to turn. If you find one false, say at which input.
  Laid BY PROGRAM, IN A SANDBOX (cutbox-rows.mjs): the forced cells as the released guide's own fill.sh prints them over the translation 4d809aa18780ebae… (all of the seat's roots in one cut). By AI agents, Wed Nov 11 2026. No macro, syntax, notation, axiom, sorry.
-/
import Derived.Test.YtlkllggdiakpbaaGreatDoorChecked
import GoSem.PinnedTables
import GoSem.Claim
import GoSem.ClaimJoined
import GoSem.ClaimMapViews
import Derived.JoinedTies
import Derived.KernelRfl
namespace Go.Proofs.YtlkllggdiakpbaaGreatDoor
/- THE CELL 'sum', in the pinned program and in every row, IS THE sha256 OF THE DUMP (.gsa) THAT YtlkllggdiakpbaaGreatDoorProg.lean LOADS. Nothing in Lean hashes anything: it is a label: what it is worth is what the hold of that sum in a sandbox is worth. -/
noncomputable def Tryz.pinned : Pinned := { name := "ytlkllggdiakpbaagreatdoor", sum := "4d809aa18780ebae53aa5563f3f1d13093f8c543e69716e7d99cc9163b4125c4", checked := Tryz.checked }
namespace Rows
def none {H : Type} : Left H := { results := [], args := [] }

/- WHAT THE LISTED PACKAGE-LEVEL VARIABLES READ AS WHEN THE CALL BEGINS. Each datum BY PROGRAM (the guide's laid-datum.mjs) off the statement by which the dump's own 'gosem.cut.vars' lays the variable. In a bare row this is a premise. The card (YtlkllggdiakpbaaGreatDoorCards.lean) ties it to the program's text. -/
def laid_unicode_utf8_acceptRanges {H : Type} : DataW H := .agg [.agg [.lit (.int .u8 128), .lit (.int .u8 191)], .agg [.lit (.int .u8 160), .lit (.int .u8 191)], .agg [.lit (.int .u8 128), .lit (.int .u8 159)], .agg [.lit (.int .u8 144), .lit (.int .u8 191)], .agg [.lit (.int .u8 128), .lit (.int .u8 143)], .agg [.lit (.int .u8 0), .lit (.int .u8 0)], .agg [.lit (.int .u8 0), .lit (.int .u8 0)], .agg [.lit (.int .u8 0), .lit (.int .u8 0)], .agg [.lit (.int .u8 0), .lit (.int .u8 0)], .agg [.lit (.int .u8 0), .lit (.int .u8 0)], .agg [.lit (.int .u8 0), .lit (.int .u8 0)], .agg [.lit (.int .u8 0), .lit (.int .u8 0)], .agg [.lit (.int .u8 0), .lit (.int .u8 0)], .agg [.lit (.int .u8 0), .lit (.int .u8 0)], .agg [.lit (.int .u8 0), .lit (.int .u8 0)], .agg [.lit (.int .u8 0), .lit (.int .u8 0)]]
/-- One of Go's own tables, pinned by name: the form's constant. -/
def laid_unicode_utf8_first : DataW Unit := Go.Pinned.utf8First

/-- 'laminalaw42.VectorevalEval': WHATEVER THE INPUT: true; the input reads as it did. -/
def vectorevalEvalSpec : ChangeSpec := { name := "vectorevalEval", fn := fun _ => fun
  | [d1, d2] => { results := [.lit (.bool true)], args := [d1, d2] }
  | _ => none }
def vectorevalEvalRow : OpenClaim := { program := "ytlkllggdiakpbaagreatdoor", sum := "4d809aa18780ebae53aa5563f3f1d13093f8c543e69716e7d99cc9163b4125c4", func := "lamina/laminalaw42.VectorevalEval", spec := "vectorevalEval", inPlace := ["internal/bytealg.IndexByteString", "internal/bytealg.IndexString", "internal/bytealg.abigen_runtime_cmpstring"], unfollowed := true, recurses := true, named := ["unicode/utf8.first", "unicode/utf8.acceptRanges", "internal/bytealg.MaxLen"], loops := true, apart := false, laid := [("unicode/utf8.acceptRanges", laid_unicode_utf8_acceptRanges), ("unicode/utf8.first", laid_unicode_utf8_first)] }
def VectorevalEvalSaid : Prop := vectorevalEvalRow.holds Tryz.pinned (OpenSpec.ofChange vectorevalEvalSpec)

/-- ITS FALSE NEIGHBOUR: 'it returns false'. Refute it at one input. -/
def vectorevalEvalWrong : ChangeSpec := { name := "vectorevalEval", fn := fun _ => fun
  | [d1, d2] => { results := [.lit (.bool false)], args := [d1, d2] }
  | _ => none }
def VectorevalEvalWrongFalsely : Prop := vectorevalEvalRow.holds Tryz.pinned (OpenSpec.ofChange vectorevalEvalWrong)

/-- 'laminalaw42.VectorevalProject': WHATEVER THE INPUT: true; the input reads as it did. -/
def vectorevalProjectSpec : ChangeSpec := { name := "vectorevalProject", fn := fun _ => fun
  | [d1, d2] => { results := [.lit (.bool true)], args := [d1, d2] }
  | _ => none }
def vectorevalProjectRow : OpenClaim := { program := "ytlkllggdiakpbaagreatdoor", sum := "4d809aa18780ebae53aa5563f3f1d13093f8c543e69716e7d99cc9163b4125c4", func := "lamina/laminalaw42.VectorevalProject", spec := "vectorevalProject", inPlace := ["internal/bytealg.IndexByteString", "internal/bytealg.IndexString", "internal/bytealg.abigen_runtime_cmpstring"], unfollowed := true, recurses := true, named := ["unicode/utf8.first", "unicode/utf8.acceptRanges", "internal/bytealg.MaxLen"], loops := true, apart := false, laid := [("unicode/utf8.acceptRanges", laid_unicode_utf8_acceptRanges), ("unicode/utf8.first", laid_unicode_utf8_first)] }
def VectorevalProjectSaid : Prop := vectorevalProjectRow.holds Tryz.pinned (OpenSpec.ofChange vectorevalProjectSpec)

/-- ITS FALSE NEIGHBOUR: 'it returns false'. Refute it at one input. -/
def vectorevalProjectWrong : ChangeSpec := { name := "vectorevalProject", fn := fun _ => fun
  | [d1, d2] => { results := [.lit (.bool false)], args := [d1, d2] }
  | _ => none }
def VectorevalProjectWrongFalsely : Prop := vectorevalProjectRow.holds Tryz.pinned (OpenSpec.ofChange vectorevalProjectWrong)

/-- 'laminalaw42.VectorevalHash': WHATEVER THE INPUT: true; the input reads as it did. -/
def vectorevalHashSpec : ChangeSpec := { name := "vectorevalHash", fn := fun _ => fun
  | [d1, d2, d3, d4, d5] => { results := [.lit (.bool true)], args := [d1, d2, d3, d4, d5] }
  | _ => none }
def vectorevalHashRow : OpenClaim := { program := "ytlkllggdiakpbaagreatdoor", sum := "4d809aa18780ebae53aa5563f3f1d13093f8c543e69716e7d99cc9163b4125c4", func := "lamina/laminalaw42.VectorevalHash", spec := "vectorevalHash", inPlace := ["internal/bytealg.IndexByteString", "internal/bytealg.IndexString", "internal/bytealg.abigen_runtime_cmpstring"], unfollowed := true, recurses := true, named := ["unicode/utf8.first", "unicode/utf8.acceptRanges", "internal/bytealg.MaxLen"], apart := false, laid := [("unicode/utf8.acceptRanges", laid_unicode_utf8_acceptRanges), ("unicode/utf8.first", laid_unicode_utf8_first)] }
def VectorevalHashSaid : Prop := vectorevalHashRow.holds Tryz.pinned (OpenSpec.ofChange vectorevalHashSpec)

/-- ITS FALSE NEIGHBOUR: 'it returns false'. Refute it at one input. -/
def vectorevalHashWrong : ChangeSpec := { name := "vectorevalHash", fn := fun _ => fun
  | [d1, d2, d3, d4, d5] => { results := [.lit (.bool false)], args := [d1, d2, d3, d4, d5] }
  | _ => none }
def VectorevalHashWrongFalsely : Prop := vectorevalHashRow.holds Tryz.pinned (OpenSpec.ofChange vectorevalHashWrong)

/-- 'laminalaw42.VectorevalSelection': WHATEVER THE INPUT: true; the input reads as it did. -/
def vectorevalSelectionSpec : ChangeSpec := { name := "vectorevalSelection", fn := fun _ => fun
  | [d1, d2] => { results := [.lit (.bool true)], args := [d1, d2] }
  | _ => none }
def vectorevalSelectionRow : OpenClaim := { program := "ytlkllggdiakpbaagreatdoor", sum := "4d809aa18780ebae53aa5563f3f1d13093f8c543e69716e7d99cc9163b4125c4", func := "lamina/laminalaw42.VectorevalSelection", spec := "vectorevalSelection", inPlace := ["internal/bytealg.IndexByteString", "internal/bytealg.IndexString", "internal/bytealg.abigen_runtime_cmpstring"], unfollowed := true, recurses := true, named := ["unicode/utf8.first", "unicode/utf8.acceptRanges", "internal/bytealg.MaxLen"], loops := true, apart := false, laid := [("unicode/utf8.acceptRanges", laid_unicode_utf8_acceptRanges), ("unicode/utf8.first", laid_unicode_utf8_first)] }
def VectorevalSelectionSaid : Prop := vectorevalSelectionRow.holds Tryz.pinned (OpenSpec.ofChange vectorevalSelectionSpec)

/-- ITS FALSE NEIGHBOUR: 'it returns false'. Refute it at one input. -/
def vectorevalSelectionWrong : ChangeSpec := { name := "vectorevalSelection", fn := fun _ => fun
  | [d1, d2] => { results := [.lit (.bool false)], args := [d1, d2] }
  | _ => none }
def VectorevalSelectionWrongFalsely : Prop := vectorevalSelectionRow.holds Tryz.pinned (OpenSpec.ofChange vectorevalSelectionWrong)

/-- 'laminalaw42.VectorevalConjunction': WHATEVER THE INPUT: true; the input reads as it did. -/
def vectorevalConjunctionSpec : ChangeSpec := { name := "vectorevalConjunction", fn := fun _ => fun
  | [d1, d2, d3] => { results := [.lit (.bool true)], args := [d1, d2, d3] }
  | _ => none }
def vectorevalConjunctionRow : OpenClaim := { program := "ytlkllggdiakpbaagreatdoor", sum := "4d809aa18780ebae53aa5563f3f1d13093f8c543e69716e7d99cc9163b4125c4", func := "lamina/laminalaw42.VectorevalConjunction", spec := "vectorevalConjunction", inPlace := ["internal/bytealg.IndexByteString", "internal/bytealg.IndexString", "internal/bytealg.abigen_runtime_cmpstring"], unfollowed := true, recurses := true, named := ["unicode/utf8.first", "unicode/utf8.acceptRanges", "internal/bytealg.MaxLen"], loops := true, apart := false, laid := [("unicode/utf8.acceptRanges", laid_unicode_utf8_acceptRanges), ("unicode/utf8.first", laid_unicode_utf8_first)] }
def VectorevalConjunctionSaid : Prop := vectorevalConjunctionRow.holds Tryz.pinned (OpenSpec.ofChange vectorevalConjunctionSpec)

/-- ITS FALSE NEIGHBOUR: 'it returns false'. Refute it at one input. -/
def vectorevalConjunctionWrong : ChangeSpec := { name := "vectorevalConjunction", fn := fun _ => fun
  | [d1, d2, d3] => { results := [.lit (.bool false)], args := [d1, d2, d3] }
  | _ => none }
def VectorevalConjunctionWrongFalsely : Prop := vectorevalConjunctionRow.holds Tryz.pinned (OpenSpec.ofChange vectorevalConjunctionWrong)

/- THE SECOND FORM. 'bulk': how many values and letters a reading holds, each counted each time it is reached (what is shared counts as often as it is met; a slice's spare places count too). A statement '..UptoSaid' is the law's where the arguments, and the package variables that the reading takes, are together of bulk at most 1048576: NARROWER than '..Said'. Prove '..Said' where nothing that the law and all that it calls make is longer than what came in: it says more and counts as full. Else prove '..UptoSaid'. A law counts once. -/
mutual
def uptoBulk {H : Type} : DataW H → Nat
  | .lit (.string bytes) => bytes.length + 1
  | .lit _ => 1
  | .nil => 1
  | .ptr d => uptoBulk d + 1
  | .slice elems spare => uptoBulkAll elems + uptoBulkAll spare + 1
  | .agg parts => uptoBulkAll parts + 1
  | .iface _ d => uptoBulk d + 1
  | .map entries => uptoBulkEntries entries + 1
  | .held _ => 1
def uptoBulkAll {H : Type} : List (DataW H) → Nat
  | [] => 0
  | d :: r => uptoBulk d + uptoBulkAll r
def uptoBulkEntries {H : Type} : List (Lit × DataW H) → Nat
  | [] => 0
  | x :: r => uptoBulkEntry x + uptoBulkEntries r
def uptoBulkEntry {H : Type} : Lit × DataW H → Nat
  | (.string bytes, d) => bytes.length + uptoBulk d + 1
  | (_, d) => uptoBulk d + 1
 end
def uptoSmall : (H : Type) → List (DataW H) → Bool := fun _ ds => decide (uptoBulkAll ds ≤ 1048576)
def OpenSpec.upto (s : _root_.Go.ChangeSpec) : _root_.Go.OpenSpec := { _root_.Go.OpenSpec.ofChange s with cond := some uptoSmall }

/-- 'laminalaw42.VectorevalEval', WHERE WHAT IT READS IS OF BULK AT MOST 1048576: true; the input reads as it did. -/
def vectorevalEvalUptoRow : OpenClaim := { program := "ytlkllggdiakpbaagreatdoor", sum := "4d809aa18780ebae53aa5563f3f1d13093f8c543e69716e7d99cc9163b4125c4", func := "lamina/laminalaw42.VectorevalEval", spec := "vectorevalEval", inPlace := ["internal/bytealg.IndexByteString", "internal/bytealg.IndexString", "internal/bytealg.abigen_runtime_cmpstring"], unfollowed := true, recurses := true, named := ["unicode/utf8.first", "unicode/utf8.acceptRanges", "internal/bytealg.MaxLen"], loops := true, apart := false, laid := [("unicode/utf8.acceptRanges", laid_unicode_utf8_acceptRanges), ("unicode/utf8.first", laid_unicode_utf8_first)], narrowed := true }
def VectorevalEvalUptoSaid : Prop := vectorevalEvalUptoRow.holds Tryz.pinned (OpenSpec.upto vectorevalEvalSpec)

/-- 'laminalaw42.VectorevalProject', WHERE WHAT IT READS IS OF BULK AT MOST 1048576: true; the input reads as it did. -/
def vectorevalProjectUptoRow : OpenClaim := { program := "ytlkllggdiakpbaagreatdoor", sum := "4d809aa18780ebae53aa5563f3f1d13093f8c543e69716e7d99cc9163b4125c4", func := "lamina/laminalaw42.VectorevalProject", spec := "vectorevalProject", inPlace := ["internal/bytealg.IndexByteString", "internal/bytealg.IndexString", "internal/bytealg.abigen_runtime_cmpstring"], unfollowed := true, recurses := true, named := ["unicode/utf8.first", "unicode/utf8.acceptRanges", "internal/bytealg.MaxLen"], loops := true, apart := false, laid := [("unicode/utf8.acceptRanges", laid_unicode_utf8_acceptRanges), ("unicode/utf8.first", laid_unicode_utf8_first)], narrowed := true }
def VectorevalProjectUptoSaid : Prop := vectorevalProjectUptoRow.holds Tryz.pinned (OpenSpec.upto vectorevalProjectSpec)

/-- 'laminalaw42.VectorevalHash', WHERE WHAT IT READS IS OF BULK AT MOST 1048576: true; the input reads as it did. -/
def vectorevalHashUptoRow : OpenClaim := { program := "ytlkllggdiakpbaagreatdoor", sum := "4d809aa18780ebae53aa5563f3f1d13093f8c543e69716e7d99cc9163b4125c4", func := "lamina/laminalaw42.VectorevalHash", spec := "vectorevalHash", inPlace := ["internal/bytealg.IndexByteString", "internal/bytealg.IndexString", "internal/bytealg.abigen_runtime_cmpstring"], unfollowed := true, recurses := true, named := ["unicode/utf8.first", "unicode/utf8.acceptRanges", "internal/bytealg.MaxLen"], apart := false, laid := [("unicode/utf8.acceptRanges", laid_unicode_utf8_acceptRanges), ("unicode/utf8.first", laid_unicode_utf8_first)], narrowed := true }
def VectorevalHashUptoSaid : Prop := vectorevalHashUptoRow.holds Tryz.pinned (OpenSpec.upto vectorevalHashSpec)

/-- 'laminalaw42.VectorevalSelection', WHERE WHAT IT READS IS OF BULK AT MOST 1048576: true; the input reads as it did. -/
def vectorevalSelectionUptoRow : OpenClaim := { program := "ytlkllggdiakpbaagreatdoor", sum := "4d809aa18780ebae53aa5563f3f1d13093f8c543e69716e7d99cc9163b4125c4", func := "lamina/laminalaw42.VectorevalSelection", spec := "vectorevalSelection", inPlace := ["internal/bytealg.IndexByteString", "internal/bytealg.IndexString", "internal/bytealg.abigen_runtime_cmpstring"], unfollowed := true, recurses := true, named := ["unicode/utf8.first", "unicode/utf8.acceptRanges", "internal/bytealg.MaxLen"], loops := true, apart := false, laid := [("unicode/utf8.acceptRanges", laid_unicode_utf8_acceptRanges), ("unicode/utf8.first", laid_unicode_utf8_first)], narrowed := true }
def VectorevalSelectionUptoSaid : Prop := vectorevalSelectionUptoRow.holds Tryz.pinned (OpenSpec.upto vectorevalSelectionSpec)

/-- 'laminalaw42.VectorevalConjunction', WHERE WHAT IT READS IS OF BULK AT MOST 1048576: true; the input reads as it did. -/
def vectorevalConjunctionUptoRow : OpenClaim := { program := "ytlkllggdiakpbaagreatdoor", sum := "4d809aa18780ebae53aa5563f3f1d13093f8c543e69716e7d99cc9163b4125c4", func := "lamina/laminalaw42.VectorevalConjunction", spec := "vectorevalConjunction", inPlace := ["internal/bytealg.IndexByteString", "internal/bytealg.IndexString", "internal/bytealg.abigen_runtime_cmpstring"], unfollowed := true, recurses := true, named := ["unicode/utf8.first", "unicode/utf8.acceptRanges", "internal/bytealg.MaxLen"], loops := true, apart := false, laid := [("unicode/utf8.acceptRanges", laid_unicode_utf8_acceptRanges), ("unicode/utf8.first", laid_unicode_utf8_first)], narrowed := true }
def VectorevalConjunctionUptoSaid : Prop := vectorevalConjunctionUptoRow.holds Tryz.pinned (OpenSpec.upto vectorevalConjunctionSpec)

end Rows
end Go.Proofs.YtlkllggdiakpbaaGreatDoor
