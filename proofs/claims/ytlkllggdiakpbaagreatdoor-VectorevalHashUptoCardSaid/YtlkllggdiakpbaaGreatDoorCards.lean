/-
  DERIVED. GIVEN WITH THE SEED: THE CARDS: each row of YtlkllggdiakpbaaGreatDoorRows.lean that lists a variable, with what it lists TIED to the program's text (the seventh form; the later family's looks); each row that meets fmt, with fmt's text TOLD by the authors' own Lean function (tested against real Go, not proved from fmt's source: count such statements apart). THE CARD IS WHAT COUNTS. Prove the row's statement (the work); the ties are given (YtlkllggdiakpbaaGreatDoorTie.lean); close each card by the builder's one call (the guide's Derived/Test/ToyasCard.lean, 'card_holds'). Laid BY PROGRAM, IN A SANDBOX (cutbox-door.mjs). By AI agents, Wed Nov 11 2026. No macro, syntax, notation, axiom, sorry.
-/
import Derived.Test.YtlkllggdiakpbaaGreatDoorRows
import GoSem.ClaimSeven
namespace Go.Proofs.YtlkllggdiakpbaaGreatDoor
namespace Rows

/-- THE TIED CARD OF 'laminalaw42.VectorevalEval'. -/
def vectorevalEvalCard : Claim7 := { stood := { row := vectorevalEvalRow, standIns := [], harness := (true, "d72c55d0404b380e069329644902474fc0cf320418230696af980ea1c9808350"), looks := false }, kinds := [], alts := [], laidByText := true, laidKinds := [.data, .pinned], laidTests := true, laidLooks := .later }
def VectorevalEvalCardSaid : Prop := Claim7.holds Tryz.pinned (.plain (OpenSpec.ofChange vectorevalEvalSpec)) vectorevalEvalCard

/-- THE TIED CARD OF 'laminalaw42.VectorevalProject'. -/
def vectorevalProjectCard : Claim7 := { stood := { row := vectorevalProjectRow, standIns := [], harness := (true, "d72c55d0404b380e069329644902474fc0cf320418230696af980ea1c9808350"), looks := false }, kinds := [], alts := [], laidByText := true, laidKinds := [.data, .pinned], laidTests := true, laidLooks := .later }
def VectorevalProjectCardSaid : Prop := Claim7.holds Tryz.pinned (.plain (OpenSpec.ofChange vectorevalProjectSpec)) vectorevalProjectCard

/-- THE TIED CARD OF 'laminalaw42.VectorevalHash'. -/
def vectorevalHashCard : Claim7 := { stood := { row := vectorevalHashRow, standIns := [], harness := (true, "d72c55d0404b380e069329644902474fc0cf320418230696af980ea1c9808350"), looks := false }, kinds := [], alts := [], laidByText := true, laidKinds := [.data, .pinned], laidTests := true, laidLooks := .later }
def VectorevalHashCardSaid : Prop := Claim7.holds Tryz.pinned (.plain (OpenSpec.ofChange vectorevalHashSpec)) vectorevalHashCard

/-- THE TIED CARD OF 'laminalaw42.VectorevalSelection'. -/
def vectorevalSelectionCard : Claim7 := { stood := { row := vectorevalSelectionRow, standIns := [], harness := (true, "d72c55d0404b380e069329644902474fc0cf320418230696af980ea1c9808350"), looks := false }, kinds := [], alts := [], laidByText := true, laidKinds := [.data, .pinned], laidTests := true, laidLooks := .later }
def VectorevalSelectionCardSaid : Prop := Claim7.holds Tryz.pinned (.plain (OpenSpec.ofChange vectorevalSelectionSpec)) vectorevalSelectionCard

/-- THE TIED CARD OF 'laminalaw42.VectorevalConjunction'. -/
def vectorevalConjunctionCard : Claim7 := { stood := { row := vectorevalConjunctionRow, standIns := [], harness := (true, "d72c55d0404b380e069329644902474fc0cf320418230696af980ea1c9808350"), looks := false }, kinds := [], alts := [], laidByText := true, laidKinds := [.data, .pinned], laidTests := true, laidLooks := .later }
def VectorevalConjunctionCardSaid : Prop := Claim7.holds Tryz.pinned (.plain (OpenSpec.ofChange vectorevalConjunctionSpec)) vectorevalConjunctionCard

/-- THE SECOND FORM's CARD OF 'laminalaw42.VectorevalEval'. -/
def vectorevalEvalUptoCard : Claim7 := { stood := { row := vectorevalEvalUptoRow, standIns := [], harness := (true, "d72c55d0404b380e069329644902474fc0cf320418230696af980ea1c9808350"), looks := false }, kinds := [], alts := [], laidByText := true, laidKinds := [.data, .pinned], laidTests := true, laidLooks := .later }
def VectorevalEvalUptoCardSaid : Prop := Claim7.holds Tryz.pinned (.plain (OpenSpec.upto vectorevalEvalSpec)) vectorevalEvalUptoCard

/-- THE SECOND FORM's CARD OF 'laminalaw42.VectorevalProject'. -/
def vectorevalProjectUptoCard : Claim7 := { stood := { row := vectorevalProjectUptoRow, standIns := [], harness := (true, "d72c55d0404b380e069329644902474fc0cf320418230696af980ea1c9808350"), looks := false }, kinds := [], alts := [], laidByText := true, laidKinds := [.data, .pinned], laidTests := true, laidLooks := .later }
def VectorevalProjectUptoCardSaid : Prop := Claim7.holds Tryz.pinned (.plain (OpenSpec.upto vectorevalProjectSpec)) vectorevalProjectUptoCard

/-- THE SECOND FORM's CARD OF 'laminalaw42.VectorevalHash'. -/
def vectorevalHashUptoCard : Claim7 := { stood := { row := vectorevalHashUptoRow, standIns := [], harness := (true, "d72c55d0404b380e069329644902474fc0cf320418230696af980ea1c9808350"), looks := false }, kinds := [], alts := [], laidByText := true, laidKinds := [.data, .pinned], laidTests := true, laidLooks := .later }
def VectorevalHashUptoCardSaid : Prop := Claim7.holds Tryz.pinned (.plain (OpenSpec.upto vectorevalHashSpec)) vectorevalHashUptoCard

/-- THE SECOND FORM's CARD OF 'laminalaw42.VectorevalSelection'. -/
def vectorevalSelectionUptoCard : Claim7 := { stood := { row := vectorevalSelectionUptoRow, standIns := [], harness := (true, "d72c55d0404b380e069329644902474fc0cf320418230696af980ea1c9808350"), looks := false }, kinds := [], alts := [], laidByText := true, laidKinds := [.data, .pinned], laidTests := true, laidLooks := .later }
def VectorevalSelectionUptoCardSaid : Prop := Claim7.holds Tryz.pinned (.plain (OpenSpec.upto vectorevalSelectionSpec)) vectorevalSelectionUptoCard

/-- THE SECOND FORM's CARD OF 'laminalaw42.VectorevalConjunction'. -/
def vectorevalConjunctionUptoCard : Claim7 := { stood := { row := vectorevalConjunctionUptoRow, standIns := [], harness := (true, "d72c55d0404b380e069329644902474fc0cf320418230696af980ea1c9808350"), looks := false }, kinds := [], alts := [], laidByText := true, laidKinds := [.data, .pinned], laidTests := true, laidLooks := .later }
def VectorevalConjunctionUptoCardSaid : Prop := Claim7.holds Tryz.pinned (.plain (OpenSpec.upto vectorevalConjunctionSpec)) vectorevalConjunctionUptoCard
end Rows
end Go.Proofs.YtlkllggdiakpbaaGreatDoor
