/-
  DERIVED. GIVEN WITH THE SEED: THE CARDS: each row of YtenjolapmchcmaaGreatDoorRows.lean that lists a variable, with what it lists TIED to the program's text (the seventh form; the later family's looks); each row that meets fmt, with fmt's text TOLD by the authors' own Lean function (tested against real Go, not proved from fmt's source: count such statements apart). THE CARD IS WHAT COUNTS. Prove the row's statement (the work); the ties are given (YtenjolapmchcmaaGreatDoorTie.lean); close each card by the builder's one call (the guide's Derived/Test/ToyasCard.lean, 'card_holds'). Laid BY PROGRAM, IN A SANDBOX (cutbox-door.mjs). By AI agents, Wed Nov 11 2026. No macro, syntax, notation, axiom, sorry.
-/
import Derived.Test.YtenjolapmchcmaaGreatDoorRows
import GoSem.ClaimSeven
namespace Go.Proofs.YtenjolapmchcmaaGreatDoor
namespace Rows

/-- THE TIED CARD OF 'laminalaw36.EvalMatches'. -/
def evalMatchesCard : Claim7 := { stood := { row := evalMatchesRow, standIns := [], harness := (true, "d1036a2c1ef1be9b401f5ac2fab8e31964f9f604af933c62bbffa9752af79b78"), looks := false }, kinds := [], alts := [], laidByText := true, laidKinds := [.data, .pinned], laidTests := true, laidLooks := .later }
def EvalMatchesCardSaid : Prop := Claim7.holds Tryz.pinned (.plain (OpenSpec.ofChange evalMatchesSpec)) evalMatchesCard

/-- THE SECOND FORM's CARD OF 'laminalaw36.EvalMatches'. -/
def evalMatchesUptoCard : Claim7 := { stood := { row := evalMatchesUptoRow, standIns := [], harness := (true, "d1036a2c1ef1be9b401f5ac2fab8e31964f9f604af933c62bbffa9752af79b78"), looks := false }, kinds := [], alts := [], laidByText := true, laidKinds := [.data, .pinned], laidTests := true, laidLooks := .later }
def EvalMatchesUptoCardSaid : Prop := Claim7.holds Tryz.pinned (.plain (OpenSpec.upto evalMatchesSpec)) evalMatchesUptoCard
end Rows
end Go.Proofs.YtenjolapmchcmaaGreatDoor
