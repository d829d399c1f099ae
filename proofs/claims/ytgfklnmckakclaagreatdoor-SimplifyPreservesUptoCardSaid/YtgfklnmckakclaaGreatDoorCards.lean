/-
  DERIVED. GIVEN WITH THE SEED: THE CARDS: each row of YtgfklnmckakclaaGreatDoorRows.lean that lists a variable, with what it lists TIED to the program's text (the seventh form; the later family's looks); each row that meets fmt, with fmt's text TOLD by the authors' own Lean function (tested against real Go, not proved from fmt's source: count such statements apart). THE CARD IS WHAT COUNTS. Prove the row's statement (the work); the ties are given (YtgfklnmckakclaaGreatDoorTie.lean); close each card by the builder's one call (the guide's Derived/Test/ToyasCard.lean, 'card_holds'). Laid BY PROGRAM, IN A SANDBOX (cutbox-door.mjs). By AI agents, Wed Nov 11 2026. No macro, syntax, notation, axiom, sorry.
-/
import Derived.Test.YtgfklnmckakclaaGreatDoorRows
import GoSem.ClaimSeven
namespace Go.Proofs.YtgfklnmckakclaaGreatDoor
namespace Rows

/-- THE TIED CARD OF 'laminalaw40.SimplifyFolds'. -/
def simplifyFoldsCard : Claim7 := { stood := { row := simplifyFoldsRow, standIns := [], harness := (true, "396e08143be2c9a5722db6becef91671cc6820442e556a439d4a4d0a0e255d88"), looks := false }, kinds := [], alts := [], laidByText := true, laidKinds := [.data, .pinned], laidTests := true, laidLooks := .later }
def SimplifyFoldsCardSaid : Prop := Claim7.holds Tryz.pinned (.plain (OpenSpec.ofChange simplifyFoldsSpec)) simplifyFoldsCard

/-- THE TIED CARD OF 'laminalaw40.SimplifyJoinKeys'. -/
def simplifyJoinKeysCard : Claim7 := { stood := { row := simplifyJoinKeysRow, standIns := [], harness := (true, "396e08143be2c9a5722db6becef91671cc6820442e556a439d4a4d0a0e255d88"), looks := false }, kinds := [], alts := [], laidByText := true, laidKinds := [.data, .pinned], laidTests := true, laidLooks := .later }
def SimplifyJoinKeysCardSaid : Prop := Claim7.holds Tryz.pinned (.plain (OpenSpec.ofChange simplifyJoinKeysSpec)) simplifyJoinKeysCard

/-- THE TIED CARD OF 'laminalaw40.SimplifyRejects'. -/
def simplifyRejectsCard : Claim7 := { stood := { row := simplifyRejectsRow, standIns := [], harness := (true, "396e08143be2c9a5722db6becef91671cc6820442e556a439d4a4d0a0e255d88"), looks := false }, kinds := [], alts := [], laidByText := true, laidKinds := [.data, .pinned], laidTests := true, laidLooks := .later }
def SimplifyRejectsCardSaid : Prop := Claim7.holds Tryz.pinned (.plain (OpenSpec.ofChange simplifyRejectsSpec)) simplifyRejectsCard

/-- THE TIED CARD OF 'laminalaw40.SimplifySound'. -/
def simplifySoundCard : Claim7 := { stood := { row := simplifySoundRow, standIns := [], harness := (true, "396e08143be2c9a5722db6becef91671cc6820442e556a439d4a4d0a0e255d88"), looks := false }, kinds := [], alts := [], laidByText := true, laidKinds := [.data, .pinned], laidTests := true, laidLooks := .later }
def SimplifySoundCardSaid : Prop := Claim7.holds Tryz.pinned (.plain (OpenSpec.ofChange simplifySoundSpec)) simplifySoundCard

/-- THE TIED CARD OF 'laminalaw40.SimplifyConjuncts'. -/
def simplifyConjunctsCard : Claim7 := { stood := { row := simplifyConjunctsRow, standIns := [], harness := (true, "396e08143be2c9a5722db6becef91671cc6820442e556a439d4a4d0a0e255d88"), looks := false }, kinds := [], alts := [], laidByText := true, laidKinds := [.data, .pinned], laidTests := true, laidLooks := .later }
def SimplifyConjunctsCardSaid : Prop := Claim7.holds Tryz.pinned (.plain (OpenSpec.ofChange simplifyConjunctsSpec)) simplifyConjunctsCard

/-- THE TIED CARD OF 'laminalaw40.SimplifyPredicates'. -/
def simplifyPredicatesCard : Claim7 := { stood := { row := simplifyPredicatesRow, standIns := [], harness := (true, "396e08143be2c9a5722db6becef91671cc6820442e556a439d4a4d0a0e255d88"), looks := false }, kinds := [], alts := [], laidByText := true, laidKinds := [.data, .pinned], laidTests := true, laidLooks := .later }
def SimplifyPredicatesCardSaid : Prop := Claim7.holds Tryz.pinned (.plain (OpenSpec.ofChange simplifyPredicatesSpec)) simplifyPredicatesCard

/-- THE TIED CARD OF 'laminalaw40.SimplifyPreserves'. -/
def simplifyPreservesCard : Claim7 := { stood := { row := simplifyPreservesRow, standIns := [], harness := (true, "396e08143be2c9a5722db6becef91671cc6820442e556a439d4a4d0a0e255d88"), looks := false }, kinds := [], alts := [], laidByText := true, laidKinds := [.data, .pinned], laidTests := true, laidLooks := .later }
def SimplifyPreservesCardSaid : Prop := Claim7.holds Tryz.pinned (.plain (OpenSpec.ofChange simplifyPreservesSpec)) simplifyPreservesCard

/-- THE TIED CARD OF 'laminalaw40.SimplifySplits'. -/
def simplifySplitsCard : Claim7 := { stood := { row := simplifySplitsRow, standIns := [], harness := (true, "396e08143be2c9a5722db6becef91671cc6820442e556a439d4a4d0a0e255d88"), looks := false }, kinds := [], alts := [], laidByText := true, laidKinds := [.data, .pinned], laidTests := true, laidLooks := .later }
def SimplifySplitsCardSaid : Prop := Claim7.holds Tryz.pinned (.plain (OpenSpec.ofChange simplifySplitsSpec)) simplifySplitsCard

/-- THE SECOND FORM's CARD OF 'laminalaw40.SimplifyFolds'. -/
def simplifyFoldsUptoCard : Claim7 := { stood := { row := simplifyFoldsUptoRow, standIns := [], harness := (true, "396e08143be2c9a5722db6becef91671cc6820442e556a439d4a4d0a0e255d88"), looks := false }, kinds := [], alts := [], laidByText := true, laidKinds := [.data, .pinned], laidTests := true, laidLooks := .later }
def SimplifyFoldsUptoCardSaid : Prop := Claim7.holds Tryz.pinned (.plain (OpenSpec.upto simplifyFoldsSpec)) simplifyFoldsUptoCard

/-- THE SECOND FORM's CARD OF 'laminalaw40.SimplifyJoinKeys'. -/
def simplifyJoinKeysUptoCard : Claim7 := { stood := { row := simplifyJoinKeysUptoRow, standIns := [], harness := (true, "396e08143be2c9a5722db6becef91671cc6820442e556a439d4a4d0a0e255d88"), looks := false }, kinds := [], alts := [], laidByText := true, laidKinds := [.data, .pinned], laidTests := true, laidLooks := .later }
def SimplifyJoinKeysUptoCardSaid : Prop := Claim7.holds Tryz.pinned (.plain (OpenSpec.upto simplifyJoinKeysSpec)) simplifyJoinKeysUptoCard

/-- THE SECOND FORM's CARD OF 'laminalaw40.SimplifyRejects'. -/
def simplifyRejectsUptoCard : Claim7 := { stood := { row := simplifyRejectsUptoRow, standIns := [], harness := (true, "396e08143be2c9a5722db6becef91671cc6820442e556a439d4a4d0a0e255d88"), looks := false }, kinds := [], alts := [], laidByText := true, laidKinds := [.data, .pinned], laidTests := true, laidLooks := .later }
def SimplifyRejectsUptoCardSaid : Prop := Claim7.holds Tryz.pinned (.plain (OpenSpec.upto simplifyRejectsSpec)) simplifyRejectsUptoCard

/-- THE SECOND FORM's CARD OF 'laminalaw40.SimplifySound'. -/
def simplifySoundUptoCard : Claim7 := { stood := { row := simplifySoundUptoRow, standIns := [], harness := (true, "396e08143be2c9a5722db6becef91671cc6820442e556a439d4a4d0a0e255d88"), looks := false }, kinds := [], alts := [], laidByText := true, laidKinds := [.data, .pinned], laidTests := true, laidLooks := .later }
def SimplifySoundUptoCardSaid : Prop := Claim7.holds Tryz.pinned (.plain (OpenSpec.upto simplifySoundSpec)) simplifySoundUptoCard

/-- THE SECOND FORM's CARD OF 'laminalaw40.SimplifyConjuncts'. -/
def simplifyConjunctsUptoCard : Claim7 := { stood := { row := simplifyConjunctsUptoRow, standIns := [], harness := (true, "396e08143be2c9a5722db6becef91671cc6820442e556a439d4a4d0a0e255d88"), looks := false }, kinds := [], alts := [], laidByText := true, laidKinds := [.data, .pinned], laidTests := true, laidLooks := .later }
def SimplifyConjunctsUptoCardSaid : Prop := Claim7.holds Tryz.pinned (.plain (OpenSpec.upto simplifyConjunctsSpec)) simplifyConjunctsUptoCard

/-- THE SECOND FORM's CARD OF 'laminalaw40.SimplifyPredicates'. -/
def simplifyPredicatesUptoCard : Claim7 := { stood := { row := simplifyPredicatesUptoRow, standIns := [], harness := (true, "396e08143be2c9a5722db6becef91671cc6820442e556a439d4a4d0a0e255d88"), looks := false }, kinds := [], alts := [], laidByText := true, laidKinds := [.data, .pinned], laidTests := true, laidLooks := .later }
def SimplifyPredicatesUptoCardSaid : Prop := Claim7.holds Tryz.pinned (.plain (OpenSpec.upto simplifyPredicatesSpec)) simplifyPredicatesUptoCard

/-- THE SECOND FORM's CARD OF 'laminalaw40.SimplifyPreserves'. -/
def simplifyPreservesUptoCard : Claim7 := { stood := { row := simplifyPreservesUptoRow, standIns := [], harness := (true, "396e08143be2c9a5722db6becef91671cc6820442e556a439d4a4d0a0e255d88"), looks := false }, kinds := [], alts := [], laidByText := true, laidKinds := [.data, .pinned], laidTests := true, laidLooks := .later }
def SimplifyPreservesUptoCardSaid : Prop := Claim7.holds Tryz.pinned (.plain (OpenSpec.upto simplifyPreservesSpec)) simplifyPreservesUptoCard

/-- THE SECOND FORM's CARD OF 'laminalaw40.SimplifySplits'. -/
def simplifySplitsUptoCard : Claim7 := { stood := { row := simplifySplitsUptoRow, standIns := [], harness := (true, "396e08143be2c9a5722db6becef91671cc6820442e556a439d4a4d0a0e255d88"), looks := false }, kinds := [], alts := [], laidByText := true, laidKinds := [.data, .pinned], laidTests := true, laidLooks := .later }
def SimplifySplitsUptoCardSaid : Prop := Claim7.holds Tryz.pinned (.plain (OpenSpec.upto simplifySplitsSpec)) simplifySplitsUptoCard
end Rows
end Go.Proofs.YtgfklnmckakclaaGreatDoor
