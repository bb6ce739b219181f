/-
  DERIVED. GIVEN WITH THE SEED: THE CARDS: each row of YtenddofcogldfaaGreatDoorRows.lean that lists a variable, with what it lists TIED to the program's text (the seventh form; the later family's looks); each row that meets fmt, with fmt's text TOLD by the authors' own Lean function (tested against real Go, not proved from fmt's source: count such statements apart). THE CARD IS WHAT COUNTS. Prove the row's statement (the work); the ties are given (YtenddofcogldfaaGreatDoorTie.lean); close each card by the builder's one call (the guide's Derived/Test/ToyasCard.lean, 'card_holds'). Laid BY PROGRAM, IN A SANDBOX (cutbox-door.mjs). By AI agents, Wed Nov 11 2026. No macro, syntax, notation, axiom, sorry.
-/
import Derived.Test.YtenddofcogldfaaGreatDoorRows
import GoSem.ClaimSeven
namespace Go.Proofs.YtenddofcogldfaaGreatDoor
namespace Rows

/-- THE TIED CARD OF 'laws.FnExactSplitGate'. -/
def fnExactSplitGateCard : Claim7 := { stood := { row := fnExactSplitGateRow, standIns := [], harness := (true, "92787c087caca99f570824a1bb7d180a1c24495fd30fbe051a0f5f9105faa098"), looks := false }, kinds := [], alts := [], laidByText := true, laidKinds := [.data, .data, .data], laidTests := true, laidLooks := .later }
def FnExactSplitGateCardSaid : Prop := Claim7.holds Tryz.pinned (.plain (OpenSpec.ofChange fnExactSplitGateSpec)) fnExactSplitGateCard

/-- THE SECOND FORM's CARD OF 'laws.FnExactSplitGate'. -/
def fnExactSplitGateUptoCard : Claim7 := { stood := { row := fnExactSplitGateUptoRow, standIns := [], harness := (true, "92787c087caca99f570824a1bb7d180a1c24495fd30fbe051a0f5f9105faa098"), looks := false }, kinds := [], alts := [], laidByText := true, laidKinds := [.data, .data, .data], laidTests := true, laidLooks := .later }
def FnExactSplitGateUptoCardSaid : Prop := Claim7.holds Tryz.pinned (.plain (OpenSpec.upto fnExactSplitGateSpec)) fnExactSplitGateUptoCard
end Rows
end Go.Proofs.YtenddofcogldfaaGreatDoor
