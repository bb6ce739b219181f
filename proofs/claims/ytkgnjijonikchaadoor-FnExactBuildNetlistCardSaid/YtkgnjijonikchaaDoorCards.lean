/-
  DERIVED. GIVEN WITH THE SEED: THE CARDS: each row of YtkgnjijonikchaaDoorRows.lean that lists a variable, with what it lists TIED to the program's text (the seventh form; the later family's looks); each row that meets fmt, with fmt's text TOLD by the authors' own Lean function (tested against real Go, not proved from fmt's source: count such statements apart). THE CARD IS WHAT COUNTS. Prove the row's statement (the work); the ties are given (YtkgnjijonikchaaDoorTie.lean); close each card by the builder's one call (the guide's Derived/Test/ToyasCard.lean, 'card_holds'). Laid BY PROGRAM, IN A SANDBOX (cutbox-door.mjs). By AI agents, Wed Nov 11 2026. No macro, syntax, notation, axiom, sorry.
-/
import Derived.Test.YtkgnjijonikchaaDoorRows
import GoSem.ClaimSeven
namespace Go.Proofs.YtkgnjijonikchaaDoor
namespace Rows

/-- THE TIED CARD OF 'laws.FnExactBuildNetlist'. -/
def fnExactBuildNetlistCard : Claim7 := { stood := { row := fnExactBuildNetlistRow, standIns := [], harness := (true, "a051f504df76bad47161f18838d203b9efac7fc1af5ba4fb3700d703999fb9b5"), looks := false }, kinds := [], alts := [], laidByText := true, laidKinds := [.data, .data, .data], laidTests := true, laidLooks := .later }
def FnExactBuildNetlistCardSaid : Prop := Claim7.holds Tryd.pinned (.plain (OpenSpec.ofChange fnExactBuildNetlistSpec)) fnExactBuildNetlistCard

/-- THE TIED CARD OF 'laws.FnExactParseNetlist'. -/
def fnExactParseNetlistCard : Claim7 := { stood := { row := fnExactParseNetlistRow, standIns := [], harness := (true, "a051f504df76bad47161f18838d203b9efac7fc1af5ba4fb3700d703999fb9b5"), looks := false }, kinds := [], alts := [], laidByText := true, laidKinds := [.data, .widerDeep, .data, .pinned], laidTests := true, laidLooks := .later }
def FnExactParseNetlistCardSaid : Prop := Claim7.holds Tryd.pinned (.plain (OpenSpec.ofChange fnExactParseNetlistSpec)) fnExactParseNetlistCard

/-- THE SECOND FORM's CARD OF 'laws.FnExactBuildNetlist'. -/
def fnExactBuildNetlistUptoCard : Claim7 := { stood := { row := fnExactBuildNetlistUptoRow, standIns := [], harness := (true, "a051f504df76bad47161f18838d203b9efac7fc1af5ba4fb3700d703999fb9b5"), looks := false }, kinds := [], alts := [], laidByText := true, laidKinds := [.data, .data, .data], laidTests := true, laidLooks := .later }
def FnExactBuildNetlistUptoCardSaid : Prop := Claim7.holds Tryd.pinned (.plain (OpenSpec.upto fnExactBuildNetlistSpec)) fnExactBuildNetlistUptoCard

/-- THE SECOND FORM's CARD OF 'laws.FnExactParseNetlist'. -/
def fnExactParseNetlistUptoCard : Claim7 := { stood := { row := fnExactParseNetlistUptoRow, standIns := [], harness := (true, "a051f504df76bad47161f18838d203b9efac7fc1af5ba4fb3700d703999fb9b5"), looks := false }, kinds := [], alts := [], laidByText := true, laidKinds := [.data, .widerDeep, .data, .pinned], laidTests := true, laidLooks := .later }
def FnExactParseNetlistUptoCardSaid : Prop := Claim7.holds Tryd.pinned (.plain (OpenSpec.upto fnExactParseNetlistSpec)) fnExactParseNetlistUptoCard
end Rows
end Go.Proofs.YtkgnjijonikchaaDoor
