/-
  DERIVED. GIVEN WITH THE SEED: THE CARDS: each row of YtjjobbamoeaogaaDoorRows.lean that lists a variable, with what it lists TIED to the program's text (the seventh form; the later family's looks); each row that meets fmt, with fmt's text TOLD by the authors' own Lean function (tested against real Go, not proved from fmt's source: count such statements apart). THE CARD IS WHAT COUNTS. Prove the row's statement (the work); the ties are given (YtjjobbamoeaogaaDoorTie.lean); close each card by the builder's one call (the guide's Derived/Test/ToyasCard.lean, 'card_holds'). Laid BY PROGRAM, IN A SANDBOX (cutbox-door.mjs). By AI agents, Wed Nov 11 2026. No macro, syntax, notation, axiom, sorry.
-/
import Derived.Test.YtjjobbamoeaogaaDoorRows
import GoSem.ClaimSeven
namespace Go.Proofs.YtjjobbamoeaogaaDoor
namespace Rows

/-- THE TIED CARD OF 'laws.FnExactParseNetlist'. -/
def fnExactParseNetlistCard : Claim7 := { stood := { row := fnExactParseNetlistRow, standIns := [], harness := (true, "269136d91826139d3b0ad94aca70b32a205d14a55343c0576d4f569d1a533df4"), looks := false }, kinds := [], alts := [], laidByText := true, laidKinds := [.data, .widerDeep, .data, .pinned], laidTests := true, laidLooks := .later }
def FnExactParseNetlistCardSaid : Prop := Claim7.holds Tryd.pinned (.plain (OpenSpec.ofChange fnExactParseNetlistSpec)) fnExactParseNetlistCard

/-- THE SECOND FORM's CARD OF 'laws.FnExactParseNetlist'. -/
def fnExactParseNetlistUptoCard : Claim7 := { stood := { row := fnExactParseNetlistUptoRow, standIns := [], harness := (true, "269136d91826139d3b0ad94aca70b32a205d14a55343c0576d4f569d1a533df4"), looks := false }, kinds := [], alts := [], laidByText := true, laidKinds := [.data, .widerDeep, .data, .pinned], laidTests := true, laidLooks := .later }
def FnExactParseNetlistUptoCardSaid : Prop := Claim7.holds Tryd.pinned (.plain (OpenSpec.upto fnExactParseNetlistSpec)) fnExactParseNetlistUptoCard
end Rows
end Go.Proofs.YtjjobbamoeaogaaDoor
