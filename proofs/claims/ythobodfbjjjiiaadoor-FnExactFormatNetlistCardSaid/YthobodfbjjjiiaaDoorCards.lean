/-
  DERIVED. GIVEN WITH THE SEED: THE CARDS: each row of YthobodfbjjjiiaaDoorRows.lean that lists a variable, with what it lists TIED to the program's text (the seventh form; the later family's looks); each row that meets fmt, with fmt's text TOLD by the authors' own Lean function (tested against real Go, not proved from fmt's source: count such statements apart). THE CARD IS WHAT COUNTS. Prove the row's statement (the work); the ties are given (YthobodfbjjjiiaaDoorTie.lean); close each card by the builder's one call (the guide's Derived/Test/ToyasCard.lean, 'card_holds'). Laid BY PROGRAM, IN A SANDBOX (cutbox-door.mjs). By AI agents, Wed Nov 11 2026. No macro, syntax, notation, axiom, sorry.
-/
import Derived.Test.YthobodfbjjjiiaaDoorRows
import GoSem.ClaimSeven
namespace Go.Proofs.YthobodfbjjjiiaaDoor
namespace Rows

/-- THE TIED CARD OF 'laws.FnExactFormatTimedRun'. -/
def fnExactFormatTimedRunCard : Claim7 := { stood := { row := fnExactFormatTimedRunRow, standIns := [], harness := (true, "9dd05de7a9ec566f64bc81a9db803ff5da8f42e08fa14991f333ba2021163c5d"), looks := false }, kinds := [], alts := [], laidByText := true, laidKinds := [.data, .data, .data], laidTests := true, laidLooks := .later }
def FnExactFormatTimedRunCardSaid : Prop := Claim7.holds Tryd.pinned (.plain (OpenSpec.ofChange fnExactFormatTimedRunSpec)) fnExactFormatTimedRunCard

/-- THE TIED CARD OF 'laws.FnExactFreshWireName'. -/
def fnExactFreshWireNameCard : Claim7 := { stood := { row := fnExactFreshWireNameRow, standIns := [], harness := (true, "9dd05de7a9ec566f64bc81a9db803ff5da8f42e08fa14991f333ba2021163c5d"), looks := false }, kinds := [], alts := [], laidByText := true, laidKinds := [.data, .data, .data], laidTests := true, laidLooks := .later }
def FnExactFreshWireNameCardSaid : Prop := Claim7.holds Tryd.pinned (.plain (OpenSpec.ofChange fnExactFreshWireNameSpec)) fnExactFreshWireNameCard

/-- THE TIED CARD OF 'laws.FnExactFormatNetlist'. -/
def fnExactFormatNetlistCard : Claim7 := { stood := { row := fnExactFormatNetlistRow, standIns := [], harness := (true, "9dd05de7a9ec566f64bc81a9db803ff5da8f42e08fa14991f333ba2021163c5d"), looks := false }, kinds := [], alts := [], laidByText := true, laidKinds := [.widerDeep, .data], laidTests := true, laidLooks := .later }
def FnExactFormatNetlistCardSaid : Prop := Claim7.holds Tryd.pinned (.plain (OpenSpec.ofChange fnExactFormatNetlistSpec)) fnExactFormatNetlistCard

/-- THE TIED CARD OF 'laws.FnExactBuildNetlist'. -/
def fnExactBuildNetlistCard : Claim7 := { stood := { row := fnExactBuildNetlistRow, standIns := [], harness := (true, "9dd05de7a9ec566f64bc81a9db803ff5da8f42e08fa14991f333ba2021163c5d"), looks := false }, kinds := [], alts := [], laidByText := true, laidKinds := [.data, .data, .data], laidTests := true, laidLooks := .later }
def FnExactBuildNetlistCardSaid : Prop := Claim7.holds Tryd.pinned (.plain (OpenSpec.ofChange fnExactBuildNetlistSpec)) fnExactBuildNetlistCard

/-- THE TIED CARD OF 'laws.FnExactParseNetlist'. -/
def fnExactParseNetlistCard : Claim7 := { stood := { row := fnExactParseNetlistRow, standIns := [], harness := (true, "9dd05de7a9ec566f64bc81a9db803ff5da8f42e08fa14991f333ba2021163c5d"), looks := false }, kinds := [], alts := [], laidByText := true, laidKinds := [.data, .widerDeep, .data, .pinned], laidTests := true, laidLooks := .later }
def FnExactParseNetlistCardSaid : Prop := Claim7.holds Tryd.pinned (.plain (OpenSpec.ofChange fnExactParseNetlistSpec)) fnExactParseNetlistCard

/-- THE SECOND FORM's CARD OF 'laws.FnExactFormatTimedRun'. -/
def fnExactFormatTimedRunUptoCard : Claim7 := { stood := { row := fnExactFormatTimedRunUptoRow, standIns := [], harness := (true, "9dd05de7a9ec566f64bc81a9db803ff5da8f42e08fa14991f333ba2021163c5d"), looks := false }, kinds := [], alts := [], laidByText := true, laidKinds := [.data, .data, .data], laidTests := true, laidLooks := .later }
def FnExactFormatTimedRunUptoCardSaid : Prop := Claim7.holds Tryd.pinned (.plain (OpenSpec.upto fnExactFormatTimedRunSpec)) fnExactFormatTimedRunUptoCard

/-- THE SECOND FORM's CARD OF 'laws.FnExactFreshWireName'. -/
def fnExactFreshWireNameUptoCard : Claim7 := { stood := { row := fnExactFreshWireNameUptoRow, standIns := [], harness := (true, "9dd05de7a9ec566f64bc81a9db803ff5da8f42e08fa14991f333ba2021163c5d"), looks := false }, kinds := [], alts := [], laidByText := true, laidKinds := [.data, .data, .data], laidTests := true, laidLooks := .later }
def FnExactFreshWireNameUptoCardSaid : Prop := Claim7.holds Tryd.pinned (.plain (OpenSpec.upto fnExactFreshWireNameSpec)) fnExactFreshWireNameUptoCard

/-- THE SECOND FORM's CARD OF 'laws.FnExactFormatNetlist'. -/
def fnExactFormatNetlistUptoCard : Claim7 := { stood := { row := fnExactFormatNetlistUptoRow, standIns := [], harness := (true, "9dd05de7a9ec566f64bc81a9db803ff5da8f42e08fa14991f333ba2021163c5d"), looks := false }, kinds := [], alts := [], laidByText := true, laidKinds := [.widerDeep, .data], laidTests := true, laidLooks := .later }
def FnExactFormatNetlistUptoCardSaid : Prop := Claim7.holds Tryd.pinned (.plain (OpenSpec.upto fnExactFormatNetlistSpec)) fnExactFormatNetlistUptoCard

/-- THE SECOND FORM's CARD OF 'laws.FnExactBuildNetlist'. -/
def fnExactBuildNetlistUptoCard : Claim7 := { stood := { row := fnExactBuildNetlistUptoRow, standIns := [], harness := (true, "9dd05de7a9ec566f64bc81a9db803ff5da8f42e08fa14991f333ba2021163c5d"), looks := false }, kinds := [], alts := [], laidByText := true, laidKinds := [.data, .data, .data], laidTests := true, laidLooks := .later }
def FnExactBuildNetlistUptoCardSaid : Prop := Claim7.holds Tryd.pinned (.plain (OpenSpec.upto fnExactBuildNetlistSpec)) fnExactBuildNetlistUptoCard

/-- THE SECOND FORM's CARD OF 'laws.FnExactParseNetlist'. -/
def fnExactParseNetlistUptoCard : Claim7 := { stood := { row := fnExactParseNetlistUptoRow, standIns := [], harness := (true, "9dd05de7a9ec566f64bc81a9db803ff5da8f42e08fa14991f333ba2021163c5d"), looks := false }, kinds := [], alts := [], laidByText := true, laidKinds := [.data, .widerDeep, .data, .pinned], laidTests := true, laidLooks := .later }
def FnExactParseNetlistUptoCardSaid : Prop := Claim7.holds Tryd.pinned (.plain (OpenSpec.upto fnExactParseNetlistSpec)) fnExactParseNetlistUptoCard
end Rows
end Go.Proofs.YthobodfbjjjiiaaDoor
