/-
  No cell of these rows narrows 'for every input' (looked for: loops, veiled, ifaces, maps, wideKeys, modest, calm, conditions, laid).
  DERIVED. THE GIVEN ROWS OF THIS SEAT. 9 by the template 'for every input the law returns true; each argument reads behind the call as it read before'; 0 by the template 'total and deterministic' (their statements: YtpceleehbpnchaaGreatTotals.lean).
  GIVEN WITH THE SEED: the statements are not yours to turn. If you find one false, say at which input.
  Laid BY PROGRAM, IN A SANDBOX (cutbox-rows.mjs): the forced cells as the released guide's own fill.sh prints them over the translation 209e692a1fd55dae… (all of the seat's roots in one cut). By AI agents, Wed Nov 11 2026. No macro, syntax, notation, axiom, sorry.
-/
import Derived.Test.YtpceleehbpnchaaGreatChecked
import GoSem.Claim
import GoSem.ClaimJoined
import GoSem.ClaimMapViews
import Derived.JoinedTies
import Derived.KernelRfl
namespace Go.Proofs.YtpceleehbpnchaaGreat
/- THE CELL 'sum', in the pinned program and in every row, IS THE sha256 OF THE DUMP (.gsa) THAT YtpceleehbpnchaaGreatProg.lean LOADS. Nothing in Lean hashes anything: it is a label: what it is worth is what the hold of that sum in a sandbox is worth. -/
noncomputable def Tryz.pinned : Pinned := { name := "ytpceleehbpnchaagreat", sum := "209e692a1fd55daef4d7adf5ba969c8724a4f79580ec5707c4cbe6c1fd1e7661", checked := Tryz.checked }
namespace Rows
def none {H : Type} : Left H := { results := [], args := [] }

/-- 'laws.FnExactUnexpectedFlips': WHATEVER THE INPUT: true; the input reads as it did. -/
def fnExactUnexpectedFlipsSpec : ChangeSpec := { name := "fnExactUnexpectedFlips", fn := fun _ => fun
  | [d1, d2] => { results := [.lit (.bool true)], args := [d1, d2] }
  | _ => none }
def fnExactUnexpectedFlipsRow : OpenClaim := { program := "ytpceleehbpnchaagreat", sum := "209e692a1fd55daef4d7adf5ba969c8724a4f79580ec5707c4cbe6c1fd1e7661", func := "loop.example/g00862/laws.FnExactUnexpectedFlips", spec := "fnExactUnexpectedFlips", inPlace := ["internal/abi.NoEscape", "internal/bytealg.MakeNoZero"], unfollowed := true, recurses := true, plainKeys := false, apart := false }
def FnExactUnexpectedFlipsSaid : Prop := fnExactUnexpectedFlipsRow.holds Tryz.pinned (OpenSpec.ofChange fnExactUnexpectedFlipsSpec)

/-- ITS FALSE NEIGHBOUR: 'it returns false'. Refute it at one input. -/
def fnExactUnexpectedFlipsWrong : ChangeSpec := { name := "fnExactUnexpectedFlips", fn := fun _ => fun
  | [d1, d2] => { results := [.lit (.bool false)], args := [d1, d2] }
  | _ => none }
def FnExactUnexpectedFlipsWrongFalsely : Prop := fnExactUnexpectedFlipsRow.holds Tryz.pinned (OpenSpec.ofChange fnExactUnexpectedFlipsWrong)

/-- 'laws.FnExactMissingOutputs': WHATEVER THE INPUT: true; the input reads as it did. -/
def fnExactMissingOutputsSpec : ChangeSpec := { name := "fnExactMissingOutputs", fn := fun _ => fun
  | [d1, d2] => { results := [.lit (.bool true)], args := [d1, d2] }
  | _ => none }
def fnExactMissingOutputsRow : OpenClaim := { program := "ytpceleehbpnchaagreat", sum := "209e692a1fd55daef4d7adf5ba969c8724a4f79580ec5707c4cbe6c1fd1e7661", func := "loop.example/g00862/laws.FnExactMissingOutputs", spec := "fnExactMissingOutputs", inPlace := ["internal/abi.NoEscape", "internal/bytealg.MakeNoZero"], unfollowed := true, recurses := true, plainKeys := false, apart := false }
def FnExactMissingOutputsSaid : Prop := fnExactMissingOutputsRow.holds Tryz.pinned (OpenSpec.ofChange fnExactMissingOutputsSpec)

/-- ITS FALSE NEIGHBOUR: 'it returns false'. Refute it at one input. -/
def fnExactMissingOutputsWrong : ChangeSpec := { name := "fnExactMissingOutputs", fn := fun _ => fun
  | [d1, d2] => { results := [.lit (.bool false)], args := [d1, d2] }
  | _ => none }
def FnExactMissingOutputsWrongFalsely : Prop := fnExactMissingOutputsRow.holds Tryz.pinned (OpenSpec.ofChange fnExactMissingOutputsWrong)

/-- 'laws.FnExactHazards': WHATEVER THE INPUT: true; the input reads as it did. -/
def fnExactHazardsSpec : ChangeSpec := { name := "fnExactHazards", fn := fun _ => fun
  | [d1, d2] => { results := [.lit (.bool true)], args := [d1, d2] }
  | _ => none }
def fnExactHazardsRow : OpenClaim := { program := "ytpceleehbpnchaagreat", sum := "209e692a1fd55daef4d7adf5ba969c8724a4f79580ec5707c4cbe6c1fd1e7661", func := "loop.example/g00862/laws.FnExactHazards", spec := "fnExactHazards", inPlace := ["internal/abi.NoEscape", "internal/bytealg.MakeNoZero"], unfollowed := true, recurses := true, plainKeys := false, apart := false }
def FnExactHazardsSaid : Prop := fnExactHazardsRow.holds Tryz.pinned (OpenSpec.ofChange fnExactHazardsSpec)

/-- ITS FALSE NEIGHBOUR: 'it returns false'. Refute it at one input. -/
def fnExactHazardsWrong : ChangeSpec := { name := "fnExactHazards", fn := fun _ => fun
  | [d1, d2] => { results := [.lit (.bool false)], args := [d1, d2] }
  | _ => none }
def FnExactHazardsWrongFalsely : Prop := fnExactHazardsRow.holds Tryz.pinned (OpenSpec.ofChange fnExactHazardsWrong)

/-- 'laws.FnExactFormatHazard': WHATEVER THE INPUT: true; the input reads as it did. -/
def fnExactFormatHazardSpec : ChangeSpec := { name := "fnExactFormatHazard", fn := fun _ => fun
  | [d1, d2, d3] => { results := [.lit (.bool true)], args := [d1, d2, d3] }
  | _ => none }
def fnExactFormatHazardRow : OpenClaim := { program := "ytpceleehbpnchaagreat", sum := "209e692a1fd55daef4d7adf5ba969c8724a4f79580ec5707c4cbe6c1fd1e7661", func := "loop.example/g00862/laws.FnExactFormatHazard", spec := "fnExactFormatHazard", inPlace := ["internal/abi.NoEscape", "internal/bytealg.MakeNoZero"], unfollowed := true, recurses := true, plainKeys := false, apart := false }
def FnExactFormatHazardSaid : Prop := fnExactFormatHazardRow.holds Tryz.pinned (OpenSpec.ofChange fnExactFormatHazardSpec)

/-- ITS FALSE NEIGHBOUR: 'it returns false'. Refute it at one input. -/
def fnExactFormatHazardWrong : ChangeSpec := { name := "fnExactFormatHazard", fn := fun _ => fun
  | [d1, d2, d3] => { results := [.lit (.bool false)], args := [d1, d2, d3] }
  | _ => none }
def FnExactFormatHazardWrongFalsely : Prop := fnExactFormatHazardRow.holds Tryz.pinned (OpenSpec.ofChange fnExactFormatHazardWrong)

/-- 'laws.FnExactConformanceReport': WHATEVER THE INPUT: true; the input reads as it did. -/
def fnExactConformanceReportSpec : ChangeSpec := { name := "fnExactConformanceReport", fn := fun _ => fun
  | [d1, d2] => { results := [.lit (.bool true)], args := [d1, d2] }
  | _ => none }
def fnExactConformanceReportRow : OpenClaim := { program := "ytpceleehbpnchaagreat", sum := "209e692a1fd55daef4d7adf5ba969c8724a4f79580ec5707c4cbe6c1fd1e7661", func := "loop.example/g00862/laws.FnExactConformanceReport", spec := "fnExactConformanceReport", inPlace := ["internal/abi.NoEscape", "internal/bytealg.MakeNoZero"], unfollowed := true, recurses := true, plainKeys := false, apart := false }
def FnExactConformanceReportSaid : Prop := fnExactConformanceReportRow.holds Tryz.pinned (OpenSpec.ofChange fnExactConformanceReportSpec)

/-- ITS FALSE NEIGHBOUR: 'it returns false'. Refute it at one input. -/
def fnExactConformanceReportWrong : ChangeSpec := { name := "fnExactConformanceReport", fn := fun _ => fun
  | [d1, d2] => { results := [.lit (.bool false)], args := [d1, d2] }
  | _ => none }
def FnExactConformanceReportWrongFalsely : Prop := fnExactConformanceReportRow.holds Tryz.pinned (OpenSpec.ofChange fnExactConformanceReportWrong)

/-- 'laws.FnExactVerificationReport': WHATEVER THE INPUT: true; the input reads as it did. -/
def fnExactVerificationReportSpec : ChangeSpec := { name := "fnExactVerificationReport", fn := fun _ => fun
  | [d1, d2] => { results := [.lit (.bool true)], args := [d1, d2] }
  | _ => none }
def fnExactVerificationReportRow : OpenClaim := { program := "ytpceleehbpnchaagreat", sum := "209e692a1fd55daef4d7adf5ba969c8724a4f79580ec5707c4cbe6c1fd1e7661", func := "loop.example/g00862/laws.FnExactVerificationReport", spec := "fnExactVerificationReport", inPlace := ["internal/abi.NoEscape", "internal/bytealg.MakeNoZero"], unfollowed := true, recurses := true, plainKeys := false, apart := false }
def FnExactVerificationReportSaid : Prop := fnExactVerificationReportRow.holds Tryz.pinned (OpenSpec.ofChange fnExactVerificationReportSpec)

/-- ITS FALSE NEIGHBOUR: 'it returns false'. Refute it at one input. -/
def fnExactVerificationReportWrong : ChangeSpec := { name := "fnExactVerificationReport", fn := fun _ => fun
  | [d1, d2] => { results := [.lit (.bool false)], args := [d1, d2] }
  | _ => none }
def FnExactVerificationReportWrongFalsely : Prop := fnExactVerificationReportRow.holds Tryz.pinned (OpenSpec.ofChange fnExactVerificationReportWrong)

/-- 'laws.FnExactHazardousWires': WHATEVER THE INPUT: true; the input reads as it did. -/
def fnExactHazardousWiresSpec : ChangeSpec := { name := "fnExactHazardousWires", fn := fun _ => fun
  | [d1, d2] => { results := [.lit (.bool true)], args := [d1, d2] }
  | _ => none }
def fnExactHazardousWiresRow : OpenClaim := { program := "ytpceleehbpnchaagreat", sum := "209e692a1fd55daef4d7adf5ba969c8724a4f79580ec5707c4cbe6c1fd1e7661", func := "loop.example/g00862/laws.FnExactHazardousWires", spec := "fnExactHazardousWires", inPlace := ["internal/abi.NoEscape", "internal/bytealg.MakeNoZero"], unfollowed := true, recurses := true, plainKeys := false, apart := false }
def FnExactHazardousWiresSaid : Prop := fnExactHazardousWiresRow.holds Tryz.pinned (OpenSpec.ofChange fnExactHazardousWiresSpec)

/-- ITS FALSE NEIGHBOUR: 'it returns false'. Refute it at one input. -/
def fnExactHazardousWiresWrong : ChangeSpec := { name := "fnExactHazardousWires", fn := fun _ => fun
  | [d1, d2] => { results := [.lit (.bool false)], args := [d1, d2] }
  | _ => none }
def FnExactHazardousWiresWrongFalsely : Prop := fnExactHazardousWiresRow.holds Tryz.pinned (OpenSpec.ofChange fnExactHazardousWiresWrong)

/-- 'laws.FnExactSimulationRelation': WHATEVER THE INPUT: true; the input reads as it did. -/
def fnExactSimulationRelationSpec : ChangeSpec := { name := "fnExactSimulationRelation", fn := fun _ => fun
  | [d1, d2] => { results := [.lit (.bool true)], args := [d1, d2] }
  | _ => none }
def fnExactSimulationRelationRow : OpenClaim := { program := "ytpceleehbpnchaagreat", sum := "209e692a1fd55daef4d7adf5ba969c8724a4f79580ec5707c4cbe6c1fd1e7661", func := "loop.example/g00862/laws.FnExactSimulationRelation", spec := "fnExactSimulationRelation", inPlace := ["internal/abi.NoEscape", "internal/bytealg.MakeNoZero"], unfollowed := true, recurses := true, plainKeys := false, apart := false }
def FnExactSimulationRelationSaid : Prop := fnExactSimulationRelationRow.holds Tryz.pinned (OpenSpec.ofChange fnExactSimulationRelationSpec)

/-- ITS FALSE NEIGHBOUR: 'it returns false'. Refute it at one input. -/
def fnExactSimulationRelationWrong : ChangeSpec := { name := "fnExactSimulationRelation", fn := fun _ => fun
  | [d1, d2] => { results := [.lit (.bool false)], args := [d1, d2] }
  | _ => none }
def FnExactSimulationRelationWrongFalsely : Prop := fnExactSimulationRelationRow.holds Tryz.pinned (OpenSpec.ofChange fnExactSimulationRelationWrong)

/-- 'laws.FnExactCompose': WHATEVER THE INPUT: true; the input reads as it did. -/
def fnExactComposeSpec : ChangeSpec := { name := "fnExactCompose", fn := fun _ => fun
  | [d1, d2] => { results := [.lit (.bool true)], args := [d1, d2] }
  | _ => none }
def fnExactComposeRow : OpenClaim := { program := "ytpceleehbpnchaagreat", sum := "209e692a1fd55daef4d7adf5ba969c8724a4f79580ec5707c4cbe6c1fd1e7661", func := "loop.example/g00862/laws.FnExactCompose", spec := "fnExactCompose", inPlace := ["internal/abi.NoEscape", "internal/bytealg.MakeNoZero"], unfollowed := true, recurses := true, plainKeys := false, apart := false }
def FnExactComposeSaid : Prop := fnExactComposeRow.holds Tryz.pinned (OpenSpec.ofChange fnExactComposeSpec)

/-- ITS FALSE NEIGHBOUR: 'it returns false'. Refute it at one input. -/
def fnExactComposeWrong : ChangeSpec := { name := "fnExactCompose", fn := fun _ => fun
  | [d1, d2] => { results := [.lit (.bool false)], args := [d1, d2] }
  | _ => none }
def FnExactComposeWrongFalsely : Prop := fnExactComposeRow.holds Tryz.pinned (OpenSpec.ofChange fnExactComposeWrong)

/- THE SECOND FORM. 'bulk': how many values and letters a reading holds, each counted each time it is reached (what is shared counts as often as it is met; a slice's spare places count too). A statement '..UptoSaid' is the law's where the arguments, and the package variables that the reading takes, are together of bulk at most 1048576: NARROWER than '..Said'. Prove '..Said' where nothing that the law and all that it calls make is longer than what came in: it says more and counts as full. Else prove '..UptoSaid'. A law counts once. -/
mutual
def uptoBulk {H : Type} : DataW H → Nat
  | .lit (.string bytes) => bytes.length + 1
  | .lit _ => 1
  | .nil => 1
  | .ptr d => uptoBulk d + 1
  | .slice elems spare => uptoBulkAll elems + uptoBulkAll spare + 1
  | .agg parts => uptoBulkAll parts + 1
  | .iface _ d => uptoBulk d + 1
  | .map entries => uptoBulkEntries entries + 1
  | .held _ => 1
def uptoBulkAll {H : Type} : List (DataW H) → Nat
  | [] => 0
  | d :: r => uptoBulk d + uptoBulkAll r
def uptoBulkEntries {H : Type} : List (Lit × DataW H) → Nat
  | [] => 0
  | x :: r => uptoBulkEntry x + uptoBulkEntries r
def uptoBulkEntry {H : Type} : Lit × DataW H → Nat
  | (.string bytes, d) => bytes.length + uptoBulk d + 1
  | (_, d) => uptoBulk d + 1
 end
def uptoSmall : (H : Type) → List (DataW H) → Bool := fun _ ds => decide (uptoBulkAll ds ≤ 1048576)
def OpenSpec.upto (s : _root_.Go.ChangeSpec) : _root_.Go.OpenSpec := { _root_.Go.OpenSpec.ofChange s with cond := some uptoSmall }

/-- 'laws.FnExactUnexpectedFlips', WHERE WHAT IT READS IS OF BULK AT MOST 1048576: true; the input reads as it did. -/
def fnExactUnexpectedFlipsUptoRow : OpenClaim := { program := "ytpceleehbpnchaagreat", sum := "209e692a1fd55daef4d7adf5ba969c8724a4f79580ec5707c4cbe6c1fd1e7661", func := "loop.example/g00862/laws.FnExactUnexpectedFlips", spec := "fnExactUnexpectedFlips", inPlace := ["internal/abi.NoEscape", "internal/bytealg.MakeNoZero"], unfollowed := true, recurses := true, plainKeys := false, apart := false, narrowed := true }
def FnExactUnexpectedFlipsUptoSaid : Prop := fnExactUnexpectedFlipsUptoRow.holds Tryz.pinned (OpenSpec.upto fnExactUnexpectedFlipsSpec)

/-- 'laws.FnExactMissingOutputs', WHERE WHAT IT READS IS OF BULK AT MOST 1048576: true; the input reads as it did. -/
def fnExactMissingOutputsUptoRow : OpenClaim := { program := "ytpceleehbpnchaagreat", sum := "209e692a1fd55daef4d7adf5ba969c8724a4f79580ec5707c4cbe6c1fd1e7661", func := "loop.example/g00862/laws.FnExactMissingOutputs", spec := "fnExactMissingOutputs", inPlace := ["internal/abi.NoEscape", "internal/bytealg.MakeNoZero"], unfollowed := true, recurses := true, plainKeys := false, apart := false, narrowed := true }
def FnExactMissingOutputsUptoSaid : Prop := fnExactMissingOutputsUptoRow.holds Tryz.pinned (OpenSpec.upto fnExactMissingOutputsSpec)

/-- 'laws.FnExactHazards', WHERE WHAT IT READS IS OF BULK AT MOST 1048576: true; the input reads as it did. -/
def fnExactHazardsUptoRow : OpenClaim := { program := "ytpceleehbpnchaagreat", sum := "209e692a1fd55daef4d7adf5ba969c8724a4f79580ec5707c4cbe6c1fd1e7661", func := "loop.example/g00862/laws.FnExactHazards", spec := "fnExactHazards", inPlace := ["internal/abi.NoEscape", "internal/bytealg.MakeNoZero"], unfollowed := true, recurses := true, plainKeys := false, apart := false, narrowed := true }
def FnExactHazardsUptoSaid : Prop := fnExactHazardsUptoRow.holds Tryz.pinned (OpenSpec.upto fnExactHazardsSpec)

/-- 'laws.FnExactFormatHazard', WHERE WHAT IT READS IS OF BULK AT MOST 1048576: true; the input reads as it did. -/
def fnExactFormatHazardUptoRow : OpenClaim := { program := "ytpceleehbpnchaagreat", sum := "209e692a1fd55daef4d7adf5ba969c8724a4f79580ec5707c4cbe6c1fd1e7661", func := "loop.example/g00862/laws.FnExactFormatHazard", spec := "fnExactFormatHazard", inPlace := ["internal/abi.NoEscape", "internal/bytealg.MakeNoZero"], unfollowed := true, recurses := true, plainKeys := false, apart := false, narrowed := true }
def FnExactFormatHazardUptoSaid : Prop := fnExactFormatHazardUptoRow.holds Tryz.pinned (OpenSpec.upto fnExactFormatHazardSpec)

/-- 'laws.FnExactConformanceReport', WHERE WHAT IT READS IS OF BULK AT MOST 1048576: true; the input reads as it did. -/
def fnExactConformanceReportUptoRow : OpenClaim := { program := "ytpceleehbpnchaagreat", sum := "209e692a1fd55daef4d7adf5ba969c8724a4f79580ec5707c4cbe6c1fd1e7661", func := "loop.example/g00862/laws.FnExactConformanceReport", spec := "fnExactConformanceReport", inPlace := ["internal/abi.NoEscape", "internal/bytealg.MakeNoZero"], unfollowed := true, recurses := true, plainKeys := false, apart := false, narrowed := true }
def FnExactConformanceReportUptoSaid : Prop := fnExactConformanceReportUptoRow.holds Tryz.pinned (OpenSpec.upto fnExactConformanceReportSpec)

/-- 'laws.FnExactVerificationReport', WHERE WHAT IT READS IS OF BULK AT MOST 1048576: true; the input reads as it did. -/
def fnExactVerificationReportUptoRow : OpenClaim := { program := "ytpceleehbpnchaagreat", sum := "209e692a1fd55daef4d7adf5ba969c8724a4f79580ec5707c4cbe6c1fd1e7661", func := "loop.example/g00862/laws.FnExactVerificationReport", spec := "fnExactVerificationReport", inPlace := ["internal/abi.NoEscape", "internal/bytealg.MakeNoZero"], unfollowed := true, recurses := true, plainKeys := false, apart := false, narrowed := true }
def FnExactVerificationReportUptoSaid : Prop := fnExactVerificationReportUptoRow.holds Tryz.pinned (OpenSpec.upto fnExactVerificationReportSpec)

/-- 'laws.FnExactHazardousWires', WHERE WHAT IT READS IS OF BULK AT MOST 1048576: true; the input reads as it did. -/
def fnExactHazardousWiresUptoRow : OpenClaim := { program := "ytpceleehbpnchaagreat", sum := "209e692a1fd55daef4d7adf5ba969c8724a4f79580ec5707c4cbe6c1fd1e7661", func := "loop.example/g00862/laws.FnExactHazardousWires", spec := "fnExactHazardousWires", inPlace := ["internal/abi.NoEscape", "internal/bytealg.MakeNoZero"], unfollowed := true, recurses := true, plainKeys := false, apart := false, narrowed := true }
def FnExactHazardousWiresUptoSaid : Prop := fnExactHazardousWiresUptoRow.holds Tryz.pinned (OpenSpec.upto fnExactHazardousWiresSpec)

/-- 'laws.FnExactSimulationRelation', WHERE WHAT IT READS IS OF BULK AT MOST 1048576: true; the input reads as it did. -/
def fnExactSimulationRelationUptoRow : OpenClaim := { program := "ytpceleehbpnchaagreat", sum := "209e692a1fd55daef4d7adf5ba969c8724a4f79580ec5707c4cbe6c1fd1e7661", func := "loop.example/g00862/laws.FnExactSimulationRelation", spec := "fnExactSimulationRelation", inPlace := ["internal/abi.NoEscape", "internal/bytealg.MakeNoZero"], unfollowed := true, recurses := true, plainKeys := false, apart := false, narrowed := true }
def FnExactSimulationRelationUptoSaid : Prop := fnExactSimulationRelationUptoRow.holds Tryz.pinned (OpenSpec.upto fnExactSimulationRelationSpec)

/-- 'laws.FnExactCompose', WHERE WHAT IT READS IS OF BULK AT MOST 1048576: true; the input reads as it did. -/
def fnExactComposeUptoRow : OpenClaim := { program := "ytpceleehbpnchaagreat", sum := "209e692a1fd55daef4d7adf5ba969c8724a4f79580ec5707c4cbe6c1fd1e7661", func := "loop.example/g00862/laws.FnExactCompose", spec := "fnExactCompose", inPlace := ["internal/abi.NoEscape", "internal/bytealg.MakeNoZero"], unfollowed := true, recurses := true, plainKeys := false, apart := false, narrowed := true }
def FnExactComposeUptoSaid : Prop := fnExactComposeUptoRow.holds Tryz.pinned (OpenSpec.upto fnExactComposeSpec)

end Rows
end Go.Proofs.YtpceleehbpnchaaGreat
