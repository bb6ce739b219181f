/-
  No cell of these rows narrows 'for every input' (looked for: loops, veiled, ifaces, maps, wideKeys, modest, calm, conditions, laid).
  DERIVED. THE GIVEN ROWS OF THIS SEAT. 9 by the template 'for every input the law returns true; each argument reads behind the call as it read before'; 0 by the template 'total and deterministic' (their statements: YtmfplddmccggkaaGreatTotals.lean).
  GIVEN WITH THE SEED: the statements are not yours to turn. If you find one false, say at which input.
  Laid BY PROGRAM, IN A SANDBOX (cutbox-rows.mjs): the forced cells as the released guide's own fill.sh prints them over the translation 5ddd9bb7bf7e3fbc… (all of the seat's roots in one cut). By AI agents, Wed Nov 11 2026. No macro, syntax, notation, axiom, sorry.
-/
import Derived.Test.YtmfplddmccggkaaGreatChecked
import GoSem.Claim
import GoSem.ClaimJoined
import GoSem.ClaimMapViews
import Derived.JoinedTies
import Derived.KernelRfl
namespace Go.Proofs.YtmfplddmccggkaaGreat
/- THE CELL 'sum', in the pinned program and in every row, IS THE sha256 OF THE DUMP (.gsa) THAT YtmfplddmccggkaaGreatProg.lean LOADS. Nothing in Lean hashes anything: it is a label: what it is worth is what the hold of that sum in a sandbox is worth. -/
noncomputable def Tryz.pinned : Pinned := { name := "ytmfplddmccggkaagreat", sum := "5ddd9bb7bf7e3fbcad875a686606c8a8543d2d020bd27d969df5f685db03d396", checked := Tryz.checked }
namespace Rows
def none {H : Type} : Left H := { results := [], args := [] }

/-- 'laws.FnExactInitialProductState': WHATEVER THE INPUT: true; the input reads as it did. -/
def fnExactInitialProductStateSpec : ChangeSpec := { name := "fnExactInitialProductState", fn := fun _ => fun
  | [d1, d2] => { results := [.lit (.bool true)], args := [d1, d2] }
  | _ => none }
def fnExactInitialProductStateRow : OpenClaim := { program := "ytmfplddmccggkaagreat", sum := "5ddd9bb7bf7e3fbcad875a686606c8a8543d2d020bd27d969df5f685db03d396", func := "loop.example/g00862/laws.FnExactInitialProductState", spec := "fnExactInitialProductState", inPlace := ["internal/abi.NoEscape", "internal/bytealg.MakeNoZero"], unfollowed := true, recurses := true, plainKeys := false, apart := false }
def FnExactInitialProductStateSaid : Prop := fnExactInitialProductStateRow.holds Tryz.pinned (OpenSpec.ofChange fnExactInitialProductStateSpec)

/-- ITS FALSE NEIGHBOUR: 'it returns false'. Refute it at one input. -/
def fnExactInitialProductStateWrong : ChangeSpec := { name := "fnExactInitialProductState", fn := fun _ => fun
  | [d1, d2] => { results := [.lit (.bool false)], args := [d1, d2] }
  | _ => none }
def FnExactInitialProductStateWrongFalsely : Prop := fnExactInitialProductStateRow.holds Tryz.pinned (OpenSpec.ofChange fnExactInitialProductStateWrong)

/-- 'laws.FnExactIsHazard': WHATEVER THE INPUT: true; the input reads as it did. -/
def fnExactIsHazardSpec : ChangeSpec := { name := "fnExactIsHazard", fn := fun _ => fun
  | [d1, d2, d3, d4, d5] => { results := [.lit (.bool true)], args := [d1, d2, d3, d4, d5] }
  | _ => none }
def fnExactIsHazardRow : OpenClaim := { program := "ytmfplddmccggkaagreat", sum := "5ddd9bb7bf7e3fbcad875a686606c8a8543d2d020bd27d969df5f685db03d396", func := "loop.example/g00862/laws.FnExactIsHazard", spec := "fnExactIsHazard", unfollowed := true, recurses := true, plainKeys := false, apart := false }
def FnExactIsHazardSaid : Prop := fnExactIsHazardRow.holds Tryz.pinned (OpenSpec.ofChange fnExactIsHazardSpec)

/-- ITS FALSE NEIGHBOUR: 'it returns false'. Refute it at one input. -/
def fnExactIsHazardWrong : ChangeSpec := { name := "fnExactIsHazard", fn := fun _ => fun
  | [d1, d2, d3, d4, d5] => { results := [.lit (.bool false)], args := [d1, d2, d3, d4, d5] }
  | _ => none }
def FnExactIsHazardWrongFalsely : Prop := fnExactIsHazardRow.holds Tryz.pinned (OpenSpec.ofChange fnExactIsHazardWrong)

/-- 'laws.FnExactSuccessors': WHATEVER THE INPUT: true; the input reads as it did. -/
def fnExactSuccessorsSpec : ChangeSpec := { name := "fnExactSuccessors", fn := fun _ => fun
  | [d1, d2, d3] => { results := [.lit (.bool true)], args := [d1, d2, d3] }
  | _ => none }
def fnExactSuccessorsRow : OpenClaim := { program := "ytmfplddmccggkaagreat", sum := "5ddd9bb7bf7e3fbcad875a686606c8a8543d2d020bd27d969df5f685db03d396", func := "loop.example/g00862/laws.FnExactSuccessors", spec := "fnExactSuccessors", unfollowed := true, recurses := true, plainKeys := false, apart := false }
def FnExactSuccessorsSaid : Prop := fnExactSuccessorsRow.holds Tryz.pinned (OpenSpec.ofChange fnExactSuccessorsSpec)

/-- ITS FALSE NEIGHBOUR: 'it returns false'. Refute it at one input. -/
def fnExactSuccessorsWrong : ChangeSpec := { name := "fnExactSuccessors", fn := fun _ => fun
  | [d1, d2, d3] => { results := [.lit (.bool false)], args := [d1, d2, d3] }
  | _ => none }
def FnExactSuccessorsWrongFalsely : Prop := fnExactSuccessorsRow.holds Tryz.pinned (OpenSpec.ofChange fnExactSuccessorsWrong)

/-- 'laws.FnExactUnexpectedOutputs': WHATEVER THE INPUT: true; the input reads as it did. -/
def fnExactUnexpectedOutputsSpec : ChangeSpec := { name := "fnExactUnexpectedOutputs", fn := fun _ => fun
  | [d1, d2, d3] => { results := [.lit (.bool true)], args := [d1, d2, d3] }
  | _ => none }
def fnExactUnexpectedOutputsRow : OpenClaim := { program := "ytmfplddmccggkaagreat", sum := "5ddd9bb7bf7e3fbcad875a686606c8a8543d2d020bd27d969df5f685db03d396", func := "loop.example/g00862/laws.FnExactUnexpectedOutputs", spec := "fnExactUnexpectedOutputs", unfollowed := true, recurses := true, plainKeys := false, apart := false }
def FnExactUnexpectedOutputsSaid : Prop := fnExactUnexpectedOutputsRow.holds Tryz.pinned (OpenSpec.ofChange fnExactUnexpectedOutputsSpec)

/-- ITS FALSE NEIGHBOUR: 'it returns false'. Refute it at one input. -/
def fnExactUnexpectedOutputsWrong : ChangeSpec := { name := "fnExactUnexpectedOutputs", fn := fun _ => fun
  | [d1, d2, d3] => { results := [.lit (.bool false)], args := [d1, d2, d3] }
  | _ => none }
def FnExactUnexpectedOutputsWrongFalsely : Prop := fnExactUnexpectedOutputsRow.holds Tryz.pinned (OpenSpec.ofChange fnExactUnexpectedOutputsWrong)

/-- 'laws.FnExactIsHazardFree': WHATEVER THE INPUT: true; the input reads as it did. -/
def fnExactIsHazardFreeSpec : ChangeSpec := { name := "fnExactIsHazardFree", fn := fun _ => fun
  | [d1, d2] => { results := [.lit (.bool true)], args := [d1, d2] }
  | _ => none }
def fnExactIsHazardFreeRow : OpenClaim := { program := "ytmfplddmccggkaagreat", sum := "5ddd9bb7bf7e3fbcad875a686606c8a8543d2d020bd27d969df5f685db03d396", func := "loop.example/g00862/laws.FnExactIsHazardFree", spec := "fnExactIsHazardFree", inPlace := ["internal/abi.NoEscape", "internal/bytealg.MakeNoZero"], unfollowed := true, recurses := true, plainKeys := false, apart := false }
def FnExactIsHazardFreeSaid : Prop := fnExactIsHazardFreeRow.holds Tryz.pinned (OpenSpec.ofChange fnExactIsHazardFreeSpec)

/-- ITS FALSE NEIGHBOUR: 'it returns false'. Refute it at one input. -/
def fnExactIsHazardFreeWrong : ChangeSpec := { name := "fnExactIsHazardFree", fn := fun _ => fun
  | [d1, d2] => { results := [.lit (.bool false)], args := [d1, d2] }
  | _ => none }
def FnExactIsHazardFreeWrongFalsely : Prop := fnExactIsHazardFreeRow.holds Tryz.pinned (OpenSpec.ofChange fnExactIsHazardFreeWrong)

/-- 'laws.FnExactConforms': WHATEVER THE INPUT: true; the input reads as it did. -/
def fnExactConformsSpec : ChangeSpec := { name := "fnExactConforms", fn := fun _ => fun
  | [d1, d2] => { results := [.lit (.bool true)], args := [d1, d2] }
  | _ => none }
def fnExactConformsRow : OpenClaim := { program := "ytmfplddmccggkaagreat", sum := "5ddd9bb7bf7e3fbcad875a686606c8a8543d2d020bd27d969df5f685db03d396", func := "loop.example/g00862/laws.FnExactConforms", spec := "fnExactConforms", inPlace := ["internal/abi.NoEscape", "internal/bytealg.MakeNoZero"], unfollowed := true, recurses := true, plainKeys := false, apart := false }
def FnExactConformsSaid : Prop := fnExactConformsRow.holds Tryz.pinned (OpenSpec.ofChange fnExactConformsSpec)

/-- ITS FALSE NEIGHBOUR: 'it returns false'. Refute it at one input. -/
def fnExactConformsWrong : ChangeSpec := { name := "fnExactConforms", fn := fun _ => fun
  | [d1, d2] => { results := [.lit (.bool false)], args := [d1, d2] }
  | _ => none }
def FnExactConformsWrongFalsely : Prop := fnExactConformsRow.holds Tryz.pinned (OpenSpec.ofChange fnExactConformsWrong)

/-- 'laws.FnExactIsVerified': WHATEVER THE INPUT: true; the input reads as it did. -/
def fnExactIsVerifiedSpec : ChangeSpec := { name := "fnExactIsVerified", fn := fun _ => fun
  | [d1, d2] => { results := [.lit (.bool true)], args := [d1, d2] }
  | _ => none }
def fnExactIsVerifiedRow : OpenClaim := { program := "ytmfplddmccggkaagreat", sum := "5ddd9bb7bf7e3fbcad875a686606c8a8543d2d020bd27d969df5f685db03d396", func := "loop.example/g00862/laws.FnExactIsVerified", spec := "fnExactIsVerified", inPlace := ["internal/abi.NoEscape", "internal/bytealg.MakeNoZero"], unfollowed := true, recurses := true, plainKeys := false, apart := false }
def FnExactIsVerifiedSaid : Prop := fnExactIsVerifiedRow.holds Tryz.pinned (OpenSpec.ofChange fnExactIsVerifiedSpec)

/-- ITS FALSE NEIGHBOUR: 'it returns false'. Refute it at one input. -/
def fnExactIsVerifiedWrong : ChangeSpec := { name := "fnExactIsVerified", fn := fun _ => fun
  | [d1, d2] => { results := [.lit (.bool false)], args := [d1, d2] }
  | _ => none }
def FnExactIsVerifiedWrongFalsely : Prop := fnExactIsVerifiedRow.holds Tryz.pinned (OpenSpec.ofChange fnExactIsVerifiedWrong)

/-- 'laws.FnExactCheckSimulation': WHATEVER THE INPUT: true; the input reads as it did. -/
def fnExactCheckSimulationSpec : ChangeSpec := { name := "fnExactCheckSimulation", fn := fun _ => fun
  | [d1, d2, d3] => { results := [.lit (.bool true)], args := [d1, d2, d3] }
  | _ => none }
def fnExactCheckSimulationRow : OpenClaim := { program := "ytmfplddmccggkaagreat", sum := "5ddd9bb7bf7e3fbcad875a686606c8a8543d2d020bd27d969df5f685db03d396", func := "loop.example/g00862/laws.FnExactCheckSimulation", spec := "fnExactCheckSimulation", inPlace := ["internal/abi.NoEscape", "internal/bytealg.MakeNoZero"], unfollowed := true, recurses := true, plainKeys := false, apart := false }
def FnExactCheckSimulationSaid : Prop := fnExactCheckSimulationRow.holds Tryz.pinned (OpenSpec.ofChange fnExactCheckSimulationSpec)

/-- ITS FALSE NEIGHBOUR: 'it returns false'. Refute it at one input. -/
def fnExactCheckSimulationWrong : ChangeSpec := { name := "fnExactCheckSimulation", fn := fun _ => fun
  | [d1, d2, d3] => { results := [.lit (.bool false)], args := [d1, d2, d3] }
  | _ => none }
def FnExactCheckSimulationWrongFalsely : Prop := fnExactCheckSimulationRow.holds Tryz.pinned (OpenSpec.ofChange fnExactCheckSimulationWrong)

/-- 'laws.FnExactFirstBadPair': WHATEVER THE INPUT: true; the input reads as it did. -/
def fnExactFirstBadPairSpec : ChangeSpec := { name := "fnExactFirstBadPair", fn := fun _ => fun
  | [d1, d2, d3] => { results := [.lit (.bool true)], args := [d1, d2, d3] }
  | _ => none }
def fnExactFirstBadPairRow : OpenClaim := { program := "ytmfplddmccggkaagreat", sum := "5ddd9bb7bf7e3fbcad875a686606c8a8543d2d020bd27d969df5f685db03d396", func := "loop.example/g00862/laws.FnExactFirstBadPair", spec := "fnExactFirstBadPair", inPlace := ["internal/abi.NoEscape", "internal/bytealg.MakeNoZero"], unfollowed := true, recurses := true, plainKeys := false, apart := false }
def FnExactFirstBadPairSaid : Prop := fnExactFirstBadPairRow.holds Tryz.pinned (OpenSpec.ofChange fnExactFirstBadPairSpec)

/-- ITS FALSE NEIGHBOUR: 'it returns false'. Refute it at one input. -/
def fnExactFirstBadPairWrong : ChangeSpec := { name := "fnExactFirstBadPair", fn := fun _ => fun
  | [d1, d2, d3] => { results := [.lit (.bool false)], args := [d1, d2, d3] }
  | _ => none }
def FnExactFirstBadPairWrongFalsely : Prop := fnExactFirstBadPairRow.holds Tryz.pinned (OpenSpec.ofChange fnExactFirstBadPairWrong)

/- THE SECOND FORM. 'bulk': how many values and letters a reading holds, each counted each time it is reached (what is shared counts as often as it is met; a slice's spare places count too). A statement '..UptoSaid' is the law's where the arguments, and the package variables that the reading takes, are together of bulk at most 1048576: NARROWER than '..Said'. Prove '..Said' where nothing that the law and all that it calls make is longer than what came in: it says more and counts as full. Else prove '..UptoSaid'. A law counts once. -/
mutual
def uptoBulk {H : Type} : DataW H → Nat
  | .lit (.string bytes) => bytes.length + 1
  | .lit _ => 1
  | .nil => 1
  | .ptr d => uptoBulk d + 1
  | .slice elems spare => uptoBulkAll elems + uptoBulkAll spare + 1
  | .agg parts => uptoBulkAll parts + 1
  | .iface _ d => uptoBulk d + 1
  | .map entries => uptoBulkEntries entries + 1
  | .held _ => 1
def uptoBulkAll {H : Type} : List (DataW H) → Nat
  | [] => 0
  | d :: r => uptoBulk d + uptoBulkAll r
def uptoBulkEntries {H : Type} : List (Lit × DataW H) → Nat
  | [] => 0
  | x :: r => uptoBulkEntry x + uptoBulkEntries r
def uptoBulkEntry {H : Type} : Lit × DataW H → Nat
  | (.string bytes, d) => bytes.length + uptoBulk d + 1
  | (_, d) => uptoBulk d + 1
 end
def uptoSmall : (H : Type) → List (DataW H) → Bool := fun _ ds => decide (uptoBulkAll ds ≤ 1048576)
def OpenSpec.upto (s : _root_.Go.ChangeSpec) : _root_.Go.OpenSpec := { _root_.Go.OpenSpec.ofChange s with cond := some uptoSmall }

/-- 'laws.FnExactInitialProductState', WHERE WHAT IT READS IS OF BULK AT MOST 1048576: true; the input reads as it did. -/
def fnExactInitialProductStateUptoRow : OpenClaim := { program := "ytmfplddmccggkaagreat", sum := "5ddd9bb7bf7e3fbcad875a686606c8a8543d2d020bd27d969df5f685db03d396", func := "loop.example/g00862/laws.FnExactInitialProductState", spec := "fnExactInitialProductState", inPlace := ["internal/abi.NoEscape", "internal/bytealg.MakeNoZero"], unfollowed := true, recurses := true, plainKeys := false, apart := false, narrowed := true }
def FnExactInitialProductStateUptoSaid : Prop := fnExactInitialProductStateUptoRow.holds Tryz.pinned (OpenSpec.upto fnExactInitialProductStateSpec)

/-- 'laws.FnExactIsHazard', WHERE WHAT IT READS IS OF BULK AT MOST 1048576: true; the input reads as it did. -/
def fnExactIsHazardUptoRow : OpenClaim := { program := "ytmfplddmccggkaagreat", sum := "5ddd9bb7bf7e3fbcad875a686606c8a8543d2d020bd27d969df5f685db03d396", func := "loop.example/g00862/laws.FnExactIsHazard", spec := "fnExactIsHazard", unfollowed := true, recurses := true, plainKeys := false, apart := false, narrowed := true }
def FnExactIsHazardUptoSaid : Prop := fnExactIsHazardUptoRow.holds Tryz.pinned (OpenSpec.upto fnExactIsHazardSpec)

/-- 'laws.FnExactSuccessors', WHERE WHAT IT READS IS OF BULK AT MOST 1048576: true; the input reads as it did. -/
def fnExactSuccessorsUptoRow : OpenClaim := { program := "ytmfplddmccggkaagreat", sum := "5ddd9bb7bf7e3fbcad875a686606c8a8543d2d020bd27d969df5f685db03d396", func := "loop.example/g00862/laws.FnExactSuccessors", spec := "fnExactSuccessors", unfollowed := true, recurses := true, plainKeys := false, apart := false, narrowed := true }
def FnExactSuccessorsUptoSaid : Prop := fnExactSuccessorsUptoRow.holds Tryz.pinned (OpenSpec.upto fnExactSuccessorsSpec)

/-- 'laws.FnExactUnexpectedOutputs', WHERE WHAT IT READS IS OF BULK AT MOST 1048576: true; the input reads as it did. -/
def fnExactUnexpectedOutputsUptoRow : OpenClaim := { program := "ytmfplddmccggkaagreat", sum := "5ddd9bb7bf7e3fbcad875a686606c8a8543d2d020bd27d969df5f685db03d396", func := "loop.example/g00862/laws.FnExactUnexpectedOutputs", spec := "fnExactUnexpectedOutputs", unfollowed := true, recurses := true, plainKeys := false, apart := false, narrowed := true }
def FnExactUnexpectedOutputsUptoSaid : Prop := fnExactUnexpectedOutputsUptoRow.holds Tryz.pinned (OpenSpec.upto fnExactUnexpectedOutputsSpec)

/-- 'laws.FnExactIsHazardFree', WHERE WHAT IT READS IS OF BULK AT MOST 1048576: true; the input reads as it did. -/
def fnExactIsHazardFreeUptoRow : OpenClaim := { program := "ytmfplddmccggkaagreat", sum := "5ddd9bb7bf7e3fbcad875a686606c8a8543d2d020bd27d969df5f685db03d396", func := "loop.example/g00862/laws.FnExactIsHazardFree", spec := "fnExactIsHazardFree", inPlace := ["internal/abi.NoEscape", "internal/bytealg.MakeNoZero"], unfollowed := true, recurses := true, plainKeys := false, apart := false, narrowed := true }
def FnExactIsHazardFreeUptoSaid : Prop := fnExactIsHazardFreeUptoRow.holds Tryz.pinned (OpenSpec.upto fnExactIsHazardFreeSpec)

/-- 'laws.FnExactConforms', WHERE WHAT IT READS IS OF BULK AT MOST 1048576: true; the input reads as it did. -/
def fnExactConformsUptoRow : OpenClaim := { program := "ytmfplddmccggkaagreat", sum := "5ddd9bb7bf7e3fbcad875a686606c8a8543d2d020bd27d969df5f685db03d396", func := "loop.example/g00862/laws.FnExactConforms", spec := "fnExactConforms", inPlace := ["internal/abi.NoEscape", "internal/bytealg.MakeNoZero"], unfollowed := true, recurses := true, plainKeys := false, apart := false, narrowed := true }
def FnExactConformsUptoSaid : Prop := fnExactConformsUptoRow.holds Tryz.pinned (OpenSpec.upto fnExactConformsSpec)

/-- 'laws.FnExactIsVerified', WHERE WHAT IT READS IS OF BULK AT MOST 1048576: true; the input reads as it did. -/
def fnExactIsVerifiedUptoRow : OpenClaim := { program := "ytmfplddmccggkaagreat", sum := "5ddd9bb7bf7e3fbcad875a686606c8a8543d2d020bd27d969df5f685db03d396", func := "loop.example/g00862/laws.FnExactIsVerified", spec := "fnExactIsVerified", inPlace := ["internal/abi.NoEscape", "internal/bytealg.MakeNoZero"], unfollowed := true, recurses := true, plainKeys := false, apart := false, narrowed := true }
def FnExactIsVerifiedUptoSaid : Prop := fnExactIsVerifiedUptoRow.holds Tryz.pinned (OpenSpec.upto fnExactIsVerifiedSpec)

/-- 'laws.FnExactCheckSimulation', WHERE WHAT IT READS IS OF BULK AT MOST 1048576: true; the input reads as it did. -/
def fnExactCheckSimulationUptoRow : OpenClaim := { program := "ytmfplddmccggkaagreat", sum := "5ddd9bb7bf7e3fbcad875a686606c8a8543d2d020bd27d969df5f685db03d396", func := "loop.example/g00862/laws.FnExactCheckSimulation", spec := "fnExactCheckSimulation", inPlace := ["internal/abi.NoEscape", "internal/bytealg.MakeNoZero"], unfollowed := true, recurses := true, plainKeys := false, apart := false, narrowed := true }
def FnExactCheckSimulationUptoSaid : Prop := fnExactCheckSimulationUptoRow.holds Tryz.pinned (OpenSpec.upto fnExactCheckSimulationSpec)

/-- 'laws.FnExactFirstBadPair', WHERE WHAT IT READS IS OF BULK AT MOST 1048576: true; the input reads as it did. -/
def fnExactFirstBadPairUptoRow : OpenClaim := { program := "ytmfplddmccggkaagreat", sum := "5ddd9bb7bf7e3fbcad875a686606c8a8543d2d020bd27d969df5f685db03d396", func := "loop.example/g00862/laws.FnExactFirstBadPair", spec := "fnExactFirstBadPair", inPlace := ["internal/abi.NoEscape", "internal/bytealg.MakeNoZero"], unfollowed := true, recurses := true, plainKeys := false, apart := false, narrowed := true }
def FnExactFirstBadPairUptoSaid : Prop := fnExactFirstBadPairUptoRow.holds Tryz.pinned (OpenSpec.upto fnExactFirstBadPairSpec)

end Rows
end Go.Proofs.YtmfplddmccggkaaGreat
