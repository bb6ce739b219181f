/-
  No cell of these rows narrows 'for every input' (looked for: loops, veiled, ifaces, maps, wideKeys, modest, calm, conditions, laid).
  DERIVED. THE GIVEN ROWS OF THIS SEAT. 7 by the template 'for every input the law returns true; each argument reads behind the call as it read before'; 0 by the template 'total and deterministic' (their statements: YtnpbdphfjablbaaTotals.lean).
  GIVEN WITH THE SEED: the statements are not yours to turn. If you find one false, say at which input.
  Laid BY PROGRAM, IN A SANDBOX (cutbox-rows.mjs): the forced cells as the released guide's own fill.sh prints them over the translation 28ca7d023132587a… (all of the seat's roots in one cut). By AI agents, Wed Nov 11 2026. No macro, syntax, notation, axiom, sorry.
-/
import Derived.Test.YtnpbdphfjablbaaChecked
import GoSem.Claim
import GoSem.ClaimJoined
import GoSem.ClaimMapViews
import Derived.JoinedTies
import Derived.KernelRfl
namespace Go.Proofs.Ytnpbdphfjablbaa
/- THE CELL 'sum', in the pinned program and in every row, IS THE sha256 OF THE DUMP (.gsa) THAT YtnpbdphfjablbaaProg.lean LOADS. Nothing in Lean hashes anything: it is a label: what it is worth is what the hold of that sum in a sandbox is worth. -/
noncomputable def Try.pinned : Pinned := { name := "ytnpbdphfjablbaa", sum := "28ca7d023132587a2228b030d0b404f4a7fc2460115e0426bed49ec50e60c011", checked := Try.checked }
namespace Rows
def none {H : Type} : Left H := { results := [], args := [] }

/-- 'laws.FnExactVisibleTrace': WHATEVER THE INPUT: true; the input reads as it did. -/
def fnExactVisibleTraceSpec : ChangeSpec := { name := "fnExactVisibleTrace", fn := fun _ => fun
  | [d1, d2] => { results := [.lit (.bool true)], args := [d1, d2] }
  | _ => none }
def fnExactVisibleTraceRow : OpenClaim := { program := "ytnpbdphfjablbaa", sum := "28ca7d023132587a2228b030d0b404f4a7fc2460115e0426bed49ec50e60c011", func := "loop.example/g00862/laws.FnExactVisibleTrace", spec := "fnExactVisibleTrace", unfollowed := true, recurses := true, apart := false }
def FnExactVisibleTraceSaid : Prop := fnExactVisibleTraceRow.holds Try.pinned (OpenSpec.ofChange fnExactVisibleTraceSpec)

/-- ITS FALSE NEIGHBOUR: 'it returns false'. Refute it at one input. -/
def fnExactVisibleTraceWrong : ChangeSpec := { name := "fnExactVisibleTrace", fn := fun _ => fun
  | [d1, d2] => { results := [.lit (.bool false)], args := [d1, d2] }
  | _ => none }
def FnExactVisibleTraceWrongFalsely : Prop := fnExactVisibleTraceRow.holds Try.pinned (OpenSpec.ofChange fnExactVisibleTraceWrong)

/-- 'laws.FnExactIsTimedRun': WHATEVER THE INPUT: true; the input reads as it did. -/
def fnExactIsTimedRunSpec : ChangeSpec := { name := "fnExactIsTimedRun", fn := fun _ => fun
  | [d1, d2, d3] => { results := [.lit (.bool true)], args := [d1, d2, d3] }
  | _ => none }
def fnExactIsTimedRunRow : OpenClaim := { program := "ytnpbdphfjablbaa", sum := "28ca7d023132587a2228b030d0b404f4a7fc2460115e0426bed49ec50e60c011", func := "loop.example/g00862/laws.FnExactIsTimedRun", spec := "fnExactIsTimedRun", unfollowed := true, recurses := true, apart := false }
def FnExactIsTimedRunSaid : Prop := fnExactIsTimedRunRow.holds Try.pinned (OpenSpec.ofChange fnExactIsTimedRunSpec)

/-- ITS FALSE NEIGHBOUR: 'it returns false'. Refute it at one input. -/
def fnExactIsTimedRunWrong : ChangeSpec := { name := "fnExactIsTimedRun", fn := fun _ => fun
  | [d1, d2, d3] => { results := [.lit (.bool false)], args := [d1, d2, d3] }
  | _ => none }
def FnExactIsTimedRunWrongFalsely : Prop := fnExactIsTimedRunRow.holds Try.pinned (OpenSpec.ofChange fnExactIsTimedRunWrong)

/-- 'laws.FnExactEnablingTimes': WHATEVER THE INPUT: true; the input reads as it did. -/
def fnExactEnablingTimesSpec : ChangeSpec := { name := "fnExactEnablingTimes", fn := fun _ => fun
  | [d1, d2] => { results := [.lit (.bool true)], args := [d1, d2] }
  | _ => none }
def fnExactEnablingTimesRow : OpenClaim := { program := "ytnpbdphfjablbaa", sum := "28ca7d023132587a2228b030d0b404f4a7fc2460115e0426bed49ec50e60c011", func := "loop.example/g00862/laws.FnExactEnablingTimes", spec := "fnExactEnablingTimes", unfollowed := true, recurses := true, apart := false }
def FnExactEnablingTimesSaid : Prop := fnExactEnablingTimesRow.holds Try.pinned (OpenSpec.ofChange fnExactEnablingTimesSpec)

/-- ITS FALSE NEIGHBOUR: 'it returns false'. Refute it at one input. -/
def fnExactEnablingTimesWrong : ChangeSpec := { name := "fnExactEnablingTimes", fn := fun _ => fun
  | [d1, d2] => { results := [.lit (.bool false)], args := [d1, d2] }
  | _ => none }
def FnExactEnablingTimesWrongFalsely : Prop := fnExactEnablingTimesRow.holds Try.pinned (OpenSpec.ofChange fnExactEnablingTimesWrong)

/-- 'laws.FnExactExplore': WHATEVER THE INPUT: true; the input reads as it did. -/
def fnExactExploreSpec : ChangeSpec := { name := "fnExactExplore", fn := fun _ => fun
  | [d] => { results := [.lit (.bool true)], args := [d] }
  | _ => none }
def fnExactExploreRow : OpenClaim := { program := "ytnpbdphfjablbaa", sum := "28ca7d023132587a2228b030d0b404f4a7fc2460115e0426bed49ec50e60c011", func := "loop.example/g00862/laws.FnExactExplore", spec := "fnExactExplore", unfollowed := true, recurses := true, apart := false }
def FnExactExploreSaid : Prop := fnExactExploreRow.holds Try.pinned (OpenSpec.ofChange fnExactExploreSpec)

/-- ITS FALSE NEIGHBOUR: 'it returns false'. Refute it at one input. -/
def fnExactExploreWrong : ChangeSpec := { name := "fnExactExplore", fn := fun _ => fun
  | [d] => { results := [.lit (.bool false)], args := [d] }
  | _ => none }
def FnExactExploreWrongFalsely : Prop := fnExactExploreRow.holds Try.pinned (OpenSpec.ofChange fnExactExploreWrong)

/-- 'laws.FnExactInconsistentSignals': WHATEVER THE INPUT: true; the input reads as it did. -/
def fnExactInconsistentSignalsSpec : ChangeSpec := { name := "fnExactInconsistentSignals", fn := fun _ => fun
  | [d] => { results := [.lit (.bool true)], args := [d] }
  | _ => none }
def fnExactInconsistentSignalsRow : OpenClaim := { program := "ytnpbdphfjablbaa", sum := "28ca7d023132587a2228b030d0b404f4a7fc2460115e0426bed49ec50e60c011", func := "loop.example/g00862/laws.FnExactInconsistentSignals", spec := "fnExactInconsistentSignals", unfollowed := true, recurses := true, apart := false }
def FnExactInconsistentSignalsSaid : Prop := fnExactInconsistentSignalsRow.holds Try.pinned (OpenSpec.ofChange fnExactInconsistentSignalsSpec)

/-- ITS FALSE NEIGHBOUR: 'it returns false'. Refute it at one input. -/
def fnExactInconsistentSignalsWrong : ChangeSpec := { name := "fnExactInconsistentSignals", fn := fun _ => fun
  | [d] => { results := [.lit (.bool false)], args := [d] }
  | _ => none }
def FnExactInconsistentSignalsWrongFalsely : Prop := fnExactInconsistentSignalsRow.holds Try.pinned (OpenSpec.ofChange fnExactInconsistentSignalsWrong)

/-- 'laws.FnExactBuildStateGraph': WHATEVER THE INPUT: true; the input reads as it did. -/
def fnExactBuildStateGraphSpec : ChangeSpec := { name := "fnExactBuildStateGraph", fn := fun _ => fun
  | [d] => { results := [.lit (.bool true)], args := [d] }
  | _ => none }
def fnExactBuildStateGraphRow : OpenClaim := { program := "ytnpbdphfjablbaa", sum := "28ca7d023132587a2228b030d0b404f4a7fc2460115e0426bed49ec50e60c011", func := "loop.example/g00862/laws.FnExactBuildStateGraph", spec := "fnExactBuildStateGraph", unfollowed := true, recurses := true, apart := false }
def FnExactBuildStateGraphSaid : Prop := fnExactBuildStateGraphRow.holds Try.pinned (OpenSpec.ofChange fnExactBuildStateGraphSpec)

/-- ITS FALSE NEIGHBOUR: 'it returns false'. Refute it at one input. -/
def fnExactBuildStateGraphWrong : ChangeSpec := { name := "fnExactBuildStateGraph", fn := fun _ => fun
  | [d] => { results := [.lit (.bool false)], args := [d] }
  | _ => none }
def FnExactBuildStateGraphWrongFalsely : Prop := fnExactBuildStateGraphRow.holds Try.pinned (OpenSpec.ofChange fnExactBuildStateGraphWrong)

/-- 'laws.FnExactInitialCode': WHATEVER THE INPUT: true; the input reads as it did. -/
def fnExactInitialCodeSpec : ChangeSpec := { name := "fnExactInitialCode", fn := fun _ => fun
  | [d] => { results := [.lit (.bool true)], args := [d] }
  | _ => none }
def fnExactInitialCodeRow : OpenClaim := { program := "ytnpbdphfjablbaa", sum := "28ca7d023132587a2228b030d0b404f4a7fc2460115e0426bed49ec50e60c011", func := "loop.example/g00862/laws.FnExactInitialCode", spec := "fnExactInitialCode", unfollowed := true, recurses := true, apart := false }
def FnExactInitialCodeSaid : Prop := fnExactInitialCodeRow.holds Try.pinned (OpenSpec.ofChange fnExactInitialCodeSpec)

/-- ITS FALSE NEIGHBOUR: 'it returns false'. Refute it at one input. -/
def fnExactInitialCodeWrong : ChangeSpec := { name := "fnExactInitialCode", fn := fun _ => fun
  | [d] => { results := [.lit (.bool false)], args := [d] }
  | _ => none }
def FnExactInitialCodeWrongFalsely : Prop := fnExactInitialCodeRow.holds Try.pinned (OpenSpec.ofChange fnExactInitialCodeWrong)

/- THE SECOND FORM. 'bulk': how many values and letters a reading holds, each counted each time it is reached (what is shared counts as often as it is met; a slice's spare places count too). A statement '..UptoSaid' is the law's where the arguments, and the package variables that the reading takes, are together of bulk at most 1048576: NARROWER than '..Said'. Prove '..Said' where nothing that the law and all that it calls make is longer than what came in: it says more and counts as full. Else prove '..UptoSaid'. A law counts once. -/
mutual
def uptoBulk {H : Type} : DataW H → Nat
  | .lit (.string bytes) => bytes.length + 1
  | .lit _ => 1
  | .nil => 1
  | .ptr d => uptoBulk d + 1
  | .slice elems spare => uptoBulkAll elems + uptoBulkAll spare + 1
  | .agg parts => uptoBulkAll parts + 1
  | .iface _ d => uptoBulk d + 1
  | .map entries => uptoBulkEntries entries + 1
  | .held _ => 1
def uptoBulkAll {H : Type} : List (DataW H) → Nat
  | [] => 0
  | d :: r => uptoBulk d + uptoBulkAll r
def uptoBulkEntries {H : Type} : List (Lit × DataW H) → Nat
  | [] => 0
  | x :: r => uptoBulkEntry x + uptoBulkEntries r
def uptoBulkEntry {H : Type} : Lit × DataW H → Nat
  | (.string bytes, d) => bytes.length + uptoBulk d + 1
  | (_, d) => uptoBulk d + 1
 end
def uptoSmall : (H : Type) → List (DataW H) → Bool := fun _ ds => decide (uptoBulkAll ds ≤ 1048576)
def OpenSpec.upto (s : _root_.Go.ChangeSpec) : _root_.Go.OpenSpec := { _root_.Go.OpenSpec.ofChange s with cond := some uptoSmall }

/-- 'laws.FnExactVisibleTrace', WHERE WHAT IT READS IS OF BULK AT MOST 1048576: true; the input reads as it did. -/
def fnExactVisibleTraceUptoRow : OpenClaim := { program := "ytnpbdphfjablbaa", sum := "28ca7d023132587a2228b030d0b404f4a7fc2460115e0426bed49ec50e60c011", func := "loop.example/g00862/laws.FnExactVisibleTrace", spec := "fnExactVisibleTrace", unfollowed := true, recurses := true, apart := false, narrowed := true }
def FnExactVisibleTraceUptoSaid : Prop := fnExactVisibleTraceUptoRow.holds Try.pinned (OpenSpec.upto fnExactVisibleTraceSpec)

/-- 'laws.FnExactIsTimedRun', WHERE WHAT IT READS IS OF BULK AT MOST 1048576: true; the input reads as it did. -/
def fnExactIsTimedRunUptoRow : OpenClaim := { program := "ytnpbdphfjablbaa", sum := "28ca7d023132587a2228b030d0b404f4a7fc2460115e0426bed49ec50e60c011", func := "loop.example/g00862/laws.FnExactIsTimedRun", spec := "fnExactIsTimedRun", unfollowed := true, recurses := true, apart := false, narrowed := true }
def FnExactIsTimedRunUptoSaid : Prop := fnExactIsTimedRunUptoRow.holds Try.pinned (OpenSpec.upto fnExactIsTimedRunSpec)

/-- 'laws.FnExactEnablingTimes', WHERE WHAT IT READS IS OF BULK AT MOST 1048576: true; the input reads as it did. -/
def fnExactEnablingTimesUptoRow : OpenClaim := { program := "ytnpbdphfjablbaa", sum := "28ca7d023132587a2228b030d0b404f4a7fc2460115e0426bed49ec50e60c011", func := "loop.example/g00862/laws.FnExactEnablingTimes", spec := "fnExactEnablingTimes", unfollowed := true, recurses := true, apart := false, narrowed := true }
def FnExactEnablingTimesUptoSaid : Prop := fnExactEnablingTimesUptoRow.holds Try.pinned (OpenSpec.upto fnExactEnablingTimesSpec)

/-- 'laws.FnExactExplore', WHERE WHAT IT READS IS OF BULK AT MOST 1048576: true; the input reads as it did. -/
def fnExactExploreUptoRow : OpenClaim := { program := "ytnpbdphfjablbaa", sum := "28ca7d023132587a2228b030d0b404f4a7fc2460115e0426bed49ec50e60c011", func := "loop.example/g00862/laws.FnExactExplore", spec := "fnExactExplore", unfollowed := true, recurses := true, apart := false, narrowed := true }
def FnExactExploreUptoSaid : Prop := fnExactExploreUptoRow.holds Try.pinned (OpenSpec.upto fnExactExploreSpec)

/-- 'laws.FnExactInconsistentSignals', WHERE WHAT IT READS IS OF BULK AT MOST 1048576: true; the input reads as it did. -/
def fnExactInconsistentSignalsUptoRow : OpenClaim := { program := "ytnpbdphfjablbaa", sum := "28ca7d023132587a2228b030d0b404f4a7fc2460115e0426bed49ec50e60c011", func := "loop.example/g00862/laws.FnExactInconsistentSignals", spec := "fnExactInconsistentSignals", unfollowed := true, recurses := true, apart := false, narrowed := true }
def FnExactInconsistentSignalsUptoSaid : Prop := fnExactInconsistentSignalsUptoRow.holds Try.pinned (OpenSpec.upto fnExactInconsistentSignalsSpec)

/-- 'laws.FnExactBuildStateGraph', WHERE WHAT IT READS IS OF BULK AT MOST 1048576: true; the input reads as it did. -/
def fnExactBuildStateGraphUptoRow : OpenClaim := { program := "ytnpbdphfjablbaa", sum := "28ca7d023132587a2228b030d0b404f4a7fc2460115e0426bed49ec50e60c011", func := "loop.example/g00862/laws.FnExactBuildStateGraph", spec := "fnExactBuildStateGraph", unfollowed := true, recurses := true, apart := false, narrowed := true }
def FnExactBuildStateGraphUptoSaid : Prop := fnExactBuildStateGraphUptoRow.holds Try.pinned (OpenSpec.upto fnExactBuildStateGraphSpec)

/-- 'laws.FnExactInitialCode', WHERE WHAT IT READS IS OF BULK AT MOST 1048576: true; the input reads as it did. -/
def fnExactInitialCodeUptoRow : OpenClaim := { program := "ytnpbdphfjablbaa", sum := "28ca7d023132587a2228b030d0b404f4a7fc2460115e0426bed49ec50e60c011", func := "loop.example/g00862/laws.FnExactInitialCode", spec := "fnExactInitialCode", unfollowed := true, recurses := true, apart := false, narrowed := true }
def FnExactInitialCodeUptoSaid : Prop := fnExactInitialCodeUptoRow.holds Try.pinned (OpenSpec.upto fnExactInitialCodeSpec)

end Rows
end Go.Proofs.Ytnpbdphfjablbaa
