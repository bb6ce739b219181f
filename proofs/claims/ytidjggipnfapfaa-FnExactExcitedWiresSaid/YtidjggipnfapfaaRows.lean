/-
  No cell of these rows narrows 'for every input' (looked for: loops, veiled, ifaces, maps, wideKeys, modest, calm, conditions, laid).
  DERIVED. THE GIVEN ROWS OF THIS SEAT. 10 by the template 'for every input the law returns true; each argument reads behind the call as it read before'; 0 by the template 'total and deterministic' (their statements: YtidjggipnfapfaaTotals.lean).
  GIVEN WITH THE SEED: the statements are not yours to turn. If you find one false, say at which input.
  Laid BY PROGRAM, IN A SANDBOX (cutbox-rows.mjs): the forced cells as the released guide's own fill.sh prints them over the translation 47d8094d7bfb95fe… (all of the seat's roots in one cut). By AI agents, Wed Nov 11 2026. No macro, syntax, notation, axiom, sorry.
-/
import Derived.Test.YtidjggipnfapfaaChecked
import GoSem.Claim
import GoSem.ClaimJoined
import GoSem.ClaimMapViews
import Derived.JoinedTies
import Derived.KernelRfl
namespace Go.Proofs.Ytidjggipnfapfaa
/- THE CELL 'sum', in the pinned program and in every row, IS THE sha256 OF THE DUMP (.gsa) THAT YtidjggipnfapfaaProg.lean LOADS. Nothing in Lean hashes anything: it is a label: what it is worth is what the hold of that sum in a sandbox is worth. -/
noncomputable def Try.pinned : Pinned := { name := "ytidjggipnfapfaa", sum := "47d8094d7bfb95feecad79104d6ec8801aee2739ac9d5b23332a3e57ff34c73c", checked := Try.checked }
namespace Rows
def none {H : Type} : Left H := { results := [], args := [] }

/-- 'laws.FnExactMaxFanIn': WHATEVER THE INPUT: true; the input reads as it did. -/
def fnExactMaxFanInSpec : ChangeSpec := { name := "fnExactMaxFanIn", fn := fun _ => fun
  | [d] => { results := [.lit (.bool true)], args := [d] }
  | _ => none }
def fnExactMaxFanInRow : OpenClaim := { program := "ytidjggipnfapfaa", sum := "47d8094d7bfb95feecad79104d6ec8801aee2739ac9d5b23332a3e57ff34c73c", func := "loop.example/g00862/laws.FnExactMaxFanIn", spec := "fnExactMaxFanIn", unfollowed := true, recurses := true, apart := false }
def FnExactMaxFanInSaid : Prop := fnExactMaxFanInRow.holds Try.pinned (OpenSpec.ofChange fnExactMaxFanInSpec)

/-- ITS FALSE NEIGHBOUR: 'it returns false'. Refute it at one input. -/
def fnExactMaxFanInWrong : ChangeSpec := { name := "fnExactMaxFanIn", fn := fun _ => fun
  | [d] => { results := [.lit (.bool false)], args := [d] }
  | _ => none }
def FnExactMaxFanInWrongFalsely : Prop := fnExactMaxFanInRow.holds Try.pinned (OpenSpec.ofChange fnExactMaxFanInWrong)

/-- 'laws.FnExactIsValidMachine': WHATEVER THE INPUT: true; the input reads as it did. -/
def fnExactIsValidMachineSpec : ChangeSpec := { name := "fnExactIsValidMachine", fn := fun _ => fun
  | [d] => { results := [.lit (.bool true)], args := [d] }
  | _ => none }
def fnExactIsValidMachineRow : OpenClaim := { program := "ytidjggipnfapfaa", sum := "47d8094d7bfb95feecad79104d6ec8801aee2739ac9d5b23332a3e57ff34c73c", func := "loop.example/g00862/laws.FnExactIsValidMachine", spec := "fnExactIsValidMachine", unfollowed := true, recurses := true, apart := false }
def FnExactIsValidMachineSaid : Prop := fnExactIsValidMachineRow.holds Try.pinned (OpenSpec.ofChange fnExactIsValidMachineSpec)

/-- ITS FALSE NEIGHBOUR: 'it returns false'. Refute it at one input. -/
def fnExactIsValidMachineWrong : ChangeSpec := { name := "fnExactIsValidMachine", fn := fun _ => fun
  | [d] => { results := [.lit (.bool false)], args := [d] }
  | _ => none }
def FnExactIsValidMachineWrongFalsely : Prop := fnExactIsValidMachineRow.holds Try.pinned (OpenSpec.ofChange fnExactIsValidMachineWrong)

/-- 'laws.FnExactStateCode': WHATEVER THE INPUT: true; the input reads as it did. -/
def fnExactStateCodeSpec : ChangeSpec := { name := "fnExactStateCode", fn := fun _ => fun
  | [d1, d2] => { results := [.lit (.bool true)], args := [d1, d2] }
  | _ => none }
def fnExactStateCodeRow : OpenClaim := { program := "ytidjggipnfapfaa", sum := "47d8094d7bfb95feecad79104d6ec8801aee2739ac9d5b23332a3e57ff34c73c", func := "loop.example/g00862/laws.FnExactStateCode", spec := "fnExactStateCode", unfollowed := true, recurses := true, apart := false }
def FnExactStateCodeSaid : Prop := fnExactStateCodeRow.holds Try.pinned (OpenSpec.ofChange fnExactStateCodeSpec)

/-- ITS FALSE NEIGHBOUR: 'it returns false'. Refute it at one input. -/
def fnExactStateCodeWrong : ChangeSpec := { name := "fnExactStateCode", fn := fun _ => fun
  | [d1, d2] => { results := [.lit (.bool false)], args := [d1, d2] }
  | _ => none }
def FnExactStateCodeWrongFalsely : Prop := fnExactStateCodeRow.holds Try.pinned (OpenSpec.ofChange fnExactStateCodeWrong)

/-- 'laws.FnExactHiddenWires': WHATEVER THE INPUT: true; the input reads as it did. -/
def fnExactHiddenWiresSpec : ChangeSpec := { name := "fnExactHiddenWires", fn := fun _ => fun
  | [d] => { results := [.lit (.bool true)], args := [d] }
  | _ => none }
def fnExactHiddenWiresRow : OpenClaim := { program := "ytidjggipnfapfaa", sum := "47d8094d7bfb95feecad79104d6ec8801aee2739ac9d5b23332a3e57ff34c73c", func := "loop.example/g00862/laws.FnExactHiddenWires", spec := "fnExactHiddenWires", unfollowed := true, recurses := true, apart := false }
def FnExactHiddenWiresSaid : Prop := fnExactHiddenWiresRow.holds Try.pinned (OpenSpec.ofChange fnExactHiddenWiresSpec)

/-- ITS FALSE NEIGHBOUR: 'it returns false'. Refute it at one input. -/
def fnExactHiddenWiresWrong : ChangeSpec := { name := "fnExactHiddenWires", fn := fun _ => fun
  | [d] => { results := [.lit (.bool false)], args := [d] }
  | _ => none }
def FnExactHiddenWiresWrongFalsely : Prop := fnExactHiddenWiresRow.holds Try.pinned (OpenSpec.ofChange fnExactHiddenWiresWrong)

/-- 'laws.FnExactNextWireValue': WHATEVER THE INPUT: true; the input reads as it did. -/
def fnExactNextWireValueSpec : ChangeSpec := { name := "fnExactNextWireValue", fn := fun _ => fun
  | [d1, d2, d3] => { results := [.lit (.bool true)], args := [d1, d2, d3] }
  | _ => none }
def fnExactNextWireValueRow : OpenClaim := { program := "ytidjggipnfapfaa", sum := "47d8094d7bfb95feecad79104d6ec8801aee2739ac9d5b23332a3e57ff34c73c", func := "loop.example/g00862/laws.FnExactNextWireValue", spec := "fnExactNextWireValue", unfollowed := true, recurses := true, apart := false }
def FnExactNextWireValueSaid : Prop := fnExactNextWireValueRow.holds Try.pinned (OpenSpec.ofChange fnExactNextWireValueSpec)

/-- ITS FALSE NEIGHBOUR: 'it returns false'. Refute it at one input. -/
def fnExactNextWireValueWrong : ChangeSpec := { name := "fnExactNextWireValue", fn := fun _ => fun
  | [d1, d2, d3] => { results := [.lit (.bool false)], args := [d1, d2, d3] }
  | _ => none }
def FnExactNextWireValueWrongFalsely : Prop := fnExactNextWireValueRow.holds Try.pinned (OpenSpec.ofChange fnExactNextWireValueWrong)

/-- 'laws.FnExactExecuteBursts': WHATEVER THE INPUT: true; the input reads as it did. -/
def fnExactExecuteBurstsSpec : ChangeSpec := { name := "fnExactExecuteBursts", fn := fun _ => fun
  | [d1, d2] => { results := [.lit (.bool true)], args := [d1, d2] }
  | _ => none }
def fnExactExecuteBurstsRow : OpenClaim := { program := "ytidjggipnfapfaa", sum := "47d8094d7bfb95feecad79104d6ec8801aee2739ac9d5b23332a3e57ff34c73c", func := "loop.example/g00862/laws.FnExactExecuteBursts", spec := "fnExactExecuteBursts", unfollowed := true, recurses := true, apart := false }
def FnExactExecuteBurstsSaid : Prop := fnExactExecuteBurstsRow.holds Try.pinned (OpenSpec.ofChange fnExactExecuteBurstsSpec)

/-- ITS FALSE NEIGHBOUR: 'it returns false'. Refute it at one input. -/
def fnExactExecuteBurstsWrong : ChangeSpec := { name := "fnExactExecuteBursts", fn := fun _ => fun
  | [d1, d2] => { results := [.lit (.bool false)], args := [d1, d2] }
  | _ => none }
def FnExactExecuteBurstsWrongFalsely : Prop := fnExactExecuteBurstsRow.holds Try.pinned (OpenSpec.ofChange fnExactExecuteBurstsWrong)

/-- 'laws.FnExactExcitedWires': WHATEVER THE INPUT: true; the input reads as it did. -/
def fnExactExcitedWiresSpec : ChangeSpec := { name := "fnExactExcitedWires", fn := fun _ => fun
  | [d1, d2] => { results := [.lit (.bool true)], args := [d1, d2] }
  | _ => none }
def fnExactExcitedWiresRow : OpenClaim := { program := "ytidjggipnfapfaa", sum := "47d8094d7bfb95feecad79104d6ec8801aee2739ac9d5b23332a3e57ff34c73c", func := "loop.example/g00862/laws.FnExactExcitedWires", spec := "fnExactExcitedWires", unfollowed := true, recurses := true, apart := false }
def FnExactExcitedWiresSaid : Prop := fnExactExcitedWiresRow.holds Try.pinned (OpenSpec.ofChange fnExactExcitedWiresSpec)

/-- ITS FALSE NEIGHBOUR: 'it returns false'. Refute it at one input. -/
def fnExactExcitedWiresWrong : ChangeSpec := { name := "fnExactExcitedWires", fn := fun _ => fun
  | [d1, d2] => { results := [.lit (.bool false)], args := [d1, d2] }
  | _ => none }
def FnExactExcitedWiresWrongFalsely : Prop := fnExactExcitedWiresRow.holds Try.pinned (OpenSpec.ofChange fnExactExcitedWiresWrong)

/-- 'laws.FnExactEqualFunction': WHATEVER THE INPUT: true; the input reads as it did. -/
def fnExactEqualFunctionSpec : ChangeSpec := { name := "fnExactEqualFunction", fn := fun _ => fun
  | [d1, d2] => { results := [.lit (.bool true)], args := [d1, d2] }
  | _ => none }
def fnExactEqualFunctionRow : OpenClaim := { program := "ytidjggipnfapfaa", sum := "47d8094d7bfb95feecad79104d6ec8801aee2739ac9d5b23332a3e57ff34c73c", func := "loop.example/g00862/laws.FnExactEqualFunction", spec := "fnExactEqualFunction", inPlace := ["internal/abi.NoEscape", "internal/bytealg.MakeNoZero"], unfollowed := true, recurses := true, apart := false }
def FnExactEqualFunctionSaid : Prop := fnExactEqualFunctionRow.holds Try.pinned (OpenSpec.ofChange fnExactEqualFunctionSpec)

/-- ITS FALSE NEIGHBOUR: 'it returns false'. Refute it at one input. -/
def fnExactEqualFunctionWrong : ChangeSpec := { name := "fnExactEqualFunction", fn := fun _ => fun
  | [d1, d2] => { results := [.lit (.bool false)], args := [d1, d2] }
  | _ => none }
def FnExactEqualFunctionWrongFalsely : Prop := fnExactEqualFunctionRow.holds Try.pinned (OpenSpec.ofChange fnExactEqualFunctionWrong)

/-- 'laws.FnExactAreCompatible': WHATEVER THE INPUT: true; the input reads as it did. -/
def fnExactAreCompatibleSpec : ChangeSpec := { name := "fnExactAreCompatible", fn := fun _ => fun
  | [d1, d2] => { results := [.lit (.bool true)], args := [d1, d2] }
  | _ => none }
def fnExactAreCompatibleRow : OpenClaim := { program := "ytidjggipnfapfaa", sum := "47d8094d7bfb95feecad79104d6ec8801aee2739ac9d5b23332a3e57ff34c73c", func := "loop.example/g00862/laws.FnExactAreCompatible", spec := "fnExactAreCompatible", unfollowed := true, recurses := true, apart := false }
def FnExactAreCompatibleSaid : Prop := fnExactAreCompatibleRow.holds Try.pinned (OpenSpec.ofChange fnExactAreCompatibleSpec)

/-- ITS FALSE NEIGHBOUR: 'it returns false'. Refute it at one input. -/
def fnExactAreCompatibleWrong : ChangeSpec := { name := "fnExactAreCompatible", fn := fun _ => fun
  | [d1, d2] => { results := [.lit (.bool false)], args := [d1, d2] }
  | _ => none }
def FnExactAreCompatibleWrongFalsely : Prop := fnExactAreCompatibleRow.holds Try.pinned (OpenSpec.ofChange fnExactAreCompatibleWrong)

/-- 'laws.FnExactSettle': WHATEVER THE INPUT: true; the input reads as it did. -/
def fnExactSettleSpec : ChangeSpec := { name := "fnExactSettle", fn := fun _ => fun
  | [d1, d2] => { results := [.lit (.bool true)], args := [d1, d2] }
  | _ => none }
def fnExactSettleRow : OpenClaim := { program := "ytidjggipnfapfaa", sum := "47d8094d7bfb95feecad79104d6ec8801aee2739ac9d5b23332a3e57ff34c73c", func := "loop.example/g00862/laws.FnExactSettle", spec := "fnExactSettle", inPlace := ["internal/bytealg.IndexByteString", "internal/bytealg.IndexString", "internal/abi.NoEscape", "internal/bytealg.MakeNoZero"], unfollowed := true, recurses := true, named := ["internal/bytealg.MaxLen"], apart := false }
def FnExactSettleSaid : Prop := fnExactSettleRow.holds Try.pinned (OpenSpec.ofChange fnExactSettleSpec)

/-- ITS FALSE NEIGHBOUR: 'it returns false'. Refute it at one input. -/
def fnExactSettleWrong : ChangeSpec := { name := "fnExactSettle", fn := fun _ => fun
  | [d1, d2] => { results := [.lit (.bool false)], args := [d1, d2] }
  | _ => none }
def FnExactSettleWrongFalsely : Prop := fnExactSettleRow.holds Try.pinned (OpenSpec.ofChange fnExactSettleWrong)

/- THE SECOND FORM. 'bulk': how many values and letters a reading holds, each counted each time it is reached (what is shared counts as often as it is met; a slice's spare places count too). A statement '..UptoSaid' is the law's where the arguments, and the package variables that the reading takes, are together of bulk at most 1048576: NARROWER than '..Said'. Prove '..Said' where nothing that the law and all that it calls make is longer than what came in: it says more and counts as full. Else prove '..UptoSaid'. A law counts once. -/
mutual
def uptoBulk {H : Type} : DataW H → Nat
  | .lit (.string bytes) => bytes.length + 1
  | .lit _ => 1
  | .nil => 1
  | .ptr d => uptoBulk d + 1
  | .slice elems spare => uptoBulkAll elems + uptoBulkAll spare + 1
  | .agg parts => uptoBulkAll parts + 1
  | .iface _ d => uptoBulk d + 1
  | .map entries => uptoBulkEntries entries + 1
  | .held _ => 1
def uptoBulkAll {H : Type} : List (DataW H) → Nat
  | [] => 0
  | d :: r => uptoBulk d + uptoBulkAll r
def uptoBulkEntries {H : Type} : List (Lit × DataW H) → Nat
  | [] => 0
  | x :: r => uptoBulkEntry x + uptoBulkEntries r
def uptoBulkEntry {H : Type} : Lit × DataW H → Nat
  | (.string bytes, d) => bytes.length + uptoBulk d + 1
  | (_, d) => uptoBulk d + 1
 end
def uptoSmall : (H : Type) → List (DataW H) → Bool := fun _ ds => decide (uptoBulkAll ds ≤ 1048576)
def OpenSpec.upto (s : _root_.Go.ChangeSpec) : _root_.Go.OpenSpec := { _root_.Go.OpenSpec.ofChange s with cond := some uptoSmall }

/-- 'laws.FnExactMaxFanIn', WHERE WHAT IT READS IS OF BULK AT MOST 1048576: true; the input reads as it did. -/
def fnExactMaxFanInUptoRow : OpenClaim := { program := "ytidjggipnfapfaa", sum := "47d8094d7bfb95feecad79104d6ec8801aee2739ac9d5b23332a3e57ff34c73c", func := "loop.example/g00862/laws.FnExactMaxFanIn", spec := "fnExactMaxFanIn", unfollowed := true, recurses := true, apart := false, narrowed := true }
def FnExactMaxFanInUptoSaid : Prop := fnExactMaxFanInUptoRow.holds Try.pinned (OpenSpec.upto fnExactMaxFanInSpec)

/-- 'laws.FnExactIsValidMachine', WHERE WHAT IT READS IS OF BULK AT MOST 1048576: true; the input reads as it did. -/
def fnExactIsValidMachineUptoRow : OpenClaim := { program := "ytidjggipnfapfaa", sum := "47d8094d7bfb95feecad79104d6ec8801aee2739ac9d5b23332a3e57ff34c73c", func := "loop.example/g00862/laws.FnExactIsValidMachine", spec := "fnExactIsValidMachine", unfollowed := true, recurses := true, apart := false, narrowed := true }
def FnExactIsValidMachineUptoSaid : Prop := fnExactIsValidMachineUptoRow.holds Try.pinned (OpenSpec.upto fnExactIsValidMachineSpec)

/-- 'laws.FnExactStateCode', WHERE WHAT IT READS IS OF BULK AT MOST 1048576: true; the input reads as it did. -/
def fnExactStateCodeUptoRow : OpenClaim := { program := "ytidjggipnfapfaa", sum := "47d8094d7bfb95feecad79104d6ec8801aee2739ac9d5b23332a3e57ff34c73c", func := "loop.example/g00862/laws.FnExactStateCode", spec := "fnExactStateCode", unfollowed := true, recurses := true, apart := false, narrowed := true }
def FnExactStateCodeUptoSaid : Prop := fnExactStateCodeUptoRow.holds Try.pinned (OpenSpec.upto fnExactStateCodeSpec)

/-- 'laws.FnExactHiddenWires', WHERE WHAT IT READS IS OF BULK AT MOST 1048576: true; the input reads as it did. -/
def fnExactHiddenWiresUptoRow : OpenClaim := { program := "ytidjggipnfapfaa", sum := "47d8094d7bfb95feecad79104d6ec8801aee2739ac9d5b23332a3e57ff34c73c", func := "loop.example/g00862/laws.FnExactHiddenWires", spec := "fnExactHiddenWires", unfollowed := true, recurses := true, apart := false, narrowed := true }
def FnExactHiddenWiresUptoSaid : Prop := fnExactHiddenWiresUptoRow.holds Try.pinned (OpenSpec.upto fnExactHiddenWiresSpec)

/-- 'laws.FnExactNextWireValue', WHERE WHAT IT READS IS OF BULK AT MOST 1048576: true; the input reads as it did. -/
def fnExactNextWireValueUptoRow : OpenClaim := { program := "ytidjggipnfapfaa", sum := "47d8094d7bfb95feecad79104d6ec8801aee2739ac9d5b23332a3e57ff34c73c", func := "loop.example/g00862/laws.FnExactNextWireValue", spec := "fnExactNextWireValue", unfollowed := true, recurses := true, apart := false, narrowed := true }
def FnExactNextWireValueUptoSaid : Prop := fnExactNextWireValueUptoRow.holds Try.pinned (OpenSpec.upto fnExactNextWireValueSpec)

/-- 'laws.FnExactExecuteBursts', WHERE WHAT IT READS IS OF BULK AT MOST 1048576: true; the input reads as it did. -/
def fnExactExecuteBurstsUptoRow : OpenClaim := { program := "ytidjggipnfapfaa", sum := "47d8094d7bfb95feecad79104d6ec8801aee2739ac9d5b23332a3e57ff34c73c", func := "loop.example/g00862/laws.FnExactExecuteBursts", spec := "fnExactExecuteBursts", unfollowed := true, recurses := true, apart := false, narrowed := true }
def FnExactExecuteBurstsUptoSaid : Prop := fnExactExecuteBurstsUptoRow.holds Try.pinned (OpenSpec.upto fnExactExecuteBurstsSpec)

/-- 'laws.FnExactExcitedWires', WHERE WHAT IT READS IS OF BULK AT MOST 1048576: true; the input reads as it did. -/
def fnExactExcitedWiresUptoRow : OpenClaim := { program := "ytidjggipnfapfaa", sum := "47d8094d7bfb95feecad79104d6ec8801aee2739ac9d5b23332a3e57ff34c73c", func := "loop.example/g00862/laws.FnExactExcitedWires", spec := "fnExactExcitedWires", unfollowed := true, recurses := true, apart := false, narrowed := true }
def FnExactExcitedWiresUptoSaid : Prop := fnExactExcitedWiresUptoRow.holds Try.pinned (OpenSpec.upto fnExactExcitedWiresSpec)

/-- 'laws.FnExactEqualFunction', WHERE WHAT IT READS IS OF BULK AT MOST 1048576: true; the input reads as it did. -/
def fnExactEqualFunctionUptoRow : OpenClaim := { program := "ytidjggipnfapfaa", sum := "47d8094d7bfb95feecad79104d6ec8801aee2739ac9d5b23332a3e57ff34c73c", func := "loop.example/g00862/laws.FnExactEqualFunction", spec := "fnExactEqualFunction", inPlace := ["internal/abi.NoEscape", "internal/bytealg.MakeNoZero"], unfollowed := true, recurses := true, apart := false, narrowed := true }
def FnExactEqualFunctionUptoSaid : Prop := fnExactEqualFunctionUptoRow.holds Try.pinned (OpenSpec.upto fnExactEqualFunctionSpec)

/-- 'laws.FnExactAreCompatible', WHERE WHAT IT READS IS OF BULK AT MOST 1048576: true; the input reads as it did. -/
def fnExactAreCompatibleUptoRow : OpenClaim := { program := "ytidjggipnfapfaa", sum := "47d8094d7bfb95feecad79104d6ec8801aee2739ac9d5b23332a3e57ff34c73c", func := "loop.example/g00862/laws.FnExactAreCompatible", spec := "fnExactAreCompatible", unfollowed := true, recurses := true, apart := false, narrowed := true }
def FnExactAreCompatibleUptoSaid : Prop := fnExactAreCompatibleUptoRow.holds Try.pinned (OpenSpec.upto fnExactAreCompatibleSpec)

/-- 'laws.FnExactSettle', WHERE WHAT IT READS IS OF BULK AT MOST 1048576: true; the input reads as it did. -/
def fnExactSettleUptoRow : OpenClaim := { program := "ytidjggipnfapfaa", sum := "47d8094d7bfb95feecad79104d6ec8801aee2739ac9d5b23332a3e57ff34c73c", func := "loop.example/g00862/laws.FnExactSettle", spec := "fnExactSettle", inPlace := ["internal/bytealg.IndexByteString", "internal/bytealg.IndexString", "internal/abi.NoEscape", "internal/bytealg.MakeNoZero"], unfollowed := true, recurses := true, named := ["internal/bytealg.MaxLen"], apart := false, narrowed := true }
def FnExactSettleUptoSaid : Prop := fnExactSettleUptoRow.holds Try.pinned (OpenSpec.upto fnExactSettleSpec)

end Rows
end Go.Proofs.Ytidjggipnfapfaa
