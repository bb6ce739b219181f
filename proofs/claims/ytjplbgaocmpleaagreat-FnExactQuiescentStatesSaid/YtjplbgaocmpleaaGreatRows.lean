/-
  No cell of these rows narrows 'for every input' (looked for: loops, veiled, ifaces, maps, wideKeys, modest, calm, conditions, laid).
  DERIVED. THE GIVEN ROWS OF THIS SEAT. 5 by the template 'for every input the law returns true; each argument reads behind the call as it read before'; 0 by the template 'total and deterministic' (their statements: YtjplbgaocmpleaaGreatTotals.lean).
  GIVEN WITH THE SEED: the statements are not yours to turn. If you find one false, say at which input.
  Laid BY PROGRAM, IN A SANDBOX (cutbox-rows.mjs): the forced cells as the released guide's own fill.sh prints them over the translation 409f95e849cd1f63… (all of the seat's roots in one cut). By AI agents, Wed Nov 11 2026. No macro, syntax, notation, axiom, sorry.
-/
import Derived.Test.YtjplbgaocmpleaaGreatChecked
import GoSem.Claim
import GoSem.ClaimJoined
import GoSem.ClaimMapViews
import Derived.JoinedTies
import Derived.KernelRfl
namespace Go.Proofs.YtjplbgaocmpleaaGreat
/- THE CELL 'sum', in the pinned program and in every row, IS THE sha256 OF THE DUMP (.gsa) THAT YtjplbgaocmpleaaGreatProg.lean LOADS. Nothing in Lean hashes anything: it is a label: what it is worth is what the hold of that sum in a sandbox is worth. -/
noncomputable def Tryz.pinned : Pinned := { name := "ytjplbgaocmpleaagreat", sum := "409f95e849cd1f635f729549195668a520d35856a5ee5352fb4d876565942862", checked := Tryz.checked }
namespace Rows
def none {H : Type} : Left H := { results := [], args := [] }

/-- 'laws.FnExactQuiescentStates': WHATEVER THE INPUT: true; the input reads as it did. -/
def fnExactQuiescentStatesSpec : ChangeSpec := { name := "fnExactQuiescentStates", fn := fun _ => fun
  | [d1, d2] => { results := [.lit (.bool true)], args := [d1, d2] }
  | _ => none }
def fnExactQuiescentStatesRow : OpenClaim := { program := "ytjplbgaocmpleaagreat", sum := "409f95e849cd1f635f729549195668a520d35856a5ee5352fb4d876565942862", func := "loop.example/g00862/laws.FnExactQuiescentStates", spec := "fnExactQuiescentStates", unfollowed := true, recurses := true, apart := false }
def FnExactQuiescentStatesSaid : Prop := fnExactQuiescentStatesRow.holds Tryz.pinned (OpenSpec.ofChange fnExactQuiescentStatesSpec)

/-- ITS FALSE NEIGHBOUR: 'it returns false'. Refute it at one input. -/
def fnExactQuiescentStatesWrong : ChangeSpec := { name := "fnExactQuiescentStates", fn := fun _ => fun
  | [d1, d2] => { results := [.lit (.bool false)], args := [d1, d2] }
  | _ => none }
def FnExactQuiescentStatesWrongFalsely : Prop := fnExactQuiescentStatesRow.holds Tryz.pinned (OpenSpec.ofChange fnExactQuiescentStatesWrong)

/-- 'laws.FnExactInitialProductState': WHATEVER THE INPUT: true; the input reads as it did. -/
def fnExactInitialProductStateSpec : ChangeSpec := { name := "fnExactInitialProductState", fn := fun _ => fun
  | [d1, d2] => { results := [.lit (.bool true)], args := [d1, d2] }
  | _ => none }
def fnExactInitialProductStateRow : OpenClaim := { program := "ytjplbgaocmpleaagreat", sum := "409f95e849cd1f635f729549195668a520d35856a5ee5352fb4d876565942862", func := "loop.example/g00862/laws.FnExactInitialProductState", spec := "fnExactInitialProductState", inPlace := ["internal/abi.NoEscape", "internal/bytealg.MakeNoZero"], unfollowed := true, recurses := true, apart := false }
def FnExactInitialProductStateSaid : Prop := fnExactInitialProductStateRow.holds Tryz.pinned (OpenSpec.ofChange fnExactInitialProductStateSpec)

/-- ITS FALSE NEIGHBOUR: 'it returns false'. Refute it at one input. -/
def fnExactInitialProductStateWrong : ChangeSpec := { name := "fnExactInitialProductState", fn := fun _ => fun
  | [d1, d2] => { results := [.lit (.bool false)], args := [d1, d2] }
  | _ => none }
def FnExactInitialProductStateWrongFalsely : Prop := fnExactInitialProductStateRow.holds Tryz.pinned (OpenSpec.ofChange fnExactInitialProductStateWrong)

/-- 'laws.FnExactIsHazard': WHATEVER THE INPUT: true; the input reads as it did. -/
def fnExactIsHazardSpec : ChangeSpec := { name := "fnExactIsHazard", fn := fun _ => fun
  | [d1, d2, d3, d4, d5] => { results := [.lit (.bool true)], args := [d1, d2, d3, d4, d5] }
  | _ => none }
def fnExactIsHazardRow : OpenClaim := { program := "ytjplbgaocmpleaagreat", sum := "409f95e849cd1f635f729549195668a520d35856a5ee5352fb4d876565942862", func := "loop.example/g00862/laws.FnExactIsHazard", spec := "fnExactIsHazard", unfollowed := true, recurses := true, apart := false }
def FnExactIsHazardSaid : Prop := fnExactIsHazardRow.holds Tryz.pinned (OpenSpec.ofChange fnExactIsHazardSpec)

/-- ITS FALSE NEIGHBOUR: 'it returns false'. Refute it at one input. -/
def fnExactIsHazardWrong : ChangeSpec := { name := "fnExactIsHazard", fn := fun _ => fun
  | [d1, d2, d3, d4, d5] => { results := [.lit (.bool false)], args := [d1, d2, d3, d4, d5] }
  | _ => none }
def FnExactIsHazardWrongFalsely : Prop := fnExactIsHazardRow.holds Tryz.pinned (OpenSpec.ofChange fnExactIsHazardWrong)

/-- 'laws.FnExactSuccessors': WHATEVER THE INPUT: true; the input reads as it did. -/
def fnExactSuccessorsSpec : ChangeSpec := { name := "fnExactSuccessors", fn := fun _ => fun
  | [d1, d2, d3] => { results := [.lit (.bool true)], args := [d1, d2, d3] }
  | _ => none }
def fnExactSuccessorsRow : OpenClaim := { program := "ytjplbgaocmpleaagreat", sum := "409f95e849cd1f635f729549195668a520d35856a5ee5352fb4d876565942862", func := "loop.example/g00862/laws.FnExactSuccessors", spec := "fnExactSuccessors", unfollowed := true, recurses := true, apart := false }
def FnExactSuccessorsSaid : Prop := fnExactSuccessorsRow.holds Tryz.pinned (OpenSpec.ofChange fnExactSuccessorsSpec)

/-- ITS FALSE NEIGHBOUR: 'it returns false'. Refute it at one input. -/
def fnExactSuccessorsWrong : ChangeSpec := { name := "fnExactSuccessors", fn := fun _ => fun
  | [d1, d2, d3] => { results := [.lit (.bool false)], args := [d1, d2, d3] }
  | _ => none }
def FnExactSuccessorsWrongFalsely : Prop := fnExactSuccessorsRow.holds Tryz.pinned (OpenSpec.ofChange fnExactSuccessorsWrong)

/-- 'laws.FnExactUnexpectedOutputs': WHATEVER THE INPUT: true; the input reads as it did. -/
def fnExactUnexpectedOutputsSpec : ChangeSpec := { name := "fnExactUnexpectedOutputs", fn := fun _ => fun
  | [d1, d2, d3] => { results := [.lit (.bool true)], args := [d1, d2, d3] }
  | _ => none }
def fnExactUnexpectedOutputsRow : OpenClaim := { program := "ytjplbgaocmpleaagreat", sum := "409f95e849cd1f635f729549195668a520d35856a5ee5352fb4d876565942862", func := "loop.example/g00862/laws.FnExactUnexpectedOutputs", spec := "fnExactUnexpectedOutputs", unfollowed := true, recurses := true, apart := false }
def FnExactUnexpectedOutputsSaid : Prop := fnExactUnexpectedOutputsRow.holds Tryz.pinned (OpenSpec.ofChange fnExactUnexpectedOutputsSpec)

/-- ITS FALSE NEIGHBOUR: 'it returns false'. Refute it at one input. -/
def fnExactUnexpectedOutputsWrong : ChangeSpec := { name := "fnExactUnexpectedOutputs", fn := fun _ => fun
  | [d1, d2, d3] => { results := [.lit (.bool false)], args := [d1, d2, d3] }
  | _ => none }
def FnExactUnexpectedOutputsWrongFalsely : Prop := fnExactUnexpectedOutputsRow.holds Tryz.pinned (OpenSpec.ofChange fnExactUnexpectedOutputsWrong)

/- THE SECOND FORM. 'bulk': how many values and letters a reading holds, each counted each time it is reached (what is shared counts as often as it is met; a slice's spare places count too). A statement '..UptoSaid' is the law's where the arguments, and the package variables that the reading takes, are together of bulk at most 1048576: NARROWER than '..Said'. Prove '..Said' where nothing that the law and all that it calls make is longer than what came in: it says more and counts as full. Else prove '..UptoSaid'. A law counts once. -/
mutual
def uptoBulk {H : Type} : DataW H → Nat
  | .lit (.string bytes) => bytes.length + 1
  | .lit _ => 1
  | .nil => 1
  | .ptr d => uptoBulk d + 1
  | .slice elems spare => uptoBulkAll elems + uptoBulkAll spare + 1
  | .agg parts => uptoBulkAll parts + 1
  | .iface _ d => uptoBulk d + 1
  | .map entries => uptoBulkEntries entries + 1
  | .held _ => 1
def uptoBulkAll {H : Type} : List (DataW H) → Nat
  | [] => 0
  | d :: r => uptoBulk d + uptoBulkAll r
def uptoBulkEntries {H : Type} : List (Lit × DataW H) → Nat
  | [] => 0
  | x :: r => uptoBulkEntry x + uptoBulkEntries r
def uptoBulkEntry {H : Type} : Lit × DataW H → Nat
  | (.string bytes, d) => bytes.length + uptoBulk d + 1
  | (_, d) => uptoBulk d + 1
 end
def uptoSmall : (H : Type) → List (DataW H) → Bool := fun _ ds => decide (uptoBulkAll ds ≤ 1048576)
def OpenSpec.upto (s : _root_.Go.ChangeSpec) : _root_.Go.OpenSpec := { _root_.Go.OpenSpec.ofChange s with cond := some uptoSmall }

/-- 'laws.FnExactQuiescentStates', WHERE WHAT IT READS IS OF BULK AT MOST 1048576: true; the input reads as it did. -/
def fnExactQuiescentStatesUptoRow : OpenClaim := { program := "ytjplbgaocmpleaagreat", sum := "409f95e849cd1f635f729549195668a520d35856a5ee5352fb4d876565942862", func := "loop.example/g00862/laws.FnExactQuiescentStates", spec := "fnExactQuiescentStates", unfollowed := true, recurses := true, apart := false, narrowed := true }
def FnExactQuiescentStatesUptoSaid : Prop := fnExactQuiescentStatesUptoRow.holds Tryz.pinned (OpenSpec.upto fnExactQuiescentStatesSpec)

/-- 'laws.FnExactInitialProductState', WHERE WHAT IT READS IS OF BULK AT MOST 1048576: true; the input reads as it did. -/
def fnExactInitialProductStateUptoRow : OpenClaim := { program := "ytjplbgaocmpleaagreat", sum := "409f95e849cd1f635f729549195668a520d35856a5ee5352fb4d876565942862", func := "loop.example/g00862/laws.FnExactInitialProductState", spec := "fnExactInitialProductState", inPlace := ["internal/abi.NoEscape", "internal/bytealg.MakeNoZero"], unfollowed := true, recurses := true, apart := false, narrowed := true }
def FnExactInitialProductStateUptoSaid : Prop := fnExactInitialProductStateUptoRow.holds Tryz.pinned (OpenSpec.upto fnExactInitialProductStateSpec)

/-- 'laws.FnExactIsHazard', WHERE WHAT IT READS IS OF BULK AT MOST 1048576: true; the input reads as it did. -/
def fnExactIsHazardUptoRow : OpenClaim := { program := "ytjplbgaocmpleaagreat", sum := "409f95e849cd1f635f729549195668a520d35856a5ee5352fb4d876565942862", func := "loop.example/g00862/laws.FnExactIsHazard", spec := "fnExactIsHazard", unfollowed := true, recurses := true, apart := false, narrowed := true }
def FnExactIsHazardUptoSaid : Prop := fnExactIsHazardUptoRow.holds Tryz.pinned (OpenSpec.upto fnExactIsHazardSpec)

/-- 'laws.FnExactSuccessors', WHERE WHAT IT READS IS OF BULK AT MOST 1048576: true; the input reads as it did. -/
def fnExactSuccessorsUptoRow : OpenClaim := { program := "ytjplbgaocmpleaagreat", sum := "409f95e849cd1f635f729549195668a520d35856a5ee5352fb4d876565942862", func := "loop.example/g00862/laws.FnExactSuccessors", spec := "fnExactSuccessors", unfollowed := true, recurses := true, apart := false, narrowed := true }
def FnExactSuccessorsUptoSaid : Prop := fnExactSuccessorsUptoRow.holds Tryz.pinned (OpenSpec.upto fnExactSuccessorsSpec)

/-- 'laws.FnExactUnexpectedOutputs', WHERE WHAT IT READS IS OF BULK AT MOST 1048576: true; the input reads as it did. -/
def fnExactUnexpectedOutputsUptoRow : OpenClaim := { program := "ytjplbgaocmpleaagreat", sum := "409f95e849cd1f635f729549195668a520d35856a5ee5352fb4d876565942862", func := "loop.example/g00862/laws.FnExactUnexpectedOutputs", spec := "fnExactUnexpectedOutputs", unfollowed := true, recurses := true, apart := false, narrowed := true }
def FnExactUnexpectedOutputsUptoSaid : Prop := fnExactUnexpectedOutputsUptoRow.holds Tryz.pinned (OpenSpec.upto fnExactUnexpectedOutputsSpec)

end Rows
end Go.Proofs.YtjplbgaocmpleaaGreat
