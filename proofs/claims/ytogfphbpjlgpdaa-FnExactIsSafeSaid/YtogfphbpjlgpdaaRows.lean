/-
  No cell of these rows narrows 'for every input' (looked for: loops, veiled, ifaces, maps, wideKeys, modest, calm, conditions, laid).
  DERIVED. THE GIVEN ROWS OF THIS SEAT. 5 by the template 'for every input the law returns true; each argument reads behind the call as it read before'; 0 by the template 'total and deterministic' (their statements: YtogfphbpjlgpdaaTotals.lean).
  GIVEN WITH THE SEED: the statements are not yours to turn. If you find one false, say at which input.
  Laid BY PROGRAM, IN A SANDBOX (cutbox-rows.mjs): the forced cells as the released guide's own fill.sh prints them over the translation c4065f2225b8e458… (all of the seat's roots in one cut). By AI agents, Wed Nov 11 2026. No macro, syntax, notation, axiom, sorry.
-/
import Derived.Test.YtogfphbpjlgpdaaChecked
import GoSem.Claim
import GoSem.ClaimJoined
import GoSem.ClaimMapViews
import Derived.JoinedTies
import Derived.KernelRfl
namespace Go.Proofs.Ytogfphbpjlgpdaa
/- THE CELL 'sum', in the pinned program and in every row, IS THE sha256 OF THE DUMP (.gsa) THAT YtogfphbpjlgpdaaProg.lean LOADS. Nothing in Lean hashes anything: it is a label: what it is worth is what the hold of that sum in a sandbox is worth. -/
noncomputable def Try.pinned : Pinned := { name := "ytogfphbpjlgpdaa", sum := "c4065f2225b8e458dfb71deaf2e6498f0ca9c9b7207b3cca53f2c161ddd0788f", checked := Try.checked }
namespace Rows
def none {H : Type} : Left H := { results := [], args := [] }

/-- 'laws.FnExactMaxGap': WHATEVER THE INPUT: true; the input reads as it did. -/
def fnExactMaxGapSpec : ChangeSpec := { name := "fnExactMaxGap", fn := fun _ => fun
  | [d] => { results := [.lit (.bool true)], args := [d] }
  | _ => none }
def fnExactMaxGapRow : OpenClaim := { program := "ytogfphbpjlgpdaa", sum := "c4065f2225b8e458dfb71deaf2e6498f0ca9c9b7207b3cca53f2c161ddd0788f", func := "loop.example/g00862/laws.FnExactMaxGap", spec := "fnExactMaxGap", apart := false }
def FnExactMaxGapSaid : Prop := fnExactMaxGapRow.holds Try.pinned (OpenSpec.ofChange fnExactMaxGapSpec)

/-- ITS FALSE NEIGHBOUR: 'it returns false'. Refute it at one input. -/
def fnExactMaxGapWrong : ChangeSpec := { name := "fnExactMaxGap", fn := fun _ => fun
  | [d] => { results := [.lit (.bool false)], args := [d] }
  | _ => none }
def FnExactMaxGapWrongFalsely : Prop := fnExactMaxGapRow.holds Try.pinned (OpenSpec.ofChange fnExactMaxGapWrong)

/-- 'laws.FnExactFire': WHATEVER THE INPUT: true; the input reads as it did. -/
def fnExactFireSpec : ChangeSpec := { name := "fnExactFire", fn := fun _ => fun
  | [d1, d2, d3] => { results := [.lit (.bool true)], args := [d1, d2, d3] }
  | _ => none }
def fnExactFireRow : OpenClaim := { program := "ytogfphbpjlgpdaa", sum := "c4065f2225b8e458dfb71deaf2e6498f0ca9c9b7207b3cca53f2c161ddd0788f", func := "loop.example/g00862/laws.FnExactFire", spec := "fnExactFire", unfollowed := true, recurses := true, apart := false }
def FnExactFireSaid : Prop := fnExactFireRow.holds Try.pinned (OpenSpec.ofChange fnExactFireSpec)

/-- ITS FALSE NEIGHBOUR: 'it returns false'. Refute it at one input. -/
def fnExactFireWrong : ChangeSpec := { name := "fnExactFire", fn := fun _ => fun
  | [d1, d2, d3] => { results := [.lit (.bool false)], args := [d1, d2, d3] }
  | _ => none }
def FnExactFireWrongFalsely : Prop := fnExactFireRow.holds Try.pinned (OpenSpec.ofChange fnExactFireWrong)

/-- 'laws.FnExactFireSequence': WHATEVER THE INPUT: true; the input reads as it did. -/
def fnExactFireSequenceSpec : ChangeSpec := { name := "fnExactFireSequence", fn := fun _ => fun
  | [d1, d2, d3] => { results := [.lit (.bool true)], args := [d1, d2, d3] }
  | _ => none }
def fnExactFireSequenceRow : OpenClaim := { program := "ytogfphbpjlgpdaa", sum := "c4065f2225b8e458dfb71deaf2e6498f0ca9c9b7207b3cca53f2c161ddd0788f", func := "loop.example/g00862/laws.FnExactFireSequence", spec := "fnExactFireSequence", unfollowed := true, recurses := true, apart := false }
def FnExactFireSequenceSaid : Prop := fnExactFireSequenceRow.holds Try.pinned (OpenSpec.ofChange fnExactFireSequenceSpec)

/-- ITS FALSE NEIGHBOUR: 'it returns false'. Refute it at one input. -/
def fnExactFireSequenceWrong : ChangeSpec := { name := "fnExactFireSequence", fn := fun _ => fun
  | [d1, d2, d3] => { results := [.lit (.bool false)], args := [d1, d2, d3] }
  | _ => none }
def FnExactFireSequenceWrongFalsely : Prop := fnExactFireSequenceRow.holds Try.pinned (OpenSpec.ofChange fnExactFireSequenceWrong)

/-- 'laws.FnExactIsSafe': WHATEVER THE INPUT: true; the input reads as it did. -/
def fnExactIsSafeSpec : ChangeSpec := { name := "fnExactIsSafe", fn := fun _ => fun
  | [d1, d2] => { results := [.lit (.bool true)], args := [d1, d2] }
  | _ => none }
def fnExactIsSafeRow : OpenClaim := { program := "ytogfphbpjlgpdaa", sum := "c4065f2225b8e458dfb71deaf2e6498f0ca9c9b7207b3cca53f2c161ddd0788f", func := "loop.example/g00862/laws.FnExactIsSafe", spec := "fnExactIsSafe", unfollowed := true, recurses := true, apart := false }
def FnExactIsSafeSaid : Prop := fnExactIsSafeRow.holds Try.pinned (OpenSpec.ofChange fnExactIsSafeSpec)

/-- ITS FALSE NEIGHBOUR: 'it returns false'. Refute it at one input. -/
def fnExactIsSafeWrong : ChangeSpec := { name := "fnExactIsSafe", fn := fun _ => fun
  | [d1, d2] => { results := [.lit (.bool false)], args := [d1, d2] }
  | _ => none }
def FnExactIsSafeWrongFalsely : Prop := fnExactIsSafeRow.holds Try.pinned (OpenSpec.ofChange fnExactIsSafeWrong)

/-- 'laws.FnExactShortestFlips': WHATEVER THE INPUT: true; the input reads as it did. -/
def fnExactShortestFlipsSpec : ChangeSpec := { name := "fnExactShortestFlips", fn := fun _ => fun
  | [d1, d2] => { results := [.lit (.bool true)], args := [d1, d2] }
  | _ => none }
def fnExactShortestFlipsRow : OpenClaim := { program := "ytogfphbpjlgpdaa", sum := "c4065f2225b8e458dfb71deaf2e6498f0ca9c9b7207b3cca53f2c161ddd0788f", func := "loop.example/g00862/laws.FnExactShortestFlips", spec := "fnExactShortestFlips", unfollowed := true, recurses := true, apart := false }
def FnExactShortestFlipsSaid : Prop := fnExactShortestFlipsRow.holds Try.pinned (OpenSpec.ofChange fnExactShortestFlipsSpec)

/-- ITS FALSE NEIGHBOUR: 'it returns false'. Refute it at one input. -/
def fnExactShortestFlipsWrong : ChangeSpec := { name := "fnExactShortestFlips", fn := fun _ => fun
  | [d1, d2] => { results := [.lit (.bool false)], args := [d1, d2] }
  | _ => none }
def FnExactShortestFlipsWrongFalsely : Prop := fnExactShortestFlipsRow.holds Try.pinned (OpenSpec.ofChange fnExactShortestFlipsWrong)

/- THE SECOND FORM. 'bulk': how many values and letters a reading holds, each counted each time it is reached (what is shared counts as often as it is met; a slice's spare places count too). A statement '..UptoSaid' is the law's where the arguments, and the package variables that the reading takes, are together of bulk at most 1048576: NARROWER than '..Said'. Prove '..Said' where nothing that the law and all that it calls make is longer than what came in: it says more and counts as full. Else prove '..UptoSaid'. A law counts once. -/
mutual
def uptoBulk {H : Type} : DataW H → Nat
  | .lit (.string bytes) => bytes.length + 1
  | .lit _ => 1
  | .nil => 1
  | .ptr d => uptoBulk d + 1
  | .slice elems spare => uptoBulkAll elems + uptoBulkAll spare + 1
  | .agg parts => uptoBulkAll parts + 1
  | .iface _ d => uptoBulk d + 1
  | .map entries => uptoBulkEntries entries + 1
  | .held _ => 1
def uptoBulkAll {H : Type} : List (DataW H) → Nat
  | [] => 0
  | d :: r => uptoBulk d + uptoBulkAll r
def uptoBulkEntries {H : Type} : List (Lit × DataW H) → Nat
  | [] => 0
  | x :: r => uptoBulkEntry x + uptoBulkEntries r
def uptoBulkEntry {H : Type} : Lit × DataW H → Nat
  | (.string bytes, d) => bytes.length + uptoBulk d + 1
  | (_, d) => uptoBulk d + 1
 end
def uptoSmall : (H : Type) → List (DataW H) → Bool := fun _ ds => decide (uptoBulkAll ds ≤ 1048576)
def OpenSpec.upto (s : _root_.Go.ChangeSpec) : _root_.Go.OpenSpec := { _root_.Go.OpenSpec.ofChange s with cond := some uptoSmall }

/-- 'laws.FnExactMaxGap', WHERE WHAT IT READS IS OF BULK AT MOST 1048576: true; the input reads as it did. -/
def fnExactMaxGapUptoRow : OpenClaim := { program := "ytogfphbpjlgpdaa", sum := "c4065f2225b8e458dfb71deaf2e6498f0ca9c9b7207b3cca53f2c161ddd0788f", func := "loop.example/g00862/laws.FnExactMaxGap", spec := "fnExactMaxGap", apart := false, narrowed := true }
def FnExactMaxGapUptoSaid : Prop := fnExactMaxGapUptoRow.holds Try.pinned (OpenSpec.upto fnExactMaxGapSpec)

/-- 'laws.FnExactFire', WHERE WHAT IT READS IS OF BULK AT MOST 1048576: true; the input reads as it did. -/
def fnExactFireUptoRow : OpenClaim := { program := "ytogfphbpjlgpdaa", sum := "c4065f2225b8e458dfb71deaf2e6498f0ca9c9b7207b3cca53f2c161ddd0788f", func := "loop.example/g00862/laws.FnExactFire", spec := "fnExactFire", unfollowed := true, recurses := true, apart := false, narrowed := true }
def FnExactFireUptoSaid : Prop := fnExactFireUptoRow.holds Try.pinned (OpenSpec.upto fnExactFireSpec)

/-- 'laws.FnExactFireSequence', WHERE WHAT IT READS IS OF BULK AT MOST 1048576: true; the input reads as it did. -/
def fnExactFireSequenceUptoRow : OpenClaim := { program := "ytogfphbpjlgpdaa", sum := "c4065f2225b8e458dfb71deaf2e6498f0ca9c9b7207b3cca53f2c161ddd0788f", func := "loop.example/g00862/laws.FnExactFireSequence", spec := "fnExactFireSequence", unfollowed := true, recurses := true, apart := false, narrowed := true }
def FnExactFireSequenceUptoSaid : Prop := fnExactFireSequenceUptoRow.holds Try.pinned (OpenSpec.upto fnExactFireSequenceSpec)

/-- 'laws.FnExactIsSafe', WHERE WHAT IT READS IS OF BULK AT MOST 1048576: true; the input reads as it did. -/
def fnExactIsSafeUptoRow : OpenClaim := { program := "ytogfphbpjlgpdaa", sum := "c4065f2225b8e458dfb71deaf2e6498f0ca9c9b7207b3cca53f2c161ddd0788f", func := "loop.example/g00862/laws.FnExactIsSafe", spec := "fnExactIsSafe", unfollowed := true, recurses := true, apart := false, narrowed := true }
def FnExactIsSafeUptoSaid : Prop := fnExactIsSafeUptoRow.holds Try.pinned (OpenSpec.upto fnExactIsSafeSpec)

/-- 'laws.FnExactShortestFlips', WHERE WHAT IT READS IS OF BULK AT MOST 1048576: true; the input reads as it did. -/
def fnExactShortestFlipsUptoRow : OpenClaim := { program := "ytogfphbpjlgpdaa", sum := "c4065f2225b8e458dfb71deaf2e6498f0ca9c9b7207b3cca53f2c161ddd0788f", func := "loop.example/g00862/laws.FnExactShortestFlips", spec := "fnExactShortestFlips", unfollowed := true, recurses := true, apart := false, narrowed := true }
def FnExactShortestFlipsUptoSaid : Prop := fnExactShortestFlipsUptoRow.holds Try.pinned (OpenSpec.upto fnExactShortestFlipsSpec)

end Rows
end Go.Proofs.Ytogfphbpjlgpdaa
