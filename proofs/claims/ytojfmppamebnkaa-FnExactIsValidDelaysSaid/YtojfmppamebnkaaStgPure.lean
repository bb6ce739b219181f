/-
  What the functions on signal transition graphs compute, in plain Lean. No program is named here.
-/
import Derived.Test.YtojfmppamebnkaaNetPure
namespace Go.Proofs.Ytojfmppamebnkaa
open Go.RowKit
set_option linter.unusedVariables false

/-- The byte may stand in a name; 'first': at its head. -/
def okCh (first : Bool) (b : UInt8) : Bool := (decide (97 ≤ b.toNat) && decide (b.toNat ≤ 122)) || (decide (48 ≤ b.toNat) && decide (b.toNat ≤ 57) && !first)
def goName : Nat → List UInt8 → Bool
  | _, [] => true
  | k, b :: r => okCh (k == 0) b && goName (k + 1) r
def nameB (s : List UInt8) : Bool := goName 0 s && inB s.length 1 6
def goSigs (l : List Sig) : Nat → List Sig → Bool
  | _, [] => true
  | k, x :: r => nameB x.name && inB x.kind 1 3 && !((l.take k).any fun y => y.name == x.name) && goSigs l (k + 1) r
def sigsB (l : List Sig) : Bool := goSigs l 0 l && inB l.length 1 8
def labB (n : Int) (x : Lab) : Bool := inB x.sig 0 (n - 1) || (x.sig == -1 && !x.up)
def stgB (s : STG) : Bool := goodMark s.net s.start && sigsB s.signals && decide (s.labels.length = s.net.trans.length) && s.labels.all (labB s.signals.length)
def dlB (d : Dl) : Bool := decide (0 ≤ d.low) && decide (d.low ≤ d.high) && decide (d.high ≤ 100)
def delaysB (s : STG) (l : List Dl) : Bool := stgB s && decide (l.length = s.labels.length) && l.all dlB

/-- The five ranges of a byte. -/
theorem byte_range (n : Nat) : n < 48 ∨ (48 ≤ n ∧ n ≤ 57) ∨ (58 ≤ n ∧ n ≤ 96) ∨ (97 ≤ n ∧ n ≤ 122) ∨ 123 ≤ n := by omega
theorem RSl.take {α : Type} {S : Sh α} {w : World} {D : Nat → Prop} {A : Option Addr} {l : List α} (h : RSl S w D A l) (k : Nat) : RSl S w D A (l.take k) := fun hl => by
  obtain ⟨b, off, e, hb, hx⟩ := h (by rintro rfl; simp at hl)
  refine ⟨b, off, e, hb, fun j x hj => hx j x ?_⟩
  rw [List.getElem?_take] at hj
  split at hj
  · exact hj
  · cases hj
theorem RA.take {α : Type} {S : Sh α} {w : World} {A : Option Addr} {l : List α} (h : RA S w A l) (k : Nat) : RA S w A (l.take k) := RSl.take h k
end Go.Proofs.Ytojfmppamebnkaa
