/-
  The exploring of a graph's markings, in plain Lean. No program is named here.
-/
import Derived.Test.YtnpbdphfjablbaaEnPure
namespace Go.Proofs.Ytnpbdphfjablbaa
open Go.RowKit
set_option linter.unusedVariables false

structure ESt where
  marks : List (List UInt8)
  moves : List Mv
  by_ : List Mv
inductive EOut where
  | ok (s : ESt)
  | bad (t : Int) (s : ESt)
  | full (s : ESt)
def findM (m : List UInt8) (l : List (List UInt8)) : Int := idxB (fun x => x == m) l
def exNew (k : Nat) (t : Int) (m : List UInt8) (s : ESt) : ESt := ⟨s.marks ++ [m], s.moves ++ [⟨k, t, s.marks.length⟩], s.by_ ++ [⟨k, t, s.marks.length⟩]⟩
def exOld (k : Nat) (t i : Int) (s : ESt) : ESt := ⟨s.marks, s.moves ++ [⟨k, t, i⟩], s.by_⟩
def exIn (n : Net) (m : List UInt8) (k : Nat) : List Int → ESt → EOut
  | [], s => .ok s
  | t :: r, s => match fireB n m t with
    | none => .bad t s
    | some m' => if m' ∈ s.marks then exIn n m k r (exOld k t (findM m' s.marks) s)
      else if s.marks.length = 300 then .full s else exIn n m k r (exNew k t m' s)
structure ERes where
  st : ESt
  code : Nat
  k : Nat
  t : Int
def exThen (k : Nat) (g : ESt → ERes) : EOut → ERes
  | .ok s => g s
  | .bad t s => ⟨s, 1, k, t⟩
  | .full s => ⟨s, 2, 0, 0⟩
def exOut (n : Net) : Nat → Nat → ESt → ERes
  | 0, _, s => ⟨s, 0, 0, 0⟩
  | f + 1, k, s => match s.marks[k]? with
    | none => ⟨s, 0, 0, 0⟩
    | some m => exThen k (exOut n f (k + 1)) (exIn n m k (enL n m) s)
def exStart (m : List UInt8) : ESt := ⟨[m], [], [⟨0, 0, 0⟩]⟩
def explore (s : STG) : ERes := exOut s.net 301 0 (exStart s.start)
theorem exOut_end {n : Net} {f k : Nat} {s : ESt} (h : ¬ k < s.marks.length) : exOut n f k s = ⟨s, 0, 0, 0⟩ := by
  cases f with
  | zero => rfl
  | succ f => unfold exOut; rw [List.getElem?_eq_none (by omega)]
theorem exOut_step {n : Net} {f k : Nat} {s : ESt} {m : List UInt8} (h : s.marks[k]? = some m) : exOut n (f + 1) k s = exThen k (exOut n f (k + 1)) (exIn n m k (enL n m) s) := by
  conv => lhs; unfold exOut
  rw [h]
theorem goIdx_ge {α : Type} {p : α → Bool} : ∀ (l : List α) (k : Nat), goIdx p k l = -1 ∨ (k ≤ goIdx p k l ∧ goIdx p k l < k + l.length)
  | [], _ => .inl rfl
  | x :: r, k => by
    unfold goIdx
    by_cases hx : p x = true
    · rw [if_pos hx]; right; simp; omega
    · rw [if_neg hx]
      rcases goIdx_ge (p := p) r (k + 1) with h | h
      · exact .inl h
      · right; simp at h ⊢; omega
theorem findM_range {m : List UInt8} {l : List (List UInt8)} (h : m ∈ l) : 0 ≤ findM m l ∧ findM m l < l.length := by
  have h1 := goIdx_any (fun x => x == m) l 0
  have h2 : l.any (fun x => x == m) = true := by simp [h]
  rw [h2] at h1
  simp at h1
  rcases goIdx_ge (p := fun x => x == m) l 0 with h3 | h3
  · rw [h3] at h1; omega
  · unfold findM idxB; omega
theorem findM_out {m : List UInt8} {l : List (List UInt8)} (h : m ∉ l) : findM m l = -1 := by
  have h1 := goIdx_any (fun x => x == m) l 0
  have h2 : l.any (fun x => x == m) = false := by simp; rintro x hx rfl; exact h hx
  rw [h2] at h1
  simp at h1
  rcases goIdx_ge (p := fun x => x == m) l 0 with h3 | h3
  · exact h3
  · omega
end Go.Proofs.Ytnpbdphfjablbaa

