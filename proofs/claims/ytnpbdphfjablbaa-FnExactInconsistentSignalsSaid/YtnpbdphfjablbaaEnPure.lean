/-
  The enabled transitions and the reachable markings, in plain Lean.
-/
import Derived.Test.YtnpbdphfjablbaaNetPure
namespace Go.Proofs.Ytnpbdphfjablbaa
open Go.RowKit
set_option linter.unusedVariables false

def goEn (m : List UInt8) : Nat → List Tr → List Int
  | _, [] => []
  | i, t :: r => if enB m t then (i : Int) :: goEn m (i + 1) r else goEn m (i + 1) r
def enL (n : Net) (m : List UInt8) : List Int := goEn m 0 n.trans
theorem goEn_length (m : List UInt8) : ∀ (l : List Tr) (i : Nat), (goEn m i l).length ≤ l.length
  | [], _ => Nat.le_refl _
  | t :: r, i => by
    unfold goEn
    have := goEn_length m r (i + 1)
    split <;> simp <;> omega
theorem enL_length {n : Net} {m : List UInt8} (h : goodMark n m = true) : (enL n m).length ≤ 24 := by
  have := goEn_length m n.trans 0
  simp only [goodMark, goodNet, Bool.and_eq_true, decide_eq_true_eq] at h
  unfold enL
  omega
theorem goEn_mem (m : List UInt8) : ∀ (l : List Tr) (i : Nat) (t : Int), t ∈ goEn m i l → ∃ k x, t = ((i + k : Nat) : Int) ∧ l[k]? = some x ∧ enB m x = true
  | [], _, t, h => by simp [goEn] at h
  | y :: r, i, t, h => by
    unfold goEn at h
    split at h
    · rename_i hy
      rcases List.mem_cons.1 h with rfl | h
      · exact ⟨0, y, rfl, rfl, hy⟩
      · obtain ⟨k, x, e, hx, hb⟩ := goEn_mem m r (i + 1) t h
        exact ⟨k + 1, x, by rw [e]; omega, by simpa using hx, hb⟩
    · obtain ⟨k, x, e, hx, hb⟩ := goEn_mem m r (i + 1) t h
      exact ⟨k + 1, x, by rw [e]; omega, by simpa using hx, hb⟩
theorem enL_mem {n : Net} {m : List UInt8} {t : Int} (h : t ∈ enL n m) : ∃ (k : Nat) (x : Tr), t = (k : Int) ∧ n.trans[k]? = some x ∧ enB m x = true ∧ fireB n m t = fireM x m := by
  obtain ⟨k, x, e, hx, hb⟩ := goEn_mem m n.trans 0 t h
  simp only [Nat.zero_add] at e
  subst e
  have hlt := lt_of_get hx
  refine ⟨k, x, rfl, hx, hb, ?_⟩
  have hin : inB (k : Int) 0 ((n.trans.length : Int) - 1) = true := inB_iff.2 ⟨by omega, by omega⟩
  simp [fireB, hin, hx, hb]

def reachIn (n : Net) (m : List UInt8) : List Int → List (List UInt8) → Option (List (List UInt8))
  | [], out => some out
  | t :: r, out => match fireB n m t with
    | none => none
    | some m' => reachIn n m r (if m' ∈ out then out else out ++ [m'])
def after3 (o : Option (List (List UInt8))) (g : List (List UInt8) → List (List UInt8) × Nat) : List (List UInt8) × Nat := match o with
  | none => ([], 1)
  | some out => if 600 < out.length then ([], 2) else g out
theorem after3_none (g : List (List UInt8) → List (List UInt8) × Nat) : after3 none g = ([], 1) := rfl
theorem after3_big {out : List (List UInt8)} (h : 600 < out.length) (g : List (List UInt8) → List (List UInt8) × Nat) : after3 (some out) g = ([], 2) := by simp [after3, h]
theorem after3_ok {out : List (List UInt8)} (h : ¬ 600 < out.length) (g : List (List UInt8) → List (List UInt8) × Nat) : after3 (some out) g = g out := by simp only [after3]; rw [if_neg h]
def reachOut (n : Net) : Nat → Nat → List (List UInt8) → List (List UInt8) × Nat
  | 0, _, out => (out, 0)
  | f + 1, k, out => match out[k]? with
    | none => (out, 0)
    | some m => after3 (reachIn n m (enL n m) out) (reachOut n f (k + 1))
def reach (n : Net) (m : List UInt8) : List (List UInt8) × Nat := reachOut n 601 0 [m]
theorem reachOut_step {n : Net} {f k : Nat} {out : List (List UInt8)} {m : List UInt8} (h : out[k]? = some m) : reachOut n (f + 1) k out = after3 (reachIn n m (enL n m) out) (reachOut n f (k + 1)) := by
  conv => lhs; unfold reachOut
  rw [h]
end Go.Proofs.Ytnpbdphfjablbaa

