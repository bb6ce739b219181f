/-
  The markings that are reached: none twice, not more than 600 (plain).
-/
import Derived.Test.YtnpbdphfjablbaaEnPure
namespace Go.Proofs.Ytnpbdphfjablbaa
set_option linter.unusedVariables false
theorem reachIn_nodup (n : Net) (m : List UInt8) : ∀ (l : List Int) (out out' : List (List UInt8)), out.Nodup → reachIn n m l out = some out' → out'.Nodup
  | [], out, out', h, he => by cases he; exact h
  | t :: r, out, out', h, he => by
    unfold reachIn at he
    split at he
    · cases he
    · rename_i m' _
      refine reachIn_nodup n m r _ out' ?_ he
      split
      · exact h
      · rename_i hn
        refine List.nodup_append.2 ⟨h, by simp, fun a ha b hb => ?_⟩
        simp only [List.mem_singleton] at hb
        subst hb
        exact fun e => hn (e ▸ ha)
theorem reachOut_facts (n : Net) : ∀ (f k : Nat) (out : List (List UInt8)), out.Nodup → out.length ≤ 600 → ((reachOut n f k out).1).Nodup ∧ ((reachOut n f k out).1).length ≤ 600
  | 0, _, out, h, hl => ⟨h, hl⟩
  | f + 1, k, out, h, hl => by
    unfold reachOut
    split
    · exact ⟨h, hl⟩
    · rename_i m _
      cases he : reachIn n m (enL n m) out with
      | none => rw [after3_none]; exact ⟨List.nodup_nil, by simp⟩
      | some o =>
        have hn := reachIn_nodup n m _ out o h he
        by_cases hb : 600 < o.length
        · rw [after3_big hb]; exact ⟨List.nodup_nil, by simp⟩
        · rw [after3_ok hb]; exact reachOut_facts n f (k + 1) o hn (by omega)
theorem reach_len (n : Net) (m : List UInt8) : ((reach n m).1).length ≤ 600 := (reachOut_facts n 601 0 [m] (by simp) (by simp)).2
end Go.Proofs.Ytnpbdphfjablbaa

