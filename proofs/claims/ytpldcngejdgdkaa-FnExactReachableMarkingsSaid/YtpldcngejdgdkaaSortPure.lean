/-
  The reference's insertion of texts, one by one, makes the sorted row (plain).
-/
namespace Go.Proofs.Ytpldcngejdgdkaa
set_option linter.unusedVariables false
/-- A text goes to its place; one that is there already does not. -/
def putS : List (List UInt8) → List UInt8 → List (List UInt8)
  | [], s => [s]
  | x :: r, s => if x < s then x :: putS r s else if x = s then x :: r else s :: x :: r
theorem putS_perm : ∀ (l : List (List UInt8)) (s : List UInt8), s ∉ l → (putS l s).Perm (s :: l)
  | [], s, _ => List.Perm.refl _
  | x :: r, s, h => by
    simp only [List.mem_cons, not_or] at h
    unfold putS
    split
    · exact ((putS_perm r s h.2).cons x).trans (List.Perm.swap s x r)
    · split
      · rename_i e; exact absurd e.symm h.1
      · exact List.Perm.refl _
theorem putS_mem {l : List (List UInt8)} {s y : List UInt8} (h : y ∈ putS l s) : y = s ∨ y ∈ l := by
  induction l with
  | nil => simp [putS] at h; exact .inl h
  | cons x r ih =>
    unfold putS at h
    split at h
    · rcases List.mem_cons.1 h with e | h
      · exact .inr (by simp [e])
      · rcases ih h with e | e
        · exact .inl e
        · exact .inr (List.mem_cons_of_mem _ e)
    · split at h
      · exact .inr h
      · rcases List.mem_cons.1 h with e | h
        · exact .inl e
        · exact .inr h
theorem putS_sorted : ∀ (l : List (List UInt8)) (s : List UInt8), l.Pairwise (· ≤ ·) → (putS l s).Pairwise (· ≤ ·)
  | [], s, _ => by simp [putS]
  | x :: r, s, h => by
    rw [List.pairwise_cons] at h
    unfold putS
    split
    · rename_i hx
      rw [List.pairwise_cons]
      refine ⟨fun y hy => ?_, putS_sorted r s h.2⟩
      rcases putS_mem hy with rfl | hy
      · exact List.le_of_lt hx
      · exact h.1 y hy
    · split
      · rw [List.pairwise_cons]; exact h
      · rename_i hx _
        have hs : s ≤ x := List.not_lt.1 hx
        rw [List.pairwise_cons, List.pairwise_cons]
        refine ⟨fun y hy => ?_, h⟩
        rcases List.mem_cons.1 hy with rfl | hy
        · exact hs
        · exact List.le_trans hs (h.1 y hy)
theorem putAll_facts : ∀ (l acc : List (List UInt8)), (acc ++ l).Nodup → acc.Pairwise (· ≤ ·) → (l.foldl putS acc).Pairwise (· ≤ ·) ∧ (l.foldl putS acc).Perm (acc ++ l)
  | [], acc, _, hs => ⟨hs, by simp⟩
  | x :: r, acc, hn, hs => by
    have hx : x ∉ acc := fun hc => by
      have := (List.nodup_append.1 hn).2.2 x hc x List.mem_cons_self
      exact this rfl
    have hp := putS_perm acc x hx
    have hp2 : (putS acc x ++ r).Perm (acc ++ x :: r) := (hp.append_right r).trans ((List.perm_middle (l₁ := acc) (l₂ := r) (a := x)).symm)
    obtain ⟨h1, h2⟩ := putAll_facts r (putS acc x) (hp2.nodup_iff.2 hn) (putS_sorted acc x hs)
    exact ⟨h1, h2.trans hp2⟩
theorem sort_eq (l : List (List UInt8)) (hn : l.Nodup) : l.foldl putS [] = l.mergeSort fun x y => decide (x ≤ y) := by
  obtain ⟨h1, h2⟩ := putAll_facts l [] (by simpa using hn) List.Pairwise.nil
  refine List.Perm.eq_of_pairwise (le := (· ≤ ·)) (fun a b _ _ h k => List.le_antisymm h k) h1 ?_ (h2.trans ?_)
  · have := List.pairwise_mergeSort (le := fun (x y : List UInt8) => decide (x ≤ y)) (fun a b c h k => by simp at *; exact List.le_trans h k) (fun a b => by simp; exact List.le_total a b) l
    exact this.imp fun h => by simpa using h
  · simpa using (List.mergeSort_perm l _).symm
end Go.Proofs.Ytpldcngejdgdkaa
