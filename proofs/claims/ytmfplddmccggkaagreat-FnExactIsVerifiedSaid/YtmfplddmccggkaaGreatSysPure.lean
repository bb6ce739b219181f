/-
  THE TABLE OF TARGETS of a state graph's arcs, in plain Lean. No program is named here.
-/
import Derived.Test.YtmfplddmccggkaaGreatDistPure
namespace Go.Proofs.YtmfplddmccggkaaGreat
set_option linter.unusedVariables false
set_option linter.unusedSimpArgs false
abbrev QArc := Int × Int × Bool × Int
def putArc (R : List (List Int)) (a : QArc) : List (List Int) := R.set a.1.toNat ((R.getD a.1.toNat []).set a.2.1.toNat a.2.2.2)
def rowsOf (n m : Nat) (arcs : List QArc) : List (List Int) := arcs.foldl putArc (List.replicate n (List.replicate m (-1)))
def cellOf (R : List (List Int)) (k s : Nat) : Int := (R.getD k []).getD s (-1)
theorem putArc_len (R : List (List Int)) (a : QArc) : (putArc R a).length = R.length := by simp [putArc]
theorem foldArc_len : ∀ (l : List QArc) (R : List (List Int)), (l.foldl putArc R).length = R.length
  | [], R => rfl
  | a :: l, R => by rw [List.foldl_cons, foldArc_len l, putArc_len]
theorem rowsOf_len (n m : Nat) (l : List QArc) : (rowsOf n m l).length = n := by unfold rowsOf; rw [foldArc_len]; simp
theorem putArc_row {R : List (List Int)} {m : Nat} (h : ∀ r ∈ R, r.length = m) (a : QArc) : ∀ r ∈ putArc R a, r.length = m := fun r hr => by
  unfold putArc at hr
  obtain ⟨i, hi, rfl⟩ := List.getElem_of_mem hr
  rw [List.getElem_set]
  split
  · rename_i e
    rw [List.length_set]
    have hlt : a.1.toNat < R.length := by rw [List.length_set] at hi; omega
    rw [List.getD_eq_getElem?_getD, List.getElem?_eq_getElem hlt]
    exact h _ (List.getElem_mem hlt)
  · exact h _ (List.getElem_mem _)
theorem foldArc_row {m : Nat} : ∀ (l : List QArc) (R : List (List Int)), (∀ r ∈ R, r.length = m) → ∀ r ∈ l.foldl putArc R, r.length = m
  | [], R, h => h
  | a :: l, R, h => foldArc_row l _ (putArc_row h a)
theorem rowsOf_row (n m : Nat) (l : List QArc) : ∀ r ∈ rowsOf n m l, r.length = m := foldArc_row l _ (fun r hr => by rw [List.eq_of_mem_replicate hr, List.length_replicate])
theorem putArc_cell {R : List (List Int)} {m k s : Nat} (h : ∀ r ∈ R, r.length = m) (hk : k < R.length) (hs : s < m) (a : QArc) :
    cellOf (putArc R a) k s = if a.1.toNat = k ∧ a.2.1.toNat = s then a.2.2.2 else cellOf R k s := by
  have hg : R[k]? = some R[k] := List.getElem?_eq_getElem hk
  have hm : R[k].length = m := h _ (List.getElem_mem hk)
  unfold cellOf putArc
  rw [List.getD_eq_getElem?_getD (l := R.set _ _), List.getElem?_set]
  by_cases c : a.1.toNat = k
  · rw [if_pos c, if_pos (by omega)]
    rw [c, List.getD_eq_getElem?_getD (i := k), hg]
    simp only [Option.getD_some]
    rw [List.getD_eq_getElem?_getD, List.getElem?_set]
    by_cases c2 : a.2.1.toNat = s
    · rw [if_pos c2, if_pos (by omega), if_pos ⟨trivial, c2⟩]; rfl
    · rw [if_neg c2, if_neg (fun h => c2 h.2), List.getD_eq_getElem?_getD]
  · rw [if_neg c, if_neg (fun h => c h.1), List.getD_eq_getElem?_getD (i := k)]
theorem foldArc_char {m k s : Nat} (hs : s < m) : ∀ (l : List QArc) (R : List (List Int)), (∀ r ∈ R, r.length = m) → k < R.length →
    (∃ a ∈ l, (a.1.toNat = k ∧ a.2.1.toNat = s) ∧ cellOf (l.foldl putArc R) k s = a.2.2.2) ∨ (cellOf (l.foldl putArc R) k s = cellOf R k s ∧ ∀ a ∈ l, ¬ (a.1.toNat = k ∧ a.2.1.toNat = s))
  | [], R, h, hk => .inr ⟨rfl, by simp⟩
  | a :: l, R, h, hk => by
    rw [List.foldl_cons]
    rcases foldArc_char hs l (putArc R a) (putArc_row h a) (by rw [putArc_len]; exact hk) with ⟨b, hb, h1, h2⟩ | ⟨h1, h2⟩
    · exact .inl ⟨b, List.mem_cons_of_mem _ hb, h1, h2⟩
    · rw [putArc_cell h hk hs] at h1
      by_cases c : a.1.toNat = k ∧ a.2.1.toNat = s
      · rw [if_pos c] at h1
        exact .inl ⟨a, List.mem_cons_self, c, h1⟩
      · rw [if_neg c] at h1
        refine .inr ⟨h1, fun b hb => ?_⟩
        rcases List.mem_cons.1 hb with rfl | hb
        · exact c
        · exact h2 b hb
theorem rowsOf_char {n m k s : Nat} (hk : k < n) (hs : s < m) (l : List QArc) :
    (∃ a ∈ l, (a.1.toNat = k ∧ a.2.1.toNat = s) ∧ cellOf (rowsOf n m l) k s = a.2.2.2) ∨ (cellOf (rowsOf n m l) k s = -1 ∧ ∀ a ∈ l, ¬ (a.1.toNat = k ∧ a.2.1.toNat = s)) := by
  have := foldArc_char (m := m) (k := k) hs l (List.replicate n (List.replicate m (-1))) (fun r hr => by rw [List.eq_of_mem_replicate hr, List.length_replicate]) (by simpa using hk)
  have e : cellOf (List.replicate n (List.replicate m (-1 : Int))) k s = -1 := by
    unfold cellOf
    simp [List.getD_eq_getElem?_getD, List.getElem?_replicate, hk, hs]
  rw [e] at this
  exact this
end Go.Proofs.YtmfplddmccggkaaGreat

