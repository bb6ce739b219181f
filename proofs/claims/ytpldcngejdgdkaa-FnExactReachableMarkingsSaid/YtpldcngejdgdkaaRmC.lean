/-
  The contracts of ReachableMarkings, of the program's and of the reference's: the program gives back a row of its own, the reference one that is only read.
-/
import Derived.Test.YtpldcngejdgdkaaOwn
import Derived.Test.YtpldcngejdgdkaaLawNt
import Derived.Test.YtpldcngejdgdkaaMarkNt
import Derived.Test.YtpldcngejdgdkaaReachableMarkingsP
namespace Go.Proofs.Ytpldcngejdgdkaa.Lw
open Go.RowKit
set_option linter.unusedVariables false
set_option linter.unusedSimpArgs false
theorem encTrX : EncOk shTr (fun t => [.lst (t.pre.map pI), .lst (t.post.map pI)]) := encVia (v := fun x : Tr => (x.pre, x.post)) (encPair (encSlOne encInt rfl) (encSlOne encInt rfl))
theorem encNetX : EncOk shNet (fun n => [pI n.places, .lst (n.trans.map fun t => .agg [.lst (t.pre.map pI), .lst (t.post.map pI)])]) := encVia (v := fun x : Net => (x.places, x.trans)) (encPair encInt (encSlAgg encTrX))
theorem bdTrX : BdOk shTr TrFit := BdOk.mono (bdVia (v := fun x : Tr => (x.pre, x.post)) (bdPair (bdSl (S := shInt) bdTrue) (bdSl (S := shInt) bdTrue))) (fun a h => ⟨h.1.1, h.2.1⟩)
theorem bdNetX : BdOk shNet NtFit := BdOk.mono (bdVia (v := fun x : Net => (x.places, x.trans)) (bdPair (S := shInt) bdTrue (bdSl bdTrX))) (fun a h => ⟨h.2.1, h.2.2⟩)
theorem clearLen {n : Net} {m : List UInt8} (h : goodMark n m = true) : m.length ≤ 30 := places_le h
theorem reachIn_good {n : Net} {m : List UInt8} (hm : goodMark n m = true) {l : List Int} {out out' : List (List UInt8)} (hl : ∀ t ∈ l, t ∈ enL n m) (ho : ∀ x ∈ out, goodMark n x = true) (h : reachIn n m l out = some out') : ∀ x ∈ out', goodMark n x = true := by
  rw [inI_eq] at h
  split at h
  · rename_i c
    cases h
    exact (inI_mt (k := 0) (out0 := out) hm l out 0 hl ⟨⟨[], by simp⟩, ho, by omega⟩ c).good
  · cases h
theorem reachOut_good (n : Net) : ∀ (f k : Nat) (out : List (List UInt8)), (∀ x ∈ out, goodMark n x = true) → ∀ x ∈ (reachOut n f k out).1, goodMark n x = true
  | 0, k, out, h => h
  | f + 1, k, out, h => by
    cases hk : out[k]? with
    | none => unfold reachOut; rw [hk]; exact h
    | some m =>
      rw [reachOut_step hk]
      cases hr : reachIn n m (enL n m) out with
      | none => rw [after3_none]; simp
      | some out' =>
        by_cases c : 600 < out'.length
        · rw [after3_big c]; simp
        · rw [after3_ok c]
          exact reachOut_good n f (k + 1) out' (reachIn_good (h m (List.mem_of_getElem? hk)) (fun t ht => ht) h hr)
theorem rmP_in (n : Net) (m : List UInt8) : ∀ x ∈ (rmP n m).1, x.length ≤ 9223372036854775807 := by
  intro x hx
  unfold rmP at hx
  split at hx
  · rename_i c
    rw [List.mem_mergeSort] at hx
    have := places_le (reachOut_good n 601 0 [m] (by simpa using c.1) x hx)
    omega
  · cases hx
theorem impl_ReachableMarkings (n : Net) (m : List UInt8) (A : Option Addr) (c : Nat) (w : World) (hi : InI n.places) (h1 : n.trans.length ≤ c) (h2 : c ≤ 9223372036854775807) (hr : RA shTr w A n.trans) (hm : m.length ≤ 9223372036854775807) :
    Calls Try.prog 17 #[.agg #[.int .i64 n.places, .slice A n.trans.length c], .string ⟨m.toArray⟩] w fun e w' => ∃ A' c', e = .returned (.tuple #[.slice A' ((rmP n m).1).length c', .bool (rmP n m).2]) ∧ Own shStr w' w.heap.size 9 A' c' (rmP n m).1 ∧ Below w.heap.size w w' := by
  have hr : shNet.rep w (fun b => b < w.heap.size) [.int .i64 n.places, .slice A n.trans.length c] n := shNet_mk hi h1 h2 hr
  have hf := bdNetX.out hr
  have hs : e_i_ReachableMarkings.spec [eNt n, .str m] = some (.tup [.lst ((rmP n m).1.map PV.str), pB (rmP n m).2]) := (congrFun (show e_i_ReachableMarkings.spec = s_i_ReachableMarkings from rfl) _).trans (at_i_ReachableMarkings n m hf hm)
  have hv := encNetX.vrAgg hr
  exact FnOk.ownBool (S := shStr) ok_i_ReachableMarkings rfl rfl rfl (.cons hv (.cons (.str _) .nil)) hs (fun x hx => cellsStr (rmP_in n m x hx))
theorem spec_ReachableMarkings (n : Net) (m : List UInt8) (A : Option Addr) (c : Nat) (w : World) (hi : InI n.places) (h1 : n.trans.length ≤ c) (h2 : c ≤ 9223372036854775807) (hr : RA shTr w A n.trans) (hm : m.length ≤ 9223372036854775807) :
    Calls Try.prog 15 #[.agg #[.int .i64 n.places, .slice A n.trans.length c], .string ⟨m.toArray⟩] w fun e w' => ∃ A' c', e = .returned (.tuple #[.slice A' ((rmP n m).1).length c', .bool (rmP n m).2]) ∧ Seen shStr w' w'.heap.size A' c' (rmP n m).1 ∧ Below w.heap.size w w' := by
  have hr : shNet.rep w (fun b => b < w.heap.size) [.int .i64 n.places, .slice A n.trans.length c] n := shNet_mk hi h1 h2 hr
  have hf := bdNetX.out hr
  have hs : e_r_ReachableMarkings.spec [eNt n, .str m] = some (.tup [.lst ((rmP n m).1.map PV.str), pB (rmP n m).2]) := (congrFun (show e_r_ReachableMarkings.spec = s_r_ReachableMarkings from rfl) _).trans (at_r_ReachableMarkings n m hf hm)
  have hv := encNetX.vrAgg hr
  exact FnOk.seenBool (S := shStr) ok_r_ReachableMarkings rfl rfl (.cons hv (.cons (.str _) .nil)) hs (fun x hx => readsStr (rmP_in n m x hx))
end Go.Proofs.Ytpldcngejdgdkaa.Lw
