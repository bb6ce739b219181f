/-
  FUNCTIONS OF THE LIBRARY as entries, by the shelf's contracts.
-/
import Derived.Test.YtmfplddmccggkaaTab
import Derived.Test.YtmfplddmccggkaaShelf
import Derived.Test.YtmfplddmccggkaaIpr
import Derived.Test.YtmfplddmccggkaaDist
import Derived.Test.YtmfplddmccggkaaHnd
import Derived.Test.YtmfplddmccggkaaRep
namespace Go.Proofs.Ytmfplddmccggkaa
open Go.RowKit
set_option linter.unusedVariables false
set_option linter.unusedSimpArgs false
noncomputable def s_g_slices_Reverse_int : List PV → Option PV := ipInts List.reverse
noncomputable def e_g_slices_Reverse_int : Ent := ⟨106, [.ck (.own true 3 1)], .ck .none, false, s_g_slices_Reverse_int⟩
theorem ok_g_slices_Reverse_int : FnOk Go.Proofs.Try.prog e_g_slices_Reverse_int := ipOk oneInt Go.Proofs.Try.func106 (by kernel_rfl) (by kernel_rfl) _ intsOf intsOf_eq List.reverse (fun zs => by simp) _ (ipInts_spec _)
  (fun w => Try.slices_Reverse_int_empty none 0 w) (fun g cap zs w h _ hl => (Try.slices_Reverse_int g 0 cap zs w h (by omega)).mono fun e w' he => ⟨he.1, by obtain ⟨n, h⟩ := he.2; exact ⟨n, #[], by rw [h]; simp⟩⟩)
theorem mulOk : MulOk := fun x y w h1 h2 => Try.bits_Mul x y h1 h2 w
noncomputable def s_g_slices_Repeat_int : List PV → Option PV
  | [.lst [.int .i64 v], .int .i64 n] => if -9223372036854775808 ≤ v ∧ v ≤ 9223372036854775807 ∧ 1 ≤ n ∧ n ≤ 1048576 then some (.lst ((List.replicate n.toNat v).map pI)) else none
  | _ => none
noncomputable def e_g_slices_Repeat_int : Ent := ⟨118, [.ck .val, .ck .val], .ck (.own true 3 1), false, s_g_slices_Repeat_int⟩
theorem ok_g_slices_Repeat_int : FnOk Go.Proofs.Try.prog e_g_slices_Repeat_int := rowOk Go.Proofs.Try.func118 (by kernel_rfl) (by kernel_rfl) 2 3 _ fun w F xs vs r hF hx hr => by
  unfold s_g_slices_Repeat_int at hr
  split at hr
  case h_2 => cases hr
  rename_i v n
  split at hr
  case isFalse => cases hr
  rename_i h
  cases hr
  cases hx with
  | cons h1 t =>
    cases t with
    | cons h2 t =>
      cases t
      cases h2
      obtain ⟨A, c, rfl, ha, hc, hm⟩ := ra_of_vr (S := shInt) (f := pI) (l := [v]) (fun x hx => by rw [List.mem_singleton] at hx; subst hx; exact readsInt ⟨h.1, h.2.1⟩) hF h1
      obtain ⟨N, rfl⟩ := Int.eq_ofNat_of_zero_le (show 0 ≤ n by omega)
      refine ⟨List.replicate N v, rfl, (repeat_int mulOk v N A c w ⟨h.1, h.2.1⟩ hc (by unfold maxLen at hm; omega) ha (by omega) (by omega)).mono fun e w' he => ?_⟩
      rw [List.length_replicate]
      exact he
noncomputable def s_i_distances : List PV → Option PV
  | [.int .i64 n, .lst l, .int .i64 s] => match stsOf l with
    | some es => if 0 ≤ n ∧ n ≤ 1000 ∧ 0 ≤ s ∧ s < n ∧ es.length ≤ 100000 ∧ (es.all fun e => decide (e.1 < n.toNat ∧ e.2 < n.toNat)) = true then some (.lst ((distN n.toNat es s.toNat).map pI)) else none
    | none => none
  | _ => none
noncomputable def e_i_distances : Ent := ⟨90, [.ck .val, .ck .val, .ck .val], .ck (.own true 3 1), false, s_i_distances⟩
theorem ok_i_distances : FnOk Go.Proofs.Try.prog e_i_distances := rowOk Go.Proofs.Try.func90 (by kernel_rfl) (by kernel_rfl) 3 3 _ fun w F xs vs r hF hx hr => by
  unfold s_i_distances at hr
  split at hr
  case h_2 => cases hr
  rename_i n l s
  split at hr
  case h_2 => cases hr
  rename_i es hes
  split at hr
  case isFalse => cases hr
  rename_i h
  obtain ⟨g1, g2, g3, g4, g5, g6⟩ := h
  cases hr
  cases hx with
  | cons h1 t =>
    cases t with
    | cons h2 t =>
      cases t with
      | cons h3 t =>
        cases t
        cases h1
        cases h3
        rw [stsOf_eq hes] at h2
        obtain ⟨N, rfl⟩ := Int.eq_ofNat_of_zero_le g1
        obtain ⟨k, rfl⟩ := Int.eq_ofNat_of_zero_le g3
        have hb : ∀ e ∈ es, e.1 < N ∧ e.2 < N := fun e he => by have := List.all_eq_true.1 g6 e he; simpa using this
        obtain ⟨A, c, rfl, ha, hc, hm⟩ := ra_of_vr (S := shStep) (f := pSt) (l := es) (fun x hx => readsStep rfl (by have := (hb x hx).1; omega) (by have := (hb x hx).2; omega)) hF h2
        refine ⟨distN N es k, rfl, (impl_distances mulOk N k es A c w hb (by omega) (by omega) hc (by unfold maxLen at hm; omega) g5 ha).mono fun e w' he => ?_⟩
        obtain ⟨A', c', rfl, ho, hbl⟩ := he
        exact ⟨A', c', by rw [show (distN N es k).length = N from (distN_is (by omega) hb).len], ho, hbl⟩
noncomputable def s_g_strings_Join : List PV → Option PV
  | [.lst l, .str sep] => match strsOf l with
    | some xs => if xs.length ≤ 140737488355328 ∧ (Lib.join xs sep).length ≤ 140737488355328 then some (.str (Lib.join xs sep)) else none
    | none => none
  | _ => none
noncomputable def e_g_strings_Join : Ent := ⟨63, [.ck .val, .ck .val], .ck .val, true, s_g_strings_Join⟩
theorem ok_g_strings_Join : FnOk Go.Proofs.Try.prog e_g_strings_Join := valOk Go.Proofs.Try.func63 (by kernel_rfl) (by kernel_rfl) 2 _ fun w F xs vs r hF hx hr => by
  unfold s_g_strings_Join at hr
  split at hr
  case h_2 => cases hr
  rename_i l sep
  split at hr
  case h_2 => cases hr
  rename_i zs hzs
  split at hr
  case isFalse => cases hr
  rename_i h
  cases hr
  rw [strsOf_eq l zs hzs] at hx
  cases hx with
  | cons h1 t =>
    cases t with
    | cons h2 t =>
      cases t
      cases h2
      obtain ⟨A, c, rfl, hA, hc⟩ := strs_of_vr h1
      refine ⟨rfl, .string ⟨(Lib.join zs sep).toArray⟩, fun _ _ => .str _, ?_⟩
      by_cases h0 : zs = []
      · subst h0
        exact (Try.strings_Join_none A c ⟨sep.toArray⟩ w).mono fun e w' he => ⟨by rw [he.1]; rfl, by rw [he.2]; exact Below.refl _ _⟩
      · obtain ⟨b, off, rfl, hb, hcell⟩ := hA h0
        have e1 : (zs.map fun s => (⟨s.toArray⟩ : ByteArray)).map (·.data.toList) = zs := by
          rw [List.map_map]
          conv => rhs; rw [← List.map_id zs]
          exact List.map_congr_left fun s _ => by simp
        have key := Try.strings_Join b off c (zs.map fun s => (⟨s.toArray⟩ : ByteArray)) ⟨sep.toArray⟩ w (fun j x hx => by
          rw [List.getElem?_map, Option.map_eq_some_iff] at hx
          obtain ⟨s, hs, rfl⟩ := hx
          exact hcell j s hs) (hF b hb) (by rw [List.length_map]; exact h.1) (by rw [List.length_map]; exact hc) (by rw [e1]; simpa using h.2)
        rw [List.length_map, e1] at key
        exact key.mono fun e w' he => ⟨by rw [he.1], he.2⟩
end Go.Proofs.Ytmfplddmccggkaa
