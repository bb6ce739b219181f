/-
  FUNCTIONS OF THE LIBRARY as entries, by the shelf's contracts.
-/
import Derived.Test.YtjplbgaocmpleaaGreatTab
import Derived.Test.YtjplbgaocmpleaaGreatShelf
namespace Go.Proofs.YtjplbgaocmpleaaGreat
open Go.RowKit
set_option linter.unusedVariables false
set_option linter.unusedSimpArgs false
noncomputable def s_g_strings_Repeat : List PV → Option PV
  | [.str s, .int .i64 n] => if 0 ≤ n ∧ n ≤ 9223372036854775807 ∧ (s.length : Int) * n ≤ 140737488355328 then some (.str (Lib.repeatL s n.toNat)) else none
  | _ => none
noncomputable def e_g_strings_Repeat : Ent := ⟨152, [.ck .val, .ck .val], .ck .val, true, s_g_strings_Repeat⟩
theorem ok_g_strings_Repeat : FnOk Go.Proofs.Tryz.prog e_g_strings_Repeat := libOk Go.Proofs.Tryz.func152 (by kernel_rfl) (by kernel_rfl) 2 _ fun w F xs vs r hx hr => by
  unfold s_g_strings_Repeat at hr
  split at hr
  case h_2 => cases hr
  rename_i s n
  split at hr
  case isFalse => cases hr
  rename_i h
  cases hr
  cases hx with
  | cons h1 t =>
    cases t with
    | cons h2 t =>
      cases t
      cases h1
      cases h2
      obtain ⟨c, rfl⟩ := Int.eq_ofNat_of_zero_le h.1
      have h3 := h.2.2
      rw [← Int.natCast_mul] at h3
      refine ⟨rfl, _, fun _ _ => .str _, (Tryz.strings_Repeat ⟨s.toArray⟩ c w (by omega) ?_).mono fun e w' he => ?_⟩
      · show s.toArray.size * c ≤ _
        simp only [List.size_toArray]
        omega
      · refine ⟨he.1.trans ?_, he.2⟩
        simp [ByteArray.toList]
end Go.Proofs.YtjplbgaocmpleaaGreat
