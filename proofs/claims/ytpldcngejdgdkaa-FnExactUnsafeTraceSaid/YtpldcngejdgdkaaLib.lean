/-
  FUNCTIONS OF THE LIBRARY as entries, by the shelf's contracts.
-/
import Derived.Test.YtpldcngejdgdkaaTab
import Derived.Test.YtpldcngejdgdkaaShelf
import Derived.Test.YtpldcngejdgdkaaIpr
namespace Go.Proofs.Ytpldcngejdgdkaa
open Go.RowKit
set_option linter.unusedVariables false
set_option linter.unusedSimpArgs false
noncomputable def s_g_slices_Reverse_int : List PV → Option PV := ipInts List.reverse
noncomputable def e_g_slices_Reverse_int : Ent := ⟨33, [.ck (.own true 3 1)], .ck .none, false, s_g_slices_Reverse_int⟩
theorem ok_g_slices_Reverse_int : FnOk Go.Proofs.Try.prog e_g_slices_Reverse_int := ipOk oneInt Go.Proofs.Try.func33 (by kernel_rfl) (by kernel_rfl) _ intsOf intsOf_eq List.reverse (fun zs => by simp) _ (ipInts_spec _)
  (fun w => Try.slices_Reverse_int_empty none 0 w) (fun g cap zs w h _ hl => (Try.slices_Reverse_int g 0 cap zs w h (by omega)).mono fun e w' he => ⟨he.1, by obtain ⟨n, h⟩ := he.2; exact ⟨n, #[], by rw [h]; simp⟩⟩)
noncomputable def s_g_slices_Sort_string : List PV → Option PV := ipStrs fun zs => zs.mergeSort fun x y => decide (x ≤ y)
noncomputable def e_g_slices_Sort_string : Ent := ⟨45, [.ck (.own true 9 1)], .ck .none, false, s_g_slices_Sort_string⟩
theorem ok_g_slices_Sort_string : FnOk Go.Proofs.Try.prog e_g_slices_Sort_string := ipOk oneStr Go.Proofs.Try.func45 (by kernel_rfl) (by kernel_rfl) _ strsOf strsOf_eq _ (fun zs => by simp) _ (ipStrs_spec _)
  (fun w => Try.slices_Sort_string_none none 0 w) (fun g cap zs w h hg hl => Try.slices_Sort_string g 0 cap zs w h hg hl)
end Go.Proofs.Ytpldcngejdgdkaa
