/-
  FUNCTIONS OF THE LIBRARY as entries, by the shelf's contracts.
-/
import Derived.Test.YtnpbdphfjablbaaTab
import Derived.Test.YtnpbdphfjablbaaShelf
import Derived.Test.YtnpbdphfjablbaaAgr
import Derived.Test.YtnpbdphfjablbaaHnd
import Derived.Test.YtnpbdphfjablbaaRep
namespace Go.Proofs.Ytnpbdphfjablbaa
open Go.RowKit
set_option linter.unusedVariables false
set_option linter.unusedSimpArgs false
theorem mulOk : MulOk := fun x y w h1 h2 => Try.bits_Mul x y h1 h2 w
noncomputable def s_g_slices_Repeat_int : List PV → Option PV
  | [.lst [.int .i64 v], .int .i64 n] => if -9223372036854775808 ≤ v ∧ v ≤ 9223372036854775807 ∧ 0 ≤ n ∧ n ≤ 1048576 then some (.lst ((List.replicate n.toNat v).map pI)) else none
  | _ => none
noncomputable def e_g_slices_Repeat_int : Ent := ⟨106, [.ck .val, .ck .val], .ck (.own true 3 1), false, s_g_slices_Repeat_int⟩
theorem ok_g_slices_Repeat_int : FnOk Go.Proofs.Try.prog e_g_slices_Repeat_int := rowOk Go.Proofs.Try.func106 (by kernel_rfl) (by kernel_rfl) 2 3 _ fun w F xs vs r hF hx hr => by
  unfold s_g_slices_Repeat_int at hr
  split at hr
  case h_2 => cases hr
  rename_i v n
  split at hr
  case isFalse => cases hr
  rename_i h
  cases hr
  cases hx with
  | cons h1 t =>
    cases t with
    | cons h2 t =>
      cases t
      cases h2
      obtain ⟨A, c, rfl, ha, hc, hm⟩ := ra_of_vr (S := shInt) (f := pI) (l := [v]) (fun x hx => by rw [List.mem_singleton] at hx; subst hx; exact readsInt ⟨h.1, h.2.1⟩) hF h1
      obtain ⟨N, rfl⟩ := Int.eq_ofNat_of_zero_le (show 0 ≤ n by omega)
      refine ⟨List.replicate N v, rfl, (repeat_int0 mulOk v N A c w ⟨h.1, h.2.1⟩ hc (by unfold maxLen at hm; omega) ha (by omega)).mono fun e w' he => ?_⟩
      rw [List.length_replicate]
      exact he
noncomputable def s_i_agreed : List PV → Option PV
  | [.bool true, .int .u8 a, .int .u8 b] => some (.tup [.bool (agrB a b).1, .bool (agrB a b).2, .int .u8 (agrV a b).1, .int .u8 (agrV a b).2])
  | _ => none
noncomputable def e_i_agreed : Ent := ⟨126, [.bxf 0 0, .bxf 0 0], .ck .none, false, s_i_agreed⟩
theorem ok_i_agreed : FnOk Go.Proofs.Try.prog e_i_agreed := ptrOk Go.Proofs.Try.func126 (by kernel_rfl) (by kernel_rfl) _ (fun x y => by unfold s_i_agreed; split <;> first | rfl | (rename_i h; cases h)) fun w p1 p2 n1 n2 y1 y2 b1 b2 c1 f1 c2 f2 hs => by
  cases hs
  exact agreed_c p1 p2 n1 n2 w c1 f1 c2 f2
end Go.Proofs.Ytnpbdphfjablbaa
