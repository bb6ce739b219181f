/-
  FUNCTIONS: their entries, and what they compute. Printed by a program of this repo (mkfn.py).
-/
import Derived.Test.YtidjggipnfapfaaExcitedWiresF1
namespace Go.Proofs.Ytidjggipnfapfaa
open Go.RowKit
set_option linter.unusedVariables false
set_option maxRecDepth 100000
/-- impl.ExcitedWires -/
noncomputable def G_i_ExcitedWires : List Ent := [e_i_excitedWires, e_i_isValues]
def H_i_ExcitedWires : Hints := []
noncomputable def s_i_ExcitedWires (xs : List PV) : Option PV := scOnly false (fnRun TT G_i_ExcitedWires H_i_ExcitedWires Go.Proofs.Try.f37 [Kd.ck CK.val, Kd.ck CK.val] (Kd.grp Bool.true [CK.own Bool.true 3 1, CK.val]) xs)
noncomputable def e_i_ExcitedWires : Ent := ⟨37, [Kd.ck CK.val, Kd.ck CK.val], Kd.grp Bool.true [CK.own Bool.true 3 1, CK.val], false, s_i_ExcitedWires⟩
theorem ok_i_ExcitedWires : FnOk Go.Proofs.Try.prog e_i_ExcitedWires := fn_okS (sc := false) tt_ok (by intro e he; simp only [G_i_ExcitedWires, List.mem_cons, List.not_mem_nil, or_false] at he; rcases he with rfl | rfl <;> first | exact ok_i_excitedWires | exact ok_i_isValues) mixed Go.Proofs.Try.func37 (by kernel_rfl) (by kernel_rfl) _ _ rfl
theorem sh_i_ExcitedWires : (fun (x0 x1 : PV) => s_i_ExcitedWires [x0, x1]) = (fun (x0 x1 : PV) => scOnly false ((Option.map (fun x ↦ PV.agg x) (cellsW 2 x0)).bind fun x ↦ (partV Bool.true 0 2 (boxV (SV.mk (Kd.box 32 [CK.val, CK.val]) (Kd.ck CK.none) (Option.some 2)) (DV.mk x PV.undef))).bind fun x_1 ↦ (s_i_isValues [x_1, x1]).bind fun x_2 ↦ (unV Go.UnOp.not x_2).bind fun x_3 ↦ (asB x_3).bind fun x_4 ↦ if x_4 = Bool.true then Option.some (PV.tup [PV.lst [], PV.bool Bool.false]) else (partV Bool.true 0 2 (boxV (SV.mk (Kd.box 32 [CK.val, CK.val]) (Kd.ck CK.none) (Option.some 2)) (DV.mk x PV.undef))).bind fun x ↦ Option.map (fun x ↦ PV.tup [x, PV.bool Bool.true]) (s_i_excitedWires [x, x1]))) := by kernel_rfl
end Go.Proofs.Ytidjggipnfapfaa
