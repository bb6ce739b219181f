/-
  FnExactReachableMarkingsSaid: for every argument that can be read, FnExactReachableMarkings returns true and leaves its arguments as they were. No condition.
-/
import Derived.Test.YtpldcngejdgdkaaOpen
import Derived.Test.YtpldcngejdgdkaaLReachableMarkings
namespace Go.Proofs.Ytpldcngejdgdkaa.saidReachableMarkings
open Go.RowKit Go.ChangeShapes Go.WideShapes Go.ChangeAt Go.Proofs.Ytpldcngejdgdkaa.Lw
set_option linter.unusedVariables false

theorem own : ownKnob Try.prog.godebug = none := by kernel_rfl
theorem laidOut : laidOutB Try.prog = true := by kernel_rfl
theorem opensTr : Opens Try.prog shTr 112 :=
  opens_via (opens_struct Try.underlying112 (by kernel_rfl) (opensFs_cons rfl (by kernel_rfl) (opens_slice Try.underlying30 (by kernel_rfl) (by decide) (opens_int Try.underlying3)) (opensFs_one rfl (by kernel_rfl) (opens_slice Try.underlying30 (by kernel_rfl) (by decide) (opens_int Try.underlying3))))) _ (fun p => ⟨p.1, p.2⟩) (fun _ => rfl)
theorem opensNet : Opens Try.prog shNet 24 :=
  opens_via (opens_struct Try.underlying24 (by kernel_rfl) (opensFs_cons rfl (by kernel_rfl) (opens_int Try.underlying3) (opensFs_one rfl (by kernel_rfl) (opens_slice Try.underlying22 (by kernel_rfl) (by decide) opensTr)))) _ (fun p => ⟨p.1, p.2⟩) (fun _ => rfl)

set_option maxRecDepth 100000 in
theorem lifted (os : Os) (started : os.Started) (H : Type) (enc : TypeId × Value → H) :
    ReturnsInHanded {} Try.checked os 4 .any (Rows.fnExactReachableMarkingsSpec.pre6 enc Try.prog Try.f4 Rows.fnExactReachableMarkingsRow.domain false) (Rows.fnExactReachableMarkingsSpec.post enc Try.prog Try.f4 false true false false) := by
  refine returnsInHanded_of_change (C := Try.checked) own started (by kernel_rfl) Try.func4
    (ChangeSpec.witness6 (enc := enc) (C := Try.checked) false ⟨#[], #[.agg #[.int .i64 0, .slice none 0 0], .string ⟨#[]⟩], []⟩ 8 (by kernel_rfl) (by kernel_rfl) (by kernel_rfl) (by kernel_rfl)) ?_
  intro W base args ds gs before hval0 hW hcnd _
  have hval : ∀ (j : Nat) t v, Try.f4.params[j]? = some t → args[j]? = some v → Value.okWide Try.prog W .any base t v := hval0
  have hW' := hW
  obtain ⟨p, q, hA0, hV, rfl, hfz, hnd⟩ := hW
  have hA : DataW.TrodAll enc Try.prog W 0 (fun _ => true) true Try.f4.params.toList args.toList ds p := hA0
  have hA1 := hA
  rw [Try.params4] at hA hval
  obtain ⟨v0, vs0, d0, ds0, p0, q0, hargs, rfl, rfl, h0, r0⟩ := trodAll_cons hA
  obtain ⟨v1, vs1, d1, ds1, p1, q1, rfl, rfl, rfl, h1, r1⟩ := trodAll_cons r0
  obtain ⟨rfl, rfl, rfl⟩ := trodAll_nil r1
  obtain rfl : args = #[v0, v1] := by cases args; simp_all
  obtain ⟨rfl, rfl⟩ := trodVars_none hV
  simp only [List.append_nil] at hW' hA1
  obtain ⟨cs0, n, rfl, hr0⟩ := arg_struct Try.underlying24 opensNet (hval 0 24 v0 rfl rfl) h0
  obtain ⟨A_n_trans, c_n_trans, rfl, f0_0, f0_1, f0_2, f0_3⟩ := shNet_rep hr0
  obtain ⟨m, rfl, i1⟩ := arg_str Try.underlying9 (hval 1 9 v1 rfl rfl) h1
  refine (law_ReachableMarkings n m A_n_trans c_n_trans W f0_0 f0_1 f0_2 f0_3 i1).mono fun e W' ⟨he, hb⟩ => ?_
  subst he
  exact ⟨_, rfl, law_post laidOut rfl (by kernel_rfl) rfl Try.underlying4 hW' hA1 rfl hb⟩

theorem proved : Rows.FnExactReachableMarkingsSaid :=
  OpenClaim.holds_of_wide 4 Try.f4 rfl rfl rfl rfl rfl rfl rfl ⟨rfl, rfl, rfl, rfl, rfl⟩ rfl rfl rfl rfl rfl (by kernel_rfl) Try.func4 (by kernel_rfl)
    (of_decide_eq_true (by kernel_rfl)) (by unfold Func.isWrapper; first | (rw [if_pos (by decide +kernel)]; kernel_rfl) | (rw [if_neg (by decide +kernel)]; exact ⟨rfl, rfl⟩))
    (fun os started H enc _ => lifted os started H enc)
end Go.Proofs.Ytpldcngejdgdkaa.saidReachableMarkings
