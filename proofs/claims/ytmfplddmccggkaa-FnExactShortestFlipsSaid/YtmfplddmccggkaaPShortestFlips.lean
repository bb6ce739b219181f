/-
  FnExactShortestFlipsSaid: for every argument that can be read, FnExactShortestFlips returns true and leaves its arguments as they were. No condition.
-/
import Derived.Test.YtmfplddmccggkaaOpen
import Derived.Test.YtmfplddmccggkaaLShortestFlips
namespace Go.Proofs.Ytmfplddmccggkaa.saidShortestFlips
open Go.RowKit Go.ChangeShapes Go.WideShapes Go.ChangeAt Go.Proofs.Ytmfplddmccggkaa.Lw
set_option linter.unusedVariables false

theorem own : ownKnob Try.prog.godebug = none := by kernel_rfl
theorem laidOut : laidOutB Try.prog = true := by kernel_rfl
theorem opensPSt : Opens Try.prog shPSt 113 :=
  opens_via (opens_struct Try.underlying113 (by kernel_rfl) (opensFs_cons rfl (by kernel_rfl) (opens_int Try.underlying3) (opensFs_one rfl (by kernel_rfl) (opens_str Try.underlying9)))) _ (fun p => ⟨p.1, p.2⟩) (fun _ => rfl)
theorem opensFlip : Opens Try.prog shFlip 122 :=
  opens_via (opens_struct Try.underlying122 (by kernel_rfl) (opensFs_cons rfl (by kernel_rfl) (opens_int Try.underlying3) (opensFs_cons rfl (by kernel_rfl) (opens_int Try.underlying3) (opensFs_one rfl (by kernel_rfl) (opens_int Try.underlying3))))) _ (fun p => ⟨p.1, p.2.1, p.2.2⟩) (fun _ => rfl)
theorem opensProdG : Opens Try.prog shProdG 25 :=
  opens_via (opens_struct Try.underlying25 (by kernel_rfl) (opensFs_cons rfl (by kernel_rfl) (opens_slice Try.underlying22 (by kernel_rfl) (by decide) opensPSt) (opensFs_cons rfl (by kernel_rfl) (opens_slice Try.underlying23 (by kernel_rfl) (by decide) opensFlip) (opensFs_one rfl (by kernel_rfl) (opens_slice Try.underlying23 (by kernel_rfl) (by decide) opensFlip))))) _ (fun p => ⟨p.1, p.2.1, p.2.2⟩) (fun _ => rfl)

set_option maxRecDepth 100000 in
theorem lifted (os : Os) (started : os.Started) (H : Type) (enc : TypeId × Value → H) :
    ReturnsInHanded {} Try.checked os 3 .any (Rows.fnExactShortestFlipsSpec.pre6 enc Try.prog Try.f3 Rows.fnExactShortestFlipsRow.domain false) (Rows.fnExactShortestFlipsSpec.post enc Try.prog Try.f3 false true false false) := by
  refine returnsInHanded_of_change (C := Try.checked) own started (by kernel_rfl) Try.func3
    (ChangeSpec.witness6 (enc := enc) (C := Try.checked) false ⟨#[], #[.agg #[.slice none 0 0, .slice none 0 0, .slice none 0 0], .int .i64 0], []⟩ 8 (by kernel_rfl) (by kernel_rfl) (by kernel_rfl) (by kernel_rfl)) ?_
  intro W base args ds gs before hval0 hW hcnd _
  have hval : ∀ (j : Nat) t v, Try.f3.params[j]? = some t → args[j]? = some v → Value.okWide Try.prog W .any base t v := hval0
  have hW' := hW
  obtain ⟨p, q, hA0, hV, rfl, hfz, hnd⟩ := hW
  have hA : DataW.TrodAll enc Try.prog W 0 (fun _ => true) true Try.f3.params.toList args.toList ds p := hA0
  have hA1 := hA
  rw [Try.params3] at hA hval
  obtain ⟨v0, vs0, d0, ds0, p0, q0, hargs, rfl, rfl, h0, r0⟩ := trodAll_cons hA
  obtain ⟨v1, vs1, d1, ds1, p1, q1, rfl, rfl, rfl, h1, r1⟩ := trodAll_cons r0
  obtain ⟨rfl, rfl, rfl⟩ := trodAll_nil r1
  obtain rfl : args = #[v0, v1] := by cases args; simp_all
  obtain ⟨rfl, rfl⟩ := trodVars_none hV
  simp only [List.append_nil] at hW' hA1
  obtain ⟨cs0, p, rfl, hr0⟩ := arg_struct Try.underlying25 opensProdG (hval 0 25 v0 rfl rfl) h0
  obtain ⟨A_p_states, c_p_states, A_p_flips, c_p_flips, A_p_extra, c_p_extra, rfl, f0_0, f0_1, f0_2, f0_3, f0_4, f0_5, f0_6, f0_7, f0_8⟩ := shProdG_rep hr0
  obtain ⟨k, rfl, i1⟩ := arg_int Try.underlying3 (hval 1 3 v1 rfl rfl) h1
  refine (law_ShortestFlips p k A_p_states c_p_states A_p_flips c_p_flips A_p_extra c_p_extra W f0_0 f0_1 f0_2 f0_3 f0_4 f0_5 f0_6 f0_7 f0_8 i1).mono fun e W' ⟨he, hb⟩ => ?_
  subst he
  exact ⟨_, rfl, law_post laidOut rfl (by kernel_rfl) rfl Try.underlying4 hW' hA1 rfl hb⟩

theorem proved : Rows.FnExactShortestFlipsSaid :=
  OpenClaim.holds_of_wide 3 Try.f3 rfl rfl rfl rfl rfl rfl rfl ⟨rfl, rfl, rfl, rfl, rfl⟩ rfl rfl rfl rfl rfl (by kernel_rfl) Try.func3 (by kernel_rfl)
    (of_decide_eq_true (by kernel_rfl)) (by unfold Func.isWrapper; first | (rw [if_pos (by decide +kernel)]; kernel_rfl) | (rw [if_neg (by decide +kernel)]; exact ⟨rfl, rfl⟩))
    (fun os started H enc _ => lifted os started H enc)
end Go.Proofs.Ytmfplddmccggkaa.saidShortestFlips
