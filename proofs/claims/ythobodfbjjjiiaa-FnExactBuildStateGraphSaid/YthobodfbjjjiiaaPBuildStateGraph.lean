import Derived.Test.YthobodfbjjjiiaaOpen
import Derived.Test.YthobodfbjjjiiaaLBuildStateGraph
namespace Go.Proofs.Ythobodfbjjjiiaa.saidBuildStateGraph
open Go.RowKit Go.ChangeShapes Go.WideShapes Go.ChangeAt Go.Proofs.Ythobodfbjjjiiaa.Lw
set_option linter.unusedVariables false
theorem own : ownKnob Try.prog.godebug = none := by kernel_rfl
theorem laidOut : laidOutB Try.prog = true := by kernel_rfl
theorem opensTr : Opens Try.prog ZrX 114 :=
 Zel (Zb4 Try.underlying114 (by kernel_rfl) (ZaO rfl (by kernel_rfl) (ZcH Try.underlying65 (by kernel_rfl) (by decide) (Zek Try.underlying3)) (ZcI rfl (by kernel_rfl) (ZcH Try.underlying65 (by kernel_rfl) (by decide) (Zek Try.underlying3))))) _ (fun p => ⟨p.1, p.2⟩) (fun _ => rfl)
theorem opensNet : Opens Try.prog Zuc 24 :=
 Zel (Zb4 Try.underlying24 (by kernel_rfl) (ZaO rfl (by kernel_rfl) (Zek Try.underlying3) (ZcI rfl (by kernel_rfl) (ZcH Try.underlying22 (by kernel_rfl) (by decide) opensTr)))) _ (fun p => ⟨p.1, p.2⟩) (fun _ => rfl)
theorem opensSig : Opens Try.prog Zrj 90 :=
 Zel (Zb4 Try.underlying90 (by kernel_rfl) (ZaO rfl (by kernel_rfl) (Zlw Try.underlying9) (ZcI rfl (by kernel_rfl) (Zek Try.underlying3)))) _ (fun p => ⟨p.1, p.2⟩) (fun _ => rfl)
theorem opensLab : Opens Try.prog ZrG 94 :=
 Zel (Zb4 Try.underlying94 (by kernel_rfl) (ZaO rfl (by kernel_rfl) (Zek Try.underlying3) (ZcI rfl (by kernel_rfl) (ZoN Try.underlying4)))) _ (fun p => ⟨p.1, p.2⟩) (fun _ => rfl)
theorem opensSTG : Opens Try.prog Zt6 28 :=
 Zel (Zb4 Try.underlying28 (by kernel_rfl) (ZaO rfl (by kernel_rfl) opensNet (ZaO rfl (by kernel_rfl) (ZcH Try.underlying25 (by kernel_rfl) (by decide) opensSig) (ZaO rfl (by kernel_rfl) (ZcH Try.underlying26 (by kernel_rfl) (by decide) opensLab) (ZcI rfl (by kernel_rfl) (Zlw Try.underlying9)))))) _ (fun p => ⟨p.1, p.2.1, p.2.2.1, p.2.2.2⟩) (fun _ => rfl)
set_option maxRecDepth 100000 in
theorem lifted (os : Os) (started : os.Started) (H : Type) (enc : TypeId × Value → H) :
 ReturnsInHanded {} Try.checked os 4 .any (Rows.fnExactBuildStateGraphSpec.pre6 enc Try.prog Try.f4 Rows.fnExactBuildStateGraphRow.domain false) (Rows.fnExactBuildStateGraphSpec.post enc Try.prog Try.f4 false true false false) := by
 refine returnsInHanded_of_change (C := Try.checked) own started (by kernel_rfl) Try.func4
  (ChangeSpec.witness6 (enc := enc) (C := Try.checked) false ⟨#[], #[.agg #[.int .i64 0, .slice none 0 0, .slice none 0 0, .slice none 0 0, .string ⟨#[]⟩]], []⟩ 8 (by kernel_rfl) (by kernel_rfl) (by kernel_rfl) (by kernel_rfl)) ?_
 intro W base args ds gs before hval0 hW hcnd _
 have hval : ∀ (j : Nat) t v, Try.f4.params[j]? = some t → args[j]? = some v → Value.okWide Try.prog W .any base t v := hval0
 have hW' := hW
 obtain ⟨p, q, hA0, hV, rfl, hfz, hnd⟩ := hW
 have hA : DataW.TrodAll enc Try.prog W 0 (fun _ => true) true Try.f4.params.toList args.toList ds p := hA0
 have hA1 := hA
 rw [Try.params4] at hA hval
 obtain ⟨v0, vs0, d0, ds0, p0, q0, hargs, rfl, rfl, h0, r0⟩ := trodAll_cons hA
 obtain ⟨rfl, rfl, rfl⟩ := trodAll_nil r0
 obtain rfl : args = #[v0] := by cases args; simp_all
 obtain ⟨rfl, rfl⟩ := trodVars_none hV
 simp only [List.append_nil] at hW' hA1
 obtain ⟨cs0, s, rfl, hr0⟩ := ZoO Try.underlying28 opensSTG (hval 0 28 v0 rfl rfl) h0
 obtain ⟨A_s_net_trans, c_s_net_trans, A_s_signals, c_s_signals, A_s_labels, c_s_labels, rfl, f0_0, f0_1, f0_2, f0_3, f0_4, f0_5, f0_6, f0_7, f0_8, f0_9, f0_10⟩ := Zuo hr0
 refine (law_BuildStateGraph s A_s_net_trans c_s_net_trans A_s_signals c_s_signals A_s_labels c_s_labels W f0_0 f0_1 f0_2 f0_3 f0_4 f0_5 f0_6 f0_7 f0_8 f0_9 f0_10).mono fun e W' ⟨he, hb⟩ => ?_
 subst he
 exact ⟨_, rfl, ZrW laidOut rfl (by kernel_rfl) rfl Try.underlying4 hW' hA1 rfl hb⟩
set_option maxHeartbeats 4000000 in
set_option maxRecDepth 100000 in
theorem joined : joinedFacts Try.pinned.checked.prog 4 Try.f4 Rows.fnExactBuildStateGraphSpec Rows.fnExactBuildStateGraphRow = true := by
 unfold joinedFacts
 repeat' (first | with_reducible (refine Bool.and_eq_true_iff.mpr ⟨?_, ?_⟩) | decide +kernel)
theorem proved : Rows.FnExactBuildStateGraphSaid :=
 OpenClaim.holds_of_wide 4 Try.f4 rfl rfl rfl rfl rfl rfl rfl ⟨rfl, rfl, rfl, rfl, rfl⟩ rfl rfl rfl rfl rfl (by kernel_rfl) Try.func4 joined
  (of_decide_eq_true (by kernel_rfl)) (by unfold Func.isWrapper; first | (rw [if_pos (by decide +kernel)]; kernel_rfl) | (rw [if_neg (by decide +kernel)]; exact ⟨rfl, rfl⟩))
  (fun os started H enc _ => lifted os started H enc)
end Go.Proofs.Ythobodfbjjjiiaa.saidBuildStateGraph
