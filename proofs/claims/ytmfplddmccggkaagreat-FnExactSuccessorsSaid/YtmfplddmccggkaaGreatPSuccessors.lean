import Derived.Test.YtmfplddmccggkaaGreatOpen
import Derived.Test.YtmfplddmccggkaaGreatLSuccessors
namespace Go.Proofs.YtmfplddmccggkaaGreat.saidSuccessors
open Go.RowKit Go.ChangeShapes Go.WideShapes Go.ChangeAt Go.Proofs.YtmfplddmccggkaaGreat.Lw
set_option linter.unusedVariables false
theorem own : ownKnob Tryz.prog.godebug = none := by kernel_rfl
theorem laidOut : laidOutB Tryz.prog = true := by kernel_rfl
theorem opensSig : Opens Tryz.prog Z2 141 :=
 Zc1 (Zbk Tryz.underlying141 (by kernel_rfl) (Zai rfl (by kernel_rfl) (ZeD Tryz.underlying9) (ZbV rfl (by kernel_rfl) (Zc0 Tryz.underlying3)))) _ (fun p => ⟨p.1, p.2⟩) (fun _ => rfl)
theorem opensAc : Opens Tryz.prog Zcv 155 :=
 Zc1 (Zbk Tryz.underlying155 (by kernel_rfl) (Zai rfl (by kernel_rfl) (Zc0 Tryz.underlying3) (Zai rfl (by kernel_rfl) (Zc0 Tryz.underlying3) (Zai rfl (by kernel_rfl) (ZjX Tryz.underlying4) (ZbV rfl (by kernel_rfl) (Zc0 Tryz.underlying3)))))) _ (fun p => ⟨p.1, p.2.1, p.2.2.1, p.2.2.2⟩) (fun _ => rfl)
theorem opensSGr : Opens Tryz.prog Zod 26 :=
 Zc1 (Zbk Tryz.underlying26 (by kernel_rfl) (Zai rfl (by kernel_rfl) (ZbU Tryz.underlying22 (by kernel_rfl) (by decide) opensSig) (Zai rfl (by kernel_rfl) (ZbU Tryz.underlying23 (by kernel_rfl) (by decide) (ZeD Tryz.underlying9)) (ZbV rfl (by kernel_rfl) (ZbU Tryz.underlying24 (by kernel_rfl) (by decide) opensAc))))) _ (fun p => ⟨p.1, p.2.1, p.2.2⟩) (fun _ => rfl)
theorem opensPin : Opens Tryz.prog ZbN 213 :=
 Zc1 (Zbk Tryz.underlying213 (by kernel_rfl) (Zai rfl (by kernel_rfl) (Zc0 Tryz.underlying3) (ZbV rfl (by kernel_rfl) (ZjX Tryz.underlying4)))) _ (fun p => ⟨p.1, p.2⟩) (fun _ => rfl)
theorem opensWire : Opens Tryz.prog Zah 145 :=
 Zc1 (Zbk Tryz.underlying145 (by kernel_rfl) (Zai rfl (by kernel_rfl) (ZeD Tryz.underlying9) (Zai rfl (by kernel_rfl) (Zc0 Tryz.underlying3) (Zai rfl (by kernel_rfl) (ZbU Tryz.underlying143 (by kernel_rfl) (by decide) opensPin) (ZbV rfl (by kernel_rfl) (ZbU Tryz.underlying23 (by kernel_rfl) (by decide) (ZeD Tryz.underlying9))))))) _ (fun p => ⟨p.1, p.2.1, p.2.2.1, p.2.2.2⟩) (fun _ => rfl)
theorem opensNl : Opens Tryz.prog shNl 29 :=
 Zc1 (Zbk Tryz.underlying29 (by kernel_rfl) (Zai rfl (by kernel_rfl) (ZbU Tryz.underlying22 (by kernel_rfl) (by decide) opensSig) (ZbV rfl (by kernel_rfl) (ZbU Tryz.underlying27 (by kernel_rfl) (by decide) opensWire)))) _ (fun p => ⟨p.1, p.2⟩) (fun _ => rfl)
theorem opensPSt : Opens Tryz.prog Zcc 49 :=
 Zc1 (Zbk Tryz.underlying49 (by kernel_rfl) (Zai rfl (by kernel_rfl) (Zc0 Tryz.underlying3) (ZbV rfl (by kernel_rfl) (ZeD Tryz.underlying9)))) _ (fun p => ⟨p.1, p.2⟩) (fun _ => rfl)
set_option maxRecDepth 100000 in
theorem lifted (os : Os) (started : os.Started) (H : Type) (enc : TypeId × Value → H) :
 ReturnsInHanded {} Tryz.checked os 5 .any (Rows.fnExactSuccessorsSpec.pre6 enc Tryz.prog Tryz.f5 Rows.fnExactSuccessorsRow.domain false) (Rows.fnExactSuccessorsSpec.post enc Tryz.prog Tryz.f5 false true false false) := by
 refine returnsInHanded_of_change (C := Tryz.checked) own started (by kernel_rfl) Tryz.func5
  (ChangeSpec.witness6 (enc := enc) (C := Tryz.checked) false ⟨#[], #[.agg #[.slice none 0 0, .slice none 0 0, .slice none 0 0], .agg #[.slice none 0 0, .slice none 0 0], .agg #[.int .i64 0, .string ⟨#[]⟩]], []⟩ 8 (by kernel_rfl) (by kernel_rfl) (by kernel_rfl) (by kernel_rfl)) ?_
 intro W base args ds gs before hval0 hW hcnd _
 have hval : ∀ (j : Nat) t v, Tryz.f5.params[j]? = some t → args[j]? = some v → Value.okWide Tryz.prog W .any base t v := hval0
 have hW' := hW
 obtain ⟨p, q, hA0, hV, rfl, hfz, hnd⟩ := hW
 have hA : DataW.TrodAll enc Tryz.prog W 0 (fun _ => true) true Tryz.f5.params.toList args.toList ds p := hA0
 have hA1 := hA
 rw [Tryz.params5] at hA hval
 obtain ⟨v0, vs0, d0, ds0, p0, q0, hargs, rfl, rfl, h0, r0⟩ := trodAll_cons hA
 obtain ⟨v1, vs1, d1, ds1, p1, q1, rfl, rfl, rfl, h1, r1⟩ := trodAll_cons r0
 obtain ⟨v2, vs2, d2, ds2, p2, q2, rfl, rfl, rfl, h2, r2⟩ := trodAll_cons r1
 obtain ⟨rfl, rfl, rfl⟩ := trodAll_nil r2
 obtain rfl : args = #[v0, v1, v2] := by cases args; simp_all
 obtain ⟨rfl, rfl⟩ := trodVars_none hV
 simp only [List.append_nil] at hW' hA1
 obtain ⟨cs0, c, rfl, hr0⟩ := Zg8 Tryz.underlying26 opensSGr (hval 0 26 v0 rfl rfl) h0
 obtain ⟨A_c_signals, c_c_signals, A_c_codes, c_c_codes, A_c_arcs, c_c_arcs, rfl, f0_0, f0_1, f0_2, f0_3, f0_4, f0_5, f0_6, f0_7, f0_8⟩ := ZrA hr0
 obtain ⟨cs1, n, rfl, hr1⟩ := Zg8 Tryz.underlying29 opensNl (hval 1 29 v1 rfl rfl) h1
 obtain ⟨A_n_signals, c_n_signals, A_n_wires, c_n_wires, rfl, f1_0, f1_1, f1_2, f1_3, f1_4, f1_5⟩ := ZsW hr1
 obtain ⟨cs2, b, rfl, hr2⟩ := Zg8 Tryz.underlying49 opensPSt (hval 2 49 v2 rfl rfl) h2
 obtain ⟨rfl, f2_0, f2_1⟩ := Zl6 hr2
 refine (law_Successors c n b A_c_signals c_c_signals A_c_codes c_c_codes A_c_arcs c_c_arcs A_n_signals c_n_signals A_n_wires c_n_wires W f0_0 f0_1 f0_2 f0_3 f0_4 f0_5 f0_6 f0_7 f0_8 f1_0 f1_1 f1_2 f1_3 f1_4 f1_5 f2_0 f2_1).mono fun e W' ⟨he, hb⟩ => ?_
 subst he
 exact ⟨_, rfl, ZrS laidOut rfl (by kernel_rfl) rfl Tryz.underlying4 hW' hA1 rfl hb⟩
set_option maxHeartbeats 4000000 in
set_option maxRecDepth 100000 in
theorem joined : joinedFacts Tryz.pinned.checked.prog 5 Tryz.f5 Rows.fnExactSuccessorsSpec Rows.fnExactSuccessorsRow = true := by
 unfold joinedFacts
 repeat' (first | with_reducible (refine Bool.and_eq_true_iff.mpr ⟨?_, ?_⟩) | decide +kernel)
theorem proved : Rows.FnExactSuccessorsSaid :=
 OpenClaim.holds_of_wide 5 Tryz.f5 rfl rfl rfl rfl rfl rfl rfl ⟨rfl, rfl, rfl, rfl, rfl⟩ rfl rfl rfl rfl rfl (by kernel_rfl) Tryz.func5 joined
  (of_decide_eq_true (by kernel_rfl)) (by unfold Func.isWrapper; first | (rw [if_pos (by decide +kernel)]; kernel_rfl) | (rw [if_neg (by decide +kernel)]; exact ⟨rfl, rfl⟩))
  (fun os started H enc _ => lifted os started H enc)
end Go.Proofs.YtmfplddmccggkaaGreat.saidSuccessors
