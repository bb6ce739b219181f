/-
  FnExactEarliestRunSaid: for every argument that can be read, FnExactEarliestRun returns true and leaves its arguments as they were. No condition.
-/
import Derived.Test.YtnpbdphfjablbaaGreatOpen
import Derived.Test.YtnpbdphfjablbaaGreatLEarliestRun
namespace Go.Proofs.YtnpbdphfjablbaaGreat.saidEarliestRun
open Go.RowKit Go.ChangeShapes Go.WideShapes Go.ChangeAt Go.Proofs.YtnpbdphfjablbaaGreat.Lw
set_option linter.unusedVariables false

theorem own : ownKnob Tryz.prog.godebug = none := by kernel_rfl
theorem laidOut : laidOutB Tryz.prog = true := by kernel_rfl
theorem opensTr : Opens Tryz.prog shTr 127 :=
  opens_via (opens_struct Tryz.underlying127 (by kernel_rfl) (opensFs_cons rfl (by kernel_rfl) (opens_slice Tryz.underlying52 (by kernel_rfl) (by decide) (opens_int Tryz.underlying3)) (opensFs_one rfl (by kernel_rfl) (opens_slice Tryz.underlying52 (by kernel_rfl) (by decide) (opens_int Tryz.underlying3))))) _ (fun p => ⟨p.1, p.2⟩) (fun _ => rfl)
theorem opensNet : Opens Tryz.prog shNet 24 :=
  opens_via (opens_struct Tryz.underlying24 (by kernel_rfl) (opensFs_cons rfl (by kernel_rfl) (opens_int Tryz.underlying3) (opensFs_one rfl (by kernel_rfl) (opens_slice Tryz.underlying22 (by kernel_rfl) (by decide) opensTr)))) _ (fun p => ⟨p.1, p.2⟩) (fun _ => rfl)
theorem opensSig : Opens Tryz.prog shSig 97 :=
  opens_via (opens_struct Tryz.underlying97 (by kernel_rfl) (opensFs_cons rfl (by kernel_rfl) (opens_str Tryz.underlying9) (opensFs_one rfl (by kernel_rfl) (opens_int Tryz.underlying3)))) _ (fun p => ⟨p.1, p.2⟩) (fun _ => rfl)
theorem opensLab : Opens Tryz.prog shLab 111 :=
  opens_via (opens_struct Tryz.underlying111 (by kernel_rfl) (opensFs_cons rfl (by kernel_rfl) (opens_int Tryz.underlying3) (opensFs_one rfl (by kernel_rfl) (opens_bool Tryz.underlying4)))) _ (fun p => ⟨p.1, p.2⟩) (fun _ => rfl)
theorem opensSTG : Opens Tryz.prog shSTG 28 :=
  opens_via (opens_struct Tryz.underlying28 (by kernel_rfl) (opensFs_cons rfl (by kernel_rfl) opensNet (opensFs_cons rfl (by kernel_rfl) (opens_slice Tryz.underlying25 (by kernel_rfl) (by decide) opensSig) (opensFs_cons rfl (by kernel_rfl) (opens_slice Tryz.underlying26 (by kernel_rfl) (by decide) opensLab) (opensFs_one rfl (by kernel_rfl) (opens_str Tryz.underlying9)))))) _ (fun p => ⟨p.1, p.2.1, p.2.2.1, p.2.2.2⟩) (fun _ => rfl)
theorem opensDl : Opens Tryz.prog shDl 72 :=
  opens_via (opens_struct Tryz.underlying72 (by kernel_rfl) (opensFs_cons rfl (by kernel_rfl) (opens_int Tryz.underlying3) (opensFs_one rfl (by kernel_rfl) (opens_int Tryz.underlying3)))) _ (fun p => ⟨p.1, p.2⟩) (fun _ => rfl)

set_option maxRecDepth 100000 in
theorem lifted (os : Os) (started : os.Started) (H : Type) (enc : TypeId × Value → H) :
    ReturnsInHanded {} Tryz.checked os 3 .any (Rows.fnExactEarliestRunSpec.pre6 enc Tryz.prog Tryz.f3 Rows.fnExactEarliestRunRow.domain false) (Rows.fnExactEarliestRunSpec.post enc Tryz.prog Tryz.f3 false true false false) := by
  refine returnsInHanded_of_change (C := Tryz.checked) own started (by kernel_rfl) Tryz.func3
    (ChangeSpec.witness6 (enc := enc) (C := Tryz.checked) false ⟨#[], #[.agg #[.int .i64 0, .slice none 0 0, .slice none 0 0, .slice none 0 0, .string ⟨#[]⟩], .slice none 0 0, .int .i64 0], []⟩ 8 (by kernel_rfl) (by kernel_rfl) (by kernel_rfl) (by kernel_rfl)) ?_
  intro W base args ds gs before hval0 hW hcnd _
  have hval : ∀ (j : Nat) t v, Tryz.f3.params[j]? = some t → args[j]? = some v → Value.okWide Tryz.prog W .any base t v := hval0
  have hW' := hW
  obtain ⟨p, q, hA0, hV, rfl, hfz, hnd⟩ := hW
  have hA : DataW.TrodAll enc Tryz.prog W 0 (fun _ => true) true Tryz.f3.params.toList args.toList ds p := hA0
  have hA1 := hA
  rw [Tryz.params3] at hA hval
  obtain ⟨v0, vs0, d0, ds0, p0, q0, hargs, rfl, rfl, h0, r0⟩ := trodAll_cons hA
  obtain ⟨v1, vs1, d1, ds1, p1, q1, rfl, rfl, rfl, h1, r1⟩ := trodAll_cons r0
  obtain ⟨v2, vs2, d2, ds2, p2, q2, rfl, rfl, rfl, h2, r2⟩ := trodAll_cons r1
  obtain ⟨rfl, rfl, rfl⟩ := trodAll_nil r2
  obtain rfl : args = #[v0, v1, v2] := by cases args; simp_all
  obtain ⟨rfl, rfl⟩ := trodVars_none hV
  simp only [List.append_nil] at hW' hA1
  obtain ⟨cs0, s, rfl, hr0⟩ := arg_struct Tryz.underlying28 opensSTG (hval 0 28 v0 rfl rfl) h0
  obtain ⟨A_s_net_trans, c_s_net_trans, A_s_signals, c_s_signals, A_s_labels, c_s_labels, rfl, f0_0, f0_1, f0_2, f0_3, f0_4, f0_5, f0_6, f0_7, f0_8, f0_9, f0_10⟩ := shSTG_rep hr0
  obtain ⟨A1, c1, l, rfl, i1, j1, k1⟩ := arg_slice Tryz.underlying29 (opens_slice Tryz.underlying29 (by kernel_rfl) (by decide) opensDl) (hval 1 29 v1 rfl rfl) h1
  obtain ⟨n, rfl, i2⟩ := arg_int Tryz.underlying3 (hval 2 3 v2 rfl rfl) h2
  refine (law_EarliestRun s l n A_s_net_trans c_s_net_trans A_s_signals c_s_signals A_s_labels c_s_labels A1 c1 W f0_0 f0_1 f0_2 f0_3 f0_4 f0_5 f0_6 f0_7 f0_8 f0_9 f0_10 i1 j1 k1 i2).mono fun e W' ⟨he, hb⟩ => ?_
  subst he
  exact ⟨_, rfl, law_post laidOut rfl (by kernel_rfl) rfl Tryz.underlying4 hW' hA1 rfl hb⟩

set_option maxHeartbeats 4000000 in
set_option maxRecDepth 100000 in
theorem joined : joinedFacts Tryz.pinned.checked.prog 3 Tryz.f3 Rows.fnExactEarliestRunSpec Rows.fnExactEarliestRunRow = true := by
  unfold joinedFacts
  repeat' (first | with_reducible (refine Bool.and_eq_true_iff.mpr ⟨?_, ?_⟩) | decide +kernel)

theorem proved : Rows.FnExactEarliestRunSaid :=
  OpenClaim.holds_of_wide 3 Tryz.f3 rfl rfl rfl rfl rfl rfl rfl ⟨rfl, rfl, rfl, rfl, rfl⟩ rfl rfl rfl rfl rfl (by kernel_rfl) Tryz.func3 joined
    (of_decide_eq_true (by kernel_rfl)) (by unfold Func.isWrapper; first | (rw [if_pos (by decide +kernel)]; kernel_rfl) | (rw [if_neg (by decide +kernel)]; exact ⟨rfl, rfl⟩))
    (fun os started H enc _ => lifted os started H enc)
end Go.Proofs.YtnpbdphfjablbaaGreat.saidEarliestRun
