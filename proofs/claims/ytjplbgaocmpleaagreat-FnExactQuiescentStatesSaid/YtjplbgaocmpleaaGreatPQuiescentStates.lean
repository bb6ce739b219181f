/-
  FnExactQuiescentStatesSaid: for every argument that can be read, FnExactQuiescentStates returns true and leaves its arguments as they were. No condition.
-/
import Derived.Test.YtjplbgaocmpleaaGreatOpen
import Derived.Test.YtjplbgaocmpleaaGreatLQuiescentStates
namespace Go.Proofs.YtjplbgaocmpleaaGreat.saidQuiescentStates
open Go.RowKit Go.ChangeShapes Go.WideShapes Go.ChangeAt Go.Proofs.YtjplbgaocmpleaaGreat.Lw
set_option linter.unusedVariables false

theorem own : ownKnob Tryz.prog.godebug = none := by kernel_rfl
theorem laidOut : laidOutB Tryz.prog = true := by kernel_rfl
theorem opensSig : Opens Tryz.prog shSig 130 :=
  opens_via (opens_struct Tryz.underlying130 (by kernel_rfl) (opensFs_cons rfl (by kernel_rfl) (opens_str Tryz.underlying9) (opensFs_one rfl (by kernel_rfl) (opens_int Tryz.underlying3)))) _ (fun p => ⟨p.1, p.2⟩) (fun _ => rfl)
theorem opensPin : Opens Tryz.prog shPin 198 :=
  opens_via (opens_struct Tryz.underlying198 (by kernel_rfl) (opensFs_cons rfl (by kernel_rfl) (opens_int Tryz.underlying3) (opensFs_one rfl (by kernel_rfl) (opens_bool Tryz.underlying4)))) _ (fun p => ⟨p.1, p.2⟩) (fun _ => rfl)
theorem opensWire : Opens Tryz.prog shWire 134 :=
  opens_via (opens_struct Tryz.underlying134 (by kernel_rfl) (opensFs_cons rfl (by kernel_rfl) (opens_str Tryz.underlying9) (opensFs_cons rfl (by kernel_rfl) (opens_int Tryz.underlying3) (opensFs_cons rfl (by kernel_rfl) (opens_slice Tryz.underlying132 (by kernel_rfl) (by decide) opensPin) (opensFs_one rfl (by kernel_rfl) (opens_slice Tryz.underlying52 (by kernel_rfl) (by decide) (opens_str Tryz.underlying9))))))) _ (fun p => ⟨p.1, p.2.1, p.2.2.1, p.2.2.2⟩) (fun _ => rfl)
theorem opensNl : Opens Tryz.prog shNl 25 :=
  opens_via (opens_struct Tryz.underlying25 (by kernel_rfl) (opensFs_cons rfl (by kernel_rfl) (opens_slice Tryz.underlying22 (by kernel_rfl) (by decide) opensSig) (opensFs_one rfl (by kernel_rfl) (opens_slice Tryz.underlying23 (by kernel_rfl) (by decide) opensWire)))) _ (fun p => ⟨p.1, p.2⟩) (fun _ => rfl)
theorem opensPSt : Opens Tryz.prog shPSt 68 :=
  opens_via (opens_struct Tryz.underlying68 (by kernel_rfl) (opensFs_cons rfl (by kernel_rfl) (opens_int Tryz.underlying3) (opensFs_one rfl (by kernel_rfl) (opens_str Tryz.underlying9)))) _ (fun p => ⟨p.1, p.2⟩) (fun _ => rfl)
theorem opensFlip : Opens Tryz.prog shFlip 147 :=
  opens_via (opens_struct Tryz.underlying147 (by kernel_rfl) (opensFs_cons rfl (by kernel_rfl) (opens_int Tryz.underlying3) (opensFs_cons rfl (by kernel_rfl) (opens_int Tryz.underlying3) (opensFs_one rfl (by kernel_rfl) (opens_int Tryz.underlying3))))) _ (fun p => ⟨p.1, p.2.1, p.2.2⟩) (fun _ => rfl)
theorem opensProdG : Opens Tryz.prog shProdG 29 :=
  opens_via (opens_struct Tryz.underlying29 (by kernel_rfl) (opensFs_cons rfl (by kernel_rfl) (opens_slice Tryz.underlying26 (by kernel_rfl) (by decide) opensPSt) (opensFs_cons rfl (by kernel_rfl) (opens_slice Tryz.underlying27 (by kernel_rfl) (by decide) opensFlip) (opensFs_one rfl (by kernel_rfl) (opens_slice Tryz.underlying27 (by kernel_rfl) (by decide) opensFlip))))) _ (fun p => ⟨p.1, p.2.1, p.2.2⟩) (fun _ => rfl)

set_option maxRecDepth 100000 in
theorem lifted (os : Os) (started : os.Started) (H : Type) (enc : TypeId × Value → H) :
    ReturnsInHanded {} Tryz.checked os 3 .any (Rows.fnExactQuiescentStatesSpec.pre6 enc Tryz.prog Tryz.f3 Rows.fnExactQuiescentStatesRow.domain false) (Rows.fnExactQuiescentStatesSpec.post enc Tryz.prog Tryz.f3 false true false false) := by
  refine returnsInHanded_of_change (C := Tryz.checked) own started (by kernel_rfl) Tryz.func3
    (ChangeSpec.witness6 (enc := enc) (C := Tryz.checked) false ⟨#[], #[.agg #[.slice none 0 0, .slice none 0 0], .agg #[.slice none 0 0, .slice none 0 0, .slice none 0 0]], []⟩ 8 (by kernel_rfl) (by kernel_rfl) (by kernel_rfl) (by kernel_rfl)) ?_
  intro W base args ds gs before hval0 hW hcnd _
  have hval : ∀ (j : Nat) t v, Tryz.f3.params[j]? = some t → args[j]? = some v → Value.okWide Tryz.prog W .any base t v := hval0
  have hW' := hW
  obtain ⟨p, q, hA0, hV, rfl, hfz, hnd⟩ := hW
  have hA : DataW.TrodAll enc Tryz.prog W 0 (fun _ => true) true Tryz.f3.params.toList args.toList ds p := hA0
  have hA1 := hA
  rw [Tryz.params3] at hA hval
  obtain ⟨v0, vs0, d0, ds0, p0, q0, hargs, rfl, rfl, h0, r0⟩ := trodAll_cons hA
  obtain ⟨v1, vs1, d1, ds1, p1, q1, rfl, rfl, rfl, h1, r1⟩ := trodAll_cons r0
  obtain ⟨rfl, rfl, rfl⟩ := trodAll_nil r1
  obtain rfl : args = #[v0, v1] := by cases args; simp_all
  obtain ⟨rfl, rfl⟩ := trodVars_none hV
  simp only [List.append_nil] at hW' hA1
  obtain ⟨cs0, n, rfl, hr0⟩ := arg_struct Tryz.underlying25 opensNl (hval 0 25 v0 rfl rfl) h0
  obtain ⟨A_n_signals, c_n_signals, A_n_wires, c_n_wires, rfl, f0_0, f0_1, f0_2, f0_3, f0_4, f0_5⟩ := shNl_rep hr0
  obtain ⟨cs1, p, rfl, hr1⟩ := arg_struct Tryz.underlying29 opensProdG (hval 1 29 v1 rfl rfl) h1
  obtain ⟨A_p_states, c_p_states, A_p_flips, c_p_flips, A_p_extra, c_p_extra, rfl, f1_0, f1_1, f1_2, f1_3, f1_4, f1_5, f1_6, f1_7, f1_8⟩ := shProdG_rep hr1
  refine (law_QuiescentStates n p A_n_signals c_n_signals A_n_wires c_n_wires A_p_states c_p_states A_p_flips c_p_flips A_p_extra c_p_extra W f0_0 f0_1 f0_2 f0_3 f0_4 f0_5 f1_0 f1_1 f1_2 f1_3 f1_4 f1_5 f1_6 f1_7 f1_8).mono fun e W' ⟨he, hb⟩ => ?_
  subst he
  exact ⟨_, rfl, law_post laidOut rfl (by kernel_rfl) rfl Tryz.underlying4 hW' hA1 rfl hb⟩

theorem proved : Rows.FnExactQuiescentStatesSaid :=
  OpenClaim.holds_of_wide 3 Tryz.f3 rfl rfl rfl rfl rfl rfl rfl ⟨rfl, rfl, rfl, rfl, rfl⟩ rfl rfl rfl rfl rfl (by kernel_rfl) Tryz.func3 (by kernel_rfl)
    (of_decide_eq_true (by kernel_rfl)) (by unfold Func.isWrapper; first | (rw [if_pos (by decide +kernel)]; kernel_rfl) | (rw [if_neg (by decide +kernel)]; exact ⟨rfl, rfl⟩))
    (fun os started H enc _ => lifted os started H enc)
end Go.Proofs.YtjplbgaocmpleaaGreat.saidQuiescentStates
