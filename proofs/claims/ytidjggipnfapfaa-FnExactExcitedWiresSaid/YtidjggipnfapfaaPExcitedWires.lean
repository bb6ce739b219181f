/-
  FnExactExcitedWiresSaid: for every argument that can be read, FnExactExcitedWires returns true and leaves its arguments as they were. No condition.
-/
import Derived.Test.YtidjggipnfapfaaOpen
import Derived.Test.YtidjggipnfapfaaLExcitedWires
namespace Go.Proofs.Ytidjggipnfapfaa.saidExcitedWires
open Go.RowKit Go.ChangeShapes Go.WideShapes Go.ChangeAt Go.Proofs.Ytidjggipnfapfaa.Lw
set_option linter.unusedVariables false

theorem own : ownKnob Try.prog.godebug = none := by kernel_rfl
theorem laidOut : laidOutB Try.prog = true := by kernel_rfl
theorem opensSig : Opens Try.prog shSig 132 :=
  opens_via (opens_struct Try.underlying132 (by kernel_rfl) (opensFs_cons rfl (by kernel_rfl) (opens_str Try.underlying9) (opensFs_one rfl (by kernel_rfl) (opens_int Try.underlying3)))) _ (fun p => ⟨p.1, p.2⟩) (fun _ => rfl)
theorem opensPin : Opens Try.prog shPin 222 :=
  opens_via (opens_struct Try.underlying222 (by kernel_rfl) (opensFs_cons rfl (by kernel_rfl) (opens_int Try.underlying3) (opensFs_one rfl (by kernel_rfl) (opens_bool Try.underlying4)))) _ (fun p => ⟨p.1, p.2⟩) (fun _ => rfl)
theorem opensWire : Opens Try.prog shWire 136 :=
  opens_via (opens_struct Try.underlying136 (by kernel_rfl) (opensFs_cons rfl (by kernel_rfl) (opens_str Try.underlying9) (opensFs_cons rfl (by kernel_rfl) (opens_int Try.underlying3) (opensFs_cons rfl (by kernel_rfl) (opens_slice Try.underlying134 (by kernel_rfl) (by decide) opensPin) (opensFs_one rfl (by kernel_rfl) (opens_slice Try.underlying67 (by kernel_rfl) (by decide) (opens_str Try.underlying9))))))) _ (fun p => ⟨p.1, p.2.1, p.2.2.1, p.2.2.2⟩) (fun _ => rfl)
theorem opensNl : Opens Try.prog shNl 25 :=
  opens_via (opens_struct Try.underlying25 (by kernel_rfl) (opensFs_cons rfl (by kernel_rfl) (opens_slice Try.underlying22 (by kernel_rfl) (by decide) opensSig) (opensFs_one rfl (by kernel_rfl) (opens_slice Try.underlying23 (by kernel_rfl) (by decide) opensWire)))) _ (fun p => ⟨p.1, p.2⟩) (fun _ => rfl)

set_option maxRecDepth 100000 in
theorem lifted (os : Os) (started : os.Started) (H : Type) (enc : TypeId × Value → H) :
    ReturnsInHanded {} Try.checked os 9 .any (Rows.fnExactExcitedWiresSpec.pre6 enc Try.prog Try.f9 Rows.fnExactExcitedWiresRow.domain false) (Rows.fnExactExcitedWiresSpec.post enc Try.prog Try.f9 false true false false) := by
  refine returnsInHanded_of_change (C := Try.checked) own started (by kernel_rfl) Try.func9
    (ChangeSpec.witness6 (enc := enc) (C := Try.checked) false ⟨#[], #[.agg #[.slice none 0 0, .slice none 0 0], .string ⟨#[]⟩], []⟩ 8 (by kernel_rfl) (by kernel_rfl) (by kernel_rfl) (by kernel_rfl)) ?_
  intro W base args ds gs before hval0 hW hcnd _
  have hval : ∀ (j : Nat) t v, Try.f9.params[j]? = some t → args[j]? = some v → Value.okWide Try.prog W .any base t v := hval0
  have hW' := hW
  obtain ⟨p, q, hA0, hV, rfl, hfz, hnd⟩ := hW
  have hA : DataW.TrodAll enc Try.prog W 0 (fun _ => true) true Try.f9.params.toList args.toList ds p := hA0
  have hA1 := hA
  rw [Try.params9] at hA hval
  obtain ⟨v0, vs0, d0, ds0, p0, q0, hargs, rfl, rfl, h0, r0⟩ := trodAll_cons hA
  obtain ⟨v1, vs1, d1, ds1, p1, q1, rfl, rfl, rfl, h1, r1⟩ := trodAll_cons r0
  obtain ⟨rfl, rfl, rfl⟩ := trodAll_nil r1
  obtain rfl : args = #[v0, v1] := by cases args; simp_all
  obtain ⟨rfl, rfl⟩ := trodVars_none hV
  simp only [List.append_nil] at hW' hA1
  obtain ⟨cs0, n, rfl, hr0⟩ := arg_struct Try.underlying25 opensNl (hval 0 25 v0 rfl rfl) h0
  obtain ⟨A_n_signals, c_n_signals, A_n_wires, c_n_wires, rfl, f0_0, f0_1, f0_2, f0_3, f0_4, f0_5⟩ := shNl_rep hr0
  obtain ⟨s, rfl, i1⟩ := arg_str Try.underlying9 (hval 1 9 v1 rfl rfl) h1
  refine (law_ExcitedWires n s A_n_signals c_n_signals A_n_wires c_n_wires W f0_0 f0_1 f0_2 f0_3 f0_4 f0_5 i1).mono fun e W' ⟨he, hb⟩ => ?_
  subst he
  exact ⟨_, rfl, law_post laidOut rfl (by kernel_rfl) rfl Try.underlying4 hW' hA1 rfl hb⟩

theorem proved : Rows.FnExactExcitedWiresSaid :=
  OpenClaim.holds_of_wide 9 Try.f9 rfl rfl rfl rfl rfl rfl rfl ⟨rfl, rfl, rfl, rfl, rfl⟩ rfl rfl rfl rfl rfl (by kernel_rfl) Try.func9 (by kernel_rfl)
    (of_decide_eq_true (by kernel_rfl)) (by unfold Func.isWrapper; first | (rw [if_pos (by decide +kernel)]; kernel_rfl) | (rw [if_neg (by decide +kernel)]; exact ⟨rfl, rfl⟩))
    (fun os started H enc _ => lifted os started H enc)
end Go.Proofs.Ytidjggipnfapfaa.saidExcitedWires
