import Derived.Test.YtkgnjijonikchaaGreatOpen
import Derived.Test.YtkgnjijonikchaaGreatLSimulationRelation
namespace Go.Proofs.YtkgnjijonikchaaGreat.saidSimulationRelation
open Go.RowKit Go.ChangeShapes Go.WideShapes Go.ChangeAt Go.Proofs.YtkgnjijonikchaaGreat.Lw
set_option linter.unusedVariables false
theorem own : ownKnob Tryz.prog.godebug = none := by kernel_rfl
theorem laidOut : laidOutB Tryz.prog = true := by kernel_rfl
theorem opensSig : Opens Tryz.prog Zac 98 :=
 ZeT (ZcK Tryz.underlying98 (by kernel_rfl) (Zay rfl (by kernel_rfl) (Ziu Tryz.underlying9) (Zdr rfl (by kernel_rfl) (ZeS Tryz.underlying3)))) _ (fun p => ⟨p.1, p.2⟩) (fun _ => rfl)
theorem opensAc : Opens Tryz.prog Zdi 110 :=
 ZeT (ZcK Tryz.underlying110 (by kernel_rfl) (Zay rfl (by kernel_rfl) (ZeS Tryz.underlying3) (Zay rfl (by kernel_rfl) (ZeS Tryz.underlying3) (Zay rfl (by kernel_rfl) (Zmw Tryz.underlying4) (Zdr rfl (by kernel_rfl) (ZeS Tryz.underlying3)))))) _ (fun p => ⟨p.1, p.2.1, p.2.2.1, p.2.2.2⟩) (fun _ => rfl)
theorem opensSGr : Opens Tryz.prog ZrU 26 :=
 ZeT (ZcK Tryz.underlying26 (by kernel_rfl) (Zay rfl (by kernel_rfl) (Zcx Tryz.underlying22 (by kernel_rfl) (by decide) opensSig) (Zay rfl (by kernel_rfl) (Zcx Tryz.underlying23 (by kernel_rfl) (by decide) (Ziu Tryz.underlying9)) (Zdr rfl (by kernel_rfl) (Zcx Tryz.underlying24 (by kernel_rfl) (by decide) opensAc))))) _ (fun p => ⟨p.1, p.2.1, p.2.2⟩) (fun _ => rfl)
theorem opensPin : Opens Tryz.prog Zcq 179 :=
 ZeT (ZcK Tryz.underlying179 (by kernel_rfl) (Zay rfl (by kernel_rfl) (ZeS Tryz.underlying3) (Zdr rfl (by kernel_rfl) (Zmw Tryz.underlying4)))) _ (fun p => ⟨p.1, p.2⟩) (fun _ => rfl)
theorem opensWire : Opens Tryz.prog Zas 102 :=
 ZeT (ZcK Tryz.underlying102 (by kernel_rfl) (Zay rfl (by kernel_rfl) (Ziu Tryz.underlying9) (Zay rfl (by kernel_rfl) (ZeS Tryz.underlying3) (Zay rfl (by kernel_rfl) (Zcx Tryz.underlying100 (by kernel_rfl) (by decide) opensPin) (Zdr rfl (by kernel_rfl) (Zcx Tryz.underlying23 (by kernel_rfl) (by decide) (Ziu Tryz.underlying9))))))) _ (fun p => ⟨p.1, p.2.1, p.2.2.1, p.2.2.2⟩) (fun _ => rfl)
theorem opensNl : Opens Tryz.prog shNl 29 :=
 ZeT (ZcK Tryz.underlying29 (by kernel_rfl) (Zay rfl (by kernel_rfl) (Zcx Tryz.underlying22 (by kernel_rfl) (by decide) opensSig) (Zdr rfl (by kernel_rfl) (Zcx Tryz.underlying27 (by kernel_rfl) (by decide) opensWire)))) _ (fun p => ⟨p.1, p.2⟩) (fun _ => rfl)
set_option maxRecDepth 100000 in
theorem lifted (os : Os) (started : os.Started) (H : Type) (enc : TypeId × Value → H) :
 ReturnsInHanded {} Tryz.checked os 3 .any (Rows.fnExactSimulationRelationSpec.pre6 enc Tryz.prog Tryz.f3 Rows.fnExactSimulationRelationRow.domain false) (Rows.fnExactSimulationRelationSpec.post enc Tryz.prog Tryz.f3 false true false false) := by
 refine returnsInHanded_of_change (C := Tryz.checked) own started (by kernel_rfl) Tryz.func3
  (ChangeSpec.witness6 (enc := enc) (C := Tryz.checked) false ⟨#[], #[.agg #[.slice none 0 0, .slice none 0 0, .slice none 0 0], .agg #[.slice none 0 0, .slice none 0 0]], []⟩ 8 (by kernel_rfl) (by kernel_rfl) (by kernel_rfl) (by kernel_rfl)) ?_
 intro W base args ds gs before hval0 hW hcnd _
 have hval : ∀ (j : Nat) t v, Tryz.f3.params[j]? = some t → args[j]? = some v → Value.okWide Tryz.prog W .any base t v := hval0
 have hW' := hW
 obtain ⟨p, q, hA0, hV, rfl, hfz, hnd⟩ := hW
 have hA : DataW.TrodAll enc Tryz.prog W 0 (fun _ => true) true Tryz.f3.params.toList args.toList ds p := hA0
 have hA1 := hA
 rw [Tryz.params3] at hA hval
 obtain ⟨v0, vs0, d0, ds0, p0, q0, hargs, rfl, rfl, h0, r0⟩ := trodAll_cons hA
 obtain ⟨v1, vs1, d1, ds1, p1, q1, rfl, rfl, rfl, h1, r1⟩ := trodAll_cons r0
 obtain ⟨rfl, rfl, rfl⟩ := trodAll_nil r1
 obtain rfl : args = #[v0, v1] := by cases args; simp_all
 obtain ⟨rfl, rfl⟩ := trodVars_none hV
 simp only [List.append_nil] at hW' hA1
 obtain ⟨cs0, c, rfl, hr0⟩ := Zmx Tryz.underlying26 opensSGr (hval 0 26 v0 rfl rfl) h0
 obtain ⟨A_c_signals, c_c_signals, A_c_codes, c_c_codes, A_c_arcs, c_c_arcs, rfl, f0_0, f0_1, f0_2, f0_3, f0_4, f0_5, f0_6, f0_7, f0_8⟩ := Zv5 hr0
 obtain ⟨cs1, n, rfl, hr1⟩ := Zmx Tryz.underlying29 opensNl (hval 1 29 v1 rfl rfl) h1
 obtain ⟨A_n_signals, c_n_signals, A_n_wires, c_n_wires, rfl, f1_0, f1_1, f1_2, f1_3, f1_4, f1_5⟩ := ZxA hr1
 refine (law_SimulationRelation c n A_c_signals c_c_signals A_c_codes c_c_codes A_c_arcs c_c_arcs A_n_signals c_n_signals A_n_wires c_n_wires W f0_0 f0_1 f0_2 f0_3 f0_4 f0_5 f0_6 f0_7 f0_8 f1_0 f1_1 f1_2 f1_3 f1_4 f1_5).mono fun e W' ⟨he, hb⟩ => ?_
 subst he
 exact ⟨_, rfl, Zws laidOut rfl (by kernel_rfl) rfl Tryz.underlying4 hW' hA1 rfl hb⟩
set_option maxHeartbeats 4000000 in
set_option maxRecDepth 100000 in
theorem joined : joinedFacts Tryz.pinned.checked.prog 3 Tryz.f3 Rows.fnExactSimulationRelationSpec Rows.fnExactSimulationRelationRow = true := by
 unfold joinedFacts
 repeat' (first | with_reducible (refine Bool.and_eq_true_iff.mpr ⟨?_, ?_⟩) | decide +kernel)
theorem proved : Rows.FnExactSimulationRelationSaid :=
 OpenClaim.holds_of_wide 3 Tryz.f3 rfl rfl rfl rfl rfl rfl rfl ⟨rfl, rfl, rfl, rfl, rfl⟩ rfl rfl rfl rfl rfl (by kernel_rfl) Tryz.func3 joined
  (of_decide_eq_true (by kernel_rfl)) (by unfold Func.isWrapper; first | (rw [if_pos (by decide +kernel)]; kernel_rfl) | (rw [if_neg (by decide +kernel)]; exact ⟨rfl, rfl⟩))
  (fun os started H enc _ => lifted os started H enc)
end Go.Proofs.YtkgnjijonikchaaGreat.saidSimulationRelation
