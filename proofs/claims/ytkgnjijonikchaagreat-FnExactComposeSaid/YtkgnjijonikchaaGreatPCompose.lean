import Derived.Test.YtkgnjijonikchaaGreatOpen
import Derived.Test.YtkgnjijonikchaaGreatLCompose
namespace Go.Proofs.YtkgnjijonikchaaGreat.saidCompose
open Go.RowKit Go.ChangeShapes Go.WideShapes Go.ChangeAt Go.Proofs.YtkgnjijonikchaaGreat.Lw
set_option linter.unusedVariables false
theorem own : ownKnob Tryz.prog.godebug = none := by kernel_rfl
theorem laidOut : laidOutB Tryz.prog = true := by kernel_rfl
theorem opensSig : Opens Tryz.prog Zah 98 :=
 Zeo (Zcu Tryz.underlying98 (by kernel_rfl) (Zao rfl (by kernel_rfl) (ZhR Tryz.underlying9) (Zc4 rfl (by kernel_rfl) (Zen Tryz.underlying3)))) _ (fun p => ⟨p.1, p.2⟩) (fun _ => rfl)
theorem opensAc : Opens Tryz.prog Zdg 110 :=
 Zeo (Zcu Tryz.underlying110 (by kernel_rfl) (Zao rfl (by kernel_rfl) (Zen Tryz.underlying3) (Zao rfl (by kernel_rfl) (Zen Tryz.underlying3) (Zao rfl (by kernel_rfl) (Zly Tryz.underlying4) (Zc4 rfl (by kernel_rfl) (Zen Tryz.underlying3)))))) _ (fun p => ⟨p.1, p.2.1, p.2.2.1, p.2.2.2⟩) (fun _ => rfl)
theorem opensSGr : Opens Tryz.prog ZqB 26 :=
 Zeo (Zcu Tryz.underlying26 (by kernel_rfl) (Zao rfl (by kernel_rfl) (Zci Tryz.underlying22 (by kernel_rfl) (by decide) opensSig) (Zao rfl (by kernel_rfl) (Zci Tryz.underlying23 (by kernel_rfl) (by decide) (ZhR Tryz.underlying9)) (Zc4 rfl (by kernel_rfl) (Zci Tryz.underlying24 (by kernel_rfl) (by decide) opensAc))))) _ (fun p => ⟨p.1, p.2.1, p.2.2⟩) (fun _ => rfl)
theorem opensPin : Opens Tryz.prog Zcb 179 :=
 Zeo (Zcu Tryz.underlying179 (by kernel_rfl) (Zao rfl (by kernel_rfl) (Zen Tryz.underlying3) (Zc4 rfl (by kernel_rfl) (Zly Tryz.underlying4)))) _ (fun p => ⟨p.1, p.2⟩) (fun _ => rfl)
theorem opensWire : Opens Tryz.prog Zam 102 :=
 Zeo (Zcu Tryz.underlying102 (by kernel_rfl) (Zao rfl (by kernel_rfl) (ZhR Tryz.underlying9) (Zao rfl (by kernel_rfl) (Zen Tryz.underlying3) (Zao rfl (by kernel_rfl) (Zci Tryz.underlying100 (by kernel_rfl) (by decide) opensPin) (Zc4 rfl (by kernel_rfl) (Zci Tryz.underlying23 (by kernel_rfl) (by decide) (ZhR Tryz.underlying9))))))) _ (fun p => ⟨p.1, p.2.1, p.2.2.1, p.2.2.2⟩) (fun _ => rfl)
theorem opensNl : Opens Tryz.prog shNl 29 :=
 Zeo (Zcu Tryz.underlying29 (by kernel_rfl) (Zao rfl (by kernel_rfl) (Zci Tryz.underlying22 (by kernel_rfl) (by decide) opensSig) (Zc4 rfl (by kernel_rfl) (Zci Tryz.underlying27 (by kernel_rfl) (by decide) opensWire)))) _ (fun p => ⟨p.1, p.2⟩) (fun _ => rfl)
set_option maxRecDepth 100000 in
theorem lifted (os : Os) (started : os.Started) (H : Type) (enc : TypeId × Value → H) :
 ReturnsInHanded {} Tryz.checked os 4 .any (Rows.fnExactComposeSpec.pre6 enc Tryz.prog Tryz.f4 Rows.fnExactComposeRow.domain false) (Rows.fnExactComposeSpec.post enc Tryz.prog Tryz.f4 false true false false) := by
 refine returnsInHanded_of_change (C := Tryz.checked) own started (by kernel_rfl) Tryz.func4
  (ChangeSpec.witness6 (enc := enc) (C := Tryz.checked) false ⟨#[], #[.agg #[.slice none 0 0, .slice none 0 0, .slice none 0 0], .agg #[.slice none 0 0, .slice none 0 0]], []⟩ 8 (by kernel_rfl) (by kernel_rfl) (by kernel_rfl) (by kernel_rfl)) ?_
 intro W base args ds gs before hval0 hW hcnd _
 have hval : ∀ (j : Nat) t v, Tryz.f4.params[j]? = some t → args[j]? = some v → Value.okWide Tryz.prog W .any base t v := hval0
 have hW' := hW
 obtain ⟨p, q, hA0, hV, rfl, hfz, hnd⟩ := hW
 have hA : DataW.TrodAll enc Tryz.prog W 0 (fun _ => true) true Tryz.f4.params.toList args.toList ds p := hA0
 have hA1 := hA
 rw [Tryz.params4] at hA hval
 obtain ⟨v0, vs0, d0, ds0, p0, q0, hargs, rfl, rfl, h0, r0⟩ := trodAll_cons hA
 obtain ⟨v1, vs1, d1, ds1, p1, q1, rfl, rfl, rfl, h1, r1⟩ := trodAll_cons r0
 obtain ⟨rfl, rfl, rfl⟩ := trodAll_nil r1
 obtain rfl : args = #[v0, v1] := by cases args; simp_all
 obtain ⟨rfl, rfl⟩ := trodVars_none hV
 simp only [List.append_nil] at hW' hA1
 obtain ⟨cs0, c, rfl, hr0⟩ := Zlz Tryz.underlying26 opensSGr (hval 0 26 v0 rfl rfl) h0
 obtain ⟨A_c_signals, c_c_signals, A_c_codes, c_c_codes, A_c_arcs, c_c_arcs, rfl, f0_0, f0_1, f0_2, f0_3, f0_4, f0_5, f0_6, f0_7, f0_8⟩ := ZuG hr0
 obtain ⟨cs1, n, rfl, hr1⟩ := Zlz Tryz.underlying29 opensNl (hval 1 29 v1 rfl rfl) h1
 obtain ⟨A_n_signals, c_n_signals, A_n_wires, c_n_wires, rfl, f1_0, f1_1, f1_2, f1_3, f1_4, f1_5⟩ := Zv8 hr1
 refine (law_Compose c n A_c_signals c_c_signals A_c_codes c_c_codes A_c_arcs c_c_arcs A_n_signals c_n_signals A_n_wires c_n_wires W f0_0 f0_1 f0_2 f0_3 f0_4 f0_5 f0_6 f0_7 f0_8 f1_0 f1_1 f1_2 f1_3 f1_4 f1_5).mono fun e W' ⟨he, hb⟩ => ?_
 subst he
 exact ⟨_, rfl, ZuZ laidOut rfl (by kernel_rfl) rfl Tryz.underlying4 hW' hA1 rfl hb⟩
set_option maxHeartbeats 4000000 in
set_option maxRecDepth 100000 in
theorem joined : joinedFacts Tryz.pinned.checked.prog 4 Tryz.f4 Rows.fnExactComposeSpec Rows.fnExactComposeRow = true := by
 unfold joinedFacts
 repeat' (first | with_reducible (refine Bool.and_eq_true_iff.mpr ⟨?_, ?_⟩) | decide +kernel)
theorem proved : Rows.FnExactComposeSaid :=
 OpenClaim.holds_of_wide 4 Tryz.f4 rfl rfl rfl rfl rfl rfl rfl ⟨rfl, rfl, rfl, rfl, rfl⟩ rfl rfl rfl rfl rfl (by kernel_rfl) Tryz.func4 joined
  (of_decide_eq_true (by kernel_rfl)) (by unfold Func.isWrapper; first | (rw [if_pos (by decide +kernel)]; kernel_rfl) | (rw [if_neg (by decide +kernel)]; exact ⟨rfl, rfl⟩))
  (fun os started H enc _ => lifted os started H enc)
end Go.Proofs.YtkgnjijonikchaaGreat.saidCompose
