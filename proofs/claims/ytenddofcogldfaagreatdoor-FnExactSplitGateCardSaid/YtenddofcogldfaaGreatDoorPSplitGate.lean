import Derived.Test.YtenddofcogldfaaGreatDoorOpen
import Derived.Test.YtenddofcogldfaaGreatDoorLSplitGate
import Derived.Test.YtenddofcogldfaaGreatDoorCards
import Derived.Test.YtenddofcogldfaaGreatDoorTie
import Derived.SevenTiedAt
import Derived.ProofKit
import Derived.LaidMore
import Derived.OpenShut
import Derived.Stop.Joined
import Derived.LaidSub
import Derived.Lib.LaidTab
namespace Go.Proofs.YtenddofcogldfaaGreatDoor.saidSplitGate
open Go.RowKit Go.ChangeShapes Go.WideShapes Go.ChangeAt Go.Proofs.YtenddofcogldfaaGreatDoor.Lw
set_option linter.unusedVariables false
theorem own : ownKnob Tryz.prog.godebug = none := by kernel_rfl
theorem laidOut : laidOutB Tryz.prog = true := by kernel_rfl
theorem opensSig : Opens Tryz.prog Zm 59 :=
 Zfw (Zc4 Tryz.underlying59 (by kernel_rfl) (Zbu rfl (by kernel_rfl) (Zhn Tryz.underlying9) (Zdv rfl (by kernel_rfl) (Zd2 Tryz.underlying3)))) _ (fun p => ⟨p.1, p.2⟩) (fun _ => rfl)
theorem opensPin : Opens Tryz.prog Zw 100 :=
 Zfw (Zc4 Tryz.underlying100 (by kernel_rfl) (Zbu rfl (by kernel_rfl) (Zd2 Tryz.underlying3) (Zdv rfl (by kernel_rfl) (Zn8 Tryz.underlying4)))) _ (fun p => ⟨p.1, p.2⟩) (fun _ => rfl)
theorem opensWire : Opens Tryz.prog Zx 63 :=
 Zfw (Zc4 Tryz.underlying63 (by kernel_rfl) (Zbu rfl (by kernel_rfl) (Zhn Tryz.underlying9) (Zbu rfl (by kernel_rfl) (Zd2 Tryz.underlying3) (Zbu rfl (by kernel_rfl) (ZcS Tryz.underlying61 (by kernel_rfl) (by decide) opensPin) (Zdv rfl (by kernel_rfl) (ZcS Tryz.underlying49 (by kernel_rfl) (by decide) (Zhn Tryz.underlying9))))))) _ (fun p => ⟨p.1, p.2.1, p.2.2.1, p.2.2.2⟩) (fun _ => rfl)
theorem opensNl : Opens Tryz.prog Znr 25 :=
 Zfw (Zc4 Tryz.underlying25 (by kernel_rfl) (Zbu rfl (by kernel_rfl) (ZcS Tryz.underlying22 (by kernel_rfl) (by decide) opensSig) (Zdv rfl (by kernel_rfl) (ZcS Tryz.underlying23 (by kernel_rfl) (by decide) opensWire)))) _ (fun p => ⟨p.1, p.2⟩) (fun _ => rfl)
theorem door_met (os : Os) (args : Array Value) : laidMetH Tryz.prog Rows.fnExactSplitGateRow.laid ((World.doorLaid Tryz.prog 44 os).forCall (fun _ _ => 0) ⟨#[], args, []⟩).memory :=
 laidMetH_of_parts3 (fuel := 8) (laidMet_of_run' 8 (by kernel_rfl) (by kernel_rfl)) (by kernel_rfl) (by kernel_rfl)
theorem gok_of {W : World} (h : laidMetH Tryz.prog Rows.fnExactSplitGateRow.laid W) : GOk W (fun b => b < W.heap.size) := by
 rw [MakeChecks.laidMetH_plain _ _ _ (by kernel_rfl)] at h
 intro g l hgl
 unfold GT at hgl
 rw [List.mem_singleton] at hgl
 obtain ⟨rfl, rfl⟩ := Prod.mk.inj hgl
 have e0 : (Rows.fnExactSplitGateRow.laid.filter fun x => x.1 == "internal/strconv.uint64pow10") = [("internal/strconv.uint64pow10", Lib.tabData .u64 Lib.pow10Tab)] := by kernel_rfl
 have h1 := h.filter fun x => x.1 == "internal/strconv.uint64pow10"
 rw [e0] at h1
 have hg : Tryz.prog.globalNamed "internal/strconv.uint64pow10" = some 0 := by kernel_rfl
 have h2 : Lib.TabIs Tryz.prog W "internal/strconv.uint64pow10" .u64 Lib.pow10Tab := Lib.tabIs_of_head hg (show (Tryz.prog.globals[0]?).map (·.type) = some 117 by kernel_rfl) (show Tryz.prog.underlying 117 = some (.array 20 110) by kernel_rfl) (show Tryz.prog.underlying 110 = some (.int .u64) by kernel_rfl) (by kernel_rfl) (by kernel_rfl) h1
 unfold Lib.TabIs World.var? at h2
 rw [hg] at h2
 dsimp only [Option.bind] at h2
 split at h2
 case h_1 cs T fr heq =>
  cases h2
  exact ⟨(Array.getElem?_eq_some_iff.1 heq).1, T, fr, _, heq, by simp⟩
 case h_2 => cases h2
set_option maxRecDepth 100000 in
theorem lifted (os : Os) (started : os.Started) (H : Type) (enc : TypeId × Value → H) :
 ReturnsInHanded {} Tryz.checked os 3 .any (fun w args => (Rows.fnExactSplitGateSpec.pre enc Tryz.prog Tryz.f3 [] false w args ∧ laidMetH Tryz.prog Rows.fnExactSplitGateRow.laid w) ∧ sizedMet enc Tryz.prog Tryz.f3 (OpenSpec.ofChange Rows.fnExactSplitGateSpec) false w args) (Rows.fnExactSplitGateSpec.post enc Tryz.prog Tryz.f3 false true false false) := by
 refine returnsInHanded_of_change_and (C := Tryz.checked) (X := fun w _ => laidMetH Tryz.prog Rows.fnExactSplitGateRow.laid w) (fun _ _ _ hh h => h.of_heap hh) own started (by kernel_rfl) Tryz.func3
  (ChangeSpec.witness_shaped (enc := enc) (C := Tryz.checked) (os := os) (X := fun w _ => laidMetH Tryz.prog Rows.fnExactSplitGateRow.laid w) false (World.doorLaid Tryz.prog 44 os) #[.agg #[.slice none 0 0, .slice none 0 0], .int .i64 0, .slice none 0 0] 8 rfl (World.shaped_of_RefB (by kernel_rfl) (by kernel_rfl)) (by kernel_rfl) (by kernel_rfl) (by kernel_rfl) (door_met os _)) ?_
 intro W base args ds gs before hval0 hW hcnd _ hL _
 have hg : GOk W (fun b => b < W.heap.size) := gok_of hL
 have hval : ∀ (j : Nat) t v, Tryz.f3.params[j]? = some t → args[j]? = some v → Value.okWide Tryz.prog W .any base t v := hval0
 have hW' := hW
 obtain ⟨p, q, hA0, hV, rfl, hfz, hnd⟩ := hW
 have hA : DataW.TrodAll enc Tryz.prog W 0 (fun _ => true) true Tryz.f3.params.toList args.toList ds p := hA0
 have hA1 := hA
 rw [Tryz.params3] at hA hval
 obtain ⟨v0, vs0, d0, ds0, p0, q0, hargs, rfl, rfl, h0, r0⟩ := trodAll_cons hA
 obtain ⟨v1, vs1, d1, ds1, p1, q1, rfl, rfl, rfl, h1, r1⟩ := trodAll_cons r0
 obtain ⟨v2, vs2, d2, ds2, p2, q2, rfl, rfl, rfl, h2, r2⟩ := trodAll_cons r1
 obtain ⟨rfl, rfl, rfl⟩ := trodAll_nil r2
 obtain rfl : args = #[v0, v1, v2] := by cases args; simp_all
 obtain ⟨rfl, rfl⟩ := trodVars_none hV
 simp only [List.append_nil] at hW' hA1
 obtain ⟨cs0, n, rfl, hr0⟩ := Zoa Tryz.underlying25 opensNl (hval 0 25 v0 rfl rfl) h0
 obtain ⟨A_n_signals, c_n_signals, A_n_wires, c_n_wires, rfl, f0_0, f0_1, f0_2, f0_3, f0_4, f0_5⟩ := Zns hr0
 obtain ⟨k, rfl, i1⟩ := ZsX Tryz.underlying3 (hval 1 3 v1 rfl rfl) h1
 obtain ⟨A2, c2, l, rfl, i2, j2, k2⟩ := Zqg Tryz.underlying26 (ZcS Tryz.underlying26 (by kernel_rfl) (by decide) (Zd2 Tryz.underlying3)) (hval 2 26 v2 rfl rfl) h2
 refine (law_SplitGate n k l A_n_signals c_n_signals A_n_wires c_n_wires A2 c2 W f0_0 f0_1 f0_2 f0_3 f0_4 f0_5 i1 i2 j2 k2 hg).mono fun e W' ⟨he, hb⟩ => ?_
 subst he
 exact ⟨_, rfl, Zrb laidOut rfl (by kernel_rfl) rfl Tryz.underlying4 hW' hA1 rfl hb⟩
set_option maxHeartbeats 4000000 in
set_option maxRecDepth 100000 in
theorem joined : joinedFacts Tryz.pinned.checked.prog 3 Tryz.f3 Rows.fnExactSplitGateSpec Rows.fnExactSplitGateRow = true := by
 unfold joinedFacts
 repeat' (first | with_reducible (refine Bool.and_eq_true_iff.mpr ⟨?_, ?_⟩) | decide +kernel)
theorem proved : Rows.FnExactSplitGateSaid :=
 OpenClaim.holds_of_wide 3 Tryz.f3 rfl rfl rfl rfl rfl rfl rfl ⟨rfl, rfl, rfl, rfl, rfl⟩ rfl rfl rfl rfl rfl (by kernel_rfl) Tryz.func3 joined
  (of_decide_eq_true (by kernel_rfl)) (by unfold Func.isWrapper; first | (rw [if_pos (by decide +kernel)]; kernel_rfl) | (rw [if_neg (by decide +kernel)]; exact ⟨rfl, rfl⟩))
  (fun os started H enc _ => lifted os started H enc)
theorem card : Rows.FnExactSplitGateCardSaid :=
 Claim7.holds_tied_plain_at .later [] [.data, .data, .data] true (true, "92787c087caca99f570824a1bb7d180a1c24495fd30fbe051a0f5f9105faa098") false
  proved (fun _ h => by cases h) (by kernel_rfl) (fun _ h => by cases h) fnExactSplitGate_row_tie rfl ⟨rfl, rfl⟩ (by kernel_rfl) rfl
  (fun f fn hf hfn => by
   obtain rfl : f = 3 := Option.some.inj ((show Tryz.prog.funcNamed Rows.fnExactSplitGateRow.func = some 3 by kernel_rfl).symm.trans hf) |>.symm
   obtain rfl : fn = Tryz.f3 := (Option.some.inj (Tryz.func3.symm.trans hfn)).symm
   exact ⟨by kernel_rfl, fun j t ht => by
    rw [Tryz.params3] at ht
    have hm : t ∈ [25, 3, 26] := by simpa using Array.mem_of_getElem? ht
    have hall : ([25, 3, 26].all fun u => !Tryz.prog.wantsStandIn u) = true := by kernel_rfl
    exact (show Tryz.prog.wantsStandIn t = false by simpa using List.all_eq_true.1 hall t hm)⟩)
  (by kernel_rfl)
end Go.Proofs.YtenddofcogldfaaGreatDoor.saidSplitGate
