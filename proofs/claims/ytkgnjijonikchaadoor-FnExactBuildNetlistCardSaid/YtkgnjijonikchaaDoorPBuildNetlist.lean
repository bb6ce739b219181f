import Derived.Test.YtkgnjijonikchaaDoorOpen
import Derived.Test.YtkgnjijonikchaaDoorLBuildNetlist
import Derived.Test.YtkgnjijonikchaaDoorCards
import Derived.Test.YtkgnjijonikchaaDoorTie
import Derived.SevenTiedAt
import Derived.ProofKit
import Derived.LaidMore
import Derived.OpenShut
import Derived.Stop.Joined
import Derived.LaidSub
import Derived.Lib.LaidTab
namespace Go.Proofs.YtkgnjijonikchaaDoor.saidBuildNetlist
open Go.RowKit Go.ChangeShapes Go.WideShapes Go.ChangeAt Go.Proofs.YtkgnjijonikchaaDoor.Lw
set_option linter.unusedVariables false
theorem own : ownKnob Tryd.prog.godebug = none := by kernel_rfl
theorem laidOut : laidOutB Tryd.prog = true := by kernel_rfl
theorem opensSig : Opens Tryd.prog Zo2 84 :=
 Zhy (Zeu Tryd.underlying84 (by kernel_rfl) (Zck rfl (by kernel_rfl) (Zhx Tryd.underlying9) (Ze5 rfl (by kernel_rfl) (Zhw Tryd.underlying3)))) _ (fun p => ⟨p.1, p.2⟩) (fun _ => rfl)
theorem opensGt : Opens Tryd.prog Zpc 86 :=
 Zhy (Zeu Tryd.underlying86 (by kernel_rfl) (Zck rfl (by kernel_rfl) (Zhw Tryd.underlying3) (Zck rfl (by kernel_rfl) (Zhw Tryd.underlying3) (Zck rfl (by kernel_rfl) (ZdC Tryd.underlying50 (by kernel_rfl) (by decide) (Zhx Tryd.underlying9)) (Ze5 rfl (by kernel_rfl) (ZdC Tryd.underlying50 (by kernel_rfl) (by decide) (Zhx Tryd.underlying9))))))) _ (fun p => ⟨p.1, p.2.1, p.2.2.1, p.2.2.2⟩) (fun _ => rfl)
theorem opensCrc : Opens Tryd.prog Zrl 25 :=
 Zhy (Zeu Tryd.underlying25 (by kernel_rfl) (Zck rfl (by kernel_rfl) (ZdC Tryd.underlying22 (by kernel_rfl) (by decide) opensSig) (Ze5 rfl (by kernel_rfl) (ZdC Tryd.underlying23 (by kernel_rfl) (by decide) opensGt)))) _ (fun p => ⟨p.1, p.2⟩) (fun _ => rfl)
theorem door_met (os : Os) (args : Array Value) : laidMetH Tryd.prog Rows.fnExactBuildNetlistRow.laid ((World.doorLaid Tryd.prog 44 os).forCall (fun _ _ => 0) ⟨#[], args, []⟩).memory :=
 laidMetH_of_parts3 (fuel := 8) (laidMet_of_run' 8 (by kernel_rfl) (by kernel_rfl)) (by kernel_rfl) (by kernel_rfl)
theorem gok_of {W : World} (h : laidMetH Tryd.prog Rows.fnExactBuildNetlistRow.laid W) : GOk W (fun b => b < W.heap.size) := by
 rw [MakeChecks.laidMetH_plain _ _ _ (by kernel_rfl)] at h
 intro g l hgl
 unfold GT at hgl
 rw [List.mem_singleton] at hgl
 obtain ⟨rfl, rfl⟩ := Prod.mk.inj hgl
 have e0 : (Rows.fnExactBuildNetlistRow.laid.filter fun x => x.1 == "internal/strconv.uint64pow10") = [("internal/strconv.uint64pow10", Lib.tabData .u64 Lib.pow10Tab)] := by kernel_rfl
 have h1 := h.filter fun x => x.1 == "internal/strconv.uint64pow10"
 rw [e0] at h1
 have hg : Tryd.prog.globalNamed "internal/strconv.uint64pow10" = some 3 := by kernel_rfl
 have h2 : Lib.TabIs Tryd.prog W "internal/strconv.uint64pow10" .u64 Lib.pow10Tab := Lib.tabIs_of_head hg (show (Tryd.prog.globals[3]?).map (·.type) = some 170 by kernel_rfl) (show Tryd.prog.underlying 170 = some (.array 20 159) by kernel_rfl) (show Tryd.prog.underlying 159 = some (.int .u64) by kernel_rfl) (by kernel_rfl) (by kernel_rfl) h1
 unfold Lib.TabIs World.var? at h2
 rw [hg] at h2
 dsimp only [Option.bind] at h2
 split at h2
 case h_1 cs T fr heq =>
  cases h2
  exact ⟨(Array.getElem?_eq_some_iff.1 heq).1, T, fr, _, heq, by simp⟩
 case h_2 => cases h2
set_option maxRecDepth 100000 in
theorem lifted (os : Os) (started : os.Started) (H : Type) (enc : TypeId × Value → H) :
 ReturnsInHanded {} Tryd.checked os 3 .any (fun w args => (Rows.fnExactBuildNetlistSpec.pre enc Tryd.prog Tryd.f3 [] false w args ∧ laidMetH Tryd.prog Rows.fnExactBuildNetlistRow.laid w) ∧ sizedMet enc Tryd.prog Tryd.f3 (OpenSpec.ofChange Rows.fnExactBuildNetlistSpec) false w args) (Rows.fnExactBuildNetlistSpec.post enc Tryd.prog Tryd.f3 false true false false) := by
 refine returnsInHanded_of_change_and (C := Tryd.checked) (X := fun w _ => laidMetH Tryd.prog Rows.fnExactBuildNetlistRow.laid w) (fun _ _ _ hh h => h.of_heap hh) own started (by kernel_rfl) Tryd.func3
  (ChangeSpec.witness_shaped (enc := enc) (C := Tryd.checked) (os := os) (X := fun w _ => laidMetH Tryd.prog Rows.fnExactBuildNetlistRow.laid w) false (World.doorLaid Tryd.prog 44 os) #[.agg #[.slice none 0 0, .slice none 0 0]] 8 rfl (World.shaped_of_RefB (by kernel_rfl) (by kernel_rfl)) (by kernel_rfl) (by kernel_rfl) (by kernel_rfl) (door_met os _)) ?_
 intro W base args ds gs before hval0 hW hcnd _ hL _
 have hg : GOk W (fun b => b < W.heap.size) := gok_of hL
 have hval : ∀ (j : Nat) t v, Tryd.f3.params[j]? = some t → args[j]? = some v → Value.okWide Tryd.prog W .any base t v := hval0
 have hW' := hW
 obtain ⟨p, q, hA0, hV, rfl, hfz, hnd⟩ := hW
 have hA : DataW.TrodAll enc Tryd.prog W 0 (fun _ => true) true Tryd.f3.params.toList args.toList ds p := hA0
 have hA1 := hA
 rw [Tryd.params3] at hA hval
 obtain ⟨v0, vs0, d0, ds0, p0, q0, hargs, rfl, rfl, h0, r0⟩ := trodAll_cons hA
 obtain ⟨rfl, rfl, rfl⟩ := trodAll_nil r0
 obtain rfl : args = #[v0] := by cases args; simp_all
 obtain ⟨rfl, rfl⟩ := trodVars_none hV
 simp only [List.append_nil] at hW' hA1
 obtain ⟨cs0, c, rfl, hr0⟩ := Znd Tryd.underlying25 opensCrc (hval 0 25 v0 rfl rfl) h0
 obtain ⟨A_c_signals, c_c_signals, A_c_gates, c_c_gates, rfl, f0_0, f0_1, f0_2, f0_3, f0_4, f0_5⟩ := ZrO hr0
 refine (law_BuildNetlist c A_c_signals c_c_signals A_c_gates c_c_gates W f0_0 f0_1 f0_2 f0_3 f0_4 f0_5 hg).mono fun e W' ⟨he, hb⟩ => ?_
 subst he
 exact ⟨_, rfl, ZpL laidOut rfl (by kernel_rfl) rfl Tryd.underlying4 hW' hA1 rfl hb⟩
set_option maxHeartbeats 4000000 in
set_option maxRecDepth 100000 in
theorem joined : joinedFacts Tryd.pinned.checked.prog 3 Tryd.f3 Rows.fnExactBuildNetlistSpec Rows.fnExactBuildNetlistRow = true := by
 unfold joinedFacts
 repeat' (first | with_reducible (refine Bool.and_eq_true_iff.mpr ⟨?_, ?_⟩) | decide +kernel)
theorem proved : Rows.FnExactBuildNetlistSaid :=
 OpenClaim.holds_of_wide 3 Tryd.f3 rfl rfl rfl rfl rfl rfl rfl ⟨rfl, rfl, rfl, rfl, rfl⟩ rfl rfl rfl rfl rfl (by kernel_rfl) Tryd.func3 joined
  (of_decide_eq_true (by kernel_rfl)) (by unfold Func.isWrapper; first | (rw [if_pos (by decide +kernel)]; kernel_rfl) | (rw [if_neg (by decide +kernel)]; exact ⟨rfl, rfl⟩))
  (fun os started H enc _ => lifted os started H enc)
theorem card : Rows.FnExactBuildNetlistCardSaid :=
 Claim7.holds_tied_plain_at .later [] [.data, .data, .data] true (true, "a051f504df76bad47161f18838d203b9efac7fc1af5ba4fb3700d703999fb9b5") false
  proved (fun _ h => by cases h) (by kernel_rfl) (fun _ h => by cases h) fnExactBuildNetlist_row_tie rfl ⟨rfl, rfl⟩ (by kernel_rfl) rfl
  (fun f fn hf hfn => by
   obtain rfl : f = 3 := Option.some.inj ((show Tryd.prog.funcNamed Rows.fnExactBuildNetlistRow.func = some 3 by kernel_rfl).symm.trans hf) |>.symm
   obtain rfl : fn = Tryd.f3 := (Option.some.inj (Tryd.func3.symm.trans hfn)).symm
   exact ⟨by kernel_rfl, fun j t ht => by
    rw [Tryd.params3] at ht
    have hm : t ∈ [25] := by simpa using Array.mem_of_getElem? ht
    have hall : ([25].all fun u => !Tryd.prog.wantsStandIn u) = true := by kernel_rfl
    exact (show Tryd.prog.wantsStandIn t = false by simpa using List.all_eq_true.1 hall t hm)⟩)
  (by kernel_rfl)
end Go.Proofs.YtkgnjijonikchaaDoor.saidBuildNetlist
