/-
  FnExactVisibleTraceSaid: for every argument that can be read, FnExactVisibleTrace returns true and leaves its arguments as they were. No condition.
-/
import Derived.Test.YtnpbdphfjablbaaRows
import Derived.Test.YtnpbdphfjablbaaOpen
import Derived.Test.YtnpbdphfjablbaaJoin
import Derived.Test.YtnpbdphfjablbaaVisibleTraceP
namespace Go.Proofs.Ytnpbdphfjablbaa.saidVisibleTrace
open Go.RowKit Go.ChangeShapes Go.WideShapes Go.ChangeAt
set_option linter.unusedVariables false

theorem own : ownKnob Try.prog.godebug = none := by kernel_rfl
theorem laidOut : laidOutB Try.prog = true := by kernel_rfl
def shTransition : Sh (Tr) := Sh.via (shPair (shSl shInt) (shSl shInt)) (fun a => (a.pre, a.post))
theorem encTransition : EncOk shTransition (fun a => [.lst ((a.pre).map pI), .lst ((a.post).map pI)]) := encVia (v := fun a : Tr => (a.pre, a.post)) (encPair (encSlOne encInt rfl) (encSlOne encInt rfl))
theorem bdTransition : BdOk shTransition (BdTransition 9223372036854775807) := BdOk.mono (bdVia (v := fun a : Tr => (a.pre, a.post)) (bdPair (bdSl bdTrue) (bdSl bdTrue))) (fun a h => ⟨h.1.1, h.2.1⟩)
theorem opensTransition : Opens Try.prog shTransition 183 :=
  opens_via (opens_struct Try.underlying183 (by kernel_rfl) (opensFs_cons rfl (by kernel_rfl) (opens_slice Try.underlying55 (by kernel_rfl) (by decide) (opens_int Try.underlying3)) (opensFs_one rfl (by kernel_rfl) (opens_slice Try.underlying55 (by kernel_rfl) (by decide) (opens_int Try.underlying3))))) _ (fun p => ⟨p.1, p.2⟩) (fun _ => rfl)
def shNet : Sh (Net) := Sh.via (shPair shInt (shSl shTransition)) (fun a => (a.places, a.trans))
theorem encNet : EncOk shNet (fun a => [pI a.places, .lst ((a.trans).map eTr)]) := encVia (v := fun a : Net => (a.places, a.trans)) (encPair encInt (encSlAgg encTransition))
theorem bdNet : BdOk shNet (BdNet 9223372036854775807) := BdOk.mono (bdVia (v := fun a : Net => (a.places, a.trans)) (bdPair bdTrue (bdSl bdTransition))) (fun a h => h.2)
theorem opensNet : Opens Try.prog shNet 24 :=
  opens_via (opens_struct Try.underlying24 (by kernel_rfl) (opensFs_cons rfl (by kernel_rfl) (opens_int Try.underlying3) (opensFs_one rfl (by kernel_rfl) (opens_slice Try.underlying22 (by kernel_rfl) (by decide) opensTransition)))) _ (fun p => ⟨p.1, p.2⟩) (fun _ => rfl)
def shSignal : Sh (Sig) := Sh.via (shPair shStr shInt) (fun a => (a.name, a.kind))
theorem encSignal : EncOk shSignal (fun a => [.str a.name, pI a.kind]) := encVia (v := fun a : Sig => (a.name, a.kind)) (encPair encStr encInt)
theorem bdSignal : BdOk shSignal (BdSignal 9223372036854775807) := BdOk.mono (bdVia (v := fun a : Sig => (a.name, a.kind)) (bdPair bdStr bdTrue)) (fun a h => h.1)
theorem opensSignal : Opens Try.prog shSignal 149 :=
  opens_via (opens_struct Try.underlying149 (by kernel_rfl) (opensFs_cons rfl (by kernel_rfl) (opens_str Try.underlying9) (opensFs_one rfl (by kernel_rfl) (opens_int Try.underlying3)))) _ (fun p => ⟨p.1, p.2⟩) (fun _ => rfl)
def shLabel : Sh (Lab) := Sh.via (shPair shInt shBool) (fun a => (a.sig, a.up))
theorem encLabel : EncOk shLabel (fun a => [pI a.sig, pB a.up]) := encVia (v := fun a : Lab => (a.sig, a.up)) (encPair encInt encBool)
theorem opensLabel : Opens Try.prog shLabel 154 :=
  opens_via (opens_struct Try.underlying154 (by kernel_rfl) (opensFs_cons rfl (by kernel_rfl) (opens_int Try.underlying3) (opensFs_one rfl (by kernel_rfl) (opens_bool Try.underlying4)))) _ (fun p => ⟨p.1, p.2⟩) (fun _ => rfl)
def shSTG : Sh (STG) := Sh.via (shPair shNet (shPair (shSl shSignal) (shPair (shSl shLabel) shStr))) (fun a => (a.net, a.signals, a.labels, a.start))
theorem encSTG : EncOk shSTG (fun a => [pI a.net.places, .lst ((a.net.trans).map eTr), .lst ((a.signals).map eSgn), .lst ((a.labels).map eLb), .str a.start]) := encVia (v := fun a : STG => (a.net, a.signals, a.labels, a.start)) (encPair encNet (encPair (encSlAgg encSignal) (encPair (encSlAgg encLabel) encStr)))
theorem bdSTG : BdOk shSTG (BdSTG 9223372036854775807) := BdOk.mono (bdVia (v := fun a : STG => (a.net, a.signals, a.labels, a.start)) (bdPair bdNet (bdPair (bdSl bdSignal) (bdPair (bdSl bdTrue) bdStr)))) (fun a h => ⟨h.1, h.2.1, h.2.2.1.1, h.2.2.2⟩)
theorem opensSTG : Opens Try.prog shSTG 28 :=
  opens_via (opens_struct Try.underlying28 (by kernel_rfl) (opensFs_cons rfl (by kernel_rfl) opensNet (opensFs_cons rfl (by kernel_rfl) (opens_slice Try.underlying25 (by kernel_rfl) (by decide) opensSignal) (opensFs_cons rfl (by kernel_rfl) (opens_slice Try.underlying26 (by kernel_rfl) (by decide) opensLabel) (opensFs_one rfl (by kernel_rfl) (opens_str Try.underlying9)))))) _ (fun p => ⟨p.1, p.2.1, p.2.2.1, p.2.2.2⟩) (fun _ => rfl)
def shTimedFiring : Sh (TF) := Sh.via (shPair shInt shInt) (fun a => (a.at_, a.t))
theorem encTimedFiring : EncOk shTimedFiring (fun a => [pI a.at_, pI a.t]) := encVia (v := fun a : TF => (a.at_, a.t)) (encPair encInt encInt)
theorem opensTimedFiring : Opens Try.prog shTimedFiring 95 :=
  opens_via (opens_struct Try.underlying95 (by kernel_rfl) (opensFs_cons rfl (by kernel_rfl) (opens_int Try.underlying3) (opensFs_one rfl (by kernel_rfl) (opens_int Try.underlying3)))) _ (fun p => ⟨p.1, p.2⟩) (fun _ => rfl)

set_option maxRecDepth 100000 in
theorem lifted (os : Os) (started : os.Started) (H : Type) (enc : TypeId × Value → H) :
    ReturnsInHanded {} Try.checked os 3 .any (Rows.fnExactVisibleTraceSpec.pre6 enc Try.prog Try.f3 Rows.fnExactVisibleTraceRow.domain false) (Rows.fnExactVisibleTraceSpec.post enc Try.prog Try.f3 false true false false) := by
  refine returnsInHanded_of_change (C := Try.checked) own started (by kernel_rfl) Try.func3
    (ChangeSpec.witness6 (enc := enc) (C := Try.checked) false ⟨#[], #[.agg #[.int .i64 0, .slice none 0 0, .slice none 0 0, .slice none 0 0, .string ⟨#[]⟩], .slice none 0 0], []⟩ 8 (by kernel_rfl) (by kernel_rfl) (by kernel_rfl) (by kernel_rfl)) ?_
  intro W base args ds gs before hval0 hW hcnd _
  have hval : ∀ (j : Nat) t v, Try.f3.params[j]? = some t → args[j]? = some v → Value.okWide Try.prog W .any base t v := hval0
  have hW' := hW
  obtain ⟨p, q, hA0, hV, rfl, hfz, hnd⟩ := hW
  have hA : DataW.TrodAll enc Try.prog W 0 (fun _ => true) true Try.f3.params.toList args.toList ds p := hA0
  have hA1 := hA
  rw [Try.params3] at hA hval
  obtain ⟨v0, vs0, d0, ds0, p0, q0, hargs, rfl, rfl, h0, r0⟩ := trodAll_cons hA
  obtain ⟨v1, vs1, d1, ds1, p1, q1, rfl, rfl, rfl, h1, r1⟩ := trodAll_cons r0
  obtain ⟨rfl, rfl, rfl⟩ := trodAll_nil r1
  obtain rfl : args = #[v0, v1] := by cases args; simp_all
  obtain ⟨rfl, rfl⟩ := trodVars_none hV
  simp only [List.append_nil] at hW' hA1
  obtain ⟨cs0, s, rfl, hr0⟩ := arg_struct Try.underlying28 opensSTG (hval 0 28 v0 rfl rfl) h0
  obtain ⟨A1, c1, run, rfl, i1, j1, k1⟩ := arg_slice Try.underlying29 (opens_slice Try.underlying29 (by kernel_rfl) (by decide) opensTimedFiring) (hval 1 29 v1 rfl rfl) h1
  have hs : e_w_FnExactVisibleTrace.spec [eStg1 s, .lst ((run).map eTF)] = some (pB true) := (congrFun (show e_w_FnExactVisibleTrace.spec = s_w_FnExactVisibleTrace from rfl) _).trans (law_VisibleTrace s run (bdSTG.out hr0) (by omega))
  refine (FnOk.bool ok_w_FnExactVisibleTrace rfl rfl (.cons (encSTG.vrAgg hr0) (.cons (rowAgg encTimedFiring k1 i1 j1) .nil)) hs).mono fun e W' ⟨he, hb⟩ => ?_
  subst he
  exact ⟨_, rfl, law_post laidOut rfl (by kernel_rfl) rfl Try.underlying4 hW' hA1 rfl hb⟩

set_option maxHeartbeats 4000000 in
set_option maxRecDepth 100000 in
theorem joined : joinedFacts Try.pinned.checked.prog 3 Try.f3 Rows.fnExactVisibleTraceSpec Rows.fnExactVisibleTraceRow = true := by
  unfold joinedFacts
  repeat' (first | with_reducible (refine Bool.and_eq_true_iff.mpr ⟨?_, ?_⟩) | decide +kernel)

theorem proved : Rows.FnExactVisibleTraceSaid :=
  OpenClaim.holds_of_wide 3 Try.f3 rfl rfl rfl rfl rfl rfl rfl ⟨rfl, rfl, rfl, rfl, rfl⟩ rfl rfl rfl rfl rfl (by kernel_rfl) Try.func3 joined
    (of_decide_eq_true (by kernel_rfl)) (by unfold Func.isWrapper; first | (rw [if_pos (by decide +kernel)]; kernel_rfl) | (rw [if_neg (by decide +kernel)]; exact ⟨rfl, rfl⟩))
    (fun os started H enc _ => lifted os started H enc)
end Go.Proofs.Ytnpbdphfjablbaa.saidVisibleTrace
