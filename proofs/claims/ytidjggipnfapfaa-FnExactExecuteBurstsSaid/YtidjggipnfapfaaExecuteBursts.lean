/-
  FnExactExecuteBurstsSaid: for every argument that can be read, FnExactExecuteBursts returns true and leaves its arguments as they were. No condition.
-/
import Derived.Test.YtidjggipnfapfaaRows
import Derived.Test.YtidjggipnfapfaaOpen
import Derived.Test.YtidjggipnfapfaaJoin
import Derived.Test.YtidjggipnfapfaaExecuteBurstsP
namespace Go.Proofs.Ytidjggipnfapfaa.saidExecuteBursts
open Go.RowKit Go.ChangeShapes Go.WideShapes Go.ChangeAt
set_option linter.unusedVariables false

theorem own : ownKnob Try.prog.godebug = none := by kernel_rfl
theorem laidOut : laidOutB Try.prog = true := by kernel_rfl
def shSignal : Sh (List UInt8 × Int) := Sh.via (shPair shStr shInt) (fun a => (a.1, a.2))
theorem encSignal : EncOk shSignal (fun a => [.str a.1, pI a.2]) := encVia (v := fun a : List UInt8 × Int => (a.1, a.2)) (encPair encStr encInt)
theorem bdSignal : BdOk shSignal (BdSignal 9223372036854775807) := BdOk.mono (bdVia (v := fun a : List UInt8 × Int => (a.1, a.2)) (bdPair bdStr bdTrue)) (fun a h => h.1)
theorem opensSignal : Opens Try.prog shSignal 132 :=
  opens_via (opens_struct Try.underlying132 (by kernel_rfl) (opensFs_cons rfl (by kernel_rfl) (opens_str Try.underlying9) (opensFs_one rfl (by kernel_rfl) (opens_int Try.underlying3)))) _ (fun p => ⟨p.1, p.2⟩) (fun _ => rfl)
def shLabel : Sh (Int × Bool) := Sh.via (shPair shInt shBool) (fun a => (a.1, a.2))
theorem encLabel : EncOk shLabel (fun a => [pI a.1, pB a.2]) := encVia (v := fun a : Int × Bool => (a.1, a.2)) (encPair encInt encBool)
theorem opensLabel : Opens Try.prog shLabel 225 :=
  opens_via (opens_struct Try.underlying225 (by kernel_rfl) (opensFs_cons rfl (by kernel_rfl) (opens_int Try.underlying3) (opensFs_one rfl (by kernel_rfl) (opens_bool Try.underlying4)))) _ (fun p => ⟨p.1, p.2⟩) (fun _ => rfl)
def shBurst : Sh (PBurst) := Sh.via (shPair shInt (shPair (shSl shLabel) (shPair (shSl shLabel) shInt))) (fun a => (a.from_, a.ins, a.outs, a.to_))
theorem encBurst : EncOk shBurst (fun a => [pI a.from_, .lst ((a.ins).map ePin), .lst ((a.outs).map ePin), pI a.to_]) := encVia (v := fun a : PBurst => (a.from_, a.ins, a.outs, a.to_)) (encPair encInt (encPair (encSlAgg encLabel) (encPair (encSlAgg encLabel) encInt)))
theorem bdBurst : BdOk shBurst (BdBurst 9223372036854775807) := BdOk.mono (bdVia (v := fun a : PBurst => (a.from_, a.ins, a.outs, a.to_)) (bdPair bdTrue (bdPair (bdSl bdTrue) (bdPair (bdSl bdTrue) bdTrue)))) (fun a h => ⟨h.2.1.1, h.2.2.1.1⟩)
theorem opensBurst : Opens Try.prog shBurst 151 :=
  opens_via (opens_struct Try.underlying151 (by kernel_rfl) (opensFs_cons rfl (by kernel_rfl) (opens_int Try.underlying3) (opensFs_cons rfl (by kernel_rfl) (opens_slice Try.underlying149 (by kernel_rfl) (by decide) opensLabel) (opensFs_cons rfl (by kernel_rfl) (opens_slice Try.underlying149 (by kernel_rfl) (by decide) opensLabel) (opensFs_one rfl (by kernel_rfl) (opens_int Try.underlying3)))))) _ (fun p => ⟨p.1, p.2.1, p.2.2.1, p.2.2.2⟩) (fun _ => rfl)
def shMachine : Sh (PMach) := Sh.via (shPair (shSl shSignal) (shPair shInt (shPair (shSl shBurst) shStr))) (fun a => (a.signals, a.states, a.bursts, a.first))
theorem encMachine : EncOk shMachine (fun a => [.lst ((a.signals).map eSig), pI a.states, .lst ((a.bursts).map eBurst), .str a.first]) := encVia (v := fun a : PMach => (a.signals, a.states, a.bursts, a.first)) (encPair (encSlAgg encSignal) (encPair encInt (encPair (encSlAgg encBurst) encStr)))
theorem bdMachine : BdOk shMachine (BdMachine 9223372036854775807) := BdOk.mono (bdVia (v := fun a : PMach => (a.signals, a.states, a.bursts, a.first)) (bdPair (bdSl bdSignal) (bdPair bdTrue (bdPair (bdSl bdBurst) bdStr)))) (fun a h => ⟨h.1, h.2.2.1, h.2.2.2⟩)
theorem opensMachine : Opens Try.prog shMachine 38 :=
  opens_via (opens_struct Try.underlying38 (by kernel_rfl) (opensFs_cons rfl (by kernel_rfl) (opens_slice Try.underlying22 (by kernel_rfl) (by decide) opensSignal) (opensFs_cons rfl (by kernel_rfl) (opens_int Try.underlying3) (opensFs_cons rfl (by kernel_rfl) (opens_slice Try.underlying36 (by kernel_rfl) (by decide) opensBurst) (opensFs_one rfl (by kernel_rfl) (opens_str Try.underlying9)))))) _ (fun p => ⟨p.1, p.2.1, p.2.2.1, p.2.2.2⟩) (fun _ => rfl)

set_option maxRecDepth 100000 in
theorem lifted (os : Os) (started : os.Started) (H : Type) (enc : TypeId × Value → H) :
    ReturnsInHanded {} Try.checked os 8 .any (Rows.fnExactExecuteBurstsSpec.pre6 enc Try.prog Try.f8 Rows.fnExactExecuteBurstsRow.domain false) (Rows.fnExactExecuteBurstsSpec.post enc Try.prog Try.f8 false true false false) := by
  refine returnsInHanded_of_change (C := Try.checked) own started (by kernel_rfl) Try.func8
    (ChangeSpec.witness6 (enc := enc) (C := Try.checked) false ⟨#[], #[.agg #[.slice none 0 0, .int .i64 0, .slice none 0 0, .string ⟨#[]⟩], .slice none 0 0], []⟩ 8 (by kernel_rfl) (by kernel_rfl) (by kernel_rfl) (by kernel_rfl)) ?_
  intro W base args ds gs before hval0 hW hcnd _
  have hval : ∀ (j : Nat) t v, Try.f8.params[j]? = some t → args[j]? = some v → Value.okWide Try.prog W .any base t v := hval0
  have hW' := hW
  obtain ⟨p, q, hA0, hV, rfl, hfz, hnd⟩ := hW
  have hA : DataW.TrodAll enc Try.prog W 0 (fun _ => true) true Try.f8.params.toList args.toList ds p := hA0
  have hA1 := hA
  rw [Try.params8] at hA hval
  obtain ⟨v0, vs0, d0, ds0, p0, q0, hargs, rfl, rfl, h0, r0⟩ := trodAll_cons hA
  obtain ⟨v1, vs1, d1, ds1, p1, q1, rfl, rfl, rfl, h1, r1⟩ := trodAll_cons r0
  obtain ⟨rfl, rfl, rfl⟩ := trodAll_nil r1
  obtain rfl : args = #[v0, v1] := by cases args; simp_all
  obtain ⟨rfl, rfl⟩ := trodVars_none hV
  simp only [List.append_nil] at hW' hA1
  obtain ⟨cs0, m, rfl, hr0⟩ := arg_struct Try.underlying38 opensMachine (hval 0 38 v0 rfl rfl) h0
  obtain ⟨A1, c1, l, rfl, i1, j1, k1⟩ := arg_slice Try.underlying50 (opens_slice Try.underlying50 (by kernel_rfl) (by decide) (opens_int Try.underlying3)) (hval 1 50 v1 rfl rfl) h1
  have hs : e_w_FnExactExecuteBursts.spec [eMach m, .lst ((l).map pI)] = some (pB true) := (congrFun (show e_w_FnExactExecuteBursts.spec = s_w_FnExactExecuteBursts from rfl) _).trans (law_ExecuteBursts m l (bdMachine.out hr0) (by omega))
  refine (FnOk.bool ok_w_FnExactExecuteBursts rfl rfl (.cons (encMachine.vrAgg hr0) (.cons (rowOne encInt rfl k1 i1 j1) .nil)) hs).mono fun e W' ⟨he, hb⟩ => ?_
  subst he
  exact ⟨_, rfl, law_post laidOut rfl (by kernel_rfl) rfl Try.underlying4 hW' hA1 rfl hb⟩

theorem proved : Rows.FnExactExecuteBurstsSaid :=
  OpenClaim.holds_of_wide 8 Try.f8 rfl rfl rfl rfl rfl rfl rfl ⟨rfl, rfl, rfl, rfl, rfl⟩ rfl rfl rfl rfl rfl (by kernel_rfl) Try.func8 (by kernel_rfl)
    (of_decide_eq_true (by kernel_rfl)) (by unfold Func.isWrapper; first | (rw [if_pos (by decide +kernel)]; kernel_rfl) | (rw [if_neg (by decide +kernel)]; exact ⟨rfl, rfl⟩))
    (fun os started H enc _ => lifted os started H enc)
end Go.Proofs.Ytidjggipnfapfaa.saidExecuteBursts
