/-
  FnExactIsVerifiedSaid: for every argument that can be read, FnExactIsVerified returns true and leaves its arguments as they were. No condition.
-/
import Derived.Test.YtmfplddmccggkaaGreatRows
import Derived.Test.YtmfplddmccggkaaGreatOpen
import Derived.Test.YtmfplddmccggkaaGreatJoin
import Derived.Test.YtmfplddmccggkaaGreatIsVerifiedP
namespace Go.Proofs.YtmfplddmccggkaaGreat.saidIsVerified
open Go.RowKit Go.ChangeShapes Go.WideShapes Go.ChangeAt
set_option linter.unusedVariables false

theorem own : ownKnob Tryz.prog.godebug = none := by kernel_rfl
theorem laidOut : laidOutB Tryz.prog = true := by kernel_rfl
def shSignal : Sh (List UInt8 × Int) := Sh.via (shPair shStr shInt) (fun a => (a.1, a.2))
theorem encSignal : EncOk shSignal (fun a => [.str a.1, pI a.2]) := encVia (v := fun a : List UInt8 × Int => (a.1, a.2)) (encPair encStr encInt)
theorem bdSignal : BdOk shSignal (BdSignal 9223372036854775807) := BdOk.mono (bdVia (v := fun a : List UInt8 × Int => (a.1, a.2)) (bdPair bdStr bdTrue)) (fun a h => h.1)
theorem opensSignal : Opens Tryz.prog shSignal 141 :=
  opens_via (opens_struct Tryz.underlying141 (by kernel_rfl) (opensFs_cons rfl (by kernel_rfl) (opens_str Tryz.underlying9) (opensFs_one rfl (by kernel_rfl) (opens_int Tryz.underlying3)))) _ (fun p => ⟨p.1, p.2⟩) (fun _ => rfl)
def shArc : Sh (PArc) := Sh.via (shPair shInt (shPair shInt (shPair shBool shInt))) (fun a => (a.from_, a.sig, a.up, a.to_))
theorem encArc : EncOk shArc (fun a => [pI a.from_, pI a.sig, pB a.up, pI a.to_]) := encVia (v := fun a : PArc => (a.from_, a.sig, a.up, a.to_)) (encPair encInt (encPair encInt (encPair encBool encInt)))
theorem opensArc : Opens Tryz.prog shArc 155 :=
  opens_via (opens_struct Tryz.underlying155 (by kernel_rfl) (opensFs_cons rfl (by kernel_rfl) (opens_int Tryz.underlying3) (opensFs_cons rfl (by kernel_rfl) (opens_int Tryz.underlying3) (opensFs_cons rfl (by kernel_rfl) (opens_bool Tryz.underlying4) (opensFs_one rfl (by kernel_rfl) (opens_int Tryz.underlying3)))))) _ (fun p => ⟨p.1, p.2.1, p.2.2.1, p.2.2.2⟩) (fun _ => rfl)
def shStateGraph : Sh (PSG) := Sh.via (shPair (shSl shSignal) (shPair (shSl shStr) (shSl shArc))) (fun a => (a.signals, a.codes, a.arcs))
theorem encStateGraph : EncOk shStateGraph (fun a => [.lst ((a.signals).map eSig), .lst ((a.codes).map PV.str), .lst ((a.arcs).map eArc)]) := encVia (v := fun a : PSG => (a.signals, a.codes, a.arcs)) (encPair (encSlAgg encSignal) (encPair (encSlOne encStr rfl) (encSlAgg encArc)))
theorem bdStateGraph : BdOk shStateGraph (BdStateGraph 9223372036854775807) := BdOk.mono (bdVia (v := fun a : PSG => (a.signals, a.codes, a.arcs)) (bdPair (bdSl bdSignal) (bdPair (bdSl bdStr) (bdSl bdTrue)))) (fun a h => ⟨h.1, h.2.1, h.2.2.1⟩)
theorem opensStateGraph : Opens Tryz.prog shStateGraph 26 :=
  opens_via (opens_struct Tryz.underlying26 (by kernel_rfl) (opensFs_cons rfl (by kernel_rfl) (opens_slice Tryz.underlying22 (by kernel_rfl) (by decide) opensSignal) (opensFs_cons rfl (by kernel_rfl) (opens_slice Tryz.underlying23 (by kernel_rfl) (by decide) (opens_str Tryz.underlying9)) (opensFs_one rfl (by kernel_rfl) (opens_slice Tryz.underlying24 (by kernel_rfl) (by decide) opensArc))))) _ (fun p => ⟨p.1, p.2.1, p.2.2⟩) (fun _ => rfl)
def shPin : Sh (Int × Bool) := Sh.via (shPair shInt shBool) (fun a => (a.1, a.2))
theorem encPin : EncOk shPin (fun a => [pI a.1, pB a.2]) := encVia (v := fun a : Int × Bool => (a.1, a.2)) (encPair encInt encBool)
theorem opensPin : Opens Tryz.prog shPin 213 :=
  opens_via (opens_struct Tryz.underlying213 (by kernel_rfl) (opensFs_cons rfl (by kernel_rfl) (opens_int Tryz.underlying3) (opensFs_one rfl (by kernel_rfl) (opens_bool Tryz.underlying4)))) _ (fun p => ⟨p.1, p.2⟩) (fun _ => rfl)
def shWire : Sh (PWire) := Sh.via (shPair shStr (shPair shInt (shPair (shSl shPin) (shSl shStr)))) (fun a => (a.name, a.kind, a.ins, a.cover))
theorem encWire : EncOk shWire (fun a => [.str a.name, pI a.kind, .lst ((a.ins).map ePin), .lst ((a.cover).map PV.str)]) := encVia (v := fun a : PWire => (a.name, a.kind, a.ins, a.cover)) (encPair encStr (encPair encInt (encPair (encSlAgg encPin) (encSlOne encStr rfl))))
theorem bdWire : BdOk shWire (BdWire 9223372036854775807) := BdOk.mono (bdVia (v := fun a : PWire => (a.name, a.kind, a.ins, a.cover)) (bdPair bdStr (bdPair bdTrue (bdPair (bdSl bdTrue) (bdSl bdStr))))) (fun a h => ⟨h.1, h.2.2.1.1, h.2.2.2⟩)
theorem opensWire : Opens Tryz.prog shWire 145 :=
  opens_via (opens_struct Tryz.underlying145 (by kernel_rfl) (opensFs_cons rfl (by kernel_rfl) (opens_str Tryz.underlying9) (opensFs_cons rfl (by kernel_rfl) (opens_int Tryz.underlying3) (opensFs_cons rfl (by kernel_rfl) (opens_slice Tryz.underlying143 (by kernel_rfl) (by decide) opensPin) (opensFs_one rfl (by kernel_rfl) (opens_slice Tryz.underlying23 (by kernel_rfl) (by decide) (opens_str Tryz.underlying9))))))) _ (fun p => ⟨p.1, p.2.1, p.2.2.1, p.2.2.2⟩) (fun _ => rfl)
def shNetlist : Sh (PNet) := Sh.via (shPair (shSl shSignal) (shSl shWire)) (fun a => (a.signals, a.wires))
theorem encNetlist : EncOk shNetlist (fun a => [.lst ((a.signals).map eSig), .lst ((a.wires).map eWire)]) := encVia (v := fun a : PNet => (a.signals, a.wires)) (encPair (encSlAgg encSignal) (encSlAgg encWire))
theorem bdNetlist : BdOk shNetlist (BdNetlist 9223372036854775807) := BdOk.mono (bdVia (v := fun a : PNet => (a.signals, a.wires)) (bdPair (bdSl bdSignal) (bdSl bdWire))) (fun a h => ⟨h.1, h.2⟩)
theorem opensNetlist : Opens Tryz.prog shNetlist 29 :=
  opens_via (opens_struct Tryz.underlying29 (by kernel_rfl) (opensFs_cons rfl (by kernel_rfl) (opens_slice Tryz.underlying22 (by kernel_rfl) (by decide) opensSignal) (opensFs_one rfl (by kernel_rfl) (opens_slice Tryz.underlying27 (by kernel_rfl) (by decide) opensWire)))) _ (fun p => ⟨p.1, p.2⟩) (fun _ => rfl)

set_option maxRecDepth 100000 in
theorem lifted (os : Os) (started : os.Started) (H : Type) (enc : TypeId × Value → H) :
    ReturnsInHanded {} Tryz.checked os 9 .any (Rows.fnExactIsVerifiedSpec.pre6 enc Tryz.prog Tryz.f9 Rows.fnExactIsVerifiedRow.domain false) (Rows.fnExactIsVerifiedSpec.post enc Tryz.prog Tryz.f9 false true false false) := by
  refine returnsInHanded_of_change (C := Tryz.checked) own started (by kernel_rfl) Tryz.func9
    (ChangeSpec.witness6 (enc := enc) (C := Tryz.checked) false ⟨#[], #[.agg #[.slice none 0 0, .slice none 0 0, .slice none 0 0], .agg #[.slice none 0 0, .slice none 0 0]], []⟩ 8 (by kernel_rfl) (by kernel_rfl) (by kernel_rfl) (by kernel_rfl)) ?_
  intro W base args ds gs before hval0 hW hcnd _
  have hval : ∀ (j : Nat) t v, Tryz.f9.params[j]? = some t → args[j]? = some v → Value.okWide Tryz.prog W .any base t v := hval0
  have hW' := hW
  obtain ⟨p, q, hA0, hV, rfl, hfz, hnd⟩ := hW
  have hA : DataW.TrodAll enc Tryz.prog W 0 (fun _ => true) true Tryz.f9.params.toList args.toList ds p := hA0
  have hA1 := hA
  rw [Tryz.params9] at hA hval
  obtain ⟨v0, vs0, d0, ds0, p0, q0, hargs, rfl, rfl, h0, r0⟩ := trodAll_cons hA
  obtain ⟨v1, vs1, d1, ds1, p1, q1, rfl, rfl, rfl, h1, r1⟩ := trodAll_cons r0
  obtain ⟨rfl, rfl, rfl⟩ := trodAll_nil r1
  obtain rfl : args = #[v0, v1] := by cases args; simp_all
  obtain ⟨rfl, rfl⟩ := trodVars_none hV
  simp only [List.append_nil] at hW' hA1
  obtain ⟨cs0, c, rfl, hr0⟩ := arg_struct Tryz.underlying26 opensStateGraph (hval 0 26 v0 rfl rfl) h0
  obtain ⟨cs1, n, rfl, hr1⟩ := arg_struct Tryz.underlying29 opensNetlist (hval 1 29 v1 rfl rfl) h1
  have hs : e_w_FnExactIsVerified.spec [eSG c, eNet n] = some (pB true) := (congrFun (show e_w_FnExactIsVerified.spec = s_w_FnExactIsVerified from rfl) _).trans (law_IsVerified c n (bdStateGraph.out hr0) (bdNetlist.out hr1))
  refine (FnOk.bool ok_w_FnExactIsVerified rfl rfl (.cons (encStateGraph.vrAgg hr0) (.cons (encNetlist.vrAgg hr1) .nil)) hs).mono fun e W' ⟨he, hb⟩ => ?_
  subst he
  exact ⟨_, rfl, law_post laidOut rfl (by kernel_rfl) rfl Tryz.underlying4 hW' hA1 rfl hb⟩

theorem proved : Rows.FnExactIsVerifiedSaid :=
  OpenClaim.holds_of_wide 9 Tryz.f9 rfl rfl rfl rfl rfl rfl rfl ⟨rfl, rfl, rfl, rfl, rfl⟩ rfl rfl rfl rfl rfl (by kernel_rfl) Tryz.func9 (by kernel_rfl)
    (of_decide_eq_true (by kernel_rfl)) (by unfold Func.isWrapper; first | (rw [if_pos (by decide +kernel)]; kernel_rfl) | (rw [if_neg (by decide +kernel)]; exact ⟨rfl, rfl⟩))
    (fun os started H enc _ => lifted os started H enc)
end Go.Proofs.YtmfplddmccggkaaGreat.saidIsVerified
