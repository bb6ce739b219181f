/-
  FnExactFormatFlipsSaid: for every argument that can be read, FnExactFormatFlips returns true and leaves its arguments as they were. No condition.
-/
import Derived.Test.YtmfplddmccggkaaRows
import Derived.Test.YtmfplddmccggkaaOpen
import Derived.Test.YtmfplddmccggkaaJoin
import Derived.Test.YtmfplddmccggkaaFormatFlipsP
namespace Go.Proofs.Ytmfplddmccggkaa.saidFormatFlips
open Go.RowKit Go.ChangeShapes Go.WideShapes Go.ChangeAt
set_option linter.unusedVariables false

theorem own : ownKnob Try.prog.godebug = none := by kernel_rfl
theorem laidOut : laidOutB Try.prog = true := by kernel_rfl
def shSignal : Sh (List UInt8 × Int) := Sh.via (shPair shStr shInt) (fun a => (a.1, a.2))
theorem encSignal : EncOk shSignal (fun a => [.str a.1, pI a.2]) := encVia (v := fun a : List UInt8 × Int => (a.1, a.2)) (encPair encStr encInt)
theorem bdSignal : BdOk shSignal (BdSignal 9223372036854775807) := BdOk.mono (bdVia (v := fun a : List UInt8 × Int => (a.1, a.2)) (bdPair bdStr bdTrue)) (fun a h => h.1)
theorem opensSignal : Opens Try.prog shSignal 133 :=
  opens_via (opens_struct Try.underlying133 (by kernel_rfl) (opensFs_cons rfl (by kernel_rfl) (opens_str Try.underlying9) (opensFs_one rfl (by kernel_rfl) (opens_int Try.underlying3)))) _ (fun p => ⟨p.1, p.2⟩) (fun _ => rfl)
def shPin : Sh (Int × Bool) := Sh.via (shPair shInt shBool) (fun a => (a.1, a.2))
theorem encPin : EncOk shPin (fun a => [pI a.1, pB a.2]) := encVia (v := fun a : Int × Bool => (a.1, a.2)) (encPair encInt encBool)
theorem opensPin : Opens Try.prog shPin 192 :=
  opens_via (opens_struct Try.underlying192 (by kernel_rfl) (opensFs_cons rfl (by kernel_rfl) (opens_int Try.underlying3) (opensFs_one rfl (by kernel_rfl) (opens_bool Try.underlying4)))) _ (fun p => ⟨p.1, p.2⟩) (fun _ => rfl)
def shWire : Sh (PWire) := Sh.via (shPair shStr (shPair shInt (shPair (shSl shPin) (shSl shStr)))) (fun a => (a.name, a.kind, a.ins, a.cover))
theorem encWire : EncOk shWire (fun a => [.str a.name, pI a.kind, .lst ((a.ins).map ePin), .lst ((a.cover).map PV.str)]) := encVia (v := fun a : PWire => (a.name, a.kind, a.ins, a.cover)) (encPair encStr (encPair encInt (encPair (encSlAgg encPin) (encSlOne encStr rfl))))
theorem bdWire : BdOk shWire (BdWire 9223372036854775807) := BdOk.mono (bdVia (v := fun a : PWire => (a.name, a.kind, a.ins, a.cover)) (bdPair bdStr (bdPair bdTrue (bdPair (bdSl bdTrue) (bdSl bdStr))))) (fun a h => ⟨h.1, h.2.2.1.1, h.2.2.2⟩)
theorem opensWire : Opens Try.prog shWire 137 :=
  opens_via (opens_struct Try.underlying137 (by kernel_rfl) (opensFs_cons rfl (by kernel_rfl) (opens_str Try.underlying9) (opensFs_cons rfl (by kernel_rfl) (opens_int Try.underlying3) (opensFs_cons rfl (by kernel_rfl) (opens_slice Try.underlying135 (by kernel_rfl) (by decide) opensPin) (opensFs_one rfl (by kernel_rfl) (opens_slice Try.underlying41 (by kernel_rfl) (by decide) (opens_str Try.underlying9))))))) _ (fun p => ⟨p.1, p.2.1, p.2.2.1, p.2.2.2⟩) (fun _ => rfl)
def shNetlist : Sh (PNet) := Sh.via (shPair (shSl shSignal) (shSl shWire)) (fun a => (a.signals, a.wires))
theorem encNetlist : EncOk shNetlist (fun a => [.lst ((a.signals).map eSig), .lst ((a.wires).map eWire)]) := encVia (v := fun a : PNet => (a.signals, a.wires)) (encPair (encSlAgg encSignal) (encSlAgg encWire))
theorem bdNetlist : BdOk shNetlist (BdNetlist 9223372036854775807) := BdOk.mono (bdVia (v := fun a : PNet => (a.signals, a.wires)) (bdPair (bdSl bdSignal) (bdSl bdWire))) (fun a h => ⟨h.1, h.2⟩)
theorem opensNetlist : Opens Try.prog shNetlist 47 :=
  opens_via (opens_struct Try.underlying47 (by kernel_rfl) (opensFs_cons rfl (by kernel_rfl) (opens_slice Try.underlying40 (by kernel_rfl) (by decide) opensSignal) (opensFs_one rfl (by kernel_rfl) (opens_slice Try.underlying45 (by kernel_rfl) (by decide) opensWire)))) _ (fun p => ⟨p.1, p.2⟩) (fun _ => rfl)
def shProductState : Sh (PSt) := Sh.via (shPair shInt shStr) (fun a => (a.state, a.values))
theorem encProductState : EncOk shProductState (fun a => [pI a.state, .str a.values]) := encVia (v := fun a : PSt => (a.state, a.values)) (encPair encInt encStr)
theorem bdProductState : BdOk shProductState (BdProductState 9223372036854775807) := BdOk.mono (bdVia (v := fun a : PSt => (a.state, a.values)) (bdPair bdTrue bdStr)) (fun a h => h.2)
theorem opensProductState : Opens Try.prog shProductState 113 :=
  opens_via (opens_struct Try.underlying113 (by kernel_rfl) (opensFs_cons rfl (by kernel_rfl) (opens_int Try.underlying3) (opensFs_one rfl (by kernel_rfl) (opens_str Try.underlying9)))) _ (fun p => ⟨p.1, p.2⟩) (fun _ => rfl)
def shWireFlip : Sh (Flip) := Sh.via (shPair shInt (shPair shInt shInt)) (fun a => (a.from_, a.wire, a.to))
theorem encWireFlip : EncOk shWireFlip (fun a => [pI a.from_, pI a.wire, pI a.to]) := encVia (v := fun a : Flip => (a.from_, a.wire, a.to)) (encPair encInt (encPair encInt encInt))
theorem opensWireFlip : Opens Try.prog shWireFlip 122 :=
  opens_via (opens_struct Try.underlying122 (by kernel_rfl) (opensFs_cons rfl (by kernel_rfl) (opens_int Try.underlying3) (opensFs_cons rfl (by kernel_rfl) (opens_int Try.underlying3) (opensFs_one rfl (by kernel_rfl) (opens_int Try.underlying3))))) _ (fun p => ⟨p.1, p.2.1, p.2.2⟩) (fun _ => rfl)
def shProduct : Sh (ProdG) := Sh.via (shPair (shSl shProductState) (shPair (shSl shWireFlip) (shSl shWireFlip))) (fun a => (a.states, a.flips, a.extra))
theorem encProduct : EncOk shProduct (fun a => [.lst ((a.states).map ePs), .lst ((a.flips).map eFl), .lst ((a.extra).map eFl)]) := encVia (v := fun a : ProdG => (a.states, a.flips, a.extra)) (encPair (encSlAgg encProductState) (encPair (encSlAgg encWireFlip) (encSlAgg encWireFlip)))
theorem bdProduct : BdOk shProduct (BdProduct 9223372036854775807) := BdOk.mono (bdVia (v := fun a : ProdG => (a.states, a.flips, a.extra)) (bdPair (bdSl bdProductState) (bdPair (bdSl bdTrue) (bdSl bdTrue)))) (fun a h => ⟨h.1, h.2.1.1, h.2.2.1⟩)
theorem opensProduct : Opens Try.prog shProduct 25 :=
  opens_via (opens_struct Try.underlying25 (by kernel_rfl) (opensFs_cons rfl (by kernel_rfl) (opens_slice Try.underlying22 (by kernel_rfl) (by decide) opensProductState) (opensFs_cons rfl (by kernel_rfl) (opens_slice Try.underlying23 (by kernel_rfl) (by decide) opensWireFlip) (opensFs_one rfl (by kernel_rfl) (opens_slice Try.underlying23 (by kernel_rfl) (by decide) opensWireFlip))))) _ (fun p => ⟨p.1, p.2.1, p.2.2⟩) (fun _ => rfl)

set_option maxRecDepth 100000 in
theorem lifted (os : Os) (started : os.Started) (H : Type) (enc : TypeId × Value → H) :
    ReturnsInHanded {} Try.checked os 5 .any (Rows.fnExactFormatFlipsSpec.pre6 enc Try.prog Try.f5 Rows.fnExactFormatFlipsRow.domain false) (Rows.fnExactFormatFlipsSpec.post enc Try.prog Try.f5 false true false false) := by
  refine returnsInHanded_of_change (C := Try.checked) own started (by kernel_rfl) Try.func5
    (ChangeSpec.witness6 (enc := enc) (C := Try.checked) false ⟨#[], #[.agg #[.slice none 0 0, .slice none 0 0], .agg #[.slice none 0 0, .slice none 0 0, .slice none 0 0], .int .i64 0], []⟩ 8 (by kernel_rfl) (by kernel_rfl) (by kernel_rfl) (by kernel_rfl)) ?_
  intro W base args ds gs before hval0 hW hcnd _
  have hval : ∀ (j : Nat) t v, Try.f5.params[j]? = some t → args[j]? = some v → Value.okWide Try.prog W .any base t v := hval0
  have hW' := hW
  obtain ⟨p, q, hA0, hV, rfl, hfz, hnd⟩ := hW
  have hA : DataW.TrodAll enc Try.prog W 0 (fun _ => true) true Try.f5.params.toList args.toList ds p := hA0
  have hA1 := hA
  rw [Try.params5] at hA hval
  obtain ⟨v0, vs0, d0, ds0, p0, q0, hargs, rfl, rfl, h0, r0⟩ := trodAll_cons hA
  obtain ⟨v1, vs1, d1, ds1, p1, q1, rfl, rfl, rfl, h1, r1⟩ := trodAll_cons r0
  obtain ⟨v2, vs2, d2, ds2, p2, q2, rfl, rfl, rfl, h2, r2⟩ := trodAll_cons r1
  obtain ⟨rfl, rfl, rfl⟩ := trodAll_nil r2
  obtain rfl : args = #[v0, v1, v2] := by cases args; simp_all
  obtain ⟨rfl, rfl⟩ := trodVars_none hV
  simp only [List.append_nil] at hW' hA1
  obtain ⟨cs0, n, rfl, hr0⟩ := arg_struct Try.underlying47 opensNetlist (hval 0 47 v0 rfl rfl) h0
  obtain ⟨cs1, p, rfl, hr1⟩ := arg_struct Try.underlying25 opensProduct (hval 1 25 v1 rfl rfl) h1
  obtain ⟨k, rfl, i2⟩ := arg_int Try.underlying3 (hval 2 3 v2 rfl rfl) h2
  have hs : e_w_FnExactFormatFlips.spec [eNet n, ePr p, pI k] = some (pB true) := (congrFun (show e_w_FnExactFormatFlips.spec = s_w_FnExactFormatFlips from rfl) _).trans (law_FormatFlips n p k (bdNetlist.out hr0) (bdProduct.out hr1))
  refine (FnOk.bool ok_w_FnExactFormatFlips rfl rfl (.cons (encNetlist.vrAgg hr0) (.cons (encProduct.vrAgg hr1) (.cons (.int _ _) .nil))) hs).mono fun e W' ⟨he, hb⟩ => ?_
  subst he
  exact ⟨_, rfl, law_post laidOut rfl (by kernel_rfl) rfl Try.underlying4 hW' hA1 rfl hb⟩

theorem proved : Rows.FnExactFormatFlipsSaid :=
  OpenClaim.holds_of_wide 5 Try.f5 rfl rfl rfl rfl rfl rfl rfl ⟨rfl, rfl, rfl, rfl, rfl⟩ rfl rfl rfl rfl rfl (by kernel_rfl) Try.func5 (by kernel_rfl)
    (of_decide_eq_true (by kernel_rfl)) (by unfold Func.isWrapper; first | (rw [if_pos (by decide +kernel)]; kernel_rfl) | (rw [if_neg (by decide +kernel)]; exact ⟨rfl, rfl⟩))
    (fun os started H enc _ => lifted os started H enc)
end Go.Proofs.Ytmfplddmccggkaa.saidFormatFlips
