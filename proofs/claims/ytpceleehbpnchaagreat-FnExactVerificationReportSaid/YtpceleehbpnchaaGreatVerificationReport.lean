import Derived.Test.YtpceleehbpnchaaGreatRows
import Derived.Test.YtpceleehbpnchaaGreatOpen
import Derived.Test.YtpceleehbpnchaaGreatJoin
import Derived.Test.YtpceleehbpnchaaGreatVerificationReportP
namespace Go.Proofs.YtpceleehbpnchaaGreat.saidVerificationReport
open Go.RowKit Go.ChangeShapes Go.WideShapes Go.ChangeAt
set_option linter.unusedVariables false
theorem own : ownKnob Tryz.prog.godebug = none := by kernel_rfl
theorem laidOut : laidOutB Tryz.prog = true := by kernel_rfl
def shSignal : Sh (List UInt8 × Int) := Sh.via (ZaZ Zlc ZI) (fun a => (a.1, a.2))
theorem encSignal : EncOk shSignal (fun a => [.str a.1, pI a.2]) := Zmh (v := fun a : List UInt8 × Int => (a.1, a.2)) (ZdL Zrj Zmg)
theorem bdSignal : BdOk shSignal (ZaU 9223372036854775807) := BdOk.mono (ZwP (v := fun a : List UInt8 × Int => (a.1, a.2)) (Zki ZwO Zrk)) (fun a h => h.1)
theorem opensSignal : Opens Tryz.prog shSignal 137 :=
 Zfq (ZcT Tryz.underlying137 (by kernel_rfl) (ZaC rfl (by kernel_rfl) (Zjq Tryz.underlying9) (ZdG rfl (by kernel_rfl) (Zfp Tryz.underlying3)))) _ (fun p => ⟨p.1, p.2⟩) (fun _ => rfl)
def shArc : Sh (PArc) := Sh.via (ZaZ ZI (ZaZ ZI (ZaZ Zme ZI))) (fun a => (a.from_, a.sig, a.up, a.to_))
theorem encArc : EncOk shArc (fun a => [pI a.from_, pI a.sig, pB a.up, pI a.to_]) := Zmh (v := fun a : PArc => (a.from_, a.sig, a.up, a.to_)) (ZdL Zmg (ZdL Zmg (ZdL ZwN Zmg)))
theorem opensArc : Opens Tryz.prog shArc 147 :=
 Zfq (ZcT Tryz.underlying147 (by kernel_rfl) (ZaC rfl (by kernel_rfl) (Zfp Tryz.underlying3) (ZaC rfl (by kernel_rfl) (Zfp Tryz.underlying3) (ZaC rfl (by kernel_rfl) (Zn7 Tryz.underlying4) (ZdG rfl (by kernel_rfl) (Zfp Tryz.underlying3)))))) _ (fun p => ⟨p.1, p.2.1, p.2.2.1, p.2.2.2⟩) (fun _ => rfl)
def shStateGraph : Sh (PSG) := Sh.via (ZaZ (Zmf shSignal) (ZaZ (Zmf Zlc) (Zmf shArc))) (fun a => (a.signals, a.codes, a.arcs))
theorem encStateGraph : EncOk shStateGraph (fun a => [.lst ((a.signals).map ZD), .lst ((a.codes).map PV.str), .lst ((a.arcs).map Z3)]) := Zmh (v := fun a : PSG => (a.signals, a.codes, a.arcs)) (ZdL (Zil encSignal) (ZdL (ZsV Zrj rfl) (Zil encArc)))
theorem bdStateGraph : BdOk shStateGraph (Zbe 9223372036854775807) := BdOk.mono (ZwP (v := fun a : PSG => (a.signals, a.codes, a.arcs)) (Zki (Zvf bdSignal) (Zki (Zvf ZwO) (Zvf Zrk)))) (fun a h => ⟨h.1, h.2.1, h.2.2.1⟩)
theorem opensStateGraph : Opens Tryz.prog shStateGraph 26 :=
 Zfq (ZcT Tryz.underlying26 (by kernel_rfl) (ZaC rfl (by kernel_rfl) (ZcI Tryz.underlying22 (by kernel_rfl) (by decide) opensSignal) (ZaC rfl (by kernel_rfl) (ZcI Tryz.underlying23 (by kernel_rfl) (by decide) (Zjq Tryz.underlying9)) (ZdG rfl (by kernel_rfl) (ZcI Tryz.underlying24 (by kernel_rfl) (by decide) opensArc))))) _ (fun p => ⟨p.1, p.2.1, p.2.2⟩) (fun _ => rfl)
def shPin : Sh (Int × Bool) := Sh.via (ZaZ ZI Zme) (fun a => (a.1, a.2))
theorem encPin : EncOk shPin (fun a => [pI a.1, pB a.2]) := Zmh (v := fun a : Int × Bool => (a.1, a.2)) (ZdL Zmg ZwN)
theorem opensPin : Opens Tryz.prog shPin 228 :=
 Zfq (ZcT Tryz.underlying228 (by kernel_rfl) (ZaC rfl (by kernel_rfl) (Zfp Tryz.underlying3) (ZdG rfl (by kernel_rfl) (Zn7 Tryz.underlying4)))) _ (fun p => ⟨p.1, p.2⟩) (fun _ => rfl)
def shWire : Sh (PWire) := Sh.via (ZaZ Zlc (ZaZ ZI (ZaZ (Zmf shPin) (Zmf Zlc)))) (fun a => (a.name, a.kind, a.ins, a.cover))
theorem encWire : EncOk shWire (fun a => [.str a.name, pI a.kind, .lst ((a.ins).map Zac), .lst ((a.cover).map PV.str)]) := Zmh (v := fun a : PWire => (a.name, a.kind, a.ins, a.cover)) (ZdL Zrj (ZdL Zmg (ZdL (Zil encPin) (ZsV Zrj rfl))))
theorem bdWire : BdOk shWire (ZeU 9223372036854775807) := BdOk.mono (ZwP (v := fun a : PWire => (a.name, a.kind, a.ins, a.cover)) (Zki ZwO (Zki Zrk (Zki (Zvf Zrk) (Zvf ZwO))))) (fun a h => ⟨h.1, h.2.2.1.1, h.2.2.2⟩)
theorem opensWire : Opens Tryz.prog shWire 141 :=
 Zfq (ZcT Tryz.underlying141 (by kernel_rfl) (ZaC rfl (by kernel_rfl) (Zjq Tryz.underlying9) (ZaC rfl (by kernel_rfl) (Zfp Tryz.underlying3) (ZaC rfl (by kernel_rfl) (ZcI Tryz.underlying139 (by kernel_rfl) (by decide) opensPin) (ZdG rfl (by kernel_rfl) (ZcI Tryz.underlying23 (by kernel_rfl) (by decide) (Zjq Tryz.underlying9))))))) _ (fun p => ⟨p.1, p.2.1, p.2.2.1, p.2.2.2⟩) (fun _ => rfl)
def shNetlist : Sh (PNet) := Sh.via (ZaZ (Zmf shSignal) (Zmf shWire)) (fun a => (a.signals, a.wires))
theorem encNetlist : EncOk shNetlist (fun a => [.lst ((a.signals).map ZD), .lst ((a.wires).map Zo)]) := Zmh (v := fun a : PNet => (a.signals, a.wires)) (ZdL (Zil encSignal) (Zil encWire))
theorem bdNetlist : BdOk shNetlist (ZdH 9223372036854775807) := BdOk.mono (ZwP (v := fun a : PNet => (a.signals, a.wires)) (Zki (Zvf bdSignal) (Zvf bdWire))) (fun a h => ⟨h.1, h.2⟩)
theorem opensNetlist : Opens Tryz.prog shNetlist 29 :=
 Zfq (ZcT Tryz.underlying29 (by kernel_rfl) (ZaC rfl (by kernel_rfl) (ZcI Tryz.underlying22 (by kernel_rfl) (by decide) opensSignal) (ZdG rfl (by kernel_rfl) (ZcI Tryz.underlying27 (by kernel_rfl) (by decide) opensWire)))) _ (fun p => ⟨p.1, p.2⟩) (fun _ => rfl)
set_option maxRecDepth 100000 in
theorem lifted (os : Os) (started : os.Started) (H : Type) (enc : TypeId × Value → H) :
 ReturnsInHanded {} Tryz.checked os 8 .any (Rows.fnExactVerificationReportSpec.pre6 enc Tryz.prog Tryz.f8 Rows.fnExactVerificationReportRow.domain false) (Rows.fnExactVerificationReportSpec.post enc Tryz.prog Tryz.f8 false true false false) := by
 refine returnsInHanded_of_change (C := Tryz.checked) own started (by kernel_rfl) Tryz.func8
  (ChangeSpec.witness6 (enc := enc) (C := Tryz.checked) false ⟨#[], #[.agg #[.slice none 0 0, .slice none 0 0, .slice none 0 0], .agg #[.slice none 0 0, .slice none 0 0]], []⟩ 8 (by kernel_rfl) (by kernel_rfl) (by kernel_rfl) (by kernel_rfl)) ?_
 intro W base args ds gs before hval0 hW hcnd _
 have hval : ∀ (j : Nat) t v, Tryz.f8.params[j]? = some t → args[j]? = some v → Value.okWide Tryz.prog W .any base t v := hval0
 have hW' := hW
 obtain ⟨p, q, hA0, hV, rfl, hfz, hnd⟩ := hW
 have hA : DataW.TrodAll enc Tryz.prog W 0 (fun _ => true) true Tryz.f8.params.toList args.toList ds p := hA0
 have hA1 := hA
 rw [Tryz.params8] at hA hval
 obtain ⟨v0, vs0, d0, ds0, p0, q0, hargs, rfl, rfl, h0, r0⟩ := trodAll_cons hA
 obtain ⟨v1, vs1, d1, ds1, p1, q1, rfl, rfl, rfl, h1, r1⟩ := trodAll_cons r0
 obtain ⟨rfl, rfl, rfl⟩ := trodAll_nil r1
 obtain rfl : args = #[v0, v1] := by cases args; simp_all
 obtain ⟨rfl, rfl⟩ := trodVars_none hV
 simp only [List.append_nil] at hW' hA1
 obtain ⟨cs0, c, rfl, hr0⟩ := Zn8 Tryz.underlying26 opensStateGraph (hval 0 26 v0 rfl rfl) h0
 obtain ⟨cs1, n, rfl, hr1⟩ := Zn8 Tryz.underlying29 opensNetlist (hval 1 29 v1 rfl rfl) h1
 have hs : ZxS.spec [eSG c, Zp n] = some (pB true) := (congrFun (show ZxS.spec = ZxU from rfl) _).trans (ZBj c n (bdStateGraph.out hr0) (bdNetlist.out hr1))
 refine (FnOk.bool Zz0 rfl rfl (.cons (encStateGraph.vrAgg hr0) (.cons (encNetlist.vrAgg hr1) .nil)) hs).mono fun e W' ⟨he, hb⟩ => ?_
 subst he
 exact ⟨_, rfl, ZyJ laidOut rfl (by kernel_rfl) rfl Tryz.underlying4 hW' hA1 rfl hb⟩
set_option maxHeartbeats 4000000 in
set_option maxRecDepth 100000 in
theorem joined : joinedFacts Tryz.pinned.checked.prog 8 Tryz.f8 Rows.fnExactVerificationReportSpec Rows.fnExactVerificationReportRow = true := by
 unfold joinedFacts
 repeat' (first | with_reducible (refine Bool.and_eq_true_iff.mpr ⟨?_, ?_⟩) | decide +kernel)
theorem proved : Rows.FnExactVerificationReportSaid :=
 OpenClaim.holds_of_wide 8 Tryz.f8 rfl rfl rfl rfl rfl rfl rfl ⟨rfl, rfl, rfl, rfl, rfl⟩ rfl rfl rfl rfl rfl (by kernel_rfl) Tryz.func8 joined
  (of_decide_eq_true (by kernel_rfl)) (by unfold Func.isWrapper; first | (rw [if_pos (by decide +kernel)]; kernel_rfl) | (rw [if_neg (by decide +kernel)]; exact ⟨rfl, rfl⟩))
  (fun os started H enc _ => lifted os started H enc)
end Go.Proofs.YtpceleehbpnchaaGreat.saidVerificationReport
