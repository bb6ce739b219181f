import Derived.Test.YtpceleehbpnchaaGreatRows
import Derived.Test.YtpceleehbpnchaaGreatOpen
import Derived.Test.YtpceleehbpnchaaGreatJoin
import Derived.Test.YtpceleehbpnchaaGreatConformanceReportP
namespace Go.Proofs.YtpceleehbpnchaaGreat.saidConformanceReport
open Go.RowKit Go.ChangeShapes Go.WideShapes Go.ChangeAt
set_option linter.unusedVariables false
theorem own : ownKnob Tryz.prog.godebug = none := by kernel_rfl
theorem laidOut : laidOutB Tryz.prog = true := by kernel_rfl
def shSignal : Sh (List UInt8 × Int) := Sh.via (Zat ZdO Zt) (fun a => (a.1, a.2))
theorem encSignal : EncOk shSignal (fun a => [.str a.1, pI a.2]) := ZmP (v := fun a : List UInt8 × Int => (a.1, a.2)) (ZdR Zr7 ZmO)
theorem bdSignal : BdOk shSignal (ZaV 9223372036854775807) := BdOk.mono (ZxR (v := fun a : List UInt8 × Int => (a.1, a.2)) (ZkM ZxQ Zr8)) (fun a h => h.1)
theorem opensSignal : Opens Tryz.prog shSignal 137 :=
 ZfD (ZcZ Tryz.underlying137 (by kernel_rfl) (ZaD rfl (by kernel_rfl) (ZjO Tryz.underlying9) (ZdN rfl (by kernel_rfl) (ZfC Tryz.underlying3)))) _ (fun p => ⟨p.1, p.2⟩) (fun _ => rfl)
def shArc : Sh (PArc) := Sh.via (Zat Zt (Zat Zt (Zat ZkL Zt))) (fun a => (a.from_, a.sig, a.up, a.to_))
theorem encArc : EncOk shArc (fun a => [pI a.from_, pI a.sig, pB a.up, pI a.to_]) := ZmP (v := fun a : PArc => (a.from_, a.sig, a.up, a.to_)) (ZdR ZmO (ZdR ZmO (ZdR ZxP ZmO)))
theorem opensArc : Opens Tryz.prog shArc 147 :=
 ZfD (ZcZ Tryz.underlying147 (by kernel_rfl) (ZaD rfl (by kernel_rfl) (ZfC Tryz.underlying3) (ZaD rfl (by kernel_rfl) (ZfC Tryz.underlying3) (ZaD rfl (by kernel_rfl) (Zoz Tryz.underlying4) (ZdN rfl (by kernel_rfl) (ZfC Tryz.underlying3)))))) _ (fun p => ⟨p.1, p.2.1, p.2.2.1, p.2.2.2⟩) (fun _ => rfl)
def shStateGraph : Sh (PSG) := Sh.via (Zat (Zix shSignal) (Zat (Zix ZdO) (Zix shArc))) (fun a => (a.signals, a.codes, a.arcs))
theorem encStateGraph : EncOk shStateGraph (fun a => [.lst ((a.signals).map ZD), .lst ((a.codes).map PV.str), .lst ((a.arcs).map Z2)]) := ZmP (v := fun a : PSG => (a.signals, a.codes, a.arcs)) (ZdR (ZiF encSignal) (ZdR (ZtL Zr7 rfl) (ZiF encArc)))
theorem bdStateGraph : BdOk shStateGraph (Zbg 9223372036854775807) := BdOk.mono (ZxR (v := fun a : PSG => (a.signals, a.codes, a.arcs)) (ZkM (Zv8 bdSignal) (ZkM (Zv8 ZxQ) (Zv8 Zr8)))) (fun a h => ⟨h.1, h.2.1, h.2.2.1⟩)
theorem opensStateGraph : Opens Tryz.prog shStateGraph 26 :=
 ZfD (ZcZ Tryz.underlying26 (by kernel_rfl) (ZaD rfl (by kernel_rfl) (ZcL Tryz.underlying22 (by kernel_rfl) (by decide) opensSignal) (ZaD rfl (by kernel_rfl) (ZcL Tryz.underlying23 (by kernel_rfl) (by decide) (ZjO Tryz.underlying9)) (ZdN rfl (by kernel_rfl) (ZcL Tryz.underlying24 (by kernel_rfl) (by decide) opensArc))))) _ (fun p => ⟨p.1, p.2.1, p.2.2⟩) (fun _ => rfl)
def shPin : Sh (Int × Bool) := Sh.via (Zat Zt ZkL) (fun a => (a.1, a.2))
theorem encPin : EncOk shPin (fun a => [pI a.1, pB a.2]) := ZmP (v := fun a : Int × Bool => (a.1, a.2)) (ZdR ZmO ZxP)
theorem opensPin : Opens Tryz.prog shPin 228 :=
 ZfD (ZcZ Tryz.underlying228 (by kernel_rfl) (ZaD rfl (by kernel_rfl) (ZfC Tryz.underlying3) (ZdN rfl (by kernel_rfl) (Zoz Tryz.underlying4)))) _ (fun p => ⟨p.1, p.2⟩) (fun _ => rfl)
def shWire : Sh (PWire) := Sh.via (Zat ZdO (Zat Zt (Zat (Zix shPin) (Zix ZdO)))) (fun a => (a.name, a.kind, a.ins, a.cover))
theorem encWire : EncOk shWire (fun a => [.str a.name, pI a.kind, .lst ((a.ins).map Zac), .lst ((a.cover).map PV.str)]) := ZmP (v := fun a : PWire => (a.name, a.kind, a.ins, a.cover)) (ZdR Zr7 (ZdR ZmO (ZdR (ZiF encPin) (ZtL Zr7 rfl))))
theorem bdWire : BdOk shWire (Ze4 9223372036854775807) := BdOk.mono (ZxR (v := fun a : PWire => (a.name, a.kind, a.ins, a.cover)) (ZkM ZxQ (ZkM Zr8 (ZkM (Zv8 Zr8) (Zv8 ZxQ))))) (fun a h => ⟨h.1, h.2.2.1.1, h.2.2.2⟩)
theorem opensWire : Opens Tryz.prog shWire 141 :=
 ZfD (ZcZ Tryz.underlying141 (by kernel_rfl) (ZaD rfl (by kernel_rfl) (ZjO Tryz.underlying9) (ZaD rfl (by kernel_rfl) (ZfC Tryz.underlying3) (ZaD rfl (by kernel_rfl) (ZcL Tryz.underlying139 (by kernel_rfl) (by decide) opensPin) (ZdN rfl (by kernel_rfl) (ZcL Tryz.underlying23 (by kernel_rfl) (by decide) (ZjO Tryz.underlying9))))))) _ (fun p => ⟨p.1, p.2.1, p.2.2.1, p.2.2.2⟩) (fun _ => rfl)
def shNetlist : Sh (PNet) := Sh.via (Zat (Zix shSignal) (Zix shWire)) (fun a => (a.signals, a.wires))
theorem encNetlist : EncOk shNetlist (fun a => [.lst ((a.signals).map ZD), .lst ((a.wires).map Zn)]) := ZmP (v := fun a : PNet => (a.signals, a.wires)) (ZdR (ZiF encSignal) (ZiF encWire))
theorem bdNetlist : BdOk shNetlist (ZdP 9223372036854775807) := BdOk.mono (ZxR (v := fun a : PNet => (a.signals, a.wires)) (ZkM (Zv8 bdSignal) (Zv8 bdWire))) (fun a h => ⟨h.1, h.2⟩)
theorem opensNetlist : Opens Tryz.prog shNetlist 29 :=
 ZfD (ZcZ Tryz.underlying29 (by kernel_rfl) (ZaD rfl (by kernel_rfl) (ZcL Tryz.underlying22 (by kernel_rfl) (by decide) opensSignal) (ZdN rfl (by kernel_rfl) (ZcL Tryz.underlying27 (by kernel_rfl) (by decide) opensWire)))) _ (fun p => ⟨p.1, p.2⟩) (fun _ => rfl)
set_option maxRecDepth 100000 in
theorem lifted (os : Os) (started : os.Started) (H : Type) (enc : TypeId × Value → H) :
 ReturnsInHanded {} Tryz.checked os 7 .any (Rows.fnExactConformanceReportSpec.pre6 enc Tryz.prog Tryz.f7 Rows.fnExactConformanceReportRow.domain false) (Rows.fnExactConformanceReportSpec.post enc Tryz.prog Tryz.f7 false true false false) := by
 refine returnsInHanded_of_change (C := Tryz.checked) own started (by kernel_rfl) Tryz.func7
  (ChangeSpec.witness6 (enc := enc) (C := Tryz.checked) false ⟨#[], #[.agg #[.slice none 0 0, .slice none 0 0, .slice none 0 0], .agg #[.slice none 0 0, .slice none 0 0]], []⟩ 8 (by kernel_rfl) (by kernel_rfl) (by kernel_rfl) (by kernel_rfl)) ?_
 intro W base args ds gs before hval0 hW hcnd _
 have hval : ∀ (j : Nat) t v, Tryz.f7.params[j]? = some t → args[j]? = some v → Value.okWide Tryz.prog W .any base t v := hval0
 have hW' := hW
 obtain ⟨p, q, hA0, hV, rfl, hfz, hnd⟩ := hW
 have hA : DataW.TrodAll enc Tryz.prog W 0 (fun _ => true) true Tryz.f7.params.toList args.toList ds p := hA0
 have hA1 := hA
 rw [Tryz.params7] at hA hval
 obtain ⟨v0, vs0, d0, ds0, p0, q0, hargs, rfl, rfl, h0, r0⟩ := trodAll_cons hA
 obtain ⟨v1, vs1, d1, ds1, p1, q1, rfl, rfl, rfl, h1, r1⟩ := trodAll_cons r0
 obtain ⟨rfl, rfl, rfl⟩ := trodAll_nil r1
 obtain rfl : args = #[v0, v1] := by cases args; simp_all
 obtain ⟨rfl, rfl⟩ := trodVars_none hV
 simp only [List.append_nil] at hW' hA1
 obtain ⟨cs0, c, rfl, hr0⟩ := ZoA Tryz.underlying26 opensStateGraph (hval 0 26 v0 rfl rfl) h0
 obtain ⟨cs1, n, rfl, hr1⟩ := ZoA Tryz.underlying29 opensNetlist (hval 1 29 v1 rfl rfl) h1
 have hs : Zay.spec [eSG c, Zo n] = some (pB true) := (congrFun (show Zay.spec = Zaz from rfl) _).trans (ZiA c n (bdStateGraph.out hr0) (bdNetlist.out hr1))
 refine (FnOk.bool ZeX rfl rfl (.cons (encStateGraph.vrAgg hr0) (.cons (encNetlist.vrAgg hr1) .nil)) hs).mono fun e W' ⟨he, hb⟩ => ?_
 subst he
 exact ⟨_, rfl, ZzT laidOut rfl (by kernel_rfl) rfl Tryz.underlying4 hW' hA1 rfl hb⟩
set_option maxHeartbeats 4000000 in
set_option maxRecDepth 100000 in
theorem joined : joinedFacts Tryz.pinned.checked.prog 7 Tryz.f7 Rows.fnExactConformanceReportSpec Rows.fnExactConformanceReportRow = true := by
 unfold joinedFacts
 repeat' (first | with_reducible (refine Bool.and_eq_true_iff.mpr ⟨?_, ?_⟩) | decide +kernel)
theorem proved : Rows.FnExactConformanceReportSaid :=
 OpenClaim.holds_of_wide 7 Tryz.f7 rfl rfl rfl rfl rfl rfl rfl ⟨rfl, rfl, rfl, rfl, rfl⟩ rfl rfl rfl rfl rfl (by kernel_rfl) Tryz.func7 joined
  (of_decide_eq_true (by kernel_rfl)) (by unfold Func.isWrapper; first | (rw [if_pos (by decide +kernel)]; kernel_rfl) | (rw [if_neg (by decide +kernel)]; exact ⟨rfl, rfl⟩))
  (fun os started H enc _ => lifted os started H enc)
end Go.Proofs.YtpceleehbpnchaaGreat.saidConformanceReport
