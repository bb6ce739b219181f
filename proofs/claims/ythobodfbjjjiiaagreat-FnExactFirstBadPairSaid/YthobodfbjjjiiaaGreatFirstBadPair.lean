import Derived.Test.YthobodfbjjjiiaaGreatRows
import Derived.Test.YthobodfbjjjiiaaGreatOpen
import Derived.Test.YthobodfbjjjiiaaGreatJoin
import Derived.Test.YthobodfbjjjiiaaGreatFirstBadPairP
namespace Go.Proofs.YthobodfbjjjiiaaGreat.saidFirstBadPair
open Go.RowKit Go.ChangeShapes Go.WideShapes Go.ChangeAt
set_option linter.unusedVariables false
theorem own : ownKnob Tryz.prog.godebug = none := by kernel_rfl
theorem laidOut : laidOutB Tryz.prog = true := by kernel_rfl
def shSignal : Sh (List UInt8 × Int) := Sh.via (ZaT Zka ZI) (fun a => (a.1, a.2))
theorem encSignal : EncOk shSignal (fun a => [.str a.1, pI a.2]) := Zko (v := fun a : List UInt8 × Int => (a.1, a.2)) (ZdB Zn1 Zkn)
theorem bdSignal : BdOk shSignal (ZaR 9223372036854775807) := BdOk.mono (ZsD (v := fun a : List UInt8 × Int => (a.1, a.2)) (Zit ZsC Zn2)) (fun a h => h.1)
theorem opensSignal : Opens Tryz.prog shSignal 112 :=
 Zeh (Zb3 Tryz.underlying112 (by kernel_rfl) (Zav rfl (by kernel_rfl) (ZgD Tryz.underlying9) (ZcN rfl (by kernel_rfl) (Zeg Tryz.underlying3)))) _ (fun p => ⟨p.1, p.2⟩) (fun _ => rfl)
def shArc : Sh (PArc) := Sh.via (ZaT ZI (ZaT ZI (ZaT Zmt ZI))) (fun a => (a.from_, a.sig, a.up, a.to_))
theorem encArc : EncOk shArc (fun a => [pI a.from_, pI a.sig, pB a.up, pI a.to_]) := Zko (v := fun a : PArc => (a.from_, a.sig, a.up, a.to_)) (ZdB Zkn (ZdB Zkn (ZdB Zwh Zkn)))
theorem opensArc : Opens Tryz.prog shArc 132 :=
 Zeh (Zb3 Tryz.underlying132 (by kernel_rfl) (Zav rfl (by kernel_rfl) (Zeg Tryz.underlying3) (Zav rfl (by kernel_rfl) (Zeg Tryz.underlying3) (Zav rfl (by kernel_rfl) (ZnZ Tryz.underlying4) (ZcN rfl (by kernel_rfl) (Zeg Tryz.underlying3)))))) _ (fun p => ⟨p.1, p.2.1, p.2.2.1, p.2.2.2⟩) (fun _ => rfl)
def shStateGraph : Sh (PSG) := Sh.via (ZaT (Zlq shSignal) (ZaT (Zlq Zka) (Zlq shArc))) (fun a => (a.signals, a.codes, a.arcs))
theorem encStateGraph : EncOk shStateGraph (fun a => [.lst ((a.signals).map ZE), .lst ((a.codes).map PV.str), .lst ((a.arcs).map Z4)]) := Zko (v := fun a : PSG => (a.signals, a.codes, a.arcs)) (ZdB (Zis encSignal) (ZdB (ZsB Zn1 rfl) (Zis encArc)))
theorem bdStateGraph : BdOk shStateGraph (Zbg 9223372036854775807) := BdOk.mono (ZsD (v := fun a : PSG => (a.signals, a.codes, a.arcs)) (Zit (ZuM bdSignal) (Zit (ZuM ZsC) (ZuM Zn2)))) (fun a h => ⟨h.1, h.2.1, h.2.2.1⟩)
theorem opensStateGraph : Opens Tryz.prog shStateGraph 26 :=
 Zeh (Zb3 Tryz.underlying26 (by kernel_rfl) (Zav rfl (by kernel_rfl) (Zb0 Tryz.underlying22 (by kernel_rfl) (by decide) opensSignal) (Zav rfl (by kernel_rfl) (Zb0 Tryz.underlying23 (by kernel_rfl) (by decide) (ZgD Tryz.underlying9)) (ZcN rfl (by kernel_rfl) (Zb0 Tryz.underlying24 (by kernel_rfl) (by decide) opensArc))))) _ (fun p => ⟨p.1, p.2.1, p.2.2⟩) (fun _ => rfl)
def shPin : Sh (Int × Bool) := Sh.via (ZaT ZI Zmt) (fun a => (a.1, a.2))
theorem encPin : EncOk shPin (fun a => [pI a.1, pB a.2]) := Zko (v := fun a : Int × Bool => (a.1, a.2)) (ZdB Zkn Zwh)
theorem opensPin : Opens Tryz.prog shPin 208 :=
 Zeh (Zb3 Tryz.underlying208 (by kernel_rfl) (Zav rfl (by kernel_rfl) (Zeg Tryz.underlying3) (ZcN rfl (by kernel_rfl) (ZnZ Tryz.underlying4)))) _ (fun p => ⟨p.1, p.2⟩) (fun _ => rfl)
def shWire : Sh (PWire) := Sh.via (ZaT Zka (ZaT ZI (ZaT (Zlq shPin) (Zlq Zka)))) (fun a => (a.name, a.kind, a.ins, a.cover))
theorem encWire : EncOk shWire (fun a => [.str a.name, pI a.kind, .lst ((a.ins).map Zad), .lst ((a.cover).map PV.str)]) := Zko (v := fun a : PWire => (a.name, a.kind, a.ins, a.cover)) (ZdB Zn1 (ZdB Zkn (ZdB (Zis encPin) (ZsB Zn1 rfl))))
theorem bdWire : BdOk shWire (Ze4 9223372036854775807) := BdOk.mono (ZsD (v := fun a : PWire => (a.name, a.kind, a.ins, a.cover)) (Zit ZsC (Zit Zn2 (Zit (ZuM Zn2) (ZuM ZsC))))) (fun a h => ⟨h.1, h.2.2.1.1, h.2.2.2⟩)
theorem opensWire : Opens Tryz.prog shWire 116 :=
 Zeh (Zb3 Tryz.underlying116 (by kernel_rfl) (Zav rfl (by kernel_rfl) (ZgD Tryz.underlying9) (Zav rfl (by kernel_rfl) (Zeg Tryz.underlying3) (Zav rfl (by kernel_rfl) (Zb0 Tryz.underlying114 (by kernel_rfl) (by decide) opensPin) (ZcN rfl (by kernel_rfl) (Zb0 Tryz.underlying23 (by kernel_rfl) (by decide) (ZgD Tryz.underlying9))))))) _ (fun p => ⟨p.1, p.2.1, p.2.2.1, p.2.2.2⟩) (fun _ => rfl)
def shNetlist : Sh (PNet) := Sh.via (ZaT (Zlq shSignal) (Zlq shWire)) (fun a => (a.signals, a.wires))
theorem encNetlist : EncOk shNetlist (fun a => [.lst ((a.signals).map ZE), .lst ((a.wires).map Zu)]) := Zko (v := fun a : PNet => (a.signals, a.wires)) (ZdB (Zis encSignal) (Zis encWire))
theorem bdNetlist : BdOk shNetlist (ZdX 9223372036854775807) := BdOk.mono (ZsD (v := fun a : PNet => (a.signals, a.wires)) (Zit (ZuM bdSignal) (ZuM bdWire))) (fun a h => ⟨h.1, h.2⟩)
theorem opensNetlist : Opens Tryz.prog shNetlist 29 :=
 Zeh (Zb3 Tryz.underlying29 (by kernel_rfl) (Zav rfl (by kernel_rfl) (Zb0 Tryz.underlying22 (by kernel_rfl) (by decide) opensSignal) (ZcN rfl (by kernel_rfl) (Zb0 Tryz.underlying27 (by kernel_rfl) (by decide) opensWire)))) _ (fun p => ⟨p.1, p.2⟩) (fun _ => rfl)
def shSimulationPair : Sh (PSt) := Sh.via (ZaT ZI Zka) (fun a => (a.state, a.values))
theorem encSimulationPair : EncOk shSimulationPair (fun a => [pI a.state, .str a.values]) := Zko (v := fun a : PSt => (a.state, a.values)) (ZdB Zkn Zn1)
theorem bdSimulationPair : BdOk shSimulationPair (Zv 9223372036854775807) := BdOk.mono (ZsD (v := fun a : PSt => (a.state, a.values)) (Zit Zn2 ZsC)) (fun a h => h.2)
theorem opensSimulationPair : Opens Tryz.prog shSimulationPair 95 :=
 Zeh (Zb3 Tryz.underlying95 (by kernel_rfl) (Zav rfl (by kernel_rfl) (Zeg Tryz.underlying3) (ZcN rfl (by kernel_rfl) (ZgD Tryz.underlying9)))) _ (fun p => ⟨p.1, p.2⟩) (fun _ => rfl)
set_option maxRecDepth 100000 in
theorem lifted (os : Os) (started : os.Started) (H : Type) (enc : TypeId × Value → H) :
 ReturnsInHanded {} Tryz.checked os 5 .any (Rows.fnExactFirstBadPairSpec.pre6 enc Tryz.prog Tryz.f5 Rows.fnExactFirstBadPairRow.domain false) (Rows.fnExactFirstBadPairSpec.post enc Tryz.prog Tryz.f5 false true false false) := by
 refine returnsInHanded_of_change (C := Tryz.checked) own started (by kernel_rfl) Tryz.func5
  (ChangeSpec.witness6 (enc := enc) (C := Tryz.checked) false ⟨#[], #[.agg #[.slice none 0 0, .slice none 0 0, .slice none 0 0], .agg #[.slice none 0 0, .slice none 0 0], .slice none 0 0], []⟩ 8 (by kernel_rfl) (by kernel_rfl) (by kernel_rfl) (by kernel_rfl)) ?_
 intro W base args ds gs before hval0 hW hcnd _
 have hval : ∀ (j : Nat) t v, Tryz.f5.params[j]? = some t → args[j]? = some v → Value.okWide Tryz.prog W .any base t v := hval0
 have hW' := hW
 obtain ⟨p, q, hA0, hV, rfl, hfz, hnd⟩ := hW
 have hA : DataW.TrodAll enc Tryz.prog W 0 (fun _ => true) true Tryz.f5.params.toList args.toList ds p := hA0
 have hA1 := hA
 rw [Tryz.params5] at hA hval
 obtain ⟨v0, vs0, d0, ds0, p0, q0, hargs, rfl, rfl, h0, r0⟩ := trodAll_cons hA
 obtain ⟨v1, vs1, d1, ds1, p1, q1, rfl, rfl, rfl, h1, r1⟩ := trodAll_cons r0
 obtain ⟨v2, vs2, d2, ds2, p2, q2, rfl, rfl, rfl, h2, r2⟩ := trodAll_cons r1
 obtain ⟨rfl, rfl, rfl⟩ := trodAll_nil r2
 obtain rfl : args = #[v0, v1, v2] := by cases args; simp_all
 obtain ⟨rfl, rfl⟩ := trodVars_none hV
 simp only [List.append_nil] at hW' hA1
 obtain ⟨cs0, c, rfl, hr0⟩ := Zn0 Tryz.underlying26 opensStateGraph (hval 0 26 v0 rfl rfl) h0
 obtain ⟨cs1, n, rfl, hr1⟩ := Zn0 Tryz.underlying29 opensNetlist (hval 1 29 v1 rfl rfl) h1
 obtain ⟨A2, c2, l, rfl, i2, j2, k2⟩ := Zxg Tryz.underlying54 (Zb0 Tryz.underlying54 (by kernel_rfl) (by decide) opensSimulationPair) (hval 2 54 v2 rfl rfl) h2
 have hs : Zxh.spec [eSG c, ZP n, .lst ((l).map ePs)] = some (pB true) := (congrFun (show Zxh.spec = Zxi from rfl) _).trans (ZzF c n l (bdStateGraph.out hr0) (bdNetlist.out hr1) ⟨by omega, bdRA bdSimulationPair k2⟩)
 refine (FnOk.bool Zx5 rfl rfl (.cons (encStateGraph.vrAgg hr0) (.cons (encNetlist.vrAgg hr1) (.cons (Zya encSimulationPair k2 i2 j2) .nil))) hs).mono fun e W' ⟨he, hb⟩ => ?_
 subst he
 exact ⟨_, rfl, Zx7 laidOut rfl (by kernel_rfl) rfl Tryz.underlying4 hW' hA1 rfl hb⟩
set_option maxHeartbeats 4000000 in
set_option maxRecDepth 100000 in
theorem joined : joinedFacts Tryz.pinned.checked.prog 5 Tryz.f5 Rows.fnExactFirstBadPairSpec Rows.fnExactFirstBadPairRow = true := by
 unfold joinedFacts
 repeat' (first | with_reducible (refine Bool.and_eq_true_iff.mpr ⟨?_, ?_⟩) | decide +kernel)
theorem proved : Rows.FnExactFirstBadPairSaid :=
 OpenClaim.holds_of_wide 5 Tryz.f5 rfl rfl rfl rfl rfl rfl rfl ⟨rfl, rfl, rfl, rfl, rfl⟩ rfl rfl rfl rfl rfl (by kernel_rfl) Tryz.func5 joined
  (of_decide_eq_true (by kernel_rfl)) (by unfold Func.isWrapper; first | (rw [if_pos (by decide +kernel)]; kernel_rfl) | (rw [if_neg (by decide +kernel)]; exact ⟨rfl, rfl⟩))
  (fun os started H enc _ => lifted os started H enc)
end Go.Proofs.YthobodfbjjjiiaaGreat.saidFirstBadPair
