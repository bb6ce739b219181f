import Derived.Test.YthobodfbjjjiiaaRows
import Derived.Test.YthobodfbjjjiiaaOpen
import Derived.Test.YthobodfbjjjiiaaJoin
import Derived.Test.YthobodfbjjjiiaaInitialCodeP
namespace Go.Proofs.Ythobodfbjjjiiaa.saidInitialCode
open Go.RowKit Go.ChangeShapes Go.WideShapes Go.ChangeAt
set_option linter.unusedVariables false
theorem own : ownKnob Try.prog.godebug = none := by kernel_rfl
theorem laidOut : laidOutB Try.prog = true := by kernel_rfl
def shTransition : Sh (Tr) := Sh.via (Zbf (Zg8 Ze8) (Zg8 Ze8)) (fun a => (a.pre, a.post))
theorem encTransition : EncOk shTransition (fun a => [.lst ((a.pre).map pI), .lst ((a.post).map pI)]) := Zjt (v := fun a : Tr => (a.pre, a.post)) (ZeC (Znh Zjs rfl) (Znh Zjs rfl))
theorem bdTransition : BdOk shTransition (ZS 9223372036854775807) := BdOk.mono (Zp1 (v := fun a : Tr => (a.pre, a.post)) (ZhZ (bdSl Zjv) (bdSl Zjv))) (fun a h => ⟨h.1.1, h.2.1⟩)
theorem opensTransition : Opens Try.prog shTransition 114 :=
 Zel (Zb4 Try.underlying114 (by kernel_rfl) (ZaO rfl (by kernel_rfl) (ZcH Try.underlying65 (by kernel_rfl) (by decide) (Zek Try.underlying3)) (ZcI rfl (by kernel_rfl) (ZcH Try.underlying65 (by kernel_rfl) (by decide) (Zek Try.underlying3))))) _ (fun p => ⟨p.1, p.2⟩) (fun _ => rfl)
def shNet : Sh (Net) := Sh.via (Zbf Ze8 (Zg8 shTransition)) (fun a => (a.places, a.trans))
theorem encNet : EncOk shNet (fun a => [pI a.places, .lst ((a.trans).map eTr)]) := Zjt (v := fun a : Net => (a.places, a.trans)) (ZeC Zjs (Zju encTransition))
theorem bdNet : BdOk shNet (Zgl 9223372036854775807) := BdOk.mono (Zp1 (v := fun a : Net => (a.places, a.trans)) (ZhZ Zjv (bdSl bdTransition))) (fun a h => h.2)
theorem opensNet : Opens Try.prog shNet 24 :=
 Zel (Zb4 Try.underlying24 (by kernel_rfl) (ZaO rfl (by kernel_rfl) (Zek Try.underlying3) (ZcI rfl (by kernel_rfl) (ZcH Try.underlying22 (by kernel_rfl) (by decide) opensTransition)))) _ (fun p => ⟨p.1, p.2⟩) (fun _ => rfl)
def shSignal : Sh (Sig) := Sh.via (Zbf Zjr Ze8) (fun a => (a.name, a.kind))
theorem encSignal : EncOk shSignal (fun a => [.str a.name, pI a.kind]) := Zjt (v := fun a : Sig => (a.name, a.kind)) (ZeC ZrY Zjs)
theorem bdSignal : BdOk shSignal (Zag 9223372036854775807) := BdOk.mono (Zp1 (v := fun a : Sig => (a.name, a.kind)) (ZhZ bdStr Zjv)) (fun a h => h.1)
theorem opensSignal : Opens Try.prog shSignal 90 :=
 Zel (Zb4 Try.underlying90 (by kernel_rfl) (ZaO rfl (by kernel_rfl) (Zlw Try.underlying9) (ZcI rfl (by kernel_rfl) (Zek Try.underlying3)))) _ (fun p => ⟨p.1, p.2⟩) (fun _ => rfl)
def shLabel : Sh (Lab) := Sh.via (Zbf Ze8 Zl8) (fun a => (a.sig, a.up))
theorem encLabel : EncOk shLabel (fun a => [pI a.sig, pB a.up]) := Zjt (v := fun a : Lab => (a.sig, a.up)) (ZeC Zjs Ztr)
theorem opensLabel : Opens Try.prog shLabel 94 :=
 Zel (Zb4 Try.underlying94 (by kernel_rfl) (ZaO rfl (by kernel_rfl) (Zek Try.underlying3) (ZcI rfl (by kernel_rfl) (ZoN Try.underlying4)))) _ (fun p => ⟨p.1, p.2⟩) (fun _ => rfl)
def shSTG : Sh (STG) := Sh.via (Zbf shNet (Zbf (Zg8 shSignal) (Zbf (Zg8 shLabel) Zjr))) (fun a => (a.net, a.signals, a.labels, a.start))
theorem encSTG : EncOk shSTG (fun a => [pI a.net.places, .lst ((a.net.trans).map eTr), .lst ((a.signals).map ZcV), .lst ((a.labels).map eLb), .str a.start]) := Zjt (v := fun a : STG => (a.net, a.signals, a.labels, a.start)) (ZeC encNet (ZeC (Zju encSignal) (ZeC (Zju encLabel) ZrY)))
theorem bdSTG : BdOk shSTG (ZiX 9223372036854775807) := BdOk.mono (Zp1 (v := fun a : STG => (a.net, a.signals, a.labels, a.start)) (ZhZ bdNet (ZhZ (bdSl bdSignal) (ZhZ (bdSl Zjv) bdStr)))) (fun a h => ⟨h.1, h.2.1, h.2.2.1.1, h.2.2.2⟩)
theorem opensSTG : Opens Try.prog shSTG 28 :=
 Zel (Zb4 Try.underlying28 (by kernel_rfl) (ZaO rfl (by kernel_rfl) opensNet (ZaO rfl (by kernel_rfl) (ZcH Try.underlying25 (by kernel_rfl) (by decide) opensSignal) (ZaO rfl (by kernel_rfl) (ZcH Try.underlying26 (by kernel_rfl) (by decide) opensLabel) (ZcI rfl (by kernel_rfl) (Zlw Try.underlying9)))))) _ (fun p => ⟨p.1, p.2.1, p.2.2.1, p.2.2.2⟩) (fun _ => rfl)
set_option maxRecDepth 100000 in
theorem lifted (os : Os) (started : os.Started) (H : Type) (enc : TypeId × Value → H) :
 ReturnsInHanded {} Try.checked os 3 .any (Rows.fnExactInitialCodeSpec.pre6 enc Try.prog Try.f3 Rows.fnExactInitialCodeRow.domain false) (Rows.fnExactInitialCodeSpec.post enc Try.prog Try.f3 false true false false) := by
 refine returnsInHanded_of_change (C := Try.checked) own started (by kernel_rfl) Try.func3
  (ChangeSpec.witness6 (enc := enc) (C := Try.checked) false ⟨#[], #[.agg #[.int .i64 0, .slice none 0 0, .slice none 0 0, .slice none 0 0, .string ⟨#[]⟩]], []⟩ 8 (by kernel_rfl) (by kernel_rfl) (by kernel_rfl) (by kernel_rfl)) ?_
 intro W base args ds gs before hval0 hW hcnd _
 have hval : ∀ (j : Nat) t v, Try.f3.params[j]? = some t → args[j]? = some v → Value.okWide Try.prog W .any base t v := hval0
 have hW' := hW
 obtain ⟨p, q, hA0, hV, rfl, hfz, hnd⟩ := hW
 have hA : DataW.TrodAll enc Try.prog W 0 (fun _ => true) true Try.f3.params.toList args.toList ds p := hA0
 have hA1 := hA
 rw [Try.params3] at hA hval
 obtain ⟨v0, vs0, d0, ds0, p0, q0, hargs, rfl, rfl, h0, r0⟩ := trodAll_cons hA
 obtain ⟨rfl, rfl, rfl⟩ := trodAll_nil r0
 obtain rfl : args = #[v0] := by cases args; simp_all
 obtain ⟨rfl, rfl⟩ := trodVars_none hV
 simp only [List.append_nil] at hW' hA1
 obtain ⟨cs0, s, rfl, hr0⟩ := ZoO Try.underlying28 opensSTG (hval 0 28 v0 rfl rfl) h0
 have hs : Z7.spec [ZdA s] = some (pB true) := (congrFun (show Z7.spec = Z8 from rfl) _).trans (Zi5 s (bdSTG.out hr0))
 refine (FnOk.bool Zey rfl rfl (.cons (encSTG.vrAgg hr0) .nil) hs).mono fun e W' ⟨he, hb⟩ => ?_
 subst he
 exact ⟨_, rfl, ZrW laidOut rfl (by kernel_rfl) rfl Try.underlying4 hW' hA1 rfl hb⟩
set_option maxHeartbeats 4000000 in
set_option maxRecDepth 100000 in
theorem joined : joinedFacts Try.pinned.checked.prog 3 Try.f3 Rows.fnExactInitialCodeSpec Rows.fnExactInitialCodeRow = true := by
 unfold joinedFacts
 repeat' (first | with_reducible (refine Bool.and_eq_true_iff.mpr ⟨?_, ?_⟩) | decide +kernel)
theorem proved : Rows.FnExactInitialCodeSaid :=
 OpenClaim.holds_of_wide 3 Try.f3 rfl rfl rfl rfl rfl rfl rfl ⟨rfl, rfl, rfl, rfl, rfl⟩ rfl rfl rfl rfl rfl (by kernel_rfl) Try.func3 joined
  (of_decide_eq_true (by kernel_rfl)) (by unfold Func.isWrapper; first | (rw [if_pos (by decide +kernel)]; kernel_rfl) | (rw [if_neg (by decide +kernel)]; exact ⟨rfl, rfl⟩))
  (fun os started H enc _ => lifted os started H enc)
end Go.Proofs.Ythobodfbjjjiiaa.saidInitialCode
