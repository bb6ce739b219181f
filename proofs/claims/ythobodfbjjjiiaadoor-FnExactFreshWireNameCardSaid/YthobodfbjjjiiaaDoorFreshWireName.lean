import Derived.Test.YthobodfbjjjiiaaDoorRows
import Derived.Test.YthobodfbjjjiiaaDoorOpen
import Derived.Test.YthobodfbjjjiiaaDoorJoin
import Derived.Test.YthobodfbjjjiiaaDoorFreshWireNameP
import Derived.Test.YthobodfbjjjiiaaDoorCards
import Derived.Test.YthobodfbjjjiiaaDoorTie
import Derived.SevenTiedAt
import Derived.ProofKit
import Derived.LaidMore
import Derived.OpenShut
import Derived.Stop.Joined
import Derived.LaidSub
import Derived.Lib.LaidTab
namespace Go.Proofs.YthobodfbjjjiiaaDoor.saidFreshWireName
open Go.RowKit Go.ChangeShapes Go.WideShapes Go.ChangeAt
set_option linter.unusedVariables false
theorem own : ownKnob Tryd.prog.godebug = none := by kernel_rfl
theorem laidOut : laidOutB Tryd.prog = true := by kernel_rfl
def shSignal : Sh (List UInt8 × Int) := Sh.via (Zhg Zoa ZhW) (fun a => (a.1, a.2))
theorem encSignal : EncOk shSignal (fun a => [.str a.1, pI a.2]) := Zok (v := fun a : List UInt8 × Int => (a.1, a.2)) (Zks Zpe Zjj)
theorem bdSignal : BdOk shSignal (ZkE 9223372036854775807) := BdOk.mono (ZpV (v := fun a : List UInt8 × Int => (a.1, a.2)) (Znv ZpU Zpf)) (fun a h => h.1)
theorem opensSignal : Opens Tryd.prog shSignal 122 :=
 ZiH (ZfD Tryd.underlying122 (by kernel_rfl) (ZfC rfl (by kernel_rfl) (Zm8 Tryd.underlying9) (Zgh rfl (by kernel_rfl) (Zff Tryd.underlying3)))) _ (fun p => ⟨p.1, p.2⟩) (fun _ => rfl)
def shPin : Sh (Int × Bool) := Sh.via (Zhg ZhW Zpd) (fun a => (a.1, a.2))
theorem encPin : EncOk shPin (fun a => [pI a.1, pB a.2]) := Zok (v := fun a : Int × Bool => (a.1, a.2)) (Zks Zjj Zqa)
theorem opensPin : Opens Tryd.prog shPin 188 :=
 ZiH (ZfD Tryd.underlying188 (by kernel_rfl) (ZfC rfl (by kernel_rfl) (Zff Tryd.underlying3) (Zgh rfl (by kernel_rfl) (Zpb Tryd.underlying4)))) _ (fun p => ⟨p.1, p.2⟩) (fun _ => rfl)
def shWire : Sh (PWire) := Sh.via (Zhg Zoa (Zhg ZhW (Zhg (ZoK shPin) (ZoK Zoa)))) (fun a => (a.name, a.kind, a.ins, a.cover))
theorem encWire : EncOk shWire (fun a => [.str a.name, pI a.kind, .lst ((a.ins).map ZkW), .lst ((a.cover).map PV.str)]) := Zok (v := fun a : PWire => (a.name, a.kind, a.ins, a.cover)) (Zks Zpe (Zks Zjj (Zks (Znu encPin) (ZpT Zpe rfl))))
theorem bdWire : BdOk shWire (ZlB 9223372036854775807) := BdOk.mono (ZpV (v := fun a : PWire => (a.name, a.kind, a.ins, a.cover)) (Znv ZpU (Znv Zpf (Znv (bdSl Zpf) (bdSl ZpU))))) (fun a h => ⟨h.1, h.2.2.1.1, h.2.2.2⟩)
theorem opensWire : Opens Tryd.prog shWire 126 :=
 ZiH (ZfD Tryd.underlying126 (by kernel_rfl) (ZfC rfl (by kernel_rfl) (Zm8 Tryd.underlying9) (ZfC rfl (by kernel_rfl) (Zff Tryd.underlying3) (ZfC rfl (by kernel_rfl) (Zgg Tryd.underlying124 (by kernel_rfl) (by decide) opensPin) (Zgh rfl (by kernel_rfl) (Zgg Tryd.underlying66 (by kernel_rfl) (by decide) (Zm8 Tryd.underlying9))))))) _ (fun p => ⟨p.1, p.2.1, p.2.2.1, p.2.2.2⟩) (fun _ => rfl)
def shNetlist : Sh (PNet) := Sh.via (Zhg (ZoK shSignal) (ZoK shWire)) (fun a => (a.signals, a.wires))
theorem encNetlist : EncOk shNetlist (fun a => [.lst ((a.signals).map Zkt), .lst ((a.wires).map ZiU)]) := Zok (v := fun a : PNet => (a.signals, a.wires)) (Zks (Znu encSignal) (Znu encWire))
theorem bdNetlist : BdOk shNetlist (Zlg 9223372036854775807) := BdOk.mono (ZpV (v := fun a : PNet => (a.signals, a.wires)) (Znv (bdSl bdSignal) (bdSl bdWire))) (fun a h => ⟨h.1, h.2⟩)
theorem opensNetlist : Opens Tryd.prog shNetlist 33 :=
 ZiH (ZfD Tryd.underlying33 (by kernel_rfl) (ZfC rfl (by kernel_rfl) (Zgg Tryd.underlying30 (by kernel_rfl) (by decide) opensSignal) (Zgh rfl (by kernel_rfl) (Zgg Tryd.underlying31 (by kernel_rfl) (by decide) opensWire)))) _ (fun p => ⟨p.1, p.2⟩) (fun _ => rfl)
theorem door_met (os : Os) (args : Array Value) : laidMetH Tryd.prog Rows.fnExactFreshWireNameRow.laid ((World.doorLaid Tryd.prog 44 os).forCall (fun _ _ => 0) ⟨#[], args, []⟩).memory :=
 laidMetH_of_parts3 (fuel := 8) (laidMet_of_run' 8 (by kernel_rfl) (by kernel_rfl)) (by kernel_rfl) (by kernel_rfl)
theorem gok_of {W : World} (h : laidMetH Tryd.prog Rows.fnExactFreshWireNameRow.laid W) : GOk W (fun b => b < W.heap.size) := by
 rw [MakeChecks.laidMetH_plain _ _ _ (by kernel_rfl)] at h
 intro g l hgl
 unfold GT at hgl
 rw [List.mem_singleton] at hgl
 obtain ⟨rfl, rfl⟩ := Prod.mk.inj hgl
 have e0 : (Rows.fnExactFreshWireNameRow.laid.filter fun x => x.1 == "internal/strconv.uint64pow10") = [("internal/strconv.uint64pow10", Lib.tabData .u64 Lib.pow10Tab)] := by kernel_rfl
 have h1 := h.filter fun x => x.1 == "internal/strconv.uint64pow10"
 rw [e0] at h1
 have hg : Tryd.prog.globalNamed "internal/strconv.uint64pow10" = some 2 := by kernel_rfl
 have h2 : Lib.TabIs Tryd.prog W "internal/strconv.uint64pow10" .u64 Lib.pow10Tab := Lib.tabIs_of_head hg (show (Tryd.prog.globals[2]?).map (·.type) = some 199 by kernel_rfl) (show Tryd.prog.underlying 199 = some (.array 20 179) by kernel_rfl) (show Tryd.prog.underlying 179 = some (.int .u64) by kernel_rfl) (by kernel_rfl) (by kernel_rfl) h1
 unfold Lib.TabIs World.var? at h2
 rw [hg] at h2
 dsimp only [Option.bind] at h2
 split at h2
 case h_1 cs T fr heq =>
  cases h2
  exact ⟨(Array.getElem?_eq_some_iff.1 heq).1, T, fr, _, heq, by simp⟩
 case h_2 => cases h2
set_option maxRecDepth 100000 in
theorem lifted (os : Os) (started : os.Started) (H : Type) (enc : TypeId × Value → H) :
 ReturnsInHanded {} Tryd.checked os 4 .any (fun w args => (Rows.fnExactFreshWireNameSpec.pre enc Tryd.prog Tryd.f4 [] false w args ∧ laidMetH Tryd.prog Rows.fnExactFreshWireNameRow.laid w) ∧ sizedMet enc Tryd.prog Tryd.f4 (OpenSpec.ofChange Rows.fnExactFreshWireNameSpec) false w args) (Rows.fnExactFreshWireNameSpec.post enc Tryd.prog Tryd.f4 false true false false) := by
 refine returnsInHanded_of_change_and (C := Tryd.checked) (X := fun w _ => laidMetH Tryd.prog Rows.fnExactFreshWireNameRow.laid w) (fun _ _ _ hh h => h.of_heap hh) own started (by kernel_rfl) Tryd.func4
  (ChangeSpec.witness_shaped (enc := enc) (C := Tryd.checked) (os := os) (X := fun w _ => laidMetH Tryd.prog Rows.fnExactFreshWireNameRow.laid w) false (World.doorLaid Tryd.prog 44 os) #[.agg #[.slice none 0 0, .slice none 0 0]] 8 rfl (World.shaped_of_RefB (by kernel_rfl) (by kernel_rfl)) (by kernel_rfl) (by kernel_rfl) (by kernel_rfl) (door_met os _)) ?_
 intro W base args ds gs before hval0 hW hcnd _ hL _
 have hg : GOk W (fun b => b < W.heap.size) := gok_of hL
 have hval : ∀ (j : Nat) t v, Tryd.f4.params[j]? = some t → args[j]? = some v → Value.okWide Tryd.prog W .any base t v := hval0
 have hW' := hW
 obtain ⟨p, q, hA0, hV, rfl, hfz, hnd⟩ := hW
 have hA : DataW.TrodAll enc Tryd.prog W 0 (fun _ => true) true Tryd.f4.params.toList args.toList ds p := hA0
 have hA1 := hA
 rw [Tryd.params4] at hA hval
 obtain ⟨v0, vs0, d0, ds0, p0, q0, hargs, rfl, rfl, h0, r0⟩ := trodAll_cons hA
 obtain ⟨rfl, rfl, rfl⟩ := trodAll_nil r0
 obtain rfl : args = #[v0] := by cases args; simp_all
 obtain ⟨rfl, rfl⟩ := trodVars_none hV
 simp only [List.append_nil] at hW' hA1
 obtain ⟨cs0, n, rfl, hr0⟩ := Zpc Tryd.underlying33 opensNetlist (hval 0 33 v0 rfl rfl) h0
 have hs : Zkv.spec [Zk5 n] = some (pB true) := (congrFun (show Zkv.spec = ZkA from rfl) _).trans (Zm2 n (bdNetlist.out hr0))
 refine (FnOk.bool ZlL rfl rfl (.cons (encNetlist.vrAgg hr0) .nil) hs).mono fun e W' ⟨he, hb⟩ => ?_
 subst he
 exact ⟨_, rfl, Zjh laidOut rfl (by kernel_rfl) rfl Tryd.underlying4 hW' hA1 rfl hb⟩
set_option maxHeartbeats 4000000 in
set_option maxRecDepth 100000 in
theorem joined : joinedFacts Tryd.pinned.checked.prog 4 Tryd.f4 Rows.fnExactFreshWireNameSpec Rows.fnExactFreshWireNameRow = true := by
 unfold joinedFacts
 repeat' (first | with_reducible (refine Bool.and_eq_true_iff.mpr ⟨?_, ?_⟩) | decide +kernel)
theorem proved : Rows.FnExactFreshWireNameSaid :=
 OpenClaim.holds_of_wide 4 Tryd.f4 rfl rfl rfl rfl rfl rfl rfl ⟨rfl, rfl, rfl, rfl, rfl⟩ rfl rfl rfl rfl rfl (by kernel_rfl) Tryd.func4 joined
  (of_decide_eq_true (by kernel_rfl)) (by unfold Func.isWrapper; first | (rw [if_pos (by decide +kernel)]; kernel_rfl) | (rw [if_neg (by decide +kernel)]; exact ⟨rfl, rfl⟩))
  (fun os started H enc _ => lifted os started H enc)
theorem card : Rows.FnExactFreshWireNameCardSaid :=
 Claim7.holds_tied_plain_at .later [] [.data, .data, .data] true (true, "9dd05de7a9ec566f64bc81a9db803ff5da8f42e08fa14991f333ba2021163c5d") false
  proved (fun _ h => by cases h) (by kernel_rfl) (fun _ h => by cases h) fnExactFreshWireName_row_tie rfl ⟨rfl, rfl⟩ (by kernel_rfl) rfl
  (fun f fn hf hfn => by
   obtain rfl : f = 4 := Option.some.inj ((show Tryd.prog.funcNamed Rows.fnExactFreshWireNameRow.func = some 4 by kernel_rfl).symm.trans hf) |>.symm
   obtain rfl : fn = Tryd.f4 := (Option.some.inj (Tryd.func4.symm.trans hfn)).symm
   exact ⟨by kernel_rfl, fun j t ht => by
    rw [Tryd.params4] at ht
    have hm : t ∈ [33] := by simpa using Array.mem_of_getElem? ht
    have hall : ([33].all fun u => !Tryd.prog.wantsStandIn u) = true := by kernel_rfl
    exact (show Tryd.prog.wantsStandIn t = false by simpa using List.all_eq_true.1 hall t hm)⟩)
  (by kernel_rfl)
end Go.Proofs.YthobodfbjjjiiaaDoor.saidFreshWireName
