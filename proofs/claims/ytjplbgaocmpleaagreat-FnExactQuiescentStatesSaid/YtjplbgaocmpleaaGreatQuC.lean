/-
  The contracts of QuiescentStates, of the program's and of the reference's: both give back the same row, of their own.
-/
import Derived.Test.YtjplbgaocmpleaaGreatOwn
import Derived.Test.YtjplbgaocmpleaaGreatLawPr
import Derived.Test.YtjplbgaocmpleaaGreatQuiescentStatesP
namespace Go.Proofs.YtjplbgaocmpleaaGreat.Lw
open Go.RowKit
set_option linter.unusedVariables false
set_option linter.unusedSimpArgs false
def toPW (x : Wire) : PWire := ⟨x.name, x.kind, x.ins.map fun p => (p.at_, p.not_), x.cover⟩
def toPN (n : Nl) : PNet := ⟨n.signals.map fun s => (s.name, s.kind), n.wires.map toPW⟩
theorem encSigX : EncOk shSig (fun s => [.str s.name, pI s.kind]) := encVia (v := fun x : Sig => (x.name, x.kind)) (encPair encStr encInt)
theorem encPinX : EncOk shPin (fun p => [pI p.at_, pB p.not_]) := encVia (v := fun x : Pin => (x.at_, x.not_)) (encPair encInt encBool)
theorem encWireX : EncOk shWire (fun x => [.str x.name, pI x.kind, .lst (x.ins.map fun p => .agg [pI p.at_, pB p.not_]), .lst (x.cover.map PV.str)]) :=
  encVia (v := fun x : Wire => (x.name, (x.kind, (x.ins, x.cover)))) (encPair encStr (encPair encInt (encPair (encSlAgg encPinX) (encSlOne encStr rfl))))
theorem encNlX : EncOk shNl (fun n => [.lst (n.signals.map fun s => .agg [.str s.name, pI s.kind]), .lst (n.wires.map fun x => .agg [.str x.name, pI x.kind, .lst (x.ins.map fun p => .agg [pI p.at_, pB p.not_]), .lst (x.cover.map PV.str)])]) :=
  encVia (v := fun x : Nl => (x.signals, x.wires)) (encPair (encSlAgg encSigX) (encSlAgg encWireX))
theorem eNet_to (n : Nl) : PV.agg [.lst (n.signals.map fun s => .agg [.str s.name, pI s.kind]), .lst (n.wires.map fun x => .agg [.str x.name, pI x.kind, .lst (x.ins.map fun p => .agg [pI p.at_, pB p.not_]), .lst (x.cover.map PV.str)])] = eNet (toPN n) := by
  simp [eNet, toPN, toPW, eSig, eWire, ePin, List.map_map, Function.comp_def]
theorem bdSigX : BdOk shSig (fun s => s.name.length ≤ 9223372036854775807) := BdOk.mono (bdVia (v := fun x : Sig => (x.name, x.kind)) (bdPair bdStr bdTrue)) (fun a h => h.1)
theorem bdWireX : BdOk shWire (fun x => (toPW x).Fit) :=
  BdOk.mono (bdVia (v := fun x : Wire => (x.name, (x.kind, (x.ins, x.cover)))) (bdPair bdStr (bdPair bdTrue (bdPair (bdSl (S := shPin) bdTrue) (bdSl bdStr))))) (fun a h => ⟨h.1, by simpa [Fits, toPW] using h.2.2.1.1, h.2.2.2.1, h.2.2.2.2⟩)
theorem bdNlX : BdOk shNl (fun n => (toPN n).Fit) :=
  BdOk.mono (bdVia (v := fun x : Nl => (x.signals, x.wires)) (bdPair (bdSl bdSigX) (bdSl bdWireX))) (fun a h => ⟨by simpa [Fits, toPN] using h.1.1, fun s hs => by
    simp only [toPN, List.mem_map] at hs
    obtain ⟨x, hx, rfl⟩ := hs
    exact h.1.2 x hx, by simpa [Fits, toPN] using h.2.1, fun s hs => by
    simp only [toPN, List.mem_map] at hs
    obtain ⟨x, hx, rfl⟩ := hs
    exact h.2.2 x hx⟩)
theorem wtL_len {α : Type} (f : α → Nat) : ∀ (l : List α), l.length ≤ wtL f l
  | [] => by simp [wtL]
  | x :: r => by have := wtL_len f r; simp [wtL] at this ⊢; try omega
theorem encPSt : EncOk shPSt (fun b => [pI b.state, .str b.values]) := encVia (v := fun x : PSt => (x.state, x.values)) (encPair encInt encStr)
theorem encFlip : EncOk shFlip (fun f => [pI f.from_] ++ ([pI f.wire] ++ [pI f.to])) := encVia (v := fun x : Flip => (x.from_, (x.wire, x.to))) (encPair encInt (encPair encInt encInt))
theorem encPrX : EncOk shProdG (fun p => [.lst (p.states.map fun b => .agg [pI b.state, .str b.values])] ++ ([.lst (p.flips.map fun f => .agg ([pI f.from_] ++ ([pI f.wire] ++ [pI f.to])))] ++ [.lst (p.extra.map fun f => .agg ([pI f.from_] ++ ([pI f.wire] ++ [pI f.to])))])) :=
  encVia (v := fun x : ProdG => (x.states, (x.flips, x.extra))) (encPair (encSlAgg encPSt) (encPair (encSlAgg encFlip) (encSlAgg encFlip)))
theorem bdPSt : BdOk shPSt (fun b => b.values.length ≤ 9223372036854775807) := BdOk.mono (bdVia (v := fun x : PSt => (x.state, x.values)) (bdPair (S := shInt) bdTrue bdStr)) (fun a h => h.2)
theorem bdPrX : BdOk shProdG PrFit := BdOk.mono (bdVia (v := fun x : ProdG => (x.states, (x.flips, x.extra))) (bdPair (bdSl bdPSt) (bdPair (bdSl (S := shFlip) bdTrue) (bdSl (S := shFlip) bdTrue)))) (fun a h => ⟨h.1.1, h.1.2, h.2.1.1⟩)
def quA (n : Nl) (p : ProdG) : List Int × Bool := quietP (toPN n) p
theorem quA_len (n : Nl) (p : ProdG) : (quA n p).1.length ≤ 600 := by
  unfold quA quietP
  split
  · rename_i c
    have hs : p.states.length ≤ 600 := by simp only [Bool.and_eq_true] at c; have c := c.1.2; unfold prodP inR at c; simp only [Bool.and_eq_true, decide_eq_true_eq] at c; omega
    exact Nat.le_trans (quietGo_len _ _ _) hs
  · simp
theorem quA_in (n : Nl) (p : ProdG) : ∀ x ∈ (quA n p).1, InI x := by
  intro x hx
  unfold quA quietP at hx
  split at hx
  · rename_i c
    have hs : p.states.length ≤ 600 := by simp only [Bool.and_eq_true] at c; have c := c.1.2; unfold prodP inR at c; simp only [Bool.and_eq_true, decide_eq_true_eq] at c; omega
    have := quietGo_in _ _ _ x hx
    constructor <;> omega
  · cases hx
theorem impl_QuiescentStates (n : Nl) (p : ProdG) (A_n_signals : Option Addr) (c_n_signals : Nat) (A_n_wires : Option Addr) (c_n_wires : Nat) (A_p_states : Option Addr) (c_p_states : Nat) (A_p_flips : Option Addr) (c_p_flips : Nat) (A_p_extra : Option Addr) (c_p_extra : Nat) (w : World) (fn0 : (n.signals).length ≤ c_n_signals) (fn1 : c_n_signals ≤ 9223372036854775807) (fn2 : RA shSig w A_n_signals n.signals) (fn3 : (n.wires).length ≤ c_n_wires) (fn4 : c_n_wires ≤ 9223372036854775807) (fn5 : RA shWire w A_n_wires n.wires) (fp0 : (p.states).length ≤ c_p_states) (fp1 : c_p_states ≤ 9223372036854775807) (fp2 : RA shPSt w A_p_states p.states) (fp3 : (p.flips).length ≤ c_p_flips) (fp4 : c_p_flips ≤ 9223372036854775807) (fp5 : RA shFlip w A_p_flips p.flips) (fp6 : (p.extra).length ≤ c_p_extra) (fp7 : c_p_extra ≤ 9223372036854775807) (fp8 : RA shFlip w A_p_extra p.extra) (hq : wtNl n ≤ 1048576) :
    Calls Tryz.prog 13 #[.agg #[.slice A_n_signals (n.signals).length c_n_signals, .slice A_n_wires (n.wires).length c_n_wires], .agg #[.slice A_p_states (p.states).length c_p_states, .slice A_p_flips (p.flips).length c_p_flips, .slice A_p_extra (p.extra).length c_p_extra]] w fun e w' => ∃ A c, e = .returned (.tuple #[.slice A ((quA n p).1).length c, .bool (quA n p).2]) ∧ Own shInt w' w.heap.size 3 A c (quA n p).1 ∧ Below w.heap.size w w' := by
  have hr := shNl_mk (w := w) (D := fun b => b < w.heap.size) (x := n) (by assumption) (by assumption) (by assumption) (by assumption) (by assumption) (by assumption)
  have hr2 := shProdG_mk (w := w) (D := fun b => b < w.heap.size) (x := p) (by assumption) (by assumption) (by assumption) (by assumption) (by assumption) (by assumption) (by assumption) (by assumption) (by assumption)
  have hf := bdNlX.out hr
  have hf2 := bdPrX.out hr2
  have hw : (toPN n).wires.length ≤ 1048576 := by have := wtL_len wtWire n.wires; unfold wtNl at hq; simp [toPN]; omega
  have hs : e_i_QuiescentStates.spec [eNet (toPN n), ePr p] = some (.tup [.lst ((quA n p).1.map pI), pB (quA n p).2]) := (congrFun (show e_i_QuiescentStates.spec = s_i_QuiescentStates from rfl) _).trans (at_i_QuiescentStates (toPN n) p hf hf2 hw)
  have hv := encNlX.vrAgg hr
  rw [eNet_to] at hv
  have hv2 := encPrX.vrAgg hr2
  exact FnOk.ownBool (S := shInt) ok_i_QuiescentStates rfl rfl rfl (.cons hv (.cons hv2 .nil)) hs (fun x hx => cellsInt (quA_in n p x hx))
theorem spec_QuiescentStates (n : Nl) (p : ProdG) (A_n_signals : Option Addr) (c_n_signals : Nat) (A_n_wires : Option Addr) (c_n_wires : Nat) (A_p_states : Option Addr) (c_p_states : Nat) (A_p_flips : Option Addr) (c_p_flips : Nat) (A_p_extra : Option Addr) (c_p_extra : Nat) (w : World) (fn0 : (n.signals).length ≤ c_n_signals) (fn1 : c_n_signals ≤ 9223372036854775807) (fn2 : RA shSig w A_n_signals n.signals) (fn3 : (n.wires).length ≤ c_n_wires) (fn4 : c_n_wires ≤ 9223372036854775807) (fn5 : RA shWire w A_n_wires n.wires) (fp0 : (p.states).length ≤ c_p_states) (fp1 : c_p_states ≤ 9223372036854775807) (fp2 : RA shPSt w A_p_states p.states) (fp3 : (p.flips).length ≤ c_p_flips) (fp4 : c_p_flips ≤ 9223372036854775807) (fp5 : RA shFlip w A_p_flips p.flips) (fp6 : (p.extra).length ≤ c_p_extra) (fp7 : c_p_extra ≤ 9223372036854775807) (fp8 : RA shFlip w A_p_extra p.extra) (hq : wtNl n ≤ 1048576) :
    Calls Tryz.prog 10 #[.agg #[.slice A_n_signals (n.signals).length c_n_signals, .slice A_n_wires (n.wires).length c_n_wires], .agg #[.slice A_p_states (p.states).length c_p_states, .slice A_p_flips (p.flips).length c_p_flips, .slice A_p_extra (p.extra).length c_p_extra]] w fun e w' => ∃ A c, e = .returned (.tuple #[.slice A ((quA n p).1).length c, .bool (quA n p).2]) ∧ Own shInt w' w.heap.size 3 A c (quA n p).1 ∧ Below w.heap.size w w' := by
  have hr := shNl_mk (w := w) (D := fun b => b < w.heap.size) (x := n) (by assumption) (by assumption) (by assumption) (by assumption) (by assumption) (by assumption)
  have hr2 := shProdG_mk (w := w) (D := fun b => b < w.heap.size) (x := p) (by assumption) (by assumption) (by assumption) (by assumption) (by assumption) (by assumption) (by assumption) (by assumption) (by assumption)
  have hf := bdNlX.out hr
  have hf2 := bdPrX.out hr2
  have hw : (toPN n).wires.length ≤ 1048576 := by have := wtL_len wtWire n.wires; unfold wtNl at hq; simp [toPN]; omega
  have hs : e_r_QuiescentStates.spec [eNet (toPN n), ePr p] = some (.tup [.lst ((quA n p).1.map pI), pB (quA n p).2]) := (congrFun (show e_r_QuiescentStates.spec = s_r_QuiescentStates from rfl) _).trans (at_r_QuiescentStates (toPN n) p hf hf2 hw)
  have hv := encNlX.vrAgg hr
  rw [eNet_to] at hv
  have hv2 := encPrX.vrAgg hr2
  exact FnOk.ownBool (S := shInt) ok_r_QuiescentStates rfl rfl rfl (.cons hv (.cons hv2 .nil)) hs (fun x hx => cellsInt (quA_in n p x hx))
end Go.Proofs.YtjplbgaocmpleaaGreat.Lw
