/-
  The contracts of HiddenWires, of the program's and of the reference's: both give back the same row, of their own.
-/
import Derived.Test.YtidjggipnfapfaaOwn
import Derived.Test.YtidjggipnfapfaaLawNl
import Derived.Test.YtidjggipnfapfaaHiddenWiresP
namespace Go.Proofs.Ytidjggipnfapfaa.Lw
open Go.RowKit
set_option linter.unusedVariables false
set_option linter.unusedSimpArgs false
def toPW (x : Wire) : PWire := ⟨x.name, x.kind, x.ins.map fun p => (p.at_, p.not_), x.cover⟩
def toPN (n : Nl) : PNet := ⟨n.signals.map fun s => (s.name, s.kind), n.wires.map toPW⟩
theorem encSigX : EncOk shSig (fun s => [.str s.name, pI s.kind]) := encVia (v := fun x : Sig => (x.name, x.kind)) (encPair encStr encInt)
theorem encPinX : EncOk shPin (fun p => [pI p.at_, pB p.not_]) := encVia (v := fun x : Pin => (x.at_, x.not_)) (encPair encInt encBool)
theorem encWireX : EncOk shWire (fun x => [.str x.name, pI x.kind, .lst (x.ins.map fun p => .agg [pI p.at_, pB p.not_]), .lst (x.cover.map PV.str)]) :=
  encVia (v := fun x : Wire => (x.name, (x.kind, (x.ins, x.cover)))) (encPair encStr (encPair encInt (encPair (encSlAgg encPinX) (encSlOne encStr rfl))))
theorem encNlX : EncOk shNl (fun n => [.lst (n.signals.map fun s => .agg [.str s.name, pI s.kind]), .lst (n.wires.map fun x => .agg [.str x.name, pI x.kind, .lst (x.ins.map fun p => .agg [pI p.at_, pB p.not_]), .lst (x.cover.map PV.str)])]) :=
  encVia (v := fun x : Nl => (x.signals, x.wires)) (encPair (encSlAgg encSigX) (encSlAgg encWireX))
theorem eNet_to (n : Nl) : PV.agg [.lst (n.signals.map fun s => .agg [.str s.name, pI s.kind]), .lst (n.wires.map fun x => .agg [.str x.name, pI x.kind, .lst (x.ins.map fun p => .agg [pI p.at_, pB p.not_]), .lst (x.cover.map PV.str)])] = eNet (toPN n) := by
  simp [eNet, toPN, toPW, eSig, eWire, ePin, List.map_map, Function.comp_def]
theorem bdSigX : BdOk shSig (fun s => s.name.length ≤ 9223372036854775807) := BdOk.mono (bdVia (v := fun x : Sig => (x.name, x.kind)) (bdPair bdStr bdTrue)) (fun a h => h.1)
theorem bdWireX : BdOk shWire (fun x => (toPW x).Fit) :=
  BdOk.mono (bdVia (v := fun x : Wire => (x.name, (x.kind, (x.ins, x.cover)))) (bdPair bdStr (bdPair bdTrue (bdPair (bdSl (S := shPin) bdTrue) (bdSl bdStr))))) (fun a h => ⟨h.1, by simpa [Fits, toPW] using h.2.2.1.1, h.2.2.2.1, h.2.2.2.2⟩)
theorem bdNlX : BdOk shNl (fun n => (toPN n).Fit) :=
  BdOk.mono (bdVia (v := fun x : Nl => (x.signals, x.wires)) (bdPair (bdSl bdSigX) (bdSl bdWireX))) (fun a h => ⟨by simpa [Fits, toPN] using h.1.1, fun s hs => by
    simp only [toPN, List.mem_map] at hs
    obtain ⟨x, hx, rfl⟩ := hs
    exact h.1.2 x hx, by simpa [Fits, toPN] using h.2.1, fun s hs => by
    simp only [toPN, List.mem_map] at hs
    obtain ⟨x, hx, rfl⟩ := hs
    exact h.2.2 x hx⟩)
theorem wtL_len {α : Type} (f : α → Nat) : ∀ (l : List α), l.length ≤ wtL f l
  | [] => by simp [wtL]
  | x :: r => by have := wtL_len f r; simp [wtL] at this ⊢; try omega
def hidA (n : Nl) : List Int × Bool := (hiddenP (toPN n), netP (toPN n))
theorem hidA_len (n : Nl) : (hidA n).1.length ≤ wtNl n := by
  have h1 : (hidA n).1.length ≤ n.wires.length := by
    unfold hidA hiddenP
    split
    · rw [fromTo_len]; simp [toPN]
    · simp
  have := wtL_len wtWire n.wires
  unfold wtNl
  omega
theorem hidA_in (n : Nl) (hq : wtNl n ≤ 1048576) : ∀ x ∈ (hidA n).1, InI x := by
  intro x hx
  have h2 := wtL_len wtWire n.wires
  unfold wtNl at hq
  unfold hidA hiddenP at hx
  split at hx
  · simp only [fromTo, List.mem_map, List.mem_range] at hx
    obtain ⟨i, hi, rfl⟩ := hx
    have : (toPN n).wires.length = n.wires.length := by simp [toPN]
    constructor <;> omega
  · cases hx
theorem impl_HiddenWires (n : Nl) (A0 : Option Addr) (c0 : Nat) (A1 : Option Addr) (c1 : Nat) (w : World) (g0 : n.signals.length ≤ c0) (g1 : c0 ≤ 9223372036854775807) (g2 : RA shSig w A0 n.signals) (g3 : n.wires.length ≤ c1) (g4 : c1 ≤ 9223372036854775807) (g5 : RA shWire w A1 n.wires) (hq : wtNl n ≤ 1048576) :
    Calls Try.prog 26 #[.agg #[.slice A0 (n.signals).length c0, .slice A1 (n.wires).length c1]] w fun e w' => ∃ A c, e = .returned (.tuple #[.slice A ((hidA n).1).length c, .bool (hidA n).2]) ∧ Own shInt w' w.heap.size 3 A c (hidA n).1 ∧ Below w.heap.size w w' := by
  have hr : shNl.rep w (fun b => b < w.heap.size) [.slice A0 (n.signals).length c0, .slice A1 (n.wires).length c1] n := shNl_mk g0 g1 g2 g3 g4 g5
  have hf := bdNlX.out hr
  have hw : (toPN n).wires.length ≤ 1048576 := by have := wtL_len wtWire n.wires; unfold wtNl at hq; simp [toPN]; omega
  have hs : e_i_HiddenWires.spec [eNet (toPN n)] = some (.tup [.lst ((hidA n).1.map pI), pB (hidA n).2]) := (congrFun (show e_i_HiddenWires.spec = s_i_HiddenWires from rfl) _).trans (at_i_HiddenWires (toPN n) hf hw)
  have hv := encNlX.vrAgg hr
  rw [eNet_to] at hv
  exact FnOk.ownBool (S := shInt) ok_i_HiddenWires rfl rfl rfl (.cons hv .nil) hs (fun x hx => cellsInt (hidA_in n hq x hx))
theorem spec_HiddenWires (n : Nl) (A0 : Option Addr) (c0 : Nat) (A1 : Option Addr) (c1 : Nat) (w : World) (g0 : n.signals.length ≤ c0) (g1 : c0 ≤ 9223372036854775807) (g2 : RA shSig w A0 n.signals) (g3 : n.wires.length ≤ c1) (g4 : c1 ≤ 9223372036854775807) (g5 : RA shWire w A1 n.wires) (hq : wtNl n ≤ 1048576) :
    Calls Try.prog 25 #[.agg #[.slice A0 (n.signals).length c0, .slice A1 (n.wires).length c1]] w fun e w' => ∃ A c, e = .returned (.tuple #[.slice A ((hidA n).1).length c, .bool (hidA n).2]) ∧ Own shInt w' w.heap.size 3 A c (hidA n).1 ∧ Below w.heap.size w w' := by
  have hr : shNl.rep w (fun b => b < w.heap.size) [.slice A0 (n.signals).length c0, .slice A1 (n.wires).length c1] n := shNl_mk g0 g1 g2 g3 g4 g5
  have hf := bdNlX.out hr
  have hw : (toPN n).wires.length ≤ 1048576 := by have := wtL_len wtWire n.wires; unfold wtNl at hq; simp [toPN]; omega
  have hs : e_r_HiddenWires.spec [eNet (toPN n)] = some (.tup [.lst ((hidA n).1.map pI), pB (hidA n).2]) := (congrFun (show e_r_HiddenWires.spec = s_r_HiddenWires from rfl) _).trans (at_r_HiddenWires (toPN n) hf hw)
  have hv := encNlX.vrAgg hr
  rw [eNet_to] at hv
  exact FnOk.ownBool (S := shInt) ok_r_HiddenWires rfl rfl rfl (.cons hv .nil) hs (fun x hx => cellsInt (hidA_in n hq x hx))
end Go.Proofs.Ytidjggipnfapfaa.Lw
