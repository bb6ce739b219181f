/-
  The contracts of ExcitedWires, of the program's and of the reference's: both give back the same row, of their own.
-/
import Derived.Test.YtidjggipnfapfaaOwn
import Derived.Test.YtidjggipnfapfaaLawNl
import Derived.Test.YtidjggipnfapfaaExcitedWiresP
namespace Go.Proofs.Ytidjggipnfapfaa.Lw
open Go.RowKit
set_option linter.unusedVariables false
set_option linter.unusedSimpArgs false
def toPW (x : Wire) : PWire := ⟨x.name, x.kind, x.ins.map fun p => (p.at_, p.not_), x.cover⟩
def toPN (n : Nl) : PNet := ⟨n.signals.map fun s => (s.name, s.kind), n.wires.map toPW⟩
theorem encSigX : EncOk shSig (fun s => [.str s.name, pI s.kind]) := encVia (v := fun x : Sig => (x.name, x.kind)) (encPair encStr encInt)
theorem encPinX : EncOk shPin (fun p => [pI p.at_, pB p.not_]) := encVia (v := fun x : Pin => (x.at_, x.not_)) (encPair encInt encBool)
theorem encWireX : EncOk shWire (fun x => [.str x.name, pI x.kind, .lst (x.ins.map fun p => .agg [pI p.at_, pB p.not_]), .lst (x.cover.map PV.str)]) :=
  encVia (v := fun x : Wire => (x.name, (x.kind, (x.ins, x.cover)))) (encPair encStr (encPair encInt (encPair (encSlAgg encPinX) (encSlOne encStr rfl))))
theorem encNlX : EncOk shNl (fun n => [.lst (n.signals.map fun s => .agg [.str s.name, pI s.kind]), .lst (n.wires.map fun x => .agg [.str x.name, pI x.kind, .lst (x.ins.map fun p => .agg [pI p.at_, pB p.not_]), .lst (x.cover.map PV.str)])]) :=
  encVia (v := fun x : Nl => (x.signals, x.wires)) (encPair (encSlAgg encSigX) (encSlAgg encWireX))
theorem eNet_to (n : Nl) : PV.agg [.lst (n.signals.map fun s => .agg [.str s.name, pI s.kind]), .lst (n.wires.map fun x => .agg [.str x.name, pI x.kind, .lst (x.ins.map fun p => .agg [pI p.at_, pB p.not_]), .lst (x.cover.map PV.str)])] = eNet (toPN n) := by
  simp [eNet, toPN, toPW, eSig, eWire, ePin, List.map_map, Function.comp_def]
theorem bdSigX : BdOk shSig (fun s => s.name.length ≤ 9223372036854775807) := BdOk.mono (bdVia (v := fun x : Sig => (x.name, x.kind)) (bdPair bdStr bdTrue)) (fun a h => h.1)
theorem bdWireX : BdOk shWire (fun x => (toPW x).Fit) :=
  BdOk.mono (bdVia (v := fun x : Wire => (x.name, (x.kind, (x.ins, x.cover)))) (bdPair bdStr (bdPair bdTrue (bdPair (bdSl (S := shPin) bdTrue) (bdSl bdStr))))) (fun a h => ⟨h.1, by simpa [Fits, toPW] using h.2.2.1.1, h.2.2.2.1, h.2.2.2.2⟩)
theorem bdNlX : BdOk shNl (fun n => (toPN n).Fit) :=
  BdOk.mono (bdVia (v := fun x : Nl => (x.signals, x.wires)) (bdPair (bdSl bdSigX) (bdSl bdWireX))) (fun a h => ⟨by simpa [Fits, toPN] using h.1.1, fun s hs => by
    simp only [toPN, List.mem_map] at hs
    obtain ⟨x, hx, rfl⟩ := hs
    exact h.1.2 x hx, by simpa [Fits, toPN] using h.2.1, fun s hs => by
    simp only [toPN, List.mem_map] at hs
    obtain ⟨x, hx, rfl⟩ := hs
    exact h.2.2 x hx⟩)
theorem wtL_len {α : Type} (f : α → Nat) : ∀ (l : List α), l.length ≤ wtL f l
  | [] => by simp [wtL]
  | x :: r => by have := wtL_len f r; simp [wtL] at this ⊢; try omega
def excA (n : Nl) (s : List UInt8) : List Int × Bool := (excitedP (toPN n) s, valuesP (toPN n) s)
theorem excA_len (n : Nl) (s : List UInt8) : (excA n s).1.length ≤ wtNl n := by
  have h1 : (excA n s).1.length ≤ n.wires.length := by
    unfold excA excitedP
    split
    · refine Nat.le_trans (pickTo_len _ _) ?_
      simp [toPN]
    · simp
  have := wtL_len wtWire n.wires
  unfold wtNl
  omega
theorem excA_in (n : Nl) (s : List UInt8) (hq : wtNl n ≤ 1048576) : ∀ x ∈ (excA n s).1, InI x := by
  intro x hx
  have h2 := wtL_len wtWire n.wires
  unfold wtNl at hq
  unfold excA excitedP at hx
  split at hx
  · simp only [pickTo, List.mem_map, List.mem_filter, List.mem_range] at hx
    obtain ⟨i, ⟨hi, _⟩, rfl⟩ := hx
    have : (toPN n).wires.length = n.wires.length := by simp [toPN]
    constructor <;> simp only [Int.ofNat_eq_natCast] <;> omega
  · cases hx

theorem impl_ExcitedWires (n : Nl) (s : List UInt8) (A0 : Option Addr) (c0 : Nat) (A1 : Option Addr) (c1 : Nat) (w : World) (g0 : n.signals.length ≤ c0) (g1 : c0 ≤ 9223372036854775807) (g2 : RA shSig w A0 n.signals) (g3 : n.wires.length ≤ c1) (g4 : c1 ≤ 9223372036854775807) (g5 : RA shWire w A1 n.wires) (hq : wtNl n ≤ 1048576) (hsl : s.length ≤ 9223372036854775807) :
    Calls Try.prog 37 #[.agg #[.slice A0 (n.signals).length c0, .slice A1 (n.wires).length c1], .string ⟨(s).toArray⟩] w fun e w' => ∃ A c, e = .returned (.tuple #[.slice A ((excA n s).1).length c, .bool (excA n s).2]) ∧ Own shInt w' w.heap.size 3 A c (excA n s).1 ∧ Below w.heap.size w w' := by
  have hr : shNl.rep w (fun b => b < w.heap.size) [.slice A0 (n.signals).length c0, .slice A1 (n.wires).length c1] n := shNl_mk g0 g1 g2 g3 g4 g5
  have hf := bdNlX.out hr
  have hw : (toPN n).wires.length ≤ 1048576 := by have := wtL_len wtWire n.wires; unfold wtNl at hq; simp [toPN]; omega
  have hs : e_i_ExcitedWires.spec [eNet (toPN n), .str s] = some (.tup [.lst ((excA n s).1.map pI), pB (excA n s).2]) := (congrFun (show e_i_ExcitedWires.spec = s_i_ExcitedWires from rfl) _).trans (at_i_ExcitedWires (toPN n) s hf hsl hw)
  have hv := encNlX.vrAgg hr
  rw [eNet_to] at hv
  exact FnOk.ownBool (S := shInt) ok_i_ExcitedWires rfl rfl rfl (.cons hv (.cons (.str _) .nil)) hs (fun x hx => cellsInt (excA_in n s hq x hx))
theorem spec_ExcitedWires (n : Nl) (s : List UInt8) (A0 : Option Addr) (c0 : Nat) (A1 : Option Addr) (c1 : Nat) (w : World) (g0 : n.signals.length ≤ c0) (g1 : c0 ≤ 9223372036854775807) (g2 : RA shSig w A0 n.signals) (g3 : n.wires.length ≤ c1) (g4 : c1 ≤ 9223372036854775807) (g5 : RA shWire w A1 n.wires) (hq : wtNl n ≤ 1048576) (hsl : s.length ≤ 9223372036854775807) :
    Calls Try.prog 36 #[.agg #[.slice A0 (n.signals).length c0, .slice A1 (n.wires).length c1], .string ⟨(s).toArray⟩] w fun e w' => ∃ A c, e = .returned (.tuple #[.slice A ((excA n s).1).length c, .bool (excA n s).2]) ∧ Own shInt w' w.heap.size 3 A c (excA n s).1 ∧ Below w.heap.size w w' := by
  have hr : shNl.rep w (fun b => b < w.heap.size) [.slice A0 (n.signals).length c0, .slice A1 (n.wires).length c1] n := shNl_mk g0 g1 g2 g3 g4 g5
  have hf := bdNlX.out hr
  have hw : (toPN n).wires.length ≤ 1048576 := by have := wtL_len wtWire n.wires; unfold wtNl at hq; simp [toPN]; omega
  have hs : e_r_ExcitedWires.spec [eNet (toPN n), .str s] = some (.tup [.lst ((excA n s).1.map pI), pB (excA n s).2]) := (congrFun (show e_r_ExcitedWires.spec = s_r_ExcitedWires from rfl) _).trans (at_r_ExcitedWires (toPN n) s hf hsl hw)
  have hv := encNlX.vrAgg hr
  rw [eNet_to] at hv
  exact FnOk.ownBool (S := shInt) ok_r_ExcitedWires rfl rfl rfl (.cons hv (.cons (.str _) .nil)) hs (fun x hx => cellsInt (excA_in n s hq x hx))
end Go.Proofs.Ytidjggipnfapfaa.Lw
