import Derived.Test.YtmfplddmccggkaaGreatOwn
import Derived.Test.YtmfplddmccggkaaGreatLawSu
import Derived.Test.YtmfplddmccggkaaGreatUnexpectedOutputsP
namespace Go.Proofs.YtmfplddmccggkaaGreat.Lw
open Go.RowKit
set_option linter.unusedVariables false
set_option linter.unusedSimpArgs false
def toPW (x : Wire) : PWire := ⟨x.name, x.kind, x.ins.map fun p => (p.at_, p.not_), x.cover⟩
def toPN (n : Nl) : PNet := ⟨n.signals.map fun s => (s.name, s.kind), n.wires.map toPW⟩
theorem encSigX : EncOk Z6 (fun s => [.str s.name, pI s.kind]) := Zg4 (v := fun x : Sig => (x.name, x.kind)) (Zcu ZjP Zg3)
theorem encPinX : EncOk ZbP (fun p => [pI p.at_, pB p.not_]) := Zg4 (v := fun x : Pin => (x.at_, x.not_)) (Zcu Zg3 Zp9)
theorem encWireX : EncOk Zao (fun x => [.str x.name, pI x.kind, .lst (x.ins.map fun p => .agg [pI p.at_, pB p.not_]), .lst (x.cover.map PV.str)]) :=
 Zg4 (v := fun x : Wire => (x.name, (x.kind, (x.ins, x.cover)))) (Zcu ZjP (Zcu Zg3 (Zcu (ZfM encPinX) (Znb ZjP rfl))))
theorem encNlX : EncOk shNl (fun n => [.lst (n.signals.map fun s => .agg [.str s.name, pI s.kind]), .lst (n.wires.map fun x => .agg [.str x.name, pI x.kind, .lst (x.ins.map fun p => .agg [pI p.at_, pB p.not_]), .lst (x.cover.map PV.str)])]) :=
 Zg4 (v := fun x : Nl => (x.signals, x.wires)) (Zcu (ZfM encSigX) (ZfM encWireX))
theorem eNet_to (n : Nl) : PV.agg [.lst (n.signals.map fun s => .agg [.str s.name, pI s.kind]), .lst (n.wires.map fun x => .agg [.str x.name, pI x.kind, .lst (x.ins.map fun p => .agg [pI p.at_, pB p.not_]), .lst (x.cover.map PV.str)])] = Zam (toPN n) := by
 simp [Zam, toPN, toPW, Z7, Zac, Zas, List.map_map, Function.comp_def]
theorem bdSigX : BdOk Z6 (fun s => s.name.length ≤ 9223372036854775807) := BdOk.mono (Znd (v := fun x : Sig => (x.name, x.kind)) (ZfN Znc ZjQ)) (fun a h => h.1)
theorem bdWireX : BdOk Zao (fun x => (toPW x).Fit) :=
 BdOk.mono (Znd (v := fun x : Wire => (x.name, (x.kind, (x.ins, x.cover)))) (ZfN Znc (ZfN ZjQ (ZfN (ZoU (S := ZbP) ZjQ) (ZoU Znc))))) (fun a h => ⟨h.1, by simpa [Zz, toPW] using h.2.2.1.1, h.2.2.2.1, h.2.2.2.2⟩)
theorem bdNlX : BdOk shNl (fun n => (toPN n).Fit) :=
 BdOk.mono (Znd (v := fun x : Nl => (x.signals, x.wires)) (ZfN (ZoU bdSigX) (ZoU bdWireX))) (fun a h => ⟨by simpa [Zz, toPN] using h.1.1, fun s hs => by
  simp only [toPN, List.mem_map] at hs
  obtain ⟨x, hx, rfl⟩ := hs
  exact h.1.2 x hx, by simpa [Zz, toPN] using h.2.1, fun s hs => by
  simp only [toPN, List.mem_map] at hs
  obtain ⟨x, hx, rfl⟩ := hs
  exact h.2.2 x hx⟩)
theorem encPSt : EncOk ZnX (fun b => [pI b.state, .str b.values]) := Zg4 (v := fun x : PSt => (x.state, x.values)) (Zcu Zg3 ZjP)
theorem bdPSt : BdOk ZnX (fun b => b.values.length ≤ 9223372036854775807) := BdOk.mono (Znd (v := fun x : PSt => (x.state, x.values)) (ZfN (S := Zr) ZjQ Znc)) (fun a h => h.2)
def toPA (a : Ac) : PArc := ⟨a.from_, a.sig, a.up, a.to_⟩
def toPG (c : SGr) : PSG := ⟨c.signals.map fun s => (s.name, s.kind), c.codes, c.arcs.map toPA⟩
theorem encAcX : EncOk ZcH (fun a => [pI a.from_] ++ ([pI a.sig] ++ ([pB a.up] ++ [pI a.to_]))) := Zg4 (v := fun x : Ac => (x.from_, (x.sig, (x.up, x.to_)))) (Zcu Zg3 (Zcu Zg3 (Zcu Zp9 Zg3)))
theorem encSGrX : EncOk ZnZ (fun c => [.lst (c.signals.map fun s => .agg [.str s.name, pI s.kind])] ++ ([.lst (c.codes.map PV.str)] ++ [.lst (c.arcs.map fun a => .agg ([pI a.from_] ++ ([pI a.sig] ++ ([pB a.up] ++ [pI a.to_]))))])) :=
 Zg4 (v := fun x : SGr => (x.signals, (x.codes, x.arcs))) (Zcu (ZfM encSigX) (Zcu (Znb ZjP rfl) (ZfM encAcX)))
theorem eSG_to (c : SGr) : PV.agg ([.lst (c.signals.map fun s => .agg [.str s.name, pI s.kind])] ++ ([.lst (c.codes.map PV.str)] ++ [.lst (c.arcs.map fun a => .agg ([pI a.from_] ++ ([pI a.sig] ++ ([pB a.up] ++ [pI a.to_]))))])) = eSG (toPG c) := by
 simp [eSG, toPG, toPA, Z7, Zar, List.map_map, Function.comp_def]
theorem bdSGrX : BdOk ZnZ (fun c => SGFit (toPG c)) :=
 BdOk.mono (Znd (v := fun x : SGr => (x.signals, (x.codes, x.arcs))) (ZfN (ZoU bdSigX) (ZfN (ZoU Znc) (ZoU (S := ZcH) ZjQ)))) (fun a h => ⟨by simpa [Zz, toPG] using h.1.1, fun s hs => by
  simp only [toPG, List.mem_map] at hs
  obtain ⟨x, hx, rfl⟩ := hs
  exact h.1.2 x hx, by simpa [Zz, toPG] using h.2.1.1, fun x hx => h.2.1.2 x hx, by simpa [Zz, toPG] using h.2.2.1⟩)
def uoA (c : SGr) (n : Nl) (b : PSt) : List Int × Bool := (ZpO (toPG c) (toPN n) b, ZfD (toPG c) (toPN n) b)
theorem uoA_len (c : SGr) (n : Nl) (b : PSt) : (uoA c n b).1.length ≤ 600 := by
 unfold uoA ZpO
 dsimp only
 split
 ·rename_i h
  rw [List.length_map]
  have h1 := Zok (toPG c) (toPN n) b h
  omega
 ·simp
theorem uoA_in (c : SGr) (n : Nl) (b : PSt) : ∀ x ∈ (uoA c n b).1, InI x := by
 intro x hx
 unfold uoA ZpO at hx
 dsimp only at hx
 split at hx
 ·rename_i h
  obtain ⟨k, hk, rfl⟩ := List.mem_map.1 hx
  have := ZpP (toPG c) (toPN n) b h k hk
  constructor <;> omega
 ·cases hx
theorem impl_UnexpectedOutputs (c : SGr) (n : Nl) (b : PSt) (A_c_signals : Option Addr) (c_c_signals : Nat) (A_c_codes : Option Addr) (c_c_codes : Nat) (A_c_arcs : Option Addr) (c_c_arcs : Nat) (A_n_signals : Option Addr) (c_n_signals : Nat) (A_n_wires : Option Addr) (c_n_wires : Nat) (w : World) (fc0 : (c.signals).length ≤ c_c_signals) (fc1 : c_c_signals ≤ 9223372036854775807) (fc2 : RA Z6 w A_c_signals c.signals) (fc3 : (c.codes).length ≤ c_c_codes) (fc4 : c_c_codes ≤ 9223372036854775807) (fc5 : RA Zah w A_c_codes c.codes) (fc6 : (c.arcs).length ≤ c_c_arcs) (fc7 : c_c_arcs ≤ 9223372036854775807) (fc8 : RA ZcH w A_c_arcs c.arcs) (fn0 : (n.signals).length ≤ c_n_signals) (fn1 : c_n_signals ≤ 9223372036854775807) (fn2 : RA Z6 w A_n_signals n.signals) (fn3 : (n.wires).length ≤ c_n_wires) (fn4 : c_n_wires ≤ 9223372036854775807) (fn5 : RA Zao w A_n_wires n.wires) (i1 : InI b.state) (i2 : b.values.length ≤ 9223372036854775807) :
 Calls Tryz.prog 36 #[.agg #[.slice A_c_signals (c.signals).length c_c_signals, .slice A_c_codes (c.codes).length c_c_codes, .slice A_c_arcs (c.arcs).length c_c_arcs], .agg #[.slice A_n_signals (n.signals).length c_n_signals, .slice A_n_wires (n.wires).length c_n_wires], .agg #[.int .i64 b.state, .string ⟨b.values.toArray⟩]] w fun e w' => ∃ A c', e = .returned (.tuple #[.slice A ((uoA c n b).1).length c', .bool (uoA c n b).2]) ∧ Own Zr w' w.heap.size 3 A c' (uoA c n b).1 ∧ Below w.heap.size w w' := by
 have hr := ZqK (w := w) (D := fun b => b < w.heap.size) (x := n) (by assumption) (by assumption) (by assumption) (by assumption) (by assumption) (by assumption)
 have hr2 := Zn0 (w := w) (D := fun b => b < w.heap.size) (x := c) (by assumption) (by assumption) (by assumption) (by assumption) (by assumption) (by assumption) (by assumption) (by assumption) (by assumption)
 have hr3 := ZnY (w := w) (D := fun b => b < w.heap.size) (x := b) i1 i2
 have hf := bdNlX.out hr
 have hf2 := bdSGrX.out hr2
 have hs : ZaN.spec [eSG (toPG c), Zam (toPN n), ePs b] = some (.tup [.lst ((uoA c n b).1.map pI), pB (uoA c n b).2]) := (congrFun (show ZaN.spec = ZaO from rfl) _).trans (Ze6 (toPG c) (toPN n) b hf2 hf i2)
 have hv := encNlX.vrAgg hr
 rw [eNet_to] at hv
 have hv2 := encSGrX.vrAgg hr2
 rw [eSG_to] at hv2
 have hv3 := encPSt.vrAgg hr3
 exact FnOk.ownBool (S := Zr) Zfj rfl rfl rfl (.cons hv2 (.cons hv (.cons hv3 .nil))) hs (fun x hx => Zna (uoA_in c n b x hx))
theorem spec_UnexpectedOutputs (c : SGr) (n : Nl) (b : PSt) (A_c_signals : Option Addr) (c_c_signals : Nat) (A_c_codes : Option Addr) (c_c_codes : Nat) (A_c_arcs : Option Addr) (c_c_arcs : Nat) (A_n_signals : Option Addr) (c_n_signals : Nat) (A_n_wires : Option Addr) (c_n_wires : Nat) (w : World) (fc0 : (c.signals).length ≤ c_c_signals) (fc1 : c_c_signals ≤ 9223372036854775807) (fc2 : RA Z6 w A_c_signals c.signals) (fc3 : (c.codes).length ≤ c_c_codes) (fc4 : c_c_codes ≤ 9223372036854775807) (fc5 : RA Zah w A_c_codes c.codes) (fc6 : (c.arcs).length ≤ c_c_arcs) (fc7 : c_c_arcs ≤ 9223372036854775807) (fc8 : RA ZcH w A_c_arcs c.arcs) (fn0 : (n.signals).length ≤ c_n_signals) (fn1 : c_n_signals ≤ 9223372036854775807) (fn2 : RA Z6 w A_n_signals n.signals) (fn3 : (n.wires).length ≤ c_n_wires) (fn4 : c_n_wires ≤ 9223372036854775807) (fn5 : RA Zao w A_n_wires n.wires) (i1 : InI b.state) (i2 : b.values.length ≤ 9223372036854775807) :
 Calls Tryz.prog 35 #[.agg #[.slice A_c_signals (c.signals).length c_c_signals, .slice A_c_codes (c.codes).length c_c_codes, .slice A_c_arcs (c.arcs).length c_c_arcs], .agg #[.slice A_n_signals (n.signals).length c_n_signals, .slice A_n_wires (n.wires).length c_n_wires], .agg #[.int .i64 b.state, .string ⟨b.values.toArray⟩]] w fun e w' => ∃ A c', e = .returned (.tuple #[.slice A ((uoA c n b).1).length c', .bool (uoA c n b).2]) ∧ Own Zr w' w.heap.size 3 A c' (uoA c n b).1 ∧ Below w.heap.size w w' := by
 have hr := ZqK (w := w) (D := fun b => b < w.heap.size) (x := n) (by assumption) (by assumption) (by assumption) (by assumption) (by assumption) (by assumption)
 have hr2 := Zn0 (w := w) (D := fun b => b < w.heap.size) (x := c) (by assumption) (by assumption) (by assumption) (by assumption) (by assumption) (by assumption) (by assumption) (by assumption) (by assumption)
 have hr3 := ZnY (w := w) (D := fun b => b < w.heap.size) (x := b) i1 i2
 have hf := bdNlX.out hr
 have hf2 := bdSGrX.out hr2
 have hs : ZaK.spec [eSG (toPG c), Zam (toPN n), ePs b] = some (.tup [.lst ((uoA c n b).1.map pI), pB (uoA c n b).2]) := (congrFun (show ZaK.spec = ZaL from rfl) _).trans (Ze5 (toPG c) (toPN n) b hf2 hf i2)
 have hv := encNlX.vrAgg hr
 rw [eNet_to] at hv
 have hv2 := encSGrX.vrAgg hr2
 rw [eSG_to] at hv2
 have hv3 := encPSt.vrAgg hr3
 exact FnOk.ownBool (S := Zr) Zff rfl rfl rfl (.cons hv2 (.cons hv (.cons hv3 .nil))) hs (fun x hx => Zna (uoA_in c n b x hx))
end Go.Proofs.YtmfplddmccggkaaGreat.Lw
