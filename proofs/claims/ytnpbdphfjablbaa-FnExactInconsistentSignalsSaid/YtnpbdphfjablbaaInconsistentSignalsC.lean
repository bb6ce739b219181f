/-
  The contracts of InconsistentSignals, of the program's and of the reference's: both give back the same.
-/
import Derived.Test.YtnpbdphfjablbaaOwn
import Derived.Test.YtnpbdphfjablbaaLawTm
import Derived.Test.YtnpbdphfjablbaaInconsistentSignalsP
namespace Go.Proofs.Ytnpbdphfjablbaa.Lw
open Go.RowKit
set_option linter.unusedVariables false
set_option linter.unusedSimpArgs false
theorem encTrX : EncOk shTr (fun t => [.lst (t.pre.map pI), .lst (t.post.map pI)]) := encVia (v := fun x : Tr => (x.pre, x.post)) (encPair (encSlOne encInt rfl) (encSlOne encInt rfl))
theorem encNetX : EncOk shNet (fun n => [pI n.places, .lst (n.trans.map fun t => .agg [.lst (t.pre.map pI), .lst (t.post.map pI)])]) := encVia (v := fun x : Net => (x.places, x.trans)) (encPair encInt (encSlAgg encTrX))
theorem encSigX : EncOk shSig (fun s => [.str s.name, pI s.kind]) := encVia (v := fun x : Sig => (x.name, x.kind)) (encPair encStr encInt)
theorem encLabX : EncOk shLab (fun p => [pI p.sig, pB p.up]) := encVia (v := fun x : Lab => (x.sig, x.up)) (encPair encInt encBool)
theorem encStgX : EncOk shSTG (fun s => [pI s.net.places, .lst (s.net.trans.map fun t => .agg [.lst (t.pre.map pI), .lst (t.post.map pI)])] ++ ([.lst (s.signals.map fun s => .agg [.str s.name, pI s.kind])] ++ ([.lst (s.labels.map fun p => .agg [pI p.sig, pB p.up])] ++ [.str s.start]))) :=
  encVia (v := fun x : STG => (x.net, (x.signals, (x.labels, x.start)))) (encPair encNetX (encPair (encSlAgg encSigX) (encPair (encSlAgg encLabX) encStr)))
theorem eStg_to (s : STG) : PV.agg ([pI s.net.places, .lst (s.net.trans.map fun t => .agg [.lst (t.pre.map pI), .lst (t.post.map pI)])] ++ ([.lst (s.signals.map fun s => .agg [.str s.name, pI s.kind])] ++ ([.lst (s.labels.map fun p => .agg [pI p.sig, pB p.up])] ++ [.str s.start]))) = eStg s := by
  simp only [eStg, List.map_map, List.cons_append, List.nil_append]
  rfl
theorem bdTrX : BdOk shTr TrFit := BdOk.mono (bdVia (v := fun x : Tr => (x.pre, x.post)) (bdPair (bdSl (S := shInt) bdTrue) (bdSl (S := shInt) bdTrue))) (fun a h => ⟨h.1.1, h.2.1⟩)
theorem bdNetX : BdOk shNet NtFit := BdOk.mono (bdVia (v := fun x : Net => (x.places, x.trans)) (bdPair (S := shInt) bdTrue (bdSl bdTrX))) (fun a h => ⟨h.2.1, h.2.2⟩)
theorem bdSigX : BdOk shSig (fun s => s.name.length ≤ 9223372036854775807) := BdOk.mono (bdVia (v := fun x : Sig => (x.name, x.kind)) (bdPair bdStr bdTrue)) (fun a h => h.1)
theorem bdStgX : BdOk shSTG StgFit :=
  BdOk.mono (bdVia (v := fun x : STG => (x.net, (x.signals, (x.labels, x.start)))) (bdPair bdNetX (bdPair (bdSl bdSigX) (bdPair (bdSl (S := shLab) bdTrue) bdStr)))) (fun a h => ⟨h.1, by simpa [Fits] using h.2.1.1, fun s hs => by
    simp only [List.mem_map] at hs
    obtain ⟨x, hx, rfl⟩ := hs
    exact h.2.1.2 x hx, h.2.2.1.1, h.2.2.2⟩)

theorem impl_InconsistentSignals (s : STG) (A_s_net_trans : Option Addr) (c_s_net_trans : Nat) (A_s_signals : Option Addr) (c_s_signals : Nat) (A_s_labels : Option Addr) (c_s_labels : Nat) (w : World) (fs0 : InI s.net.places) (fs1 : (s.net.trans).length ≤ c_s_net_trans) (fs2 : c_s_net_trans ≤ 9223372036854775807) (fs3 : RA shTr w A_s_net_trans s.net.trans) (fs4 : (s.signals).length ≤ c_s_signals) (fs5 : c_s_signals ≤ 9223372036854775807) (fs6 : RA shSig w A_s_signals s.signals) (fs7 : (s.labels).length ≤ c_s_labels) (fs8 : c_s_labels ≤ 9223372036854775807) (fs9 : RA shLab w A_s_labels s.labels) (fs10 : (s.start).length ≤ 9223372036854775807) :
    Calls Try.prog 36 #[.agg #[.int .i64 s.net.places, .slice A_s_net_trans (s.net.trans).length c_s_net_trans, .slice A_s_signals (s.signals).length c_s_signals, .slice A_s_labels (s.labels).length c_s_labels, .string ⟨(s.start).toArray⟩]] w fun e w' => ∃ A' c', e = .returned (.tuple #[.slice A' ((isP s).1).length c', .bool (isP s).2]) ∧ Own shInt w' w.heap.size 3 A' c' (isP s).1 ∧ Below w.heap.size w w' := by
  have hr := shSTG_mk (w := w) (D := fun b => b < w.heap.size) (x := s) (by assumption) (by assumption) (by assumption) (by assumption) (by assumption) (by assumption) (by assumption) (by assumption) (by assumption) (by assumption) (by assumption)
  have hf := bdStgX.out hr
  have hv := encStgX.vrAgg hr
  rw [eStg_to] at hv
  have hs : e_i_InconsistentSignals.spec [eStg s] = some (.tup [.lst ((isP s).1.map pI), pB (isP s).2]) := (congrFun (show e_i_InconsistentSignals.spec = s_i_InconsistentSignals from rfl) _).trans (at_i_InconsistentSignals s hf)
  exact FnOk.ownBool (S := shInt) ok_i_InconsistentSignals rfl rfl rfl (.cons hv .nil) hs (fun x hx => cellsInt (by have h := isP_in s x hx; constructor <;> omega))
theorem spec_InconsistentSignals (s : STG) (A_s_net_trans : Option Addr) (c_s_net_trans : Nat) (A_s_signals : Option Addr) (c_s_signals : Nat) (A_s_labels : Option Addr) (c_s_labels : Nat) (w : World) (fs0 : InI s.net.places) (fs1 : (s.net.trans).length ≤ c_s_net_trans) (fs2 : c_s_net_trans ≤ 9223372036854775807) (fs3 : RA shTr w A_s_net_trans s.net.trans) (fs4 : (s.signals).length ≤ c_s_signals) (fs5 : c_s_signals ≤ 9223372036854775807) (fs6 : RA shSig w A_s_signals s.signals) (fs7 : (s.labels).length ≤ c_s_labels) (fs8 : c_s_labels ≤ 9223372036854775807) (fs9 : RA shLab w A_s_labels s.labels) (fs10 : (s.start).length ≤ 9223372036854775807) :
    Calls Try.prog 35 #[.agg #[.int .i64 s.net.places, .slice A_s_net_trans (s.net.trans).length c_s_net_trans, .slice A_s_signals (s.signals).length c_s_signals, .slice A_s_labels (s.labels).length c_s_labels, .string ⟨(s.start).toArray⟩]] w fun e w' => ∃ A' c', e = .returned (.tuple #[.slice A' ((isP s).1).length c', .bool (isP s).2]) ∧ Seen shInt w' w'.heap.size A' c' (isP s).1 ∧ Below w.heap.size w w' := by
  have hr := shSTG_mk (w := w) (D := fun b => b < w.heap.size) (x := s) (by assumption) (by assumption) (by assumption) (by assumption) (by assumption) (by assumption) (by assumption) (by assumption) (by assumption) (by assumption) (by assumption)
  have hf := bdStgX.out hr
  have hv := encStgX.vrAgg hr
  rw [eStg_to] at hv
  have hs : e_r_InconsistentSignals.spec [eStg s] = some (.tup [.lst ((isP s).1.map pI), pB (isP s).2]) := (congrFun (show e_r_InconsistentSignals.spec = s_r_InconsistentSignals from rfl) _).trans (at_r_InconsistentSignals s hf)
  exact FnOk.seenBool (S := shInt) ok_r_InconsistentSignals rfl rfl (.cons hv .nil) hs (fun x hx => readsInt (by have h := isP_in s x hx; constructor <;> omega))
end Go.Proofs.Ytnpbdphfjablbaa.Lw
