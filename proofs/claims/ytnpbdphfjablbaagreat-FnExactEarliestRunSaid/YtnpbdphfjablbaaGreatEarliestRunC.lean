/-
  The contracts of EarliestRun, of the program's and of the reference's: both give back the same.
-/
import Derived.Test.YtnpbdphfjablbaaGreatOwn
import Derived.Test.YtnpbdphfjablbaaGreatLawTs
import Derived.Test.YtnpbdphfjablbaaGreatEarliestRunP
namespace Go.Proofs.YtnpbdphfjablbaaGreat.Lw
open Go.RowKit
set_option linter.unusedVariables false
set_option linter.unusedSimpArgs false
theorem encTrX : EncOk shTr (fun t => [.lst (t.pre.map pI), .lst (t.post.map pI)]) := encVia (v := fun x : Tr => (x.pre, x.post)) (encPair (encSlOne encInt rfl) (encSlOne encInt rfl))
theorem encNetX : EncOk shNet (fun n => [pI n.places, .lst (n.trans.map fun t => .agg [.lst (t.pre.map pI), .lst (t.post.map pI)])]) := encVia (v := fun x : Net => (x.places, x.trans)) (encPair encInt (encSlAgg encTrX))
theorem encSigX : EncOk shSig (fun s => [.str s.name, pI s.kind]) := encVia (v := fun x : Sig => (x.name, x.kind)) (encPair encStr encInt)
theorem encLabX : EncOk shLab (fun p => [pI p.sig, pB p.up]) := encVia (v := fun x : Lab => (x.sig, x.up)) (encPair encInt encBool)
theorem encStgX : EncOk shSTG (fun s => [pI s.net.places, .lst (s.net.trans.map fun t => .agg [.lst (t.pre.map pI), .lst (t.post.map pI)])] ++ ([.lst (s.signals.map fun s => .agg [.str s.name, pI s.kind])] ++ ([.lst (s.labels.map fun p => .agg [pI p.sig, pB p.up])] ++ [.str s.start]))) :=
  encVia (v := fun x : STG => (x.net, (x.signals, (x.labels, x.start)))) (encPair encNetX (encPair (encSlAgg encSigX) (encPair (encSlAgg encLabX) encStr)))
theorem eStg_to (s : STG) : PV.agg ([pI s.net.places, .lst (s.net.trans.map fun t => .agg [.lst (t.pre.map pI), .lst (t.post.map pI)])] ++ ([.lst (s.signals.map fun s => .agg [.str s.name, pI s.kind])] ++ ([.lst (s.labels.map fun p => .agg [pI p.sig, pB p.up])] ++ [.str s.start]))) = eStg s := by
  simp only [eStg, List.map_map, List.cons_append, List.nil_append]
  rfl
theorem bdTrX : BdOk shTr TrFit := BdOk.mono (bdVia (v := fun x : Tr => (x.pre, x.post)) (bdPair (bdSl (S := shInt) bdTrue) (bdSl (S := shInt) bdTrue))) (fun a h => ⟨h.1.1, h.2.1⟩)
theorem bdNetX : BdOk shNet NtFit := BdOk.mono (bdVia (v := fun x : Net => (x.places, x.trans)) (bdPair (S := shInt) bdTrue (bdSl bdTrX))) (fun a h => ⟨h.2.1, h.2.2⟩)
theorem bdSigX : BdOk shSig (fun s => s.name.length ≤ 9223372036854775807) := BdOk.mono (bdVia (v := fun x : Sig => (x.name, x.kind)) (bdPair bdStr bdTrue)) (fun a h => h.1)
theorem bdStgX : BdOk shSTG StgFit :=
  BdOk.mono (bdVia (v := fun x : STG => (x.net, (x.signals, (x.labels, x.start)))) (bdPair bdNetX (bdPair (bdSl bdSigX) (bdPair (bdSl (S := shLab) bdTrue) bdStr)))) (fun a h => ⟨h.1, by simpa [Fits] using h.2.1.1, fun s hs => by
    simp only [List.mem_map] at hs
    obtain ⟨x, hx, rfl⟩ := hs
    exact h.2.1.2 x hx, h.2.2.1.1, h.2.2.2⟩)
theorem encDlX : EncOk shDl (fun x => [pI x.low, pI x.high]) := encVia (v := fun x : Dl => (x.low, x.high)) (encPair encInt encInt)
theorem vrAgg2 {w : World} {F : Nat → Prop} {a b : PV} {v : Value} (h : VR w F (.agg [a, b]) v) : ∃ x y, v = .agg #[x, y] ∧ VR w F a x ∧ VR w F b y := by
  cases h with
  | agg l cs k1 k2 k3 =>
    have hs : cs.size = 2 := k1.symm
    refine ⟨cs.getD 0 Go.undef, cs.getD 1 Go.undef, ?_, k3 0 _ rfl, k3 1 _ rfl⟩
    congr 1
    apply Array.ext
    · simp [hs]
    · intro i h1 h2
      match i with
      | 0 => simp [hs]
      | 1 => simp [hs]
      | i + 2 => simp at h2; omega
theorem cellsTF {x : TF} (h1 : InI x.at_) (h2 : InI x.t) : CellsAs shTF eTF x := fun w w' F u hu => by
  obtain ⟨a, b, rfl, a1, a2⟩ := vrAgg2 hu
  cases a1; cases a2
  exact ⟨[_], [_], rfl, ⟨rfl, h1⟩, rfl, h2⟩
theorem impl_EarliestRun (s : STG) (l : List Dl) (n : Int) (A_s_net_trans : Option Addr) (c_s_net_trans : Nat) (A_s_signals : Option Addr) (c_s_signals : Nat) (A_s_labels : Option Addr) (c_s_labels : Nat) (A0 : Option Addr) (c0 : Nat) (w : World) (fs0 : InI s.net.places) (fs1 : (s.net.trans).length ≤ c_s_net_trans) (fs2 : c_s_net_trans ≤ 9223372036854775807) (fs3 : RA shTr w A_s_net_trans s.net.trans) (fs4 : (s.signals).length ≤ c_s_signals) (fs5 : c_s_signals ≤ 9223372036854775807) (fs6 : RA shSig w A_s_signals s.signals) (fs7 : (s.labels).length ≤ c_s_labels) (fs8 : c_s_labels ≤ 9223372036854775807) (fs9 : RA shLab w A_s_labels s.labels) (fs10 : (s.start).length ≤ 9223372036854775807) (l0 : l.length ≤ c0) (k0 : c0 ≤ 9223372036854775807) (r0 : RA shDl w A0 l) (i_n : InI n) :
    Calls Tryz.prog 10 #[.agg #[.int .i64 s.net.places, .slice A_s_net_trans (s.net.trans).length c_s_net_trans, .slice A_s_signals (s.signals).length c_s_signals, .slice A_s_labels (s.labels).length c_s_labels, .string ⟨(s.start).toArray⟩], .slice A0 l.length c0, .int .i64 n] w fun e w' => ∃ A' c', e = .returned (.tuple #[.slice A' ((erP s l n).1).length c', .bool (erP s l n).2]) ∧ Own shTF w' w.heap.size 75 A' c' (erP s l n).1 ∧ Below w.heap.size w w' := by
  have hr := shSTG_mk (w := w) (D := fun b => b < w.heap.size) (x := s) (by assumption) (by assumption) (by assumption) (by assumption) (by assumption) (by assumption) (by assumption) (by assumption) (by assumption) (by assumption) (by assumption)
  have hf := bdStgX.out hr
  have hv := encStgX.vrAgg hr
  rw [eStg_to] at hv
  have hs : e_i_EarliestRun.spec [eStg s, .lst (l.map eDl), pI n] = some (.tup [.lst ((erP s l n).1.map eTF), pB (erP s l n).2]) := (congrFun (show e_i_EarliestRun.spec = s_i_EarliestRun from rfl) _).trans (at_i_EarliestRun s l n hf (by unfold Fits; omega))
  exact FnOk.ownBool (S := shTF) ok_i_EarliestRun rfl rfl rfl (.cons hv (.cons (rowAgg encDlX r0 l0 k0) (.cons (.int _ _) .nil))) hs (fun x hx => by have h := erP_in s l n hf x hx; exact cellsTF (by constructor <;> omega) (by constructor <;> omega))
theorem spec_EarliestRun (s : STG) (l : List Dl) (n : Int) (A_s_net_trans : Option Addr) (c_s_net_trans : Nat) (A_s_signals : Option Addr) (c_s_signals : Nat) (A_s_labels : Option Addr) (c_s_labels : Nat) (A0 : Option Addr) (c0 : Nat) (w : World) (fs0 : InI s.net.places) (fs1 : (s.net.trans).length ≤ c_s_net_trans) (fs2 : c_s_net_trans ≤ 9223372036854775807) (fs3 : RA shTr w A_s_net_trans s.net.trans) (fs4 : (s.signals).length ≤ c_s_signals) (fs5 : c_s_signals ≤ 9223372036854775807) (fs6 : RA shSig w A_s_signals s.signals) (fs7 : (s.labels).length ≤ c_s_labels) (fs8 : c_s_labels ≤ 9223372036854775807) (fs9 : RA shLab w A_s_labels s.labels) (fs10 : (s.start).length ≤ 9223372036854775807) (l0 : l.length ≤ c0) (k0 : c0 ≤ 9223372036854775807) (r0 : RA shDl w A0 l) (i_n : InI n) :
    Calls Tryz.prog 7 #[.agg #[.int .i64 s.net.places, .slice A_s_net_trans (s.net.trans).length c_s_net_trans, .slice A_s_signals (s.signals).length c_s_signals, .slice A_s_labels (s.labels).length c_s_labels, .string ⟨(s.start).toArray⟩], .slice A0 l.length c0, .int .i64 n] w fun e w' => ∃ A' c', e = .returned (.tuple #[.slice A' ((erP s l n).1).length c', .bool (erP s l n).2]) ∧ Own shTF w' w.heap.size 75 A' c' (erP s l n).1 ∧ Below w.heap.size w w' := by
  have hr := shSTG_mk (w := w) (D := fun b => b < w.heap.size) (x := s) (by assumption) (by assumption) (by assumption) (by assumption) (by assumption) (by assumption) (by assumption) (by assumption) (by assumption) (by assumption) (by assumption)
  have hf := bdStgX.out hr
  have hv := encStgX.vrAgg hr
  rw [eStg_to] at hv
  have hs : e_r_EarliestRun.spec [eStg s, .lst (l.map eDl), pI n] = some (.tup [.lst ((erP s l n).1.map eTF), pB (erP s l n).2]) := (congrFun (show e_r_EarliestRun.spec = s_r_EarliestRun from rfl) _).trans (at_r_EarliestRun s l n hf (by unfold Fits; omega))
  exact FnOk.ownBool (S := shTF) ok_r_EarliestRun rfl rfl rfl (.cons hv (.cons (rowAgg encDlX r0 l0 k0) (.cons (.int _ _) .nil))) hs (fun x hx => by have h := erP_in s l n hf x hx; exact cellsTF (by constructor <;> omega) (by constructor <;> omega))
end Go.Proofs.YtnpbdphfjablbaaGreat.Lw
