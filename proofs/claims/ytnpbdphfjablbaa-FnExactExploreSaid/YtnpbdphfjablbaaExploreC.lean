/-
  The contracts of Explore, of the program's and of the reference's: both give back the same.
-/
import Derived.Test.YtnpbdphfjablbaaOwn
import Derived.Test.YtnpbdphfjablbaaLawEx
import Derived.Test.YtnpbdphfjablbaaExploreP
namespace Go.Proofs.Ytnpbdphfjablbaa.Lw
open Go.RowKit
set_option linter.unusedVariables false
set_option linter.unusedSimpArgs false
theorem encTrX : EncOk shTr (fun t => [.lst (t.pre.map pI), .lst (t.post.map pI)]) := encVia (v := fun x : Tr => (x.pre, x.post)) (encPair (encSlOne encInt rfl) (encSlOne encInt rfl))
theorem encNetX : EncOk shNet (fun n => [pI n.places, .lst (n.trans.map fun t => .agg [.lst (t.pre.map pI), .lst (t.post.map pI)])]) := encVia (v := fun x : Net => (x.places, x.trans)) (encPair encInt (encSlAgg encTrX))
theorem encSigX : EncOk shSig (fun s => [.str s.name, pI s.kind]) := encVia (v := fun x : Sig => (x.name, x.kind)) (encPair encStr encInt)
theorem encLabX : EncOk shLab (fun p => [pI p.sig, pB p.up]) := encVia (v := fun x : Lab => (x.sig, x.up)) (encPair encInt encBool)
theorem encStgX : EncOk shSTG (fun s => [pI s.net.places, .lst (s.net.trans.map fun t => .agg [.lst (t.pre.map pI), .lst (t.post.map pI)])] ++ ([.lst (s.signals.map fun s => .agg [.str s.name, pI s.kind])] ++ ([.lst (s.labels.map fun p => .agg [pI p.sig, pB p.up])] ++ [.str s.start]))) :=
  encVia (v := fun x : STG => (x.net, (x.signals, (x.labels, x.start)))) (encPair encNetX (encPair (encSlAgg encSigX) (encPair (encSlAgg encLabX) encStr)))
theorem eStg_to (s : STG) : PV.agg ([pI s.net.places, .lst (s.net.trans.map fun t => .agg [.lst (t.pre.map pI), .lst (t.post.map pI)])] ++ ([.lst (s.signals.map fun s => .agg [.str s.name, pI s.kind])] ++ ([.lst (s.labels.map fun p => .agg [pI p.sig, pB p.up])] ++ [.str s.start]))) = eStg s := by
  simp only [eStg, List.map_map, List.cons_append, List.nil_append]
  rfl
theorem bdTrX : BdOk shTr TrFit := BdOk.mono (bdVia (v := fun x : Tr => (x.pre, x.post)) (bdPair (bdSl (S := shInt) bdTrue) (bdSl (S := shInt) bdTrue))) (fun a h => ⟨h.1.1, h.2.1⟩)
theorem bdNetX : BdOk shNet NtFit := BdOk.mono (bdVia (v := fun x : Net => (x.places, x.trans)) (bdPair (S := shInt) bdTrue (bdSl bdTrX))) (fun a h => ⟨h.2.1, h.2.2⟩)
theorem bdSigX : BdOk shSig (fun s => s.name.length ≤ 9223372036854775807) := BdOk.mono (bdVia (v := fun x : Sig => (x.name, x.kind)) (bdPair bdStr bdTrue)) (fun a h => h.1)
theorem bdStgX : BdOk shSTG StgFit :=
  BdOk.mono (bdVia (v := fun x : STG => (x.net, (x.signals, (x.labels, x.start)))) (bdPair bdNetX (bdPair (bdSl bdSigX) (bdPair (bdSl (S := shLab) bdTrue) bdStr)))) (fun a h => ⟨h.1, by simpa [Fits] using h.2.1.1, fun s hs => by
    simp only [List.mem_map] at hs
    obtain ⟨x, hx, rfl⟩ := hs
    exact h.2.1.2 x hx, h.2.2.1.1, h.2.2.2⟩)
theorem vrAgg2 {w : World} {F : Nat → Prop} {a b : PV} {v : Value} (h : VR w F (.agg [a, b]) v) : ∃ x y, v = .agg #[x, y] ∧ VR w F a x ∧ VR w F b y := by
  cases h with
  | agg l cs k1 k2 k3 =>
    have hs : cs.size = 2 := k1.symm
    refine ⟨cs.getD 0 Go.undef, cs.getD 1 Go.undef, ?_, k3 0 _ rfl, k3 1 _ rfl⟩
    congr 1
    apply Array.ext
    · simp [hs]
    · intro i h1 h2
      match i with
      | 0 => simp [hs]
      | 1 => simp [hs]
      | i + 2 => simp at h2; omega
theorem vrAgg3 {w : World} {F : Nat → Prop} {a b c : PV} {v : Value} (h : VR w F (.agg [a, b, c]) v) : ∃ x y z, v = .agg #[x, y, z] ∧ VR w F a x ∧ VR w F b y ∧ VR w F c z := by
  cases h with
  | agg l cs k1 k2 k3 =>
    have hs : cs.size = 3 := k1.symm
    refine ⟨cs.getD 0 Go.undef, cs.getD 1 Go.undef, cs.getD 2 Go.undef, ?_, k3 0 _ rfl, k3 1 _ rfl, k3 2 _ rfl⟩
    congr 1
    apply Array.ext
    · simp [hs]
    · intro i h1 h2
      match i with
      | 0 => simp [hs]
      | 1 => simp [hs]
      | 2 => simp [hs]
      | i + 3 => simp at h2; omega
theorem cellsMv {x : Mv} (h1 : InI x.from_) (h2 : InI x.by_) (h3 : InI x.to) : CellsAs shMv eMv x := fun w w' F u hu => by
  obtain ⟨a, b, c, rfl, a1, a2, a3⟩ := vrAgg3 hu
  cases a1; cases a2; cases a3
  exact ⟨[_], [_, _], rfl, ⟨rfl, h1⟩, [_], [_], rfl, ⟨rfl, h2⟩, rfl, h3⟩
theorem readsMv {x : Mv} (h1 : InI x.from_) (h2 : InI x.by_) (h3 : InI x.to) : ReadsAs shMv eMv x := fun w D u hu => by
  obtain ⟨a, b, c, rfl, a1, a2, a3⟩ := vrAgg3 hu
  cases a1; cases a2; cases a3
  exact ⟨[_], [_, _], rfl, ⟨rfl, h1⟩, [_], [_], rfl, ⟨rfl, h2⟩, rfl, h3⟩
theorem seenRows2Bool {P : Program} {α β : Type} {S : Sh α} {f : α → PV} {S2 : Sh β} {f2 : β → PV} {e : Ent} (he : FnOk P e) (hrk : e.rk = .grp true [.val, .val]) {w : World} {xs : List PV} {vs : List Value} {l : List α} {l2 : List β} {b : Bool} (hps : e.ps = List.replicate xs.length (.ck .val)) (hx : VRs w (fun b => b < w.heap.size) xs vs)
    (hs : e.spec xs = some (.tup [.agg [.lst (l.map f), .lst (l2.map f2)], pB b])) (H : ∀ x ∈ l, ReadsAs S f x) (H2 : ∀ x ∈ l2, ReadsAs S2 f2 x) :
    Calls P e.f vs.toArray w fun en w' => ∃ A c A2 c2, en = .returned (.tuple #[.agg #[.slice A l.length c, .slice A2 l2.length c2], .bool b]) ∧ Seen S w' w'.heap.size A c l ∧ Seen S2 w' w'.heap.size A2 c2 l2 ∧ Below w.heap.size w w' := by
  refine (he.call w (fun b => b < w.heap.size) xs vs _ (fun _ h => h) (by rw [hps]; exact argsVal hx) hs).mono ?_
  rintro en w' ⟨v, F', l', rfl, ha, _, hsr, hfresh, _⟩
  rw [hrk] at hsr
  obtain ⟨cs, ys, fps, hv, hy, hg, hfp⟩ := hsr
  simp only [if_true, PV.tup.injEq] at hv hy
  subst hy
  obtain ⟨cl⟩ := cs
  subst hv
  dsimp only at hg
  cases hg with
  | cons h1 _ t =>
    cases t with
    | cons h2 _ t =>
      cases t
      obtain ⟨h1, _⟩ := h1
      obtain ⟨h2, _⟩ := h2
      cases h2
      obtain ⟨y, z, rfl, k1, k2⟩ := vrAgg2 h1
      obtain ⟨A, c, rfl, hr, hlc, hcm⟩ := rsl_of_vr H rfl k1
      obtain ⟨A2, c2, rfl, hr2, hlc2, hcm2⟩ := rsl_of_vr H2 rfl k2
      exact ⟨A, c, A2, c2, rfl, ⟨hr.mono fun b hb => ha.lt b hb, Nat.le_refl _, hlc, by simpa [maxLen] using hcm⟩, ⟨hr2.mono fun b hb => ha.lt b hb, Nat.le_refl _, hlc2, by simpa [maxLen] using hcm2⟩, ha.below⟩
theorem impl_Explore (s : STG) (A_s_net_trans : Option Addr) (c_s_net_trans : Nat) (A_s_signals : Option Addr) (c_s_signals : Nat) (A_s_labels : Option Addr) (c_s_labels : Nat) (w : World) (fs0 : InI s.net.places) (fs1 : (s.net.trans).length ≤ c_s_net_trans) (fs2 : c_s_net_trans ≤ 9223372036854775807) (fs3 : RA shTr w A_s_net_trans s.net.trans) (fs4 : (s.signals).length ≤ c_s_signals) (fs5 : c_s_signals ≤ 9223372036854775807) (fs6 : RA shSig w A_s_signals s.signals) (fs7 : (s.labels).length ≤ c_s_labels) (fs8 : c_s_labels ≤ 9223372036854775807) (fs9 : RA shLab w A_s_labels s.labels) (fs10 : (s.start).length ≤ 9223372036854775807) :
    Calls Try.prog 31 #[.agg #[.int .i64 s.net.places, .slice A_s_net_trans (s.net.trans).length c_s_net_trans, .slice A_s_signals (s.signals).length c_s_signals, .slice A_s_labels (s.labels).length c_s_labels, .string ⟨(s.start).toArray⟩]] w fun e w' => ∃ A' c' A2' c2', e = .returned (.tuple #[.agg #[.slice A' ((exP s).1.marks).length c', .slice A2' ((exP s).1.moves).length c2'], .bool (exP s).2]) ∧ Own shStr w' w.heap.size 9 A' c' (exP s).1.marks ∧ Own shMv w' w.heap.size 139 A2' c2' (exP s).1.moves ∧ (∀ q, blk A' = some q → blk A2' = some q → False) ∧ Below w.heap.size w w' := by
  have hr := shSTG_mk (w := w) (D := fun b => b < w.heap.size) (x := s) (by assumption) (by assumption) (by assumption) (by assumption) (by assumption) (by assumption) (by assumption) (by assumption) (by assumption) (by assumption) (by assumption)
  have hf := bdStgX.out hr
  have hv := encStgX.vrAgg hr
  rw [eStg_to] at hv
  have hs : e_i_Explore.spec [eStg s] = some (.tup [.agg [.lst ((exP s).1.marks.map PV.str), .lst ((exP s).1.moves.map eMv)], pB (exP s).2]) := (congrFun (show e_i_Explore.spec = s_i_Explore from rfl) _).trans (at_i_Explore s hf)
  exact FnOk.rows2Bool (S := shStr) (S2 := shMv) ok_i_Explore rfl rfl rfl rfl (.cons hv .nil) hs (fun x hx => cellsStr (exP_in1 s hf x hx)) (fun x hx => by have h := exP_in2 s hf x hx; exact cellsMv (by constructor <;> omega) (by constructor <;> omega) (by constructor <;> omega))
theorem spec_Explore (s : STG) (A_s_net_trans : Option Addr) (c_s_net_trans : Nat) (A_s_signals : Option Addr) (c_s_signals : Nat) (A_s_labels : Option Addr) (c_s_labels : Nat) (w : World) (fs0 : InI s.net.places) (fs1 : (s.net.trans).length ≤ c_s_net_trans) (fs2 : c_s_net_trans ≤ 9223372036854775807) (fs3 : RA shTr w A_s_net_trans s.net.trans) (fs4 : (s.signals).length ≤ c_s_signals) (fs5 : c_s_signals ≤ 9223372036854775807) (fs6 : RA shSig w A_s_signals s.signals) (fs7 : (s.labels).length ≤ c_s_labels) (fs8 : c_s_labels ≤ 9223372036854775807) (fs9 : RA shLab w A_s_labels s.labels) (fs10 : (s.start).length ≤ 9223372036854775807) :
    Calls Try.prog 30 #[.agg #[.int .i64 s.net.places, .slice A_s_net_trans (s.net.trans).length c_s_net_trans, .slice A_s_signals (s.signals).length c_s_signals, .slice A_s_labels (s.labels).length c_s_labels, .string ⟨(s.start).toArray⟩]] w fun e w' => ∃ A' c' A2' c2', e = .returned (.tuple #[.agg #[.slice A' ((exP s).1.marks).length c', .slice A2' ((exP s).1.moves).length c2'], .bool (exP s).2]) ∧ Seen shStr w' w'.heap.size A' c' (exP s).1.marks ∧ Seen shMv w' w'.heap.size A2' c2' (exP s).1.moves ∧ Below w.heap.size w w' := by
  have hr := shSTG_mk (w := w) (D := fun b => b < w.heap.size) (x := s) (by assumption) (by assumption) (by assumption) (by assumption) (by assumption) (by assumption) (by assumption) (by assumption) (by assumption) (by assumption) (by assumption)
  have hf := bdStgX.out hr
  have hv := encStgX.vrAgg hr
  rw [eStg_to] at hv
  have hs : e_r_Explore.spec [eStg s] = some (.tup [.agg [.lst ((exP s).1.marks.map PV.str), .lst ((exP s).1.moves.map eMv)], pB (exP s).2]) := (congrFun (show e_r_Explore.spec = s_r_Explore from rfl) _).trans (at_r_Explore s hf)
  exact seenRows2Bool (S := shStr) (S2 := shMv) ok_r_Explore rfl rfl (.cons hv .nil) hs (fun x hx => readsStr (exP_in1 s hf x hx)) (fun x hx => by have h := exP_in2 s hf x hx; exact readsMv (by constructor <;> omega) (by constructor <;> omega) (by constructor <;> omega))
end Go.Proofs.Ytnpbdphfjablbaa.Lw
