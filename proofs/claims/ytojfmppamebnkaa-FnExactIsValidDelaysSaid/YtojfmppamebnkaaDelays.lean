/-
  Walks: delay bounds.
-/
import Derived.Test.YtojfmppamebnkaaStg3
namespace Go.Proofs.Ytojfmppamebnkaa
open Go.RowKit
set_option linter.unusedVariables false

theorem body_IsValidDelays_1 : HasBody Try.prog 68 := body_of Try.func68 (by kernel_rfl) rfl

theorem impl_IsValidDelays_1 (x : Dl) (w : World) :
    Calls Try.prog 68 #[.agg #[.int .i64 x.low, .int .i64 x.high]] w fun e w' => e = .returned (.bool (!dlB x)) ∧ Below w.heap.size w w' := by
  obtain ⟨lo, hi⟩ := x
  by_cases a : lo < 0
  · have q1 : decide (lo < 0) = true := by simpa using a
    go_enter Try.func68, Try.ntmps68
    go_wp2_with fail
    go_ret
    exact ⟨ret_bool (by simp only [dlB]; simp; omega), by (repeat' (first | (with_reducible exact Below.refl _ _) | (with_reducible assumption) | (with_reducible refine below_drewN' ?_ _) | (with_reducible refine Below.drew ?_) | (with_reducible refine Below.alloc ?_ ?_ _) | (with_reducible refine Below.setCell ?_ ?_ _) | (with_reducible refine Below.then_ ?_ (by assumption) ?_) | go_size))⟩
  · have q1 : decide (lo < 0) = false := by simpa using a
    by_cases b : hi < lo
    · have q2 : decide (hi < lo) = true := by simpa using b
      go_enter Try.func68, Try.ntmps68
      go_wp2_with fail
      go_ret
      exact ⟨ret_bool (by simp only [dlB]; simp; omega), by (repeat' (first | (with_reducible exact Below.refl _ _) | (with_reducible assumption) | (with_reducible refine below_drewN' ?_ _) | (with_reducible refine Below.drew ?_) | (with_reducible refine Below.alloc ?_ ?_ _) | (with_reducible refine Below.setCell ?_ ?_ _) | (with_reducible refine Below.then_ ?_ (by assumption) ?_) | go_size))⟩
    · have q2 : decide (hi < lo) = false := by simpa using b
      go_enter Try.func68, Try.ntmps68
      go_wp2_with fail
      go_ret
      exact ⟨ret_bool (by
        simp only [dlB]
        by_cases c : hi ≤ 100
        · have : decide (0 ≤ lo) = true := by simp; omega
          have : decide (lo ≤ hi) = true := by simp; omega
          have : decide (100 < hi) = false := by simp; omega
          simp [*]
        · have : decide (100 < hi) = true := by simp; omega
          simp [*]), by (repeat' (first | (with_reducible exact Below.refl _ _) | (with_reducible assumption) | (with_reducible refine below_drewN' ?_ _) | (with_reducible refine Below.drew ?_) | (with_reducible refine Below.alloc ?_ ?_ _) | (with_reducible refine Below.setCell ?_ ?_ _) | (with_reducible refine Below.then_ ?_ (by assumption) ?_) | go_size))⟩

set_option maxHeartbeats 2000000 in
theorem impl_IsValidDelays (s : STG) (l : List Dl) (A_s_net_trans : Option Addr) (c_s_net_trans : Nat) (A_s_signals : Option Addr) (c_s_signals : Nat) (A_s_labels : Option Addr) (c_s_labels : Nat) (A : Option Addr) (c : Nat) (w : World) (fs0 : InI s.net.places) (fs1 : (s.net.trans).length ≤ c_s_net_trans) (fs2 : c_s_net_trans ≤ 9223372036854775807) (fs3 : RA shTr w A_s_net_trans s.net.trans) (fs4 : (s.signals).length ≤ c_s_signals) (fs5 : c_s_signals ≤ 9223372036854775807) (fs6 : RA shSig w A_s_signals s.signals) (fs7 : (s.labels).length ≤ c_s_labels) (fs8 : c_s_labels ≤ 9223372036854775807) (fs9 : RA shLab w A_s_labels s.labels) (fs10 : (s.start).length ≤ 9223372036854775807) (h1 : l.length ≤ c) (h2 : c ≤ 9223372036854775807) (hr : RA shDl w A l) :
    Calls Try.prog 18 #[.agg #[.int .i64 s.net.places, .slice A_s_net_trans (s.net.trans).length c_s_net_trans, .slice A_s_signals (s.signals).length c_s_signals, .slice A_s_labels (s.labels).length c_s_labels, .string ⟨(s.start).toArray⟩], .slice A l.length c] w fun e w' => e = .returned (.bool (delaysB s l)) ∧ Below w.heap.size w w' := by
  obtain ⟨B, hB⟩ : ∃ B, stgB s = B := ⟨_, rfl⟩
  have HB := hide hB; clear hB
  go_enter Try.func18, Try.ntmps18
  go_wp2_with fail
  refine (impl_IsValidSTG s A_s_net_trans c_s_net_trans A_s_signals c_s_signals A_s_labels c_s_labels _ fs0 fs1 fs2 (RA.to fs3 ?h1) fs4 fs5 (RA.to fs6 ?h1) fs7 fs8 (RA.to fs9 ?h1) fs10).mono ?_
  case h1 => (repeat' (first | (with_reducible exact Below.refl _ _) | (with_reducible assumption) | (with_reducible refine below_drewN' ?_ _) | (with_reducible refine Below.drew ?_) | (with_reducible refine Below.alloc ?_ ?_ _) | (with_reducible refine Below.setCell ?_ ?_ _) | (with_reducible refine Below.then_ ?_ (by assumption) ?_) | go_size))
  rintro e w1 ⟨rfl, hb1⟩
  obtain ⟨hc1, hf1⟩ := bcell hb1
  have hz1 := hb1.size
  rw [World.size_alloc] at hz1
  have l1 : w.heap.size < w1.heap.size := by omega
  have hs1 : Below w.heap.size w w1 := by (repeat' (first | (with_reducible exact Below.refl _ _) | (with_reducible assumption) | (with_reducible refine below_drewN' ?_ _) | (with_reducible refine Below.drew ?_) | (with_reducible refine Below.alloc ?_ ?_ _) | (with_reducible refine Below.setCell ?_ ?_ _) | (with_reducible refine Below.then_ ?_ (by assumption) ?_) | go_size))
  rw [HB.out]
  cases B
  · go_wp2_with fail
    go_ret
    exact ⟨ret_bool (by simp [delaysB, HB.out]), by (repeat' (first | (with_reducible exact Below.refl _ _) | (with_reducible assumption) | (with_reducible refine below_drewN' ?_ _) | (with_reducible refine Below.drew ?_) | (with_reducible refine Below.alloc ?_ ?_ _) | (with_reducible refine Below.setCell ?_ ?_ _) | (with_reducible refine Below.then_ ?_ (by assumption) ?_) | go_size))⟩
  · by_cases hlen : (l.length : Int) = s.labels.length
    · have q : ((l.length : Int) == (s.labels.length : Int)) = true := by simpa using hlen
      have HLEN : Hid (l.length = s.labels.length) := by show _ = _; omega
      clear hlen
      go_wp2_with fail
      refine (containsFunc_Dl0 A c l _ (fun x => !dlB x) _ body_IsValidDelays_1 (by omega) (RA.to hr hs1) (by
        intro W hW x hx g0 g1
        exact impl_IsValidDelays_1 x W)).mono ?_
      rintro e w3 ⟨rfl, hb3⟩
      have hs3 : Below w.heap.size w w3 := hs1.trans (hb3.mono hs1.size)
      go_wp2_with fail
      go_ret
      exact ⟨ret_bool (by rw [all_not_any]; simp [delaysB, HB.out, HLEN.out]), by (repeat' (first | (with_reducible exact Below.refl _ _) | (with_reducible assumption) | (with_reducible refine below_drewN' ?_ _) | (with_reducible refine Below.drew ?_) | (with_reducible refine Below.alloc ?_ ?_ _) | (with_reducible refine Below.setCell ?_ ?_ _) | (with_reducible refine Below.then_ ?_ (by assumption) ?_) | go_size))⟩
    · have q : ((l.length : Int) == (s.labels.length : Int)) = false := by simpa using hlen
      have HLEN : Hid (¬ l.length = s.labels.length) := by show ¬ _; omega
      clear hlen
      go_wp2_with fail
      go_ret
      exact ⟨ret_bool (by simp [delaysB, HLEN.out]), by (repeat' (first | (with_reducible exact Below.refl _ _) | (with_reducible assumption) | (with_reducible refine below_drewN' ?_ _) | (with_reducible refine Below.drew ?_) | (with_reducible refine Below.alloc ?_ ?_ _) | (with_reducible refine Below.setCell ?_ ?_ _) | (with_reducible refine Below.then_ ?_ (by assumption) ?_) | go_size))⟩

theorem stg_labels {s : STG} (h : stgB s = true) : s.labels.length = s.net.trans.length := by
  unfold stgB at h
  simp only [Bool.and_eq_true, decide_eq_true_eq] at h
  exact h.1.2

set_option maxHeartbeats 2000000 in
theorem spec_l23Good (s : STG) (l : List Dl) (A_s_net_trans : Option Addr) (c_s_net_trans : Nat) (A_s_signals : Option Addr) (c_s_signals : Nat) (A_s_labels : Option Addr) (c_s_labels : Nat) (A : Option Addr) (c : Nat) (w : World) (fs0 : InI s.net.places) (fs1 : (s.net.trans).length ≤ c_s_net_trans) (fs2 : c_s_net_trans ≤ 9223372036854775807) (fs3 : RA shTr w A_s_net_trans s.net.trans) (fs4 : (s.signals).length ≤ c_s_signals) (fs5 : c_s_signals ≤ 9223372036854775807) (fs6 : RA shSig w A_s_signals s.signals) (fs7 : (s.labels).length ≤ c_s_labels) (fs8 : c_s_labels ≤ 9223372036854775807) (fs9 : RA shLab w A_s_labels s.labels) (fs10 : (s.start).length ≤ 9223372036854775807) (h1 : l.length ≤ c) (h2 : c ≤ 9223372036854775807) (hr : RA shDl w A l) :
    Calls Try.prog 62 #[.agg #[.int .i64 s.net.places, .slice A_s_net_trans (s.net.trans).length c_s_net_trans, .slice A_s_signals (s.signals).length c_s_signals, .slice A_s_labels (s.labels).length c_s_labels, .string ⟨(s.start).toArray⟩], .slice A l.length c] w fun e w' => e = .returned (.bool (delaysB s l)) ∧ Below w.heap.size w w' := by
  obtain ⟨R, hR⟩ : ∃ R, l.all dlB = R := ⟨_, rfl⟩
  have HR := hide hR
  have HL : Hid ((l.drop 0).all dlB = R) := hR
  clear hR
  go_enter Try.func62, Try.ntmps62
  go_wp2
  go_loopw [9] (fun i wr => ∃ k : Nat, k ≤ l.length ∧ i = .int .i64 k ∧ Hid ((l.drop k).all dlB = R) ∧ Below (w.heap.size + 1) (w.alloc (.cells #[.int .i64 s.net.places, .slice A_s_net_trans (s.net.trans).length c_s_net_trans, .slice A_s_signals (s.signals).length c_s_signals, .slice A_s_labels (s.labels).length c_s_labels, .string ⟨(s.start).toArray⟩] 39)) wr) (fun i _ => l.length - (intOf i).toNat)
  case atStart => exact ⟨0, Nat.zero_le _, rfl, HL, Below.refl _ _⟩
  case round =>
    obtain ⟨k, hk, rfl, hgo, hb0⟩ := hrel
    have hsz0 := hb0.size
    rw [World.size_alloc] at hsz0
    have hb : Below w.heap.size w wr := ((Below.refl w.heap.size w).alloc (Nat.le_refl _) _).trans (hb0.mono (by omega))
    have hsz := hb.size
    have lr : w.heap.size < wr.heap.size := by omega
    have hcr : ∀ b o, b < w.heap.size + 1 → wr.cell? ⟨b, o, none⟩ = (w.alloc (.cells #[.int .i64 s.net.places, .slice A_s_net_trans (s.net.trans).length c_s_net_trans, .slice A_s_signals (s.signals).length c_s_signals, .slice A_s_labels (s.labels).length c_s_labels, .string ⟨(s.start).toArray⟩] 39)).cell? ⟨b, o, none⟩ := fun b o h => hb0.cell (p := ⟨b, o, none⟩) h
    by_cases hlt : k < l.length
    · obtain ⟨x, hx⟩ := get_of_lt hlt
      obtain ⟨b, off, rfl, hbl, d0, d1, g0, g1⟩ := hr.Dl_at hb hx
      have hgo' := hgo.out
      rw [drop_get hx] at hgo'
      have HG := hide hgo'; clear hgo' hx
      obtain ⟨N, hN⟩ : ∃ N, inB x.low 0 x.high = N := ⟨_, rfl⟩
      have HN := hide hN; clear hN
      have hdl : dlB x = (N && decide (x.high ≤ 100)) := by rw [← HN.out]; rfl
      have HDL := hide hdl; clear hdl
      go_wp2_with fail
      refine (spec_l1In x.low 0 x.high _).mono ?_
      rintro e w1 ⟨rfl, rfl⟩
      rw [HN.out]
      have hb01 := hb0.trans (((Below.refl wr.heap.size wr).alloc (Nat.le_refl _) (.cells #[.int .i64 x.low, .int .i64 x.high] 96)).mono (by omega))
      cases N
      · go_wp2_with fail
        go_ret
        exact ⟨ret_bool (by simp only [delaysB]; rw [HR.out, ← HG.out]; simp [HDL.out]), by (repeat' (first | (with_reducible exact Below.refl _ _) | (with_reducible assumption) | (with_reducible refine below_drewN' ?_ _) | (with_reducible refine Below.drew ?_) | (with_reducible refine Below.alloc ?_ ?_ _) | (with_reducible refine Below.setCell ?_ ?_ _) | (with_reducible refine Below.then_ ?_ (by assumption) ?_) | go_size))⟩
      · by_cases h100 : 100 < x.high
        · have q : decide (100 < x.high) = true := by simpa using h100
          have H1 : Hid (decide (x.high ≤ 100) = false) := by show _ = _; simp; omega
          clear h100
          go_wp2_with fail
          go_ret
          exact ⟨ret_bool (by simp only [delaysB]; rw [HR.out, ← HG.out]; simp [HDL.out, H1.out]), by (repeat' (first | (with_reducible exact Below.refl _ _) | (with_reducible assumption) | (with_reducible refine below_drewN' ?_ _) | (with_reducible refine Below.drew ?_) | (with_reducible refine Below.alloc ?_ ?_ _) | (with_reducible refine Below.setCell ?_ ?_ _) | (with_reducible refine Below.then_ ?_ (by assumption) ?_) | go_size))⟩
        · have q : decide (100 < x.high) = false := by simpa using h100
          have H1 : Hid (decide (x.high ≤ 100) = true) := by show _ = _; simp; omega
          clear h100
          have HG2 : Hid ((l.drop (k + 1)).all dlB = R) := by show _ = _; rw [← HG.out]; simp [HDL.out, H1.out]
          go_wp2_with fail
          go_roundw
          case rel => exact ⟨k + 1, by omega, by go_num, HG2, hb01⟩
          case measure => simp [intOf]; omega
    · have hgo' := hgo.out
      rw [drop_end hlt] at hgo'
      have hRt : R = true := hgo'.symm
      have HRT := hide hRt
      clear hgo' hRt
      obtain ⟨B, hB⟩ : ∃ B, stgB s = B := ⟨_, rfl⟩
      have HB := hide hB; clear hB
      go_wp2_with fail
      refine (spec_l2Good s A_s_net_trans c_s_net_trans A_s_signals c_s_signals A_s_labels c_s_labels _ fs0 fs1 fs2 (RA.to fs3 hb) fs4 fs5 (RA.to fs6 hb) fs7 fs8 (RA.to fs9 hb) fs10).mono ?_
      rintro e w1 ⟨rfl, hb1⟩
      obtain ⟨hc1, hf1⟩ := bcell hb1
      have hz1 := hb1.size
      have l1 : w.heap.size < w1.heap.size := by omega
      have hs1 : Below w.heap.size w w1 := by (repeat' (first | (with_reducible exact Below.refl _ _) | (with_reducible assumption) | (with_reducible refine below_drewN' ?_ _) | (with_reducible refine Below.drew ?_) | (with_reducible refine Below.alloc ?_ ?_ _) | (with_reducible refine Below.setCell ?_ ?_ _) | (with_reducible refine Below.then_ ?_ (by assumption) ?_) | go_size))
      rw [HB.out]
      cases B
      · go_wp2_with fail
        go_ret
        exact ⟨ret_bool (by simp [delaysB, HB.out]), by (repeat' (first | (with_reducible exact Below.refl _ _) | (with_reducible assumption) | (with_reducible refine below_drewN' ?_ _) | (with_reducible refine Below.drew ?_) | (with_reducible refine Below.alloc ?_ ?_ _) | (with_reducible refine Below.setCell ?_ ?_ _) | (with_reducible refine Below.then_ ?_ (by assumption) ?_) | go_size))⟩
      · have HLL := hide (stg_labels HB.out)
        go_wp2_with fail
        go_ret
        exact ⟨ret_bool (by simp only [delaysB]; rw [HR.out, HRT.out, HB.out, HLL.out, show ((l.length : Int) == (s.net.trans.length : Int)) = decide (l.length = s.net.trans.length) from by rw [Bool.eq_iff_iff]; simp; omega]; simp), by (repeat' (first | (with_reducible exact Below.refl _ _) | (with_reducible assumption) | (with_reducible refine below_drewN' ?_ _) | (with_reducible refine Below.drew ?_) | (with_reducible refine Below.alloc ?_ ?_ _) | (with_reducible refine Below.setCell ?_ ?_ _) | (with_reducible refine Below.then_ ?_ (by assumption) ?_) | go_size))⟩

theorem spec_IsValidDelays (s : STG) (l : List Dl) (A_s_net_trans : Option Addr) (c_s_net_trans : Nat) (A_s_signals : Option Addr) (c_s_signals : Nat) (A_s_labels : Option Addr) (c_s_labels : Nat) (A : Option Addr) (c : Nat) (w : World) (fs0 : InI s.net.places) (fs1 : (s.net.trans).length ≤ c_s_net_trans) (fs2 : c_s_net_trans ≤ 9223372036854775807) (fs3 : RA shTr w A_s_net_trans s.net.trans) (fs4 : (s.signals).length ≤ c_s_signals) (fs5 : c_s_signals ≤ 9223372036854775807) (fs6 : RA shSig w A_s_signals s.signals) (fs7 : (s.labels).length ≤ c_s_labels) (fs8 : c_s_labels ≤ 9223372036854775807) (fs9 : RA shLab w A_s_labels s.labels) (fs10 : (s.start).length ≤ 9223372036854775807) (h1 : l.length ≤ c) (h2 : c ≤ 9223372036854775807) (hr : RA shDl w A l) :
    Calls Try.prog 15 #[.agg #[.int .i64 s.net.places, .slice A_s_net_trans (s.net.trans).length c_s_net_trans, .slice A_s_signals (s.signals).length c_s_signals, .slice A_s_labels (s.labels).length c_s_labels, .string ⟨(s.start).toArray⟩], .slice A l.length c] w fun e w' => e = .returned (.bool (delaysB s l)) ∧ Below w.heap.size w w' := by
  go_enter Try.func15, Try.ntmps15
  go_wp2_with fail
  refine (spec_l23Good s l A_s_net_trans c_s_net_trans A_s_signals c_s_signals A_s_labels c_s_labels A c _ fs0 fs1 fs2 (RA.to fs3 ?h1) fs4 fs5 (RA.to fs6 ?h1) fs7 fs8 (RA.to fs9 ?h1) fs10 h1 h2 (RA.to hr ?h1)).mono ?_
  case h1 => (repeat' (first | (with_reducible exact Below.refl _ _) | (with_reducible assumption) | (with_reducible refine below_drewN' ?_ _) | (with_reducible refine Below.drew ?_) | (with_reducible refine Below.alloc ?_ ?_ _) | (with_reducible refine Below.setCell ?_ ?_ _) | (with_reducible refine Below.then_ ?_ (by assumption) ?_) | go_size))
  rintro e w1 ⟨rfl, hb1⟩
  go_wp2_with fail
  go_ret
  exact ⟨rfl, by (repeat' (first | (with_reducible exact Below.refl _ _) | (with_reducible assumption) | (with_reducible refine below_drewN' ?_ _) | (with_reducible refine Below.drew ?_) | (with_reducible refine Below.alloc ?_ ?_ _) | (with_reducible refine Below.setCell ?_ ?_ _) | (with_reducible refine Below.then_ ?_ (by assumption) ?_) | go_size))⟩
end Go.Proofs.Ytojfmppamebnkaa
