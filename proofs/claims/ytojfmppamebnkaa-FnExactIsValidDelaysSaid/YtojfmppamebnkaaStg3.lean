/-
  Walks of the functions on signal transition graphs: the whole graph.
-/
import Derived.Test.YtojfmppamebnkaaStg2
namespace Go.Proofs.Ytojfmppamebnkaa
open Go.RowKit
set_option linter.unusedVariables false

theorem body_IsValidSTG_1 : HasBody Try.prog 121 := body_of Try.func121 (by kernel_rfl) rfl

theorem impl_IsValidSTG_1 (x : Lab) (A : Option Addr) (n c : Nat) (g : Nat) (w : World) (hn : n ≤ 9223372036854775807) (hg : g < w.heap.size) (hc : w.cell? ⟨g, 2, none⟩ = some (.slice A n c)) :
    Calls Try.prog 121 #[.agg #[.int .i64 x.sig, .bool x.up], .pointer (some ⟨g, 0, none⟩)] w fun e w' => e = .returned (.bool (!labB n x)) ∧ Below w.heap.size w w' := by
  go_enter Try.func121, Try.ntmps121
  go_wp2_with fail
  refine (impl_isEdge x n _ (by omega)).mono ?_
  rintro e w1 ⟨rfl, hb1⟩
  go_wp2_with fail
  go_ret
  exact ⟨rfl, by (repeat' (first | (with_reducible exact Below.refl _ _) | (with_reducible assumption) | (with_reducible refine below_drewN' ?_ _) | (with_reducible refine Below.drew ?_) | (with_reducible refine Below.alloc ?_ ?_ _) | (with_reducible refine Below.setCell ?_ ?_ _) | (with_reducible refine Below.then_ ?_ (by assumption) ?_) | go_size))⟩

set_option maxHeartbeats 2000000 in
theorem impl_IsValidSTG (s : STG) (A_s_net_trans : Option Addr) (c_s_net_trans : Nat) (A_s_signals : Option Addr) (c_s_signals : Nat) (A_s_labels : Option Addr) (c_s_labels : Nat) (w : World) (fs0 : InI s.net.places) (fs1 : (s.net.trans).length ≤ c_s_net_trans) (fs2 : c_s_net_trans ≤ 9223372036854775807) (fs3 : RA shTr w A_s_net_trans s.net.trans) (fs4 : (s.signals).length ≤ c_s_signals) (fs5 : c_s_signals ≤ 9223372036854775807) (fs6 : RA shSig w A_s_signals s.signals) (fs7 : (s.labels).length ≤ c_s_labels) (fs8 : c_s_labels ≤ 9223372036854775807) (fs9 : RA shLab w A_s_labels s.labels) (fs10 : (s.start).length ≤ 9223372036854775807) :
    Calls Try.prog 66 #[.agg #[.int .i64 s.net.places, .slice A_s_net_trans (s.net.trans).length c_s_net_trans, .slice A_s_signals (s.signals).length c_s_signals, .slice A_s_labels (s.labels).length c_s_labels, .string ⟨(s.start).toArray⟩]] w fun e w' => e = .returned (.bool (stgB s)) ∧ Below w.heap.size w w' := by
  obtain ⟨B, hB⟩ : ∃ B, goodMark s.net s.start = B := ⟨_, rfl⟩
  have HB := hide hB; clear hB
  obtain ⟨B2, hB2⟩ : ∃ B, sigsB s.signals = B := ⟨_, rfl⟩
  have HB2 := hide hB2; clear hB2
  go_enter Try.func66, Try.ntmps66
  go_wp2_with fail
  refine (impl_IsValidMarking s.net s.start A_s_net_trans c_s_net_trans _ fs0 fs1 fs2 (RA.to fs3 ?hb) fs10).mono ?_
  case hb => (repeat' (first | (with_reducible exact Below.refl _ _) | (with_reducible assumption) | (with_reducible refine below_drewN' ?_ _) | (with_reducible refine Below.drew ?_) | (with_reducible refine Below.alloc ?_ ?_ _) | (with_reducible refine Below.setCell ?_ ?_ _) | (with_reducible refine Below.then_ ?_ (by assumption) ?_) | go_size))
  rintro e w1 ⟨rfl, hb1⟩
  obtain ⟨hc1, hf1⟩ := bcell hb1
  have hz1 := hb1.size
  rw [World.size_alloc] at hz1
  have l1 : w.heap.size < w1.heap.size := by omega
  have hs1 : Below w.heap.size w w1 := by (repeat' (first | (with_reducible exact Below.refl _ _) | (with_reducible assumption) | (with_reducible refine below_drewN' ?_ _) | (with_reducible refine Below.drew ?_) | (with_reducible refine Below.alloc ?_ ?_ _) | (with_reducible refine Below.setCell ?_ ?_ _) | (with_reducible refine Below.then_ ?_ (by assumption) ?_) | go_size))
  rw [HB.out]
  cases B
  · go_wp2_with fail
    go_ret
    exact ⟨ret_bool (by simp [stgB, HB.out]), by (repeat' (first | (with_reducible exact Below.refl _ _) | (with_reducible assumption) | (with_reducible refine below_drewN' ?_ _) | (with_reducible refine Below.drew ?_) | (with_reducible refine Below.alloc ?_ ?_ _) | (with_reducible refine Below.setCell ?_ ?_ _) | (with_reducible refine Below.then_ ?_ (by assumption) ?_) | go_size))⟩
  · go_wp2_with fail
    refine (impl_areSignals s.signals A_s_signals c_s_signals _ fs4 fs5 (RA.to fs6 hs1)).mono ?_
    rintro e w2 ⟨rfl, hb2⟩
    obtain ⟨hc2, hf2⟩ := bcell hb2
    have hz2 := hb2.size
    have l2 : w.heap.size < w2.heap.size := by omega
    have hs2 : Below w.heap.size w w2 := hs1.trans (hb2.mono hs1.size)
    rw [HB2.out]
    cases B2
    · go_wp2_with fail
      go_ret
      exact ⟨ret_bool (by simp [stgB, HB.out, HB2.out]), by (repeat' (first | (with_reducible exact Below.refl _ _) | (with_reducible assumption) | (with_reducible refine below_drewN' ?_ _) | (with_reducible refine Below.drew ?_) | (with_reducible refine Below.alloc ?_ ?_ _) | (with_reducible refine Below.setCell ?_ ?_ _) | (with_reducible refine Below.then_ ?_ (by assumption) ?_) | go_size))⟩
    · by_cases hlen : (s.labels.length : Int) = s.net.trans.length
      · have q : ((s.labels.length : Int) == (s.net.trans.length : Int)) = true := by simpa using hlen
        have HLEN : Hid (s.labels.length = s.net.trans.length) := by show _ = _; omega
        clear hlen
        go_wp2_with fail
        refine (containsFunc_Lab1 A_s_labels c_s_labels s.labels _ (fun x => !labB s.signals.length x) _ body_IsValidSTG_1 ⟨w.heap.size, 0, none⟩ (by omega) (RA.to fs9 hs2) (by
          intro W hW x hx g0
          have hz := hW.size
          have hc := hW.cell (p := ⟨w.heap.size, 2, none⟩) l2
          exact impl_IsValidSTG_1 x A_s_signals s.signals.length c_s_signals w.heap.size W (by omega) (by omega) (by rw [hc, hc2 _ _ l1, hc1 _ _ (by rw [World.size_alloc]; omega)]; simp [go_sem]))).mono ?_
        rintro e w3 ⟨rfl, hb3⟩
        have hs3 : Below w.heap.size w w3 := hs2.trans (hb3.mono hs2.size)
        go_wp2_with fail
        go_ret
        exact ⟨ret_bool (by rw [all_not_any]; simp [stgB, HB.out, HB2.out, HLEN.out]), by (repeat' (first | (with_reducible exact Below.refl _ _) | (with_reducible assumption) | (with_reducible refine below_drewN' ?_ _) | (with_reducible refine Below.drew ?_) | (with_reducible refine Below.alloc ?_ ?_ _) | (with_reducible refine Below.setCell ?_ ?_ _) | (with_reducible refine Below.then_ ?_ (by assumption) ?_) | go_size))⟩
      · have q : ((s.labels.length : Int) == (s.net.trans.length : Int)) = false := by simpa using hlen
        have HLEN : Hid (¬ s.labels.length = s.net.trans.length) := by show ¬ _; omega
        clear hlen
        go_wp2_with fail
        go_ret
        exact ⟨ret_bool (by simp [stgB, HB.out, HB2.out, HLEN.out]), by (repeat' (first | (with_reducible exact Below.refl _ _) | (with_reducible assumption) | (with_reducible refine below_drewN' ?_ _) | (with_reducible refine Below.drew ?_) | (with_reducible refine Below.alloc ?_ ?_ _) | (with_reducible refine Below.setCell ?_ ?_ _) | (with_reducible refine Below.then_ ?_ (by assumption) ?_) | go_size))⟩

set_option maxHeartbeats 2000000 in
theorem spec_l2Good (s : STG) (A_s_net_trans : Option Addr) (c_s_net_trans : Nat) (A_s_signals : Option Addr) (c_s_signals : Nat) (A_s_labels : Option Addr) (c_s_labels : Nat) (w : World) (fs0 : InI s.net.places) (fs1 : (s.net.trans).length ≤ c_s_net_trans) (fs2 : c_s_net_trans ≤ 9223372036854775807) (fs3 : RA shTr w A_s_net_trans s.net.trans) (fs4 : (s.signals).length ≤ c_s_signals) (fs5 : c_s_signals ≤ 9223372036854775807) (fs6 : RA shSig w A_s_signals s.signals) (fs7 : (s.labels).length ≤ c_s_labels) (fs8 : c_s_labels ≤ 9223372036854775807) (fs9 : RA shLab w A_s_labels s.labels) (fs10 : (s.start).length ≤ 9223372036854775807) :
    Calls Try.prog 72 #[.agg #[.int .i64 s.net.places, .slice A_s_net_trans (s.net.trans).length c_s_net_trans, .slice A_s_signals (s.signals).length c_s_signals, .slice A_s_labels (s.labels).length c_s_labels, .string ⟨(s.start).toArray⟩]] w fun e w' => e = .returned (.bool (stgB s)) ∧ Below w.heap.size w w' := by
  obtain ⟨R, hR⟩ : ∃ R, s.labels.all (labB s.signals.length) = R := ⟨_, rfl⟩
  have HR := hide hR
  have HL : Hid ((s.labels.drop 0).all (labB s.signals.length) = R) := hR
  clear hR
  go_enter Try.func72, Try.ntmps72
  go_wp2
  go_loopw [8] (fun i wr => ∃ k : Nat, k ≤ s.labels.length ∧ i = .int .i64 k ∧ Hid ((s.labels.drop k).all (labB s.signals.length) = R) ∧ Below (w.heap.size + 1) (w.alloc (.cells #[.int .i64 s.net.places, .slice A_s_net_trans (s.net.trans).length c_s_net_trans, .slice A_s_signals (s.signals).length c_s_signals, .slice A_s_labels (s.labels).length c_s_labels, .string ⟨(s.start).toArray⟩] 39)) wr) (fun i _ => s.labels.length - (intOf i).toNat)
  case atStart => exact ⟨0, Nat.zero_le _, rfl, HL, Below.refl _ _⟩
  case round =>
    obtain ⟨k, hk, rfl, hgo, hb0⟩ := hrel
    have hsz0 := hb0.size
    rw [World.size_alloc] at hsz0
    have hb : Below w.heap.size w wr := ((Below.refl w.heap.size w).alloc (Nat.le_refl _) _).trans (hb0.mono (by omega))
    have hsz := hb.size
    have lr : w.heap.size < wr.heap.size := by omega
    have hcr : ∀ b o, b < w.heap.size + 1 → wr.cell? ⟨b, o, none⟩ = (w.alloc (.cells #[.int .i64 s.net.places, .slice A_s_net_trans (s.net.trans).length c_s_net_trans, .slice A_s_signals (s.signals).length c_s_signals, .slice A_s_labels (s.labels).length c_s_labels, .string ⟨(s.start).toArray⟩] 39)).cell? ⟨b, o, none⟩ := fun b o h => hb0.cell (p := ⟨b, o, none⟩) h
    by_cases hlt : k < s.labels.length
    · obtain ⟨x, hx⟩ := get_of_lt hlt
      obtain ⟨b, off, rfl, hbl, d0, d1, g0⟩ := fs9.Lab_at hb hx
      have hgo' := hgo.out
      rw [drop_get hx] at hgo'
      have HG := hide hgo'; clear hgo' hx
      obtain ⟨N, hN⟩ : ∃ N, labB s.signals.length x = N := ⟨_, rfl⟩
      have HN := hide hN; clear hN
      go_wp2_with fail
      refine (spec_l2Label x s.signals.length _ (by omega)).mono ?_
      rintro e w1 ⟨rfl, hb1⟩
      rw [HN.out]
      have hs1 : Below wr.heap.size wr w1 := by (repeat' (first | (with_reducible exact Below.refl _ _) | (with_reducible assumption) | (with_reducible refine below_drewN' ?_ _) | (with_reducible refine Below.drew ?_) | (with_reducible refine Below.alloc ?_ ?_ _) | (with_reducible refine Below.setCell ?_ ?_ _) | (with_reducible refine Below.then_ ?_ (by assumption) ?_) | go_size))
      have hb01 := hb0.trans (hs1.mono (by omega))
      have hs2 : Below w.heap.size w w1 := by (repeat' (first | (with_reducible exact Below.refl _ _) | (with_reducible assumption) | (with_reducible refine below_drewN' ?_ _) | (with_reducible refine Below.drew ?_) | (with_reducible refine Below.alloc ?_ ?_ _) | (with_reducible refine Below.setCell ?_ ?_ _) | (with_reducible refine Below.then_ ?_ (by assumption) ?_) | go_size))
      cases N
      · go_wp2_with fail
        go_ret
        exact ⟨ret_bool (by simp only [stgB]; rw [HR.out, ← HG.out]; simp [HN.out]), by (repeat' (first | (with_reducible exact Below.refl _ _) | (with_reducible assumption) | (with_reducible refine below_drewN' ?_ _) | (with_reducible refine Below.drew ?_) | (with_reducible refine Below.alloc ?_ ?_ _) | (with_reducible refine Below.setCell ?_ ?_ _) | (with_reducible refine Below.then_ ?_ (by assumption) ?_) | go_size))⟩
      · have HG2 : Hid ((s.labels.drop (k + 1)).all (labB s.signals.length) = R) := by show _ = _; rw [← HG.out]; simp [HN.out]
        go_wp2_with fail
        go_roundw
        case rel => exact ⟨k + 1, by omega, by go_num, HG2, hb01⟩
        case measure => simp [intOf]; omega
    · have hgo' := hgo.out
      rw [drop_end hlt] at hgo'
      have hRt : R = true := hgo'.symm
      have HRT := hide hRt
      clear hgo' hRt
      obtain ⟨B, hB⟩ : ∃ B, goodNet s.net = B := ⟨_, rfl⟩
      have HB := hide hB; clear hB
      obtain ⟨B2, hB2⟩ : ∃ B, sigsB s.signals = B := ⟨_, rfl⟩
      have HB2 := hide hB2; clear hB2
      go_wp2_with fail
      refine (spec_l1Good s.net A_s_net_trans c_s_net_trans _ fs0 fs1 fs2 (RA.to fs3 hb)).mono ?_
      rintro e w1 ⟨rfl, hb1⟩
      obtain ⟨hc1, hf1⟩ := bcell hb1
      have hz1 := hb1.size
      have l1 : w.heap.size < w1.heap.size := by omega
      have hs1 : Below w.heap.size w w1 := by (repeat' (first | (with_reducible exact Below.refl _ _) | (with_reducible assumption) | (with_reducible refine below_drewN' ?_ _) | (with_reducible refine Below.drew ?_) | (with_reducible refine Below.alloc ?_ ?_ _) | (with_reducible refine Below.setCell ?_ ?_ _) | (with_reducible refine Below.then_ ?_ (by assumption) ?_) | go_size))
      rw [HB.out]
      cases B
      · go_wp2_with fail
        go_ret
        exact ⟨ret_bool (by simp [stgB, goodMark, HB.out]), by (repeat' (first | (with_reducible exact Below.refl _ _) | (with_reducible assumption) | (with_reducible refine below_drewN' ?_ _) | (with_reducible refine Below.drew ?_) | (with_reducible refine Below.alloc ?_ ?_ _) | (with_reducible refine Below.setCell ?_ ?_ _) | (with_reducible refine Below.then_ ?_ (by assumption) ?_) | go_size))⟩
      · go_wp2_with fail
        refine (spec_l2Signals s.signals A_s_signals c_s_signals _ fs4 fs5 (RA.to fs6 hs1)).mono ?_
        rintro e w2 ⟨rfl, hb2⟩
        obtain ⟨hc2, hf2⟩ := bcell hb2
        have hz2 := hb2.size
        have l2 : w.heap.size < w2.heap.size := by omega
        have hs2 : Below w.heap.size w w2 := hs1.trans (hb2.mono hs1.size)
        rw [HB2.out]
        cases B2
        · go_wp2_with fail
          go_ret
          exact ⟨ret_bool (by simp [stgB, HB2.out]), by (repeat' (first | (with_reducible exact Below.refl _ _) | (with_reducible assumption) | (with_reducible refine below_drewN' ?_ _) | (with_reducible refine Below.drew ?_) | (with_reducible refine Below.alloc ?_ ?_ _) | (with_reducible refine Below.setCell ?_ ?_ _) | (with_reducible refine Below.then_ ?_ (by assumption) ?_) | go_size))⟩
        · by_cases hlen : (s.labels.length : Int) = s.net.trans.length
          · have q : ((s.labels.length : Int) == (s.net.trans.length : Int)) = true := by simpa using hlen
            have HLEN : Hid (s.labels.length = s.net.trans.length) := by show _ = _; omega
            clear hlen
            go_wp2_with fail
            refine (spec_l1Mark s.start s.net A_s_net_trans c_s_net_trans _ fs10).mono ?_
            rintro e w3 ⟨rfl, hb3⟩
            have hs3 : Below w.heap.size w w3 := hs2.trans (hb3.mono hs2.size)
            go_wp2_with fail
            go_ret
            exact ⟨ret_bool (by simp only [stgB]; rw [HR.out, HRT.out]; simp [goodMark, HB.out, HB2.out, HLEN.out]), by (repeat' (first | (with_reducible exact Below.refl _ _) | (with_reducible assumption) | (with_reducible refine below_drewN' ?_ _) | (with_reducible refine Below.drew ?_) | (with_reducible refine Below.alloc ?_ ?_ _) | (with_reducible refine Below.setCell ?_ ?_ _) | (with_reducible refine Below.then_ ?_ (by assumption) ?_) | go_size))⟩
          · have q : ((s.labels.length : Int) == (s.net.trans.length : Int)) = false := by simpa using hlen
            have HLEN : Hid (¬ s.labels.length = s.net.trans.length) := by show ¬ _; omega
            clear hlen
            go_wp2_with fail
            go_ret
            exact ⟨ret_bool (by simp [stgB, HB2.out, HLEN.out]), by (repeat' (first | (with_reducible exact Below.refl _ _) | (with_reducible assumption) | (with_reducible refine below_drewN' ?_ _) | (with_reducible refine Below.drew ?_) | (with_reducible refine Below.alloc ?_ ?_ _) | (with_reducible refine Below.setCell ?_ ?_ _) | (with_reducible refine Below.then_ ?_ (by assumption) ?_) | go_size))⟩
end Go.Proofs.Ytojfmppamebnkaa
