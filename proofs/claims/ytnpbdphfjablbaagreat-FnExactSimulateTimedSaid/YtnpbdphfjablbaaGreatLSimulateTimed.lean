/-
  FnExactSimulateTimed: the law's own walk: it returns true, whatever its arguments. Printed by a program of this repo (lawwalk.py).
-/
import Derived.Test.YtnpbdphfjablbaaGreatRows
import Derived.Test.YtnpbdphfjablbaaGreatSimulateTimedC
import Derived.Test.YtnpbdphfjablbaaGreatLawTs
import Derived.Test.YtnpbdphfjablbaaGreatMarkTs
namespace Go.Proofs.YtnpbdphfjablbaaGreat.Lw
open Go.RowKit
set_option linter.unusedVariables false

set_option maxHeartbeats 4000000 in
set_option maxRecDepth 20000 in
theorem law_SimulateTimed (s : STG) (l : List (Dl)) (d : List (Int)) (A_s_net_trans : Option Addr) (c_s_net_trans : Nat) (A_s_signals : Option Addr) (c_s_signals : Nat) (A_s_labels : Option Addr) (c_s_labels : Nat) (A_l : Option Addr) (c_l : Nat) (A_d : Option Addr) (c_d : Nat) (w : World) (g0 : InI s.net.places) (g1 : (s.net.trans).length ≤ c_s_net_trans) (g2 : c_s_net_trans ≤ 9223372036854775807) (g3 : RA shTr w A_s_net_trans s.net.trans) (g4 : (s.signals).length ≤ c_s_signals) (g5 : c_s_signals ≤ 9223372036854775807) (g6 : RA shSig w A_s_signals s.signals) (g7 : (s.labels).length ≤ c_s_labels) (g8 : c_s_labels ≤ 9223372036854775807) (g9 : RA shLab w A_s_labels s.labels) (g10 : (s.start).length ≤ 9223372036854775807) (g11 : (l).length ≤ c_l) (g12 : c_l ≤ 9223372036854775807) (g13 : RA shDl w A_l l) (g14 : (d).length ≤ c_d) (g15 : c_d ≤ 9223372036854775807) (g16 : RA shInt w A_d d) :
    Calls Tryz.prog 4 #[.agg #[.int .i64 s.net.places, .slice A_s_net_trans (s.net.trans).length c_s_net_trans, .slice A_s_signals (s.signals).length c_s_signals, .slice A_s_labels (s.labels).length c_s_labels, .string ⟨(s.start).toArray⟩], .slice A_l (l).length c_l, .slice A_d (d).length c_d] w fun e w' => e = .returned (.bool true) ∧ Below w.heap.size w w' := by
  obtain ⟨R, hR⟩ : ∃ R, simP s l d = R := ⟨_, rfl⟩
  have hRb := simP_len s l d
  rw [hR] at hRb
  have HR := hide hR; clear hR
  go_enter Tryz.func4, Tryz.ntmps4
  by_cases q_d : (1048576 : Int) < (d).length
  · go_wp2_with fail
    go_ret
    exact ⟨rfl, by (repeat' (first | (with_reducible exact Below.refl _ _) | (with_reducible assumption) | (with_reducible refine below_drewN' ?_ _) | (with_reducible refine Below.drew ?_) | (with_reducible refine Below.alloc ?_ ?_ _) | (with_reducible refine Below.setCell ?_ ?_ _) | (with_reducible refine Below.then_ ?_ (by assumption) ?_) | go_size))⟩
  have q_d' : decide ((1048576 : Int) < (d).length) = false := by simpa using q_d
  go_wp2_with fail
  refine (szSTG s A_s_net_trans c_s_net_trans A_s_signals c_s_signals A_s_labels c_s_labels (1048576) _ g1 g2 (RA.to g3 (by (repeat' (first | (with_reducible exact Below.refl _ _) | (with_reducible assumption) | (with_reducible refine below_drewN' ?_ _) | (with_reducible refine Below.drew ?_) | (with_reducible refine Below.alloc ?_ ?_ _) | (with_reducible refine Below.setCell ?_ ?_ _) | (with_reducible refine Below.then_ ?_ (by assumption) ?_) | go_size)))) g4 g5 (RA.to g6 (by (repeat' (first | (with_reducible exact Below.refl _ _) | (with_reducible assumption) | (with_reducible refine below_drewN' ?_ _) | (with_reducible refine Below.drew ?_) | (with_reducible refine Below.alloc ?_ ?_ _) | (with_reducible refine Below.setCell ?_ ?_ _) | (with_reducible refine Below.then_ ?_ (by assumption) ?_) | go_size)))) g7 g8 (RA.to g9 (by (repeat' (first | (with_reducible exact Below.refl _ _) | (with_reducible assumption) | (with_reducible refine below_drewN' ?_ _) | (with_reducible refine Below.drew ?_) | (with_reducible refine Below.alloc ?_ ?_ _) | (with_reducible refine Below.setCell ?_ ?_ _) | (with_reducible refine Below.then_ ?_ (by assumption) ?_) | go_size)))) g10 (by omega) (by omega)).mono ?_
  rintro e w1 ⟨rfl, hb1⟩
  have HW1 : Hid (Below w.heap.size w w1) := hide (by (repeat' (first | (with_reducible exact Below.refl _ _) | (with_reducible assumption) | (with_reducible refine below_drewN' ?_ _) | (with_reducible refine Below.drew ?_) | (with_reducible refine Below.alloc ?_ ?_ _) | (with_reducible refine Below.setCell ?_ ?_ _) | (with_reducible refine Below.then_ ?_ (by assumption) ?_) | go_size)))
  obtain ⟨hc1, _⟩ := bcell hb1
  have hz1 := hb1.size
  repeat rw [World.size_alloc] at hz1
  have l1_0 : w.heap.size < w1.heap.size := by omega
  have t1_0_0 : w1.cell? ⟨w.heap.size, 0, none⟩ = some (.int .i64 s.net.places) := by rw [hc1 _ _ (by first | omega | (repeat rw [World.size_alloc]); omega)]; simp [go_sem]
  have t1_0_1 : w1.cell? ⟨w.heap.size, 1, none⟩ = some (.slice A_s_net_trans (s.net.trans).length c_s_net_trans) := by rw [hc1 _ _ (by first | omega | (repeat rw [World.size_alloc]); omega)]; simp [go_sem]
  have t1_0_2 : w1.cell? ⟨w.heap.size, 2, none⟩ = some (.slice A_s_signals (s.signals).length c_s_signals) := by rw [hc1 _ _ (by first | omega | (repeat rw [World.size_alloc]); omega)]; simp [go_sem]
  have t1_0_3 : w1.cell? ⟨w.heap.size, 3, none⟩ = some (.slice A_s_labels (s.labels).length c_s_labels) := by rw [hc1 _ _ (by first | omega | (repeat rw [World.size_alloc]); omega)]; simp [go_sem]
  have t1_0_4 : w1.cell? ⟨w.heap.size, 4, none⟩ = some (.string ⟨(s.start).toArray⟩) := by rw [hc1 _ _ (by first | omega | (repeat rw [World.size_alloc]); omega)]; simp [go_sem]
  clear hc1
  by_cases q_s : (1048576 : Int) < ((wtSTG s) : Nat)
  · rw [szRes_neg q_s]
    go_wp2_with fail
    go_ret
    exact ⟨rfl, HW1.out⟩
  rw [szRes_pos q_s]
  have qq_s : ((wtSTG s) : Nat) ≤ 1048576 := by omega
  go_wp2_with fail
  refine (szDelayBoundsS A_l (l).length c_l (1048576 - ((wtSTG s) : Nat)) _ (by omega) (by omega) (by omega)).mono ?_
  rintro e wS ⟨rfl, hwS⟩
  rw [hwS]
  clear hwS
  by_cases q_l : (1048576 - ((wtSTG s) : Nat) : Int) < ((l).length : Nat)
  · rw [szRes_neg q_l]
    go_wp2_with fail
    go_ret
    exact ⟨rfl, HW1.out⟩
  rw [szRes_pos q_l]
  have qq_l : ((l).length : Nat) ≤ 1048576 := by omega
  have qs_s := qq_s
  unfold wtSTG at qs_s
  go_wp2_with fail
  refine (toSTG s A_s_net_trans c_s_net_trans A_s_signals c_s_signals A_s_labels c_s_labels _ g1 g2 (RA.to g3 HW1.out) g4 g5 (RA.to g6 HW1.out) g7 g8 (RA.to g9 HW1.out) g10 qq_s).mono ?_
  rintro e w2 ⟨A_s_net_trans2, A_s_signals2, A_s_labels2, rfl, rA_s_net_trans2, rA_s_signals2, rA_s_labels2, hb2, fz2⟩
  have hs2 : Below w1.heap.size w1 w2 := hb2
  have HW2 : Hid (Below w.heap.size w w2) := hide (HW1.out.trans (hs2.mono HW1.out.size))
  obtain ⟨hc2, _⟩ := bcell hb2
  have hz2 := hb2.size
  repeat rw [World.size_alloc] at hz2
  have l2_0 : w.heap.size < w2.heap.size := by omega
  have t2_0_0 : w2.cell? ⟨w.heap.size, 0, none⟩ = some (.int .i64 s.net.places) := (hc2 _ _ (by omega)).trans t1_0_0
  have t2_0_1 : w2.cell? ⟨w.heap.size, 1, none⟩ = some (.slice A_s_net_trans (s.net.trans).length c_s_net_trans) := (hc2 _ _ (by omega)).trans t1_0_1
  have t2_0_2 : w2.cell? ⟨w.heap.size, 2, none⟩ = some (.slice A_s_signals (s.signals).length c_s_signals) := (hc2 _ _ (by omega)).trans t1_0_2
  have t2_0_3 : w2.cell? ⟨w.heap.size, 3, none⟩ = some (.slice A_s_labels (s.labels).length c_s_labels) := (hc2 _ _ (by omega)).trans t1_0_3
  have t2_0_4 : w2.cell? ⟨w.heap.size, 4, none⟩ = some (.string ⟨(s.start).toArray⟩) := (hc2 _ _ (by omega)).trans t1_0_4
  clear t1_0_0
  clear t1_0_1
  clear t1_0_2
  clear t1_0_3
  clear t1_0_4
  clear hc2
  have aA_s_net_trans2 : RA shTr w2 A_s_net_trans2 s.net.trans := (rA_s_net_trans2).mono fun b hb => hb.2
  have aA_s_signals2 : RA shSig w2 A_s_signals2 s.signals := (rA_s_signals2).mono fun b hb => hb.2
  have aA_s_labels2 : RA shLab w2 A_s_labels2 s.labels := (rA_s_labels2).mono fun b hb => hb.2
  go_wp2_with fail
  refine (toDelayBoundsS A_l c_l l _ qq_l (RA.to g13 HW2.out)).mono ?_
  rintro e w3 ⟨A_l3, rfl, rA_l3, hb3, fz3⟩
  have hs3 : Below w2.heap.size w2 w3 := hb3
  have HW3 : Hid (Below w.heap.size w w3) := hide (HW2.out.trans (hs3.mono HW2.out.size))
  obtain ⟨hc3, _⟩ := bcell hb3
  have hz3 := hb3.size
  repeat rw [World.size_alloc] at hz3
  have l3_0 : w.heap.size < w3.heap.size := by omega
  have t3_0_0 : w3.cell? ⟨w.heap.size, 0, none⟩ = some (.int .i64 s.net.places) := (hc3 _ _ (by omega)).trans t2_0_0
  have t3_0_1 : w3.cell? ⟨w.heap.size, 1, none⟩ = some (.slice A_s_net_trans (s.net.trans).length c_s_net_trans) := (hc3 _ _ (by omega)).trans t2_0_1
  have t3_0_2 : w3.cell? ⟨w.heap.size, 2, none⟩ = some (.slice A_s_signals (s.signals).length c_s_signals) := (hc3 _ _ (by omega)).trans t2_0_2
  have t3_0_3 : w3.cell? ⟨w.heap.size, 3, none⟩ = some (.slice A_s_labels (s.labels).length c_s_labels) := (hc3 _ _ (by omega)).trans t2_0_3
  have t3_0_4 : w3.cell? ⟨w.heap.size, 4, none⟩ = some (.string ⟨(s.start).toArray⟩) := (hc3 _ _ (by omega)).trans t2_0_4
  clear t2_0_0
  clear t2_0_1
  clear t2_0_2
  clear t2_0_3
  clear t2_0_4
  have aA_s_net_trans2_3 := RA.to aA_s_net_trans2 hs3
  clear aA_s_net_trans2
  have aA_s_signals2_3 := RA.to aA_s_signals2 hs3
  clear aA_s_signals2
  have aA_s_labels2_3 := RA.to aA_s_labels2 hs3
  clear aA_s_labels2
  clear hc3
  have aA_l3 : RA shDl w3 A_l3 l := (rA_l3).mono fun b hb => hb.2
  go_wp2_with fail
  refine (toIntS A_d c_d d _ (by omega) (RA.to g16 HW3.out)).mono ?_
  rintro e w4 ⟨A_d4, rfl, rA_d4, hb4, fz4⟩
  have hs4 : Below w3.heap.size w3 w4 := hb4
  have HW4 : Hid (Below w.heap.size w w4) := hide (HW3.out.trans (hs4.mono HW3.out.size))
  obtain ⟨hc4, _⟩ := bcell hb4
  have hz4 := hb4.size
  repeat rw [World.size_alloc] at hz4
  have l4_0 : w.heap.size < w4.heap.size := by omega
  have t4_0_0 : w4.cell? ⟨w.heap.size, 0, none⟩ = some (.int .i64 s.net.places) := (hc4 _ _ (by omega)).trans t3_0_0
  have t4_0_1 : w4.cell? ⟨w.heap.size, 1, none⟩ = some (.slice A_s_net_trans (s.net.trans).length c_s_net_trans) := (hc4 _ _ (by omega)).trans t3_0_1
  have t4_0_2 : w4.cell? ⟨w.heap.size, 2, none⟩ = some (.slice A_s_signals (s.signals).length c_s_signals) := (hc4 _ _ (by omega)).trans t3_0_2
  have t4_0_3 : w4.cell? ⟨w.heap.size, 3, none⟩ = some (.slice A_s_labels (s.labels).length c_s_labels) := (hc4 _ _ (by omega)).trans t3_0_3
  have t4_0_4 : w4.cell? ⟨w.heap.size, 4, none⟩ = some (.string ⟨(s.start).toArray⟩) := (hc4 _ _ (by omega)).trans t3_0_4
  clear t3_0_0
  clear t3_0_1
  clear t3_0_2
  clear t3_0_3
  clear t3_0_4
  have aA_s_net_trans2_4 := RA.to aA_s_net_trans2_3 hs4
  clear aA_s_net_trans2_3
  have aA_s_signals2_4 := RA.to aA_s_signals2_3 hs4
  clear aA_s_signals2_3
  have aA_s_labels2_4 := RA.to aA_s_labels2_3 hs4
  clear aA_s_labels2_3
  have aA_l3_4 := RA.to aA_l3 hs4
  clear aA_l3
  clear hc4
  have aA_d4 : RA shInt w4 A_d4 d := (rA_d4).mono fun b hb => hb.2
  go_wp2_with fail
  refine (spec_SimulateTimed s l d A_s_net_trans2 (s.net.trans).length A_s_signals2 (s.signals).length A_s_labels2 (s.labels).length A_l3 (l).length A_d4 (d).length _ g0 (Nat.le_refl _) (by omega) (RA.to aA_s_net_trans2_4 (Below.refl _ _)) (Nat.le_refl _) (by omega) (RA.to aA_s_signals2_4 (Below.refl _ _)) (Nat.le_refl _) (by omega) (RA.to aA_s_labels2_4 (Below.refl _ _)) g10 (Nat.le_refl _) (by omega) (RA.to aA_l3_4 (Below.refl _ _)) (Nat.le_refl _) (by omega) (RA.to aA_d4 (Below.refl _ _))).mono ?_
  rintro e w5 ⟨A5_0, c5_0, rfl, ho5_0, hb5⟩
  have hs5 : Below w4.heap.size w4 w5 := hb5
  have HW5 : Hid (Below w.heap.size w w5) := hide (HW4.out.trans (hs5.mono HW4.out.size))
  obtain ⟨hc5, _⟩ := bcell hb5
  have hz5 := hb5.size
  repeat rw [World.size_alloc] at hz5
  have l5_0 : w.heap.size < w5.heap.size := by omega
  have t5_0_0 : w5.cell? ⟨w.heap.size, 0, none⟩ = some (.int .i64 s.net.places) := (hc5 _ _ (by omega)).trans t4_0_0
  have t5_0_1 : w5.cell? ⟨w.heap.size, 1, none⟩ = some (.slice A_s_net_trans (s.net.trans).length c_s_net_trans) := (hc5 _ _ (by omega)).trans t4_0_1
  have t5_0_2 : w5.cell? ⟨w.heap.size, 2, none⟩ = some (.slice A_s_signals (s.signals).length c_s_signals) := (hc5 _ _ (by omega)).trans t4_0_2
  have t5_0_3 : w5.cell? ⟨w.heap.size, 3, none⟩ = some (.slice A_s_labels (s.labels).length c_s_labels) := (hc5 _ _ (by omega)).trans t4_0_3
  have t5_0_4 : w5.cell? ⟨w.heap.size, 4, none⟩ = some (.string ⟨(s.start).toArray⟩) := (hc5 _ _ (by omega)).trans t4_0_4
  clear t4_0_0
  clear t4_0_1
  clear t4_0_2
  clear t4_0_3
  clear t4_0_4
  have aA_s_net_trans2_5 := RA.to aA_s_net_trans2_4 hs5
  clear aA_s_net_trans2_4
  have aA_s_signals2_5 := RA.to aA_s_signals2_4 hs5
  clear aA_s_signals2_4
  have aA_s_labels2_5 := RA.to aA_s_labels2_4 hs5
  clear aA_s_labels2_4
  have aA_l3_5 := RA.to aA_l3_4 hs5
  clear aA_l3_4
  have aA_d4_5 := RA.to aA_d4 hs5
  clear aA_d4
  clear hc5
  rw [HR.out] at ho5_0
  have hlt5_0 := ho5_0.lt
  rw [HR.out]
  go_wp2_with fail
  refine (toSTG s A_s_net_trans c_s_net_trans A_s_signals c_s_signals A_s_labels c_s_labels _ g1 g2 (RA.to g3 HW5.out) g4 g5 (RA.to g6 HW5.out) g7 g8 (RA.to g9 HW5.out) g10 qq_s).mono ?_
  rintro e w6 ⟨A_s_net_trans6, A_s_signals6, A_s_labels6, rfl, rA_s_net_trans6, rA_s_signals6, rA_s_labels6, hb6, fz6⟩
  have hs6 : Below w5.heap.size w5 w6 := hb6
  have HW6 : Hid (Below w.heap.size w w6) := hide (HW5.out.trans (hs6.mono HW5.out.size))
  obtain ⟨hc6, _⟩ := bcell hb6
  have hz6 := hb6.size
  repeat rw [World.size_alloc] at hz6
  have l6_0 : w.heap.size < w6.heap.size := by omega
  have t6_0_0 : w6.cell? ⟨w.heap.size, 0, none⟩ = some (.int .i64 s.net.places) := (hc6 _ _ (by omega)).trans t5_0_0
  have t6_0_1 : w6.cell? ⟨w.heap.size, 1, none⟩ = some (.slice A_s_net_trans (s.net.trans).length c_s_net_trans) := (hc6 _ _ (by omega)).trans t5_0_1
  have t6_0_2 : w6.cell? ⟨w.heap.size, 2, none⟩ = some (.slice A_s_signals (s.signals).length c_s_signals) := (hc6 _ _ (by omega)).trans t5_0_2
  have t6_0_3 : w6.cell? ⟨w.heap.size, 3, none⟩ = some (.slice A_s_labels (s.labels).length c_s_labels) := (hc6 _ _ (by omega)).trans t5_0_3
  have t6_0_4 : w6.cell? ⟨w.heap.size, 4, none⟩ = some (.string ⟨(s.start).toArray⟩) := (hc6 _ _ (by omega)).trans t5_0_4
  clear t5_0_0
  clear t5_0_1
  clear t5_0_2
  clear t5_0_3
  clear t5_0_4
  have ho5_0_6 := Own.to ho5_0 hs6
  clear ho5_0
  clear hc6
  have aA_s_net_trans6 : RA shTr w6 A_s_net_trans6 s.net.trans := (rA_s_net_trans6).mono fun b hb => hb.2
  have aA_s_signals6 : RA shSig w6 A_s_signals6 s.signals := (rA_s_signals6).mono fun b hb => hb.2
  have aA_s_labels6 : RA shLab w6 A_s_labels6 s.labels := (rA_s_labels6).mono fun b hb => hb.2
  have hlo_s : w.heap.size ≤ w5.heap.size := HW5.out.size
  go_wp2_with fail
  refine (toDelayBoundsS A_l c_l l _ qq_l (RA.to g13 (HW6.out.alloc HW6.out.size _))).mono ?_
  rintro e w7 ⟨A_l7, rfl, rA_l7, hb7, fz7⟩
  have hs7 : Below w6.heap.size w6 w7 := ((Below.refl _ _).alloc (Nat.le_refl _) _).trans (hb7.mono (by rw [World.size_alloc]; omega))
  have HW7 : Hid (Below w.heap.size w w7) := hide (HW6.out.trans (hs7.mono HW6.out.size))
  obtain ⟨hc7, _⟩ := bcell hb7
  have hz7 := hb7.size
  repeat rw [World.size_alloc] at hz7
  have l7_0 : w.heap.size < w7.heap.size := by omega
  have t7_0_0 : w7.cell? ⟨w.heap.size, 0, none⟩ = some (.int .i64 s.net.places) := (hc7 _ _ (by rw [World.size_alloc]; omega)).trans (by rw [World.cell?_alloc_past _ _ _ (by omega)]; exact t6_0_0)
  have t7_0_1 : w7.cell? ⟨w.heap.size, 1, none⟩ = some (.slice A_s_net_trans (s.net.trans).length c_s_net_trans) := (hc7 _ _ (by rw [World.size_alloc]; omega)).trans (by rw [World.cell?_alloc_past _ _ _ (by omega)]; exact t6_0_1)
  have t7_0_2 : w7.cell? ⟨w.heap.size, 2, none⟩ = some (.slice A_s_signals (s.signals).length c_s_signals) := (hc7 _ _ (by rw [World.size_alloc]; omega)).trans (by rw [World.cell?_alloc_past _ _ _ (by omega)]; exact t6_0_2)
  have t7_0_3 : w7.cell? ⟨w.heap.size, 3, none⟩ = some (.slice A_s_labels (s.labels).length c_s_labels) := (hc7 _ _ (by rw [World.size_alloc]; omega)).trans (by rw [World.cell?_alloc_past _ _ _ (by omega)]; exact t6_0_3)
  have t7_0_4 : w7.cell? ⟨w.heap.size, 4, none⟩ = some (.string ⟨(s.start).toArray⟩) := (hc7 _ _ (by rw [World.size_alloc]; omega)).trans (by rw [World.cell?_alloc_past _ _ _ (by omega)]; exact t6_0_4)
  have l7_1 : w6.heap.size < w7.heap.size := by omega
  have t7_1_0 : w7.cell? ⟨w6.heap.size, 0, none⟩ = some (.int .i64 s.net.places) := by rw [hc7 _ _ (by first | omega | (repeat rw [World.size_alloc]); omega)]; simp [go_sem]
  have t7_1_1 : w7.cell? ⟨w6.heap.size, 1, none⟩ = some (.slice A_s_net_trans6 (s.net.trans).length (s.net.trans).length) := by rw [hc7 _ _ (by first | omega | (repeat rw [World.size_alloc]); omega)]; simp [go_sem]
  have t7_1_2 : w7.cell? ⟨w6.heap.size, 2, none⟩ = some (.slice A_s_signals6 (s.signals).length (s.signals).length) := by rw [hc7 _ _ (by first | omega | (repeat rw [World.size_alloc]); omega)]; simp [go_sem]
  have t7_1_3 : w7.cell? ⟨w6.heap.size, 3, none⟩ = some (.slice A_s_labels6 (s.labels).length (s.labels).length) := by rw [hc7 _ _ (by first | omega | (repeat rw [World.size_alloc]); omega)]; simp [go_sem]
  have t7_1_4 : w7.cell? ⟨w6.heap.size, 4, none⟩ = some (.string ⟨(s.start).toArray⟩) := by rw [hc7 _ _ (by first | omega | (repeat rw [World.size_alloc]); omega)]; simp [go_sem]
  clear t6_0_0
  clear t6_0_1
  clear t6_0_2
  clear t6_0_3
  clear t6_0_4
  have aA_s_net_trans6_7 := RA.to aA_s_net_trans6 hs7
  clear aA_s_net_trans6
  have aA_s_signals6_7 := RA.to aA_s_signals6 hs7
  clear aA_s_signals6
  have aA_s_labels6_7 := RA.to aA_s_labels6 hs7
  clear aA_s_labels6
  have HXs_7 : Hid (Below w6.heap.size w6 w7) := hide hs7
  have ho5_0_7 := Own.to ho5_0_6 hs7
  clear ho5_0_6
  clear hc7
  have aA_l7 : RA shDl w7 A_l7 l := (rA_l7).mono fun b hb => hb.2
  have hlo_l : w.heap.size ≤ w6.heap.size := HW6.out.size
  go_wp2_with fail
  refine (toIntS A_d c_d d _ (by omega) (RA.to g16 HW7.out)).mono ?_
  rintro e w8 ⟨A_d8, rfl, rA_d8, hb8, fz8⟩
  have hs8 : Below w7.heap.size w7 w8 := hb8
  have HW8 : Hid (Below w.heap.size w w8) := hide (HW7.out.trans (hs8.mono HW7.out.size))
  obtain ⟨hc8, _⟩ := bcell hb8
  have hz8 := hb8.size
  repeat rw [World.size_alloc] at hz8
  have l8_0 : w.heap.size < w8.heap.size := by omega
  have t8_0_0 : w8.cell? ⟨w.heap.size, 0, none⟩ = some (.int .i64 s.net.places) := (hc8 _ _ (by omega)).trans t7_0_0
  have t8_0_1 : w8.cell? ⟨w.heap.size, 1, none⟩ = some (.slice A_s_net_trans (s.net.trans).length c_s_net_trans) := (hc8 _ _ (by omega)).trans t7_0_1
  have t8_0_2 : w8.cell? ⟨w.heap.size, 2, none⟩ = some (.slice A_s_signals (s.signals).length c_s_signals) := (hc8 _ _ (by omega)).trans t7_0_2
  have t8_0_3 : w8.cell? ⟨w.heap.size, 3, none⟩ = some (.slice A_s_labels (s.labels).length c_s_labels) := (hc8 _ _ (by omega)).trans t7_0_3
  have t8_0_4 : w8.cell? ⟨w.heap.size, 4, none⟩ = some (.string ⟨(s.start).toArray⟩) := (hc8 _ _ (by omega)).trans t7_0_4
  have l8_1 : w6.heap.size < w8.heap.size := by omega
  have t8_1_0 : w8.cell? ⟨w6.heap.size, 0, none⟩ = some (.int .i64 s.net.places) := (hc8 _ _ (by omega)).trans t7_1_0
  have t8_1_1 : w8.cell? ⟨w6.heap.size, 1, none⟩ = some (.slice A_s_net_trans6 (s.net.trans).length (s.net.trans).length) := (hc8 _ _ (by omega)).trans t7_1_1
  have t8_1_2 : w8.cell? ⟨w6.heap.size, 2, none⟩ = some (.slice A_s_signals6 (s.signals).length (s.signals).length) := (hc8 _ _ (by omega)).trans t7_1_2
  have t8_1_3 : w8.cell? ⟨w6.heap.size, 3, none⟩ = some (.slice A_s_labels6 (s.labels).length (s.labels).length) := (hc8 _ _ (by omega)).trans t7_1_3
  have t8_1_4 : w8.cell? ⟨w6.heap.size, 4, none⟩ = some (.string ⟨(s.start).toArray⟩) := (hc8 _ _ (by omega)).trans t7_1_4
  clear t7_0_0
  clear t7_0_1
  clear t7_0_2
  clear t7_0_3
  clear t7_0_4
  clear t7_1_0
  clear t7_1_1
  clear t7_1_2
  clear t7_1_3
  clear t7_1_4
  have aA_s_net_trans6_8 := RA.to aA_s_net_trans6_7 hs8
  clear aA_s_net_trans6_7
  have aA_s_signals6_8 := RA.to aA_s_signals6_7 hs8
  clear aA_s_signals6_7
  have aA_s_labels6_8 := RA.to aA_s_labels6_7 hs8
  clear aA_s_labels6_7
  have aA_l7_8 := RA.to aA_l7 hs8
  clear aA_l7
  have HXs_8 : Hid (Below w6.heap.size w6 w8) := hide (HXs_7.out.trans (hs8.mono HXs_7.out.size))
  clear HXs_7
  have HXl_8 : Hid (Below w7.heap.size w7 w8) := hide hs8
  have ho5_0_8 := Own.to ho5_0_7 hs8
  clear ho5_0_7
  clear hc8
  have aA_d8 : RA shInt w8 A_d8 d := (rA_d8).mono fun b hb => hb.2
  have hlo_d : w.heap.size ≤ w7.heap.size := HW7.out.size
  go_wp2_with fail
  refine (impl_SimulateTimed s l d A_s_net_trans6 (s.net.trans).length A_s_signals6 (s.signals).length A_s_labels6 (s.labels).length A_l7 (l).length A_d8 (d).length _ g0 (Nat.le_refl _) (by omega) (RA.to aA_s_net_trans6_8 (Below.refl _ _)) (Nat.le_refl _) (by omega) (RA.to aA_s_signals6_8 (Below.refl _ _)) (Nat.le_refl _) (by omega) (RA.to aA_s_labels6_8 (Below.refl _ _)) g10 (Nat.le_refl _) (by omega) (RA.to aA_l7_8 (Below.refl _ _)) (Nat.le_refl _) (by omega) (RA.to aA_d8 (Below.refl _ _))).mono ?_
  rintro e w9 ⟨A9_0, c9_0, rfl, ho9_0, hb9⟩
  have hs9 : Below w8.heap.size w8 w9 := hb9
  have HW9 : Hid (Below w.heap.size w w9) := hide (HW8.out.trans (hs9.mono HW8.out.size))
  obtain ⟨hc9, _⟩ := bcell hb9
  have hz9 := hb9.size
  repeat rw [World.size_alloc] at hz9
  have l9_0 : w.heap.size < w9.heap.size := by omega
  have t9_0_0 : w9.cell? ⟨w.heap.size, 0, none⟩ = some (.int .i64 s.net.places) := (hc9 _ _ (by omega)).trans t8_0_0
  have t9_0_1 : w9.cell? ⟨w.heap.size, 1, none⟩ = some (.slice A_s_net_trans (s.net.trans).length c_s_net_trans) := (hc9 _ _ (by omega)).trans t8_0_1
  have t9_0_2 : w9.cell? ⟨w.heap.size, 2, none⟩ = some (.slice A_s_signals (s.signals).length c_s_signals) := (hc9 _ _ (by omega)).trans t8_0_2
  have t9_0_3 : w9.cell? ⟨w.heap.size, 3, none⟩ = some (.slice A_s_labels (s.labels).length c_s_labels) := (hc9 _ _ (by omega)).trans t8_0_3
  have t9_0_4 : w9.cell? ⟨w.heap.size, 4, none⟩ = some (.string ⟨(s.start).toArray⟩) := (hc9 _ _ (by omega)).trans t8_0_4
  have l9_1 : w6.heap.size < w9.heap.size := by omega
  have t9_1_0 : w9.cell? ⟨w6.heap.size, 0, none⟩ = some (.int .i64 s.net.places) := (hc9 _ _ (by omega)).trans t8_1_0
  have t9_1_1 : w9.cell? ⟨w6.heap.size, 1, none⟩ = some (.slice A_s_net_trans6 (s.net.trans).length (s.net.trans).length) := (hc9 _ _ (by omega)).trans t8_1_1
  have t9_1_2 : w9.cell? ⟨w6.heap.size, 2, none⟩ = some (.slice A_s_signals6 (s.signals).length (s.signals).length) := (hc9 _ _ (by omega)).trans t8_1_2
  have t9_1_3 : w9.cell? ⟨w6.heap.size, 3, none⟩ = some (.slice A_s_labels6 (s.labels).length (s.labels).length) := (hc9 _ _ (by omega)).trans t8_1_3
  have t9_1_4 : w9.cell? ⟨w6.heap.size, 4, none⟩ = some (.string ⟨(s.start).toArray⟩) := (hc9 _ _ (by omega)).trans t8_1_4
  clear t8_0_0
  clear t8_0_1
  clear t8_0_2
  clear t8_0_3
  clear t8_0_4
  clear t8_1_0
  clear t8_1_1
  clear t8_1_2
  clear t8_1_3
  clear t8_1_4
  have aA_s_net_trans6_9 := RA.to aA_s_net_trans6_8 hs9
  clear aA_s_net_trans6_8
  have aA_s_signals6_9 := RA.to aA_s_signals6_8 hs9
  clear aA_s_signals6_8
  have aA_s_labels6_9 := RA.to aA_s_labels6_8 hs9
  clear aA_s_labels6_8
  have aA_l7_9 := RA.to aA_l7_8 hs9
  clear aA_l7_8
  have aA_d8_9 := RA.to aA_d8 hs9
  clear aA_d8
  have HXs_9 : Hid (Below w6.heap.size w6 w9) := hide (HXs_8.out.trans (hs9.mono HXs_8.out.size))
  clear HXs_8
  have HXl_9 : Hid (Below w7.heap.size w7 w9) := hide (HXl_8.out.trans (hs9.mono HXl_8.out.size))
  clear HXl_8
  have HXd_9 : Hid (Below w8.heap.size w8 w9) := hide hs9
  have ho5_0_9 := Own.to ho5_0_8 hs9
  clear ho5_0_8
  clear hc9
  rw [HR.out] at ho9_0
  have hlt9_0 := ho9_0.lt
  rw [HR.out]
  go_wp2_with fail
  refine (eqTimedFiringS A9_0 A5_0 c9_0 c5_0 R.1.1 _ (by omega) (RA.to ho9_0.ra (Below.refl _ _)) (RA.to ho5_0_9.ra (Below.refl _ _))).mono ?_
  rintro e w10 ⟨rfl, hb10⟩
  have hs10 : Below w9.heap.size w9 w10 := hb10
  have HW10 : Hid (Below w.heap.size w w10) := hide (HW9.out.trans (hs10.mono HW9.out.size))
  obtain ⟨hc10, _⟩ := bcell hb10
  have hz10 := hb10.size
  repeat rw [World.size_alloc] at hz10
  have l10_0 : w.heap.size < w10.heap.size := by omega
  have t10_0_0 : w10.cell? ⟨w.heap.size, 0, none⟩ = some (.int .i64 s.net.places) := (hc10 _ _ (by omega)).trans t9_0_0
  have t10_0_1 : w10.cell? ⟨w.heap.size, 1, none⟩ = some (.slice A_s_net_trans (s.net.trans).length c_s_net_trans) := (hc10 _ _ (by omega)).trans t9_0_1
  have t10_0_2 : w10.cell? ⟨w.heap.size, 2, none⟩ = some (.slice A_s_signals (s.signals).length c_s_signals) := (hc10 _ _ (by omega)).trans t9_0_2
  have t10_0_3 : w10.cell? ⟨w.heap.size, 3, none⟩ = some (.slice A_s_labels (s.labels).length c_s_labels) := (hc10 _ _ (by omega)).trans t9_0_3
  have t10_0_4 : w10.cell? ⟨w.heap.size, 4, none⟩ = some (.string ⟨(s.start).toArray⟩) := (hc10 _ _ (by omega)).trans t9_0_4
  have l10_1 : w6.heap.size < w10.heap.size := by omega
  have t10_1_0 : w10.cell? ⟨w6.heap.size, 0, none⟩ = some (.int .i64 s.net.places) := (hc10 _ _ (by omega)).trans t9_1_0
  have t10_1_1 : w10.cell? ⟨w6.heap.size, 1, none⟩ = some (.slice A_s_net_trans6 (s.net.trans).length (s.net.trans).length) := (hc10 _ _ (by omega)).trans t9_1_1
  have t10_1_2 : w10.cell? ⟨w6.heap.size, 2, none⟩ = some (.slice A_s_signals6 (s.signals).length (s.signals).length) := (hc10 _ _ (by omega)).trans t9_1_2
  have t10_1_3 : w10.cell? ⟨w6.heap.size, 3, none⟩ = some (.slice A_s_labels6 (s.labels).length (s.labels).length) := (hc10 _ _ (by omega)).trans t9_1_3
  have t10_1_4 : w10.cell? ⟨w6.heap.size, 4, none⟩ = some (.string ⟨(s.start).toArray⟩) := (hc10 _ _ (by omega)).trans t9_1_4
  clear t9_0_0
  clear t9_0_1
  clear t9_0_2
  clear t9_0_3
  clear t9_0_4
  clear t9_1_0
  clear t9_1_1
  clear t9_1_2
  clear t9_1_3
  clear t9_1_4
  have aA_s_net_trans6_10 := RA.to aA_s_net_trans6_9 hs10
  clear aA_s_net_trans6_9
  have aA_s_signals6_10 := RA.to aA_s_signals6_9 hs10
  clear aA_s_signals6_9
  have aA_s_labels6_10 := RA.to aA_s_labels6_9 hs10
  clear aA_s_labels6_9
  have aA_l7_10 := RA.to aA_l7_9 hs10
  clear aA_l7_9
  have aA_d8_10 := RA.to aA_d8_9 hs10
  clear aA_d8_9
  have HXs_10 : Hid (Below w6.heap.size w6 w10) := hide (HXs_9.out.trans (hs10.mono HXs_9.out.size))
  clear HXs_9
  have HXl_10 : Hid (Below w7.heap.size w7 w10) := hide (HXl_9.out.trans (hs10.mono HXl_9.out.size))
  clear HXl_9
  have HXd_10 : Hid (Below w8.heap.size w8 w10) := hide (HXd_9.out.trans (hs10.mono HXd_9.out.size))
  clear HXd_9
  have ho5_0_10 := Own.to ho5_0_9 hs10
  clear ho5_0_9
  have ho9_0_10 := Own.to ho9_0 hs10
  clear ho9_0
  clear hc10
  go_wp2_with fail
  go_region_held3 (fun W => W.cell? ⟨w6.heap.size, 0, none⟩ = some (.int .i64 s.net.places) ∧ W.cell? ⟨w6.heap.size, 1, none⟩ = some (.slice A_s_net_trans6 (s.net.trans).length (s.net.trans).length) ∧ W.cell? ⟨w6.heap.size, 2, none⟩ = some (.slice A_s_signals6 (s.signals).length (s.signals).length) ∧ W.cell? ⟨w6.heap.size, 3, none⟩ = some (.slice A_s_labels6 (s.labels).length (s.labels).length) ∧ W.cell? ⟨w6.heap.size, 4, none⟩ = some (.string ⟨(s.start).toArray⟩) ∧ W.cell? ⟨w.heap.size, 0, none⟩ = some (.int .i64 s.net.places) ∧ W.cell? ⟨w.heap.size, 1, none⟩ = some (.slice A_s_net_trans (s.net.trans).length c_s_net_trans) ∧ W.cell? ⟨w.heap.size, 2, none⟩ = some (.slice A_s_signals (s.signals).length c_s_signals) ∧ W.cell? ⟨w.heap.size, 3, none⟩ = some (.slice A_s_labels (s.labels).length c_s_labels) ∧ W.cell? ⟨w.heap.size, 4, none⟩ = some (.string ⟨(s.start).toArray⟩)) (first | exact ⟨t10_1_0, t10_1_1, t10_1_2, t10_1_3, t10_1_4, t10_0_0, t10_0_1, t10_0_2, t10_0_3, t10_0_4⟩ | exact ⟨(cell_later hb11 t10_1_0), (cell_later hb11 t10_1_1), (cell_later hb11 t10_1_2), (cell_later hb11 t10_1_3), (cell_later hb11 t10_1_4), (cell_later hb11 t10_0_0), (cell_later hb11 t10_0_1), (cell_later hb11 t10_0_2), (cell_later hb11 t10_0_3), (cell_later hb11 t10_0_4)⟩ | exact ⟨(cell_later hb12 (cell_later hb11 t10_1_0)), (cell_later hb12 (cell_later hb11 t10_1_1)), (cell_later hb12 (cell_later hb11 t10_1_2)), (cell_later hb12 (cell_later hb11 t10_1_3)), (cell_later hb12 (cell_later hb11 t10_1_4)), (cell_later hb12 (cell_later hb11 t10_0_0)), (cell_later hb12 (cell_later hb11 t10_0_1)), (cell_later hb12 (cell_later hb11 t10_0_2)), (cell_later hb12 (cell_later hb11 t10_0_3)), (cell_later hb12 (cell_later hb11 t10_0_4))⟩) (first | (go_at_call 8; refine (toSTG s A_s_net_trans c_s_net_trans A_s_signals c_s_signals A_s_labels c_s_labels _ g1 g2 (RA.to g3 HW10.out.drew) g4 g5 (RA.to g6 HW10.out.drew) g7 g8 (RA.to g9 HW10.out.drew) g10 qq_s).mono ?_; rintro e w11 ⟨A_s_net_trans11, A_s_signals11, A_s_labels11, rfl, rA_s_net_trans11, rA_s_signals11, rA_s_labels11, hb11, fz11⟩) | (go_at_call 12; refine (eqSTG s A_s_net_trans6 (s.net.trans).length A_s_signals6 (s.signals).length A_s_labels6 (s.labels).length A_s_net_trans11 (s.net.trans).length A_s_signals11 (s.signals).length A_s_labels11 (s.labels).length _  (Nat.le_refl _) (by omega) (RA.to aA_s_net_trans6_10 (Below.trans (Below.drew (Below.refl _ _)) hb11)) (Nat.le_refl _) (by omega) (RA.to aA_s_signals6_10 (Below.trans (Below.drew (Below.refl _ _)) hb11)) (Nat.le_refl _) (by omega) (RA.to aA_s_labels6_10 (Below.trans (Below.drew (Below.refl _ _)) hb11)) g10 (Nat.le_refl _) (by omega) ((rA_s_net_trans11).mono fun b hb => hb.2) (Nat.le_refl _) (by omega) ((rA_s_signals11).mono fun b hb => hb.2) (Nat.le_refl _) (by omega) ((rA_s_labels11).mono fun b hb => hb.2)).mono ?_; rintro e w12 ⟨rfl, hb12⟩))
  have hs12 : Below w10.heap.size w10 w12 := (Below.drew (Below.refl _ _)).trans (hb11.trans (hb12.mono hb11.size))
  have HW12 : Hid (Below w.heap.size w w12) := hide (HW10.out.trans (hs12.mono HW10.out.size))
  have hz12 : w10.heap.size ≤ w12.heap.size := Nat.le_trans hb11.size hb12.size
  have l12_0 : w.heap.size < w12.heap.size := by omega
  have t12_0_0 : w12.cell? ⟨w.heap.size, 0, none⟩ = some (.int .i64 s.net.places) := cell_later hb12 (cell_later hb11 t10_0_0)
  clear t10_0_0
  have t12_0_1 : w12.cell? ⟨w.heap.size, 1, none⟩ = some (.slice A_s_net_trans (s.net.trans).length c_s_net_trans) := cell_later hb12 (cell_later hb11 t10_0_1)
  clear t10_0_1
  have t12_0_2 : w12.cell? ⟨w.heap.size, 2, none⟩ = some (.slice A_s_signals (s.signals).length c_s_signals) := cell_later hb12 (cell_later hb11 t10_0_2)
  clear t10_0_2
  have t12_0_3 : w12.cell? ⟨w.heap.size, 3, none⟩ = some (.slice A_s_labels (s.labels).length c_s_labels) := cell_later hb12 (cell_later hb11 t10_0_3)
  clear t10_0_3
  have t12_0_4 : w12.cell? ⟨w.heap.size, 4, none⟩ = some (.string ⟨(s.start).toArray⟩) := cell_later hb12 (cell_later hb11 t10_0_4)
  clear t10_0_4
  have l12_1 : w6.heap.size < w12.heap.size := by omega
  have t12_1_0 : w12.cell? ⟨w6.heap.size, 0, none⟩ = some (.int .i64 s.net.places) := cell_later hb12 (cell_later hb11 t10_1_0)
  clear t10_1_0
  have t12_1_1 : w12.cell? ⟨w6.heap.size, 1, none⟩ = some (.slice A_s_net_trans6 (s.net.trans).length (s.net.trans).length) := cell_later hb12 (cell_later hb11 t10_1_1)
  clear t10_1_1
  have t12_1_2 : w12.cell? ⟨w6.heap.size, 2, none⟩ = some (.slice A_s_signals6 (s.signals).length (s.signals).length) := cell_later hb12 (cell_later hb11 t10_1_2)
  clear t10_1_2
  have t12_1_3 : w12.cell? ⟨w6.heap.size, 3, none⟩ = some (.slice A_s_labels6 (s.labels).length (s.labels).length) := cell_later hb12 (cell_later hb11 t10_1_3)
  clear t10_1_3
  have t12_1_4 : w12.cell? ⟨w6.heap.size, 4, none⟩ = some (.string ⟨(s.start).toArray⟩) := cell_later hb12 (cell_later hb11 t10_1_4)
  clear t10_1_4
  have aA_s_net_trans6_12 := RA.to aA_s_net_trans6_10 hs12
  clear aA_s_net_trans6_10
  have aA_s_signals6_12 := RA.to aA_s_signals6_10 hs12
  clear aA_s_signals6_10
  have aA_s_labels6_12 := RA.to aA_s_labels6_10 hs12
  clear aA_s_labels6_10
  have aA_l7_12 := RA.to aA_l7_10 hs12
  clear aA_l7_10
  have aA_d8_12 := RA.to aA_d8_10 hs12
  clear aA_d8_10
  have HXs_12 : Hid (Below w6.heap.size w6 w12) := hide (HXs_10.out.trans (hs12.mono HXs_10.out.size))
  clear HXs_10
  have HXl_12 : Hid (Below w7.heap.size w7 w12) := hide (HXl_10.out.trans (hs12.mono HXl_10.out.size))
  clear HXl_10
  have HXd_12 : Hid (Below w8.heap.size w8 w12) := hide (HXd_10.out.trans (hs12.mono HXd_10.out.size))
  clear HXd_10
  have ho5_0_12 := Own.to ho5_0_10 hs12
  clear ho5_0_10
  have ho9_0_12 := Own.to ho9_0_10 hs12
  clear ho9_0_10
  go_wp2_with fail
  refine (toDelayBoundsS A_l c_l l _ qq_l (RA.to g13 HW12.out)).mono ?_
  rintro e w13 ⟨A_l13, rfl, rA_l13, hb13, fz13⟩
  have hs13 : Below w12.heap.size w12 w13 := hb13
  have HW13 : Hid (Below w.heap.size w w13) := hide (HW12.out.trans (hs13.mono HW12.out.size))
  obtain ⟨hc13, _⟩ := bcell hb13
  have hz13 := hb13.size
  repeat rw [World.size_alloc] at hz13
  have l13_0 : w.heap.size < w13.heap.size := by omega
  have t13_0_0 : w13.cell? ⟨w.heap.size, 0, none⟩ = some (.int .i64 s.net.places) := (hc13 _ _ (by omega)).trans t12_0_0
  have t13_0_1 : w13.cell? ⟨w.heap.size, 1, none⟩ = some (.slice A_s_net_trans (s.net.trans).length c_s_net_trans) := (hc13 _ _ (by omega)).trans t12_0_1
  have t13_0_2 : w13.cell? ⟨w.heap.size, 2, none⟩ = some (.slice A_s_signals (s.signals).length c_s_signals) := (hc13 _ _ (by omega)).trans t12_0_2
  have t13_0_3 : w13.cell? ⟨w.heap.size, 3, none⟩ = some (.slice A_s_labels (s.labels).length c_s_labels) := (hc13 _ _ (by omega)).trans t12_0_3
  have t13_0_4 : w13.cell? ⟨w.heap.size, 4, none⟩ = some (.string ⟨(s.start).toArray⟩) := (hc13 _ _ (by omega)).trans t12_0_4
  have l13_1 : w6.heap.size < w13.heap.size := by omega
  have t13_1_0 : w13.cell? ⟨w6.heap.size, 0, none⟩ = some (.int .i64 s.net.places) := (hc13 _ _ (by omega)).trans t12_1_0
  have t13_1_1 : w13.cell? ⟨w6.heap.size, 1, none⟩ = some (.slice A_s_net_trans6 (s.net.trans).length (s.net.trans).length) := (hc13 _ _ (by omega)).trans t12_1_1
  have t13_1_2 : w13.cell? ⟨w6.heap.size, 2, none⟩ = some (.slice A_s_signals6 (s.signals).length (s.signals).length) := (hc13 _ _ (by omega)).trans t12_1_2
  have t13_1_3 : w13.cell? ⟨w6.heap.size, 3, none⟩ = some (.slice A_s_labels6 (s.labels).length (s.labels).length) := (hc13 _ _ (by omega)).trans t12_1_3
  have t13_1_4 : w13.cell? ⟨w6.heap.size, 4, none⟩ = some (.string ⟨(s.start).toArray⟩) := (hc13 _ _ (by omega)).trans t12_1_4
  clear t12_0_0
  clear t12_0_1
  clear t12_0_2
  clear t12_0_3
  clear t12_0_4
  clear t12_1_0
  clear t12_1_1
  clear t12_1_2
  clear t12_1_3
  clear t12_1_4
  have aA_s_net_trans6_13 := RA.to aA_s_net_trans6_12 hs13
  clear aA_s_net_trans6_12
  have aA_s_signals6_13 := RA.to aA_s_signals6_12 hs13
  clear aA_s_signals6_12
  have aA_s_labels6_13 := RA.to aA_s_labels6_12 hs13
  clear aA_s_labels6_12
  have aA_l7_13 := RA.to aA_l7_12 hs13
  clear aA_l7_12
  have aA_d8_13 := RA.to aA_d8_12 hs13
  clear aA_d8_12
  have HXs_13 : Hid (Below w6.heap.size w6 w13) := hide (HXs_12.out.trans (hs13.mono HXs_12.out.size))
  clear HXs_12
  have HXl_13 : Hid (Below w7.heap.size w7 w13) := hide (HXl_12.out.trans (hs13.mono HXl_12.out.size))
  clear HXl_12
  have HXd_13 : Hid (Below w8.heap.size w8 w13) := hide (HXd_12.out.trans (hs13.mono HXd_12.out.size))
  clear HXd_12
  have ho5_0_13 := Own.to ho5_0_12 hs13
  clear ho5_0_12
  have ho9_0_13 := Own.to ho9_0_12 hs13
  clear ho9_0_12
  clear hc13
  have aA_l13 : RA shDl w13 A_l13 l := (rA_l13).mono fun b hb => hb.2
  go_wp2_with fail
  refine (eqDelayBoundsS A_l7 A_l13 (l).length (l).length l _ (by omega) (RA.to aA_l7_13 (Below.refl _ _)) (RA.to aA_l13 (Below.refl _ _))).mono ?_
  rintro e w14 ⟨rfl, hb14⟩
  have hs14 : Below w13.heap.size w13 w14 := hb14
  have HW14 : Hid (Below w.heap.size w w14) := hide (HW13.out.trans (hs14.mono HW13.out.size))
  obtain ⟨hc14, _⟩ := bcell hb14
  have hz14 := hb14.size
  repeat rw [World.size_alloc] at hz14
  have l14_0 : w.heap.size < w14.heap.size := by omega
  have t14_0_0 : w14.cell? ⟨w.heap.size, 0, none⟩ = some (.int .i64 s.net.places) := (hc14 _ _ (by omega)).trans t13_0_0
  have t14_0_1 : w14.cell? ⟨w.heap.size, 1, none⟩ = some (.slice A_s_net_trans (s.net.trans).length c_s_net_trans) := (hc14 _ _ (by omega)).trans t13_0_1
  have t14_0_2 : w14.cell? ⟨w.heap.size, 2, none⟩ = some (.slice A_s_signals (s.signals).length c_s_signals) := (hc14 _ _ (by omega)).trans t13_0_2
  have t14_0_3 : w14.cell? ⟨w.heap.size, 3, none⟩ = some (.slice A_s_labels (s.labels).length c_s_labels) := (hc14 _ _ (by omega)).trans t13_0_3
  have t14_0_4 : w14.cell? ⟨w.heap.size, 4, none⟩ = some (.string ⟨(s.start).toArray⟩) := (hc14 _ _ (by omega)).trans t13_0_4
  have l14_1 : w6.heap.size < w14.heap.size := by omega
  have t14_1_0 : w14.cell? ⟨w6.heap.size, 0, none⟩ = some (.int .i64 s.net.places) := (hc14 _ _ (by omega)).trans t13_1_0
  have t14_1_1 : w14.cell? ⟨w6.heap.size, 1, none⟩ = some (.slice A_s_net_trans6 (s.net.trans).length (s.net.trans).length) := (hc14 _ _ (by omega)).trans t13_1_1
  have t14_1_2 : w14.cell? ⟨w6.heap.size, 2, none⟩ = some (.slice A_s_signals6 (s.signals).length (s.signals).length) := (hc14 _ _ (by omega)).trans t13_1_2
  have t14_1_3 : w14.cell? ⟨w6.heap.size, 3, none⟩ = some (.slice A_s_labels6 (s.labels).length (s.labels).length) := (hc14 _ _ (by omega)).trans t13_1_3
  have t14_1_4 : w14.cell? ⟨w6.heap.size, 4, none⟩ = some (.string ⟨(s.start).toArray⟩) := (hc14 _ _ (by omega)).trans t13_1_4
  clear t13_0_0
  clear t13_0_1
  clear t13_0_2
  clear t13_0_3
  clear t13_0_4
  clear t13_1_0
  clear t13_1_1
  clear t13_1_2
  clear t13_1_3
  clear t13_1_4
  have aA_s_net_trans6_14 := RA.to aA_s_net_trans6_13 hs14
  clear aA_s_net_trans6_13
  have aA_s_signals6_14 := RA.to aA_s_signals6_13 hs14
  clear aA_s_signals6_13
  have aA_s_labels6_14 := RA.to aA_s_labels6_13 hs14
  clear aA_s_labels6_13
  have aA_l7_14 := RA.to aA_l7_13 hs14
  clear aA_l7_13
  have aA_d8_14 := RA.to aA_d8_13 hs14
  clear aA_d8_13
  have aA_l13_14 := RA.to aA_l13 hs14
  clear aA_l13
  have HXs_14 : Hid (Below w6.heap.size w6 w14) := hide (HXs_13.out.trans (hs14.mono HXs_13.out.size))
  clear HXs_13
  have HXl_14 : Hid (Below w7.heap.size w7 w14) := hide (HXl_13.out.trans (hs14.mono HXl_13.out.size))
  clear HXl_13
  have HXd_14 : Hid (Below w8.heap.size w8 w14) := hide (HXd_13.out.trans (hs14.mono HXd_13.out.size))
  clear HXd_13
  have ho5_0_14 := Own.to ho5_0_13 hs14
  clear ho5_0_13
  have ho9_0_14 := Own.to ho9_0_13 hs14
  clear ho9_0_13
  clear hc14
  go_wp2_with fail
  refine (toIntS A_d c_d d _ (by omega) (RA.to g16 HW14.out)).mono ?_
  rintro e w15 ⟨A_d15, rfl, rA_d15, hb15, fz15⟩
  have hs15 : Below w14.heap.size w14 w15 := hb15
  have HW15 : Hid (Below w.heap.size w w15) := hide (HW14.out.trans (hs15.mono HW14.out.size))
  obtain ⟨hc15, _⟩ := bcell hb15
  have hz15 := hb15.size
  repeat rw [World.size_alloc] at hz15
  have l15_0 : w.heap.size < w15.heap.size := by omega
  have t15_0_0 : w15.cell? ⟨w.heap.size, 0, none⟩ = some (.int .i64 s.net.places) := (hc15 _ _ (by omega)).trans t14_0_0
  have t15_0_1 : w15.cell? ⟨w.heap.size, 1, none⟩ = some (.slice A_s_net_trans (s.net.trans).length c_s_net_trans) := (hc15 _ _ (by omega)).trans t14_0_1
  have t15_0_2 : w15.cell? ⟨w.heap.size, 2, none⟩ = some (.slice A_s_signals (s.signals).length c_s_signals) := (hc15 _ _ (by omega)).trans t14_0_2
  have t15_0_3 : w15.cell? ⟨w.heap.size, 3, none⟩ = some (.slice A_s_labels (s.labels).length c_s_labels) := (hc15 _ _ (by omega)).trans t14_0_3
  have t15_0_4 : w15.cell? ⟨w.heap.size, 4, none⟩ = some (.string ⟨(s.start).toArray⟩) := (hc15 _ _ (by omega)).trans t14_0_4
  have l15_1 : w6.heap.size < w15.heap.size := by omega
  have t15_1_0 : w15.cell? ⟨w6.heap.size, 0, none⟩ = some (.int .i64 s.net.places) := (hc15 _ _ (by omega)).trans t14_1_0
  have t15_1_1 : w15.cell? ⟨w6.heap.size, 1, none⟩ = some (.slice A_s_net_trans6 (s.net.trans).length (s.net.trans).length) := (hc15 _ _ (by omega)).trans t14_1_1
  have t15_1_2 : w15.cell? ⟨w6.heap.size, 2, none⟩ = some (.slice A_s_signals6 (s.signals).length (s.signals).length) := (hc15 _ _ (by omega)).trans t14_1_2
  have t15_1_3 : w15.cell? ⟨w6.heap.size, 3, none⟩ = some (.slice A_s_labels6 (s.labels).length (s.labels).length) := (hc15 _ _ (by omega)).trans t14_1_3
  have t15_1_4 : w15.cell? ⟨w6.heap.size, 4, none⟩ = some (.string ⟨(s.start).toArray⟩) := (hc15 _ _ (by omega)).trans t14_1_4
  clear t14_0_0
  clear t14_0_1
  clear t14_0_2
  clear t14_0_3
  clear t14_0_4
  clear t14_1_0
  clear t14_1_1
  clear t14_1_2
  clear t14_1_3
  clear t14_1_4
  have aA_s_net_trans6_15 := RA.to aA_s_net_trans6_14 hs15
  clear aA_s_net_trans6_14
  have aA_s_signals6_15 := RA.to aA_s_signals6_14 hs15
  clear aA_s_signals6_14
  have aA_s_labels6_15 := RA.to aA_s_labels6_14 hs15
  clear aA_s_labels6_14
  have aA_l7_15 := RA.to aA_l7_14 hs15
  clear aA_l7_14
  have aA_d8_15 := RA.to aA_d8_14 hs15
  clear aA_d8_14
  have aA_l13_15 := RA.to aA_l13_14 hs15
  clear aA_l13_14
  have HXs_15 : Hid (Below w6.heap.size w6 w15) := hide (HXs_14.out.trans (hs15.mono HXs_14.out.size))
  clear HXs_14
  have HXl_15 : Hid (Below w7.heap.size w7 w15) := hide (HXl_14.out.trans (hs15.mono HXl_14.out.size))
  clear HXl_14
  have HXd_15 : Hid (Below w8.heap.size w8 w15) := hide (HXd_14.out.trans (hs15.mono HXd_14.out.size))
  clear HXd_14
  have ho5_0_15 := Own.to ho5_0_14 hs15
  clear ho5_0_14
  have ho9_0_15 := Own.to ho9_0_14 hs15
  clear ho9_0_14
  clear hc15
  have aA_d15 : RA shInt w15 A_d15 d := (rA_d15).mono fun b hb => hb.2
  go_wp2_with fail
  refine (eqIntS A_d8 A_d15 (d).length (d).length d _ (by omega) (RA.to aA_d8_15 (Below.refl _ _)) (RA.to aA_d15 (Below.refl _ _))).mono ?_
  rintro e w16 ⟨rfl, hb16⟩
  have hs16 : Below w15.heap.size w15 w16 := hb16
  have HW16 : Hid (Below w.heap.size w w16) := hide (HW15.out.trans (hs16.mono HW15.out.size))
  obtain ⟨hc16, _⟩ := bcell hb16
  have hz16 := hb16.size
  repeat rw [World.size_alloc] at hz16
  have l16_0 : w.heap.size < w16.heap.size := by omega
  have t16_0_0 : w16.cell? ⟨w.heap.size, 0, none⟩ = some (.int .i64 s.net.places) := (hc16 _ _ (by omega)).trans t15_0_0
  have t16_0_1 : w16.cell? ⟨w.heap.size, 1, none⟩ = some (.slice A_s_net_trans (s.net.trans).length c_s_net_trans) := (hc16 _ _ (by omega)).trans t15_0_1
  have t16_0_2 : w16.cell? ⟨w.heap.size, 2, none⟩ = some (.slice A_s_signals (s.signals).length c_s_signals) := (hc16 _ _ (by omega)).trans t15_0_2
  have t16_0_3 : w16.cell? ⟨w.heap.size, 3, none⟩ = some (.slice A_s_labels (s.labels).length c_s_labels) := (hc16 _ _ (by omega)).trans t15_0_3
  have t16_0_4 : w16.cell? ⟨w.heap.size, 4, none⟩ = some (.string ⟨(s.start).toArray⟩) := (hc16 _ _ (by omega)).trans t15_0_4
  have l16_1 : w6.heap.size < w16.heap.size := by omega
  have t16_1_0 : w16.cell? ⟨w6.heap.size, 0, none⟩ = some (.int .i64 s.net.places) := (hc16 _ _ (by omega)).trans t15_1_0
  have t16_1_1 : w16.cell? ⟨w6.heap.size, 1, none⟩ = some (.slice A_s_net_trans6 (s.net.trans).length (s.net.trans).length) := (hc16 _ _ (by omega)).trans t15_1_1
  have t16_1_2 : w16.cell? ⟨w6.heap.size, 2, none⟩ = some (.slice A_s_signals6 (s.signals).length (s.signals).length) := (hc16 _ _ (by omega)).trans t15_1_2
  have t16_1_3 : w16.cell? ⟨w6.heap.size, 3, none⟩ = some (.slice A_s_labels6 (s.labels).length (s.labels).length) := (hc16 _ _ (by omega)).trans t15_1_3
  have t16_1_4 : w16.cell? ⟨w6.heap.size, 4, none⟩ = some (.string ⟨(s.start).toArray⟩) := (hc16 _ _ (by omega)).trans t15_1_4
  clear t15_0_0
  clear t15_0_1
  clear t15_0_2
  clear t15_0_3
  clear t15_0_4
  clear t15_1_0
  clear t15_1_1
  clear t15_1_2
  clear t15_1_3
  clear t15_1_4
  have aA_s_net_trans6_16 := RA.to aA_s_net_trans6_15 hs16
  clear aA_s_net_trans6_15
  have aA_s_signals6_16 := RA.to aA_s_signals6_15 hs16
  clear aA_s_signals6_15
  have aA_s_labels6_16 := RA.to aA_s_labels6_15 hs16
  clear aA_s_labels6_15
  have aA_l7_16 := RA.to aA_l7_15 hs16
  clear aA_l7_15
  have aA_d8_16 := RA.to aA_d8_15 hs16
  clear aA_d8_15
  have aA_l13_16 := RA.to aA_l13_15 hs16
  clear aA_l13_15
  have aA_d15_16 := RA.to aA_d15 hs16
  clear aA_d15
  have HXs_16 : Hid (Below w6.heap.size w6 w16) := hide (HXs_15.out.trans (hs16.mono HXs_15.out.size))
  clear HXs_15
  have HXl_16 : Hid (Below w7.heap.size w7 w16) := hide (HXl_15.out.trans (hs16.mono HXl_15.out.size))
  clear HXl_15
  have HXd_16 : Hid (Below w8.heap.size w8 w16) := hide (HXd_15.out.trans (hs16.mono HXd_15.out.size))
  clear HXd_15
  have ho5_0_16 := Own.to ho5_0_15 hs16
  clear ho5_0_15
  have ho9_0_16 := Own.to ho9_0_15 hs16
  clear ho9_0_15
  clear hc16
  have hD : ∀ b, (fun b => Fresh w5 w6 b ∨ Fresh (w6.alloc (.cells #[.int .i64 s.net.places, .slice A_s_net_trans6 (s.net.trans).length (s.net.trans).length, .slice A_s_signals6 (s.signals).length (s.signals).length, .slice A_s_labels6 (s.labels).length (s.labels).length, .string ⟨(s.start).toArray⟩] 41)) w7 b ∨ Fresh w7 w8 b) b → b < w16.heap.size := fun b hd => by
    rcases hd with hd | hd | hd
    · exact Nat.lt_of_lt_of_le hd.2 HXs_16.out.size
    · exact Nat.lt_of_lt_of_le hd.2 HXl_16.out.size
    · exact Nat.lt_of_lt_of_le hd.2 HXd_16.out.size
  have hnf : ∀ b o, (fun b => Fresh w5 w6 b ∨ Fresh (w6.alloc (.cells #[.int .i64 s.net.places, .slice A_s_net_trans6 (s.net.trans).length (s.net.trans).length, .slice A_s_signals6 (s.signals).length (s.signals).length, .slice A_s_labels6 (s.labels).length (s.labels).length, .string ⟨(s.start).toArray⟩] 41)) w7 b ∨ Fresh w7 w8 b) b → w16.frozen? ⟨b, o, none⟩ = false := fun b o hd => by
    rcases hd with hd | hd | hd
    · exact (HXs_16.out.frozen (p := ⟨b, o, none⟩) hd.2).trans (fz6.fresh hd.1)
    · exact (HXl_16.out.frozen (p := ⟨b, o, none⟩) hd.2).trans (fz7.fresh hd.1)
    · exact (HXd_16.out.frozen (p := ⟨b, o, none⟩) hd.2).trans (fz8.fresh hd.1)
  have mrA_s_net_trans6 : RSl shTr w16 (fun b => Fresh w5 w6 b ∨ Fresh (w6.alloc (.cells #[.int .i64 s.net.places, .slice A_s_net_trans6 (s.net.trans).length (s.net.trans).length, .slice A_s_signals6 (s.signals).length (s.signals).length, .slice A_s_labels6 (s.labels).length (s.labels).length, .string ⟨(s.start).toArray⟩] 41)) w7 b ∨ Fresh w7 w8 b) A_s_net_trans6 s.net.trans := (rA_s_net_trans6.below HXs_16.out (fun b hd => hd.2)).mono (fun b hd => .inl hd)
  have mrA_s_signals6 : RSl shSig w16 (fun b => Fresh w5 w6 b ∨ Fresh (w6.alloc (.cells #[.int .i64 s.net.places, .slice A_s_net_trans6 (s.net.trans).length (s.net.trans).length, .slice A_s_signals6 (s.signals).length (s.signals).length, .slice A_s_labels6 (s.labels).length (s.labels).length, .string ⟨(s.start).toArray⟩] 41)) w7 b ∨ Fresh w7 w8 b) A_s_signals6 s.signals := (rA_s_signals6.below HXs_16.out (fun b hd => hd.2)).mono (fun b hd => .inl hd)
  have mrA_s_labels6 : RSl shLab w16 (fun b => Fresh w5 w6 b ∨ Fresh (w6.alloc (.cells #[.int .i64 s.net.places, .slice A_s_net_trans6 (s.net.trans).length (s.net.trans).length, .slice A_s_signals6 (s.signals).length (s.signals).length, .slice A_s_labels6 (s.labels).length (s.labels).length, .string ⟨(s.start).toArray⟩] 41)) w7 b ∨ Fresh w7 w8 b) A_s_labels6 s.labels := (rA_s_labels6.below HXs_16.out (fun b hd => hd.2)).mono (fun b hd => .inl hd)
  have mrA_l7 : RSl shDl w16 (fun b => Fresh w5 w6 b ∨ Fresh (w6.alloc (.cells #[.int .i64 s.net.places, .slice A_s_net_trans6 (s.net.trans).length (s.net.trans).length, .slice A_s_signals6 (s.signals).length (s.signals).length, .slice A_s_labels6 (s.labels).length (s.labels).length, .string ⟨(s.start).toArray⟩] 41)) w7 b ∨ Fresh w7 w8 b) A_l7 l := (rA_l7.below HXl_16.out (fun b hd => hd.2)).mono (fun b hd => .inr (.inl hd))
  have mrA_d8 : RSl shInt w16 (fun b => Fresh w5 w6 b ∨ Fresh (w6.alloc (.cells #[.int .i64 s.net.places, .slice A_s_net_trans6 (s.net.trans).length (s.net.trans).length, .slice A_s_signals6 (s.signals).length (s.signals).length, .slice A_s_labels6 (s.labels).length (s.labels).length, .string ⟨(s.start).toArray⟩] 41)) w7 b ∨ Fresh w7 w8 b) A_d8 d := (rA_d8.below HXd_16.out (fun b hd => hd.2)).mono (fun b hd => .inr (.inr (hd)))
  have hM0 := Marked.refl (fun b => Fresh w5 w6 b ∨ Fresh (w6.alloc (.cells #[.int .i64 s.net.places, .slice A_s_net_trans6 (s.net.trans).length (s.net.trans).length, .slice A_s_signals6 (s.signals).length (s.signals).length, .slice A_s_labels6 (s.labels).length (s.labels).length, .string ⟨(s.start).toArray⟩] 41)) w7 b ∨ Fresh w7 w8 b) w16
  go_wp2_with fail
  refine (markSTG_arg w16 (fun b => Fresh w5 w6 b ∨ Fresh (w6.alloc (.cells #[.int .i64 s.net.places, .slice A_s_net_trans6 (s.net.trans).length (s.net.trans).length, .slice A_s_signals6 (s.signals).length (s.signals).length, .slice A_s_labels6 (s.labels).length (s.labels).length, .string ⟨(s.start).toArray⟩] 41)) w7 b ∨ Fresh w7 w8 b) hD hnf s A_s_net_trans6 (s.net.trans).length A_s_signals6 (s.signals).length A_s_labels6 (s.labels).length  (Nat.le_refl _) (by omega) mrA_s_net_trans6 (Nat.le_refl _) (by omega) mrA_s_signals6 (Nat.le_refl _) (by omega) mrA_s_labels6 g10 1 _ hM0 (by omega) (by omega)).mono ?_
  rintro e w17 ⟨n17, rfl, hp17, hq17, hM17, hT17⟩
  have hz17 := hT17.size
  have HW17 : Hid (Below w.heap.size w w17) := hide (HW16.out.trans (hT17.below (fun q hd => by rcases hd with hd | hd | hd <;> (have h1 := hd.1; (try rw [World.size_alloc] at h1); have h2 := hd.2; omega)) HW16.out.size))
  have l17_0 : w.heap.size < w17.heap.size := by omega
  have t17_0_0 : w17.cell? ⟨w.heap.size, 0, none⟩ = some (.int .i64 s.net.places) := (hT17.cell (by omega) (fun hd => by rcases hd with hd | hd | hd <;> (have h1 := hd.1; (try rw [World.size_alloc] at h1); have h2 := hd.2; omega))).trans t16_0_0
  clear t16_0_0
  have t17_0_1 : w17.cell? ⟨w.heap.size, 1, none⟩ = some (.slice A_s_net_trans (s.net.trans).length c_s_net_trans) := (hT17.cell (by omega) (fun hd => by rcases hd with hd | hd | hd <;> (have h1 := hd.1; (try rw [World.size_alloc] at h1); have h2 := hd.2; omega))).trans t16_0_1
  clear t16_0_1
  have t17_0_2 : w17.cell? ⟨w.heap.size, 2, none⟩ = some (.slice A_s_signals (s.signals).length c_s_signals) := (hT17.cell (by omega) (fun hd => by rcases hd with hd | hd | hd <;> (have h1 := hd.1; (try rw [World.size_alloc] at h1); have h2 := hd.2; omega))).trans t16_0_2
  clear t16_0_2
  have t17_0_3 : w17.cell? ⟨w.heap.size, 3, none⟩ = some (.slice A_s_labels (s.labels).length c_s_labels) := (hT17.cell (by omega) (fun hd => by rcases hd with hd | hd | hd <;> (have h1 := hd.1; (try rw [World.size_alloc] at h1); have h2 := hd.2; omega))).trans t16_0_3
  clear t16_0_3
  have t17_0_4 : w17.cell? ⟨w.heap.size, 4, none⟩ = some (.string ⟨(s.start).toArray⟩) := (hT17.cell (by omega) (fun hd => by rcases hd with hd | hd | hd <;> (have h1 := hd.1; (try rw [World.size_alloc] at h1); have h2 := hd.2; omega))).trans t16_0_4
  clear t16_0_4
  have l17_1 : w6.heap.size < w17.heap.size := by omega
  have t17_1_0 : w17.cell? ⟨w6.heap.size, 0, none⟩ = some (.int .i64 s.net.places) := (hT17.cell (by omega) (fun hd => by rcases hd with hd | hd | hd <;> (have h1 := hd.1; (try rw [World.size_alloc] at h1); have h2 := hd.2; omega))).trans t16_1_0
  clear t16_1_0
  have t17_1_1 : w17.cell? ⟨w6.heap.size, 1, none⟩ = some (.slice A_s_net_trans6 (s.net.trans).length (s.net.trans).length) := (hT17.cell (by omega) (fun hd => by rcases hd with hd | hd | hd <;> (have h1 := hd.1; (try rw [World.size_alloc] at h1); have h2 := hd.2; omega))).trans t16_1_1
  clear t16_1_1
  have t17_1_2 : w17.cell? ⟨w6.heap.size, 2, none⟩ = some (.slice A_s_signals6 (s.signals).length (s.signals).length) := (hT17.cell (by omega) (fun hd => by rcases hd with hd | hd | hd <;> (have h1 := hd.1; (try rw [World.size_alloc] at h1); have h2 := hd.2; omega))).trans t16_1_2
  clear t16_1_2
  have t17_1_3 : w17.cell? ⟨w6.heap.size, 3, none⟩ = some (.slice A_s_labels6 (s.labels).length (s.labels).length) := (hT17.cell (by omega) (fun hd => by rcases hd with hd | hd | hd <;> (have h1 := hd.1; (try rw [World.size_alloc] at h1); have h2 := hd.2; omega))).trans t16_1_3
  clear t16_1_3
  have t17_1_4 : w17.cell? ⟨w6.heap.size, 4, none⟩ = some (.string ⟨(s.start).toArray⟩) := (hT17.cell (by omega) (fun hd => by rcases hd with hd | hd | hd <;> (have h1 := hd.1; (try rw [World.size_alloc] at h1); have h2 := hd.2; omega))).trans t16_1_4
  clear t16_1_4
  have ho5_0_17 := Touch.own hT17 ho5_0_16 (fun q hq hd => by rcases hd with hd | hd | hd <;> (have h1 := hd.1; (try rw [World.size_alloc] at h1); have h2 := hd.2; have h3 := hlt5_0 q hq; omega))
  clear ho5_0_16
  have ho9_0_17 := Touch.own hT17 ho9_0_16 (fun q hq hd => by rcases hd with hd | hd | hd <;> (have h1 := hd.1; (try rw [World.size_alloc] at h1); have h2 := hd.2; have h3 := hlt9_0 q hq; omega))
  clear ho9_0_16
  go_wp2_with fail
  refine (markDelayBoundsS_arg w16 (fun b => Fresh w5 w6 b ∨ Fresh (w6.alloc (.cells #[.int .i64 s.net.places, .slice A_s_net_trans6 (s.net.trans).length (s.net.trans).length, .slice A_s_signals6 (s.signals).length (s.signals).length, .slice A_s_labels6 (s.labels).length (s.labels).length, .string ⟨(s.start).toArray⟩] 41)) w7 b ∨ Fresh w7 w8 b) hD hnf A_l7 (l).length l mrA_l7 (by omega) n17 _ hM17 (by omega) (by omega)).mono ?_
  rintro e w18 ⟨n18, rfl, hp18, hq18, hM18, hT18⟩
  have hz18 := hT18.size
  have HW18 : Hid (Below w.heap.size w w18) := hide (HW17.out.trans (hT18.below (fun q hd => by rcases hd with hd | hd | hd <;> (have h1 := hd.1; (try rw [World.size_alloc] at h1); have h2 := hd.2; omega)) HW17.out.size))
  have l18_0 : w.heap.size < w18.heap.size := by omega
  have t18_0_0 : w18.cell? ⟨w.heap.size, 0, none⟩ = some (.int .i64 s.net.places) := (hT18.cell (by omega) (fun hd => by rcases hd with hd | hd | hd <;> (have h1 := hd.1; (try rw [World.size_alloc] at h1); have h2 := hd.2; omega))).trans t17_0_0
  clear t17_0_0
  have t18_0_1 : w18.cell? ⟨w.heap.size, 1, none⟩ = some (.slice A_s_net_trans (s.net.trans).length c_s_net_trans) := (hT18.cell (by omega) (fun hd => by rcases hd with hd | hd | hd <;> (have h1 := hd.1; (try rw [World.size_alloc] at h1); have h2 := hd.2; omega))).trans t17_0_1
  clear t17_0_1
  have t18_0_2 : w18.cell? ⟨w.heap.size, 2, none⟩ = some (.slice A_s_signals (s.signals).length c_s_signals) := (hT18.cell (by omega) (fun hd => by rcases hd with hd | hd | hd <;> (have h1 := hd.1; (try rw [World.size_alloc] at h1); have h2 := hd.2; omega))).trans t17_0_2
  clear t17_0_2
  have t18_0_3 : w18.cell? ⟨w.heap.size, 3, none⟩ = some (.slice A_s_labels (s.labels).length c_s_labels) := (hT18.cell (by omega) (fun hd => by rcases hd with hd | hd | hd <;> (have h1 := hd.1; (try rw [World.size_alloc] at h1); have h2 := hd.2; omega))).trans t17_0_3
  clear t17_0_3
  have t18_0_4 : w18.cell? ⟨w.heap.size, 4, none⟩ = some (.string ⟨(s.start).toArray⟩) := (hT18.cell (by omega) (fun hd => by rcases hd with hd | hd | hd <;> (have h1 := hd.1; (try rw [World.size_alloc] at h1); have h2 := hd.2; omega))).trans t17_0_4
  clear t17_0_4
  have l18_1 : w6.heap.size < w18.heap.size := by omega
  have t18_1_0 : w18.cell? ⟨w6.heap.size, 0, none⟩ = some (.int .i64 s.net.places) := (hT18.cell (by omega) (fun hd => by rcases hd with hd | hd | hd <;> (have h1 := hd.1; (try rw [World.size_alloc] at h1); have h2 := hd.2; omega))).trans t17_1_0
  clear t17_1_0
  have t18_1_1 : w18.cell? ⟨w6.heap.size, 1, none⟩ = some (.slice A_s_net_trans6 (s.net.trans).length (s.net.trans).length) := (hT18.cell (by omega) (fun hd => by rcases hd with hd | hd | hd <;> (have h1 := hd.1; (try rw [World.size_alloc] at h1); have h2 := hd.2; omega))).trans t17_1_1
  clear t17_1_1
  have t18_1_2 : w18.cell? ⟨w6.heap.size, 2, none⟩ = some (.slice A_s_signals6 (s.signals).length (s.signals).length) := (hT18.cell (by omega) (fun hd => by rcases hd with hd | hd | hd <;> (have h1 := hd.1; (try rw [World.size_alloc] at h1); have h2 := hd.2; omega))).trans t17_1_2
  clear t17_1_2
  have t18_1_3 : w18.cell? ⟨w6.heap.size, 3, none⟩ = some (.slice A_s_labels6 (s.labels).length (s.labels).length) := (hT18.cell (by omega) (fun hd => by rcases hd with hd | hd | hd <;> (have h1 := hd.1; (try rw [World.size_alloc] at h1); have h2 := hd.2; omega))).trans t17_1_3
  clear t17_1_3
  have t18_1_4 : w18.cell? ⟨w6.heap.size, 4, none⟩ = some (.string ⟨(s.start).toArray⟩) := (hT18.cell (by omega) (fun hd => by rcases hd with hd | hd | hd <;> (have h1 := hd.1; (try rw [World.size_alloc] at h1); have h2 := hd.2; omega))).trans t17_1_4
  clear t17_1_4
  have ho5_0_18 := Touch.own hT18 ho5_0_17 (fun q hq hd => by rcases hd with hd | hd | hd <;> (have h1 := hd.1; (try rw [World.size_alloc] at h1); have h2 := hd.2; have h3 := hlt5_0 q hq; omega))
  clear ho5_0_17
  have ho9_0_18 := Touch.own hT18 ho9_0_17 (fun q hq hd => by rcases hd with hd | hd | hd <;> (have h1 := hd.1; (try rw [World.size_alloc] at h1); have h2 := hd.2; have h3 := hlt9_0 q hq; omega))
  clear ho9_0_17
  go_wp2_with fail
  refine (markIntS_arg w16 (fun b => Fresh w5 w6 b ∨ Fresh (w6.alloc (.cells #[.int .i64 s.net.places, .slice A_s_net_trans6 (s.net.trans).length (s.net.trans).length, .slice A_s_signals6 (s.signals).length (s.signals).length, .slice A_s_labels6 (s.labels).length (s.labels).length, .string ⟨(s.start).toArray⟩] 41)) w7 b ∨ Fresh w7 w8 b) hD hnf A_d8 (d).length d mrA_d8 (by omega) n18 _ hM18 (by omega) (by omega)).mono ?_
  rintro e w19 ⟨n19, rfl, hp19, hq19, hM19, hT19⟩
  have hz19 := hT19.size
  have HW19 : Hid (Below w.heap.size w w19) := hide (HW18.out.trans (hT19.below (fun q hd => by rcases hd with hd | hd | hd <;> (have h1 := hd.1; (try rw [World.size_alloc] at h1); have h2 := hd.2; omega)) HW18.out.size))
  have l19_0 : w.heap.size < w19.heap.size := by omega
  have t19_0_0 : w19.cell? ⟨w.heap.size, 0, none⟩ = some (.int .i64 s.net.places) := (hT19.cell (by omega) (fun hd => by rcases hd with hd | hd | hd <;> (have h1 := hd.1; (try rw [World.size_alloc] at h1); have h2 := hd.2; omega))).trans t18_0_0
  clear t18_0_0
  have t19_0_1 : w19.cell? ⟨w.heap.size, 1, none⟩ = some (.slice A_s_net_trans (s.net.trans).length c_s_net_trans) := (hT19.cell (by omega) (fun hd => by rcases hd with hd | hd | hd <;> (have h1 := hd.1; (try rw [World.size_alloc] at h1); have h2 := hd.2; omega))).trans t18_0_1
  clear t18_0_1
  have t19_0_2 : w19.cell? ⟨w.heap.size, 2, none⟩ = some (.slice A_s_signals (s.signals).length c_s_signals) := (hT19.cell (by omega) (fun hd => by rcases hd with hd | hd | hd <;> (have h1 := hd.1; (try rw [World.size_alloc] at h1); have h2 := hd.2; omega))).trans t18_0_2
  clear t18_0_2
  have t19_0_3 : w19.cell? ⟨w.heap.size, 3, none⟩ = some (.slice A_s_labels (s.labels).length c_s_labels) := (hT19.cell (by omega) (fun hd => by rcases hd with hd | hd | hd <;> (have h1 := hd.1; (try rw [World.size_alloc] at h1); have h2 := hd.2; omega))).trans t18_0_3
  clear t18_0_3
  have t19_0_4 : w19.cell? ⟨w.heap.size, 4, none⟩ = some (.string ⟨(s.start).toArray⟩) := (hT19.cell (by omega) (fun hd => by rcases hd with hd | hd | hd <;> (have h1 := hd.1; (try rw [World.size_alloc] at h1); have h2 := hd.2; omega))).trans t18_0_4
  clear t18_0_4
  have l19_1 : w6.heap.size < w19.heap.size := by omega
  have t19_1_0 : w19.cell? ⟨w6.heap.size, 0, none⟩ = some (.int .i64 s.net.places) := (hT19.cell (by omega) (fun hd => by rcases hd with hd | hd | hd <;> (have h1 := hd.1; (try rw [World.size_alloc] at h1); have h2 := hd.2; omega))).trans t18_1_0
  clear t18_1_0
  have t19_1_1 : w19.cell? ⟨w6.heap.size, 1, none⟩ = some (.slice A_s_net_trans6 (s.net.trans).length (s.net.trans).length) := (hT19.cell (by omega) (fun hd => by rcases hd with hd | hd | hd <;> (have h1 := hd.1; (try rw [World.size_alloc] at h1); have h2 := hd.2; omega))).trans t18_1_1
  clear t18_1_1
  have t19_1_2 : w19.cell? ⟨w6.heap.size, 2, none⟩ = some (.slice A_s_signals6 (s.signals).length (s.signals).length) := (hT19.cell (by omega) (fun hd => by rcases hd with hd | hd | hd <;> (have h1 := hd.1; (try rw [World.size_alloc] at h1); have h2 := hd.2; omega))).trans t18_1_2
  clear t18_1_2
  have t19_1_3 : w19.cell? ⟨w6.heap.size, 3, none⟩ = some (.slice A_s_labels6 (s.labels).length (s.labels).length) := (hT19.cell (by omega) (fun hd => by rcases hd with hd | hd | hd <;> (have h1 := hd.1; (try rw [World.size_alloc] at h1); have h2 := hd.2; omega))).trans t18_1_3
  clear t18_1_3
  have t19_1_4 : w19.cell? ⟨w6.heap.size, 4, none⟩ = some (.string ⟨(s.start).toArray⟩) := (hT19.cell (by omega) (fun hd => by rcases hd with hd | hd | hd <;> (have h1 := hd.1; (try rw [World.size_alloc] at h1); have h2 := hd.2; omega))).trans t18_1_4
  clear t18_1_4
  have ho5_0_19 := Touch.own hT19 ho5_0_18 (fun q hq hd => by rcases hd with hd | hd | hd <;> (have h1 := hd.1; (try rw [World.size_alloc] at h1); have h2 := hd.2; have h3 := hlt5_0 q hq; omega))
  clear ho5_0_18
  have ho9_0_19 := Touch.own hT19 ho9_0_18 (fun q hq hd => by rcases hd with hd | hd | hd <;> (have h1 := hd.1; (try rw [World.size_alloc] at h1); have h2 := hd.2; have h3 := hlt9_0 q hq; omega))
  clear ho9_0_18
  clear HXs_16
  clear HXl_16
  clear HXd_16
  have qn : decide (n19 < 0) = false := by simp; omega
  go_wp2_with fail
  refine (eqTimedFiringS A9_0 A5_0 c9_0 c5_0 R.1.1 _ (by omega) (RA.to ho9_0_19.ra (Below.refl _ _)) (RA.to ho5_0_19.ra (Below.refl _ _))).mono ?_
  rintro e w20 ⟨rfl, hb20⟩
  have hs20 : Below w19.heap.size w19 w20 := hb20
  have HW20 : Hid (Below w.heap.size w w20) := hide (HW19.out.trans (hs20.mono HW19.out.size))
  obtain ⟨hc20, _⟩ := bcell hb20
  have hz20 := hb20.size
  repeat rw [World.size_alloc] at hz20
  have l20_0 : w.heap.size < w20.heap.size := by omega
  have t20_0_0 : w20.cell? ⟨w.heap.size, 0, none⟩ = some (.int .i64 s.net.places) := (hc20 _ _ (by omega)).trans t19_0_0
  have t20_0_1 : w20.cell? ⟨w.heap.size, 1, none⟩ = some (.slice A_s_net_trans (s.net.trans).length c_s_net_trans) := (hc20 _ _ (by omega)).trans t19_0_1
  have t20_0_2 : w20.cell? ⟨w.heap.size, 2, none⟩ = some (.slice A_s_signals (s.signals).length c_s_signals) := (hc20 _ _ (by omega)).trans t19_0_2
  have t20_0_3 : w20.cell? ⟨w.heap.size, 3, none⟩ = some (.slice A_s_labels (s.labels).length c_s_labels) := (hc20 _ _ (by omega)).trans t19_0_3
  have t20_0_4 : w20.cell? ⟨w.heap.size, 4, none⟩ = some (.string ⟨(s.start).toArray⟩) := (hc20 _ _ (by omega)).trans t19_0_4
  have l20_1 : w6.heap.size < w20.heap.size := by omega
  have t20_1_0 : w20.cell? ⟨w6.heap.size, 0, none⟩ = some (.int .i64 s.net.places) := (hc20 _ _ (by omega)).trans t19_1_0
  have t20_1_1 : w20.cell? ⟨w6.heap.size, 1, none⟩ = some (.slice A_s_net_trans6 (s.net.trans).length (s.net.trans).length) := (hc20 _ _ (by omega)).trans t19_1_1
  have t20_1_2 : w20.cell? ⟨w6.heap.size, 2, none⟩ = some (.slice A_s_signals6 (s.signals).length (s.signals).length) := (hc20 _ _ (by omega)).trans t19_1_2
  have t20_1_3 : w20.cell? ⟨w6.heap.size, 3, none⟩ = some (.slice A_s_labels6 (s.labels).length (s.labels).length) := (hc20 _ _ (by omega)).trans t19_1_3
  have t20_1_4 : w20.cell? ⟨w6.heap.size, 4, none⟩ = some (.string ⟨(s.start).toArray⟩) := (hc20 _ _ (by omega)).trans t19_1_4
  clear t19_0_0
  clear t19_0_1
  clear t19_0_2
  clear t19_0_3
  clear t19_0_4
  clear t19_1_0
  clear t19_1_1
  clear t19_1_2
  clear t19_1_3
  clear t19_1_4
  have ho5_0_20 := Own.to ho5_0_19 hs20
  clear ho5_0_19
  have ho9_0_20 := Own.to ho9_0_19 hs20
  clear ho9_0_19
  clear hc20
  go_wp2_with fail
  refine (markTimedFiringS_own _ _ A9_0 c9_0 R.1.1 1 _ ho9_0_20 (by omega) (by omega)).mono ?_
  rintro e w21 ⟨rfl, hr21, hT21⟩
  have hz21 := hT21.size
  have HW21 : Hid (Below w.heap.size w w21) := hide (HW20.out.trans (hT21.below (fun q hd => by have h3 := hlt9_0 q hd; omega) HW20.out.size))
  have l21_0 : w.heap.size < w21.heap.size := by omega
  have t21_0_0 : w21.cell? ⟨w.heap.size, 0, none⟩ = some (.int .i64 s.net.places) := (hT21.cell (by omega) (fun hd => by have h3 := hlt9_0 _ hd; omega)).trans t20_0_0
  clear t20_0_0
  have t21_0_1 : w21.cell? ⟨w.heap.size, 1, none⟩ = some (.slice A_s_net_trans (s.net.trans).length c_s_net_trans) := (hT21.cell (by omega) (fun hd => by have h3 := hlt9_0 _ hd; omega)).trans t20_0_1
  clear t20_0_1
  have t21_0_2 : w21.cell? ⟨w.heap.size, 2, none⟩ = some (.slice A_s_signals (s.signals).length c_s_signals) := (hT21.cell (by omega) (fun hd => by have h3 := hlt9_0 _ hd; omega)).trans t20_0_2
  clear t20_0_2
  have t21_0_3 : w21.cell? ⟨w.heap.size, 3, none⟩ = some (.slice A_s_labels (s.labels).length c_s_labels) := (hT21.cell (by omega) (fun hd => by have h3 := hlt9_0 _ hd; omega)).trans t20_0_3
  clear t20_0_3
  have t21_0_4 : w21.cell? ⟨w.heap.size, 4, none⟩ = some (.string ⟨(s.start).toArray⟩) := (hT21.cell (by omega) (fun hd => by have h3 := hlt9_0 _ hd; omega)).trans t20_0_4
  clear t20_0_4
  have l21_1 : w6.heap.size < w21.heap.size := by omega
  have t21_1_0 : w21.cell? ⟨w6.heap.size, 0, none⟩ = some (.int .i64 s.net.places) := (hT21.cell (by omega) (fun hd => by have h3 := hlt9_0 _ hd; omega)).trans t20_1_0
  clear t20_1_0
  have t21_1_1 : w21.cell? ⟨w6.heap.size, 1, none⟩ = some (.slice A_s_net_trans6 (s.net.trans).length (s.net.trans).length) := (hT21.cell (by omega) (fun hd => by have h3 := hlt9_0 _ hd; omega)).trans t20_1_1
  clear t20_1_1
  have t21_1_2 : w21.cell? ⟨w6.heap.size, 2, none⟩ = some (.slice A_s_signals6 (s.signals).length (s.signals).length) := (hT21.cell (by omega) (fun hd => by have h3 := hlt9_0 _ hd; omega)).trans t20_1_2
  clear t20_1_2
  have t21_1_3 : w21.cell? ⟨w6.heap.size, 3, none⟩ = some (.slice A_s_labels6 (s.labels).length (s.labels).length) := (hT21.cell (by omega) (fun hd => by have h3 := hlt9_0 _ hd; omega)).trans t20_1_3
  clear t20_1_3
  have t21_1_4 : w21.cell? ⟨w6.heap.size, 4, none⟩ = some (.string ⟨(s.start).toArray⟩) := (hT21.cell (by omega) (fun hd => by have h3 := hlt9_0 _ hd; omega)).trans t20_1_4
  clear t20_1_4
  have ho5_0_21 := Touch.own hT21 ho5_0_20 (fun q hq hd => by have h3 := hlt5_0 q hq; have h4 := hlt9_0 q hd; omega)
  clear ho5_0_20
  have aG_9_0 : RA shTF w21 A9_0 (marksL mkTF 2 1 R.1.1) := hr21.mono (fun b hd => by have h3 := hlt9_0 b hd; omega)
  have qh : decide (1 + 2 * (R.1.1.length : Int) < 0) = false := by simp; omega
  go_wp2_with fail
  refine (heldTimedFiringS A9_0 c9_0 R.1.1 1 _ (by omega) (RA.to aG_9_0 (Below.refl _ _)) (by omega) (by omega)).mono ?_
  rintro e w22 ⟨rfl, hb22⟩
  have hs22 : Below w21.heap.size w21 w22 := hb22
  have HW22 : Hid (Below w.heap.size w w22) := hide (HW21.out.trans (hs22.mono HW21.out.size))
  obtain ⟨hc22, _⟩ := bcell hb22
  have hz22 := hb22.size
  repeat rw [World.size_alloc] at hz22
  have l22_0 : w.heap.size < w22.heap.size := by omega
  have t22_0_0 : w22.cell? ⟨w.heap.size, 0, none⟩ = some (.int .i64 s.net.places) := (hc22 _ _ (by omega)).trans t21_0_0
  have t22_0_1 : w22.cell? ⟨w.heap.size, 1, none⟩ = some (.slice A_s_net_trans (s.net.trans).length c_s_net_trans) := (hc22 _ _ (by omega)).trans t21_0_1
  have t22_0_2 : w22.cell? ⟨w.heap.size, 2, none⟩ = some (.slice A_s_signals (s.signals).length c_s_signals) := (hc22 _ _ (by omega)).trans t21_0_2
  have t22_0_3 : w22.cell? ⟨w.heap.size, 3, none⟩ = some (.slice A_s_labels (s.labels).length c_s_labels) := (hc22 _ _ (by omega)).trans t21_0_3
  have t22_0_4 : w22.cell? ⟨w.heap.size, 4, none⟩ = some (.string ⟨(s.start).toArray⟩) := (hc22 _ _ (by omega)).trans t21_0_4
  have l22_1 : w6.heap.size < w22.heap.size := by omega
  have t22_1_0 : w22.cell? ⟨w6.heap.size, 0, none⟩ = some (.int .i64 s.net.places) := (hc22 _ _ (by omega)).trans t21_1_0
  have t22_1_1 : w22.cell? ⟨w6.heap.size, 1, none⟩ = some (.slice A_s_net_trans6 (s.net.trans).length (s.net.trans).length) := (hc22 _ _ (by omega)).trans t21_1_1
  have t22_1_2 : w22.cell? ⟨w6.heap.size, 2, none⟩ = some (.slice A_s_signals6 (s.signals).length (s.signals).length) := (hc22 _ _ (by omega)).trans t21_1_2
  have t22_1_3 : w22.cell? ⟨w6.heap.size, 3, none⟩ = some (.slice A_s_labels6 (s.labels).length (s.labels).length) := (hc22 _ _ (by omega)).trans t21_1_3
  have t22_1_4 : w22.cell? ⟨w6.heap.size, 4, none⟩ = some (.string ⟨(s.start).toArray⟩) := (hc22 _ _ (by omega)).trans t21_1_4
  clear t21_0_0
  clear t21_0_1
  clear t21_0_2
  clear t21_0_3
  clear t21_0_4
  clear t21_1_0
  clear t21_1_1
  clear t21_1_2
  clear t21_1_3
  clear t21_1_4
  have aG_9_0_22 := RA.to aG_9_0 hs22
  clear aG_9_0
  have ho5_0_22 := Own.to ho5_0_21 hs22
  clear ho5_0_21
  clear hc22
  go_wp2_with fail
  refine (toSTG s A_s_net_trans c_s_net_trans A_s_signals c_s_signals A_s_labels c_s_labels _ g1 g2 (RA.to g3 HW22.out) g4 g5 (RA.to g6 HW22.out) g7 g8 (RA.to g9 HW22.out) g10 qq_s).mono ?_
  rintro e w23 ⟨A_s_net_trans23, A_s_signals23, A_s_labels23, rfl, rA_s_net_trans23, rA_s_signals23, rA_s_labels23, hb23, fz23⟩
  have hs23 : Below w22.heap.size w22 w23 := hb23
  have HW23 : Hid (Below w.heap.size w w23) := hide (HW22.out.trans (hs23.mono HW22.out.size))
  obtain ⟨hc23, _⟩ := bcell hb23
  have hz23 := hb23.size
  repeat rw [World.size_alloc] at hz23
  have l23_0 : w.heap.size < w23.heap.size := by omega
  have t23_0_0 : w23.cell? ⟨w.heap.size, 0, none⟩ = some (.int .i64 s.net.places) := (hc23 _ _ (by omega)).trans t22_0_0
  have t23_0_1 : w23.cell? ⟨w.heap.size, 1, none⟩ = some (.slice A_s_net_trans (s.net.trans).length c_s_net_trans) := (hc23 _ _ (by omega)).trans t22_0_1
  have t23_0_2 : w23.cell? ⟨w.heap.size, 2, none⟩ = some (.slice A_s_signals (s.signals).length c_s_signals) := (hc23 _ _ (by omega)).trans t22_0_2
  have t23_0_3 : w23.cell? ⟨w.heap.size, 3, none⟩ = some (.slice A_s_labels (s.labels).length c_s_labels) := (hc23 _ _ (by omega)).trans t22_0_3
  have t23_0_4 : w23.cell? ⟨w.heap.size, 4, none⟩ = some (.string ⟨(s.start).toArray⟩) := (hc23 _ _ (by omega)).trans t22_0_4
  have l23_1 : w6.heap.size < w23.heap.size := by omega
  have t23_1_0 : w23.cell? ⟨w6.heap.size, 0, none⟩ = some (.int .i64 s.net.places) := (hc23 _ _ (by omega)).trans t22_1_0
  have t23_1_1 : w23.cell? ⟨w6.heap.size, 1, none⟩ = some (.slice A_s_net_trans6 (s.net.trans).length (s.net.trans).length) := (hc23 _ _ (by omega)).trans t22_1_1
  have t23_1_2 : w23.cell? ⟨w6.heap.size, 2, none⟩ = some (.slice A_s_signals6 (s.signals).length (s.signals).length) := (hc23 _ _ (by omega)).trans t22_1_2
  have t23_1_3 : w23.cell? ⟨w6.heap.size, 3, none⟩ = some (.slice A_s_labels6 (s.labels).length (s.labels).length) := (hc23 _ _ (by omega)).trans t22_1_3
  have t23_1_4 : w23.cell? ⟨w6.heap.size, 4, none⟩ = some (.string ⟨(s.start).toArray⟩) := (hc23 _ _ (by omega)).trans t22_1_4
  clear t22_0_0
  clear t22_0_1
  clear t22_0_2
  clear t22_0_3
  clear t22_0_4
  clear t22_1_0
  clear t22_1_1
  clear t22_1_2
  clear t22_1_3
  clear t22_1_4
  have aG_9_0_23 := RA.to aG_9_0_22 hs23
  clear aG_9_0_22
  have ho5_0_23 := Own.to ho5_0_22 hs23
  clear ho5_0_22
  clear hc23
  have aA_s_net_trans23 : RA shTr w23 A_s_net_trans23 s.net.trans := (rA_s_net_trans23).mono fun b hb => hb.2
  have aA_s_signals23 : RA shSig w23 A_s_signals23 s.signals := (rA_s_signals23).mono fun b hb => hb.2
  have aA_s_labels23 : RA shLab w23 A_s_labels23 s.labels := (rA_s_labels23).mono fun b hb => hb.2
  go_wp2_with fail
  refine (toDelayBoundsS A_l c_l l _ qq_l (RA.to g13 HW23.out)).mono ?_
  rintro e w24 ⟨A_l24, rfl, rA_l24, hb24, fz24⟩
  have hs24 : Below w23.heap.size w23 w24 := hb24
  have HW24 : Hid (Below w.heap.size w w24) := hide (HW23.out.trans (hs24.mono HW23.out.size))
  obtain ⟨hc24, _⟩ := bcell hb24
  have hz24 := hb24.size
  repeat rw [World.size_alloc] at hz24
  have l24_0 : w.heap.size < w24.heap.size := by omega
  have t24_0_0 : w24.cell? ⟨w.heap.size, 0, none⟩ = some (.int .i64 s.net.places) := (hc24 _ _ (by omega)).trans t23_0_0
  have t24_0_1 : w24.cell? ⟨w.heap.size, 1, none⟩ = some (.slice A_s_net_trans (s.net.trans).length c_s_net_trans) := (hc24 _ _ (by omega)).trans t23_0_1
  have t24_0_2 : w24.cell? ⟨w.heap.size, 2, none⟩ = some (.slice A_s_signals (s.signals).length c_s_signals) := (hc24 _ _ (by omega)).trans t23_0_2
  have t24_0_3 : w24.cell? ⟨w.heap.size, 3, none⟩ = some (.slice A_s_labels (s.labels).length c_s_labels) := (hc24 _ _ (by omega)).trans t23_0_3
  have t24_0_4 : w24.cell? ⟨w.heap.size, 4, none⟩ = some (.string ⟨(s.start).toArray⟩) := (hc24 _ _ (by omega)).trans t23_0_4
  have l24_1 : w6.heap.size < w24.heap.size := by omega
  have t24_1_0 : w24.cell? ⟨w6.heap.size, 0, none⟩ = some (.int .i64 s.net.places) := (hc24 _ _ (by omega)).trans t23_1_0
  have t24_1_1 : w24.cell? ⟨w6.heap.size, 1, none⟩ = some (.slice A_s_net_trans6 (s.net.trans).length (s.net.trans).length) := (hc24 _ _ (by omega)).trans t23_1_1
  have t24_1_2 : w24.cell? ⟨w6.heap.size, 2, none⟩ = some (.slice A_s_signals6 (s.signals).length (s.signals).length) := (hc24 _ _ (by omega)).trans t23_1_2
  have t24_1_3 : w24.cell? ⟨w6.heap.size, 3, none⟩ = some (.slice A_s_labels6 (s.labels).length (s.labels).length) := (hc24 _ _ (by omega)).trans t23_1_3
  have t24_1_4 : w24.cell? ⟨w6.heap.size, 4, none⟩ = some (.string ⟨(s.start).toArray⟩) := (hc24 _ _ (by omega)).trans t23_1_4
  clear t23_0_0
  clear t23_0_1
  clear t23_0_2
  clear t23_0_3
  clear t23_0_4
  clear t23_1_0
  clear t23_1_1
  clear t23_1_2
  clear t23_1_3
  clear t23_1_4
  have aG_9_0_24 := RA.to aG_9_0_23 hs24
  clear aG_9_0_23
  have aA_s_net_trans23_24 := RA.to aA_s_net_trans23 hs24
  clear aA_s_net_trans23
  have aA_s_signals23_24 := RA.to aA_s_signals23 hs24
  clear aA_s_signals23
  have aA_s_labels23_24 := RA.to aA_s_labels23 hs24
  clear aA_s_labels23
  have ho5_0_24 := Own.to ho5_0_23 hs24
  clear ho5_0_23
  clear hc24
  have aA_l24 : RA shDl w24 A_l24 l := (rA_l24).mono fun b hb => hb.2
  go_wp2_with fail
  refine (toIntS A_d c_d d _ (by omega) (RA.to g16 HW24.out)).mono ?_
  rintro e w25 ⟨A_d25, rfl, rA_d25, hb25, fz25⟩
  have hs25 : Below w24.heap.size w24 w25 := hb25
  have HW25 : Hid (Below w.heap.size w w25) := hide (HW24.out.trans (hs25.mono HW24.out.size))
  obtain ⟨hc25, _⟩ := bcell hb25
  have hz25 := hb25.size
  repeat rw [World.size_alloc] at hz25
  have l25_0 : w.heap.size < w25.heap.size := by omega
  have t25_0_0 : w25.cell? ⟨w.heap.size, 0, none⟩ = some (.int .i64 s.net.places) := (hc25 _ _ (by omega)).trans t24_0_0
  have t25_0_1 : w25.cell? ⟨w.heap.size, 1, none⟩ = some (.slice A_s_net_trans (s.net.trans).length c_s_net_trans) := (hc25 _ _ (by omega)).trans t24_0_1
  have t25_0_2 : w25.cell? ⟨w.heap.size, 2, none⟩ = some (.slice A_s_signals (s.signals).length c_s_signals) := (hc25 _ _ (by omega)).trans t24_0_2
  have t25_0_3 : w25.cell? ⟨w.heap.size, 3, none⟩ = some (.slice A_s_labels (s.labels).length c_s_labels) := (hc25 _ _ (by omega)).trans t24_0_3
  have t25_0_4 : w25.cell? ⟨w.heap.size, 4, none⟩ = some (.string ⟨(s.start).toArray⟩) := (hc25 _ _ (by omega)).trans t24_0_4
  have l25_1 : w6.heap.size < w25.heap.size := by omega
  have t25_1_0 : w25.cell? ⟨w6.heap.size, 0, none⟩ = some (.int .i64 s.net.places) := (hc25 _ _ (by omega)).trans t24_1_0
  have t25_1_1 : w25.cell? ⟨w6.heap.size, 1, none⟩ = some (.slice A_s_net_trans6 (s.net.trans).length (s.net.trans).length) := (hc25 _ _ (by omega)).trans t24_1_1
  have t25_1_2 : w25.cell? ⟨w6.heap.size, 2, none⟩ = some (.slice A_s_signals6 (s.signals).length (s.signals).length) := (hc25 _ _ (by omega)).trans t24_1_2
  have t25_1_3 : w25.cell? ⟨w6.heap.size, 3, none⟩ = some (.slice A_s_labels6 (s.labels).length (s.labels).length) := (hc25 _ _ (by omega)).trans t24_1_3
  have t25_1_4 : w25.cell? ⟨w6.heap.size, 4, none⟩ = some (.string ⟨(s.start).toArray⟩) := (hc25 _ _ (by omega)).trans t24_1_4
  clear t24_0_0
  clear t24_0_1
  clear t24_0_2
  clear t24_0_3
  clear t24_0_4
  clear t24_1_0
  clear t24_1_1
  clear t24_1_2
  clear t24_1_3
  clear t24_1_4
  have aG_9_0_25 := RA.to aG_9_0_24 hs25
  clear aG_9_0_24
  have aA_s_net_trans23_25 := RA.to aA_s_net_trans23_24 hs25
  clear aA_s_net_trans23_24
  have aA_s_signals23_25 := RA.to aA_s_signals23_24 hs25
  clear aA_s_signals23_24
  have aA_s_labels23_25 := RA.to aA_s_labels23_24 hs25
  clear aA_s_labels23_24
  have aA_l24_25 := RA.to aA_l24 hs25
  clear aA_l24
  have ho5_0_25 := Own.to ho5_0_24 hs25
  clear ho5_0_24
  clear hc25
  have aA_d25 : RA shInt w25 A_d25 d := (rA_d25).mono fun b hb => hb.2
  go_wp2_with fail
  refine (impl_SimulateTimed s l d A_s_net_trans23 (s.net.trans).length A_s_signals23 (s.signals).length A_s_labels23 (s.labels).length A_l24 (l).length A_d25 (d).length _ g0 (Nat.le_refl _) (by omega) (RA.to aA_s_net_trans23_25 (Below.refl _ _)) (Nat.le_refl _) (by omega) (RA.to aA_s_signals23_25 (Below.refl _ _)) (Nat.le_refl _) (by omega) (RA.to aA_s_labels23_25 (Below.refl _ _)) g10 (Nat.le_refl _) (by omega) (RA.to aA_l24_25 (Below.refl _ _)) (Nat.le_refl _) (by omega) (RA.to aA_d25 (Below.refl _ _))).mono ?_
  rintro e w26 ⟨A26_0, c26_0, rfl, ho26_0, hb26⟩
  have hs26 : Below w25.heap.size w25 w26 := hb26
  have HW26 : Hid (Below w.heap.size w w26) := hide (HW25.out.trans (hs26.mono HW25.out.size))
  obtain ⟨hc26, _⟩ := bcell hb26
  have hz26 := hb26.size
  repeat rw [World.size_alloc] at hz26
  have l26_0 : w.heap.size < w26.heap.size := by omega
  have t26_0_0 : w26.cell? ⟨w.heap.size, 0, none⟩ = some (.int .i64 s.net.places) := (hc26 _ _ (by omega)).trans t25_0_0
  have t26_0_1 : w26.cell? ⟨w.heap.size, 1, none⟩ = some (.slice A_s_net_trans (s.net.trans).length c_s_net_trans) := (hc26 _ _ (by omega)).trans t25_0_1
  have t26_0_2 : w26.cell? ⟨w.heap.size, 2, none⟩ = some (.slice A_s_signals (s.signals).length c_s_signals) := (hc26 _ _ (by omega)).trans t25_0_2
  have t26_0_3 : w26.cell? ⟨w.heap.size, 3, none⟩ = some (.slice A_s_labels (s.labels).length c_s_labels) := (hc26 _ _ (by omega)).trans t25_0_3
  have t26_0_4 : w26.cell? ⟨w.heap.size, 4, none⟩ = some (.string ⟨(s.start).toArray⟩) := (hc26 _ _ (by omega)).trans t25_0_4
  have l26_1 : w6.heap.size < w26.heap.size := by omega
  have t26_1_0 : w26.cell? ⟨w6.heap.size, 0, none⟩ = some (.int .i64 s.net.places) := (hc26 _ _ (by omega)).trans t25_1_0
  have t26_1_1 : w26.cell? ⟨w6.heap.size, 1, none⟩ = some (.slice A_s_net_trans6 (s.net.trans).length (s.net.trans).length) := (hc26 _ _ (by omega)).trans t25_1_1
  have t26_1_2 : w26.cell? ⟨w6.heap.size, 2, none⟩ = some (.slice A_s_signals6 (s.signals).length (s.signals).length) := (hc26 _ _ (by omega)).trans t25_1_2
  have t26_1_3 : w26.cell? ⟨w6.heap.size, 3, none⟩ = some (.slice A_s_labels6 (s.labels).length (s.labels).length) := (hc26 _ _ (by omega)).trans t25_1_3
  have t26_1_4 : w26.cell? ⟨w6.heap.size, 4, none⟩ = some (.string ⟨(s.start).toArray⟩) := (hc26 _ _ (by omega)).trans t25_1_4
  clear t25_0_0
  clear t25_0_1
  clear t25_0_2
  clear t25_0_3
  clear t25_0_4
  clear t25_1_0
  clear t25_1_1
  clear t25_1_2
  clear t25_1_3
  clear t25_1_4
  have aG_9_0_26 := RA.to aG_9_0_25 hs26
  clear aG_9_0_25
  have aA_s_net_trans23_26 := RA.to aA_s_net_trans23_25 hs26
  clear aA_s_net_trans23_25
  have aA_s_signals23_26 := RA.to aA_s_signals23_25 hs26
  clear aA_s_signals23_25
  have aA_s_labels23_26 := RA.to aA_s_labels23_25 hs26
  clear aA_s_labels23_25
  have aA_l24_26 := RA.to aA_l24_25 hs26
  clear aA_l24_25
  have aA_d25_26 := RA.to aA_d25 hs26
  clear aA_d25
  have ho5_0_26 := Own.to ho5_0_25 hs26
  clear ho5_0_25
  clear hc26
  rw [HR.out] at ho26_0
  have hlt26_0 := ho26_0.lt
  rw [HR.out]
  go_wp2_with fail
  refine (eqTimedFiringS A26_0 A5_0 c26_0 c5_0 R.1.1 _ (by omega) (RA.to ho26_0.ra (Below.refl _ _)) (RA.to ho5_0_26.ra (Below.refl _ _))).mono ?_
  rintro e w27 ⟨rfl, hb27⟩
  have hs27 : Below w26.heap.size w26 w27 := hb27
  have HW27 : Hid (Below w.heap.size w w27) := hide (HW26.out.trans (hs27.mono HW26.out.size))
  obtain ⟨hc27, _⟩ := bcell hb27
  have hz27 := hb27.size
  repeat rw [World.size_alloc] at hz27
  have l27_0 : w.heap.size < w27.heap.size := by omega
  have t27_0_0 : w27.cell? ⟨w.heap.size, 0, none⟩ = some (.int .i64 s.net.places) := (hc27 _ _ (by omega)).trans t26_0_0
  have t27_0_1 : w27.cell? ⟨w.heap.size, 1, none⟩ = some (.slice A_s_net_trans (s.net.trans).length c_s_net_trans) := (hc27 _ _ (by omega)).trans t26_0_1
  have t27_0_2 : w27.cell? ⟨w.heap.size, 2, none⟩ = some (.slice A_s_signals (s.signals).length c_s_signals) := (hc27 _ _ (by omega)).trans t26_0_2
  have t27_0_3 : w27.cell? ⟨w.heap.size, 3, none⟩ = some (.slice A_s_labels (s.labels).length c_s_labels) := (hc27 _ _ (by omega)).trans t26_0_3
  have t27_0_4 : w27.cell? ⟨w.heap.size, 4, none⟩ = some (.string ⟨(s.start).toArray⟩) := (hc27 _ _ (by omega)).trans t26_0_4
  have l27_1 : w6.heap.size < w27.heap.size := by omega
  have t27_1_0 : w27.cell? ⟨w6.heap.size, 0, none⟩ = some (.int .i64 s.net.places) := (hc27 _ _ (by omega)).trans t26_1_0
  have t27_1_1 : w27.cell? ⟨w6.heap.size, 1, none⟩ = some (.slice A_s_net_trans6 (s.net.trans).length (s.net.trans).length) := (hc27 _ _ (by omega)).trans t26_1_1
  have t27_1_2 : w27.cell? ⟨w6.heap.size, 2, none⟩ = some (.slice A_s_signals6 (s.signals).length (s.signals).length) := (hc27 _ _ (by omega)).trans t26_1_2
  have t27_1_3 : w27.cell? ⟨w6.heap.size, 3, none⟩ = some (.slice A_s_labels6 (s.labels).length (s.labels).length) := (hc27 _ _ (by omega)).trans t26_1_3
  have t27_1_4 : w27.cell? ⟨w6.heap.size, 4, none⟩ = some (.string ⟨(s.start).toArray⟩) := (hc27 _ _ (by omega)).trans t26_1_4
  clear t26_0_0
  clear t26_0_1
  clear t26_0_2
  clear t26_0_3
  clear t26_0_4
  clear t26_1_0
  clear t26_1_1
  clear t26_1_2
  clear t26_1_3
  clear t26_1_4
  have aG_9_0_27 := RA.to aG_9_0_26 hs27
  clear aG_9_0_26
  have aA_s_net_trans23_27 := RA.to aA_s_net_trans23_26 hs27
  clear aA_s_net_trans23_26
  have aA_s_signals23_27 := RA.to aA_s_signals23_26 hs27
  clear aA_s_signals23_26
  have aA_s_labels23_27 := RA.to aA_s_labels23_26 hs27
  clear aA_s_labels23_26
  have aA_l24_27 := RA.to aA_l24_26 hs27
  clear aA_l24_26
  have aA_d25_27 := RA.to aA_d25_26 hs27
  clear aA_d25_26
  have ho5_0_27 := Own.to ho5_0_26 hs27
  clear ho5_0_26
  have ho26_0_27 := Own.to ho26_0 hs27
  clear ho26_0
  clear hc27
  go_wp2_with fail
  refine (heldTimedFiringS A9_0 c9_0 R.1.1 1 _ (by omega) (RA.to aG_9_0_27 (Below.refl _ _)) (by omega) (by omega)).mono ?_
  rintro e w28 ⟨rfl, hb28⟩
  have hs28 : Below w27.heap.size w27 w28 := hb28
  have HW28 : Hid (Below w.heap.size w w28) := hide (HW27.out.trans (hs28.mono HW27.out.size))
  obtain ⟨hc28, _⟩ := bcell hb28
  have hz28 := hb28.size
  repeat rw [World.size_alloc] at hz28
  have l28_0 : w.heap.size < w28.heap.size := by omega
  have t28_0_0 : w28.cell? ⟨w.heap.size, 0, none⟩ = some (.int .i64 s.net.places) := (hc28 _ _ (by omega)).trans t27_0_0
  have t28_0_1 : w28.cell? ⟨w.heap.size, 1, none⟩ = some (.slice A_s_net_trans (s.net.trans).length c_s_net_trans) := (hc28 _ _ (by omega)).trans t27_0_1
  have t28_0_2 : w28.cell? ⟨w.heap.size, 2, none⟩ = some (.slice A_s_signals (s.signals).length c_s_signals) := (hc28 _ _ (by omega)).trans t27_0_2
  have t28_0_3 : w28.cell? ⟨w.heap.size, 3, none⟩ = some (.slice A_s_labels (s.labels).length c_s_labels) := (hc28 _ _ (by omega)).trans t27_0_3
  have t28_0_4 : w28.cell? ⟨w.heap.size, 4, none⟩ = some (.string ⟨(s.start).toArray⟩) := (hc28 _ _ (by omega)).trans t27_0_4
  have l28_1 : w6.heap.size < w28.heap.size := by omega
  have t28_1_0 : w28.cell? ⟨w6.heap.size, 0, none⟩ = some (.int .i64 s.net.places) := (hc28 _ _ (by omega)).trans t27_1_0
  have t28_1_1 : w28.cell? ⟨w6.heap.size, 1, none⟩ = some (.slice A_s_net_trans6 (s.net.trans).length (s.net.trans).length) := (hc28 _ _ (by omega)).trans t27_1_1
  have t28_1_2 : w28.cell? ⟨w6.heap.size, 2, none⟩ = some (.slice A_s_signals6 (s.signals).length (s.signals).length) := (hc28 _ _ (by omega)).trans t27_1_2
  have t28_1_3 : w28.cell? ⟨w6.heap.size, 3, none⟩ = some (.slice A_s_labels6 (s.labels).length (s.labels).length) := (hc28 _ _ (by omega)).trans t27_1_3
  have t28_1_4 : w28.cell? ⟨w6.heap.size, 4, none⟩ = some (.string ⟨(s.start).toArray⟩) := (hc28 _ _ (by omega)).trans t27_1_4
  clear t27_0_0
  clear t27_0_1
  clear t27_0_2
  clear t27_0_3
  clear t27_0_4
  clear t27_1_0
  clear t27_1_1
  clear t27_1_2
  clear t27_1_3
  clear t27_1_4
  have aG_9_0_28 := RA.to aG_9_0_27 hs28
  clear aG_9_0_27
  have aA_s_net_trans23_28 := RA.to aA_s_net_trans23_27 hs28
  clear aA_s_net_trans23_27
  have aA_s_signals23_28 := RA.to aA_s_signals23_27 hs28
  clear aA_s_signals23_27
  have aA_s_labels23_28 := RA.to aA_s_labels23_27 hs28
  clear aA_s_labels23_27
  have aA_l24_28 := RA.to aA_l24_27 hs28
  clear aA_l24_27
  have aA_d25_28 := RA.to aA_d25_27 hs28
  clear aA_d25_27
  have ho5_0_28 := Own.to ho5_0_27 hs28
  clear ho5_0_27
  have ho26_0_28 := Own.to ho26_0_27 hs28
  clear ho26_0_27
  clear hc28
  go_wp2_with fail
  go_ret
  exact ⟨rfl, HW28.out⟩
end Go.Proofs.YtnpbdphfjablbaaGreat.Lw
