/-
  FnExactEarliestRun: the law's own walk: it returns true, whatever its arguments. Printed by a program of this repo (lawwalk.py).
-/
import Derived.Test.YtnpbdphfjablbaaGreatRows
import Derived.Test.YtnpbdphfjablbaaGreatEarliestRunC
import Derived.Test.YtnpbdphfjablbaaGreatLawTs
import Derived.Test.YtnpbdphfjablbaaGreatMarkTs
namespace Go.Proofs.YtnpbdphfjablbaaGreat.Lw
open Go.RowKit
set_option linter.unusedVariables false

set_option maxHeartbeats 4000000 in
set_option maxRecDepth 20000 in
theorem law_EarliestRun (s : STG) (l : List (Dl)) (n : Int) (A_s_net_trans : Option Addr) (c_s_net_trans : Nat) (A_s_signals : Option Addr) (c_s_signals : Nat) (A_s_labels : Option Addr) (c_s_labels : Nat) (A_l : Option Addr) (c_l : Nat) (w : World) (g0 : InI s.net.places) (g1 : (s.net.trans).length ≤ c_s_net_trans) (g2 : c_s_net_trans ≤ 9223372036854775807) (g3 : RA shTr w A_s_net_trans s.net.trans) (g4 : (s.signals).length ≤ c_s_signals) (g5 : c_s_signals ≤ 9223372036854775807) (g6 : RA shSig w A_s_signals s.signals) (g7 : (s.labels).length ≤ c_s_labels) (g8 : c_s_labels ≤ 9223372036854775807) (g9 : RA shLab w A_s_labels s.labels) (g10 : (s.start).length ≤ 9223372036854775807) (g11 : (l).length ≤ c_l) (g12 : c_l ≤ 9223372036854775807) (g13 : RA shDl w A_l l) (g14 : InI n) :
    Calls Tryz.prog 3 #[.agg #[.int .i64 s.net.places, .slice A_s_net_trans (s.net.trans).length c_s_net_trans, .slice A_s_signals (s.signals).length c_s_signals, .slice A_s_labels (s.labels).length c_s_labels, .string ⟨(s.start).toArray⟩], .slice A_l (l).length c_l, .int .i64 n] w fun e w' => e = .returned (.bool true) ∧ Below w.heap.size w w' := by
  obtain ⟨R, hR⟩ : ∃ R, erP s l n = R := ⟨_, rfl⟩
  have hRb := erP_len s l n
  rw [hR] at hRb
  have HR := hide hR; clear hR
  go_enter Tryz.func3, Tryz.ntmps3
  go_wp2_with fail
  refine (szSTG s A_s_net_trans c_s_net_trans A_s_signals c_s_signals A_s_labels c_s_labels (1048576) _ g1 g2 (RA.to g3 (by (repeat' (first | (with_reducible exact Below.refl _ _) | (with_reducible assumption) | (with_reducible refine below_drewN' ?_ _) | (with_reducible refine Below.drew ?_) | (with_reducible refine Below.alloc ?_ ?_ _) | (with_reducible refine Below.setCell ?_ ?_ _) | (with_reducible refine Below.then_ ?_ (by assumption) ?_) | go_size)))) g4 g5 (RA.to g6 (by (repeat' (first | (with_reducible exact Below.refl _ _) | (with_reducible assumption) | (with_reducible refine below_drewN' ?_ _) | (with_reducible refine Below.drew ?_) | (with_reducible refine Below.alloc ?_ ?_ _) | (with_reducible refine Below.setCell ?_ ?_ _) | (with_reducible refine Below.then_ ?_ (by assumption) ?_) | go_size)))) g7 g8 (RA.to g9 (by (repeat' (first | (with_reducible exact Below.refl _ _) | (with_reducible assumption) | (with_reducible refine below_drewN' ?_ _) | (with_reducible refine Below.drew ?_) | (with_reducible refine Below.alloc ?_ ?_ _) | (with_reducible refine Below.setCell ?_ ?_ _) | (with_reducible refine Below.then_ ?_ (by assumption) ?_) | go_size)))) g10 (by omega) (by omega)).mono ?_
  rintro e w1 ⟨rfl, hb1⟩
  have HW1 : Hid (Below w.heap.size w w1) := hide (by (repeat' (first | (with_reducible exact Below.refl _ _) | (with_reducible assumption) | (with_reducible refine below_drewN' ?_ _) | (with_reducible refine Below.drew ?_) | (with_reducible refine Below.alloc ?_ ?_ _) | (with_reducible refine Below.setCell ?_ ?_ _) | (with_reducible refine Below.then_ ?_ (by assumption) ?_) | go_size)))
  obtain ⟨hc1, _⟩ := bcell hb1
  have hz1 := hb1.size
  repeat rw [World.size_alloc] at hz1
  have l1_0 : w.heap.size < w1.heap.size := by omega
  have t1_0_0 : w1.cell? ⟨w.heap.size, 0, none⟩ = some (.int .i64 s.net.places) := by rw [hc1 _ _ (by first | omega | (repeat rw [World.size_alloc]); omega)]; simp [go_sem]
  have t1_0_1 : w1.cell? ⟨w.heap.size, 1, none⟩ = some (.slice A_s_net_trans (s.net.trans).length c_s_net_trans) := by rw [hc1 _ _ (by first | omega | (repeat rw [World.size_alloc]); omega)]; simp [go_sem]
  have t1_0_2 : w1.cell? ⟨w.heap.size, 2, none⟩ = some (.slice A_s_signals (s.signals).length c_s_signals) := by rw [hc1 _ _ (by first | omega | (repeat rw [World.size_alloc]); omega)]; simp [go_sem]
  have t1_0_3 : w1.cell? ⟨w.heap.size, 3, none⟩ = some (.slice A_s_labels (s.labels).length c_s_labels) := by rw [hc1 _ _ (by first | omega | (repeat rw [World.size_alloc]); omega)]; simp [go_sem]
  have t1_0_4 : w1.cell? ⟨w.heap.size, 4, none⟩ = some (.string ⟨(s.start).toArray⟩) := by rw [hc1 _ _ (by first | omega | (repeat rw [World.size_alloc]); omega)]; simp [go_sem]
  clear hc1
  by_cases q_s : (1048576 : Int) < ((wtSTG s) : Nat)
  · rw [szRes_neg q_s]
    go_wp2_with fail
    go_ret
    exact ⟨rfl, HW1.out⟩
  rw [szRes_pos q_s]
  have qq_s : ((wtSTG s) : Nat) ≤ 1048576 := by omega
  go_wp2_with fail
  refine (szDelayBoundsS A_l (l).length c_l (1048576 - ((wtSTG s) : Nat)) _ (by omega) (by omega) (by omega)).mono ?_
  rintro e wS ⟨rfl, hwS⟩
  rw [hwS]
  clear hwS
  by_cases q_l : (1048576 - ((wtSTG s) : Nat) : Int) < ((l).length : Nat)
  · rw [szRes_neg q_l]
    go_wp2_with fail
    go_ret
    exact ⟨rfl, HW1.out⟩
  rw [szRes_pos q_l]
  have qq_l : ((l).length : Nat) ≤ 1048576 := by omega
  have qs_s := qq_s
  unfold wtSTG at qs_s
  go_wp2_with fail
  refine (toSTG s A_s_net_trans c_s_net_trans A_s_signals c_s_signals A_s_labels c_s_labels _ g1 g2 (RA.to g3 HW1.out) g4 g5 (RA.to g6 HW1.out) g7 g8 (RA.to g9 HW1.out) g10 qq_s).mono ?_
  rintro e w2 ⟨A_s_net_trans2, A_s_signals2, A_s_labels2, rfl, rA_s_net_trans2, rA_s_signals2, rA_s_labels2, hb2, fz2⟩
  have hs2 : Below w1.heap.size w1 w2 := hb2
  have HW2 : Hid (Below w.heap.size w w2) := hide (HW1.out.trans (hs2.mono HW1.out.size))
  obtain ⟨hc2, _⟩ := bcell hb2
  have hz2 := hb2.size
  repeat rw [World.size_alloc] at hz2
  have l2_0 : w.heap.size < w2.heap.size := by omega
  have t2_0_0 : w2.cell? ⟨w.heap.size, 0, none⟩ = some (.int .i64 s.net.places) := (hc2 _ _ (by omega)).trans t1_0_0
  have t2_0_1 : w2.cell? ⟨w.heap.size, 1, none⟩ = some (.slice A_s_net_trans (s.net.trans).length c_s_net_trans) := (hc2 _ _ (by omega)).trans t1_0_1
  have t2_0_2 : w2.cell? ⟨w.heap.size, 2, none⟩ = some (.slice A_s_signals (s.signals).length c_s_signals) := (hc2 _ _ (by omega)).trans t1_0_2
  have t2_0_3 : w2.cell? ⟨w.heap.size, 3, none⟩ = some (.slice A_s_labels (s.labels).length c_s_labels) := (hc2 _ _ (by omega)).trans t1_0_3
  have t2_0_4 : w2.cell? ⟨w.heap.size, 4, none⟩ = some (.string ⟨(s.start).toArray⟩) := (hc2 _ _ (by omega)).trans t1_0_4
  clear t1_0_0
  clear t1_0_1
  clear t1_0_2
  clear t1_0_3
  clear t1_0_4
  clear hc2
  have aA_s_net_trans2 : RA shTr w2 A_s_net_trans2 s.net.trans := (rA_s_net_trans2).mono fun b hb => hb.2
  have aA_s_signals2 : RA shSig w2 A_s_signals2 s.signals := (rA_s_signals2).mono fun b hb => hb.2
  have aA_s_labels2 : RA shLab w2 A_s_labels2 s.labels := (rA_s_labels2).mono fun b hb => hb.2
  go_wp2_with fail
  refine (toDelayBoundsS A_l c_l l _ qq_l (RA.to g13 HW2.out)).mono ?_
  rintro e w3 ⟨A_l3, rfl, rA_l3, hb3, fz3⟩
  have hs3 : Below w2.heap.size w2 w3 := hb3
  have HW3 : Hid (Below w.heap.size w w3) := hide (HW2.out.trans (hs3.mono HW2.out.size))
  obtain ⟨hc3, _⟩ := bcell hb3
  have hz3 := hb3.size
  repeat rw [World.size_alloc] at hz3
  have l3_0 : w.heap.size < w3.heap.size := by omega
  have t3_0_0 : w3.cell? ⟨w.heap.size, 0, none⟩ = some (.int .i64 s.net.places) := (hc3 _ _ (by omega)).trans t2_0_0
  have t3_0_1 : w3.cell? ⟨w.heap.size, 1, none⟩ = some (.slice A_s_net_trans (s.net.trans).length c_s_net_trans) := (hc3 _ _ (by omega)).trans t2_0_1
  have t3_0_2 : w3.cell? ⟨w.heap.size, 2, none⟩ = some (.slice A_s_signals (s.signals).length c_s_signals) := (hc3 _ _ (by omega)).trans t2_0_2
  have t3_0_3 : w3.cell? ⟨w.heap.size, 3, none⟩ = some (.slice A_s_labels (s.labels).length c_s_labels) := (hc3 _ _ (by omega)).trans t2_0_3
  have t3_0_4 : w3.cell? ⟨w.heap.size, 4, none⟩ = some (.string ⟨(s.start).toArray⟩) := (hc3 _ _ (by omega)).trans t2_0_4
  clear t2_0_0
  clear t2_0_1
  clear t2_0_2
  clear t2_0_3
  clear t2_0_4
  have aA_s_net_trans2_3 := RA.to aA_s_net_trans2 hs3
  clear aA_s_net_trans2
  have aA_s_signals2_3 := RA.to aA_s_signals2 hs3
  clear aA_s_signals2
  have aA_s_labels2_3 := RA.to aA_s_labels2 hs3
  clear aA_s_labels2
  clear hc3
  have aA_l3 : RA shDl w3 A_l3 l := (rA_l3).mono fun b hb => hb.2
  go_wp2_with fail
  refine (spec_EarliestRun s l n A_s_net_trans2 (s.net.trans).length A_s_signals2 (s.signals).length A_s_labels2 (s.labels).length A_l3 (l).length _ g0 (Nat.le_refl _) (by omega) (RA.to aA_s_net_trans2_3 (Below.refl _ _)) (Nat.le_refl _) (by omega) (RA.to aA_s_signals2_3 (Below.refl _ _)) (Nat.le_refl _) (by omega) (RA.to aA_s_labels2_3 (Below.refl _ _)) g10 (Nat.le_refl _) (by omega) (RA.to aA_l3 (Below.refl _ _)) g14).mono ?_
  rintro e w4 ⟨A4_0, c4_0, rfl, ho4_0, hb4⟩
  have hs4 : Below w3.heap.size w3 w4 := hb4
  have HW4 : Hid (Below w.heap.size w w4) := hide (HW3.out.trans (hs4.mono HW3.out.size))
  obtain ⟨hc4, _⟩ := bcell hb4
  have hz4 := hb4.size
  repeat rw [World.size_alloc] at hz4
  have l4_0 : w.heap.size < w4.heap.size := by omega
  have t4_0_0 : w4.cell? ⟨w.heap.size, 0, none⟩ = some (.int .i64 s.net.places) := (hc4 _ _ (by omega)).trans t3_0_0
  have t4_0_1 : w4.cell? ⟨w.heap.size, 1, none⟩ = some (.slice A_s_net_trans (s.net.trans).length c_s_net_trans) := (hc4 _ _ (by omega)).trans t3_0_1
  have t4_0_2 : w4.cell? ⟨w.heap.size, 2, none⟩ = some (.slice A_s_signals (s.signals).length c_s_signals) := (hc4 _ _ (by omega)).trans t3_0_2
  have t4_0_3 : w4.cell? ⟨w.heap.size, 3, none⟩ = some (.slice A_s_labels (s.labels).length c_s_labels) := (hc4 _ _ (by omega)).trans t3_0_3
  have t4_0_4 : w4.cell? ⟨w.heap.size, 4, none⟩ = some (.string ⟨(s.start).toArray⟩) := (hc4 _ _ (by omega)).trans t3_0_4
  clear t3_0_0
  clear t3_0_1
  clear t3_0_2
  clear t3_0_3
  clear t3_0_4
  have aA_s_net_trans2_4 := RA.to aA_s_net_trans2_3 hs4
  clear aA_s_net_trans2_3
  have aA_s_signals2_4 := RA.to aA_s_signals2_3 hs4
  clear aA_s_signals2_3
  have aA_s_labels2_4 := RA.to aA_s_labels2_3 hs4
  clear aA_s_labels2_3
  have aA_l3_4 := RA.to aA_l3 hs4
  clear aA_l3
  clear hc4
  rw [HR.out] at ho4_0
  have hlt4_0 := ho4_0.lt
  rw [HR.out]
  go_wp2_with fail
  refine (toSTG s A_s_net_trans c_s_net_trans A_s_signals c_s_signals A_s_labels c_s_labels _ g1 g2 (RA.to g3 HW4.out) g4 g5 (RA.to g6 HW4.out) g7 g8 (RA.to g9 HW4.out) g10 qq_s).mono ?_
  rintro e w5 ⟨A_s_net_trans5, A_s_signals5, A_s_labels5, rfl, rA_s_net_trans5, rA_s_signals5, rA_s_labels5, hb5, fz5⟩
  have hs5 : Below w4.heap.size w4 w5 := hb5
  have HW5 : Hid (Below w.heap.size w w5) := hide (HW4.out.trans (hs5.mono HW4.out.size))
  obtain ⟨hc5, _⟩ := bcell hb5
  have hz5 := hb5.size
  repeat rw [World.size_alloc] at hz5
  have l5_0 : w.heap.size < w5.heap.size := by omega
  have t5_0_0 : w5.cell? ⟨w.heap.size, 0, none⟩ = some (.int .i64 s.net.places) := (hc5 _ _ (by omega)).trans t4_0_0
  have t5_0_1 : w5.cell? ⟨w.heap.size, 1, none⟩ = some (.slice A_s_net_trans (s.net.trans).length c_s_net_trans) := (hc5 _ _ (by omega)).trans t4_0_1
  have t5_0_2 : w5.cell? ⟨w.heap.size, 2, none⟩ = some (.slice A_s_signals (s.signals).length c_s_signals) := (hc5 _ _ (by omega)).trans t4_0_2
  have t5_0_3 : w5.cell? ⟨w.heap.size, 3, none⟩ = some (.slice A_s_labels (s.labels).length c_s_labels) := (hc5 _ _ (by omega)).trans t4_0_3
  have t5_0_4 : w5.cell? ⟨w.heap.size, 4, none⟩ = some (.string ⟨(s.start).toArray⟩) := (hc5 _ _ (by omega)).trans t4_0_4
  clear t4_0_0
  clear t4_0_1
  clear t4_0_2
  clear t4_0_3
  clear t4_0_4
  have ho4_0_5 := Own.to ho4_0 hs5
  clear ho4_0
  clear hc5
  have aA_s_net_trans5 : RA shTr w5 A_s_net_trans5 s.net.trans := (rA_s_net_trans5).mono fun b hb => hb.2
  have aA_s_signals5 : RA shSig w5 A_s_signals5 s.signals := (rA_s_signals5).mono fun b hb => hb.2
  have aA_s_labels5 : RA shLab w5 A_s_labels5 s.labels := (rA_s_labels5).mono fun b hb => hb.2
  have hlo_s : w.heap.size ≤ w4.heap.size := HW4.out.size
  go_wp2_with fail
  refine (toDelayBoundsS A_l c_l l _ qq_l (RA.to g13 (HW5.out.alloc HW5.out.size _))).mono ?_
  rintro e w6 ⟨A_l6, rfl, rA_l6, hb6, fz6⟩
  have hs6 : Below w5.heap.size w5 w6 := ((Below.refl _ _).alloc (Nat.le_refl _) _).trans (hb6.mono (by rw [World.size_alloc]; omega))
  have HW6 : Hid (Below w.heap.size w w6) := hide (HW5.out.trans (hs6.mono HW5.out.size))
  obtain ⟨hc6, _⟩ := bcell hb6
  have hz6 := hb6.size
  repeat rw [World.size_alloc] at hz6
  have l6_0 : w.heap.size < w6.heap.size := by omega
  have t6_0_0 : w6.cell? ⟨w.heap.size, 0, none⟩ = some (.int .i64 s.net.places) := (hc6 _ _ (by rw [World.size_alloc]; omega)).trans (by rw [World.cell?_alloc_past _ _ _ (by omega)]; exact t5_0_0)
  have t6_0_1 : w6.cell? ⟨w.heap.size, 1, none⟩ = some (.slice A_s_net_trans (s.net.trans).length c_s_net_trans) := (hc6 _ _ (by rw [World.size_alloc]; omega)).trans (by rw [World.cell?_alloc_past _ _ _ (by omega)]; exact t5_0_1)
  have t6_0_2 : w6.cell? ⟨w.heap.size, 2, none⟩ = some (.slice A_s_signals (s.signals).length c_s_signals) := (hc6 _ _ (by rw [World.size_alloc]; omega)).trans (by rw [World.cell?_alloc_past _ _ _ (by omega)]; exact t5_0_2)
  have t6_0_3 : w6.cell? ⟨w.heap.size, 3, none⟩ = some (.slice A_s_labels (s.labels).length c_s_labels) := (hc6 _ _ (by rw [World.size_alloc]; omega)).trans (by rw [World.cell?_alloc_past _ _ _ (by omega)]; exact t5_0_3)
  have t6_0_4 : w6.cell? ⟨w.heap.size, 4, none⟩ = some (.string ⟨(s.start).toArray⟩) := (hc6 _ _ (by rw [World.size_alloc]; omega)).trans (by rw [World.cell?_alloc_past _ _ _ (by omega)]; exact t5_0_4)
  have l6_1 : w5.heap.size < w6.heap.size := by omega
  have t6_1_0 : w6.cell? ⟨w5.heap.size, 0, none⟩ = some (.int .i64 s.net.places) := by rw [hc6 _ _ (by first | omega | (repeat rw [World.size_alloc]); omega)]; simp [go_sem]
  have t6_1_1 : w6.cell? ⟨w5.heap.size, 1, none⟩ = some (.slice A_s_net_trans5 (s.net.trans).length (s.net.trans).length) := by rw [hc6 _ _ (by first | omega | (repeat rw [World.size_alloc]); omega)]; simp [go_sem]
  have t6_1_2 : w6.cell? ⟨w5.heap.size, 2, none⟩ = some (.slice A_s_signals5 (s.signals).length (s.signals).length) := by rw [hc6 _ _ (by first | omega | (repeat rw [World.size_alloc]); omega)]; simp [go_sem]
  have t6_1_3 : w6.cell? ⟨w5.heap.size, 3, none⟩ = some (.slice A_s_labels5 (s.labels).length (s.labels).length) := by rw [hc6 _ _ (by first | omega | (repeat rw [World.size_alloc]); omega)]; simp [go_sem]
  have t6_1_4 : w6.cell? ⟨w5.heap.size, 4, none⟩ = some (.string ⟨(s.start).toArray⟩) := by rw [hc6 _ _ (by first | omega | (repeat rw [World.size_alloc]); omega)]; simp [go_sem]
  clear t5_0_0
  clear t5_0_1
  clear t5_0_2
  clear t5_0_3
  clear t5_0_4
  have aA_s_net_trans5_6 := RA.to aA_s_net_trans5 hs6
  clear aA_s_net_trans5
  have aA_s_signals5_6 := RA.to aA_s_signals5 hs6
  clear aA_s_signals5
  have aA_s_labels5_6 := RA.to aA_s_labels5 hs6
  clear aA_s_labels5
  have HXs_6 : Hid (Below w5.heap.size w5 w6) := hide hs6
  have ho4_0_6 := Own.to ho4_0_5 hs6
  clear ho4_0_5
  clear hc6
  have aA_l6 : RA shDl w6 A_l6 l := (rA_l6).mono fun b hb => hb.2
  have hlo_l : w.heap.size ≤ w5.heap.size := HW5.out.size
  go_wp2_with fail
  refine (impl_EarliestRun s l n A_s_net_trans5 (s.net.trans).length A_s_signals5 (s.signals).length A_s_labels5 (s.labels).length A_l6 (l).length _ g0 (Nat.le_refl _) (by omega) (RA.to aA_s_net_trans5_6 (Below.refl _ _)) (Nat.le_refl _) (by omega) (RA.to aA_s_signals5_6 (Below.refl _ _)) (Nat.le_refl _) (by omega) (RA.to aA_s_labels5_6 (Below.refl _ _)) g10 (Nat.le_refl _) (by omega) (RA.to aA_l6 (Below.refl _ _)) g14).mono ?_
  rintro e w7 ⟨A7_0, c7_0, rfl, ho7_0, hb7⟩
  have hs7 : Below w6.heap.size w6 w7 := hb7
  have HW7 : Hid (Below w.heap.size w w7) := hide (HW6.out.trans (hs7.mono HW6.out.size))
  obtain ⟨hc7, _⟩ := bcell hb7
  have hz7 := hb7.size
  repeat rw [World.size_alloc] at hz7
  have l7_0 : w.heap.size < w7.heap.size := by omega
  have t7_0_0 : w7.cell? ⟨w.heap.size, 0, none⟩ = some (.int .i64 s.net.places) := (hc7 _ _ (by omega)).trans t6_0_0
  have t7_0_1 : w7.cell? ⟨w.heap.size, 1, none⟩ = some (.slice A_s_net_trans (s.net.trans).length c_s_net_trans) := (hc7 _ _ (by omega)).trans t6_0_1
  have t7_0_2 : w7.cell? ⟨w.heap.size, 2, none⟩ = some (.slice A_s_signals (s.signals).length c_s_signals) := (hc7 _ _ (by omega)).trans t6_0_2
  have t7_0_3 : w7.cell? ⟨w.heap.size, 3, none⟩ = some (.slice A_s_labels (s.labels).length c_s_labels) := (hc7 _ _ (by omega)).trans t6_0_3
  have t7_0_4 : w7.cell? ⟨w.heap.size, 4, none⟩ = some (.string ⟨(s.start).toArray⟩) := (hc7 _ _ (by omega)).trans t6_0_4
  have l7_1 : w5.heap.size < w7.heap.size := by omega
  have t7_1_0 : w7.cell? ⟨w5.heap.size, 0, none⟩ = some (.int .i64 s.net.places) := (hc7 _ _ (by omega)).trans t6_1_0
  have t7_1_1 : w7.cell? ⟨w5.heap.size, 1, none⟩ = some (.slice A_s_net_trans5 (s.net.trans).length (s.net.trans).length) := (hc7 _ _ (by omega)).trans t6_1_1
  have t7_1_2 : w7.cell? ⟨w5.heap.size, 2, none⟩ = some (.slice A_s_signals5 (s.signals).length (s.signals).length) := (hc7 _ _ (by omega)).trans t6_1_2
  have t7_1_3 : w7.cell? ⟨w5.heap.size, 3, none⟩ = some (.slice A_s_labels5 (s.labels).length (s.labels).length) := (hc7 _ _ (by omega)).trans t6_1_3
  have t7_1_4 : w7.cell? ⟨w5.heap.size, 4, none⟩ = some (.string ⟨(s.start).toArray⟩) := (hc7 _ _ (by omega)).trans t6_1_4
  clear t6_0_0
  clear t6_0_1
  clear t6_0_2
  clear t6_0_3
  clear t6_0_4
  clear t6_1_0
  clear t6_1_1
  clear t6_1_2
  clear t6_1_3
  clear t6_1_4
  have aA_s_net_trans5_7 := RA.to aA_s_net_trans5_6 hs7
  clear aA_s_net_trans5_6
  have aA_s_signals5_7 := RA.to aA_s_signals5_6 hs7
  clear aA_s_signals5_6
  have aA_s_labels5_7 := RA.to aA_s_labels5_6 hs7
  clear aA_s_labels5_6
  have aA_l6_7 := RA.to aA_l6 hs7
  clear aA_l6
  have HXs_7 : Hid (Below w5.heap.size w5 w7) := hide (HXs_6.out.trans (hs7.mono HXs_6.out.size))
  clear HXs_6
  have HXl_7 : Hid (Below w6.heap.size w6 w7) := hide hs7
  have ho4_0_7 := Own.to ho4_0_6 hs7
  clear ho4_0_6
  clear hc7
  rw [HR.out] at ho7_0
  have hlt7_0 := ho7_0.lt
  rw [HR.out]
  go_wp2_with fail
  refine (eqTimedFiringS A7_0 A4_0 c7_0 c4_0 R.1 _ (by omega) (RA.to ho7_0.ra (Below.refl _ _)) (RA.to ho4_0_7.ra (Below.refl _ _))).mono ?_
  rintro e w8 ⟨rfl, hb8⟩
  have hs8 : Below w7.heap.size w7 w8 := hb8
  have HW8 : Hid (Below w.heap.size w w8) := hide (HW7.out.trans (hs8.mono HW7.out.size))
  obtain ⟨hc8, _⟩ := bcell hb8
  have hz8 := hb8.size
  repeat rw [World.size_alloc] at hz8
  have l8_0 : w.heap.size < w8.heap.size := by omega
  have t8_0_0 : w8.cell? ⟨w.heap.size, 0, none⟩ = some (.int .i64 s.net.places) := (hc8 _ _ (by omega)).trans t7_0_0
  have t8_0_1 : w8.cell? ⟨w.heap.size, 1, none⟩ = some (.slice A_s_net_trans (s.net.trans).length c_s_net_trans) := (hc8 _ _ (by omega)).trans t7_0_1
  have t8_0_2 : w8.cell? ⟨w.heap.size, 2, none⟩ = some (.slice A_s_signals (s.signals).length c_s_signals) := (hc8 _ _ (by omega)).trans t7_0_2
  have t8_0_3 : w8.cell? ⟨w.heap.size, 3, none⟩ = some (.slice A_s_labels (s.labels).length c_s_labels) := (hc8 _ _ (by omega)).trans t7_0_3
  have t8_0_4 : w8.cell? ⟨w.heap.size, 4, none⟩ = some (.string ⟨(s.start).toArray⟩) := (hc8 _ _ (by omega)).trans t7_0_4
  have l8_1 : w5.heap.size < w8.heap.size := by omega
  have t8_1_0 : w8.cell? ⟨w5.heap.size, 0, none⟩ = some (.int .i64 s.net.places) := (hc8 _ _ (by omega)).trans t7_1_0
  have t8_1_1 : w8.cell? ⟨w5.heap.size, 1, none⟩ = some (.slice A_s_net_trans5 (s.net.trans).length (s.net.trans).length) := (hc8 _ _ (by omega)).trans t7_1_1
  have t8_1_2 : w8.cell? ⟨w5.heap.size, 2, none⟩ = some (.slice A_s_signals5 (s.signals).length (s.signals).length) := (hc8 _ _ (by omega)).trans t7_1_2
  have t8_1_3 : w8.cell? ⟨w5.heap.size, 3, none⟩ = some (.slice A_s_labels5 (s.labels).length (s.labels).length) := (hc8 _ _ (by omega)).trans t7_1_3
  have t8_1_4 : w8.cell? ⟨w5.heap.size, 4, none⟩ = some (.string ⟨(s.start).toArray⟩) := (hc8 _ _ (by omega)).trans t7_1_4
  clear t7_0_0
  clear t7_0_1
  clear t7_0_2
  clear t7_0_3
  clear t7_0_4
  clear t7_1_0
  clear t7_1_1
  clear t7_1_2
  clear t7_1_3
  clear t7_1_4
  have aA_s_net_trans5_8 := RA.to aA_s_net_trans5_7 hs8
  clear aA_s_net_trans5_7
  have aA_s_signals5_8 := RA.to aA_s_signals5_7 hs8
  clear aA_s_signals5_7
  have aA_s_labels5_8 := RA.to aA_s_labels5_7 hs8
  clear aA_s_labels5_7
  have aA_l6_8 := RA.to aA_l6_7 hs8
  clear aA_l6_7
  have HXs_8 : Hid (Below w5.heap.size w5 w8) := hide (HXs_7.out.trans (hs8.mono HXs_7.out.size))
  clear HXs_7
  have HXl_8 : Hid (Below w6.heap.size w6 w8) := hide (HXl_7.out.trans (hs8.mono HXl_7.out.size))
  clear HXl_7
  have ho4_0_8 := Own.to ho4_0_7 hs8
  clear ho4_0_7
  have ho7_0_8 := Own.to ho7_0 hs8
  clear ho7_0
  clear hc8
  go_wp2_with fail
  go_region_held3 (fun W => W.cell? ⟨w5.heap.size, 0, none⟩ = some (.int .i64 s.net.places) ∧ W.cell? ⟨w5.heap.size, 1, none⟩ = some (.slice A_s_net_trans5 (s.net.trans).length (s.net.trans).length) ∧ W.cell? ⟨w5.heap.size, 2, none⟩ = some (.slice A_s_signals5 (s.signals).length (s.signals).length) ∧ W.cell? ⟨w5.heap.size, 3, none⟩ = some (.slice A_s_labels5 (s.labels).length (s.labels).length) ∧ W.cell? ⟨w5.heap.size, 4, none⟩ = some (.string ⟨(s.start).toArray⟩) ∧ W.cell? ⟨w.heap.size, 0, none⟩ = some (.int .i64 s.net.places) ∧ W.cell? ⟨w.heap.size, 1, none⟩ = some (.slice A_s_net_trans (s.net.trans).length c_s_net_trans) ∧ W.cell? ⟨w.heap.size, 2, none⟩ = some (.slice A_s_signals (s.signals).length c_s_signals) ∧ W.cell? ⟨w.heap.size, 3, none⟩ = some (.slice A_s_labels (s.labels).length c_s_labels) ∧ W.cell? ⟨w.heap.size, 4, none⟩ = some (.string ⟨(s.start).toArray⟩)) (first | exact ⟨t8_1_0, t8_1_1, t8_1_2, t8_1_3, t8_1_4, t8_0_0, t8_0_1, t8_0_2, t8_0_3, t8_0_4⟩ | exact ⟨(cell_later hb9 t8_1_0), (cell_later hb9 t8_1_1), (cell_later hb9 t8_1_2), (cell_later hb9 t8_1_3), (cell_later hb9 t8_1_4), (cell_later hb9 t8_0_0), (cell_later hb9 t8_0_1), (cell_later hb9 t8_0_2), (cell_later hb9 t8_0_3), (cell_later hb9 t8_0_4)⟩ | exact ⟨(cell_later hb10 (cell_later hb9 t8_1_0)), (cell_later hb10 (cell_later hb9 t8_1_1)), (cell_later hb10 (cell_later hb9 t8_1_2)), (cell_later hb10 (cell_later hb9 t8_1_3)), (cell_later hb10 (cell_later hb9 t8_1_4)), (cell_later hb10 (cell_later hb9 t8_0_0)), (cell_later hb10 (cell_later hb9 t8_0_1)), (cell_later hb10 (cell_later hb9 t8_0_2)), (cell_later hb10 (cell_later hb9 t8_0_3)), (cell_later hb10 (cell_later hb9 t8_0_4))⟩) (first | (go_at_call 8; refine (toSTG s A_s_net_trans c_s_net_trans A_s_signals c_s_signals A_s_labels c_s_labels _ g1 g2 (RA.to g3 HW8.out.drew) g4 g5 (RA.to g6 HW8.out.drew) g7 g8 (RA.to g9 HW8.out.drew) g10 qq_s).mono ?_; rintro e w9 ⟨A_s_net_trans9, A_s_signals9, A_s_labels9, rfl, rA_s_net_trans9, rA_s_signals9, rA_s_labels9, hb9, fz9⟩) | (go_at_call 12; refine (eqSTG s A_s_net_trans5 (s.net.trans).length A_s_signals5 (s.signals).length A_s_labels5 (s.labels).length A_s_net_trans9 (s.net.trans).length A_s_signals9 (s.signals).length A_s_labels9 (s.labels).length _  (Nat.le_refl _) (by omega) (RA.to aA_s_net_trans5_8 (Below.trans (Below.drew (Below.refl _ _)) hb9)) (Nat.le_refl _) (by omega) (RA.to aA_s_signals5_8 (Below.trans (Below.drew (Below.refl _ _)) hb9)) (Nat.le_refl _) (by omega) (RA.to aA_s_labels5_8 (Below.trans (Below.drew (Below.refl _ _)) hb9)) g10 (Nat.le_refl _) (by omega) ((rA_s_net_trans9).mono fun b hb => hb.2) (Nat.le_refl _) (by omega) ((rA_s_signals9).mono fun b hb => hb.2) (Nat.le_refl _) (by omega) ((rA_s_labels9).mono fun b hb => hb.2)).mono ?_; rintro e w10 ⟨rfl, hb10⟩))
  have hs10 : Below w8.heap.size w8 w10 := (Below.drew (Below.refl _ _)).trans (hb9.trans (hb10.mono hb9.size))
  have HW10 : Hid (Below w.heap.size w w10) := hide (HW8.out.trans (hs10.mono HW8.out.size))
  have hz10 : w8.heap.size ≤ w10.heap.size := Nat.le_trans hb9.size hb10.size
  have l10_0 : w.heap.size < w10.heap.size := by omega
  have t10_0_0 : w10.cell? ⟨w.heap.size, 0, none⟩ = some (.int .i64 s.net.places) := cell_later hb10 (cell_later hb9 t8_0_0)
  clear t8_0_0
  have t10_0_1 : w10.cell? ⟨w.heap.size, 1, none⟩ = some (.slice A_s_net_trans (s.net.trans).length c_s_net_trans) := cell_later hb10 (cell_later hb9 t8_0_1)
  clear t8_0_1
  have t10_0_2 : w10.cell? ⟨w.heap.size, 2, none⟩ = some (.slice A_s_signals (s.signals).length c_s_signals) := cell_later hb10 (cell_later hb9 t8_0_2)
  clear t8_0_2
  have t10_0_3 : w10.cell? ⟨w.heap.size, 3, none⟩ = some (.slice A_s_labels (s.labels).length c_s_labels) := cell_later hb10 (cell_later hb9 t8_0_3)
  clear t8_0_3
  have t10_0_4 : w10.cell? ⟨w.heap.size, 4, none⟩ = some (.string ⟨(s.start).toArray⟩) := cell_later hb10 (cell_later hb9 t8_0_4)
  clear t8_0_4
  have l10_1 : w5.heap.size < w10.heap.size := by omega
  have t10_1_0 : w10.cell? ⟨w5.heap.size, 0, none⟩ = some (.int .i64 s.net.places) := cell_later hb10 (cell_later hb9 t8_1_0)
  clear t8_1_0
  have t10_1_1 : w10.cell? ⟨w5.heap.size, 1, none⟩ = some (.slice A_s_net_trans5 (s.net.trans).length (s.net.trans).length) := cell_later hb10 (cell_later hb9 t8_1_1)
  clear t8_1_1
  have t10_1_2 : w10.cell? ⟨w5.heap.size, 2, none⟩ = some (.slice A_s_signals5 (s.signals).length (s.signals).length) := cell_later hb10 (cell_later hb9 t8_1_2)
  clear t8_1_2
  have t10_1_3 : w10.cell? ⟨w5.heap.size, 3, none⟩ = some (.slice A_s_labels5 (s.labels).length (s.labels).length) := cell_later hb10 (cell_later hb9 t8_1_3)
  clear t8_1_3
  have t10_1_4 : w10.cell? ⟨w5.heap.size, 4, none⟩ = some (.string ⟨(s.start).toArray⟩) := cell_later hb10 (cell_later hb9 t8_1_4)
  clear t8_1_4
  have aA_s_net_trans5_10 := RA.to aA_s_net_trans5_8 hs10
  clear aA_s_net_trans5_8
  have aA_s_signals5_10 := RA.to aA_s_signals5_8 hs10
  clear aA_s_signals5_8
  have aA_s_labels5_10 := RA.to aA_s_labels5_8 hs10
  clear aA_s_labels5_8
  have aA_l6_10 := RA.to aA_l6_8 hs10
  clear aA_l6_8
  have HXs_10 : Hid (Below w5.heap.size w5 w10) := hide (HXs_8.out.trans (hs10.mono HXs_8.out.size))
  clear HXs_8
  have HXl_10 : Hid (Below w6.heap.size w6 w10) := hide (HXl_8.out.trans (hs10.mono HXl_8.out.size))
  clear HXl_8
  have ho4_0_10 := Own.to ho4_0_8 hs10
  clear ho4_0_8
  have ho7_0_10 := Own.to ho7_0_8 hs10
  clear ho7_0_8
  go_wp2_with fail
  refine (toDelayBoundsS A_l c_l l _ qq_l (RA.to g13 HW10.out)).mono ?_
  rintro e w11 ⟨A_l11, rfl, rA_l11, hb11, fz11⟩
  have hs11 : Below w10.heap.size w10 w11 := hb11
  have HW11 : Hid (Below w.heap.size w w11) := hide (HW10.out.trans (hs11.mono HW10.out.size))
  obtain ⟨hc11, _⟩ := bcell hb11
  have hz11 := hb11.size
  repeat rw [World.size_alloc] at hz11
  have l11_0 : w.heap.size < w11.heap.size := by omega
  have t11_0_0 : w11.cell? ⟨w.heap.size, 0, none⟩ = some (.int .i64 s.net.places) := (hc11 _ _ (by omega)).trans t10_0_0
  have t11_0_1 : w11.cell? ⟨w.heap.size, 1, none⟩ = some (.slice A_s_net_trans (s.net.trans).length c_s_net_trans) := (hc11 _ _ (by omega)).trans t10_0_1
  have t11_0_2 : w11.cell? ⟨w.heap.size, 2, none⟩ = some (.slice A_s_signals (s.signals).length c_s_signals) := (hc11 _ _ (by omega)).trans t10_0_2
  have t11_0_3 : w11.cell? ⟨w.heap.size, 3, none⟩ = some (.slice A_s_labels (s.labels).length c_s_labels) := (hc11 _ _ (by omega)).trans t10_0_3
  have t11_0_4 : w11.cell? ⟨w.heap.size, 4, none⟩ = some (.string ⟨(s.start).toArray⟩) := (hc11 _ _ (by omega)).trans t10_0_4
  have l11_1 : w5.heap.size < w11.heap.size := by omega
  have t11_1_0 : w11.cell? ⟨w5.heap.size, 0, none⟩ = some (.int .i64 s.net.places) := (hc11 _ _ (by omega)).trans t10_1_0
  have t11_1_1 : w11.cell? ⟨w5.heap.size, 1, none⟩ = some (.slice A_s_net_trans5 (s.net.trans).length (s.net.trans).length) := (hc11 _ _ (by omega)).trans t10_1_1
  have t11_1_2 : w11.cell? ⟨w5.heap.size, 2, none⟩ = some (.slice A_s_signals5 (s.signals).length (s.signals).length) := (hc11 _ _ (by omega)).trans t10_1_2
  have t11_1_3 : w11.cell? ⟨w5.heap.size, 3, none⟩ = some (.slice A_s_labels5 (s.labels).length (s.labels).length) := (hc11 _ _ (by omega)).trans t10_1_3
  have t11_1_4 : w11.cell? ⟨w5.heap.size, 4, none⟩ = some (.string ⟨(s.start).toArray⟩) := (hc11 _ _ (by omega)).trans t10_1_4
  clear t10_0_0
  clear t10_0_1
  clear t10_0_2
  clear t10_0_3
  clear t10_0_4
  clear t10_1_0
  clear t10_1_1
  clear t10_1_2
  clear t10_1_3
  clear t10_1_4
  have aA_s_net_trans5_11 := RA.to aA_s_net_trans5_10 hs11
  clear aA_s_net_trans5_10
  have aA_s_signals5_11 := RA.to aA_s_signals5_10 hs11
  clear aA_s_signals5_10
  have aA_s_labels5_11 := RA.to aA_s_labels5_10 hs11
  clear aA_s_labels5_10
  have aA_l6_11 := RA.to aA_l6_10 hs11
  clear aA_l6_10
  have HXs_11 : Hid (Below w5.heap.size w5 w11) := hide (HXs_10.out.trans (hs11.mono HXs_10.out.size))
  clear HXs_10
  have HXl_11 : Hid (Below w6.heap.size w6 w11) := hide (HXl_10.out.trans (hs11.mono HXl_10.out.size))
  clear HXl_10
  have ho4_0_11 := Own.to ho4_0_10 hs11
  clear ho4_0_10
  have ho7_0_11 := Own.to ho7_0_10 hs11
  clear ho7_0_10
  clear hc11
  have aA_l11 : RA shDl w11 A_l11 l := (rA_l11).mono fun b hb => hb.2
  go_wp2_with fail
  refine (eqDelayBoundsS A_l6 A_l11 (l).length (l).length l _ (by omega) (RA.to aA_l6_11 (Below.refl _ _)) (RA.to aA_l11 (Below.refl _ _))).mono ?_
  rintro e w12 ⟨rfl, hb12⟩
  have hs12 : Below w11.heap.size w11 w12 := hb12
  have HW12 : Hid (Below w.heap.size w w12) := hide (HW11.out.trans (hs12.mono HW11.out.size))
  obtain ⟨hc12, _⟩ := bcell hb12
  have hz12 := hb12.size
  repeat rw [World.size_alloc] at hz12
  have l12_0 : w.heap.size < w12.heap.size := by omega
  have t12_0_0 : w12.cell? ⟨w.heap.size, 0, none⟩ = some (.int .i64 s.net.places) := (hc12 _ _ (by omega)).trans t11_0_0
  have t12_0_1 : w12.cell? ⟨w.heap.size, 1, none⟩ = some (.slice A_s_net_trans (s.net.trans).length c_s_net_trans) := (hc12 _ _ (by omega)).trans t11_0_1
  have t12_0_2 : w12.cell? ⟨w.heap.size, 2, none⟩ = some (.slice A_s_signals (s.signals).length c_s_signals) := (hc12 _ _ (by omega)).trans t11_0_2
  have t12_0_3 : w12.cell? ⟨w.heap.size, 3, none⟩ = some (.slice A_s_labels (s.labels).length c_s_labels) := (hc12 _ _ (by omega)).trans t11_0_3
  have t12_0_4 : w12.cell? ⟨w.heap.size, 4, none⟩ = some (.string ⟨(s.start).toArray⟩) := (hc12 _ _ (by omega)).trans t11_0_4
  have l12_1 : w5.heap.size < w12.heap.size := by omega
  have t12_1_0 : w12.cell? ⟨w5.heap.size, 0, none⟩ = some (.int .i64 s.net.places) := (hc12 _ _ (by omega)).trans t11_1_0
  have t12_1_1 : w12.cell? ⟨w5.heap.size, 1, none⟩ = some (.slice A_s_net_trans5 (s.net.trans).length (s.net.trans).length) := (hc12 _ _ (by omega)).trans t11_1_1
  have t12_1_2 : w12.cell? ⟨w5.heap.size, 2, none⟩ = some (.slice A_s_signals5 (s.signals).length (s.signals).length) := (hc12 _ _ (by omega)).trans t11_1_2
  have t12_1_3 : w12.cell? ⟨w5.heap.size, 3, none⟩ = some (.slice A_s_labels5 (s.labels).length (s.labels).length) := (hc12 _ _ (by omega)).trans t11_1_3
  have t12_1_4 : w12.cell? ⟨w5.heap.size, 4, none⟩ = some (.string ⟨(s.start).toArray⟩) := (hc12 _ _ (by omega)).trans t11_1_4
  clear t11_0_0
  clear t11_0_1
  clear t11_0_2
  clear t11_0_3
  clear t11_0_4
  clear t11_1_0
  clear t11_1_1
  clear t11_1_2
  clear t11_1_3
  clear t11_1_4
  have aA_s_net_trans5_12 := RA.to aA_s_net_trans5_11 hs12
  clear aA_s_net_trans5_11
  have aA_s_signals5_12 := RA.to aA_s_signals5_11 hs12
  clear aA_s_signals5_11
  have aA_s_labels5_12 := RA.to aA_s_labels5_11 hs12
  clear aA_s_labels5_11
  have aA_l6_12 := RA.to aA_l6_11 hs12
  clear aA_l6_11
  have aA_l11_12 := RA.to aA_l11 hs12
  clear aA_l11
  have HXs_12 : Hid (Below w5.heap.size w5 w12) := hide (HXs_11.out.trans (hs12.mono HXs_11.out.size))
  clear HXs_11
  have HXl_12 : Hid (Below w6.heap.size w6 w12) := hide (HXl_11.out.trans (hs12.mono HXl_11.out.size))
  clear HXl_11
  have ho4_0_12 := Own.to ho4_0_11 hs12
  clear ho4_0_11
  have ho7_0_12 := Own.to ho7_0_11 hs12
  clear ho7_0_11
  clear hc12
  have hD : ∀ b, (fun b => Fresh w4 w5 b ∨ Fresh (w5.alloc (.cells #[.int .i64 s.net.places, .slice A_s_net_trans5 (s.net.trans).length (s.net.trans).length, .slice A_s_signals5 (s.signals).length (s.signals).length, .slice A_s_labels5 (s.labels).length (s.labels).length, .string ⟨(s.start).toArray⟩] 41)) w6 b) b → b < w12.heap.size := fun b hd => by
    rcases hd with hd | hd
    · exact Nat.lt_of_lt_of_le hd.2 HXs_12.out.size
    · exact Nat.lt_of_lt_of_le hd.2 HXl_12.out.size
  have hnf : ∀ b o, (fun b => Fresh w4 w5 b ∨ Fresh (w5.alloc (.cells #[.int .i64 s.net.places, .slice A_s_net_trans5 (s.net.trans).length (s.net.trans).length, .slice A_s_signals5 (s.signals).length (s.signals).length, .slice A_s_labels5 (s.labels).length (s.labels).length, .string ⟨(s.start).toArray⟩] 41)) w6 b) b → w12.frozen? ⟨b, o, none⟩ = false := fun b o hd => by
    rcases hd with hd | hd
    · exact (HXs_12.out.frozen (p := ⟨b, o, none⟩) hd.2).trans (fz5.fresh hd.1)
    · exact (HXl_12.out.frozen (p := ⟨b, o, none⟩) hd.2).trans (fz6.fresh hd.1)
  have mrA_s_net_trans5 : RSl shTr w12 (fun b => Fresh w4 w5 b ∨ Fresh (w5.alloc (.cells #[.int .i64 s.net.places, .slice A_s_net_trans5 (s.net.trans).length (s.net.trans).length, .slice A_s_signals5 (s.signals).length (s.signals).length, .slice A_s_labels5 (s.labels).length (s.labels).length, .string ⟨(s.start).toArray⟩] 41)) w6 b) A_s_net_trans5 s.net.trans := (rA_s_net_trans5.below HXs_12.out (fun b hd => hd.2)).mono (fun b hd => .inl hd)
  have mrA_s_signals5 : RSl shSig w12 (fun b => Fresh w4 w5 b ∨ Fresh (w5.alloc (.cells #[.int .i64 s.net.places, .slice A_s_net_trans5 (s.net.trans).length (s.net.trans).length, .slice A_s_signals5 (s.signals).length (s.signals).length, .slice A_s_labels5 (s.labels).length (s.labels).length, .string ⟨(s.start).toArray⟩] 41)) w6 b) A_s_signals5 s.signals := (rA_s_signals5.below HXs_12.out (fun b hd => hd.2)).mono (fun b hd => .inl hd)
  have mrA_s_labels5 : RSl shLab w12 (fun b => Fresh w4 w5 b ∨ Fresh (w5.alloc (.cells #[.int .i64 s.net.places, .slice A_s_net_trans5 (s.net.trans).length (s.net.trans).length, .slice A_s_signals5 (s.signals).length (s.signals).length, .slice A_s_labels5 (s.labels).length (s.labels).length, .string ⟨(s.start).toArray⟩] 41)) w6 b) A_s_labels5 s.labels := (rA_s_labels5.below HXs_12.out (fun b hd => hd.2)).mono (fun b hd => .inl hd)
  have mrA_l6 : RSl shDl w12 (fun b => Fresh w4 w5 b ∨ Fresh (w5.alloc (.cells #[.int .i64 s.net.places, .slice A_s_net_trans5 (s.net.trans).length (s.net.trans).length, .slice A_s_signals5 (s.signals).length (s.signals).length, .slice A_s_labels5 (s.labels).length (s.labels).length, .string ⟨(s.start).toArray⟩] 41)) w6 b) A_l6 l := (rA_l6.below HXl_12.out (fun b hd => hd.2)).mono (fun b hd => .inr (hd))
  have hM0 := Marked.refl (fun b => Fresh w4 w5 b ∨ Fresh (w5.alloc (.cells #[.int .i64 s.net.places, .slice A_s_net_trans5 (s.net.trans).length (s.net.trans).length, .slice A_s_signals5 (s.signals).length (s.signals).length, .slice A_s_labels5 (s.labels).length (s.labels).length, .string ⟨(s.start).toArray⟩] 41)) w6 b) w12
  go_wp2_with fail
  refine (markSTG_arg w12 (fun b => Fresh w4 w5 b ∨ Fresh (w5.alloc (.cells #[.int .i64 s.net.places, .slice A_s_net_trans5 (s.net.trans).length (s.net.trans).length, .slice A_s_signals5 (s.signals).length (s.signals).length, .slice A_s_labels5 (s.labels).length (s.labels).length, .string ⟨(s.start).toArray⟩] 41)) w6 b) hD hnf s A_s_net_trans5 (s.net.trans).length A_s_signals5 (s.signals).length A_s_labels5 (s.labels).length  (Nat.le_refl _) (by omega) mrA_s_net_trans5 (Nat.le_refl _) (by omega) mrA_s_signals5 (Nat.le_refl _) (by omega) mrA_s_labels5 g10 1 _ hM0 (by omega) (by omega)).mono ?_
  rintro e w13 ⟨n13, rfl, hp13, hq13, hM13, hT13⟩
  have hz13 := hT13.size
  have HW13 : Hid (Below w.heap.size w w13) := hide (HW12.out.trans (hT13.below (fun q hd => by rcases hd with hd | hd <;> (have h1 := hd.1; (try rw [World.size_alloc] at h1); have h2 := hd.2; omega)) HW12.out.size))
  have l13_0 : w.heap.size < w13.heap.size := by omega
  have t13_0_0 : w13.cell? ⟨w.heap.size, 0, none⟩ = some (.int .i64 s.net.places) := (hT13.cell (by omega) (fun hd => by rcases hd with hd | hd <;> (have h1 := hd.1; (try rw [World.size_alloc] at h1); have h2 := hd.2; omega))).trans t12_0_0
  clear t12_0_0
  have t13_0_1 : w13.cell? ⟨w.heap.size, 1, none⟩ = some (.slice A_s_net_trans (s.net.trans).length c_s_net_trans) := (hT13.cell (by omega) (fun hd => by rcases hd with hd | hd <;> (have h1 := hd.1; (try rw [World.size_alloc] at h1); have h2 := hd.2; omega))).trans t12_0_1
  clear t12_0_1
  have t13_0_2 : w13.cell? ⟨w.heap.size, 2, none⟩ = some (.slice A_s_signals (s.signals).length c_s_signals) := (hT13.cell (by omega) (fun hd => by rcases hd with hd | hd <;> (have h1 := hd.1; (try rw [World.size_alloc] at h1); have h2 := hd.2; omega))).trans t12_0_2
  clear t12_0_2
  have t13_0_3 : w13.cell? ⟨w.heap.size, 3, none⟩ = some (.slice A_s_labels (s.labels).length c_s_labels) := (hT13.cell (by omega) (fun hd => by rcases hd with hd | hd <;> (have h1 := hd.1; (try rw [World.size_alloc] at h1); have h2 := hd.2; omega))).trans t12_0_3
  clear t12_0_3
  have t13_0_4 : w13.cell? ⟨w.heap.size, 4, none⟩ = some (.string ⟨(s.start).toArray⟩) := (hT13.cell (by omega) (fun hd => by rcases hd with hd | hd <;> (have h1 := hd.1; (try rw [World.size_alloc] at h1); have h2 := hd.2; omega))).trans t12_0_4
  clear t12_0_4
  have l13_1 : w5.heap.size < w13.heap.size := by omega
  have t13_1_0 : w13.cell? ⟨w5.heap.size, 0, none⟩ = some (.int .i64 s.net.places) := (hT13.cell (by omega) (fun hd => by rcases hd with hd | hd <;> (have h1 := hd.1; (try rw [World.size_alloc] at h1); have h2 := hd.2; omega))).trans t12_1_0
  clear t12_1_0
  have t13_1_1 : w13.cell? ⟨w5.heap.size, 1, none⟩ = some (.slice A_s_net_trans5 (s.net.trans).length (s.net.trans).length) := (hT13.cell (by omega) (fun hd => by rcases hd with hd | hd <;> (have h1 := hd.1; (try rw [World.size_alloc] at h1); have h2 := hd.2; omega))).trans t12_1_1
  clear t12_1_1
  have t13_1_2 : w13.cell? ⟨w5.heap.size, 2, none⟩ = some (.slice A_s_signals5 (s.signals).length (s.signals).length) := (hT13.cell (by omega) (fun hd => by rcases hd with hd | hd <;> (have h1 := hd.1; (try rw [World.size_alloc] at h1); have h2 := hd.2; omega))).trans t12_1_2
  clear t12_1_2
  have t13_1_3 : w13.cell? ⟨w5.heap.size, 3, none⟩ = some (.slice A_s_labels5 (s.labels).length (s.labels).length) := (hT13.cell (by omega) (fun hd => by rcases hd with hd | hd <;> (have h1 := hd.1; (try rw [World.size_alloc] at h1); have h2 := hd.2; omega))).trans t12_1_3
  clear t12_1_3
  have t13_1_4 : w13.cell? ⟨w5.heap.size, 4, none⟩ = some (.string ⟨(s.start).toArray⟩) := (hT13.cell (by omega) (fun hd => by rcases hd with hd | hd <;> (have h1 := hd.1; (try rw [World.size_alloc] at h1); have h2 := hd.2; omega))).trans t12_1_4
  clear t12_1_4
  have ho4_0_13 := Touch.own hT13 ho4_0_12 (fun q hq hd => by rcases hd with hd | hd <;> (have h1 := hd.1; (try rw [World.size_alloc] at h1); have h2 := hd.2; have h3 := hlt4_0 q hq; omega))
  clear ho4_0_12
  have ho7_0_13 := Touch.own hT13 ho7_0_12 (fun q hq hd => by rcases hd with hd | hd <;> (have h1 := hd.1; (try rw [World.size_alloc] at h1); have h2 := hd.2; have h3 := hlt7_0 q hq; omega))
  clear ho7_0_12
  go_wp2_with fail
  refine (markDelayBoundsS_arg w12 (fun b => Fresh w4 w5 b ∨ Fresh (w5.alloc (.cells #[.int .i64 s.net.places, .slice A_s_net_trans5 (s.net.trans).length (s.net.trans).length, .slice A_s_signals5 (s.signals).length (s.signals).length, .slice A_s_labels5 (s.labels).length (s.labels).length, .string ⟨(s.start).toArray⟩] 41)) w6 b) hD hnf A_l6 (l).length l mrA_l6 (by omega) n13 _ hM13 (by omega) (by omega)).mono ?_
  rintro e w14 ⟨n14, rfl, hp14, hq14, hM14, hT14⟩
  have hz14 := hT14.size
  have HW14 : Hid (Below w.heap.size w w14) := hide (HW13.out.trans (hT14.below (fun q hd => by rcases hd with hd | hd <;> (have h1 := hd.1; (try rw [World.size_alloc] at h1); have h2 := hd.2; omega)) HW13.out.size))
  have l14_0 : w.heap.size < w14.heap.size := by omega
  have t14_0_0 : w14.cell? ⟨w.heap.size, 0, none⟩ = some (.int .i64 s.net.places) := (hT14.cell (by omega) (fun hd => by rcases hd with hd | hd <;> (have h1 := hd.1; (try rw [World.size_alloc] at h1); have h2 := hd.2; omega))).trans t13_0_0
  clear t13_0_0
  have t14_0_1 : w14.cell? ⟨w.heap.size, 1, none⟩ = some (.slice A_s_net_trans (s.net.trans).length c_s_net_trans) := (hT14.cell (by omega) (fun hd => by rcases hd with hd | hd <;> (have h1 := hd.1; (try rw [World.size_alloc] at h1); have h2 := hd.2; omega))).trans t13_0_1
  clear t13_0_1
  have t14_0_2 : w14.cell? ⟨w.heap.size, 2, none⟩ = some (.slice A_s_signals (s.signals).length c_s_signals) := (hT14.cell (by omega) (fun hd => by rcases hd with hd | hd <;> (have h1 := hd.1; (try rw [World.size_alloc] at h1); have h2 := hd.2; omega))).trans t13_0_2
  clear t13_0_2
  have t14_0_3 : w14.cell? ⟨w.heap.size, 3, none⟩ = some (.slice A_s_labels (s.labels).length c_s_labels) := (hT14.cell (by omega) (fun hd => by rcases hd with hd | hd <;> (have h1 := hd.1; (try rw [World.size_alloc] at h1); have h2 := hd.2; omega))).trans t13_0_3
  clear t13_0_3
  have t14_0_4 : w14.cell? ⟨w.heap.size, 4, none⟩ = some (.string ⟨(s.start).toArray⟩) := (hT14.cell (by omega) (fun hd => by rcases hd with hd | hd <;> (have h1 := hd.1; (try rw [World.size_alloc] at h1); have h2 := hd.2; omega))).trans t13_0_4
  clear t13_0_4
  have l14_1 : w5.heap.size < w14.heap.size := by omega
  have t14_1_0 : w14.cell? ⟨w5.heap.size, 0, none⟩ = some (.int .i64 s.net.places) := (hT14.cell (by omega) (fun hd => by rcases hd with hd | hd <;> (have h1 := hd.1; (try rw [World.size_alloc] at h1); have h2 := hd.2; omega))).trans t13_1_0
  clear t13_1_0
  have t14_1_1 : w14.cell? ⟨w5.heap.size, 1, none⟩ = some (.slice A_s_net_trans5 (s.net.trans).length (s.net.trans).length) := (hT14.cell (by omega) (fun hd => by rcases hd with hd | hd <;> (have h1 := hd.1; (try rw [World.size_alloc] at h1); have h2 := hd.2; omega))).trans t13_1_1
  clear t13_1_1
  have t14_1_2 : w14.cell? ⟨w5.heap.size, 2, none⟩ = some (.slice A_s_signals5 (s.signals).length (s.signals).length) := (hT14.cell (by omega) (fun hd => by rcases hd with hd | hd <;> (have h1 := hd.1; (try rw [World.size_alloc] at h1); have h2 := hd.2; omega))).trans t13_1_2
  clear t13_1_2
  have t14_1_3 : w14.cell? ⟨w5.heap.size, 3, none⟩ = some (.slice A_s_labels5 (s.labels).length (s.labels).length) := (hT14.cell (by omega) (fun hd => by rcases hd with hd | hd <;> (have h1 := hd.1; (try rw [World.size_alloc] at h1); have h2 := hd.2; omega))).trans t13_1_3
  clear t13_1_3
  have t14_1_4 : w14.cell? ⟨w5.heap.size, 4, none⟩ = some (.string ⟨(s.start).toArray⟩) := (hT14.cell (by omega) (fun hd => by rcases hd with hd | hd <;> (have h1 := hd.1; (try rw [World.size_alloc] at h1); have h2 := hd.2; omega))).trans t13_1_4
  clear t13_1_4
  have ho4_0_14 := Touch.own hT14 ho4_0_13 (fun q hq hd => by rcases hd with hd | hd <;> (have h1 := hd.1; (try rw [World.size_alloc] at h1); have h2 := hd.2; have h3 := hlt4_0 q hq; omega))
  clear ho4_0_13
  have ho7_0_14 := Touch.own hT14 ho7_0_13 (fun q hq hd => by rcases hd with hd | hd <;> (have h1 := hd.1; (try rw [World.size_alloc] at h1); have h2 := hd.2; have h3 := hlt7_0 q hq; omega))
  clear ho7_0_13
  clear HXs_12
  clear HXl_12
  have qn : decide (n14 < 0) = false := by simp; omega
  go_wp2_with fail
  refine (eqTimedFiringS A7_0 A4_0 c7_0 c4_0 R.1 _ (by omega) (RA.to ho7_0_14.ra (Below.refl _ _)) (RA.to ho4_0_14.ra (Below.refl _ _))).mono ?_
  rintro e w15 ⟨rfl, hb15⟩
  have hs15 : Below w14.heap.size w14 w15 := hb15
  have HW15 : Hid (Below w.heap.size w w15) := hide (HW14.out.trans (hs15.mono HW14.out.size))
  obtain ⟨hc15, _⟩ := bcell hb15
  have hz15 := hb15.size
  repeat rw [World.size_alloc] at hz15
  have l15_0 : w.heap.size < w15.heap.size := by omega
  have t15_0_0 : w15.cell? ⟨w.heap.size, 0, none⟩ = some (.int .i64 s.net.places) := (hc15 _ _ (by omega)).trans t14_0_0
  have t15_0_1 : w15.cell? ⟨w.heap.size, 1, none⟩ = some (.slice A_s_net_trans (s.net.trans).length c_s_net_trans) := (hc15 _ _ (by omega)).trans t14_0_1
  have t15_0_2 : w15.cell? ⟨w.heap.size, 2, none⟩ = some (.slice A_s_signals (s.signals).length c_s_signals) := (hc15 _ _ (by omega)).trans t14_0_2
  have t15_0_3 : w15.cell? ⟨w.heap.size, 3, none⟩ = some (.slice A_s_labels (s.labels).length c_s_labels) := (hc15 _ _ (by omega)).trans t14_0_3
  have t15_0_4 : w15.cell? ⟨w.heap.size, 4, none⟩ = some (.string ⟨(s.start).toArray⟩) := (hc15 _ _ (by omega)).trans t14_0_4
  have l15_1 : w5.heap.size < w15.heap.size := by omega
  have t15_1_0 : w15.cell? ⟨w5.heap.size, 0, none⟩ = some (.int .i64 s.net.places) := (hc15 _ _ (by omega)).trans t14_1_0
  have t15_1_1 : w15.cell? ⟨w5.heap.size, 1, none⟩ = some (.slice A_s_net_trans5 (s.net.trans).length (s.net.trans).length) := (hc15 _ _ (by omega)).trans t14_1_1
  have t15_1_2 : w15.cell? ⟨w5.heap.size, 2, none⟩ = some (.slice A_s_signals5 (s.signals).length (s.signals).length) := (hc15 _ _ (by omega)).trans t14_1_2
  have t15_1_3 : w15.cell? ⟨w5.heap.size, 3, none⟩ = some (.slice A_s_labels5 (s.labels).length (s.labels).length) := (hc15 _ _ (by omega)).trans t14_1_3
  have t15_1_4 : w15.cell? ⟨w5.heap.size, 4, none⟩ = some (.string ⟨(s.start).toArray⟩) := (hc15 _ _ (by omega)).trans t14_1_4
  clear t14_0_0
  clear t14_0_1
  clear t14_0_2
  clear t14_0_3
  clear t14_0_4
  clear t14_1_0
  clear t14_1_1
  clear t14_1_2
  clear t14_1_3
  clear t14_1_4
  have ho4_0_15 := Own.to ho4_0_14 hs15
  clear ho4_0_14
  have ho7_0_15 := Own.to ho7_0_14 hs15
  clear ho7_0_14
  clear hc15
  go_wp2_with fail
  refine (markTimedFiringS_own _ _ A7_0 c7_0 R.1 1 _ ho7_0_15 (by omega) (by omega)).mono ?_
  rintro e w16 ⟨rfl, hr16, hT16⟩
  have hz16 := hT16.size
  have HW16 : Hid (Below w.heap.size w w16) := hide (HW15.out.trans (hT16.below (fun q hd => by have h3 := hlt7_0 q hd; omega) HW15.out.size))
  have l16_0 : w.heap.size < w16.heap.size := by omega
  have t16_0_0 : w16.cell? ⟨w.heap.size, 0, none⟩ = some (.int .i64 s.net.places) := (hT16.cell (by omega) (fun hd => by have h3 := hlt7_0 _ hd; omega)).trans t15_0_0
  clear t15_0_0
  have t16_0_1 : w16.cell? ⟨w.heap.size, 1, none⟩ = some (.slice A_s_net_trans (s.net.trans).length c_s_net_trans) := (hT16.cell (by omega) (fun hd => by have h3 := hlt7_0 _ hd; omega)).trans t15_0_1
  clear t15_0_1
  have t16_0_2 : w16.cell? ⟨w.heap.size, 2, none⟩ = some (.slice A_s_signals (s.signals).length c_s_signals) := (hT16.cell (by omega) (fun hd => by have h3 := hlt7_0 _ hd; omega)).trans t15_0_2
  clear t15_0_2
  have t16_0_3 : w16.cell? ⟨w.heap.size, 3, none⟩ = some (.slice A_s_labels (s.labels).length c_s_labels) := (hT16.cell (by omega) (fun hd => by have h3 := hlt7_0 _ hd; omega)).trans t15_0_3
  clear t15_0_3
  have t16_0_4 : w16.cell? ⟨w.heap.size, 4, none⟩ = some (.string ⟨(s.start).toArray⟩) := (hT16.cell (by omega) (fun hd => by have h3 := hlt7_0 _ hd; omega)).trans t15_0_4
  clear t15_0_4
  have l16_1 : w5.heap.size < w16.heap.size := by omega
  have t16_1_0 : w16.cell? ⟨w5.heap.size, 0, none⟩ = some (.int .i64 s.net.places) := (hT16.cell (by omega) (fun hd => by have h3 := hlt7_0 _ hd; omega)).trans t15_1_0
  clear t15_1_0
  have t16_1_1 : w16.cell? ⟨w5.heap.size, 1, none⟩ = some (.slice A_s_net_trans5 (s.net.trans).length (s.net.trans).length) := (hT16.cell (by omega) (fun hd => by have h3 := hlt7_0 _ hd; omega)).trans t15_1_1
  clear t15_1_1
  have t16_1_2 : w16.cell? ⟨w5.heap.size, 2, none⟩ = some (.slice A_s_signals5 (s.signals).length (s.signals).length) := (hT16.cell (by omega) (fun hd => by have h3 := hlt7_0 _ hd; omega)).trans t15_1_2
  clear t15_1_2
  have t16_1_3 : w16.cell? ⟨w5.heap.size, 3, none⟩ = some (.slice A_s_labels5 (s.labels).length (s.labels).length) := (hT16.cell (by omega) (fun hd => by have h3 := hlt7_0 _ hd; omega)).trans t15_1_3
  clear t15_1_3
  have t16_1_4 : w16.cell? ⟨w5.heap.size, 4, none⟩ = some (.string ⟨(s.start).toArray⟩) := (hT16.cell (by omega) (fun hd => by have h3 := hlt7_0 _ hd; omega)).trans t15_1_4
  clear t15_1_4
  have ho4_0_16 := Touch.own hT16 ho4_0_15 (fun q hq hd => by have h3 := hlt4_0 q hq; have h4 := hlt7_0 q hd; omega)
  clear ho4_0_15
  have aG_7_0 : RA shTF w16 A7_0 (marksL mkTF 2 1 R.1) := hr16.mono (fun b hd => by have h3 := hlt7_0 b hd; omega)
  have qh : decide (1 + 2 * (R.1.length : Int) < 0) = false := by simp; omega
  go_wp2_with fail
  refine (heldTimedFiringS A7_0 c7_0 R.1 1 _ (by omega) (RA.to aG_7_0 (Below.refl _ _)) (by omega) (by omega)).mono ?_
  rintro e w17 ⟨rfl, hb17⟩
  have hs17 : Below w16.heap.size w16 w17 := hb17
  have HW17 : Hid (Below w.heap.size w w17) := hide (HW16.out.trans (hs17.mono HW16.out.size))
  obtain ⟨hc17, _⟩ := bcell hb17
  have hz17 := hb17.size
  repeat rw [World.size_alloc] at hz17
  have l17_0 : w.heap.size < w17.heap.size := by omega
  have t17_0_0 : w17.cell? ⟨w.heap.size, 0, none⟩ = some (.int .i64 s.net.places) := (hc17 _ _ (by omega)).trans t16_0_0
  have t17_0_1 : w17.cell? ⟨w.heap.size, 1, none⟩ = some (.slice A_s_net_trans (s.net.trans).length c_s_net_trans) := (hc17 _ _ (by omega)).trans t16_0_1
  have t17_0_2 : w17.cell? ⟨w.heap.size, 2, none⟩ = some (.slice A_s_signals (s.signals).length c_s_signals) := (hc17 _ _ (by omega)).trans t16_0_2
  have t17_0_3 : w17.cell? ⟨w.heap.size, 3, none⟩ = some (.slice A_s_labels (s.labels).length c_s_labels) := (hc17 _ _ (by omega)).trans t16_0_3
  have t17_0_4 : w17.cell? ⟨w.heap.size, 4, none⟩ = some (.string ⟨(s.start).toArray⟩) := (hc17 _ _ (by omega)).trans t16_0_4
  have l17_1 : w5.heap.size < w17.heap.size := by omega
  have t17_1_0 : w17.cell? ⟨w5.heap.size, 0, none⟩ = some (.int .i64 s.net.places) := (hc17 _ _ (by omega)).trans t16_1_0
  have t17_1_1 : w17.cell? ⟨w5.heap.size, 1, none⟩ = some (.slice A_s_net_trans5 (s.net.trans).length (s.net.trans).length) := (hc17 _ _ (by omega)).trans t16_1_1
  have t17_1_2 : w17.cell? ⟨w5.heap.size, 2, none⟩ = some (.slice A_s_signals5 (s.signals).length (s.signals).length) := (hc17 _ _ (by omega)).trans t16_1_2
  have t17_1_3 : w17.cell? ⟨w5.heap.size, 3, none⟩ = some (.slice A_s_labels5 (s.labels).length (s.labels).length) := (hc17 _ _ (by omega)).trans t16_1_3
  have t17_1_4 : w17.cell? ⟨w5.heap.size, 4, none⟩ = some (.string ⟨(s.start).toArray⟩) := (hc17 _ _ (by omega)).trans t16_1_4
  clear t16_0_0
  clear t16_0_1
  clear t16_0_2
  clear t16_0_3
  clear t16_0_4
  clear t16_1_0
  clear t16_1_1
  clear t16_1_2
  clear t16_1_3
  clear t16_1_4
  have aG_7_0_17 := RA.to aG_7_0 hs17
  clear aG_7_0
  have ho4_0_17 := Own.to ho4_0_16 hs17
  clear ho4_0_16
  clear hc17
  go_wp2_with fail
  refine (toSTG s A_s_net_trans c_s_net_trans A_s_signals c_s_signals A_s_labels c_s_labels _ g1 g2 (RA.to g3 HW17.out) g4 g5 (RA.to g6 HW17.out) g7 g8 (RA.to g9 HW17.out) g10 qq_s).mono ?_
  rintro e w18 ⟨A_s_net_trans18, A_s_signals18, A_s_labels18, rfl, rA_s_net_trans18, rA_s_signals18, rA_s_labels18, hb18, fz18⟩
  have hs18 : Below w17.heap.size w17 w18 := hb18
  have HW18 : Hid (Below w.heap.size w w18) := hide (HW17.out.trans (hs18.mono HW17.out.size))
  obtain ⟨hc18, _⟩ := bcell hb18
  have hz18 := hb18.size
  repeat rw [World.size_alloc] at hz18
  have l18_0 : w.heap.size < w18.heap.size := by omega
  have t18_0_0 : w18.cell? ⟨w.heap.size, 0, none⟩ = some (.int .i64 s.net.places) := (hc18 _ _ (by omega)).trans t17_0_0
  have t18_0_1 : w18.cell? ⟨w.heap.size, 1, none⟩ = some (.slice A_s_net_trans (s.net.trans).length c_s_net_trans) := (hc18 _ _ (by omega)).trans t17_0_1
  have t18_0_2 : w18.cell? ⟨w.heap.size, 2, none⟩ = some (.slice A_s_signals (s.signals).length c_s_signals) := (hc18 _ _ (by omega)).trans t17_0_2
  have t18_0_3 : w18.cell? ⟨w.heap.size, 3, none⟩ = some (.slice A_s_labels (s.labels).length c_s_labels) := (hc18 _ _ (by omega)).trans t17_0_3
  have t18_0_4 : w18.cell? ⟨w.heap.size, 4, none⟩ = some (.string ⟨(s.start).toArray⟩) := (hc18 _ _ (by omega)).trans t17_0_4
  have l18_1 : w5.heap.size < w18.heap.size := by omega
  have t18_1_0 : w18.cell? ⟨w5.heap.size, 0, none⟩ = some (.int .i64 s.net.places) := (hc18 _ _ (by omega)).trans t17_1_0
  have t18_1_1 : w18.cell? ⟨w5.heap.size, 1, none⟩ = some (.slice A_s_net_trans5 (s.net.trans).length (s.net.trans).length) := (hc18 _ _ (by omega)).trans t17_1_1
  have t18_1_2 : w18.cell? ⟨w5.heap.size, 2, none⟩ = some (.slice A_s_signals5 (s.signals).length (s.signals).length) := (hc18 _ _ (by omega)).trans t17_1_2
  have t18_1_3 : w18.cell? ⟨w5.heap.size, 3, none⟩ = some (.slice A_s_labels5 (s.labels).length (s.labels).length) := (hc18 _ _ (by omega)).trans t17_1_3
  have t18_1_4 : w18.cell? ⟨w5.heap.size, 4, none⟩ = some (.string ⟨(s.start).toArray⟩) := (hc18 _ _ (by omega)).trans t17_1_4
  clear t17_0_0
  clear t17_0_1
  clear t17_0_2
  clear t17_0_3
  clear t17_0_4
  clear t17_1_0
  clear t17_1_1
  clear t17_1_2
  clear t17_1_3
  clear t17_1_4
  have aG_7_0_18 := RA.to aG_7_0_17 hs18
  clear aG_7_0_17
  have ho4_0_18 := Own.to ho4_0_17 hs18
  clear ho4_0_17
  clear hc18
  have aA_s_net_trans18 : RA shTr w18 A_s_net_trans18 s.net.trans := (rA_s_net_trans18).mono fun b hb => hb.2
  have aA_s_signals18 : RA shSig w18 A_s_signals18 s.signals := (rA_s_signals18).mono fun b hb => hb.2
  have aA_s_labels18 : RA shLab w18 A_s_labels18 s.labels := (rA_s_labels18).mono fun b hb => hb.2
  go_wp2_with fail
  refine (toDelayBoundsS A_l c_l l _ qq_l (RA.to g13 HW18.out)).mono ?_
  rintro e w19 ⟨A_l19, rfl, rA_l19, hb19, fz19⟩
  have hs19 : Below w18.heap.size w18 w19 := hb19
  have HW19 : Hid (Below w.heap.size w w19) := hide (HW18.out.trans (hs19.mono HW18.out.size))
  obtain ⟨hc19, _⟩ := bcell hb19
  have hz19 := hb19.size
  repeat rw [World.size_alloc] at hz19
  have l19_0 : w.heap.size < w19.heap.size := by omega
  have t19_0_0 : w19.cell? ⟨w.heap.size, 0, none⟩ = some (.int .i64 s.net.places) := (hc19 _ _ (by omega)).trans t18_0_0
  have t19_0_1 : w19.cell? ⟨w.heap.size, 1, none⟩ = some (.slice A_s_net_trans (s.net.trans).length c_s_net_trans) := (hc19 _ _ (by omega)).trans t18_0_1
  have t19_0_2 : w19.cell? ⟨w.heap.size, 2, none⟩ = some (.slice A_s_signals (s.signals).length c_s_signals) := (hc19 _ _ (by omega)).trans t18_0_2
  have t19_0_3 : w19.cell? ⟨w.heap.size, 3, none⟩ = some (.slice A_s_labels (s.labels).length c_s_labels) := (hc19 _ _ (by omega)).trans t18_0_3
  have t19_0_4 : w19.cell? ⟨w.heap.size, 4, none⟩ = some (.string ⟨(s.start).toArray⟩) := (hc19 _ _ (by omega)).trans t18_0_4
  have l19_1 : w5.heap.size < w19.heap.size := by omega
  have t19_1_0 : w19.cell? ⟨w5.heap.size, 0, none⟩ = some (.int .i64 s.net.places) := (hc19 _ _ (by omega)).trans t18_1_0
  have t19_1_1 : w19.cell? ⟨w5.heap.size, 1, none⟩ = some (.slice A_s_net_trans5 (s.net.trans).length (s.net.trans).length) := (hc19 _ _ (by omega)).trans t18_1_1
  have t19_1_2 : w19.cell? ⟨w5.heap.size, 2, none⟩ = some (.slice A_s_signals5 (s.signals).length (s.signals).length) := (hc19 _ _ (by omega)).trans t18_1_2
  have t19_1_3 : w19.cell? ⟨w5.heap.size, 3, none⟩ = some (.slice A_s_labels5 (s.labels).length (s.labels).length) := (hc19 _ _ (by omega)).trans t18_1_3
  have t19_1_4 : w19.cell? ⟨w5.heap.size, 4, none⟩ = some (.string ⟨(s.start).toArray⟩) := (hc19 _ _ (by omega)).trans t18_1_4
  clear t18_0_0
  clear t18_0_1
  clear t18_0_2
  clear t18_0_3
  clear t18_0_4
  clear t18_1_0
  clear t18_1_1
  clear t18_1_2
  clear t18_1_3
  clear t18_1_4
  have aG_7_0_19 := RA.to aG_7_0_18 hs19
  clear aG_7_0_18
  have aA_s_net_trans18_19 := RA.to aA_s_net_trans18 hs19
  clear aA_s_net_trans18
  have aA_s_signals18_19 := RA.to aA_s_signals18 hs19
  clear aA_s_signals18
  have aA_s_labels18_19 := RA.to aA_s_labels18 hs19
  clear aA_s_labels18
  have ho4_0_19 := Own.to ho4_0_18 hs19
  clear ho4_0_18
  clear hc19
  have aA_l19 : RA shDl w19 A_l19 l := (rA_l19).mono fun b hb => hb.2
  go_wp2_with fail
  refine (impl_EarliestRun s l n A_s_net_trans18 (s.net.trans).length A_s_signals18 (s.signals).length A_s_labels18 (s.labels).length A_l19 (l).length _ g0 (Nat.le_refl _) (by omega) (RA.to aA_s_net_trans18_19 (Below.refl _ _)) (Nat.le_refl _) (by omega) (RA.to aA_s_signals18_19 (Below.refl _ _)) (Nat.le_refl _) (by omega) (RA.to aA_s_labels18_19 (Below.refl _ _)) g10 (Nat.le_refl _) (by omega) (RA.to aA_l19 (Below.refl _ _)) g14).mono ?_
  rintro e w20 ⟨A20_0, c20_0, rfl, ho20_0, hb20⟩
  have hs20 : Below w19.heap.size w19 w20 := hb20
  have HW20 : Hid (Below w.heap.size w w20) := hide (HW19.out.trans (hs20.mono HW19.out.size))
  obtain ⟨hc20, _⟩ := bcell hb20
  have hz20 := hb20.size
  repeat rw [World.size_alloc] at hz20
  have l20_0 : w.heap.size < w20.heap.size := by omega
  have t20_0_0 : w20.cell? ⟨w.heap.size, 0, none⟩ = some (.int .i64 s.net.places) := (hc20 _ _ (by omega)).trans t19_0_0
  have t20_0_1 : w20.cell? ⟨w.heap.size, 1, none⟩ = some (.slice A_s_net_trans (s.net.trans).length c_s_net_trans) := (hc20 _ _ (by omega)).trans t19_0_1
  have t20_0_2 : w20.cell? ⟨w.heap.size, 2, none⟩ = some (.slice A_s_signals (s.signals).length c_s_signals) := (hc20 _ _ (by omega)).trans t19_0_2
  have t20_0_3 : w20.cell? ⟨w.heap.size, 3, none⟩ = some (.slice A_s_labels (s.labels).length c_s_labels) := (hc20 _ _ (by omega)).trans t19_0_3
  have t20_0_4 : w20.cell? ⟨w.heap.size, 4, none⟩ = some (.string ⟨(s.start).toArray⟩) := (hc20 _ _ (by omega)).trans t19_0_4
  have l20_1 : w5.heap.size < w20.heap.size := by omega
  have t20_1_0 : w20.cell? ⟨w5.heap.size, 0, none⟩ = some (.int .i64 s.net.places) := (hc20 _ _ (by omega)).trans t19_1_0
  have t20_1_1 : w20.cell? ⟨w5.heap.size, 1, none⟩ = some (.slice A_s_net_trans5 (s.net.trans).length (s.net.trans).length) := (hc20 _ _ (by omega)).trans t19_1_1
  have t20_1_2 : w20.cell? ⟨w5.heap.size, 2, none⟩ = some (.slice A_s_signals5 (s.signals).length (s.signals).length) := (hc20 _ _ (by omega)).trans t19_1_2
  have t20_1_3 : w20.cell? ⟨w5.heap.size, 3, none⟩ = some (.slice A_s_labels5 (s.labels).length (s.labels).length) := (hc20 _ _ (by omega)).trans t19_1_3
  have t20_1_4 : w20.cell? ⟨w5.heap.size, 4, none⟩ = some (.string ⟨(s.start).toArray⟩) := (hc20 _ _ (by omega)).trans t19_1_4
  clear t19_0_0
  clear t19_0_1
  clear t19_0_2
  clear t19_0_3
  clear t19_0_4
  clear t19_1_0
  clear t19_1_1
  clear t19_1_2
  clear t19_1_3
  clear t19_1_4
  have aG_7_0_20 := RA.to aG_7_0_19 hs20
  clear aG_7_0_19
  have aA_s_net_trans18_20 := RA.to aA_s_net_trans18_19 hs20
  clear aA_s_net_trans18_19
  have aA_s_signals18_20 := RA.to aA_s_signals18_19 hs20
  clear aA_s_signals18_19
  have aA_s_labels18_20 := RA.to aA_s_labels18_19 hs20
  clear aA_s_labels18_19
  have aA_l19_20 := RA.to aA_l19 hs20
  clear aA_l19
  have ho4_0_20 := Own.to ho4_0_19 hs20
  clear ho4_0_19
  clear hc20
  rw [HR.out] at ho20_0
  have hlt20_0 := ho20_0.lt
  rw [HR.out]
  go_wp2_with fail
  refine (eqTimedFiringS A20_0 A4_0 c20_0 c4_0 R.1 _ (by omega) (RA.to ho20_0.ra (Below.refl _ _)) (RA.to ho4_0_20.ra (Below.refl _ _))).mono ?_
  rintro e w21 ⟨rfl, hb21⟩
  have hs21 : Below w20.heap.size w20 w21 := hb21
  have HW21 : Hid (Below w.heap.size w w21) := hide (HW20.out.trans (hs21.mono HW20.out.size))
  obtain ⟨hc21, _⟩ := bcell hb21
  have hz21 := hb21.size
  repeat rw [World.size_alloc] at hz21
  have l21_0 : w.heap.size < w21.heap.size := by omega
  have t21_0_0 : w21.cell? ⟨w.heap.size, 0, none⟩ = some (.int .i64 s.net.places) := (hc21 _ _ (by omega)).trans t20_0_0
  have t21_0_1 : w21.cell? ⟨w.heap.size, 1, none⟩ = some (.slice A_s_net_trans (s.net.trans).length c_s_net_trans) := (hc21 _ _ (by omega)).trans t20_0_1
  have t21_0_2 : w21.cell? ⟨w.heap.size, 2, none⟩ = some (.slice A_s_signals (s.signals).length c_s_signals) := (hc21 _ _ (by omega)).trans t20_0_2
  have t21_0_3 : w21.cell? ⟨w.heap.size, 3, none⟩ = some (.slice A_s_labels (s.labels).length c_s_labels) := (hc21 _ _ (by omega)).trans t20_0_3
  have t21_0_4 : w21.cell? ⟨w.heap.size, 4, none⟩ = some (.string ⟨(s.start).toArray⟩) := (hc21 _ _ (by omega)).trans t20_0_4
  have l21_1 : w5.heap.size < w21.heap.size := by omega
  have t21_1_0 : w21.cell? ⟨w5.heap.size, 0, none⟩ = some (.int .i64 s.net.places) := (hc21 _ _ (by omega)).trans t20_1_0
  have t21_1_1 : w21.cell? ⟨w5.heap.size, 1, none⟩ = some (.slice A_s_net_trans5 (s.net.trans).length (s.net.trans).length) := (hc21 _ _ (by omega)).trans t20_1_1
  have t21_1_2 : w21.cell? ⟨w5.heap.size, 2, none⟩ = some (.slice A_s_signals5 (s.signals).length (s.signals).length) := (hc21 _ _ (by omega)).trans t20_1_2
  have t21_1_3 : w21.cell? ⟨w5.heap.size, 3, none⟩ = some (.slice A_s_labels5 (s.labels).length (s.labels).length) := (hc21 _ _ (by omega)).trans t20_1_3
  have t21_1_4 : w21.cell? ⟨w5.heap.size, 4, none⟩ = some (.string ⟨(s.start).toArray⟩) := (hc21 _ _ (by omega)).trans t20_1_4
  clear t20_0_0
  clear t20_0_1
  clear t20_0_2
  clear t20_0_3
  clear t20_0_4
  clear t20_1_0
  clear t20_1_1
  clear t20_1_2
  clear t20_1_3
  clear t20_1_4
  have aG_7_0_21 := RA.to aG_7_0_20 hs21
  clear aG_7_0_20
  have aA_s_net_trans18_21 := RA.to aA_s_net_trans18_20 hs21
  clear aA_s_net_trans18_20
  have aA_s_signals18_21 := RA.to aA_s_signals18_20 hs21
  clear aA_s_signals18_20
  have aA_s_labels18_21 := RA.to aA_s_labels18_20 hs21
  clear aA_s_labels18_20
  have aA_l19_21 := RA.to aA_l19_20 hs21
  clear aA_l19_20
  have ho4_0_21 := Own.to ho4_0_20 hs21
  clear ho4_0_20
  have ho20_0_21 := Own.to ho20_0 hs21
  clear ho20_0
  clear hc21
  go_wp2_with fail
  refine (heldTimedFiringS A7_0 c7_0 R.1 1 _ (by omega) (RA.to aG_7_0_21 (Below.refl _ _)) (by omega) (by omega)).mono ?_
  rintro e w22 ⟨rfl, hb22⟩
  have hs22 : Below w21.heap.size w21 w22 := hb22
  have HW22 : Hid (Below w.heap.size w w22) := hide (HW21.out.trans (hs22.mono HW21.out.size))
  obtain ⟨hc22, _⟩ := bcell hb22
  have hz22 := hb22.size
  repeat rw [World.size_alloc] at hz22
  have l22_0 : w.heap.size < w22.heap.size := by omega
  have t22_0_0 : w22.cell? ⟨w.heap.size, 0, none⟩ = some (.int .i64 s.net.places) := (hc22 _ _ (by omega)).trans t21_0_0
  have t22_0_1 : w22.cell? ⟨w.heap.size, 1, none⟩ = some (.slice A_s_net_trans (s.net.trans).length c_s_net_trans) := (hc22 _ _ (by omega)).trans t21_0_1
  have t22_0_2 : w22.cell? ⟨w.heap.size, 2, none⟩ = some (.slice A_s_signals (s.signals).length c_s_signals) := (hc22 _ _ (by omega)).trans t21_0_2
  have t22_0_3 : w22.cell? ⟨w.heap.size, 3, none⟩ = some (.slice A_s_labels (s.labels).length c_s_labels) := (hc22 _ _ (by omega)).trans t21_0_3
  have t22_0_4 : w22.cell? ⟨w.heap.size, 4, none⟩ = some (.string ⟨(s.start).toArray⟩) := (hc22 _ _ (by omega)).trans t21_0_4
  have l22_1 : w5.heap.size < w22.heap.size := by omega
  have t22_1_0 : w22.cell? ⟨w5.heap.size, 0, none⟩ = some (.int .i64 s.net.places) := (hc22 _ _ (by omega)).trans t21_1_0
  have t22_1_1 : w22.cell? ⟨w5.heap.size, 1, none⟩ = some (.slice A_s_net_trans5 (s.net.trans).length (s.net.trans).length) := (hc22 _ _ (by omega)).trans t21_1_1
  have t22_1_2 : w22.cell? ⟨w5.heap.size, 2, none⟩ = some (.slice A_s_signals5 (s.signals).length (s.signals).length) := (hc22 _ _ (by omega)).trans t21_1_2
  have t22_1_3 : w22.cell? ⟨w5.heap.size, 3, none⟩ = some (.slice A_s_labels5 (s.labels).length (s.labels).length) := (hc22 _ _ (by omega)).trans t21_1_3
  have t22_1_4 : w22.cell? ⟨w5.heap.size, 4, none⟩ = some (.string ⟨(s.start).toArray⟩) := (hc22 _ _ (by omega)).trans t21_1_4
  clear t21_0_0
  clear t21_0_1
  clear t21_0_2
  clear t21_0_3
  clear t21_0_4
  clear t21_1_0
  clear t21_1_1
  clear t21_1_2
  clear t21_1_3
  clear t21_1_4
  have aG_7_0_22 := RA.to aG_7_0_21 hs22
  clear aG_7_0_21
  have aA_s_net_trans18_22 := RA.to aA_s_net_trans18_21 hs22
  clear aA_s_net_trans18_21
  have aA_s_signals18_22 := RA.to aA_s_signals18_21 hs22
  clear aA_s_signals18_21
  have aA_s_labels18_22 := RA.to aA_s_labels18_21 hs22
  clear aA_s_labels18_21
  have aA_l19_22 := RA.to aA_l19_21 hs22
  clear aA_l19_21
  have ho4_0_22 := Own.to ho4_0_21 hs22
  clear ho4_0_21
  have ho20_0_22 := Own.to ho20_0_21 hs22
  clear ho20_0_21
  clear hc22
  go_wp2_with fail
  go_ret
  exact ⟨rfl, HW22.out⟩
end Go.Proofs.YtnpbdphfjablbaaGreat.Lw
