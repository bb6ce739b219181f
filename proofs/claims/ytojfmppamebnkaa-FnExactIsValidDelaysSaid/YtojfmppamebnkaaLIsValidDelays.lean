/-
  FnExactIsValidDelays: the law's own walk: it returns true, whatever its arguments. Printed by a program of this repo (lawwalk.py).
-/
import Derived.Test.YtojfmppamebnkaaRows
import Derived.Test.YtojfmppamebnkaaDelays
import Derived.Test.YtojfmppamebnkaaLawStg
import Derived.Test.YtojfmppamebnkaaLawDl
namespace Go.Proofs.Ytojfmppamebnkaa
open Go.RowKit
set_option linter.unusedVariables false

set_option maxHeartbeats 4000000 in
theorem law_IsValidDelays (s : STG) (l : List (Dl)) (A_s_net_trans : Option Addr) (c_s_net_trans : Nat) (A_s_signals : Option Addr) (c_s_signals : Nat) (A_s_labels : Option Addr) (c_s_labels : Nat) (A_l : Option Addr) (c_l : Nat) (w : World) (g0 : InI s.net.places) (g1 : (s.net.trans).length ≤ c_s_net_trans) (g2 : c_s_net_trans ≤ 9223372036854775807) (g3 : RA shTr w A_s_net_trans s.net.trans) (g4 : (s.signals).length ≤ c_s_signals) (g5 : c_s_signals ≤ 9223372036854775807) (g6 : RA shSig w A_s_signals s.signals) (g7 : (s.labels).length ≤ c_s_labels) (g8 : c_s_labels ≤ 9223372036854775807) (g9 : RA shLab w A_s_labels s.labels) (g10 : (s.start).length ≤ 9223372036854775807) (g11 : (l).length ≤ c_l) (g12 : c_l ≤ 9223372036854775807) (g13 : RA shDl w A_l l) :
    Calls Try.prog 3 #[.agg #[.int .i64 s.net.places, .slice A_s_net_trans (s.net.trans).length c_s_net_trans, .slice A_s_signals (s.signals).length c_s_signals, .slice A_s_labels (s.labels).length c_s_labels, .string ⟨(s.start).toArray⟩], .slice A_l (l).length c_l] w fun e w' => e = .returned (.bool true) ∧ Below w.heap.size w w' := by
  go_enter Try.func3, Try.ntmps3
  go_wp2_with fail
  refine (szSTG s A_s_net_trans c_s_net_trans A_s_signals c_s_signals A_s_labels c_s_labels (1048576) _ g1 g2 (RA.to g3 (by (repeat' (first | (with_reducible exact Below.refl _ _) | (with_reducible assumption) | (with_reducible refine below_drewN' ?_ _) | (with_reducible refine Below.drew ?_) | (with_reducible refine Below.alloc ?_ ?_ _) | (with_reducible refine Below.setCell ?_ ?_ _) | (with_reducible refine Below.then_ ?_ (by assumption) ?_) | go_size)))) g4 g5 (RA.to g6 (by (repeat' (first | (with_reducible exact Below.refl _ _) | (with_reducible assumption) | (with_reducible refine below_drewN' ?_ _) | (with_reducible refine Below.drew ?_) | (with_reducible refine Below.alloc ?_ ?_ _) | (with_reducible refine Below.setCell ?_ ?_ _) | (with_reducible refine Below.then_ ?_ (by assumption) ?_) | go_size)))) g7 g8 (RA.to g9 (by (repeat' (first | (with_reducible exact Below.refl _ _) | (with_reducible assumption) | (with_reducible refine below_drewN' ?_ _) | (with_reducible refine Below.drew ?_) | (with_reducible refine Below.alloc ?_ ?_ _) | (with_reducible refine Below.setCell ?_ ?_ _) | (with_reducible refine Below.then_ ?_ (by assumption) ?_) | go_size)))) g10 (by omega) (by omega)).mono ?_
  rintro e w1 ⟨rfl, hb1⟩
  have HW1 : Hid (Below w.heap.size w w1) := hide (by (repeat' (first | (with_reducible exact Below.refl _ _) | (with_reducible assumption) | (with_reducible refine below_drewN' ?_ _) | (with_reducible refine Below.drew ?_) | (with_reducible refine Below.alloc ?_ ?_ _) | (with_reducible refine Below.setCell ?_ ?_ _) | (with_reducible refine Below.then_ ?_ (by assumption) ?_) | go_size)))
  obtain ⟨hc1, _⟩ := bcell hb1
  have hz1 := hb1.size
  repeat rw [World.size_alloc] at hz1
  have l1_0 : w.heap.size < w1.heap.size := by omega
  have t1_0_0 : w1.cell? ⟨w.heap.size, 0, none⟩ = some (.int .i64 s.net.places) := by rw [hc1 _ _ (by first | omega | (repeat rw [World.size_alloc]); omega)]; simp [go_sem]
  have t1_0_1 : w1.cell? ⟨w.heap.size, 1, none⟩ = some (.slice A_s_net_trans (s.net.trans).length c_s_net_trans) := by rw [hc1 _ _ (by first | omega | (repeat rw [World.size_alloc]); omega)]; simp [go_sem]
  have t1_0_2 : w1.cell? ⟨w.heap.size, 2, none⟩ = some (.slice A_s_signals (s.signals).length c_s_signals) := by rw [hc1 _ _ (by first | omega | (repeat rw [World.size_alloc]); omega)]; simp [go_sem]
  have t1_0_3 : w1.cell? ⟨w.heap.size, 3, none⟩ = some (.slice A_s_labels (s.labels).length c_s_labels) := by rw [hc1 _ _ (by first | omega | (repeat rw [World.size_alloc]); omega)]; simp [go_sem]
  have t1_0_4 : w1.cell? ⟨w.heap.size, 4, none⟩ = some (.string ⟨(s.start).toArray⟩) := by rw [hc1 _ _ (by first | omega | (repeat rw [World.size_alloc]); omega)]; simp [go_sem]
  clear hc1
  by_cases q_s : (1048576 : Int) < ((wtSTG s) : Nat)
  · rw [szRes_neg q_s]
    go_wp2_with fail
    go_ret
    exact ⟨rfl, HW1.out⟩
  rw [szRes_pos q_s]
  have qq_s : ((wtSTG s) : Nat) ≤ 1048576 := by omega
  go_wp2_with fail
  refine (szDelayBoundsS A_l (l).length c_l (1048576 - ((wtSTG s) : Nat)) _ (by omega) (by omega) (by omega)).mono ?_
  rintro e wS ⟨rfl, hwS⟩
  rw [hwS]
  clear hwS
  by_cases q_l : (1048576 - ((wtSTG s) : Nat) : Int) < ((l).length : Nat)
  · rw [szRes_neg q_l]
    go_wp2_with fail
    go_ret
    exact ⟨rfl, HW1.out⟩
  rw [szRes_pos q_l]
  have qq_l : ((l).length : Nat) ≤ 1048576 := by omega
  have qs_s := qq_s
  unfold wtSTG at qs_s
  go_wp2_with fail
  refine (toSTG s A_s_net_trans c_s_net_trans A_s_signals c_s_signals A_s_labels c_s_labels _ g1 g2 (RA.to g3 HW1.out) g4 g5 (RA.to g6 HW1.out) g7 g8 (RA.to g9 HW1.out) g10 qq_s).mono ?_
  rintro e w2 ⟨A_s_net_trans2, A_s_signals2, A_s_labels2, rfl, rA_s_net_trans2, rA_s_signals2, rA_s_labels2, hb2⟩
  have hs2 : Below w1.heap.size w1 w2 := hb2
  have HW2 : Hid (Below w.heap.size w w2) := hide (HW1.out.trans (hs2.mono HW1.out.size))
  obtain ⟨hc2, _⟩ := bcell hb2
  have hz2 := hb2.size
  repeat rw [World.size_alloc] at hz2
  have l2_0 : w.heap.size < w2.heap.size := by omega
  have t2_0_0 : w2.cell? ⟨w.heap.size, 0, none⟩ = some (.int .i64 s.net.places) := (hc2 _ _ (by omega)).trans t1_0_0
  have t2_0_1 : w2.cell? ⟨w.heap.size, 1, none⟩ = some (.slice A_s_net_trans (s.net.trans).length c_s_net_trans) := (hc2 _ _ (by omega)).trans t1_0_1
  have t2_0_2 : w2.cell? ⟨w.heap.size, 2, none⟩ = some (.slice A_s_signals (s.signals).length c_s_signals) := (hc2 _ _ (by omega)).trans t1_0_2
  have t2_0_3 : w2.cell? ⟨w.heap.size, 3, none⟩ = some (.slice A_s_labels (s.labels).length c_s_labels) := (hc2 _ _ (by omega)).trans t1_0_3
  have t2_0_4 : w2.cell? ⟨w.heap.size, 4, none⟩ = some (.string ⟨(s.start).toArray⟩) := (hc2 _ _ (by omega)).trans t1_0_4
  clear t1_0_0
  clear t1_0_1
  clear t1_0_2
  clear t1_0_3
  clear t1_0_4
  clear hc2
  have aA_s_net_trans2 : RA shTr w2 A_s_net_trans2 s.net.trans := (rA_s_net_trans2).mono fun b hb => hb.2
  have aA_s_signals2 : RA shSig w2 A_s_signals2 s.signals := (rA_s_signals2).mono fun b hb => hb.2
  have aA_s_labels2 : RA shLab w2 A_s_labels2 s.labels := (rA_s_labels2).mono fun b hb => hb.2
  go_wp2_with fail
  refine (toDelayBoundsS A_l c_l l _ qq_l (RA.to g13 HW2.out)).mono ?_
  rintro e w3 ⟨A_l3, rfl, rA_l3, hb3⟩
  have hs3 : Below w2.heap.size w2 w3 := hb3
  have HW3 : Hid (Below w.heap.size w w3) := hide (HW2.out.trans (hs3.mono HW2.out.size))
  obtain ⟨hc3, _⟩ := bcell hb3
  have hz3 := hb3.size
  repeat rw [World.size_alloc] at hz3
  have l3_0 : w.heap.size < w3.heap.size := by omega
  have t3_0_0 : w3.cell? ⟨w.heap.size, 0, none⟩ = some (.int .i64 s.net.places) := (hc3 _ _ (by omega)).trans t2_0_0
  have t3_0_1 : w3.cell? ⟨w.heap.size, 1, none⟩ = some (.slice A_s_net_trans (s.net.trans).length c_s_net_trans) := (hc3 _ _ (by omega)).trans t2_0_1
  have t3_0_2 : w3.cell? ⟨w.heap.size, 2, none⟩ = some (.slice A_s_signals (s.signals).length c_s_signals) := (hc3 _ _ (by omega)).trans t2_0_2
  have t3_0_3 : w3.cell? ⟨w.heap.size, 3, none⟩ = some (.slice A_s_labels (s.labels).length c_s_labels) := (hc3 _ _ (by omega)).trans t2_0_3
  have t3_0_4 : w3.cell? ⟨w.heap.size, 4, none⟩ = some (.string ⟨(s.start).toArray⟩) := (hc3 _ _ (by omega)).trans t2_0_4
  clear t2_0_0
  clear t2_0_1
  clear t2_0_2
  clear t2_0_3
  clear t2_0_4
  have aA_s_net_trans2_3 := RA.to aA_s_net_trans2 hs3
  clear aA_s_net_trans2
  have aA_s_signals2_3 := RA.to aA_s_signals2 hs3
  clear aA_s_signals2
  have aA_s_labels2_3 := RA.to aA_s_labels2 hs3
  clear aA_s_labels2
  clear hc3
  have aA_l3 : RA shDl w3 A_l3 l := (rA_l3).mono fun b hb => hb.2
  go_wp2_with fail
  refine (spec_IsValidDelays s l A_s_net_trans2 (s.net.trans).length A_s_signals2 (s.signals).length A_s_labels2 (s.labels).length A_l3 (l).length _ g0 (Nat.le_refl _) (by omega) (RA.to aA_s_net_trans2_3 (Below.refl _ _)) (Nat.le_refl _) (by omega) (RA.to aA_s_signals2_3 (Below.refl _ _)) (Nat.le_refl _) (by omega) (RA.to aA_s_labels2_3 (Below.refl _ _)) g10 (Nat.le_refl _) (by omega) (RA.to aA_l3 (Below.refl _ _))).mono ?_
  rintro e w4 ⟨rfl, hb4⟩
  have hs4 : Below w3.heap.size w3 w4 := hb4
  have HW4 : Hid (Below w.heap.size w w4) := hide (HW3.out.trans (hs4.mono HW3.out.size))
  obtain ⟨hc4, _⟩ := bcell hb4
  have hz4 := hb4.size
  repeat rw [World.size_alloc] at hz4
  have l4_0 : w.heap.size < w4.heap.size := by omega
  have t4_0_0 : w4.cell? ⟨w.heap.size, 0, none⟩ = some (.int .i64 s.net.places) := (hc4 _ _ (by omega)).trans t3_0_0
  have t4_0_1 : w4.cell? ⟨w.heap.size, 1, none⟩ = some (.slice A_s_net_trans (s.net.trans).length c_s_net_trans) := (hc4 _ _ (by omega)).trans t3_0_1
  have t4_0_2 : w4.cell? ⟨w.heap.size, 2, none⟩ = some (.slice A_s_signals (s.signals).length c_s_signals) := (hc4 _ _ (by omega)).trans t3_0_2
  have t4_0_3 : w4.cell? ⟨w.heap.size, 3, none⟩ = some (.slice A_s_labels (s.labels).length c_s_labels) := (hc4 _ _ (by omega)).trans t3_0_3
  have t4_0_4 : w4.cell? ⟨w.heap.size, 4, none⟩ = some (.string ⟨(s.start).toArray⟩) := (hc4 _ _ (by omega)).trans t3_0_4
  clear t3_0_0
  clear t3_0_1
  clear t3_0_2
  clear t3_0_3
  clear t3_0_4
  have aA_s_net_trans2_4 := RA.to aA_s_net_trans2_3 hs4
  clear aA_s_net_trans2_3
  have aA_s_signals2_4 := RA.to aA_s_signals2_3 hs4
  clear aA_s_signals2_3
  have aA_s_labels2_4 := RA.to aA_s_labels2_3 hs4
  clear aA_s_labels2_3
  have aA_l3_4 := RA.to aA_l3 hs4
  clear aA_l3
  clear hc4
  go_wp2_with fail
  refine (toSTG s A_s_net_trans c_s_net_trans A_s_signals c_s_signals A_s_labels c_s_labels _ g1 g2 (RA.to g3 HW4.out) g4 g5 (RA.to g6 HW4.out) g7 g8 (RA.to g9 HW4.out) g10 qq_s).mono ?_
  rintro e w5 ⟨A_s_net_trans5, A_s_signals5, A_s_labels5, rfl, rA_s_net_trans5, rA_s_signals5, rA_s_labels5, hb5⟩
  have hs5 : Below w4.heap.size w4 w5 := hb5
  have HW5 : Hid (Below w.heap.size w w5) := hide (HW4.out.trans (hs5.mono HW4.out.size))
  obtain ⟨hc5, _⟩ := bcell hb5
  have hz5 := hb5.size
  repeat rw [World.size_alloc] at hz5
  have l5_0 : w.heap.size < w5.heap.size := by omega
  have t5_0_0 : w5.cell? ⟨w.heap.size, 0, none⟩ = some (.int .i64 s.net.places) := (hc5 _ _ (by omega)).trans t4_0_0
  have t5_0_1 : w5.cell? ⟨w.heap.size, 1, none⟩ = some (.slice A_s_net_trans (s.net.trans).length c_s_net_trans) := (hc5 _ _ (by omega)).trans t4_0_1
  have t5_0_2 : w5.cell? ⟨w.heap.size, 2, none⟩ = some (.slice A_s_signals (s.signals).length c_s_signals) := (hc5 _ _ (by omega)).trans t4_0_2
  have t5_0_3 : w5.cell? ⟨w.heap.size, 3, none⟩ = some (.slice A_s_labels (s.labels).length c_s_labels) := (hc5 _ _ (by omega)).trans t4_0_3
  have t5_0_4 : w5.cell? ⟨w.heap.size, 4, none⟩ = some (.string ⟨(s.start).toArray⟩) := (hc5 _ _ (by omega)).trans t4_0_4
  clear t4_0_0
  clear t4_0_1
  clear t4_0_2
  clear t4_0_3
  clear t4_0_4
  have aA_s_net_trans2_5 := RA.to aA_s_net_trans2_4 hs5
  clear aA_s_net_trans2_4
  have aA_s_signals2_5 := RA.to aA_s_signals2_4 hs5
  clear aA_s_signals2_4
  have aA_s_labels2_5 := RA.to aA_s_labels2_4 hs5
  clear aA_s_labels2_4
  have aA_l3_5 := RA.to aA_l3_4 hs5
  clear aA_l3_4
  clear hc5
  have aA_s_net_trans5 : RA shTr w5 A_s_net_trans5 s.net.trans := (rA_s_net_trans5).mono fun b hb => hb.2
  have aA_s_signals5 : RA shSig w5 A_s_signals5 s.signals := (rA_s_signals5).mono fun b hb => hb.2
  have aA_s_labels5 : RA shLab w5 A_s_labels5 s.labels := (rA_s_labels5).mono fun b hb => hb.2
  go_wp2_with fail
  refine (toDelayBoundsS A_l c_l l _ qq_l (RA.to g13 (HW5.out.alloc HW5.out.size _))).mono ?_
  rintro e w6 ⟨A_l6, rfl, rA_l6, hb6⟩
  have hs6 : Below w5.heap.size w5 w6 := ((Below.refl _ _).alloc (Nat.le_refl _) _).trans (hb6.mono (by rw [World.size_alloc]; omega))
  have HW6 : Hid (Below w.heap.size w w6) := hide (HW5.out.trans (hs6.mono HW5.out.size))
  obtain ⟨hc6, _⟩ := bcell hb6
  have hz6 := hb6.size
  repeat rw [World.size_alloc] at hz6
  have l6_0 : w.heap.size < w6.heap.size := by omega
  have t6_0_0 : w6.cell? ⟨w.heap.size, 0, none⟩ = some (.int .i64 s.net.places) := (hc6 _ _ (by rw [World.size_alloc]; omega)).trans (by rw [World.cell?_alloc_past _ _ _ (by omega)]; exact t5_0_0)
  have t6_0_1 : w6.cell? ⟨w.heap.size, 1, none⟩ = some (.slice A_s_net_trans (s.net.trans).length c_s_net_trans) := (hc6 _ _ (by rw [World.size_alloc]; omega)).trans (by rw [World.cell?_alloc_past _ _ _ (by omega)]; exact t5_0_1)
  have t6_0_2 : w6.cell? ⟨w.heap.size, 2, none⟩ = some (.slice A_s_signals (s.signals).length c_s_signals) := (hc6 _ _ (by rw [World.size_alloc]; omega)).trans (by rw [World.cell?_alloc_past _ _ _ (by omega)]; exact t5_0_2)
  have t6_0_3 : w6.cell? ⟨w.heap.size, 3, none⟩ = some (.slice A_s_labels (s.labels).length c_s_labels) := (hc6 _ _ (by rw [World.size_alloc]; omega)).trans (by rw [World.cell?_alloc_past _ _ _ (by omega)]; exact t5_0_3)
  have t6_0_4 : w6.cell? ⟨w.heap.size, 4, none⟩ = some (.string ⟨(s.start).toArray⟩) := (hc6 _ _ (by rw [World.size_alloc]; omega)).trans (by rw [World.cell?_alloc_past _ _ _ (by omega)]; exact t5_0_4)
  have l6_1 : w5.heap.size < w6.heap.size := by omega
  have t6_1_0 : w6.cell? ⟨w5.heap.size, 0, none⟩ = some (.int .i64 s.net.places) := by rw [hc6 _ _ (by first | omega | (repeat rw [World.size_alloc]); omega)]; simp [go_sem]
  have t6_1_1 : w6.cell? ⟨w5.heap.size, 1, none⟩ = some (.slice A_s_net_trans5 (s.net.trans).length (s.net.trans).length) := by rw [hc6 _ _ (by first | omega | (repeat rw [World.size_alloc]); omega)]; simp [go_sem]
  have t6_1_2 : w6.cell? ⟨w5.heap.size, 2, none⟩ = some (.slice A_s_signals5 (s.signals).length (s.signals).length) := by rw [hc6 _ _ (by first | omega | (repeat rw [World.size_alloc]); omega)]; simp [go_sem]
  have t6_1_3 : w6.cell? ⟨w5.heap.size, 3, none⟩ = some (.slice A_s_labels5 (s.labels).length (s.labels).length) := by rw [hc6 _ _ (by first | omega | (repeat rw [World.size_alloc]); omega)]; simp [go_sem]
  have t6_1_4 : w6.cell? ⟨w5.heap.size, 4, none⟩ = some (.string ⟨(s.start).toArray⟩) := by rw [hc6 _ _ (by first | omega | (repeat rw [World.size_alloc]); omega)]; simp [go_sem]
  clear t5_0_0
  clear t5_0_1
  clear t5_0_2
  clear t5_0_3
  clear t5_0_4
  have aA_s_net_trans2_6 := RA.to aA_s_net_trans2_5 hs6
  clear aA_s_net_trans2_5
  have aA_s_signals2_6 := RA.to aA_s_signals2_5 hs6
  clear aA_s_signals2_5
  have aA_s_labels2_6 := RA.to aA_s_labels2_5 hs6
  clear aA_s_labels2_5
  have aA_l3_6 := RA.to aA_l3_5 hs6
  clear aA_l3_5
  have aA_s_net_trans5_6 := RA.to aA_s_net_trans5 hs6
  clear aA_s_net_trans5
  have aA_s_signals5_6 := RA.to aA_s_signals5 hs6
  clear aA_s_signals5
  have aA_s_labels5_6 := RA.to aA_s_labels5 hs6
  clear aA_s_labels5
  clear hc6
  have aA_l6 : RA shDl w6 A_l6 l := (rA_l6).mono fun b hb => hb.2
  go_wp2_with fail
  refine (impl_IsValidDelays s l A_s_net_trans5 (s.net.trans).length A_s_signals5 (s.signals).length A_s_labels5 (s.labels).length A_l6 (l).length _ g0 (Nat.le_refl _) (by omega) (RA.to aA_s_net_trans5_6 (Below.refl _ _)) (Nat.le_refl _) (by omega) (RA.to aA_s_signals5_6 (Below.refl _ _)) (Nat.le_refl _) (by omega) (RA.to aA_s_labels5_6 (Below.refl _ _)) g10 (Nat.le_refl _) (by omega) (RA.to aA_l6 (Below.refl _ _))).mono ?_
  rintro e w7 ⟨rfl, hb7⟩
  have hs7 : Below w6.heap.size w6 w7 := hb7
  have HW7 : Hid (Below w.heap.size w w7) := hide (HW6.out.trans (hs7.mono HW6.out.size))
  obtain ⟨hc7, _⟩ := bcell hb7
  have hz7 := hb7.size
  repeat rw [World.size_alloc] at hz7
  have l7_0 : w.heap.size < w7.heap.size := by omega
  have t7_0_0 : w7.cell? ⟨w.heap.size, 0, none⟩ = some (.int .i64 s.net.places) := (hc7 _ _ (by omega)).trans t6_0_0
  have t7_0_1 : w7.cell? ⟨w.heap.size, 1, none⟩ = some (.slice A_s_net_trans (s.net.trans).length c_s_net_trans) := (hc7 _ _ (by omega)).trans t6_0_1
  have t7_0_2 : w7.cell? ⟨w.heap.size, 2, none⟩ = some (.slice A_s_signals (s.signals).length c_s_signals) := (hc7 _ _ (by omega)).trans t6_0_2
  have t7_0_3 : w7.cell? ⟨w.heap.size, 3, none⟩ = some (.slice A_s_labels (s.labels).length c_s_labels) := (hc7 _ _ (by omega)).trans t6_0_3
  have t7_0_4 : w7.cell? ⟨w.heap.size, 4, none⟩ = some (.string ⟨(s.start).toArray⟩) := (hc7 _ _ (by omega)).trans t6_0_4
  have l7_1 : w5.heap.size < w7.heap.size := by omega
  have t7_1_0 : w7.cell? ⟨w5.heap.size, 0, none⟩ = some (.int .i64 s.net.places) := (hc7 _ _ (by omega)).trans t6_1_0
  have t7_1_1 : w7.cell? ⟨w5.heap.size, 1, none⟩ = some (.slice A_s_net_trans5 (s.net.trans).length (s.net.trans).length) := (hc7 _ _ (by omega)).trans t6_1_1
  have t7_1_2 : w7.cell? ⟨w5.heap.size, 2, none⟩ = some (.slice A_s_signals5 (s.signals).length (s.signals).length) := (hc7 _ _ (by omega)).trans t6_1_2
  have t7_1_3 : w7.cell? ⟨w5.heap.size, 3, none⟩ = some (.slice A_s_labels5 (s.labels).length (s.labels).length) := (hc7 _ _ (by omega)).trans t6_1_3
  have t7_1_4 : w7.cell? ⟨w5.heap.size, 4, none⟩ = some (.string ⟨(s.start).toArray⟩) := (hc7 _ _ (by omega)).trans t6_1_4
  clear t6_0_0
  clear t6_0_1
  clear t6_0_2
  clear t6_0_3
  clear t6_0_4
  clear t6_1_0
  clear t6_1_1
  clear t6_1_2
  clear t6_1_3
  clear t6_1_4
  have aA_s_net_trans2_7 := RA.to aA_s_net_trans2_6 hs7
  clear aA_s_net_trans2_6
  have aA_s_signals2_7 := RA.to aA_s_signals2_6 hs7
  clear aA_s_signals2_6
  have aA_s_labels2_7 := RA.to aA_s_labels2_6 hs7
  clear aA_s_labels2_6
  have aA_l3_7 := RA.to aA_l3_6 hs7
  clear aA_l3_6
  have aA_s_net_trans5_7 := RA.to aA_s_net_trans5_6 hs7
  clear aA_s_net_trans5_6
  have aA_s_signals5_7 := RA.to aA_s_signals5_6 hs7
  clear aA_s_signals5_6
  have aA_s_labels5_7 := RA.to aA_s_labels5_6 hs7
  clear aA_s_labels5_6
  have aA_l6_7 := RA.to aA_l6 hs7
  clear aA_l6
  clear hc7
  go_wp2_with fail
  go_region_held3 (fun W => W.cell? ⟨w5.heap.size, 0, none⟩ = some (.int .i64 s.net.places) ∧ W.cell? ⟨w5.heap.size, 1, none⟩ = some (.slice A_s_net_trans5 (s.net.trans).length (s.net.trans).length) ∧ W.cell? ⟨w5.heap.size, 2, none⟩ = some (.slice A_s_signals5 (s.signals).length (s.signals).length) ∧ W.cell? ⟨w5.heap.size, 3, none⟩ = some (.slice A_s_labels5 (s.labels).length (s.labels).length) ∧ W.cell? ⟨w5.heap.size, 4, none⟩ = some (.string ⟨(s.start).toArray⟩) ∧ W.cell? ⟨w.heap.size, 0, none⟩ = some (.int .i64 s.net.places) ∧ W.cell? ⟨w.heap.size, 1, none⟩ = some (.slice A_s_net_trans (s.net.trans).length c_s_net_trans) ∧ W.cell? ⟨w.heap.size, 2, none⟩ = some (.slice A_s_signals (s.signals).length c_s_signals) ∧ W.cell? ⟨w.heap.size, 3, none⟩ = some (.slice A_s_labels (s.labels).length c_s_labels) ∧ W.cell? ⟨w.heap.size, 4, none⟩ = some (.string ⟨(s.start).toArray⟩)) (first | exact ⟨t7_1_0, t7_1_1, t7_1_2, t7_1_3, t7_1_4, t7_0_0, t7_0_1, t7_0_2, t7_0_3, t7_0_4⟩ | exact ⟨(cell_later hb8 t7_1_0), (cell_later hb8 t7_1_1), (cell_later hb8 t7_1_2), (cell_later hb8 t7_1_3), (cell_later hb8 t7_1_4), (cell_later hb8 t7_0_0), (cell_later hb8 t7_0_1), (cell_later hb8 t7_0_2), (cell_later hb8 t7_0_3), (cell_later hb8 t7_0_4)⟩ | exact ⟨(cell_later hb9 (cell_later hb8 t7_1_0)), (cell_later hb9 (cell_later hb8 t7_1_1)), (cell_later hb9 (cell_later hb8 t7_1_2)), (cell_later hb9 (cell_later hb8 t7_1_3)), (cell_later hb9 (cell_later hb8 t7_1_4)), (cell_later hb9 (cell_later hb8 t7_0_0)), (cell_later hb9 (cell_later hb8 t7_0_1)), (cell_later hb9 (cell_later hb8 t7_0_2)), (cell_later hb9 (cell_later hb8 t7_0_3)), (cell_later hb9 (cell_later hb8 t7_0_4))⟩) (first | (go_at_call 16; refine (toSTG s A_s_net_trans c_s_net_trans A_s_signals c_s_signals A_s_labels c_s_labels _ g1 g2 (RA.to g3 HW7.out.drew) g4 g5 (RA.to g6 HW7.out.drew) g7 g8 (RA.to g9 HW7.out.drew) g10 qq_s).mono ?_; rintro e w8 ⟨A_s_net_trans8, A_s_signals8, A_s_labels8, rfl, rA_s_net_trans8, rA_s_signals8, rA_s_labels8, hb8⟩) | (go_at_call 19; refine (eqSTG s A_s_net_trans5 (s.net.trans).length A_s_signals5 (s.signals).length A_s_labels5 (s.labels).length A_s_net_trans8 (s.net.trans).length A_s_signals8 (s.signals).length A_s_labels8 (s.labels).length _  (Nat.le_refl _) (by omega) (RA.to aA_s_net_trans5_7 (Below.trans (Below.drew (Below.refl _ _)) hb8)) (Nat.le_refl _) (by omega) (RA.to aA_s_signals5_7 (Below.trans (Below.drew (Below.refl _ _)) hb8)) (Nat.le_refl _) (by omega) (RA.to aA_s_labels5_7 (Below.trans (Below.drew (Below.refl _ _)) hb8)) g10 (Nat.le_refl _) (by omega) ((rA_s_net_trans8).mono fun b hb => hb.2) (Nat.le_refl _) (by omega) ((rA_s_signals8).mono fun b hb => hb.2) (Nat.le_refl _) (by omega) ((rA_s_labels8).mono fun b hb => hb.2)).mono ?_; rintro e w9 ⟨rfl, hb9⟩))
  have hs9 : Below w7.heap.size w7 w9 := (Below.drew (Below.refl _ _)).trans (hb8.trans (hb9.mono hb8.size))
  have HW9 : Hid (Below w.heap.size w w9) := hide (HW7.out.trans (hs9.mono HW7.out.size))
  have hz9 : w7.heap.size ≤ w9.heap.size := Nat.le_trans hb8.size hb9.size
  have l9_0 : w.heap.size < w9.heap.size := by omega
  have t9_0_0 : w9.cell? ⟨w.heap.size, 0, none⟩ = some (.int .i64 s.net.places) := cell_later hb9 (cell_later hb8 t7_0_0)
  clear t7_0_0
  have t9_0_1 : w9.cell? ⟨w.heap.size, 1, none⟩ = some (.slice A_s_net_trans (s.net.trans).length c_s_net_trans) := cell_later hb9 (cell_later hb8 t7_0_1)
  clear t7_0_1
  have t9_0_2 : w9.cell? ⟨w.heap.size, 2, none⟩ = some (.slice A_s_signals (s.signals).length c_s_signals) := cell_later hb9 (cell_later hb8 t7_0_2)
  clear t7_0_2
  have t9_0_3 : w9.cell? ⟨w.heap.size, 3, none⟩ = some (.slice A_s_labels (s.labels).length c_s_labels) := cell_later hb9 (cell_later hb8 t7_0_3)
  clear t7_0_3
  have t9_0_4 : w9.cell? ⟨w.heap.size, 4, none⟩ = some (.string ⟨(s.start).toArray⟩) := cell_later hb9 (cell_later hb8 t7_0_4)
  clear t7_0_4
  have l9_1 : w5.heap.size < w9.heap.size := by omega
  have t9_1_0 : w9.cell? ⟨w5.heap.size, 0, none⟩ = some (.int .i64 s.net.places) := cell_later hb9 (cell_later hb8 t7_1_0)
  clear t7_1_0
  have t9_1_1 : w9.cell? ⟨w5.heap.size, 1, none⟩ = some (.slice A_s_net_trans5 (s.net.trans).length (s.net.trans).length) := cell_later hb9 (cell_later hb8 t7_1_1)
  clear t7_1_1
  have t9_1_2 : w9.cell? ⟨w5.heap.size, 2, none⟩ = some (.slice A_s_signals5 (s.signals).length (s.signals).length) := cell_later hb9 (cell_later hb8 t7_1_2)
  clear t7_1_2
  have t9_1_3 : w9.cell? ⟨w5.heap.size, 3, none⟩ = some (.slice A_s_labels5 (s.labels).length (s.labels).length) := cell_later hb9 (cell_later hb8 t7_1_3)
  clear t7_1_3
  have t9_1_4 : w9.cell? ⟨w5.heap.size, 4, none⟩ = some (.string ⟨(s.start).toArray⟩) := cell_later hb9 (cell_later hb8 t7_1_4)
  clear t7_1_4
  have aA_s_net_trans2_9 := RA.to aA_s_net_trans2_7 hs9
  clear aA_s_net_trans2_7
  have aA_s_signals2_9 := RA.to aA_s_signals2_7 hs9
  clear aA_s_signals2_7
  have aA_s_labels2_9 := RA.to aA_s_labels2_7 hs9
  clear aA_s_labels2_7
  have aA_l3_9 := RA.to aA_l3_7 hs9
  clear aA_l3_7
  have aA_s_net_trans5_9 := RA.to aA_s_net_trans5_7 hs9
  clear aA_s_net_trans5_7
  have aA_s_signals5_9 := RA.to aA_s_signals5_7 hs9
  clear aA_s_signals5_7
  have aA_s_labels5_9 := RA.to aA_s_labels5_7 hs9
  clear aA_s_labels5_7
  have aA_l6_9 := RA.to aA_l6_7 hs9
  clear aA_l6_7
  go_wp2_with fail
  refine (toDelayBoundsS A_l c_l l _ qq_l (RA.to g13 HW9.out)).mono ?_
  rintro e w10 ⟨A_l10, rfl, rA_l10, hb10⟩
  have hs10 : Below w9.heap.size w9 w10 := hb10
  have HW10 : Hid (Below w.heap.size w w10) := hide (HW9.out.trans (hs10.mono HW9.out.size))
  obtain ⟨hc10, _⟩ := bcell hb10
  have hz10 := hb10.size
  repeat rw [World.size_alloc] at hz10
  have l10_0 : w.heap.size < w10.heap.size := by omega
  have t10_0_0 : w10.cell? ⟨w.heap.size, 0, none⟩ = some (.int .i64 s.net.places) := (hc10 _ _ (by omega)).trans t9_0_0
  have t10_0_1 : w10.cell? ⟨w.heap.size, 1, none⟩ = some (.slice A_s_net_trans (s.net.trans).length c_s_net_trans) := (hc10 _ _ (by omega)).trans t9_0_1
  have t10_0_2 : w10.cell? ⟨w.heap.size, 2, none⟩ = some (.slice A_s_signals (s.signals).length c_s_signals) := (hc10 _ _ (by omega)).trans t9_0_2
  have t10_0_3 : w10.cell? ⟨w.heap.size, 3, none⟩ = some (.slice A_s_labels (s.labels).length c_s_labels) := (hc10 _ _ (by omega)).trans t9_0_3
  have t10_0_4 : w10.cell? ⟨w.heap.size, 4, none⟩ = some (.string ⟨(s.start).toArray⟩) := (hc10 _ _ (by omega)).trans t9_0_4
  have l10_1 : w5.heap.size < w10.heap.size := by omega
  have t10_1_0 : w10.cell? ⟨w5.heap.size, 0, none⟩ = some (.int .i64 s.net.places) := (hc10 _ _ (by omega)).trans t9_1_0
  have t10_1_1 : w10.cell? ⟨w5.heap.size, 1, none⟩ = some (.slice A_s_net_trans5 (s.net.trans).length (s.net.trans).length) := (hc10 _ _ (by omega)).trans t9_1_1
  have t10_1_2 : w10.cell? ⟨w5.heap.size, 2, none⟩ = some (.slice A_s_signals5 (s.signals).length (s.signals).length) := (hc10 _ _ (by omega)).trans t9_1_2
  have t10_1_3 : w10.cell? ⟨w5.heap.size, 3, none⟩ = some (.slice A_s_labels5 (s.labels).length (s.labels).length) := (hc10 _ _ (by omega)).trans t9_1_3
  have t10_1_4 : w10.cell? ⟨w5.heap.size, 4, none⟩ = some (.string ⟨(s.start).toArray⟩) := (hc10 _ _ (by omega)).trans t9_1_4
  clear t9_0_0
  clear t9_0_1
  clear t9_0_2
  clear t9_0_3
  clear t9_0_4
  clear t9_1_0
  clear t9_1_1
  clear t9_1_2
  clear t9_1_3
  clear t9_1_4
  have aA_s_net_trans2_10 := RA.to aA_s_net_trans2_9 hs10
  clear aA_s_net_trans2_9
  have aA_s_signals2_10 := RA.to aA_s_signals2_9 hs10
  clear aA_s_signals2_9
  have aA_s_labels2_10 := RA.to aA_s_labels2_9 hs10
  clear aA_s_labels2_9
  have aA_l3_10 := RA.to aA_l3_9 hs10
  clear aA_l3_9
  have aA_s_net_trans5_10 := RA.to aA_s_net_trans5_9 hs10
  clear aA_s_net_trans5_9
  have aA_s_signals5_10 := RA.to aA_s_signals5_9 hs10
  clear aA_s_signals5_9
  have aA_s_labels5_10 := RA.to aA_s_labels5_9 hs10
  clear aA_s_labels5_9
  have aA_l6_10 := RA.to aA_l6_9 hs10
  clear aA_l6_9
  clear hc10
  have aA_l10 : RA shDl w10 A_l10 l := (rA_l10).mono fun b hb => hb.2
  go_wp2_with fail
  refine (eqDelayBoundsS A_l6 A_l10 (l).length (l).length l _ (by omega) (RA.to aA_l6_10 (Below.refl _ _)) (RA.to aA_l10 (Below.refl _ _))).mono ?_
  rintro e w11 ⟨rfl, hb11⟩
  have hs11 : Below w10.heap.size w10 w11 := hb11
  have HW11 : Hid (Below w.heap.size w w11) := hide (HW10.out.trans (hs11.mono HW10.out.size))
  obtain ⟨hc11, _⟩ := bcell hb11
  have hz11 := hb11.size
  repeat rw [World.size_alloc] at hz11
  have l11_0 : w.heap.size < w11.heap.size := by omega
  have t11_0_0 : w11.cell? ⟨w.heap.size, 0, none⟩ = some (.int .i64 s.net.places) := (hc11 _ _ (by omega)).trans t10_0_0
  have t11_0_1 : w11.cell? ⟨w.heap.size, 1, none⟩ = some (.slice A_s_net_trans (s.net.trans).length c_s_net_trans) := (hc11 _ _ (by omega)).trans t10_0_1
  have t11_0_2 : w11.cell? ⟨w.heap.size, 2, none⟩ = some (.slice A_s_signals (s.signals).length c_s_signals) := (hc11 _ _ (by omega)).trans t10_0_2
  have t11_0_3 : w11.cell? ⟨w.heap.size, 3, none⟩ = some (.slice A_s_labels (s.labels).length c_s_labels) := (hc11 _ _ (by omega)).trans t10_0_3
  have t11_0_4 : w11.cell? ⟨w.heap.size, 4, none⟩ = some (.string ⟨(s.start).toArray⟩) := (hc11 _ _ (by omega)).trans t10_0_4
  have l11_1 : w5.heap.size < w11.heap.size := by omega
  have t11_1_0 : w11.cell? ⟨w5.heap.size, 0, none⟩ = some (.int .i64 s.net.places) := (hc11 _ _ (by omega)).trans t10_1_0
  have t11_1_1 : w11.cell? ⟨w5.heap.size, 1, none⟩ = some (.slice A_s_net_trans5 (s.net.trans).length (s.net.trans).length) := (hc11 _ _ (by omega)).trans t10_1_1
  have t11_1_2 : w11.cell? ⟨w5.heap.size, 2, none⟩ = some (.slice A_s_signals5 (s.signals).length (s.signals).length) := (hc11 _ _ (by omega)).trans t10_1_2
  have t11_1_3 : w11.cell? ⟨w5.heap.size, 3, none⟩ = some (.slice A_s_labels5 (s.labels).length (s.labels).length) := (hc11 _ _ (by omega)).trans t10_1_3
  have t11_1_4 : w11.cell? ⟨w5.heap.size, 4, none⟩ = some (.string ⟨(s.start).toArray⟩) := (hc11 _ _ (by omega)).trans t10_1_4
  clear t10_0_0
  clear t10_0_1
  clear t10_0_2
  clear t10_0_3
  clear t10_0_4
  clear t10_1_0
  clear t10_1_1
  clear t10_1_2
  clear t10_1_3
  clear t10_1_4
  have aA_s_net_trans2_11 := RA.to aA_s_net_trans2_10 hs11
  clear aA_s_net_trans2_10
  have aA_s_signals2_11 := RA.to aA_s_signals2_10 hs11
  clear aA_s_signals2_10
  have aA_s_labels2_11 := RA.to aA_s_labels2_10 hs11
  clear aA_s_labels2_10
  have aA_l3_11 := RA.to aA_l3_10 hs11
  clear aA_l3_10
  have aA_s_net_trans5_11 := RA.to aA_s_net_trans5_10 hs11
  clear aA_s_net_trans5_10
  have aA_s_signals5_11 := RA.to aA_s_signals5_10 hs11
  clear aA_s_signals5_10
  have aA_s_labels5_11 := RA.to aA_s_labels5_10 hs11
  clear aA_s_labels5_10
  have aA_l6_11 := RA.to aA_l6_10 hs11
  clear aA_l6_10
  have aA_l10_11 := RA.to aA_l10 hs11
  clear aA_l10
  clear hc11
  go_wp2_with fail
  go_ret
  exact ⟨rfl, HW11.out⟩
end Go.Proofs.Ytojfmppamebnkaa
