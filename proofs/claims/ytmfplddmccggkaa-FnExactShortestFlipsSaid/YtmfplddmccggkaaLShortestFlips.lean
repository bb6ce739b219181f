/-
  FnExactShortestFlips: the law's own walk: it returns true, whatever its arguments. Printed by a program of this repo (lawwalk.py).
-/
import Derived.Test.YtmfplddmccggkaaRows
import Derived.Test.YtmfplddmccggkaaSfC
import Derived.Test.YtmfplddmccggkaaLawPp
import Derived.Test.YtmfplddmccggkaaMarkPp
namespace Go.Proofs.Ytmfplddmccggkaa.Lw
open Go.RowKit
set_option linter.unusedVariables false

set_option maxHeartbeats 4000000 in
theorem law_ShortestFlips (p : ProdG) (k : Int) (A_p_states : Option Addr) (c_p_states : Nat) (A_p_flips : Option Addr) (c_p_flips : Nat) (A_p_extra : Option Addr) (c_p_extra : Nat) (w : World) (g0 : (p.states).length ≤ c_p_states) (g1 : c_p_states ≤ 9223372036854775807) (g2 : RA shPSt w A_p_states p.states) (g3 : (p.flips).length ≤ c_p_flips) (g4 : c_p_flips ≤ 9223372036854775807) (g5 : RA shFlip w A_p_flips p.flips) (g6 : (p.extra).length ≤ c_p_extra) (g7 : c_p_extra ≤ 9223372036854775807) (g8 : RA shFlip w A_p_extra p.extra) (g9 : InI k) :
    Calls Try.prog 3 #[.agg #[.slice A_p_states (p.states).length c_p_states, .slice A_p_flips (p.flips).length c_p_flips, .slice A_p_extra (p.extra).length c_p_extra], .int .i64 k] w fun e w' => e = .returned (.bool true) ∧ Below w.heap.size w w' := by
  obtain ⟨R, hR⟩ : ∃ R, sfP p k = R := ⟨_, rfl⟩
  have hRb := sfP_len p k
  rw [hR] at hRb
  have HR := hide hR; clear hR
  go_enter Try.func3, Try.ntmps3
  go_wp2_with fail
  refine (szProduct p A_p_states c_p_states A_p_flips c_p_flips A_p_extra c_p_extra (1048576) _ g0 g1 (RA.to g2 (by (repeat' (first | (with_reducible exact Below.refl _ _) | (with_reducible assumption) | (with_reducible refine below_drewN' ?_ _) | (with_reducible refine Below.drew ?_) | (with_reducible refine Below.alloc ?_ ?_ _) | (with_reducible refine Below.setCell ?_ ?_ _) | (with_reducible refine Below.then_ ?_ (by assumption) ?_) | go_size)))) g3 g4 (RA.to g5 (by (repeat' (first | (with_reducible exact Below.refl _ _) | (with_reducible assumption) | (with_reducible refine below_drewN' ?_ _) | (with_reducible refine Below.drew ?_) | (with_reducible refine Below.alloc ?_ ?_ _) | (with_reducible refine Below.setCell ?_ ?_ _) | (with_reducible refine Below.then_ ?_ (by assumption) ?_) | go_size)))) g6 g7 (RA.to g8 (by (repeat' (first | (with_reducible exact Below.refl _ _) | (with_reducible assumption) | (with_reducible refine below_drewN' ?_ _) | (with_reducible refine Below.drew ?_) | (with_reducible refine Below.alloc ?_ ?_ _) | (with_reducible refine Below.setCell ?_ ?_ _) | (with_reducible refine Below.then_ ?_ (by assumption) ?_) | go_size)))) (by omega) (by omega)).mono ?_
  rintro e w1 ⟨rfl, hb1⟩
  have HW1 : Hid (Below w.heap.size w w1) := hide (by (repeat' (first | (with_reducible exact Below.refl _ _) | (with_reducible assumption) | (with_reducible refine below_drewN' ?_ _) | (with_reducible refine Below.drew ?_) | (with_reducible refine Below.alloc ?_ ?_ _) | (with_reducible refine Below.setCell ?_ ?_ _) | (with_reducible refine Below.then_ ?_ (by assumption) ?_) | go_size)))
  obtain ⟨hc1, _⟩ := bcell hb1
  have hz1 := hb1.size
  repeat rw [World.size_alloc] at hz1
  have l1_0 : w.heap.size < w1.heap.size := by omega
  have t1_0_0 : w1.cell? ⟨w.heap.size, 0, none⟩ = some (.slice A_p_states (p.states).length c_p_states) := by rw [hc1 _ _ (by first | omega | (repeat rw [World.size_alloc]); omega)]; simp [go_sem]
  have t1_0_1 : w1.cell? ⟨w.heap.size, 1, none⟩ = some (.slice A_p_flips (p.flips).length c_p_flips) := by rw [hc1 _ _ (by first | omega | (repeat rw [World.size_alloc]); omega)]; simp [go_sem]
  have t1_0_2 : w1.cell? ⟨w.heap.size, 2, none⟩ = some (.slice A_p_extra (p.extra).length c_p_extra) := by rw [hc1 _ _ (by first | omega | (repeat rw [World.size_alloc]); omega)]; simp [go_sem]
  clear hc1
  by_cases q_p : (1048576 : Int) < ((wtProdG p) : Nat)
  · rw [szRes_neg q_p]
    go_wp2_with fail
    go_ret
    exact ⟨rfl, HW1.out⟩
  rw [szRes_pos q_p]
  have qq_p : ((wtProdG p) : Nat) ≤ 1048576 := by omega
  have qs_p := qq_p
  unfold wtProdG at qs_p
  go_wp2_with fail
  refine (toProduct p A_p_states c_p_states A_p_flips c_p_flips A_p_extra c_p_extra _ g0 g1 (RA.to g2 HW1.out) g3 g4 (RA.to g5 HW1.out) g6 g7 (RA.to g8 HW1.out) qq_p).mono ?_
  rintro e w2 ⟨A_p_states2, A_p_flips2, A_p_extra2, rfl, rA_p_states2, rA_p_flips2, rA_p_extra2, hb2, fz2⟩
  have hs2 : Below w1.heap.size w1 w2 := hb2
  have HW2 : Hid (Below w.heap.size w w2) := hide (HW1.out.trans (hs2.mono HW1.out.size))
  obtain ⟨hc2, _⟩ := bcell hb2
  have hz2 := hb2.size
  repeat rw [World.size_alloc] at hz2
  have l2_0 : w.heap.size < w2.heap.size := by omega
  have t2_0_0 : w2.cell? ⟨w.heap.size, 0, none⟩ = some (.slice A_p_states (p.states).length c_p_states) := (hc2 _ _ (by omega)).trans t1_0_0
  have t2_0_1 : w2.cell? ⟨w.heap.size, 1, none⟩ = some (.slice A_p_flips (p.flips).length c_p_flips) := (hc2 _ _ (by omega)).trans t1_0_1
  have t2_0_2 : w2.cell? ⟨w.heap.size, 2, none⟩ = some (.slice A_p_extra (p.extra).length c_p_extra) := (hc2 _ _ (by omega)).trans t1_0_2
  clear t1_0_0
  clear t1_0_1
  clear t1_0_2
  clear hc2
  have aA_p_states2 : RA shPSt w2 A_p_states2 p.states := (rA_p_states2).mono fun b hb => hb.2
  have aA_p_flips2 : RA shFlip w2 A_p_flips2 p.flips := (rA_p_flips2).mono fun b hb => hb.2
  have aA_p_extra2 : RA shFlip w2 A_p_extra2 p.extra := (rA_p_extra2).mono fun b hb => hb.2
  go_wp2_with fail
  refine (spec_ShortestFlips p k A_p_states2 (p.states).length A_p_flips2 (p.flips).length A_p_extra2 (p.extra).length _ (Nat.le_refl _) (by omega) (RA.to aA_p_states2 (Below.refl _ _)) (Nat.le_refl _) (by omega) (RA.to aA_p_flips2 (Below.refl _ _)) (Nat.le_refl _) (by omega) (RA.to aA_p_extra2 (Below.refl _ _))).mono ?_
  rintro e w3 ⟨A3_0, c3_0, rfl, ho3_0, hb3⟩
  have hs3 : Below w2.heap.size w2 w3 := hb3
  have HW3 : Hid (Below w.heap.size w w3) := hide (HW2.out.trans (hs3.mono HW2.out.size))
  obtain ⟨hc3, _⟩ := bcell hb3
  have hz3 := hb3.size
  repeat rw [World.size_alloc] at hz3
  have l3_0 : w.heap.size < w3.heap.size := by omega
  have t3_0_0 : w3.cell? ⟨w.heap.size, 0, none⟩ = some (.slice A_p_states (p.states).length c_p_states) := (hc3 _ _ (by omega)).trans t2_0_0
  have t3_0_1 : w3.cell? ⟨w.heap.size, 1, none⟩ = some (.slice A_p_flips (p.flips).length c_p_flips) := (hc3 _ _ (by omega)).trans t2_0_1
  have t3_0_2 : w3.cell? ⟨w.heap.size, 2, none⟩ = some (.slice A_p_extra (p.extra).length c_p_extra) := (hc3 _ _ (by omega)).trans t2_0_2
  clear t2_0_0
  clear t2_0_1
  clear t2_0_2
  have aA_p_states2_3 := RA.to aA_p_states2 hs3
  clear aA_p_states2
  have aA_p_flips2_3 := RA.to aA_p_flips2 hs3
  clear aA_p_flips2
  have aA_p_extra2_3 := RA.to aA_p_extra2 hs3
  clear aA_p_extra2
  clear hc3
  rw [HR.out] at ho3_0
  have hlt3_0 := ho3_0.lt
  rw [HR.out]
  go_wp2_with fail
  refine (toProduct p A_p_states c_p_states A_p_flips c_p_flips A_p_extra c_p_extra _ g0 g1 (RA.to g2 HW3.out) g3 g4 (RA.to g5 HW3.out) g6 g7 (RA.to g8 HW3.out) qq_p).mono ?_
  rintro e w4 ⟨A_p_states4, A_p_flips4, A_p_extra4, rfl, rA_p_states4, rA_p_flips4, rA_p_extra4, hb4, fz4⟩
  have hs4 : Below w3.heap.size w3 w4 := hb4
  have HW4 : Hid (Below w.heap.size w w4) := hide (HW3.out.trans (hs4.mono HW3.out.size))
  obtain ⟨hc4, _⟩ := bcell hb4
  have hz4 := hb4.size
  repeat rw [World.size_alloc] at hz4
  have l4_0 : w.heap.size < w4.heap.size := by omega
  have t4_0_0 : w4.cell? ⟨w.heap.size, 0, none⟩ = some (.slice A_p_states (p.states).length c_p_states) := (hc4 _ _ (by omega)).trans t3_0_0
  have t4_0_1 : w4.cell? ⟨w.heap.size, 1, none⟩ = some (.slice A_p_flips (p.flips).length c_p_flips) := (hc4 _ _ (by omega)).trans t3_0_1
  have t4_0_2 : w4.cell? ⟨w.heap.size, 2, none⟩ = some (.slice A_p_extra (p.extra).length c_p_extra) := (hc4 _ _ (by omega)).trans t3_0_2
  clear t3_0_0
  clear t3_0_1
  clear t3_0_2
  have ho3_0_4 := Own.to ho3_0 hs4
  clear ho3_0
  clear hc4
  have aA_p_states4 : RA shPSt w4 A_p_states4 p.states := (rA_p_states4).mono fun b hb => hb.2
  have aA_p_flips4 : RA shFlip w4 A_p_flips4 p.flips := (rA_p_flips4).mono fun b hb => hb.2
  have aA_p_extra4 : RA shFlip w4 A_p_extra4 p.extra := (rA_p_extra4).mono fun b hb => hb.2
  have hlo_p : w.heap.size ≤ w3.heap.size := HW3.out.size
  go_wp2_with fail
  refine (impl_ShortestFlips p k A_p_states4 (p.states).length A_p_flips4 (p.flips).length A_p_extra4 (p.extra).length _ (Nat.le_refl _) (by omega) (RA.to aA_p_states4 ((Below.refl _ _).alloc (Nat.le_refl _) _)) (Nat.le_refl _) (by omega) (RA.to aA_p_flips4 ((Below.refl _ _).alloc (Nat.le_refl _) _)) (Nat.le_refl _) (by omega) (RA.to aA_p_extra4 ((Below.refl _ _).alloc (Nat.le_refl _) _))).mono ?_
  rintro e w5 ⟨A5_0, c5_0, rfl, ho5_0, hb5⟩
  have hs5 : Below w4.heap.size w4 w5 := ((Below.refl _ _).alloc (Nat.le_refl _) _).trans (hb5.mono (by rw [World.size_alloc]; omega))
  have HW5 : Hid (Below w.heap.size w w5) := hide (HW4.out.trans (hs5.mono HW4.out.size))
  obtain ⟨hc5, _⟩ := bcell hb5
  have hz5 := hb5.size
  repeat rw [World.size_alloc] at hz5
  have l5_0 : w.heap.size < w5.heap.size := by omega
  have t5_0_0 : w5.cell? ⟨w.heap.size, 0, none⟩ = some (.slice A_p_states (p.states).length c_p_states) := (hc5 _ _ (by rw [World.size_alloc]; omega)).trans (by rw [World.cell?_alloc_past _ _ _ (by omega)]; exact t4_0_0)
  have t5_0_1 : w5.cell? ⟨w.heap.size, 1, none⟩ = some (.slice A_p_flips (p.flips).length c_p_flips) := (hc5 _ _ (by rw [World.size_alloc]; omega)).trans (by rw [World.cell?_alloc_past _ _ _ (by omega)]; exact t4_0_1)
  have t5_0_2 : w5.cell? ⟨w.heap.size, 2, none⟩ = some (.slice A_p_extra (p.extra).length c_p_extra) := (hc5 _ _ (by rw [World.size_alloc]; omega)).trans (by rw [World.cell?_alloc_past _ _ _ (by omega)]; exact t4_0_2)
  have l5_1 : w4.heap.size < w5.heap.size := by omega
  have t5_1_0 : w5.cell? ⟨w4.heap.size, 0, none⟩ = some (.slice A_p_states4 (p.states).length (p.states).length) := by rw [hc5 _ _ (by first | omega | (repeat rw [World.size_alloc]); omega)]; simp [go_sem]
  have t5_1_1 : w5.cell? ⟨w4.heap.size, 1, none⟩ = some (.slice A_p_flips4 (p.flips).length (p.flips).length) := by rw [hc5 _ _ (by first | omega | (repeat rw [World.size_alloc]); omega)]; simp [go_sem]
  have t5_1_2 : w5.cell? ⟨w4.heap.size, 2, none⟩ = some (.slice A_p_extra4 (p.extra).length (p.extra).length) := by rw [hc5 _ _ (by first | omega | (repeat rw [World.size_alloc]); omega)]; simp [go_sem]
  clear t4_0_0
  clear t4_0_1
  clear t4_0_2
  have aA_p_states4_5 := RA.to aA_p_states4 hs5
  clear aA_p_states4
  have aA_p_flips4_5 := RA.to aA_p_flips4 hs5
  clear aA_p_flips4
  have aA_p_extra4_5 := RA.to aA_p_extra4 hs5
  clear aA_p_extra4
  have HXp_5 : Hid (Below w4.heap.size w4 w5) := hide hs5
  have ho3_0_5 := Own.to ho3_0_4 hs5
  clear ho3_0_4
  clear hc5
  rw [HR.out] at ho5_0
  have hlt5_0 := ho5_0.lt
  simp only [World.size_alloc] at hlt5_0
  rw [HR.out]
  go_wp2_with fail
  refine (eqIntS A5_0 A3_0 c5_0 c3_0 R.1 _ (by omega) (RA.to ho5_0.ra (Below.refl _ _)) (RA.to ho3_0_5.ra (Below.refl _ _))).mono ?_
  rintro e w6 ⟨rfl, hb6⟩
  have hs6 : Below w5.heap.size w5 w6 := hb6
  have HW6 : Hid (Below w.heap.size w w6) := hide (HW5.out.trans (hs6.mono HW5.out.size))
  obtain ⟨hc6, _⟩ := bcell hb6
  have hz6 := hb6.size
  repeat rw [World.size_alloc] at hz6
  have l6_0 : w.heap.size < w6.heap.size := by omega
  have t6_0_0 : w6.cell? ⟨w.heap.size, 0, none⟩ = some (.slice A_p_states (p.states).length c_p_states) := (hc6 _ _ (by omega)).trans t5_0_0
  have t6_0_1 : w6.cell? ⟨w.heap.size, 1, none⟩ = some (.slice A_p_flips (p.flips).length c_p_flips) := (hc6 _ _ (by omega)).trans t5_0_1
  have t6_0_2 : w6.cell? ⟨w.heap.size, 2, none⟩ = some (.slice A_p_extra (p.extra).length c_p_extra) := (hc6 _ _ (by omega)).trans t5_0_2
  have l6_1 : w4.heap.size < w6.heap.size := by omega
  have t6_1_0 : w6.cell? ⟨w4.heap.size, 0, none⟩ = some (.slice A_p_states4 (p.states).length (p.states).length) := (hc6 _ _ (by omega)).trans t5_1_0
  have t6_1_1 : w6.cell? ⟨w4.heap.size, 1, none⟩ = some (.slice A_p_flips4 (p.flips).length (p.flips).length) := (hc6 _ _ (by omega)).trans t5_1_1
  have t6_1_2 : w6.cell? ⟨w4.heap.size, 2, none⟩ = some (.slice A_p_extra4 (p.extra).length (p.extra).length) := (hc6 _ _ (by omega)).trans t5_1_2
  clear t5_0_0
  clear t5_0_1
  clear t5_0_2
  clear t5_1_0
  clear t5_1_1
  clear t5_1_2
  have aA_p_states4_6 := RA.to aA_p_states4_5 hs6
  clear aA_p_states4_5
  have aA_p_flips4_6 := RA.to aA_p_flips4_5 hs6
  clear aA_p_flips4_5
  have aA_p_extra4_6 := RA.to aA_p_extra4_5 hs6
  clear aA_p_extra4_5
  have HXp_6 : Hid (Below w4.heap.size w4 w6) := hide (HXp_5.out.trans (hs6.mono HXp_5.out.size))
  clear HXp_5
  have ho3_0_6 := Own.to ho3_0_5 hs6
  clear ho3_0_5
  have ho5_0_6 := Own.to ho5_0 hs6
  clear ho5_0
  clear hc6
  go_wp2_with fail
  go_region_held3 (fun W => W.cell? ⟨w4.heap.size, 0, none⟩ = some (.slice A_p_states4 (p.states).length (p.states).length) ∧ W.cell? ⟨w4.heap.size, 1, none⟩ = some (.slice A_p_flips4 (p.flips).length (p.flips).length) ∧ W.cell? ⟨w4.heap.size, 2, none⟩ = some (.slice A_p_extra4 (p.extra).length (p.extra).length) ∧ W.cell? ⟨w.heap.size, 0, none⟩ = some (.slice A_p_states (p.states).length c_p_states) ∧ W.cell? ⟨w.heap.size, 1, none⟩ = some (.slice A_p_flips (p.flips).length c_p_flips) ∧ W.cell? ⟨w.heap.size, 2, none⟩ = some (.slice A_p_extra (p.extra).length c_p_extra)) (first | exact ⟨t6_1_0, t6_1_1, t6_1_2, t6_0_0, t6_0_1, t6_0_2⟩ | exact ⟨(cell_later hb7 t6_1_0), (cell_later hb7 t6_1_1), (cell_later hb7 t6_1_2), (cell_later hb7 t6_0_0), (cell_later hb7 t6_0_1), (cell_later hb7 t6_0_2)⟩ | exact ⟨(cell_later hb8 (cell_later hb7 t6_1_0)), (cell_later hb8 (cell_later hb7 t6_1_1)), (cell_later hb8 (cell_later hb7 t6_1_2)), (cell_later hb8 (cell_later hb7 t6_0_0)), (cell_later hb8 (cell_later hb7 t6_0_1)), (cell_later hb8 (cell_later hb7 t6_0_2))⟩) (first | (go_at_call 8; refine (toProduct p A_p_states c_p_states A_p_flips c_p_flips A_p_extra c_p_extra _ g0 g1 (RA.to g2 HW6.out.drew) g3 g4 (RA.to g5 HW6.out.drew) g6 g7 (RA.to g8 HW6.out.drew) qq_p).mono ?_; rintro e w7 ⟨A_p_states7, A_p_flips7, A_p_extra7, rfl, rA_p_states7, rA_p_flips7, rA_p_extra7, hb7, fz7⟩) | (go_at_call 11; refine (eqProduct p A_p_states4 (p.states).length A_p_flips4 (p.flips).length A_p_extra4 (p.extra).length A_p_states7 (p.states).length A_p_flips7 (p.flips).length A_p_extra7 (p.extra).length _ (Nat.le_refl _) (by omega) (RA.to aA_p_states4_6 (Below.trans (Below.drew (Below.refl _ _)) hb7)) (Nat.le_refl _) (by omega) (RA.to aA_p_flips4_6 (Below.trans (Below.drew (Below.refl _ _)) hb7)) (Nat.le_refl _) (by omega) (RA.to aA_p_extra4_6 (Below.trans (Below.drew (Below.refl _ _)) hb7)) (Nat.le_refl _) (by omega) ((rA_p_states7).mono fun b hb => hb.2) (Nat.le_refl _) (by omega) ((rA_p_flips7).mono fun b hb => hb.2) (Nat.le_refl _) (by omega) ((rA_p_extra7).mono fun b hb => hb.2)).mono ?_; rintro e w8 ⟨rfl, hb8⟩))
  have hs8 : Below w6.heap.size w6 w8 := (Below.drew (Below.refl _ _)).trans (hb7.trans (hb8.mono hb7.size))
  have HW8 : Hid (Below w.heap.size w w8) := hide (HW6.out.trans (hs8.mono HW6.out.size))
  have hz8 : w6.heap.size ≤ w8.heap.size := Nat.le_trans hb7.size hb8.size
  have l8_0 : w.heap.size < w8.heap.size := by omega
  have t8_0_0 : w8.cell? ⟨w.heap.size, 0, none⟩ = some (.slice A_p_states (p.states).length c_p_states) := cell_later hb8 (cell_later hb7 t6_0_0)
  clear t6_0_0
  have t8_0_1 : w8.cell? ⟨w.heap.size, 1, none⟩ = some (.slice A_p_flips (p.flips).length c_p_flips) := cell_later hb8 (cell_later hb7 t6_0_1)
  clear t6_0_1
  have t8_0_2 : w8.cell? ⟨w.heap.size, 2, none⟩ = some (.slice A_p_extra (p.extra).length c_p_extra) := cell_later hb8 (cell_later hb7 t6_0_2)
  clear t6_0_2
  have l8_1 : w4.heap.size < w8.heap.size := by omega
  have t8_1_0 : w8.cell? ⟨w4.heap.size, 0, none⟩ = some (.slice A_p_states4 (p.states).length (p.states).length) := cell_later hb8 (cell_later hb7 t6_1_0)
  clear t6_1_0
  have t8_1_1 : w8.cell? ⟨w4.heap.size, 1, none⟩ = some (.slice A_p_flips4 (p.flips).length (p.flips).length) := cell_later hb8 (cell_later hb7 t6_1_1)
  clear t6_1_1
  have t8_1_2 : w8.cell? ⟨w4.heap.size, 2, none⟩ = some (.slice A_p_extra4 (p.extra).length (p.extra).length) := cell_later hb8 (cell_later hb7 t6_1_2)
  clear t6_1_2
  have aA_p_states4_8 := RA.to aA_p_states4_6 hs8
  clear aA_p_states4_6
  have aA_p_flips4_8 := RA.to aA_p_flips4_6 hs8
  clear aA_p_flips4_6
  have aA_p_extra4_8 := RA.to aA_p_extra4_6 hs8
  clear aA_p_extra4_6
  have HXp_8 : Hid (Below w4.heap.size w4 w8) := hide (HXp_6.out.trans (hs8.mono HXp_6.out.size))
  clear HXp_6
  have ho3_0_8 := Own.to ho3_0_6 hs8
  clear ho3_0_6
  have ho5_0_8 := Own.to ho5_0_6 hs8
  clear ho5_0_6
  have hD : ∀ b, (fun b => Fresh w3 w4 b) b → b < w8.heap.size := fun b hd => by
    exact Nat.lt_of_lt_of_le hd.2 HXp_8.out.size
  have hnf : ∀ b o, (fun b => Fresh w3 w4 b) b → w8.frozen? ⟨b, o, none⟩ = false := fun b o hd => by
    exact (HXp_8.out.frozen (p := ⟨b, o, none⟩) hd.2).trans (fz4.fresh hd.1)
  have mrA_p_states4 : RSl shPSt w8 (fun b => Fresh w3 w4 b) A_p_states4 p.states := (rA_p_states4.below HXp_8.out (fun b hd => hd.2)).mono (fun b hd => hd)
  have mrA_p_flips4 : RSl shFlip w8 (fun b => Fresh w3 w4 b) A_p_flips4 p.flips := (rA_p_flips4.below HXp_8.out (fun b hd => hd.2)).mono (fun b hd => hd)
  have mrA_p_extra4 : RSl shFlip w8 (fun b => Fresh w3 w4 b) A_p_extra4 p.extra := (rA_p_extra4.below HXp_8.out (fun b hd => hd.2)).mono (fun b hd => hd)
  have hM0 := Marked.refl (fun b => Fresh w3 w4 b) w8
  go_wp2_with fail
  refine (markProduct_arg w8 (fun b => Fresh w3 w4 b) hD hnf p A_p_states4 (p.states).length A_p_flips4 (p.flips).length A_p_extra4 (p.extra).length (Nat.le_refl _) (by omega) mrA_p_states4 (Nat.le_refl _) (by omega) mrA_p_flips4 (Nat.le_refl _) (by omega) mrA_p_extra4 1 _ hM0 (by omega) (by omega)).mono ?_
  rintro e w9 ⟨n9, rfl, hp9, hq9, hM9, hT9⟩
  have hz9 := hT9.size
  have HW9 : Hid (Below w.heap.size w w9) := hide (HW8.out.trans (hT9.below (fun q hd => by have h1 := hd.1; have h2 := hd.2; omega) HW8.out.size))
  have l9_0 : w.heap.size < w9.heap.size := by omega
  have t9_0_0 : w9.cell? ⟨w.heap.size, 0, none⟩ = some (.slice A_p_states (p.states).length c_p_states) := (hT9.cell (by omega) (fun hd => by have h1 := hd.1; have h2 := hd.2; omega)).trans t8_0_0
  clear t8_0_0
  have t9_0_1 : w9.cell? ⟨w.heap.size, 1, none⟩ = some (.slice A_p_flips (p.flips).length c_p_flips) := (hT9.cell (by omega) (fun hd => by have h1 := hd.1; have h2 := hd.2; omega)).trans t8_0_1
  clear t8_0_1
  have t9_0_2 : w9.cell? ⟨w.heap.size, 2, none⟩ = some (.slice A_p_extra (p.extra).length c_p_extra) := (hT9.cell (by omega) (fun hd => by have h1 := hd.1; have h2 := hd.2; omega)).trans t8_0_2
  clear t8_0_2
  have l9_1 : w4.heap.size < w9.heap.size := by omega
  have t9_1_0 : w9.cell? ⟨w4.heap.size, 0, none⟩ = some (.slice A_p_states4 (p.states).length (p.states).length) := (hT9.cell (by omega) (fun hd => by have h1 := hd.1; have h2 := hd.2; omega)).trans t8_1_0
  clear t8_1_0
  have t9_1_1 : w9.cell? ⟨w4.heap.size, 1, none⟩ = some (.slice A_p_flips4 (p.flips).length (p.flips).length) := (hT9.cell (by omega) (fun hd => by have h1 := hd.1; have h2 := hd.2; omega)).trans t8_1_1
  clear t8_1_1
  have t9_1_2 : w9.cell? ⟨w4.heap.size, 2, none⟩ = some (.slice A_p_extra4 (p.extra).length (p.extra).length) := (hT9.cell (by omega) (fun hd => by have h1 := hd.1; have h2 := hd.2; omega)).trans t8_1_2
  clear t8_1_2
  have ho3_0_9 := Touch.own hT9 ho3_0_8 (fun q hq hd => by have h1 := hd.1; have h2 := hd.2; have h3 := hlt3_0 q hq; omega)
  clear ho3_0_8
  have ho5_0_9 := Touch.own hT9 ho5_0_8 (fun q hq hd => by have h1 := hd.1; have h2 := hd.2; have h3 := hlt5_0 q hq; omega)
  clear ho5_0_8
  clear HXp_8
  have qn : decide (n9 < 0) = false := by simp; omega
  go_wp2_with fail
  refine (eqIntS A5_0 A3_0 c5_0 c3_0 R.1 _ (by omega) (RA.to ho5_0_9.ra (Below.refl _ _)) (RA.to ho3_0_9.ra (Below.refl _ _))).mono ?_
  rintro e w10 ⟨rfl, hb10⟩
  have hs10 : Below w9.heap.size w9 w10 := hb10
  have HW10 : Hid (Below w.heap.size w w10) := hide (HW9.out.trans (hs10.mono HW9.out.size))
  obtain ⟨hc10, _⟩ := bcell hb10
  have hz10 := hb10.size
  repeat rw [World.size_alloc] at hz10
  have l10_0 : w.heap.size < w10.heap.size := by omega
  have t10_0_0 : w10.cell? ⟨w.heap.size, 0, none⟩ = some (.slice A_p_states (p.states).length c_p_states) := (hc10 _ _ (by omega)).trans t9_0_0
  have t10_0_1 : w10.cell? ⟨w.heap.size, 1, none⟩ = some (.slice A_p_flips (p.flips).length c_p_flips) := (hc10 _ _ (by omega)).trans t9_0_1
  have t10_0_2 : w10.cell? ⟨w.heap.size, 2, none⟩ = some (.slice A_p_extra (p.extra).length c_p_extra) := (hc10 _ _ (by omega)).trans t9_0_2
  have l10_1 : w4.heap.size < w10.heap.size := by omega
  have t10_1_0 : w10.cell? ⟨w4.heap.size, 0, none⟩ = some (.slice A_p_states4 (p.states).length (p.states).length) := (hc10 _ _ (by omega)).trans t9_1_0
  have t10_1_1 : w10.cell? ⟨w4.heap.size, 1, none⟩ = some (.slice A_p_flips4 (p.flips).length (p.flips).length) := (hc10 _ _ (by omega)).trans t9_1_1
  have t10_1_2 : w10.cell? ⟨w4.heap.size, 2, none⟩ = some (.slice A_p_extra4 (p.extra).length (p.extra).length) := (hc10 _ _ (by omega)).trans t9_1_2
  clear t9_0_0
  clear t9_0_1
  clear t9_0_2
  clear t9_1_0
  clear t9_1_1
  clear t9_1_2
  have ho3_0_10 := Own.to ho3_0_9 hs10
  clear ho3_0_9
  have ho5_0_10 := Own.to ho5_0_9 hs10
  clear ho5_0_9
  clear hc10
  go_wp2_with fail
  refine (markIntS_own _ _ A5_0 c5_0 R.1 1 _ ho5_0_10 (by omega) (by omega)).mono ?_
  rintro e w11 ⟨rfl, hr11, hT11⟩
  have hz11 := hT11.size
  have HW11 : Hid (Below w.heap.size w w11) := hide (HW10.out.trans (hT11.below (fun q hd => by have h3 := hlt5_0 q hd; omega) HW10.out.size))
  have l11_0 : w.heap.size < w11.heap.size := by omega
  have t11_0_0 : w11.cell? ⟨w.heap.size, 0, none⟩ = some (.slice A_p_states (p.states).length c_p_states) := (hT11.cell (by omega) (fun hd => by have h3 := hlt5_0 _ hd; omega)).trans t10_0_0
  clear t10_0_0
  have t11_0_1 : w11.cell? ⟨w.heap.size, 1, none⟩ = some (.slice A_p_flips (p.flips).length c_p_flips) := (hT11.cell (by omega) (fun hd => by have h3 := hlt5_0 _ hd; omega)).trans t10_0_1
  clear t10_0_1
  have t11_0_2 : w11.cell? ⟨w.heap.size, 2, none⟩ = some (.slice A_p_extra (p.extra).length c_p_extra) := (hT11.cell (by omega) (fun hd => by have h3 := hlt5_0 _ hd; omega)).trans t10_0_2
  clear t10_0_2
  have l11_1 : w4.heap.size < w11.heap.size := by omega
  have t11_1_0 : w11.cell? ⟨w4.heap.size, 0, none⟩ = some (.slice A_p_states4 (p.states).length (p.states).length) := (hT11.cell (by omega) (fun hd => by have h3 := hlt5_0 _ hd; omega)).trans t10_1_0
  clear t10_1_0
  have t11_1_1 : w11.cell? ⟨w4.heap.size, 1, none⟩ = some (.slice A_p_flips4 (p.flips).length (p.flips).length) := (hT11.cell (by omega) (fun hd => by have h3 := hlt5_0 _ hd; omega)).trans t10_1_1
  clear t10_1_1
  have t11_1_2 : w11.cell? ⟨w4.heap.size, 2, none⟩ = some (.slice A_p_extra4 (p.extra).length (p.extra).length) := (hT11.cell (by omega) (fun hd => by have h3 := hlt5_0 _ hd; omega)).trans t10_1_2
  clear t10_1_2
  have ho3_0_11 := Touch.own hT11 ho3_0_10 (fun q hq hd => by have h3 := hlt3_0 q hq; have h4 := hlt5_0 q hd; omega)
  clear ho3_0_10
  have aG11 : RA shInt w11 A5_0 (marksL mkInt 1 1 R.1) := hr11.mono (fun b hd => by have h3 := hlt5_0 b hd; omega)
  have qh : decide (1 + 1 * (R.1.length : Int) < 0) = false := by simp; omega
  go_wp2_with fail
  refine (heldIntS A5_0 c5_0 R.1 1 _ (by omega) (RA.to aG11 (Below.refl _ _)) (by omega) (by omega)).mono ?_
  rintro e w12 ⟨rfl, hb12⟩
  have hs12 : Below w11.heap.size w11 w12 := hb12
  have HW12 : Hid (Below w.heap.size w w12) := hide (HW11.out.trans (hs12.mono HW11.out.size))
  obtain ⟨hc12, _⟩ := bcell hb12
  have hz12 := hb12.size
  repeat rw [World.size_alloc] at hz12
  have l12_0 : w.heap.size < w12.heap.size := by omega
  have t12_0_0 : w12.cell? ⟨w.heap.size, 0, none⟩ = some (.slice A_p_states (p.states).length c_p_states) := (hc12 _ _ (by omega)).trans t11_0_0
  have t12_0_1 : w12.cell? ⟨w.heap.size, 1, none⟩ = some (.slice A_p_flips (p.flips).length c_p_flips) := (hc12 _ _ (by omega)).trans t11_0_1
  have t12_0_2 : w12.cell? ⟨w.heap.size, 2, none⟩ = some (.slice A_p_extra (p.extra).length c_p_extra) := (hc12 _ _ (by omega)).trans t11_0_2
  have l12_1 : w4.heap.size < w12.heap.size := by omega
  have t12_1_0 : w12.cell? ⟨w4.heap.size, 0, none⟩ = some (.slice A_p_states4 (p.states).length (p.states).length) := (hc12 _ _ (by omega)).trans t11_1_0
  have t12_1_1 : w12.cell? ⟨w4.heap.size, 1, none⟩ = some (.slice A_p_flips4 (p.flips).length (p.flips).length) := (hc12 _ _ (by omega)).trans t11_1_1
  have t12_1_2 : w12.cell? ⟨w4.heap.size, 2, none⟩ = some (.slice A_p_extra4 (p.extra).length (p.extra).length) := (hc12 _ _ (by omega)).trans t11_1_2
  clear t11_0_0
  clear t11_0_1
  clear t11_0_2
  clear t11_1_0
  clear t11_1_1
  clear t11_1_2
  have aG11_12 := RA.to aG11 hs12
  clear aG11
  have ho3_0_12 := Own.to ho3_0_11 hs12
  clear ho3_0_11
  clear hc12
  go_wp2_with fail
  refine (toProduct p A_p_states c_p_states A_p_flips c_p_flips A_p_extra c_p_extra _ g0 g1 (RA.to g2 HW12.out) g3 g4 (RA.to g5 HW12.out) g6 g7 (RA.to g8 HW12.out) qq_p).mono ?_
  rintro e w13 ⟨A_p_states13, A_p_flips13, A_p_extra13, rfl, rA_p_states13, rA_p_flips13, rA_p_extra13, hb13, fz13⟩
  have hs13 : Below w12.heap.size w12 w13 := hb13
  have HW13 : Hid (Below w.heap.size w w13) := hide (HW12.out.trans (hs13.mono HW12.out.size))
  obtain ⟨hc13, _⟩ := bcell hb13
  have hz13 := hb13.size
  repeat rw [World.size_alloc] at hz13
  have l13_0 : w.heap.size < w13.heap.size := by omega
  have t13_0_0 : w13.cell? ⟨w.heap.size, 0, none⟩ = some (.slice A_p_states (p.states).length c_p_states) := (hc13 _ _ (by omega)).trans t12_0_0
  have t13_0_1 : w13.cell? ⟨w.heap.size, 1, none⟩ = some (.slice A_p_flips (p.flips).length c_p_flips) := (hc13 _ _ (by omega)).trans t12_0_1
  have t13_0_2 : w13.cell? ⟨w.heap.size, 2, none⟩ = some (.slice A_p_extra (p.extra).length c_p_extra) := (hc13 _ _ (by omega)).trans t12_0_2
  have l13_1 : w4.heap.size < w13.heap.size := by omega
  have t13_1_0 : w13.cell? ⟨w4.heap.size, 0, none⟩ = some (.slice A_p_states4 (p.states).length (p.states).length) := (hc13 _ _ (by omega)).trans t12_1_0
  have t13_1_1 : w13.cell? ⟨w4.heap.size, 1, none⟩ = some (.slice A_p_flips4 (p.flips).length (p.flips).length) := (hc13 _ _ (by omega)).trans t12_1_1
  have t13_1_2 : w13.cell? ⟨w4.heap.size, 2, none⟩ = some (.slice A_p_extra4 (p.extra).length (p.extra).length) := (hc13 _ _ (by omega)).trans t12_1_2
  clear t12_0_0
  clear t12_0_1
  clear t12_0_2
  clear t12_1_0
  clear t12_1_1
  clear t12_1_2
  have aG11_13 := RA.to aG11_12 hs13
  clear aG11_12
  have ho3_0_13 := Own.to ho3_0_12 hs13
  clear ho3_0_12
  clear hc13
  have aA_p_states13 : RA shPSt w13 A_p_states13 p.states := (rA_p_states13).mono fun b hb => hb.2
  have aA_p_flips13 : RA shFlip w13 A_p_flips13 p.flips := (rA_p_flips13).mono fun b hb => hb.2
  have aA_p_extra13 : RA shFlip w13 A_p_extra13 p.extra := (rA_p_extra13).mono fun b hb => hb.2
  go_wp2_with fail
  refine (impl_ShortestFlips p k A_p_states13 (p.states).length A_p_flips13 (p.flips).length A_p_extra13 (p.extra).length _ (Nat.le_refl _) (by omega) (RA.to aA_p_states13 (Below.refl _ _)) (Nat.le_refl _) (by omega) (RA.to aA_p_flips13 (Below.refl _ _)) (Nat.le_refl _) (by omega) (RA.to aA_p_extra13 (Below.refl _ _))).mono ?_
  rintro e w14 ⟨A14_0, c14_0, rfl, ho14_0, hb14⟩
  have hs14 : Below w13.heap.size w13 w14 := hb14
  have HW14 : Hid (Below w.heap.size w w14) := hide (HW13.out.trans (hs14.mono HW13.out.size))
  obtain ⟨hc14, _⟩ := bcell hb14
  have hz14 := hb14.size
  repeat rw [World.size_alloc] at hz14
  have l14_0 : w.heap.size < w14.heap.size := by omega
  have t14_0_0 : w14.cell? ⟨w.heap.size, 0, none⟩ = some (.slice A_p_states (p.states).length c_p_states) := (hc14 _ _ (by omega)).trans t13_0_0
  have t14_0_1 : w14.cell? ⟨w.heap.size, 1, none⟩ = some (.slice A_p_flips (p.flips).length c_p_flips) := (hc14 _ _ (by omega)).trans t13_0_1
  have t14_0_2 : w14.cell? ⟨w.heap.size, 2, none⟩ = some (.slice A_p_extra (p.extra).length c_p_extra) := (hc14 _ _ (by omega)).trans t13_0_2
  have l14_1 : w4.heap.size < w14.heap.size := by omega
  have t14_1_0 : w14.cell? ⟨w4.heap.size, 0, none⟩ = some (.slice A_p_states4 (p.states).length (p.states).length) := (hc14 _ _ (by omega)).trans t13_1_0
  have t14_1_1 : w14.cell? ⟨w4.heap.size, 1, none⟩ = some (.slice A_p_flips4 (p.flips).length (p.flips).length) := (hc14 _ _ (by omega)).trans t13_1_1
  have t14_1_2 : w14.cell? ⟨w4.heap.size, 2, none⟩ = some (.slice A_p_extra4 (p.extra).length (p.extra).length) := (hc14 _ _ (by omega)).trans t13_1_2
  clear t13_0_0
  clear t13_0_1
  clear t13_0_2
  clear t13_1_0
  clear t13_1_1
  clear t13_1_2
  have aG11_14 := RA.to aG11_13 hs14
  clear aG11_13
  have aA_p_states13_14 := RA.to aA_p_states13 hs14
  clear aA_p_states13
  have aA_p_flips13_14 := RA.to aA_p_flips13 hs14
  clear aA_p_flips13
  have aA_p_extra13_14 := RA.to aA_p_extra13 hs14
  clear aA_p_extra13
  have ho3_0_14 := Own.to ho3_0_13 hs14
  clear ho3_0_13
  clear hc14
  rw [HR.out] at ho14_0
  have hlt14_0 := ho14_0.lt
  rw [HR.out]
  go_wp2_with fail
  refine (eqIntS A14_0 A3_0 c14_0 c3_0 R.1 _ (by omega) (RA.to ho14_0.ra (Below.refl _ _)) (RA.to ho3_0_14.ra (Below.refl _ _))).mono ?_
  rintro e w15 ⟨rfl, hb15⟩
  have hs15 : Below w14.heap.size w14 w15 := hb15
  have HW15 : Hid (Below w.heap.size w w15) := hide (HW14.out.trans (hs15.mono HW14.out.size))
  obtain ⟨hc15, _⟩ := bcell hb15
  have hz15 := hb15.size
  repeat rw [World.size_alloc] at hz15
  have l15_0 : w.heap.size < w15.heap.size := by omega
  have t15_0_0 : w15.cell? ⟨w.heap.size, 0, none⟩ = some (.slice A_p_states (p.states).length c_p_states) := (hc15 _ _ (by omega)).trans t14_0_0
  have t15_0_1 : w15.cell? ⟨w.heap.size, 1, none⟩ = some (.slice A_p_flips (p.flips).length c_p_flips) := (hc15 _ _ (by omega)).trans t14_0_1
  have t15_0_2 : w15.cell? ⟨w.heap.size, 2, none⟩ = some (.slice A_p_extra (p.extra).length c_p_extra) := (hc15 _ _ (by omega)).trans t14_0_2
  have l15_1 : w4.heap.size < w15.heap.size := by omega
  have t15_1_0 : w15.cell? ⟨w4.heap.size, 0, none⟩ = some (.slice A_p_states4 (p.states).length (p.states).length) := (hc15 _ _ (by omega)).trans t14_1_0
  have t15_1_1 : w15.cell? ⟨w4.heap.size, 1, none⟩ = some (.slice A_p_flips4 (p.flips).length (p.flips).length) := (hc15 _ _ (by omega)).trans t14_1_1
  have t15_1_2 : w15.cell? ⟨w4.heap.size, 2, none⟩ = some (.slice A_p_extra4 (p.extra).length (p.extra).length) := (hc15 _ _ (by omega)).trans t14_1_2
  clear t14_0_0
  clear t14_0_1
  clear t14_0_2
  clear t14_1_0
  clear t14_1_1
  clear t14_1_2
  have aG11_15 := RA.to aG11_14 hs15
  clear aG11_14
  have aA_p_states13_15 := RA.to aA_p_states13_14 hs15
  clear aA_p_states13_14
  have aA_p_flips13_15 := RA.to aA_p_flips13_14 hs15
  clear aA_p_flips13_14
  have aA_p_extra13_15 := RA.to aA_p_extra13_14 hs15
  clear aA_p_extra13_14
  have ho3_0_15 := Own.to ho3_0_14 hs15
  clear ho3_0_14
  have ho14_0_15 := Own.to ho14_0 hs15
  clear ho14_0
  clear hc15
  go_wp2_with fail
  refine (heldIntS A5_0 c5_0 R.1 1 _ (by omega) (RA.to aG11_15 (Below.refl _ _)) (by omega) (by omega)).mono ?_
  rintro e w16 ⟨rfl, hb16⟩
  have hs16 : Below w15.heap.size w15 w16 := hb16
  have HW16 : Hid (Below w.heap.size w w16) := hide (HW15.out.trans (hs16.mono HW15.out.size))
  obtain ⟨hc16, _⟩ := bcell hb16
  have hz16 := hb16.size
  repeat rw [World.size_alloc] at hz16
  have l16_0 : w.heap.size < w16.heap.size := by omega
  have t16_0_0 : w16.cell? ⟨w.heap.size, 0, none⟩ = some (.slice A_p_states (p.states).length c_p_states) := (hc16 _ _ (by omega)).trans t15_0_0
  have t16_0_1 : w16.cell? ⟨w.heap.size, 1, none⟩ = some (.slice A_p_flips (p.flips).length c_p_flips) := (hc16 _ _ (by omega)).trans t15_0_1
  have t16_0_2 : w16.cell? ⟨w.heap.size, 2, none⟩ = some (.slice A_p_extra (p.extra).length c_p_extra) := (hc16 _ _ (by omega)).trans t15_0_2
  have l16_1 : w4.heap.size < w16.heap.size := by omega
  have t16_1_0 : w16.cell? ⟨w4.heap.size, 0, none⟩ = some (.slice A_p_states4 (p.states).length (p.states).length) := (hc16 _ _ (by omega)).trans t15_1_0
  have t16_1_1 : w16.cell? ⟨w4.heap.size, 1, none⟩ = some (.slice A_p_flips4 (p.flips).length (p.flips).length) := (hc16 _ _ (by omega)).trans t15_1_1
  have t16_1_2 : w16.cell? ⟨w4.heap.size, 2, none⟩ = some (.slice A_p_extra4 (p.extra).length (p.extra).length) := (hc16 _ _ (by omega)).trans t15_1_2
  clear t15_0_0
  clear t15_0_1
  clear t15_0_2
  clear t15_1_0
  clear t15_1_1
  clear t15_1_2
  have aG11_16 := RA.to aG11_15 hs16
  clear aG11_15
  have aA_p_states13_16 := RA.to aA_p_states13_15 hs16
  clear aA_p_states13_15
  have aA_p_flips13_16 := RA.to aA_p_flips13_15 hs16
  clear aA_p_flips13_15
  have aA_p_extra13_16 := RA.to aA_p_extra13_15 hs16
  clear aA_p_extra13_15
  have ho3_0_16 := Own.to ho3_0_15 hs16
  clear ho3_0_15
  have ho14_0_16 := Own.to ho14_0_15 hs16
  clear ho14_0_15
  clear hc16
  go_wp2_with fail
  go_ret
  exact ⟨rfl, HW16.out⟩
end Go.Proofs.Ytmfplddmccggkaa.Lw
