/-
  FnExactFireSequence: the law's own walk: it returns true, whatever its arguments. Printed by a program of this repo (lawwalk.py).
-/
import Derived.Test.YtogfphbpjlgpdaaRows
import Derived.Test.YtogfphbpjlgpdaaFireSeq
import Derived.Test.YtogfphbpjlgpdaaLawNet
namespace Go.Proofs.Ytogfphbpjlgpdaa
open Go.RowKit
set_option linter.unusedVariables false

set_option maxHeartbeats 4000000 in
theorem law_FireSequence (n : Net) (m : List UInt8) (l : List (Int)) (A_n_trans : Option Addr) (c_n_trans : Nat) (A_l : Option Addr) (c_l : Nat) (w : World) (g0 : InI n.places) (g1 : (n.trans).length ≤ c_n_trans) (g2 : c_n_trans ≤ 9223372036854775807) (g3 : RA shTr w A_n_trans n.trans) (g4 : (m).length ≤ 9223372036854775807) (g5 : (l).length ≤ c_l) (g6 : c_l ≤ 9223372036854775807) (g7 : RA shInt w A_l l) :
    Calls Try.prog 5 #[.agg #[.int .i64 n.places, .slice A_n_trans (n.trans).length c_n_trans], .string ⟨(m).toArray⟩, .slice A_l (l).length c_l] w fun e w' => e = .returned (.bool true) ∧ Below w.heap.size w w' := by
  go_enter Try.func5, Try.ntmps5
  by_cases q_m : (1048576 : Int) < (m).length
  · go_wp2_with fail
    go_ret
    exact ⟨rfl, by (repeat' (first | (with_reducible exact Below.refl _ _) | (with_reducible assumption) | (with_reducible refine below_drewN' ?_ _) | (with_reducible refine Below.drew ?_) | (with_reducible refine Below.alloc ?_ ?_ _) | (with_reducible refine Below.setCell ?_ ?_ _) | (with_reducible refine Below.then_ ?_ (by assumption) ?_) | go_size))⟩
  have q_m' : decide ((1048576 : Int) < (m).length) = false := by simpa using q_m
  by_cases q_l : (1048576 : Int) < (l).length
  · go_wp2_with fail
    go_ret
    exact ⟨rfl, by (repeat' (first | (with_reducible exact Below.refl _ _) | (with_reducible assumption) | (with_reducible refine below_drewN' ?_ _) | (with_reducible refine Below.drew ?_) | (with_reducible refine Below.alloc ?_ ?_ _) | (with_reducible refine Below.setCell ?_ ?_ _) | (with_reducible refine Below.then_ ?_ (by assumption) ?_) | go_size))⟩
  have q_l' : decide ((1048576 : Int) < (l).length) = false := by simpa using q_l
  go_wp2_with fail
  refine (szNet n A_n_trans c_n_trans (1048576) _ g1 g2 (RA.to g3 (by (repeat' (first | (with_reducible exact Below.refl _ _) | (with_reducible assumption) | (with_reducible refine below_drewN' ?_ _) | (with_reducible refine Below.drew ?_) | (with_reducible refine Below.alloc ?_ ?_ _) | (with_reducible refine Below.setCell ?_ ?_ _) | (with_reducible refine Below.then_ ?_ (by assumption) ?_) | go_size)))) (by omega) (by omega)).mono ?_
  rintro e w1 ⟨rfl, hb1⟩
  have HW1 : Hid (Below w.heap.size w w1) := hide (by (repeat' (first | (with_reducible exact Below.refl _ _) | (with_reducible assumption) | (with_reducible refine below_drewN' ?_ _) | (with_reducible refine Below.drew ?_) | (with_reducible refine Below.alloc ?_ ?_ _) | (with_reducible refine Below.setCell ?_ ?_ _) | (with_reducible refine Below.then_ ?_ (by assumption) ?_) | go_size)))
  obtain ⟨hc1, _⟩ := bcell hb1
  have hz1 := hb1.size
  repeat rw [World.size_alloc] at hz1
  have l1_0 : w.heap.size < w1.heap.size := by omega
  have t1_0_0 : w1.cell? ⟨w.heap.size, 0, none⟩ = some (.int .i64 n.places) := by rw [hc1 _ _ (by first | omega | (repeat rw [World.size_alloc]); omega)]; simp [go_sem]
  have t1_0_1 : w1.cell? ⟨w.heap.size, 1, none⟩ = some (.slice A_n_trans (n.trans).length c_n_trans) := by rw [hc1 _ _ (by first | omega | (repeat rw [World.size_alloc]); omega)]; simp [go_sem]
  clear hc1
  by_cases q_n : (1048576 : Int) < ((wtNet n) : Nat)
  · rw [szRes_neg q_n]
    go_wp2_with fail
    go_ret
    exact ⟨rfl, HW1.out⟩
  rw [szRes_pos q_n]
  have qq_n : ((wtNet n) : Nat) ≤ 1048576 := by omega
  have qs_n := qq_n
  unfold wtNet at qs_n
  go_wp2_with fail
  refine (toNet n A_n_trans c_n_trans _ g1 g2 (RA.to g3 HW1.out) qq_n).mono ?_
  rintro e w2 ⟨A_n_trans2, rfl, rA_n_trans2, hb2⟩
  have hs2 : Below w1.heap.size w1 w2 := hb2
  have HW2 : Hid (Below w.heap.size w w2) := hide (HW1.out.trans (hs2.mono HW1.out.size))
  obtain ⟨hc2, _⟩ := bcell hb2
  have hz2 := hb2.size
  repeat rw [World.size_alloc] at hz2
  have l2_0 : w.heap.size < w2.heap.size := by omega
  have t2_0_0 : w2.cell? ⟨w.heap.size, 0, none⟩ = some (.int .i64 n.places) := (hc2 _ _ (by omega)).trans t1_0_0
  have t2_0_1 : w2.cell? ⟨w.heap.size, 1, none⟩ = some (.slice A_n_trans (n.trans).length c_n_trans) := (hc2 _ _ (by omega)).trans t1_0_1
  clear t1_0_0
  clear t1_0_1
  clear hc2
  have aA_n_trans2 : RA shTr w2 A_n_trans2 n.trans := (rA_n_trans2).mono fun b hb => hb.2
  go_wp2_with fail
  refine (toIntS A_l c_l l _ (by omega) (RA.to g7 HW2.out)).mono ?_
  rintro e w3 ⟨A_l3, rfl, rA_l3, hb3⟩
  have hs3 : Below w2.heap.size w2 w3 := hb3
  have HW3 : Hid (Below w.heap.size w w3) := hide (HW2.out.trans (hs3.mono HW2.out.size))
  obtain ⟨hc3, _⟩ := bcell hb3
  have hz3 := hb3.size
  repeat rw [World.size_alloc] at hz3
  have l3_0 : w.heap.size < w3.heap.size := by omega
  have t3_0_0 : w3.cell? ⟨w.heap.size, 0, none⟩ = some (.int .i64 n.places) := (hc3 _ _ (by omega)).trans t2_0_0
  have t3_0_1 : w3.cell? ⟨w.heap.size, 1, none⟩ = some (.slice A_n_trans (n.trans).length c_n_trans) := (hc3 _ _ (by omega)).trans t2_0_1
  clear t2_0_0
  clear t2_0_1
  have aA_n_trans2_3 := RA.to aA_n_trans2 hs3
  clear aA_n_trans2
  clear hc3
  have aA_l3 : RA shInt w3 A_l3 l := (rA_l3).mono fun b hb => hb.2
  go_wp2_with fail
  refine (spec_FireSequence n m l A_n_trans2 A_l3 (n.trans).length (l).length _ g0 (Nat.le_refl _) (by omega) (RA.to aA_n_trans2_3 (Below.refl _ _)) g4 (by omega) (RA.to aA_l3 (Below.refl _ _))).mono ?_
  rintro e w4 ⟨rfl, hb4⟩
  have hs4 : Below w3.heap.size w3 w4 := hb4
  have HW4 : Hid (Below w.heap.size w w4) := hide (HW3.out.trans (hs4.mono HW3.out.size))
  obtain ⟨hc4, _⟩ := bcell hb4
  have hz4 := hb4.size
  repeat rw [World.size_alloc] at hz4
  have l4_0 : w.heap.size < w4.heap.size := by omega
  have t4_0_0 : w4.cell? ⟨w.heap.size, 0, none⟩ = some (.int .i64 n.places) := (hc4 _ _ (by omega)).trans t3_0_0
  have t4_0_1 : w4.cell? ⟨w.heap.size, 1, none⟩ = some (.slice A_n_trans (n.trans).length c_n_trans) := (hc4 _ _ (by omega)).trans t3_0_1
  clear t3_0_0
  clear t3_0_1
  have aA_n_trans2_4 := RA.to aA_n_trans2_3 hs4
  clear aA_n_trans2_3
  have aA_l3_4 := RA.to aA_l3 hs4
  clear aA_l3
  clear hc4
  have hv : ∀ x, seqV x = .tuple #[.string ⟨x.1.toArray⟩, .int .i64 x.2.1, .bool x.2.2] := fun _ => rfl
  rw [hv]
  clear hv
  go_wp2_with fail
  refine (toNet n A_n_trans c_n_trans _ g1 g2 (RA.to g3 HW4.out) qq_n).mono ?_
  rintro e w5 ⟨A_n_trans5, rfl, rA_n_trans5, hb5⟩
  have hs5 : Below w4.heap.size w4 w5 := hb5
  have HW5 : Hid (Below w.heap.size w w5) := hide (HW4.out.trans (hs5.mono HW4.out.size))
  obtain ⟨hc5, _⟩ := bcell hb5
  have hz5 := hb5.size
  repeat rw [World.size_alloc] at hz5
  have l5_0 : w.heap.size < w5.heap.size := by omega
  have t5_0_0 : w5.cell? ⟨w.heap.size, 0, none⟩ = some (.int .i64 n.places) := (hc5 _ _ (by omega)).trans t4_0_0
  have t5_0_1 : w5.cell? ⟨w.heap.size, 1, none⟩ = some (.slice A_n_trans (n.trans).length c_n_trans) := (hc5 _ _ (by omega)).trans t4_0_1
  clear t4_0_0
  clear t4_0_1
  have aA_n_trans2_5 := RA.to aA_n_trans2_4 hs5
  clear aA_n_trans2_4
  have aA_l3_5 := RA.to aA_l3_4 hs5
  clear aA_l3_4
  clear hc5
  have aA_n_trans5 : RA shTr w5 A_n_trans5 n.trans := (rA_n_trans5).mono fun b hb => hb.2
  go_wp2_with fail
  refine (toIntS A_l c_l l _ (by omega) (RA.to g7 (HW5.out.alloc HW5.out.size _))).mono ?_
  rintro e w6 ⟨A_l6, rfl, rA_l6, hb6⟩
  have hs6 : Below w5.heap.size w5 w6 := ((Below.refl _ _).alloc (Nat.le_refl _) _).trans (hb6.mono (by rw [World.size_alloc]; omega))
  have HW6 : Hid (Below w.heap.size w w6) := hide (HW5.out.trans (hs6.mono HW5.out.size))
  obtain ⟨hc6, _⟩ := bcell hb6
  have hz6 := hb6.size
  repeat rw [World.size_alloc] at hz6
  have l6_0 : w.heap.size < w6.heap.size := by omega
  have t6_0_0 : w6.cell? ⟨w.heap.size, 0, none⟩ = some (.int .i64 n.places) := (hc6 _ _ (by rw [World.size_alloc]; omega)).trans (by rw [World.cell?_alloc_past _ _ _ (by omega)]; exact t5_0_0)
  have t6_0_1 : w6.cell? ⟨w.heap.size, 1, none⟩ = some (.slice A_n_trans (n.trans).length c_n_trans) := (hc6 _ _ (by rw [World.size_alloc]; omega)).trans (by rw [World.cell?_alloc_past _ _ _ (by omega)]; exact t5_0_1)
  have l6_1 : w5.heap.size < w6.heap.size := by omega
  have t6_1_0 : w6.cell? ⟨w5.heap.size, 0, none⟩ = some (.int .i64 n.places) := by rw [hc6 _ _ (by first | omega | (repeat rw [World.size_alloc]); omega)]; simp [go_sem]
  have t6_1_1 : w6.cell? ⟨w5.heap.size, 1, none⟩ = some (.slice A_n_trans5 (n.trans).length (n.trans).length) := by rw [hc6 _ _ (by first | omega | (repeat rw [World.size_alloc]); omega)]; simp [go_sem]
  clear t5_0_0
  clear t5_0_1
  have aA_n_trans2_6 := RA.to aA_n_trans2_5 hs6
  clear aA_n_trans2_5
  have aA_l3_6 := RA.to aA_l3_5 hs6
  clear aA_l3_5
  have aA_n_trans5_6 := RA.to aA_n_trans5 hs6
  clear aA_n_trans5
  clear hc6
  have aA_l6 : RA shInt w6 A_l6 l := (rA_l6).mono fun b hb => hb.2
  go_wp2_with fail
  refine (impl_FireSequence n m l A_n_trans5 A_l6 (n.trans).length (l).length _ g0 (Nat.le_refl _) (by omega) (RA.to aA_n_trans5_6 (Below.refl _ _)) g4 (by omega) (RA.to aA_l6 (Below.refl _ _))).mono ?_
  rintro e w7 ⟨rfl, hb7⟩
  have hs7 : Below w6.heap.size w6 w7 := hb7
  have HW7 : Hid (Below w.heap.size w w7) := hide (HW6.out.trans (hs7.mono HW6.out.size))
  obtain ⟨hc7, _⟩ := bcell hb7
  have hz7 := hb7.size
  repeat rw [World.size_alloc] at hz7
  have l7_0 : w.heap.size < w7.heap.size := by omega
  have t7_0_0 : w7.cell? ⟨w.heap.size, 0, none⟩ = some (.int .i64 n.places) := (hc7 _ _ (by omega)).trans t6_0_0
  have t7_0_1 : w7.cell? ⟨w.heap.size, 1, none⟩ = some (.slice A_n_trans (n.trans).length c_n_trans) := (hc7 _ _ (by omega)).trans t6_0_1
  have l7_1 : w5.heap.size < w7.heap.size := by omega
  have t7_1_0 : w7.cell? ⟨w5.heap.size, 0, none⟩ = some (.int .i64 n.places) := (hc7 _ _ (by omega)).trans t6_1_0
  have t7_1_1 : w7.cell? ⟨w5.heap.size, 1, none⟩ = some (.slice A_n_trans5 (n.trans).length (n.trans).length) := (hc7 _ _ (by omega)).trans t6_1_1
  clear t6_0_0
  clear t6_0_1
  clear t6_1_0
  clear t6_1_1
  have aA_n_trans2_7 := RA.to aA_n_trans2_6 hs7
  clear aA_n_trans2_6
  have aA_l3_7 := RA.to aA_l3_6 hs7
  clear aA_l3_6
  have aA_n_trans5_7 := RA.to aA_n_trans5_6 hs7
  clear aA_n_trans5_6
  have aA_l6_7 := RA.to aA_l6 hs7
  clear aA_l6
  clear hc7
  have hv : ∀ x, seqV x = .tuple #[.string ⟨x.1.toArray⟩, .int .i64 x.2.1, .bool x.2.2] := fun _ => rfl
  rw [hv]
  clear hv
  go_wp2_with fail
  go_region_held3 (fun W => W.cell? ⟨w5.heap.size, 0, none⟩ = some (.int .i64 n.places) ∧ W.cell? ⟨w5.heap.size, 1, none⟩ = some (.slice A_n_trans5 (n.trans).length (n.trans).length) ∧ W.cell? ⟨w.heap.size, 0, none⟩ = some (.int .i64 n.places) ∧ W.cell? ⟨w.heap.size, 1, none⟩ = some (.slice A_n_trans (n.trans).length c_n_trans)) (first | exact ⟨t7_1_0, t7_1_1, t7_0_0, t7_0_1⟩ | exact ⟨(cell_later hb8 t7_1_0), (cell_later hb8 t7_1_1), (cell_later hb8 t7_0_0), (cell_later hb8 t7_0_1)⟩ | exact ⟨(cell_later hb9 (cell_later hb8 t7_1_0)), (cell_later hb9 (cell_later hb8 t7_1_1)), (cell_later hb9 (cell_later hb8 t7_0_0)), (cell_later hb9 (cell_later hb8 t7_0_1))⟩) (first | (go_at_call 15; refine (toNet n A_n_trans c_n_trans _ g1 g2 (RA.to g3 HW7.out.drew) qq_n).mono ?_; rintro e w8 ⟨A_n_trans8, rfl, rA_n_trans8, hb8⟩) | (go_at_call 17; refine (eqNet n A_n_trans5 (n.trans).length A_n_trans8 (n.trans).length _  (Nat.le_refl _) (by omega) (RA.to aA_n_trans5_7 (Below.trans (Below.drew (Below.refl _ _)) hb8)) (Nat.le_refl _) (by omega) ((rA_n_trans8).mono fun b hb => hb.2)).mono ?_; rintro e w9 ⟨rfl, hb9⟩))
  have hs9 : Below w7.heap.size w7 w9 := (Below.drew (Below.refl _ _)).trans (hb8.trans (hb9.mono hb8.size))
  have HW9 : Hid (Below w.heap.size w w9) := hide (HW7.out.trans (hs9.mono HW7.out.size))
  have hz9 : w7.heap.size ≤ w9.heap.size := Nat.le_trans hb8.size hb9.size
  have l9_0 : w.heap.size < w9.heap.size := by omega
  have t9_0_0 : w9.cell? ⟨w.heap.size, 0, none⟩ = some (.int .i64 n.places) := cell_later hb9 (cell_later hb8 t7_0_0)
  clear t7_0_0
  have t9_0_1 : w9.cell? ⟨w.heap.size, 1, none⟩ = some (.slice A_n_trans (n.trans).length c_n_trans) := cell_later hb9 (cell_later hb8 t7_0_1)
  clear t7_0_1
  have l9_1 : w5.heap.size < w9.heap.size := by omega
  have t9_1_0 : w9.cell? ⟨w5.heap.size, 0, none⟩ = some (.int .i64 n.places) := cell_later hb9 (cell_later hb8 t7_1_0)
  clear t7_1_0
  have t9_1_1 : w9.cell? ⟨w5.heap.size, 1, none⟩ = some (.slice A_n_trans5 (n.trans).length (n.trans).length) := cell_later hb9 (cell_later hb8 t7_1_1)
  clear t7_1_1
  have aA_n_trans2_9 := RA.to aA_n_trans2_7 hs9
  clear aA_n_trans2_7
  have aA_l3_9 := RA.to aA_l3_7 hs9
  clear aA_l3_7
  have aA_n_trans5_9 := RA.to aA_n_trans5_7 hs9
  clear aA_n_trans5_7
  have aA_l6_9 := RA.to aA_l6_7 hs9
  clear aA_l6_7
  go_wp2_with fail
  refine (toIntS A_l c_l l _ (by omega) (RA.to g7 HW9.out)).mono ?_
  rintro e w10 ⟨A_l10, rfl, rA_l10, hb10⟩
  have hs10 : Below w9.heap.size w9 w10 := hb10
  have HW10 : Hid (Below w.heap.size w w10) := hide (HW9.out.trans (hs10.mono HW9.out.size))
  obtain ⟨hc10, _⟩ := bcell hb10
  have hz10 := hb10.size
  repeat rw [World.size_alloc] at hz10
  have l10_0 : w.heap.size < w10.heap.size := by omega
  have t10_0_0 : w10.cell? ⟨w.heap.size, 0, none⟩ = some (.int .i64 n.places) := (hc10 _ _ (by omega)).trans t9_0_0
  have t10_0_1 : w10.cell? ⟨w.heap.size, 1, none⟩ = some (.slice A_n_trans (n.trans).length c_n_trans) := (hc10 _ _ (by omega)).trans t9_0_1
  have l10_1 : w5.heap.size < w10.heap.size := by omega
  have t10_1_0 : w10.cell? ⟨w5.heap.size, 0, none⟩ = some (.int .i64 n.places) := (hc10 _ _ (by omega)).trans t9_1_0
  have t10_1_1 : w10.cell? ⟨w5.heap.size, 1, none⟩ = some (.slice A_n_trans5 (n.trans).length (n.trans).length) := (hc10 _ _ (by omega)).trans t9_1_1
  clear t9_0_0
  clear t9_0_1
  clear t9_1_0
  clear t9_1_1
  have aA_n_trans2_10 := RA.to aA_n_trans2_9 hs10
  clear aA_n_trans2_9
  have aA_l3_10 := RA.to aA_l3_9 hs10
  clear aA_l3_9
  have aA_n_trans5_10 := RA.to aA_n_trans5_9 hs10
  clear aA_n_trans5_9
  have aA_l6_10 := RA.to aA_l6_9 hs10
  clear aA_l6_9
  clear hc10
  have aA_l10 : RA shInt w10 A_l10 l := (rA_l10).mono fun b hb => hb.2
  go_wp2_with fail
  refine (eqIntS A_l6 A_l10 (l).length (l).length l _ (by omega) (RA.to aA_l6_10 (Below.refl _ _)) (RA.to aA_l10 (Below.refl _ _))).mono ?_
  rintro e w11 ⟨rfl, hb11⟩
  have hs11 : Below w10.heap.size w10 w11 := hb11
  have HW11 : Hid (Below w.heap.size w w11) := hide (HW10.out.trans (hs11.mono HW10.out.size))
  obtain ⟨hc11, _⟩ := bcell hb11
  have hz11 := hb11.size
  repeat rw [World.size_alloc] at hz11
  have l11_0 : w.heap.size < w11.heap.size := by omega
  have t11_0_0 : w11.cell? ⟨w.heap.size, 0, none⟩ = some (.int .i64 n.places) := (hc11 _ _ (by omega)).trans t10_0_0
  have t11_0_1 : w11.cell? ⟨w.heap.size, 1, none⟩ = some (.slice A_n_trans (n.trans).length c_n_trans) := (hc11 _ _ (by omega)).trans t10_0_1
  have l11_1 : w5.heap.size < w11.heap.size := by omega
  have t11_1_0 : w11.cell? ⟨w5.heap.size, 0, none⟩ = some (.int .i64 n.places) := (hc11 _ _ (by omega)).trans t10_1_0
  have t11_1_1 : w11.cell? ⟨w5.heap.size, 1, none⟩ = some (.slice A_n_trans5 (n.trans).length (n.trans).length) := (hc11 _ _ (by omega)).trans t10_1_1
  clear t10_0_0
  clear t10_0_1
  clear t10_1_0
  clear t10_1_1
  have aA_n_trans2_11 := RA.to aA_n_trans2_10 hs11
  clear aA_n_trans2_10
  have aA_l3_11 := RA.to aA_l3_10 hs11
  clear aA_l3_10
  have aA_n_trans5_11 := RA.to aA_n_trans5_10 hs11
  clear aA_n_trans5_10
  have aA_l6_11 := RA.to aA_l6_10 hs11
  clear aA_l6_10
  have aA_l10_11 := RA.to aA_l10 hs11
  clear aA_l10
  clear hc11
  go_wp2_with fail
  go_ret
  exact ⟨rfl, HW11.out⟩
end Go.Proofs.Ytogfphbpjlgpdaa
