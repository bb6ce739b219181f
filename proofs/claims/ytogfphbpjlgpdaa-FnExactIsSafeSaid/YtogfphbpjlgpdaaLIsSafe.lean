/-
  FnExactIsSafe: the law's own walk: it returns true, whatever its arguments. Printed by a program of this repo (lawwalk.py).
-/
import Derived.Test.YtogfphbpjlgpdaaRows
import Derived.Test.YtogfphbpjlgpdaaSafe
import Derived.Test.YtogfphbpjlgpdaaLawNet
namespace Go.Proofs.Ytogfphbpjlgpdaa
open Go.RowKit
set_option linter.unusedVariables false

set_option maxHeartbeats 4000000 in
theorem law_IsSafe (n : Net) (m : List UInt8) (A_n_trans : Option Addr) (c_n_trans : Nat) (w : World) (g0 : InI n.places) (g1 : (n.trans).length ≤ c_n_trans) (g2 : c_n_trans ≤ 9223372036854775807) (g3 : RA shTr w A_n_trans n.trans) (g4 : (m).length ≤ 9223372036854775807) :
    Calls Try.prog 6 #[.agg #[.int .i64 n.places, .slice A_n_trans (n.trans).length c_n_trans], .string ⟨(m).toArray⟩] w fun e w' => e = .returned (.bool true) ∧ Below w.heap.size w w' := by
  go_enter Try.func6, Try.ntmps6
  by_cases q_m : (1048576 : Int) < (m).length
  · go_wp2_with fail
    go_ret
    exact ⟨rfl, by (repeat' (first | (with_reducible exact Below.refl _ _) | (with_reducible assumption) | (with_reducible refine below_drewN' ?_ _) | (with_reducible refine Below.drew ?_) | (with_reducible refine Below.alloc ?_ ?_ _) | (with_reducible refine Below.setCell ?_ ?_ _) | (with_reducible refine Below.then_ ?_ (by assumption) ?_) | go_size))⟩
  have q_m' : decide ((1048576 : Int) < (m).length) = false := by simpa using q_m
  go_wp2_with fail
  refine (szNet n A_n_trans c_n_trans (1048576) _ g1 g2 (RA.to g3 (by (repeat' (first | (with_reducible exact Below.refl _ _) | (with_reducible assumption) | (with_reducible refine below_drewN' ?_ _) | (with_reducible refine Below.drew ?_) | (with_reducible refine Below.alloc ?_ ?_ _) | (with_reducible refine Below.setCell ?_ ?_ _) | (with_reducible refine Below.then_ ?_ (by assumption) ?_) | go_size)))) (by omega) (by omega)).mono ?_
  rintro e w1 ⟨rfl, hb1⟩
  have HW1 : Hid (Below w.heap.size w w1) := hide (by (repeat' (first | (with_reducible exact Below.refl _ _) | (with_reducible assumption) | (with_reducible refine below_drewN' ?_ _) | (with_reducible refine Below.drew ?_) | (with_reducible refine Below.alloc ?_ ?_ _) | (with_reducible refine Below.setCell ?_ ?_ _) | (with_reducible refine Below.then_ ?_ (by assumption) ?_) | go_size)))
  obtain ⟨hc1, _⟩ := bcell hb1
  have hz1 := hb1.size
  repeat rw [World.size_alloc] at hz1
  have l1_0 : w.heap.size < w1.heap.size := by omega
  have t1_0_0 : w1.cell? ⟨w.heap.size, 0, none⟩ = some (.int .i64 n.places) := by rw [hc1 _ _ (by first | omega | (repeat rw [World.size_alloc]); omega)]; simp [go_sem]
  have t1_0_1 : w1.cell? ⟨w.heap.size, 1, none⟩ = some (.slice A_n_trans (n.trans).length c_n_trans) := by rw [hc1 _ _ (by first | omega | (repeat rw [World.size_alloc]); omega)]; simp [go_sem]
  clear hc1
  by_cases q_n : (1048576 : Int) < ((wtNet n) : Nat)
  · rw [szRes_neg q_n]
    go_wp2_with fail
    go_ret
    exact ⟨rfl, HW1.out⟩
  rw [szRes_pos q_n]
  have qq_n : ((wtNet n) : Nat) ≤ 1048576 := by omega
  have qs_n := qq_n
  unfold wtNet at qs_n
  go_wp2_with fail
  refine (toNet n A_n_trans c_n_trans _ g1 g2 (RA.to g3 HW1.out) qq_n).mono ?_
  rintro e w2 ⟨A_n_trans2, rfl, rA_n_trans2, hb2⟩
  have hs2 : Below w1.heap.size w1 w2 := hb2
  have HW2 : Hid (Below w.heap.size w w2) := hide (HW1.out.trans (hs2.mono HW1.out.size))
  obtain ⟨hc2, _⟩ := bcell hb2
  have hz2 := hb2.size
  repeat rw [World.size_alloc] at hz2
  have l2_0 : w.heap.size < w2.heap.size := by omega
  have t2_0_0 : w2.cell? ⟨w.heap.size, 0, none⟩ = some (.int .i64 n.places) := (hc2 _ _ (by omega)).trans t1_0_0
  have t2_0_1 : w2.cell? ⟨w.heap.size, 1, none⟩ = some (.slice A_n_trans (n.trans).length c_n_trans) := (hc2 _ _ (by omega)).trans t1_0_1
  clear t1_0_0
  clear t1_0_1
  clear hc2
  have aA_n_trans2 : RA shTr w2 A_n_trans2 n.trans := (rA_n_trans2).mono fun b hb => hb.2
  go_wp2_with fail
  refine (spec_IsSafe n m A_n_trans2 (n.trans).length _ g0 (Nat.le_refl _) (by omega) (RA.to aA_n_trans2 (Below.refl _ _)) g4).mono ?_
  rintro e w3 ⟨rfl, hb3⟩
  have hs3 : Below w2.heap.size w2 w3 := hb3
  have HW3 : Hid (Below w.heap.size w w3) := hide (HW2.out.trans (hs3.mono HW2.out.size))
  obtain ⟨hc3, _⟩ := bcell hb3
  have hz3 := hb3.size
  repeat rw [World.size_alloc] at hz3
  have l3_0 : w.heap.size < w3.heap.size := by omega
  have t3_0_0 : w3.cell? ⟨w.heap.size, 0, none⟩ = some (.int .i64 n.places) := (hc3 _ _ (by omega)).trans t2_0_0
  have t3_0_1 : w3.cell? ⟨w.heap.size, 1, none⟩ = some (.slice A_n_trans (n.trans).length c_n_trans) := (hc3 _ _ (by omega)).trans t2_0_1
  clear t2_0_0
  clear t2_0_1
  have aA_n_trans2_3 := RA.to aA_n_trans2 hs3
  clear aA_n_trans2
  clear hc3
  have hv : ∀ x : List (List UInt8) × Nat, safeV x = .tuple #[.bool (x.2 == 0), .bool (x.2 != 2)] := fun _ => rfl
  rw [hv]
  clear hv
  go_wp2_with fail
  refine (toNet n A_n_trans c_n_trans _ g1 g2 (RA.to g3 HW3.out) qq_n).mono ?_
  rintro e w4 ⟨A_n_trans4, rfl, rA_n_trans4, hb4⟩
  have hs4 : Below w3.heap.size w3 w4 := hb4
  have HW4 : Hid (Below w.heap.size w w4) := hide (HW3.out.trans (hs4.mono HW3.out.size))
  obtain ⟨hc4, _⟩ := bcell hb4
  have hz4 := hb4.size
  repeat rw [World.size_alloc] at hz4
  have l4_0 : w.heap.size < w4.heap.size := by omega
  have t4_0_0 : w4.cell? ⟨w.heap.size, 0, none⟩ = some (.int .i64 n.places) := (hc4 _ _ (by omega)).trans t3_0_0
  have t4_0_1 : w4.cell? ⟨w.heap.size, 1, none⟩ = some (.slice A_n_trans (n.trans).length c_n_trans) := (hc4 _ _ (by omega)).trans t3_0_1
  clear t3_0_0
  clear t3_0_1
  have aA_n_trans2_4 := RA.to aA_n_trans2_3 hs4
  clear aA_n_trans2_3
  clear hc4
  have aA_n_trans4 : RA shTr w4 A_n_trans4 n.trans := (rA_n_trans4).mono fun b hb => hb.2
  go_wp2_with fail
  refine (impl_IsSafe n m A_n_trans4 (n.trans).length _ g0 (Nat.le_refl _) (by omega) (RA.to aA_n_trans4 ((Below.refl _ _).alloc (Nat.le_refl _) _)) g4).mono ?_
  rintro e w5 ⟨rfl, hb5⟩
  have hs5 : Below w4.heap.size w4 w5 := ((Below.refl _ _).alloc (Nat.le_refl _) _).trans (hb5.mono (by rw [World.size_alloc]; omega))
  have HW5 : Hid (Below w.heap.size w w5) := hide (HW4.out.trans (hs5.mono HW4.out.size))
  obtain ⟨hc5, _⟩ := bcell hb5
  have hz5 := hb5.size
  repeat rw [World.size_alloc] at hz5
  have l5_0 : w.heap.size < w5.heap.size := by omega
  have t5_0_0 : w5.cell? ⟨w.heap.size, 0, none⟩ = some (.int .i64 n.places) := (hc5 _ _ (by rw [World.size_alloc]; omega)).trans (by rw [World.cell?_alloc_past _ _ _ (by omega)]; exact t4_0_0)
  have t5_0_1 : w5.cell? ⟨w.heap.size, 1, none⟩ = some (.slice A_n_trans (n.trans).length c_n_trans) := (hc5 _ _ (by rw [World.size_alloc]; omega)).trans (by rw [World.cell?_alloc_past _ _ _ (by omega)]; exact t4_0_1)
  have l5_1 : w4.heap.size < w5.heap.size := by omega
  have t5_1_0 : w5.cell? ⟨w4.heap.size, 0, none⟩ = some (.int .i64 n.places) := by rw [hc5 _ _ (by first | omega | (repeat rw [World.size_alloc]); omega)]; simp [go_sem]
  have t5_1_1 : w5.cell? ⟨w4.heap.size, 1, none⟩ = some (.slice A_n_trans4 (n.trans).length (n.trans).length) := by rw [hc5 _ _ (by first | omega | (repeat rw [World.size_alloc]); omega)]; simp [go_sem]
  clear t4_0_0
  clear t4_0_1
  have aA_n_trans2_5 := RA.to aA_n_trans2_4 hs5
  clear aA_n_trans2_4
  have aA_n_trans4_5 := RA.to aA_n_trans4 hs5
  clear aA_n_trans4
  clear hc5
  have hv : ∀ x : List (List UInt8) × Nat, safeV x = .tuple #[.bool (x.2 == 0), .bool (x.2 != 2)] := fun _ => rfl
  rw [hv]
  clear hv
  go_wp2_with fail
  go_region_held3 (fun W => W.cell? ⟨w4.heap.size, 0, none⟩ = some (.int .i64 n.places) ∧ W.cell? ⟨w4.heap.size, 1, none⟩ = some (.slice A_n_trans4 (n.trans).length (n.trans).length) ∧ W.cell? ⟨w.heap.size, 0, none⟩ = some (.int .i64 n.places) ∧ W.cell? ⟨w.heap.size, 1, none⟩ = some (.slice A_n_trans (n.trans).length c_n_trans)) (first | exact ⟨t5_1_0, t5_1_1, t5_0_0, t5_0_1⟩ | exact ⟨(cell_later hb6 t5_1_0), (cell_later hb6 t5_1_1), (cell_later hb6 t5_0_0), (cell_later hb6 t5_0_1)⟩ | exact ⟨(cell_later hb7 (cell_later hb6 t5_1_0)), (cell_later hb7 (cell_later hb6 t5_1_1)), (cell_later hb7 (cell_later hb6 t5_0_0)), (cell_later hb7 (cell_later hb6 t5_0_1))⟩) (first | (go_at_call 15; refine (toNet n A_n_trans c_n_trans _ g1 g2 (RA.to g3 HW5.out.drew) qq_n).mono ?_; rintro e w6 ⟨A_n_trans6, rfl, rA_n_trans6, hb6⟩) | (go_at_call 17; refine (eqNet n A_n_trans4 (n.trans).length A_n_trans6 (n.trans).length _  (Nat.le_refl _) (by omega) (RA.to aA_n_trans4_5 (Below.trans (Below.drew (Below.refl _ _)) hb6)) (Nat.le_refl _) (by omega) ((rA_n_trans6).mono fun b hb => hb.2)).mono ?_; rintro e w7 ⟨rfl, hb7⟩))
  have hs7 : Below w5.heap.size w5 w7 := (Below.drew (Below.refl _ _)).trans (hb6.trans (hb7.mono hb6.size))
  have HW7 : Hid (Below w.heap.size w w7) := hide (HW5.out.trans (hs7.mono HW5.out.size))
  have hz7 : w5.heap.size ≤ w7.heap.size := Nat.le_trans hb6.size hb7.size
  have l7_0 : w.heap.size < w7.heap.size := by omega
  have t7_0_0 : w7.cell? ⟨w.heap.size, 0, none⟩ = some (.int .i64 n.places) := cell_later hb7 (cell_later hb6 t5_0_0)
  clear t5_0_0
  have t7_0_1 : w7.cell? ⟨w.heap.size, 1, none⟩ = some (.slice A_n_trans (n.trans).length c_n_trans) := cell_later hb7 (cell_later hb6 t5_0_1)
  clear t5_0_1
  have l7_1 : w4.heap.size < w7.heap.size := by omega
  have t7_1_0 : w7.cell? ⟨w4.heap.size, 0, none⟩ = some (.int .i64 n.places) := cell_later hb7 (cell_later hb6 t5_1_0)
  clear t5_1_0
  have t7_1_1 : w7.cell? ⟨w4.heap.size, 1, none⟩ = some (.slice A_n_trans4 (n.trans).length (n.trans).length) := cell_later hb7 (cell_later hb6 t5_1_1)
  clear t5_1_1
  have aA_n_trans2_7 := RA.to aA_n_trans2_5 hs7
  clear aA_n_trans2_5
  have aA_n_trans4_7 := RA.to aA_n_trans4_5 hs7
  clear aA_n_trans4_5
  go_wp2_with fail
  go_ret
  exact ⟨rfl, HW7.out⟩
end Go.Proofs.Ytogfphbpjlgpdaa
