/-
  The contracts of the laws' own helpers over: str[]/eq Mv/eq Mv[]/eq RG/eq. Printed by a program of this repo (lawgen.py).
-/
import Derived.Test.YtnpbdphfjablbaaRows
import Derived.Test.YtnpbdphfjablbaaData
import Derived.Test.YtnpbdphfjablbaaFrz
import Derived.Test.YtnpbdphfjablbaaLawTm
namespace Go.Proofs.Ytnpbdphfjablbaa.Lw
open Go.RowKit
set_option linter.unusedVariables false

set_option maxHeartbeats 1000000 in
theorem eqStringS (A A' : Option Addr) (c c' : Nat) (l : (List (List UInt8))) (w : World) (hl : l.length ≤ 9223372036854775807) (hr : RA shStr w A l) (hr' : RA shStr w A' l) :
    Calls Try.prog 76 #[.slice A l.length c, .slice A' l.length c'] w fun e w' => e = .returned (.bool true) ∧ Below w.heap.size w w' := by
  go_enter Try.func76, Try.ntmps76
  go_wp2
  go_loopw [5] (fun i wr => ∃ k : Nat, k ≤ l.length ∧ i = .int .i64 k ∧ Below w.heap.size w wr) (fun i _ => l.length - (intOf i).toNat)
  case atStart => exact ⟨0, Nat.zero_le _, rfl, Below.refl _ _⟩
  case round =>
    obtain ⟨k, hk, rfl, hb⟩ := hrel
    have hsz := hb.size
    by_cases hlt : k < l.length
    · obtain ⟨x, hx⟩ := get_of_lt hlt
      obtain ⟨b, off, rfl, hbl, d0, f0⟩ := hr.str_at hb hx
      obtain ⟨b', off', rfl, hbl', d0', f0'⟩ := hr'.str_at hb hx
      have HX := hide hx; clear hx
      go_wp2_with fail
      go_quiet (fail)
      go_wp2_with fail
      go_roundw
      case rel => exact ⟨k + 1, by omega, by go_num, by (repeat' (first | (with_reducible exact Below.refl _ _) | (with_reducible assumption) | (with_reducible refine below_drewN' ?_ _) | (with_reducible refine Below.drew ?_) | (with_reducible refine Below.alloc ?_ ?_ _) | (with_reducible refine Below.setCell ?_ ?_ _) | (with_reducible refine Below.then_ ?_ (by assumption) ?_) | go_size))⟩
      case measure => simp [intOf]; omega
    · go_wp2
      go_ret
      exact ⟨rfl, by (repeat' (first | (with_reducible exact Below.refl _ _) | (with_reducible assumption) | (with_reducible refine below_drewN' ?_ _) | (with_reducible refine Below.drew ?_) | (with_reducible refine Below.alloc ?_ ?_ _) | (with_reducible refine Below.setCell ?_ ?_ _) | (with_reducible refine Below.then_ ?_ (by assumption) ?_) | go_size))⟩

set_option maxHeartbeats 1000000 in
theorem eqMove (x : Mv)   (w : World)   :
    Calls Try.prog 124 #[.agg #[.int .i64 x.from_, .int .i64 x.by_, .int .i64 x.to], .agg #[.int .i64 x.from_, .int .i64 x.by_, .int .i64 x.to]] w fun e w' => e = .returned (.bool true) ∧ Below w.heap.size w w' := by
  go_enter Try.func124, Try.ntmps124
  go_wp2
  go_ret
  exact ⟨rfl, by (repeat' (first | (with_reducible exact Below.refl _ _) | (with_reducible assumption) | (with_reducible refine below_drewN' ?_ _) | (with_reducible refine Below.drew ?_) | (with_reducible refine Below.alloc ?_ ?_ _) | (with_reducible refine Below.setCell ?_ ?_ _) | (with_reducible refine Below.then_ ?_ (by assumption) ?_) | go_size))⟩

set_option maxHeartbeats 1000000 in
theorem eqMoveS (A A' : Option Addr) (c c' : Nat) (l : (List Mv)) (w : World) (hl : l.length ≤ 9223372036854775807) (hr : RA shMv w A l) (hr' : RA shMv w A' l) :
    Calls Try.prog 77 #[.slice A l.length c, .slice A' l.length c'] w fun e w' => e = .returned (.bool true) ∧ Below w.heap.size w w' := by
  go_enter Try.func77, Try.ntmps77
  go_wp2
  go_loopw [5] (fun i wr => ∃ k : Nat, k ≤ l.length ∧ i = .int .i64 k ∧ Below w.heap.size w wr) (fun i _ => l.length - (intOf i).toNat)
  case atStart => exact ⟨0, Nat.zero_le _, rfl, Below.refl _ _⟩
  case round =>
    obtain ⟨k, hk, rfl, hb⟩ := hrel
    have hsz := hb.size
    by_cases hlt : k < l.length
    · obtain ⟨x, hx⟩ := get_of_lt hlt
      obtain ⟨b, off, rfl, hbl, d0, d1, d2, f0, f1, f2⟩ := hr.Mv_at hb hx
      obtain ⟨b', off', rfl, hbl', d0', d1', d2', f0', f1', f2'⟩ := hr'.Mv_at hb hx
      have HX := hide hx; clear hx
      go_wp2_with fail
      go_region_held3 (fun W => W.cell? ⟨b, off + k * 3, none⟩ = some (.int .i64 x.from_) ∧ W.cell? ⟨b, off + k * 3 + 1, none⟩ = some (.int .i64 x.by_) ∧ W.cell? ⟨b, off + k * 3 + 2, none⟩ = some (.int .i64 x.to) ∧ W.cell? ⟨b', off' + k * 3, none⟩ = some (.int .i64 x.from_) ∧ W.cell? ⟨b', off' + k * 3 + 1, none⟩ = some (.int .i64 x.by_) ∧ W.cell? ⟨b', off' + k * 3 + 2, none⟩ = some (.int .i64 x.to)) (first | exact ⟨d0, d1, d2, d0', d1', d2'⟩ | exact ⟨(cell_later hb1 d0), (cell_later hb1 d1), (cell_later hb1 d2), (cell_later hb1 d0'), (cell_later hb1 d1'), (cell_later hb1 d2')⟩) (first | (go_at_call 124; refine (eqMove x   _  ).mono ?_; rintro e w1 ⟨rfl, hb1⟩))
      have hb2 := hb.drew.trans (hb1.mono hsz)
      go_wp2_with fail
      go_roundw
      case rel => exact ⟨k + 1, by omega, by go_num, by (repeat' (first | (with_reducible exact Below.refl _ _) | (with_reducible assumption) | (with_reducible refine below_drewN' ?_ _) | (with_reducible refine Below.drew ?_) | (with_reducible refine Below.alloc ?_ ?_ _) | (with_reducible refine Below.setCell ?_ ?_ _) | (with_reducible refine Below.then_ ?_ (by assumption) ?_) | go_size))⟩
      case measure => simp [intOf]; omega
    · go_wp2
      go_ret
      exact ⟨rfl, by (repeat' (first | (with_reducible exact Below.refl _ _) | (with_reducible assumption) | (with_reducible refine below_drewN' ?_ _) | (with_reducible refine Below.drew ?_) | (with_reducible refine Below.alloc ?_ ?_ _) | (with_reducible refine Below.setCell ?_ ?_ _) | (with_reducible refine Below.then_ ?_ (by assumption) ?_) | go_size))⟩

set_option maxHeartbeats 1000000 in
theorem eqReachabilityGraph (x : RG) (A_marks : Option Addr) (c_marks : Nat) (A_moves : Option Addr) (c_moves : Nat) (A_marks' : Option Addr) (c_marks' : Nat) (A_moves' : Option Addr) (c_moves' : Nat) (w : World) (g0 : (x.marks).length ≤ c_marks) (g1 : c_marks ≤ 9223372036854775807) (g2 : RA shStr w A_marks x.marks) (g3 : (x.moves).length ≤ c_moves) (g4 : c_moves ≤ 9223372036854775807) (g5 : RA shMv w A_moves x.moves) (g0' : (x.marks).length ≤ c_marks') (g1' : c_marks' ≤ 9223372036854775807) (g2' : RA shStr w A_marks' x.marks) (g3' : (x.moves).length ≤ c_moves') (g4' : c_moves' ≤ 9223372036854775807) (g5' : RA shMv w A_moves' x.moves) :
    Calls Try.prog 32 #[.agg #[.slice A_marks (x.marks).length c_marks, .slice A_moves (x.moves).length c_moves], .agg #[.slice A_marks' (x.marks).length c_marks', .slice A_moves' (x.moves).length c_moves']] w fun e w' => e = .returned (.bool true) ∧ Below w.heap.size w w' := by
  go_enter Try.func32, Try.ntmps32
  go_wp2_with fail
  refine (eqStringS A_marks A_marks' c_marks c_marks' x.marks _ (by omega) (RA.to g2 ?hb) (RA.to g2' ?hb2)).mono ?_
  case hb => (repeat' (first | (with_reducible exact Below.refl _ _) | (with_reducible assumption) | (with_reducible refine below_drewN' ?_ _) | (with_reducible refine Below.drew ?_) | (with_reducible refine Below.alloc ?_ ?_ _) | (with_reducible refine Below.setCell ?_ ?_ _) | (with_reducible refine Below.then_ ?_ (by assumption) ?_) | go_size))
  case hb2 => (repeat' (first | (with_reducible exact Below.refl _ _) | (with_reducible assumption) | (with_reducible refine below_drewN' ?_ _) | (with_reducible refine Below.drew ?_) | (with_reducible refine Below.alloc ?_ ?_ _) | (with_reducible refine Below.setCell ?_ ?_ _) | (with_reducible refine Below.then_ ?_ (by assumption) ?_) | go_size))
  rintro e w1 ⟨rfl, hb1⟩
  obtain ⟨hc1, hf1⟩ := bcell hb1
  have hz1 := hb1.size
  repeat (first | rw [World.size_alloc] at hz1 | rw [World.size_setCell] at hz1)
  have l1_0 : w.heap.size < w1.heap.size := by omega
  have l1_1 : w.heap.size + 1 < w1.heap.size := by omega
  go_wp2_with fail
  refine (eqMoveS A_moves A_moves' c_moves c_moves' x.moves _ (by omega) (RA.to g5 ?hb) (RA.to g5' ?hb2)).mono ?_
  case hb => (repeat' (first | (with_reducible exact Below.refl _ _) | (with_reducible assumption) | (with_reducible refine below_drewN' ?_ _) | (with_reducible refine Below.drew ?_) | (with_reducible refine Below.alloc ?_ ?_ _) | (with_reducible refine Below.setCell ?_ ?_ _) | (with_reducible refine Below.then_ ?_ (by assumption) ?_) | go_size))
  case hb2 => (repeat' (first | (with_reducible exact Below.refl _ _) | (with_reducible assumption) | (with_reducible refine below_drewN' ?_ _) | (with_reducible refine Below.drew ?_) | (with_reducible refine Below.alloc ?_ ?_ _) | (with_reducible refine Below.setCell ?_ ?_ _) | (with_reducible refine Below.then_ ?_ (by assumption) ?_) | go_size))
  rintro e w2 ⟨rfl, hb2⟩
  obtain ⟨hc2, hf2⟩ := bcell hb2
  have hz2 := hb2.size
  repeat (first | rw [World.size_alloc] at hz2 | rw [World.size_setCell] at hz2)
  have l2_0 : w.heap.size < w2.heap.size := by omega
  have l2_1 : w.heap.size + 1 < w2.heap.size := by omega
  go_wp2
  go_ret
  exact ⟨rfl, by (repeat' (first | (with_reducible exact Below.refl _ _) | (with_reducible assumption) | (with_reducible refine below_drewN' ?_ _) | (with_reducible refine Below.drew ?_) | (with_reducible refine Below.alloc ?_ ?_ _) | (with_reducible refine Below.setCell ?_ ?_ _) | (with_reducible refine Below.then_ ?_ (by assumption) ?_) | go_size))⟩

end Go.Proofs.Ytnpbdphfjablbaa.Lw
