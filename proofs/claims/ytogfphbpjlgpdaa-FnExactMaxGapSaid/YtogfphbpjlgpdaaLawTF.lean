/-
  The law's helpers for rows of TimedFiring.
-/
import Derived.Test.YtogfphbpjlgpdaaRows
import Derived.Test.YtogfphbpjlgpdaaData
namespace Go.Proofs.Ytogfphbpjlgpdaa
open Go.RowKit
set_option linter.unusedVariables false

def szRes (n : Nat) (left : Int) : Int := if left < n then -1 else left - n

set_option maxHeartbeats 400000 in
theorem szTimedFiringS (A : Option Addr) (n c : Nat) (left : Int) (w : World) (hn : n ≤ 9223372036854775807) (h0 : 0 ≤ left) (h1 : left ≤ 1048576) :
    Calls Try.prog 8 #[.slice A n c, .int .i64 left] w fun e w' => e = .returned (.int .i64 (szRes n left)) ∧ w' = w := by
  by_cases h : left < n
  · go_enter Try.func8, Try.ntmps8
    go_wp2
    go_ret
    exact ⟨ret_int (by unfold szRes; rw [if_pos (by omega)]), rfl⟩
  · go_enter Try.func8, Try.ntmps8
    go_wp2
    go_ret
    exact ⟨ret_int (by unfold szRes; rw [if_neg (by omega)]), rfl⟩

set_option maxHeartbeats 400000 in
theorem toTimedFiring (x : TF) (w : World) :
    Calls Try.prog 34 #[.agg #[.int .i64 x.at_, .int .i64 x.t]] w fun e w' => e = .returned (.agg #[.int .i64 x.at_, .int .i64 x.t]) ∧ Below w.heap.size w w' := by
  go_enter Try.func34, Try.ntmps34
  go_wp2
  go_returns
  exact ⟨rfl, by (repeat' (first | (with_reducible exact Below.refl _ _) | (with_reducible assumption) | (with_reducible refine below_drewN' ?_ _) | (with_reducible refine Below.drew ?_) | (with_reducible refine Below.alloc ?_ ?_ _) | (with_reducible refine Below.setCell ?_ ?_ _) | go_size))⟩

set_option maxHeartbeats 1000000 in
theorem toTimedFiringS (A : Option Addr) (c : Nat) (l : List TF) (w : World) (hl : l.length ≤ 1048576) (hr : RA shTF w A l) :
    Calls Try.prog 10 #[.slice A l.length c] w fun e w' => ∃ A', e = .returned (.slice A' l.length l.length) ∧ RSl shTF w' (Fresh w w') A' l ∧ Below w.heap.size w w' := by
  obtain ⟨cells, hcs, hmk⟩ := make_row (P := Try.prog) (t := 26) (e := 70) (size := 2) (bytes := 16) Try.underlying26 (by kernel_rfl) l.length (by omega) (by omega)
  have HC := hide hcs; clear hcs
  have HM := hide hmk; clear hmk
  go_enter Try.func10, Try.ntmps10
  have hmk := HM.out w
  go_wp2
  clear hmk
  go_loopw [4] (fun i wr => ∃ k : Nat, k ≤ l.length ∧ i = .int .i64 k ∧ Hid (Filled shTF wr (Nest w.heap.size wr) w.heap.size 70 l.length k l) ∧ Below w.heap.size w wr) (fun i _ => l.length - (intOf i).toNat)
  case atStart => exact ⟨0, Nat.zero_le _, rfl, Filled.start HC.out, by (repeat' (first | (with_reducible exact Below.refl _ _) | (with_reducible assumption) | (with_reducible refine below_drewN' ?_ _) | (with_reducible refine Below.drew ?_) | (with_reducible refine Below.alloc ?_ ?_ _) | (with_reducible refine Below.setCell ?_ ?_ _) | go_size))⟩
  case round =>
    obtain ⟨k, hk, rfl, hf, hb⟩ := hrel
    have hsz := hb.size
    by_cases hlt : k < l.length
    · obtain ⟨x, hx⟩ := get_of_lt hlt
      obtain ⟨b, off, rfl, hbl, h1, h2, ix, iy⟩ := hr.TF_at hb hx
      have HX := hide hx; clear hx
      go_wp2_with fail
      refine (toTimedFiring x wr).mono ?_
      rintro e w1 ⟨rfl, hb1⟩
      have hf1 := hf.out.to hb1
      obtain ⟨⟨v0, r0⟩, z0⟩ := hf1.room hlt 0 (by decide)
      obtain ⟨⟨v1, r1⟩, z1⟩ := hf1.room hlt 1 (by decide)
      have HF := hide hf1; clear hf1
      simp only [shTF_size, Nat.add_zero] at r0 z0 r1 z1
      have hb2 := hb.trans (hb1.mono hsz)
      have hsz1 := hb1.size
      go_wp2_with fail
      go_roundw
      case rel => exact ⟨k + 1, by omega, by go_num, hide (HF.out.step [.int .i64 x.at_, .int .i64 x.t] HX.out (shTF_mk ix iy) (by simp [setCells, shTF_size])), by (repeat' (first | (with_reducible exact Below.refl _ _) | (with_reducible assumption) | (with_reducible refine below_drewN' ?_ _) | (with_reducible refine Below.drew ?_) | (with_reducible refine Below.alloc ?_ ?_ _) | (with_reducible refine Below.setCell ?_ ?_ _) | go_size))⟩
      case measure => simp [intOf]; omega
    · have : k = l.length := by omega
      subst this
      go_wp2
      go_ret
      exact ⟨_, rfl, hf.out.finish, by (repeat' (first | (with_reducible exact Below.refl _ _) | (with_reducible assumption) | (with_reducible refine below_drewN' ?_ _) | (with_reducible refine Below.drew ?_) | (with_reducible refine Below.alloc ?_ ?_ _) | (with_reducible refine Below.setCell ?_ ?_ _) | go_size))⟩

set_option maxHeartbeats 400000 in
theorem eqTimedFiring (x : TF) (w : World) :
    Calls Try.prog 36 #[.agg #[.int .i64 x.at_, .int .i64 x.t], .agg #[.int .i64 x.at_, .int .i64 x.t]] w fun e w' => e = .returned (.bool true) ∧ Below w.heap.size w w' := by
  go_enter Try.func36, Try.ntmps36
  go_wp2
  go_ret
  exact ⟨rfl, by (repeat' (first | (with_reducible exact Below.refl _ _) | (with_reducible assumption) | (with_reducible refine below_drewN' ?_ _) | (with_reducible refine Below.drew ?_) | (with_reducible refine Below.alloc ?_ ?_ _) | (with_reducible refine Below.setCell ?_ ?_ _) | go_size))⟩

set_option maxHeartbeats 1000000 in
theorem eqTimedFiringS (A A' : Option Addr) (c c' : Nat) (l : List TF) (w : World) (hl : l.length ≤ 1048576) (hr : RA shTF w A l) (hr' : RA shTF w A' l) :
    Calls Try.prog 12 #[.slice A l.length c, .slice A' l.length c'] w fun e w' => e = .returned (.bool true) ∧ Below w.heap.size w w' := by
  go_enter Try.func12, Try.ntmps12
  go_wp2
  go_loopw [5] (fun i wr => ∃ k : Nat, k ≤ l.length ∧ i = .int .i64 k ∧ Below w.heap.size w wr) (fun i _ => l.length - (intOf i).toNat)
  case atStart => exact ⟨0, Nat.zero_le _, rfl, Below.refl _ _⟩
  case round =>
    obtain ⟨k, hk, rfl, hb⟩ := hrel
    have hsz := hb.size
    by_cases hlt : k < l.length
    · obtain ⟨x, hx⟩ := get_of_lt hlt
      obtain ⟨b, off, rfl, hbl, h1, h2, ix, iy⟩ := hr.TF_at hb hx
      obtain ⟨b', off', rfl, hbl', h1', h2', ix', iy'⟩ := hr'.TF_at hb hx
      have HX := hide hx; clear hx
      go_wp2_with fail
      go_region_held3 (fun W => W.cell? ⟨b, off + k * 2, none⟩ = some (.int .i64 x.at_) ∧ W.cell? ⟨b, off + k * 2 + 1, none⟩ = some (.int .i64 x.t) ∧ W.cell? ⟨b', off' + k * 2, none⟩ = some (.int .i64 x.at_) ∧ W.cell? ⟨b', off' + k * 2 + 1, none⟩ = some (.int .i64 x.t)) (first | exact ⟨h1, h2, h1', h2'⟩ | exact ⟨(cell_later hb1 h1), (cell_later hb1 h2), (cell_later hb1 h1'), (cell_later hb1 h2')⟩) (first | (go_at_call 36; refine (eqTimedFiring x _).mono ?_; rintro e w1 ⟨rfl, hb1⟩))
      have hb2 := hb.drew.trans (hb1.mono hsz)
      go_wp2_with fail
      go_roundw
      case rel => exact ⟨k + 1, by omega, by go_num, by (repeat' (first | (with_reducible exact Below.refl _ _) | (with_reducible assumption) | (with_reducible refine below_drewN' ?_ _) | (with_reducible refine Below.drew ?_) | (with_reducible refine Below.alloc ?_ ?_ _) | (with_reducible refine Below.setCell ?_ ?_ _) | go_size))⟩
      case measure => simp [intOf]; omega
    · go_wp2
      go_ret
      exact ⟨rfl, by (repeat' (first | (with_reducible exact Below.refl _ _) | (with_reducible assumption) | (with_reducible refine below_drewN' ?_ _) | (with_reducible refine Below.drew ?_) | (with_reducible refine Below.alloc ?_ ?_ _) | (with_reducible refine Below.setCell ?_ ?_ _) | go_size))⟩
end Go.Proofs.Ytogfphbpjlgpdaa
