/-
  The contracts of the laws' own helpers over: Dl Dl[]. Printed by a program of this repo (lawgen.py).
-/
import Derived.Test.YtojfmppamebnkaaRows
import Derived.Test.YtojfmppamebnkaaData
import Derived.Test.YtojfmppamebnkaaLawNet
namespace Go.Proofs.Ytojfmppamebnkaa
open Go.RowKit
set_option linter.unusedVariables false

set_option maxHeartbeats 1000000 in
theorem toDelayBounds (x : Dl)  (w : World)   :
    Calls Try.prog 65 #[.agg #[.int .i64 x.low, .int .i64 x.high]] w fun e w' => e = .returned (.agg #[.int .i64 x.low, .int .i64 x.high]) ∧ Below w.heap.size w w' := by
  go_enter Try.func65, Try.ntmps65
  go_wp2
  go_returns
  exact ⟨rfl, by (repeat' (first | (with_reducible exact Below.refl _ _) | (with_reducible assumption) | (with_reducible refine below_drewN' ?_ _) | (with_reducible refine Below.drew ?_) | (with_reducible refine Below.alloc ?_ ?_ _) | (with_reducible refine Below.setCell ?_ ?_ _) | (with_reducible refine Below.then_ ?_ (by assumption) ?_) | go_size))⟩

set_option maxHeartbeats 1000000 in
theorem eqDelayBounds (x : Dl)   (w : World)   :
    Calls Try.prog 71 #[.agg #[.int .i64 x.low, .int .i64 x.high], .agg #[.int .i64 x.low, .int .i64 x.high]] w fun e w' => e = .returned (.bool true) ∧ Below w.heap.size w w' := by
  go_enter Try.func71, Try.ntmps71
  go_wp2
  go_ret
  exact ⟨rfl, by (repeat' (first | (with_reducible exact Below.refl _ _) | (with_reducible assumption) | (with_reducible refine below_drewN' ?_ _) | (with_reducible refine Below.drew ?_) | (with_reducible refine Below.alloc ?_ ?_ _) | (with_reducible refine Below.setCell ?_ ?_ _) | (with_reducible refine Below.then_ ?_ (by assumption) ?_) | go_size))⟩

set_option maxHeartbeats 400000 in
theorem szDelayBoundsS (A : Option Addr) (n c : Nat) (left : Int) (w : World) (hn : n ≤ 9223372036854775807) (h0 : 0 ≤ left) (h1 : left ≤ 1048576) :
    Calls Try.prog 14 #[.slice A n c, .int .i64 left] w fun e w' => e = .returned (.int .i64 (szRes n left)) ∧ w' = w := by
  by_cases h : left < n
  · go_enter Try.func14, Try.ntmps14
    go_wp2
    go_ret
    exact ⟨ret_int (by unfold szRes; rw [if_pos (by omega)]), rfl⟩
  · go_enter Try.func14, Try.ntmps14
    go_wp2
    go_ret
    exact ⟨ret_int (by unfold szRes; rw [if_neg (by omega)]), rfl⟩

set_option maxHeartbeats 1000000 in
theorem toDelayBoundsS (A : Option Addr) (c : Nat) (l : (List Dl)) (w : World) (hs : l.length ≤ 1048576) (hr : RA shDl w A l) :
    Calls Try.prog 17 #[.slice A l.length c] w fun e w' => ∃ A', e = .returned (.slice A' l.length l.length) ∧ RSl shDl w' (Fresh w w') A' l ∧ Below w.heap.size w w' := by
  have hl := hs
  obtain ⟨cells, hcs, hmk⟩ := make_row (P := Try.prog) (t := 41) (e := 96) (size := 2) (bytes := 16) Try.underlying41 (by kernel_rfl) l.length (by omega) (by decide)
  have HC := hide hcs; clear hcs
  have HM := hide hmk; clear hmk
  go_enter Try.func17, Try.ntmps17
  have hmk := HM.out w
  go_wp2
  clear hmk
  go_loopw [4] (fun i wr => ∃ k : Nat, k ≤ l.length ∧ i = .int .i64 k ∧ Hid (Filled shDl wr (Nest w.heap.size wr) w.heap.size 96 l.length k l) ∧ Below w.heap.size w wr) (fun i _ => l.length - (intOf i).toNat)
  case atStart => exact ⟨0, Nat.zero_le _, rfl, Filled.start HC.out, by (repeat' (first | (with_reducible exact Below.refl _ _) | (with_reducible assumption) | (with_reducible refine below_drewN' ?_ _) | (with_reducible refine Below.drew ?_) | (with_reducible refine Below.alloc ?_ ?_ _) | (with_reducible refine Below.setCell ?_ ?_ _) | (with_reducible refine Below.then_ ?_ (by assumption) ?_) | go_size))⟩
  case round =>
    obtain ⟨k, hk, rfl, hf, hb⟩ := hrel
    have hsz := hb.size
    by_cases hlt : k < l.length
    · obtain ⟨x, hx⟩ := get_of_lt hlt
      obtain ⟨b, off, rfl, hbl, d0, d1, f0, f1⟩ := hr.Dl_at hb hx
      have HX := hide hx; clear hx
      have hgl := hf.out.lt
      go_wp2_with fail
      refine (toDelayBounds x  wr  ).mono ?_
      rintro e w1 ⟨rfl, hb1⟩
      have hf1 := hf.out.to hb1
      obtain ⟨⟨v0, p0⟩, z0⟩ := hf1.room hlt 0 (by decide)
      obtain ⟨⟨v1, p1⟩, z1⟩ := hf1.room hlt 1 (by decide)
      have HF := hide hf1; clear hf1
      simp only [shDl_size, Nat.add_zero] at p0 z0 p1 z1
      have hb2 := hb.trans (hb1.mono hsz)
      have hsz1 := hb1.size
      go_wp2_with fail
      go_roundw
      case rel => exact ⟨k + 1, by omega, by go_num, hide (HF.out.step [.int .i64 x.low, .int .i64 x.high] HX.out (shDl_mk f0 f1) (by simp [setCells, shDl_size])), by (repeat' (first | (with_reducible exact Below.refl _ _) | (with_reducible assumption) | (with_reducible refine below_drewN' ?_ _) | (with_reducible refine Below.drew ?_) | (with_reducible refine Below.alloc ?_ ?_ _) | (with_reducible refine Below.setCell ?_ ?_ _) | (with_reducible refine Below.then_ ?_ (by assumption) ?_) | go_size))⟩
      case measure => simp [intOf]; omega
    · have : k = l.length := by omega
      subst this
      go_wp2
      go_ret
      exact ⟨_, rfl, hf.out.finish, by (repeat' (first | (with_reducible exact Below.refl _ _) | (with_reducible assumption) | (with_reducible refine below_drewN' ?_ _) | (with_reducible refine Below.drew ?_) | (with_reducible refine Below.alloc ?_ ?_ _) | (with_reducible refine Below.setCell ?_ ?_ _) | (with_reducible refine Below.then_ ?_ (by assumption) ?_) | go_size))⟩

set_option maxHeartbeats 1000000 in
theorem eqDelayBoundsS (A A' : Option Addr) (c c' : Nat) (l : (List Dl)) (w : World) (hl : l.length ≤ 9223372036854775807) (hr : RA shDl w A l) (hr' : RA shDl w A' l) :
    Calls Try.prog 20 #[.slice A l.length c, .slice A' l.length c'] w fun e w' => e = .returned (.bool true) ∧ Below w.heap.size w w' := by
  go_enter Try.func20, Try.ntmps20
  go_wp2
  go_loopw [5] (fun i wr => ∃ k : Nat, k ≤ l.length ∧ i = .int .i64 k ∧ Below w.heap.size w wr) (fun i _ => l.length - (intOf i).toNat)
  case atStart => exact ⟨0, Nat.zero_le _, rfl, Below.refl _ _⟩
  case round =>
    obtain ⟨k, hk, rfl, hb⟩ := hrel
    have hsz := hb.size
    by_cases hlt : k < l.length
    · obtain ⟨x, hx⟩ := get_of_lt hlt
      obtain ⟨b, off, rfl, hbl, d0, d1, f0, f1⟩ := hr.Dl_at hb hx
      obtain ⟨b', off', rfl, hbl', d0', d1', f0', f1'⟩ := hr'.Dl_at hb hx
      have HX := hide hx; clear hx
      go_wp2_with fail
      go_region_held3 (fun W => W.cell? ⟨b, off + k * 2, none⟩ = some (.int .i64 x.low) ∧ W.cell? ⟨b, off + k * 2 + 1, none⟩ = some (.int .i64 x.high) ∧ W.cell? ⟨b', off' + k * 2, none⟩ = some (.int .i64 x.low) ∧ W.cell? ⟨b', off' + k * 2 + 1, none⟩ = some (.int .i64 x.high)) (first | exact ⟨d0, d1, d0', d1'⟩ | exact ⟨(cell_later hb1 d0), (cell_later hb1 d1), (cell_later hb1 d0'), (cell_later hb1 d1')⟩) (first | (go_at_call 71; refine (eqDelayBounds x   _  ).mono ?_; rintro e w1 ⟨rfl, hb1⟩))
      have hb2 := hb.drew.trans (hb1.mono hsz)
      go_wp2_with fail
      go_roundw
      case rel => exact ⟨k + 1, by omega, by go_num, by (repeat' (first | (with_reducible exact Below.refl _ _) | (with_reducible assumption) | (with_reducible refine below_drewN' ?_ _) | (with_reducible refine Below.drew ?_) | (with_reducible refine Below.alloc ?_ ?_ _) | (with_reducible refine Below.setCell ?_ ?_ _) | (with_reducible refine Below.then_ ?_ (by assumption) ?_) | go_size))⟩
      case measure => simp [intOf]; omega
    · go_wp2
      go_ret
      exact ⟨rfl, by (repeat' (first | (with_reducible exact Below.refl _ _) | (with_reducible assumption) | (with_reducible refine below_drewN' ?_ _) | (with_reducible refine Below.drew ?_) | (with_reducible refine Below.alloc ?_ ?_ _) | (with_reducible refine Below.setCell ?_ ?_ _) | (with_reducible refine Below.then_ ?_ (by assumption) ?_) | go_size))⟩

end Go.Proofs.Ytojfmppamebnkaa
