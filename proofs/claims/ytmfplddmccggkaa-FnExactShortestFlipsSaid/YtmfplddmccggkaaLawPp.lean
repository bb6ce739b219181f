/-
  The contracts of the laws' own helpers over: int[]/eq PSt PSt[] Flip Flip[] ProdG. Printed by a program of this repo (lawgen.py).
-/
import Derived.Test.YtmfplddmccggkaaRows
import Derived.Test.YtmfplddmccggkaaData
import Derived.Test.YtmfplddmccggkaaFrz
namespace Go.Proofs.Ytmfplddmccggkaa.Lw
open Go.RowKit
set_option linter.unusedVariables false

set_option maxHeartbeats 1000000 in
theorem eqIntS (A A' : Option Addr) (c c' : Nat) (l : (List Int)) (w : World) (hl : l.length ≤ 9223372036854775807) (hr : RA shInt w A l) (hr' : RA shInt w A' l) :
    Calls Try.prog 10 #[.slice A l.length c, .slice A' l.length c'] w fun e w' => e = .returned (.bool true) ∧ Below w.heap.size w w' := by
  go_enter Try.func10, Try.ntmps10
  go_wp2
  go_loopw [5] (fun i wr => ∃ k : Nat, k ≤ l.length ∧ i = .int .i64 k ∧ Below w.heap.size w wr) (fun i _ => l.length - (intOf i).toNat)
  case atStart => exact ⟨0, Nat.zero_le _, rfl, Below.refl _ _⟩
  case round =>
    obtain ⟨k, hk, rfl, hb⟩ := hrel
    have hsz := hb.size
    by_cases hlt : k < l.length
    · obtain ⟨x, hx⟩ := get_of_lt hlt
      obtain ⟨b, off, rfl, hbl, d0, f0⟩ := hr.int_at hb hx
      obtain ⟨b', off', rfl, hbl', d0', f0'⟩ := hr'.int_at hb hx
      have HX := hide hx; clear hx
      go_wp2_with fail
      go_quiet (fail)
      go_wp2_with fail
      go_roundw
      case rel => exact ⟨k + 1, by omega, by go_num, by (repeat' (first | (with_reducible exact Below.refl _ _) | (with_reducible assumption) | (with_reducible refine below_drewN' ?_ _) | (with_reducible refine Below.drew ?_) | (with_reducible refine Below.alloc ?_ ?_ _) | (with_reducible refine Below.setCell ?_ ?_ _) | (with_reducible refine Below.then_ ?_ (by assumption) ?_) | go_size))⟩
      case measure => simp [intOf]; omega
    · go_wp2
      go_ret
      exact ⟨rfl, by (repeat' (first | (with_reducible exact Below.refl _ _) | (with_reducible assumption) | (with_reducible refine below_drewN' ?_ _) | (with_reducible refine Below.drew ?_) | (with_reducible refine Below.alloc ?_ ?_ _) | (with_reducible refine Below.setCell ?_ ?_ _) | (with_reducible refine Below.then_ ?_ (by assumption) ?_) | go_size))⟩

def wtPSt (x : PSt) : Nat := (x.values).length

set_option maxHeartbeats 1000000 in
theorem szProductState (x : PSt)  (left : Int) (w : World) (g1 : (x.values).length ≤ 9223372036854775807) (h0 : 0 ≤ left) (h1 : left ≤ 1048576) :
    Calls Try.prog 64 #[.agg #[.int .i64 x.state, .string ⟨(x.values).toArray⟩], .int .i64 left] w fun e w' => e = .returned (.int .i64 (szRes (wtPSt x) left)) ∧ Below w.heap.size w w' := by
  show Calls _ _ _ _ fun e w' => e = .returned (.int .i64 (szRes ((x.values).length) left)) ∧ _
  go_enter Try.func64, Try.ntmps64
  by_cases q1 : left < ((x.values).length : Nat)
  · go_wp2
    go_ret
    exact ⟨ret_int (by unfold szRes; rw [if_pos (by omega)]), by (repeat' (first | (with_reducible exact Below.refl _ _) | (with_reducible assumption) | (with_reducible refine below_drewN' ?_ _) | (with_reducible refine Below.drew ?_) | (with_reducible refine Below.alloc ?_ ?_ _) | (with_reducible refine Below.setCell ?_ ?_ _) | (with_reducible refine Below.then_ ?_ (by assumption) ?_) | go_size))⟩
  · skip
    go_wp2
    go_ret
    exact ⟨ret_int (by (unfold szRes; rw [if_neg (by omega)]) <;> omega), by (repeat' (first | (with_reducible exact Below.refl _ _) | (with_reducible assumption) | (with_reducible refine below_drewN' ?_ _) | (with_reducible refine Below.drew ?_) | (with_reducible refine Below.alloc ?_ ?_ _) | (with_reducible refine Below.setCell ?_ ?_ _) | (with_reducible refine Below.then_ ?_ (by assumption) ?_) | go_size))⟩

set_option maxHeartbeats 1000000 in
theorem toProductState (x : PSt)  (w : World) (g1 : (x.values).length ≤ 9223372036854775807) (hs : wtPSt x ≤ 1048576) :
    Calls Try.prog 66 #[.agg #[.int .i64 x.state, .string ⟨(x.values).toArray⟩]] w fun e w' => e = .returned (.agg #[.int .i64 x.state, .string ⟨(x.values).toArray⟩]) ∧ Below w.heap.size w w' ∧ Frz w w' := by
  unfold wtPSt at hs
  go_enter Try.func66, Try.ntmps66
  go_wp2
  go_returns
  exact ⟨rfl, by (repeat' (first | (with_reducible exact Below.refl _ _) | (with_reducible assumption) | (with_reducible refine below_drewN' ?_ _) | (with_reducible refine Below.drew ?_) | (with_reducible refine Below.alloc ?_ ?_ _) | (with_reducible refine Below.setCell ?_ ?_ _) | (with_reducible refine Below.then_ ?_ (by assumption) ?_) | go_size)), by (repeat' (first | (with_reducible exact Frz.refl _) | (with_reducible assumption) | (with_reducible refine Frz.drewN ?_ _) | (with_reducible refine Frz.drew ?_) | (with_reducible refine Frz.alloc ?_ _ _) | (with_reducible refine Frz.setCell ?_ _ _) | (with_reducible refine Frz.then_ ?_ (by assumption))))⟩

set_option maxHeartbeats 1000000 in
theorem eqProductState (x : PSt)   (w : World) (g1 : (x.values).length ≤ 9223372036854775807)  :
    Calls Try.prog 71 #[.agg #[.int .i64 x.state, .string ⟨(x.values).toArray⟩], .agg #[.int .i64 x.state, .string ⟨(x.values).toArray⟩]] w fun e w' => e = .returned (.bool true) ∧ Below w.heap.size w w' := by
  go_enter Try.func71, Try.ntmps71
  go_wp2
  go_ret
  exact ⟨rfl, by (repeat' (first | (with_reducible exact Below.refl _ _) | (with_reducible assumption) | (with_reducible refine below_drewN' ?_ _) | (with_reducible refine Below.drew ?_) | (with_reducible refine Below.alloc ?_ ?_ _) | (with_reducible refine Below.setCell ?_ ?_ _) | (with_reducible refine Below.then_ ?_ (by assumption) ?_) | go_size))⟩

set_option maxHeartbeats 1000000 in
theorem szProductStateS (A : Option Addr) (c : Nat) (l : (List PSt)) (left : Int) (w : World) (hn : l.length ≤ 9223372036854775807) (hr : RA shPSt w A l) (h0 : 0 ≤ left) (h1 : left ≤ 1048576) :
    Calls Try.prog 25 #[.slice A l.length c, .int .i64 left] w fun e w' => e = .returned (.int .i64 (szRes (wtL wtPSt l) left)) ∧ Below w.heap.size w w' := by
  by_cases h : left < l.length
  · have hs : szRes (wtL wtPSt l) left = -1 := by unfold szRes wtL; rw [if_pos (by omega)]
    have HS := hide hs; clear hs
    go_enter Try.func25, Try.ntmps25
    go_wp2
    go_ret
    exact ⟨ret_int HS.out.symm, by (repeat' (first | (with_reducible exact Below.refl _ _) | (with_reducible assumption) | (with_reducible refine below_drewN' ?_ _) | (with_reducible refine Below.drew ?_) | (with_reducible refine Below.alloc ?_ ?_ _) | (with_reducible refine Below.setCell ?_ ?_ _) | (with_reducible refine Below.then_ ?_ (by assumption) ?_) | go_size))⟩
  · obtain ⟨R, hR⟩ : ∃ R, szRes (wtL wtPSt l) left = R := ⟨_, rfl⟩
    have HR := hide hR
    have HL : Hid (szRes ((l.drop 0).map wtPSt).sum (left - l.length) = R) := by show _ = _; rw [← hR, wtL, szRes_add h]; rfl
    clear hR
    go_enter Try.func25, Try.ntmps25
    go_wp2
    go_loopw [5, 1] (fun i L wr => ∃ (k : Nat) (m : Int), k ≤ l.length ∧ i = .int .i64 k ∧ L = .int .i64 m ∧ 0 ≤ m ∧ m ≤ 1048576 ∧ Hid (szRes ((l.drop k).map wtPSt).sum m = R) ∧ Below w.heap.size w wr) (fun i _ _ => l.length - (intOf i).toNat)
    case atStart => exact ⟨0, _, Nat.zero_le _, rfl, rfl, by omega, by omega, HL, by (repeat' (first | (with_reducible exact Below.refl _ _) | (with_reducible assumption) | (with_reducible refine below_drewN' ?_ _) | (with_reducible refine Below.drew ?_) | (with_reducible refine Below.alloc ?_ ?_ _) | (with_reducible refine Below.setCell ?_ ?_ _) | (with_reducible refine Below.then_ ?_ (by assumption) ?_) | go_size))⟩
    case round =>
      obtain ⟨k, m, hk, rfl, rfl, hm0, hm1, hgo, hb⟩ := hrel
      have hsz := hb.size
      by_cases hlt : k < l.length
      · obtain ⟨x, hx⟩ := get_of_lt hlt
        obtain ⟨b, off, rfl, hbl, d0, d1, f0, f1⟩ := hr.PSt_at hb hx
        have Hd := hide (drop_get hx)
        clear hx
        have hg1 := hgo.out
        rw [Hd.out, List.map_cons, List.sum_cons] at hg1
        have HG := hide hg1; clear hg1
        go_wp2_with fail
        refine (szProductState x  m _ f1 hm0 hm1).mono ?_
        rintro e w1 ⟨rfl, hb1⟩
        have hb2 := hb.trans (hb1.mono hsz)
        by_cases hq : m < (wtPSt x : Nat)
        · rw [szRes_neg hq]
          have HQ := hide (szRes_add_neg (b := ((l.drop (k + 1)).map wtPSt).sum) hq)
          go_wp2
          go_ret
          exact ⟨ret_int (by rw [HR.out, ← HG.out, ← HQ.out]), by (repeat' (first | (with_reducible exact Below.refl _ _) | (with_reducible assumption) | (with_reducible refine below_drewN' ?_ _) | (with_reducible refine Below.drew ?_) | (with_reducible refine Below.alloc ?_ ?_ _) | (with_reducible refine Below.setCell ?_ ?_ _) | (with_reducible refine Below.then_ ?_ (by assumption) ?_) | go_size))⟩
        · rw [szRes_pos hq]
          have HG2 : Hid (szRes ((l.drop (k + 1)).map wtPSt).sum (m - (wtPSt x : Nat)) = R) := by show _ = _; rw [← HG.out]; exact (szRes_add hq).symm
          have hq1 : (wtPSt x : Int) ≤ m := by omega
          have hq2 : (0 : Int) ≤ (wtPSt x : Nat) := by omega
          go_wp2_with fail
          go_roundw
          case rel => exact ⟨k + 1, _, by omega, by go_num, rfl, by omega, by omega, HG2, by (repeat' (first | (with_reducible exact Below.refl _ _) | (with_reducible assumption) | (with_reducible refine below_drewN' ?_ _) | (with_reducible refine Below.drew ?_) | (with_reducible refine Below.alloc ?_ ?_ _) | (with_reducible refine Below.setCell ?_ ?_ _) | (with_reducible refine Below.then_ ?_ (by assumption) ?_) | go_size))⟩
          case measure => simp [intOf]; omega
      · have hg1 := hgo.out
        rw [drop_end hlt] at hg1
        have HG := hide hg1; clear hg1
        go_wp2
        go_ret
        exact ⟨ret_int (by rw [HR.out, ← HG.out]; unfold szRes; simp; omega), by (repeat' (first | (with_reducible exact Below.refl _ _) | (with_reducible assumption) | (with_reducible refine below_drewN' ?_ _) | (with_reducible refine Below.drew ?_) | (with_reducible refine Below.alloc ?_ ?_ _) | (with_reducible refine Below.setCell ?_ ?_ _) | (with_reducible refine Below.then_ ?_ (by assumption) ?_) | go_size))⟩

set_option maxHeartbeats 1000000 in
theorem toProductStateS (A : Option Addr) (c : Nat) (l : (List PSt)) (w : World) (hs : wtL wtPSt l ≤ 1048576) (hr : RA shPSt w A l) :
    Calls Try.prog 30 #[.slice A l.length c] w fun e w' => ∃ A', e = .returned (.slice A' l.length l.length) ∧ RSl shPSt w' (Fresh w w') A' l ∧ Below w.heap.size w w' ∧ Frz w w' := by
  have hl : l.length ≤ 1048576 := by unfold wtL at hs; omega
  obtain ⟨cells, hcs, hmk⟩ := make_row (P := Try.prog) (t := 30) (e := 106) (size := 2) (bytes := 24) Try.underlying30 (by kernel_rfl) l.length (by omega) (by decide)
  have HC := hide hcs; clear hcs
  have HM := hide hmk; clear hmk
  go_enter Try.func30, Try.ntmps30
  have hmk := HM.out w
  go_wp2
  clear hmk
  go_loopw [4] (fun i wr => ∃ k : Nat, k ≤ l.length ∧ i = .int .i64 k ∧ Hid (Filled shPSt wr (Nest w.heap.size wr) w.heap.size 106 l.length k l) ∧ Below w.heap.size w wr ∧ Frz w wr) (fun i _ => l.length - (intOf i).toNat)
  case atStart => exact ⟨0, Nat.zero_le _, rfl, Filled.start HC.out, by (repeat' (first | (with_reducible exact Below.refl _ _) | (with_reducible assumption) | (with_reducible refine below_drewN' ?_ _) | (with_reducible refine Below.drew ?_) | (with_reducible refine Below.alloc ?_ ?_ _) | (with_reducible refine Below.setCell ?_ ?_ _) | (with_reducible refine Below.then_ ?_ (by assumption) ?_) | go_size)), by (repeat' (first | (with_reducible exact Frz.refl _) | (with_reducible assumption) | (with_reducible refine Frz.drewN ?_ _) | (with_reducible refine Frz.drew ?_) | (with_reducible refine Frz.alloc ?_ _ _) | (with_reducible refine Frz.setCell ?_ _ _) | (with_reducible refine Frz.then_ ?_ (by assumption))))⟩
  case round =>
    obtain ⟨k, hk, rfl, hf, hb, hfz⟩ := hrel
    have hsz := hb.size
    by_cases hlt : k < l.length
    · obtain ⟨x, hx⟩ := get_of_lt hlt
      obtain ⟨b, off, rfl, hbl, d0, d1, f0, f1⟩ := hr.PSt_at hb hx
      have hwx : wtPSt x ≤ 1048576 := Nat.le_trans (wtL_get hx) hs
      have HX := hide hx; clear hx
      have hgl := hf.out.lt
      go_wp2_with fail
      refine (toProductState x  wr f1 hwx).mono ?_
      rintro e w1 ⟨rfl, hb1, fz1⟩
      have hf1 := hf.out.to hb1
      obtain ⟨⟨v0, p0⟩, z0⟩ := hf1.room hlt 0 (by decide)
      obtain ⟨⟨v1, p1⟩, z1⟩ := hf1.room hlt 1 (by decide)
      have HF := hide hf1; clear hf1
      simp only [shPSt_size, Nat.add_zero] at p0 z0 p1 z1
      have hb2 := hb.trans (hb1.mono hsz)
      have hsz1 := hb1.size
      go_wp2_with fail
      go_roundw
      case rel => exact ⟨k + 1, by omega, by go_num, hide (HF.out.step [.int .i64 x.state, .string ⟨(x.values).toArray⟩] HX.out (shPSt_mk f0 f1) (by simp [setCells, shPSt_size])), by (repeat' (first | (with_reducible exact Below.refl _ _) | (with_reducible assumption) | (with_reducible refine below_drewN' ?_ _) | (with_reducible refine Below.drew ?_) | (with_reducible refine Below.alloc ?_ ?_ _) | (with_reducible refine Below.setCell ?_ ?_ _) | (with_reducible refine Below.then_ ?_ (by assumption) ?_) | go_size)), by (repeat' (first | (with_reducible exact Frz.refl _) | (with_reducible assumption) | (with_reducible refine Frz.drewN ?_ _) | (with_reducible refine Frz.drew ?_) | (with_reducible refine Frz.alloc ?_ _ _) | (with_reducible refine Frz.setCell ?_ _ _) | (with_reducible refine Frz.then_ ?_ (by assumption))))⟩
      case measure => simp [intOf]; omega
    · have : k = l.length := by omega
      subst this
      go_wp2
      go_ret
      exact ⟨_, rfl, hf.out.finish, by (repeat' (first | (with_reducible exact Below.refl _ _) | (with_reducible assumption) | (with_reducible refine below_drewN' ?_ _) | (with_reducible refine Below.drew ?_) | (with_reducible refine Below.alloc ?_ ?_ _) | (with_reducible refine Below.setCell ?_ ?_ _) | (with_reducible refine Below.then_ ?_ (by assumption) ?_) | go_size)), by (repeat' (first | (with_reducible exact Frz.refl _) | (with_reducible assumption) | (with_reducible refine Frz.drewN ?_ _) | (with_reducible refine Frz.drew ?_) | (with_reducible refine Frz.alloc ?_ _ _) | (with_reducible refine Frz.setCell ?_ _ _) | (with_reducible refine Frz.then_ ?_ (by assumption))))⟩

set_option maxHeartbeats 1000000 in
theorem eqProductStateS (A A' : Option Addr) (c c' : Nat) (l : (List PSt)) (w : World) (hl : l.length ≤ 9223372036854775807) (hr : RA shPSt w A l) (hr' : RA shPSt w A' l) :
    Calls Try.prog 35 #[.slice A l.length c, .slice A' l.length c'] w fun e w' => e = .returned (.bool true) ∧ Below w.heap.size w w' := by
  go_enter Try.func35, Try.ntmps35
  go_wp2
  go_loopw [5] (fun i wr => ∃ k : Nat, k ≤ l.length ∧ i = .int .i64 k ∧ Below w.heap.size w wr) (fun i _ => l.length - (intOf i).toNat)
  case atStart => exact ⟨0, Nat.zero_le _, rfl, Below.refl _ _⟩
  case round =>
    obtain ⟨k, hk, rfl, hb⟩ := hrel
    have hsz := hb.size
    by_cases hlt : k < l.length
    · obtain ⟨x, hx⟩ := get_of_lt hlt
      obtain ⟨b, off, rfl, hbl, d0, d1, f0, f1⟩ := hr.PSt_at hb hx
      obtain ⟨b', off', rfl, hbl', d0', d1', f0', f1'⟩ := hr'.PSt_at hb hx
      have HX := hide hx; clear hx
      go_wp2_with fail
      go_region_held3 (fun W => W.cell? ⟨b, off + k * 2, none⟩ = some (.int .i64 x.state) ∧ W.cell? ⟨b, off + k * 2 + 1, none⟩ = some (.string ⟨(x.values).toArray⟩) ∧ W.cell? ⟨b', off' + k * 2, none⟩ = some (.int .i64 x.state) ∧ W.cell? ⟨b', off' + k * 2 + 1, none⟩ = some (.string ⟨(x.values).toArray⟩)) (first | exact ⟨d0, d1, d0', d1'⟩ | exact ⟨(cell_later hb1 d0), (cell_later hb1 d1), (cell_later hb1 d0'), (cell_later hb1 d1')⟩) (first | (go_at_call 71; refine (eqProductState x   _ f1 ).mono ?_; rintro e w1 ⟨rfl, hb1⟩))
      have hb2 := hb.drew.trans (hb1.mono hsz)
      go_wp2_with fail
      go_roundw
      case rel => exact ⟨k + 1, by omega, by go_num, by (repeat' (first | (with_reducible exact Below.refl _ _) | (with_reducible assumption) | (with_reducible refine below_drewN' ?_ _) | (with_reducible refine Below.drew ?_) | (with_reducible refine Below.alloc ?_ ?_ _) | (with_reducible refine Below.setCell ?_ ?_ _) | (with_reducible refine Below.then_ ?_ (by assumption) ?_) | go_size))⟩
      case measure => simp [intOf]; omega
    · go_wp2
      go_ret
      exact ⟨rfl, by (repeat' (first | (with_reducible exact Below.refl _ _) | (with_reducible assumption) | (with_reducible refine below_drewN' ?_ _) | (with_reducible refine Below.drew ?_) | (with_reducible refine Below.alloc ?_ ?_ _) | (with_reducible refine Below.setCell ?_ ?_ _) | (with_reducible refine Below.then_ ?_ (by assumption) ?_) | go_size))⟩

set_option maxHeartbeats 1000000 in
theorem toWireFlip (x : Flip)  (w : World)   :
    Calls Try.prog 67 #[.agg #[.int .i64 x.from_, .int .i64 x.wire, .int .i64 x.to]] w fun e w' => e = .returned (.agg #[.int .i64 x.from_, .int .i64 x.wire, .int .i64 x.to]) ∧ Below w.heap.size w w' ∧ Frz w w' := by
  go_enter Try.func67, Try.ntmps67
  go_wp2
  go_returns
  exact ⟨rfl, by (repeat' (first | (with_reducible exact Below.refl _ _) | (with_reducible assumption) | (with_reducible refine below_drewN' ?_ _) | (with_reducible refine Below.drew ?_) | (with_reducible refine Below.alloc ?_ ?_ _) | (with_reducible refine Below.setCell ?_ ?_ _) | (with_reducible refine Below.then_ ?_ (by assumption) ?_) | go_size)), by (repeat' (first | (with_reducible exact Frz.refl _) | (with_reducible assumption) | (with_reducible refine Frz.drewN ?_ _) | (with_reducible refine Frz.drew ?_) | (with_reducible refine Frz.alloc ?_ _ _) | (with_reducible refine Frz.setCell ?_ _ _) | (with_reducible refine Frz.then_ ?_ (by assumption))))⟩

set_option maxHeartbeats 1000000 in
theorem eqWireFlip (x : Flip)   (w : World)   :
    Calls Try.prog 72 #[.agg #[.int .i64 x.from_, .int .i64 x.wire, .int .i64 x.to], .agg #[.int .i64 x.from_, .int .i64 x.wire, .int .i64 x.to]] w fun e w' => e = .returned (.bool true) ∧ Below w.heap.size w w' := by
  go_enter Try.func72, Try.ntmps72
  go_wp2
  go_ret
  exact ⟨rfl, by (repeat' (first | (with_reducible exact Below.refl _ _) | (with_reducible assumption) | (with_reducible refine below_drewN' ?_ _) | (with_reducible refine Below.drew ?_) | (with_reducible refine Below.alloc ?_ ?_ _) | (with_reducible refine Below.setCell ?_ ?_ _) | (with_reducible refine Below.then_ ?_ (by assumption) ?_) | go_size))⟩

set_option maxHeartbeats 400000 in
theorem szWireFlipS (A : Option Addr) (n c : Nat) (left : Int) (w : World) (hn : n ≤ 9223372036854775807) (h0 : 0 ≤ left) (h1 : left ≤ 1048576) :
    Calls Try.prog 26 #[.slice A n c, .int .i64 left] w fun e w' => e = .returned (.int .i64 (szRes n left)) ∧ w' = w := by
  by_cases h : left < n
  · go_enter Try.func26, Try.ntmps26
    go_wp2
    go_ret
    exact ⟨ret_int (by unfold szRes; rw [if_pos (by omega)]), rfl⟩
  · go_enter Try.func26, Try.ntmps26
    go_wp2
    go_ret
    exact ⟨ret_int (by unfold szRes; rw [if_neg (by omega)]), rfl⟩

set_option maxHeartbeats 1000000 in
theorem toWireFlipS (A : Option Addr) (c : Nat) (l : (List Flip)) (w : World) (hs : l.length ≤ 1048576) (hr : RA shFlip w A l) :
    Calls Try.prog 31 #[.slice A l.length c] w fun e w' => ∃ A', e = .returned (.slice A' l.length l.length) ∧ RSl shFlip w' (Fresh w w') A' l ∧ Below w.heap.size w w' ∧ Frz w w' := by
  have hl := hs
  obtain ⟨cells, hcs, hmk⟩ := make_row (P := Try.prog) (t := 31) (e := 72) (size := 3) (bytes := 24) Try.underlying31 (by kernel_rfl) l.length (by omega) (by decide)
  have HC := hide hcs; clear hcs
  have HM := hide hmk; clear hmk
  go_enter Try.func31, Try.ntmps31
  have hmk := HM.out w
  go_wp2
  clear hmk
  go_loopw [4] (fun i wr => ∃ k : Nat, k ≤ l.length ∧ i = .int .i64 k ∧ Hid (Filled shFlip wr (Nest w.heap.size wr) w.heap.size 72 l.length k l) ∧ Below w.heap.size w wr ∧ Frz w wr) (fun i _ => l.length - (intOf i).toNat)
  case atStart => exact ⟨0, Nat.zero_le _, rfl, Filled.start HC.out, by (repeat' (first | (with_reducible exact Below.refl _ _) | (with_reducible assumption) | (with_reducible refine below_drewN' ?_ _) | (with_reducible refine Below.drew ?_) | (with_reducible refine Below.alloc ?_ ?_ _) | (with_reducible refine Below.setCell ?_ ?_ _) | (with_reducible refine Below.then_ ?_ (by assumption) ?_) | go_size)), by (repeat' (first | (with_reducible exact Frz.refl _) | (with_reducible assumption) | (with_reducible refine Frz.drewN ?_ _) | (with_reducible refine Frz.drew ?_) | (with_reducible refine Frz.alloc ?_ _ _) | (with_reducible refine Frz.setCell ?_ _ _) | (with_reducible refine Frz.then_ ?_ (by assumption))))⟩
  case round =>
    obtain ⟨k, hk, rfl, hf, hb, hfz⟩ := hrel
    have hsz := hb.size
    by_cases hlt : k < l.length
    · obtain ⟨x, hx⟩ := get_of_lt hlt
      obtain ⟨b, off, rfl, hbl, d0, d1, d2, f0, f1, f2⟩ := hr.Flip_at hb hx
      have HX := hide hx; clear hx
      have hgl := hf.out.lt
      go_wp2_with fail
      refine (toWireFlip x  wr  ).mono ?_
      rintro e w1 ⟨rfl, hb1, fz1⟩
      have hf1 := hf.out.to hb1
      obtain ⟨⟨v0, p0⟩, z0⟩ := hf1.room hlt 0 (by decide)
      obtain ⟨⟨v1, p1⟩, z1⟩ := hf1.room hlt 1 (by decide)
      obtain ⟨⟨v2, p2⟩, z2⟩ := hf1.room hlt 2 (by decide)
      have HF := hide hf1; clear hf1
      simp only [shFlip_size, Nat.add_zero] at p0 z0 p1 z1 p2 z2
      have hb2 := hb.trans (hb1.mono hsz)
      have hsz1 := hb1.size
      go_wp2_with fail
      go_roundw
      case rel => exact ⟨k + 1, by omega, by go_num, hide (HF.out.step [.int .i64 x.from_, .int .i64 x.wire, .int .i64 x.to] HX.out (shFlip_mk f0 f1 f2) (by simp [setCells, shFlip_size])), by (repeat' (first | (with_reducible exact Below.refl _ _) | (with_reducible assumption) | (with_reducible refine below_drewN' ?_ _) | (with_reducible refine Below.drew ?_) | (with_reducible refine Below.alloc ?_ ?_ _) | (with_reducible refine Below.setCell ?_ ?_ _) | (with_reducible refine Below.then_ ?_ (by assumption) ?_) | go_size)), by (repeat' (first | (with_reducible exact Frz.refl _) | (with_reducible assumption) | (with_reducible refine Frz.drewN ?_ _) | (with_reducible refine Frz.drew ?_) | (with_reducible refine Frz.alloc ?_ _ _) | (with_reducible refine Frz.setCell ?_ _ _) | (with_reducible refine Frz.then_ ?_ (by assumption))))⟩
      case measure => simp [intOf]; omega
    · have : k = l.length := by omega
      subst this
      go_wp2
      go_ret
      exact ⟨_, rfl, hf.out.finish, by (repeat' (first | (with_reducible exact Below.refl _ _) | (with_reducible assumption) | (with_reducible refine below_drewN' ?_ _) | (with_reducible refine Below.drew ?_) | (with_reducible refine Below.alloc ?_ ?_ _) | (with_reducible refine Below.setCell ?_ ?_ _) | (with_reducible refine Below.then_ ?_ (by assumption) ?_) | go_size)), by (repeat' (first | (with_reducible exact Frz.refl _) | (with_reducible assumption) | (with_reducible refine Frz.drewN ?_ _) | (with_reducible refine Frz.drew ?_) | (with_reducible refine Frz.alloc ?_ _ _) | (with_reducible refine Frz.setCell ?_ _ _) | (with_reducible refine Frz.then_ ?_ (by assumption))))⟩

set_option maxHeartbeats 1000000 in
theorem eqWireFlipS (A A' : Option Addr) (c c' : Nat) (l : (List Flip)) (w : World) (hl : l.length ≤ 9223372036854775807) (hr : RA shFlip w A l) (hr' : RA shFlip w A' l) :
    Calls Try.prog 36 #[.slice A l.length c, .slice A' l.length c'] w fun e w' => e = .returned (.bool true) ∧ Below w.heap.size w w' := by
  go_enter Try.func36, Try.ntmps36
  go_wp2
  go_loopw [5] (fun i wr => ∃ k : Nat, k ≤ l.length ∧ i = .int .i64 k ∧ Below w.heap.size w wr) (fun i _ => l.length - (intOf i).toNat)
  case atStart => exact ⟨0, Nat.zero_le _, rfl, Below.refl _ _⟩
  case round =>
    obtain ⟨k, hk, rfl, hb⟩ := hrel
    have hsz := hb.size
    by_cases hlt : k < l.length
    · obtain ⟨x, hx⟩ := get_of_lt hlt
      obtain ⟨b, off, rfl, hbl, d0, d1, d2, f0, f1, f2⟩ := hr.Flip_at hb hx
      obtain ⟨b', off', rfl, hbl', d0', d1', d2', f0', f1', f2'⟩ := hr'.Flip_at hb hx
      have HX := hide hx; clear hx
      go_wp2_with fail
      go_region_held3 (fun W => W.cell? ⟨b, off + k * 3, none⟩ = some (.int .i64 x.from_) ∧ W.cell? ⟨b, off + k * 3 + 1, none⟩ = some (.int .i64 x.wire) ∧ W.cell? ⟨b, off + k * 3 + 2, none⟩ = some (.int .i64 x.to) ∧ W.cell? ⟨b', off' + k * 3, none⟩ = some (.int .i64 x.from_) ∧ W.cell? ⟨b', off' + k * 3 + 1, none⟩ = some (.int .i64 x.wire) ∧ W.cell? ⟨b', off' + k * 3 + 2, none⟩ = some (.int .i64 x.to)) (first | exact ⟨d0, d1, d2, d0', d1', d2'⟩ | exact ⟨(cell_later hb1 d0), (cell_later hb1 d1), (cell_later hb1 d2), (cell_later hb1 d0'), (cell_later hb1 d1'), (cell_later hb1 d2')⟩) (first | (go_at_call 72; refine (eqWireFlip x   _  ).mono ?_; rintro e w1 ⟨rfl, hb1⟩))
      have hb2 := hb.drew.trans (hb1.mono hsz)
      go_wp2_with fail
      go_roundw
      case rel => exact ⟨k + 1, by omega, by go_num, by (repeat' (first | (with_reducible exact Below.refl _ _) | (with_reducible assumption) | (with_reducible refine below_drewN' ?_ _) | (with_reducible refine Below.drew ?_) | (with_reducible refine Below.alloc ?_ ?_ _) | (with_reducible refine Below.setCell ?_ ?_ _) | (with_reducible refine Below.then_ ?_ (by assumption) ?_) | go_size))⟩
      case measure => simp [intOf]; omega
    · go_wp2
      go_ret
      exact ⟨rfl, by (repeat' (first | (with_reducible exact Below.refl _ _) | (with_reducible assumption) | (with_reducible refine below_drewN' ?_ _) | (with_reducible refine Below.drew ?_) | (with_reducible refine Below.alloc ?_ ?_ _) | (with_reducible refine Below.setCell ?_ ?_ _) | (with_reducible refine Below.then_ ?_ (by assumption) ?_) | go_size))⟩

def wtProdG (x : ProdG) : Nat := (wtL wtPSt x.states) + (x.flips).length + (x.extra).length

set_option maxHeartbeats 1000000 in
theorem szProduct (x : ProdG) (A_states : Option Addr) (c_states : Nat) (A_flips : Option Addr) (c_flips : Nat) (A_extra : Option Addr) (c_extra : Nat) (left : Int) (w : World) (g0 : (x.states).length ≤ c_states) (g1 : c_states ≤ 9223372036854775807) (g2 : RA shPSt w A_states x.states) (g3 : (x.flips).length ≤ c_flips) (g4 : c_flips ≤ 9223372036854775807) (g5 : RA shFlip w A_flips x.flips) (g6 : (x.extra).length ≤ c_extra) (g7 : c_extra ≤ 9223372036854775807) (g8 : RA shFlip w A_extra x.extra) (h0 : 0 ≤ left) (h1 : left ≤ 1048576) :
    Calls Try.prog 6 #[.agg #[.slice A_states (x.states).length c_states, .slice A_flips (x.flips).length c_flips, .slice A_extra (x.extra).length c_extra], .int .i64 left] w fun e w' => e = .returned (.int .i64 (szRes (wtProdG x) left)) ∧ Below w.heap.size w w' := by
  show Calls _ _ _ _ fun e w' => e = .returned (.int .i64 (szRes ((wtL wtPSt x.states) + (x.flips).length + (x.extra).length) left)) ∧ _
  go_enter Try.func6, Try.ntmps6
  go_wp2_with fail
  refine (szProductStateS A_states c_states x.states (left) _ (by omega) (RA.to g2 ?hb) (by omega) (by omega)).mono ?_
  case hb => (repeat' (first | (with_reducible exact Below.refl _ _) | (with_reducible assumption) | (with_reducible refine below_drewN' ?_ _) | (with_reducible refine Below.drew ?_) | (with_reducible refine Below.alloc ?_ ?_ _) | (with_reducible refine Below.setCell ?_ ?_ _) | (with_reducible refine Below.then_ ?_ (by assumption) ?_) | go_size))
  rintro e w1 ⟨rfl, hb1⟩
  obtain ⟨hc1, hf1⟩ := bcell hb1
  have hz1 := hb1.size
  repeat (first | rw [World.size_alloc] at hz1 | rw [World.size_setCell] at hz1)
  have l1_0 : w.heap.size < w1.heap.size := by omega
  by_cases q1 : left < ((wtL wtPSt x.states) : Nat)
  · rw [szRes_neg q1]
    go_wp2
    go_ret
    exact ⟨ret_int (by unfold szRes; rw [if_pos (by omega)]), by (repeat' (first | (with_reducible exact Below.refl _ _) | (with_reducible assumption) | (with_reducible refine below_drewN' ?_ _) | (with_reducible refine Below.drew ?_) | (with_reducible refine Below.alloc ?_ ?_ _) | (with_reducible refine Below.setCell ?_ ?_ _) | (with_reducible refine Below.then_ ?_ (by assumption) ?_) | go_size))⟩
  · rw [szRes_pos q1]
    go_wp2_with fail
    refine (szWireFlipS A_flips (x.flips).length c_flips (left - ((wtL wtPSt x.states) : Nat)) _ (by omega) (by omega) (by omega)).mono ?_
    rintro e w2 ⟨rfl, rfl⟩
    by_cases q2 : left - ((wtL wtPSt x.states) : Nat) < ((x.flips).length : Nat)
    · rw [szRes_neg q2]
      go_wp2
      go_ret
      exact ⟨ret_int (by unfold szRes; rw [if_pos (by omega)]), by (repeat' (first | (with_reducible exact Below.refl _ _) | (with_reducible assumption) | (with_reducible refine below_drewN' ?_ _) | (with_reducible refine Below.drew ?_) | (with_reducible refine Below.alloc ?_ ?_ _) | (with_reducible refine Below.setCell ?_ ?_ _) | (with_reducible refine Below.then_ ?_ (by assumption) ?_) | go_size))⟩
    · rw [szRes_pos q2]
      go_wp2_with fail
      refine (szWireFlipS A_extra (x.extra).length c_extra (left - ((wtL wtPSt x.states) : Nat) - ((x.flips).length : Nat)) _ (by omega) (by omega) (by omega)).mono ?_
      rintro e w3 ⟨rfl, rfl⟩
      by_cases q3 : left - ((wtL wtPSt x.states) : Nat) - ((x.flips).length : Nat) < ((x.extra).length : Nat)
      · rw [szRes_neg q3]
        go_wp2
        go_ret
        exact ⟨ret_int (by unfold szRes; rw [if_pos (by omega)]), by (repeat' (first | (with_reducible exact Below.refl _ _) | (with_reducible assumption) | (with_reducible refine below_drewN' ?_ _) | (with_reducible refine Below.drew ?_) | (with_reducible refine Below.alloc ?_ ?_ _) | (with_reducible refine Below.setCell ?_ ?_ _) | (with_reducible refine Below.then_ ?_ (by assumption) ?_) | go_size))⟩
      · rw [szRes_pos q3]
        go_wp2
        go_ret
        exact ⟨ret_int (by (unfold szRes; rw [if_neg (by omega)]) <;> omega), by (repeat' (first | (with_reducible exact Below.refl _ _) | (with_reducible assumption) | (with_reducible refine below_drewN' ?_ _) | (with_reducible refine Below.drew ?_) | (with_reducible refine Below.alloc ?_ ?_ _) | (with_reducible refine Below.setCell ?_ ?_ _) | (with_reducible refine Below.then_ ?_ (by assumption) ?_) | go_size))⟩

set_option maxHeartbeats 1000000 in
theorem toProduct (x : ProdG) (A_states : Option Addr) (c_states : Nat) (A_flips : Option Addr) (c_flips : Nat) (A_extra : Option Addr) (c_extra : Nat) (w : World) (g0 : (x.states).length ≤ c_states) (g1 : c_states ≤ 9223372036854775807) (g2 : RA shPSt w A_states x.states) (g3 : (x.flips).length ≤ c_flips) (g4 : c_flips ≤ 9223372036854775807) (g5 : RA shFlip w A_flips x.flips) (g6 : (x.extra).length ≤ c_extra) (g7 : c_extra ≤ 9223372036854775807) (g8 : RA shFlip w A_extra x.extra) (hs : wtProdG x ≤ 1048576) :
    Calls Try.prog 8 #[.agg #[.slice A_states (x.states).length c_states, .slice A_flips (x.flips).length c_flips, .slice A_extra (x.extra).length c_extra]] w fun e w' => ∃ A_states' A_flips' A_extra', e = .returned (.agg #[.slice A_states' (x.states).length (x.states).length, .slice A_flips' (x.flips).length (x.flips).length, .slice A_extra' (x.extra).length (x.extra).length]) ∧ RSl shPSt w' (Fresh w w') A_states' x.states ∧ RSl shFlip w' (Fresh w w') A_flips' x.flips ∧ RSl shFlip w' (Fresh w w') A_extra' x.extra ∧ Below w.heap.size w w' ∧ Frz w w' := by
  unfold wtProdG at hs
  go_enter Try.func8, Try.ntmps8
  go_wp2_with fail
  refine (toProductStateS A_states c_states x.states _ (by omega) (RA.to g2 ?hb)).mono ?_
  case hb => (repeat' (first | (with_reducible exact Below.refl _ _) | (with_reducible assumption) | (with_reducible refine below_drewN' ?_ _) | (with_reducible refine Below.drew ?_) | (with_reducible refine Below.alloc ?_ ?_ _) | (with_reducible refine Below.setCell ?_ ?_ _) | (with_reducible refine Below.then_ ?_ (by assumption) ?_) | go_size))
  rintro e w1 ⟨A_states', rfl, r1, hb1, fz1⟩
  obtain ⟨hc1, hf1⟩ := bcell hb1
  have hz1 := hb1.size
  repeat (first | rw [World.size_alloc] at hz1 | rw [World.size_setCell] at hz1)
  have l1_0 : w.heap.size < w1.heap.size := by omega
  have l1_1 : w.heap.size + 1 < w1.heap.size := by omega
  have l1_2 : w.heap.size + 1 + 1 < w1.heap.size := by omega
  go_wp2_with fail
  refine (toWireFlipS A_flips c_flips x.flips _ (by omega) (RA.to g5 ?hb)).mono ?_
  case hb => (repeat' (first | (with_reducible exact Below.refl _ _) | (with_reducible assumption) | (with_reducible refine below_drewN' ?_ _) | (with_reducible refine Below.drew ?_) | (with_reducible refine Below.alloc ?_ ?_ _) | (with_reducible refine Below.setCell ?_ ?_ _) | (with_reducible refine Below.then_ ?_ (by assumption) ?_) | go_size))
  rintro e w2 ⟨A_flips', rfl, r2, hb2, fz2⟩
  obtain ⟨hc2, hf2⟩ := bcell hb2
  have hz2 := hb2.size
  repeat (first | rw [World.size_alloc] at hz2 | rw [World.size_setCell] at hz2)
  have l2_0 : w.heap.size < w2.heap.size := by omega
  have l2_1 : w.heap.size + 1 < w2.heap.size := by omega
  have l2_2 : w.heap.size + 1 + 1 < w2.heap.size := by omega
  go_wp2_with fail
  refine (toWireFlipS A_extra c_extra x.extra _ (by omega) (RA.to g8 ?hb)).mono ?_
  case hb => (repeat' (first | (with_reducible exact Below.refl _ _) | (with_reducible assumption) | (with_reducible refine below_drewN' ?_ _) | (with_reducible refine Below.drew ?_) | (with_reducible refine Below.alloc ?_ ?_ _) | (with_reducible refine Below.setCell ?_ ?_ _) | (with_reducible refine Below.then_ ?_ (by assumption) ?_) | go_size))
  rintro e w3 ⟨A_extra', rfl, r3, hb3, fz3⟩
  obtain ⟨hc3, hf3⟩ := bcell hb3
  have hz3 := hb3.size
  repeat (first | rw [World.size_alloc] at hz3 | rw [World.size_setCell] at hz3)
  have l3_0 : w.heap.size < w3.heap.size := by omega
  have l3_1 : w.heap.size + 1 < w3.heap.size := by omega
  have l3_2 : w.heap.size + 1 + 1 < w3.heap.size := by omega
  go_wp2
  refine bodyPost_ret (v := .agg #[.slice A_states' (x.states).length (x.states).length, .slice A_flips' (x.flips).length (x.flips).length, .slice A_extra' (x.extra).length (x.extra).length]) ?_ rfl ?_
  · simp [results, Try.results8, go_sem, *]
  exact ⟨_, _, _, rfl, (r1).keep (by (refine Agree.out ?_; repeat' (first | (with_reducible exact Agree.refl _ _) | (with_reducible refine Agree.drew ?_) | (with_reducible refine Agree.drewN ?_ _) | (with_reducible refine Agree.setCell ?_ ?_ _) | (with_reducible refine Agree.alloc ?_ ?_ _) | (with_reducible refine Agree.then_ ?_ (by assumption) ?_) | (intro b hb; obtain ⟨hb1, hb2⟩ := hb; (first | omega | ((try simp at hb1); (try simp at hb2); (try simp); omega)))))) (by (intro b hb; obtain ⟨hb1, hb2⟩ := hb; exact ⟨by (first | omega | ((try simp at hb1); (try simp at hb2); (try simp); omega)), by (first | omega | ((try simp at hb1); (try simp at hb2); (try simp); omega))⟩)), (r2).keep (by (refine Agree.out ?_; repeat' (first | (with_reducible exact Agree.refl _ _) | (with_reducible refine Agree.drew ?_) | (with_reducible refine Agree.drewN ?_ _) | (with_reducible refine Agree.setCell ?_ ?_ _) | (with_reducible refine Agree.alloc ?_ ?_ _) | (with_reducible refine Agree.then_ ?_ (by assumption) ?_) | (intro b hb; obtain ⟨hb1, hb2⟩ := hb; (first | omega | ((try simp at hb1); (try simp at hb2); (try simp); omega)))))) (by (intro b hb; obtain ⟨hb1, hb2⟩ := hb; exact ⟨by (first | omega | ((try simp at hb1); (try simp at hb2); (try simp); omega)), by (first | omega | ((try simp at hb1); (try simp at hb2); (try simp); omega))⟩)), (r3).keep (by (refine Agree.out ?_; repeat' (first | (with_reducible exact Agree.refl _ _) | (with_reducible refine Agree.drew ?_) | (with_reducible refine Agree.drewN ?_ _) | (with_reducible refine Agree.setCell ?_ ?_ _) | (with_reducible refine Agree.alloc ?_ ?_ _) | (with_reducible refine Agree.then_ ?_ (by assumption) ?_) | (intro b hb; obtain ⟨hb1, hb2⟩ := hb; (first | omega | ((try simp at hb1); (try simp at hb2); (try simp); omega)))))) (by (intro b hb; obtain ⟨hb1, hb2⟩ := hb; exact ⟨by (first | omega | ((try simp at hb1); (try simp at hb2); (try simp); omega)), by (first | omega | ((try simp at hb1); (try simp at hb2); (try simp); omega))⟩)), by (repeat' (first | (with_reducible exact Below.refl _ _) | (with_reducible assumption) | (with_reducible refine below_drewN' ?_ _) | (with_reducible refine Below.drew ?_) | (with_reducible refine Below.alloc ?_ ?_ _) | (with_reducible refine Below.setCell ?_ ?_ _) | (with_reducible refine Below.then_ ?_ (by assumption) ?_) | go_size)), by (repeat' (first | (with_reducible exact Frz.refl _) | (with_reducible assumption) | (with_reducible refine Frz.drewN ?_ _) | (with_reducible refine Frz.drew ?_) | (with_reducible refine Frz.alloc ?_ _ _) | (with_reducible refine Frz.setCell ?_ _ _) | (with_reducible refine Frz.then_ ?_ (by assumption))))⟩

set_option maxHeartbeats 1000000 in
theorem eqProduct (x : ProdG) (A_states : Option Addr) (c_states : Nat) (A_flips : Option Addr) (c_flips : Nat) (A_extra : Option Addr) (c_extra : Nat) (A_states' : Option Addr) (c_states' : Nat) (A_flips' : Option Addr) (c_flips' : Nat) (A_extra' : Option Addr) (c_extra' : Nat) (w : World) (g0 : (x.states).length ≤ c_states) (g1 : c_states ≤ 9223372036854775807) (g2 : RA shPSt w A_states x.states) (g3 : (x.flips).length ≤ c_flips) (g4 : c_flips ≤ 9223372036854775807) (g5 : RA shFlip w A_flips x.flips) (g6 : (x.extra).length ≤ c_extra) (g7 : c_extra ≤ 9223372036854775807) (g8 : RA shFlip w A_extra x.extra) (g0' : (x.states).length ≤ c_states') (g1' : c_states' ≤ 9223372036854775807) (g2' : RA shPSt w A_states' x.states) (g3' : (x.flips).length ≤ c_flips') (g4' : c_flips' ≤ 9223372036854775807) (g5' : RA shFlip w A_flips' x.flips) (g6' : (x.extra).length ≤ c_extra') (g7' : c_extra' ≤ 9223372036854775807) (g8' : RA shFlip w A_extra' x.extra) :
    Calls Try.prog 11 #[.agg #[.slice A_states (x.states).length c_states, .slice A_flips (x.flips).length c_flips, .slice A_extra (x.extra).length c_extra], .agg #[.slice A_states' (x.states).length c_states', .slice A_flips' (x.flips).length c_flips', .slice A_extra' (x.extra).length c_extra']] w fun e w' => e = .returned (.bool true) ∧ Below w.heap.size w w' := by
  go_enter Try.func11, Try.ntmps11
  go_wp2_with fail
  refine (eqProductStateS A_states A_states' c_states c_states' x.states _ (by omega) (RA.to g2 ?hb) (RA.to g2' ?hb2)).mono ?_
  case hb => (repeat' (first | (with_reducible exact Below.refl _ _) | (with_reducible assumption) | (with_reducible refine below_drewN' ?_ _) | (with_reducible refine Below.drew ?_) | (with_reducible refine Below.alloc ?_ ?_ _) | (with_reducible refine Below.setCell ?_ ?_ _) | (with_reducible refine Below.then_ ?_ (by assumption) ?_) | go_size))
  case hb2 => (repeat' (first | (with_reducible exact Below.refl _ _) | (with_reducible assumption) | (with_reducible refine below_drewN' ?_ _) | (with_reducible refine Below.drew ?_) | (with_reducible refine Below.alloc ?_ ?_ _) | (with_reducible refine Below.setCell ?_ ?_ _) | (with_reducible refine Below.then_ ?_ (by assumption) ?_) | go_size))
  rintro e w1 ⟨rfl, hb1⟩
  obtain ⟨hc1, hf1⟩ := bcell hb1
  have hz1 := hb1.size
  repeat (first | rw [World.size_alloc] at hz1 | rw [World.size_setCell] at hz1)
  have l1_0 : w.heap.size < w1.heap.size := by omega
  have l1_1 : w.heap.size + 1 < w1.heap.size := by omega
  go_wp2_with fail
  refine (eqWireFlipS A_flips A_flips' c_flips c_flips' x.flips _ (by omega) (RA.to g5 ?hb) (RA.to g5' ?hb2)).mono ?_
  case hb => (repeat' (first | (with_reducible exact Below.refl _ _) | (with_reducible assumption) | (with_reducible refine below_drewN' ?_ _) | (with_reducible refine Below.drew ?_) | (with_reducible refine Below.alloc ?_ ?_ _) | (with_reducible refine Below.setCell ?_ ?_ _) | (with_reducible refine Below.then_ ?_ (by assumption) ?_) | go_size))
  case hb2 => (repeat' (first | (with_reducible exact Below.refl _ _) | (with_reducible assumption) | (with_reducible refine below_drewN' ?_ _) | (with_reducible refine Below.drew ?_) | (with_reducible refine Below.alloc ?_ ?_ _) | (with_reducible refine Below.setCell ?_ ?_ _) | (with_reducible refine Below.then_ ?_ (by assumption) ?_) | go_size))
  rintro e w2 ⟨rfl, hb2⟩
  obtain ⟨hc2, hf2⟩ := bcell hb2
  have hz2 := hb2.size
  repeat (first | rw [World.size_alloc] at hz2 | rw [World.size_setCell] at hz2)
  have l2_0 : w.heap.size < w2.heap.size := by omega
  have l2_1 : w.heap.size + 1 < w2.heap.size := by omega
  go_wp2_with fail
  refine (eqWireFlipS A_extra A_extra' c_extra c_extra' x.extra _ (by omega) (RA.to g8 ?hb) (RA.to g8' ?hb2)).mono ?_
  case hb => (repeat' (first | (with_reducible exact Below.refl _ _) | (with_reducible assumption) | (with_reducible refine below_drewN' ?_ _) | (with_reducible refine Below.drew ?_) | (with_reducible refine Below.alloc ?_ ?_ _) | (with_reducible refine Below.setCell ?_ ?_ _) | (with_reducible refine Below.then_ ?_ (by assumption) ?_) | go_size))
  case hb2 => (repeat' (first | (with_reducible exact Below.refl _ _) | (with_reducible assumption) | (with_reducible refine below_drewN' ?_ _) | (with_reducible refine Below.drew ?_) | (with_reducible refine Below.alloc ?_ ?_ _) | (with_reducible refine Below.setCell ?_ ?_ _) | (with_reducible refine Below.then_ ?_ (by assumption) ?_) | go_size))
  rintro e w3 ⟨rfl, hb3⟩
  obtain ⟨hc3, hf3⟩ := bcell hb3
  have hz3 := hb3.size
  repeat (first | rw [World.size_alloc] at hz3 | rw [World.size_setCell] at hz3)
  have l3_0 : w.heap.size < w3.heap.size := by omega
  have l3_1 : w.heap.size + 1 < w3.heap.size := by omega
  go_wp2
  go_ret
  exact ⟨rfl, by (repeat' (first | (with_reducible exact Below.refl _ _) | (with_reducible assumption) | (with_reducible refine below_drewN' ?_ _) | (with_reducible refine Below.drew ?_) | (with_reducible refine Below.alloc ?_ ?_ _) | (with_reducible refine Below.setCell ?_ ?_ _) | (with_reducible refine Below.then_ ?_ (by assumption) ?_) | go_size))⟩

end Go.Proofs.Ytmfplddmccggkaa.Lw
