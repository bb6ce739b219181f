/-
  The contracts of the laws' own helpers over: int[]/eq Sig Sig[] Pin Pin[] str[] Wire Wire[] Nl PSt PSt[] Flip Flip[] ProdG. Printed by a program of this repo (lawgen.py).
-/
import Derived.Test.YtjplbgaocmpleaaGreatRows
import Derived.Test.YtjplbgaocmpleaaGreatData
import Derived.Test.YtjplbgaocmpleaaGreatFrz
namespace Go.Proofs.YtjplbgaocmpleaaGreat.Lw
open Go.RowKit
set_option linter.unusedVariables false

set_option maxHeartbeats 1000000 in
theorem eqIntS (A A' : Option Addr) (c c' : Nat) (l : (List Int)) (w : World) (hl : l.length ≤ 9223372036854775807) (hr : RA shInt w A l) (hr' : RA shInt w A' l) :
    Calls Tryz.prog 14 #[.slice A l.length c, .slice A' l.length c'] w fun e w' => e = .returned (.bool true) ∧ Below w.heap.size w w' := by
  go_enter Tryz.func14, Tryz.ntmps14
  go_wp2
  go_loopw [5] (fun i wr => ∃ k : Nat, k ≤ l.length ∧ i = .int .i64 k ∧ Below w.heap.size w wr) (fun i _ => l.length - (intOf i).toNat)
  case atStart => exact ⟨0, Nat.zero_le _, rfl, Below.refl _ _⟩
  case round =>
    obtain ⟨k, hk, rfl, hb⟩ := hrel
    have hsz := hb.size
    by_cases hlt : k < l.length
    · obtain ⟨x, hx⟩ := get_of_lt hlt
      obtain ⟨b, off, rfl, hbl, d0, f0⟩ := hr.int_at hb hx
      obtain ⟨b', off', rfl, hbl', d0', f0'⟩ := hr'.int_at hb hx
      have HX := hide hx; clear hx
      go_wp2_with fail
      go_quiet (fail)
      go_wp2_with fail
      go_roundw
      case rel => exact ⟨k + 1, by omega, by go_num, by (repeat' (first | (with_reducible exact Below.refl _ _) | (with_reducible assumption) | (with_reducible refine below_drewN' ?_ _) | (with_reducible refine Below.drew ?_) | (with_reducible refine Below.alloc ?_ ?_ _) | (with_reducible refine Below.setCell ?_ ?_ _) | (with_reducible refine Below.then_ ?_ (by assumption) ?_) | go_size))⟩
      case measure => simp [intOf]; omega
    · go_wp2
      go_ret
      exact ⟨rfl, by (repeat' (first | (with_reducible exact Below.refl _ _) | (with_reducible assumption) | (with_reducible refine below_drewN' ?_ _) | (with_reducible refine Below.drew ?_) | (with_reducible refine Below.alloc ?_ ?_ _) | (with_reducible refine Below.setCell ?_ ?_ _) | (with_reducible refine Below.then_ ?_ (by assumption) ?_) | go_size))⟩

def wtSig (x : Sig) : Nat := (x.name).length

set_option maxHeartbeats 1000000 in
theorem szSignal (x : Sig)  (left : Int) (w : World) (g0 : (x.name).length ≤ 9223372036854775807) (h0 : 0 ≤ left) (h1 : left ≤ 1048576) :
    Calls Tryz.prog 88 #[.agg #[.string ⟨(x.name).toArray⟩, .int .i64 x.kind], .int .i64 left] w fun e w' => e = .returned (.int .i64 (szRes (wtSig x) left)) ∧ Below w.heap.size w w' := by
  show Calls _ _ _ _ fun e w' => e = .returned (.int .i64 (szRes ((x.name).length) left)) ∧ _
  go_enter Tryz.func88, Tryz.ntmps88
  by_cases q1 : left < ((x.name).length : Nat)
  · go_wp2
    go_ret
    exact ⟨ret_int (by unfold szRes; rw [if_pos (by omega)]), by (repeat' (first | (with_reducible exact Below.refl _ _) | (with_reducible assumption) | (with_reducible refine below_drewN' ?_ _) | (with_reducible refine Below.drew ?_) | (with_reducible refine Below.alloc ?_ ?_ _) | (with_reducible refine Below.setCell ?_ ?_ _) | (with_reducible refine Below.then_ ?_ (by assumption) ?_) | go_size))⟩
  · skip
    go_wp2
    go_ret
    exact ⟨ret_int (by (unfold szRes; rw [if_neg (by omega)]) <;> omega), by (repeat' (first | (with_reducible exact Below.refl _ _) | (with_reducible assumption) | (with_reducible refine below_drewN' ?_ _) | (with_reducible refine Below.drew ?_) | (with_reducible refine Below.alloc ?_ ?_ _) | (with_reducible refine Below.setCell ?_ ?_ _) | (with_reducible refine Below.then_ ?_ (by assumption) ?_) | go_size))⟩

set_option maxHeartbeats 1000000 in
theorem toSignal (x : Sig)  (w : World) (g0 : (x.name).length ≤ 9223372036854775807) (hs : wtSig x ≤ 1048576) :
    Calls Tryz.prog 93 #[.agg #[.string ⟨(x.name).toArray⟩, .int .i64 x.kind]] w fun e w' => e = .returned (.agg #[.string ⟨(x.name).toArray⟩, .int .i64 x.kind]) ∧ Below w.heap.size w w' ∧ Frz w w' := by
  unfold wtSig at hs
  go_enter Tryz.func93, Tryz.ntmps93
  go_wp2
  go_returns
  exact ⟨rfl, by (repeat' (first | (with_reducible exact Below.refl _ _) | (with_reducible assumption) | (with_reducible refine below_drewN' ?_ _) | (with_reducible refine Below.drew ?_) | (with_reducible refine Below.alloc ?_ ?_ _) | (with_reducible refine Below.setCell ?_ ?_ _) | (with_reducible refine Below.then_ ?_ (by assumption) ?_) | go_size)), by (repeat' (first | (with_reducible exact Frz.refl _) | (with_reducible assumption) | (with_reducible refine Frz.drewN ?_ _) | (with_reducible refine Frz.drew ?_) | (with_reducible refine Frz.alloc ?_ _ _) | (with_reducible refine Frz.setCell ?_ _ _) | (with_reducible refine Frz.then_ ?_ (by assumption))))⟩

set_option maxHeartbeats 1000000 in
theorem eqSignal (x : Sig)   (w : World) (g0 : (x.name).length ≤ 9223372036854775807)  :
    Calls Tryz.prog 105 #[.agg #[.string ⟨(x.name).toArray⟩, .int .i64 x.kind], .agg #[.string ⟨(x.name).toArray⟩, .int .i64 x.kind]] w fun e w' => e = .returned (.bool true) ∧ Below w.heap.size w w' := by
  go_enter Tryz.func105, Tryz.ntmps105
  go_wp2
  go_ret
  exact ⟨rfl, by (repeat' (first | (with_reducible exact Below.refl _ _) | (with_reducible assumption) | (with_reducible refine below_drewN' ?_ _) | (with_reducible refine Below.drew ?_) | (with_reducible refine Below.alloc ?_ ?_ _) | (with_reducible refine Below.setCell ?_ ?_ _) | (with_reducible refine Below.then_ ?_ (by assumption) ?_) | go_size))⟩

set_option maxHeartbeats 1000000 in
theorem szSignalS (A : Option Addr) (c : Nat) (l : (List Sig)) (left : Int) (w : World) (hn : l.length ≤ 9223372036854775807) (hr : RA shSig w A l) (h0 : 0 ≤ left) (h1 : left ≤ 1048576) :
    Calls Tryz.prog 39 #[.slice A l.length c, .int .i64 left] w fun e w' => e = .returned (.int .i64 (szRes (wtL wtSig l) left)) ∧ Below w.heap.size w w' := by
  by_cases h : left < l.length
  · have hs : szRes (wtL wtSig l) left = -1 := by unfold szRes wtL; rw [if_pos (by omega)]
    have HS := hide hs; clear hs
    go_enter Tryz.func39, Tryz.ntmps39
    go_wp2
    go_ret
    exact ⟨ret_int HS.out.symm, by (repeat' (first | (with_reducible exact Below.refl _ _) | (with_reducible assumption) | (with_reducible refine below_drewN' ?_ _) | (with_reducible refine Below.drew ?_) | (with_reducible refine Below.alloc ?_ ?_ _) | (with_reducible refine Below.setCell ?_ ?_ _) | (with_reducible refine Below.then_ ?_ (by assumption) ?_) | go_size))⟩
  · obtain ⟨R, hR⟩ : ∃ R, szRes (wtL wtSig l) left = R := ⟨_, rfl⟩
    have HR := hide hR
    have HL : Hid (szRes ((l.drop 0).map wtSig).sum (left - l.length) = R) := by show _ = _; rw [← hR, wtL, szRes_add h]; rfl
    clear hR
    go_enter Tryz.func39, Tryz.ntmps39
    go_wp2
    go_loopw [5, 1] (fun i L wr => ∃ (k : Nat) (m : Int), k ≤ l.length ∧ i = .int .i64 k ∧ L = .int .i64 m ∧ 0 ≤ m ∧ m ≤ 1048576 ∧ Hid (szRes ((l.drop k).map wtSig).sum m = R) ∧ Below w.heap.size w wr) (fun i _ _ => l.length - (intOf i).toNat)
    case atStart => exact ⟨0, _, Nat.zero_le _, rfl, rfl, by omega, by omega, HL, by (repeat' (first | (with_reducible exact Below.refl _ _) | (with_reducible assumption) | (with_reducible refine below_drewN' ?_ _) | (with_reducible refine Below.drew ?_) | (with_reducible refine Below.alloc ?_ ?_ _) | (with_reducible refine Below.setCell ?_ ?_ _) | (with_reducible refine Below.then_ ?_ (by assumption) ?_) | go_size))⟩
    case round =>
      obtain ⟨k, m, hk, rfl, rfl, hm0, hm1, hgo, hb⟩ := hrel
      have hsz := hb.size
      by_cases hlt : k < l.length
      · obtain ⟨x, hx⟩ := get_of_lt hlt
        obtain ⟨b, off, rfl, hbl, d0, d1, f0, f1⟩ := hr.Sig_at hb hx
        have Hd := hide (drop_get hx)
        clear hx
        have hg1 := hgo.out
        rw [Hd.out, List.map_cons, List.sum_cons] at hg1
        have HG := hide hg1; clear hg1
        go_wp2_with fail
        refine (szSignal x  m _ f0 hm0 hm1).mono ?_
        rintro e w1 ⟨rfl, hb1⟩
        have hb2 := hb.trans (hb1.mono hsz)
        by_cases hq : m < (wtSig x : Nat)
        · rw [szRes_neg hq]
          have HQ := hide (szRes_add_neg (b := ((l.drop (k + 1)).map wtSig).sum) hq)
          go_wp2
          go_ret
          exact ⟨ret_int (by rw [HR.out, ← HG.out, ← HQ.out]), by (repeat' (first | (with_reducible exact Below.refl _ _) | (with_reducible assumption) | (with_reducible refine below_drewN' ?_ _) | (with_reducible refine Below.drew ?_) | (with_reducible refine Below.alloc ?_ ?_ _) | (with_reducible refine Below.setCell ?_ ?_ _) | (with_reducible refine Below.then_ ?_ (by assumption) ?_) | go_size))⟩
        · rw [szRes_pos hq]
          have HG2 : Hid (szRes ((l.drop (k + 1)).map wtSig).sum (m - (wtSig x : Nat)) = R) := by show _ = _; rw [← HG.out]; exact (szRes_add hq).symm
          have hq1 : (wtSig x : Int) ≤ m := by omega
          have hq2 : (0 : Int) ≤ (wtSig x : Nat) := by omega
          go_wp2_with fail
          go_roundw
          case rel => exact ⟨k + 1, _, by omega, by go_num, rfl, by omega, by omega, HG2, by (repeat' (first | (with_reducible exact Below.refl _ _) | (with_reducible assumption) | (with_reducible refine below_drewN' ?_ _) | (with_reducible refine Below.drew ?_) | (with_reducible refine Below.alloc ?_ ?_ _) | (with_reducible refine Below.setCell ?_ ?_ _) | (with_reducible refine Below.then_ ?_ (by assumption) ?_) | go_size))⟩
          case measure => simp [intOf]; omega
      · have hg1 := hgo.out
        rw [drop_end hlt] at hg1
        have HG := hide hg1; clear hg1
        go_wp2
        go_ret
        exact ⟨ret_int (by rw [HR.out, ← HG.out]; unfold szRes; simp; omega), by (repeat' (first | (with_reducible exact Below.refl _ _) | (with_reducible assumption) | (with_reducible refine below_drewN' ?_ _) | (with_reducible refine Below.drew ?_) | (with_reducible refine Below.alloc ?_ ?_ _) | (with_reducible refine Below.setCell ?_ ?_ _) | (with_reducible refine Below.then_ ?_ (by assumption) ?_) | go_size))⟩

set_option maxHeartbeats 1000000 in
theorem toSignalS (A : Option Addr) (c : Nat) (l : (List Sig)) (w : World) (hs : wtL wtSig l ≤ 1048576) (hr : RA shSig w A l) :
    Calls Tryz.prog 47 #[.slice A l.length c] w fun e w' => ∃ A', e = .returned (.slice A' l.length l.length) ∧ RSl shSig w' (Fresh w w') A' l ∧ Below w.heap.size w w' ∧ Frz w w' := by
  have hl : l.length ≤ 1048576 := by unfold wtL at hs; omega
  obtain ⟨cells, hcs, hmk⟩ := make_row (P := Tryz.prog) (t := 35) (e := 143) (size := 2) (bytes := 24) Tryz.underlying35 (by kernel_rfl) l.length (by omega) (by decide)
  have HC := hide hcs; clear hcs
  have HM := hide hmk; clear hmk
  go_enter Tryz.func47, Tryz.ntmps47
  have hmk := HM.out w
  go_wp2
  clear hmk
  go_loopw [4] (fun i wr => ∃ k : Nat, k ≤ l.length ∧ i = .int .i64 k ∧ Hid (Filled shSig wr (Nest w.heap.size wr) w.heap.size 143 l.length k l) ∧ Below w.heap.size w wr ∧ Frz w wr) (fun i _ => l.length - (intOf i).toNat)
  case atStart => exact ⟨0, Nat.zero_le _, rfl, Filled.start HC.out, by (repeat' (first | (with_reducible exact Below.refl _ _) | (with_reducible assumption) | (with_reducible refine below_drewN' ?_ _) | (with_reducible refine Below.drew ?_) | (with_reducible refine Below.alloc ?_ ?_ _) | (with_reducible refine Below.setCell ?_ ?_ _) | (with_reducible refine Below.then_ ?_ (by assumption) ?_) | go_size)), by (repeat' (first | (with_reducible exact Frz.refl _) | (with_reducible assumption) | (with_reducible refine Frz.drewN ?_ _) | (with_reducible refine Frz.drew ?_) | (with_reducible refine Frz.alloc ?_ _ _) | (with_reducible refine Frz.setCell ?_ _ _) | (with_reducible refine Frz.then_ ?_ (by assumption))))⟩
  case round =>
    obtain ⟨k, hk, rfl, hf, hb, hfz⟩ := hrel
    have hsz := hb.size
    by_cases hlt : k < l.length
    · obtain ⟨x, hx⟩ := get_of_lt hlt
      obtain ⟨b, off, rfl, hbl, d0, d1, f0, f1⟩ := hr.Sig_at hb hx
      have hwx : wtSig x ≤ 1048576 := Nat.le_trans (wtL_get hx) hs
      have HX := hide hx; clear hx
      have hgl := hf.out.lt
      go_wp2_with fail
      refine (toSignal x  wr f0 hwx).mono ?_
      rintro e w1 ⟨rfl, hb1, fz1⟩
      have hf1 := hf.out.to hb1
      obtain ⟨⟨v0, p0⟩, z0⟩ := hf1.room hlt 0 (by decide)
      obtain ⟨⟨v1, p1⟩, z1⟩ := hf1.room hlt 1 (by decide)
      have HF := hide hf1; clear hf1
      simp only [shSig_size, Nat.add_zero] at p0 z0 p1 z1
      have hb2 := hb.trans (hb1.mono hsz)
      have hsz1 := hb1.size
      go_wp2_with fail
      go_roundw
      case rel => exact ⟨k + 1, by omega, by go_num, hide (HF.out.step [.string ⟨(x.name).toArray⟩, .int .i64 x.kind] HX.out (shSig_mk f0 f1) (by simp [setCells, shSig_size])), by (repeat' (first | (with_reducible exact Below.refl _ _) | (with_reducible assumption) | (with_reducible refine below_drewN' ?_ _) | (with_reducible refine Below.drew ?_) | (with_reducible refine Below.alloc ?_ ?_ _) | (with_reducible refine Below.setCell ?_ ?_ _) | (with_reducible refine Below.then_ ?_ (by assumption) ?_) | go_size)), by (repeat' (first | (with_reducible exact Frz.refl _) | (with_reducible assumption) | (with_reducible refine Frz.drewN ?_ _) | (with_reducible refine Frz.drew ?_) | (with_reducible refine Frz.alloc ?_ _ _) | (with_reducible refine Frz.setCell ?_ _ _) | (with_reducible refine Frz.then_ ?_ (by assumption))))⟩
      case measure => simp [intOf]; omega
    · have : k = l.length := by omega
      subst this
      go_wp2
      go_ret
      exact ⟨_, rfl, hf.out.finish, by (repeat' (first | (with_reducible exact Below.refl _ _) | (with_reducible assumption) | (with_reducible refine below_drewN' ?_ _) | (with_reducible refine Below.drew ?_) | (with_reducible refine Below.alloc ?_ ?_ _) | (with_reducible refine Below.setCell ?_ ?_ _) | (with_reducible refine Below.then_ ?_ (by assumption) ?_) | go_size)), by (repeat' (first | (with_reducible exact Frz.refl _) | (with_reducible assumption) | (with_reducible refine Frz.drewN ?_ _) | (with_reducible refine Frz.drew ?_) | (with_reducible refine Frz.alloc ?_ _ _) | (with_reducible refine Frz.setCell ?_ _ _) | (with_reducible refine Frz.then_ ?_ (by assumption))))⟩

set_option maxHeartbeats 1000000 in
theorem eqSignalS (A A' : Option Addr) (c c' : Nat) (l : (List Sig)) (w : World) (hl : l.length ≤ 9223372036854775807) (hr : RA shSig w A l) (hr' : RA shSig w A' l) :
    Calls Tryz.prog 57 #[.slice A l.length c, .slice A' l.length c'] w fun e w' => e = .returned (.bool true) ∧ Below w.heap.size w w' := by
  go_enter Tryz.func57, Tryz.ntmps57
  go_wp2
  go_loopw [5] (fun i wr => ∃ k : Nat, k ≤ l.length ∧ i = .int .i64 k ∧ Below w.heap.size w wr) (fun i _ => l.length - (intOf i).toNat)
  case atStart => exact ⟨0, Nat.zero_le _, rfl, Below.refl _ _⟩
  case round =>
    obtain ⟨k, hk, rfl, hb⟩ := hrel
    have hsz := hb.size
    by_cases hlt : k < l.length
    · obtain ⟨x, hx⟩ := get_of_lt hlt
      obtain ⟨b, off, rfl, hbl, d0, d1, f0, f1⟩ := hr.Sig_at hb hx
      obtain ⟨b', off', rfl, hbl', d0', d1', f0', f1'⟩ := hr'.Sig_at hb hx
      have HX := hide hx; clear hx
      go_wp2_with fail
      go_region_held3 (fun W => W.cell? ⟨b, off + k * 2, none⟩ = some (.string ⟨(x.name).toArray⟩) ∧ W.cell? ⟨b, off + k * 2 + 1, none⟩ = some (.int .i64 x.kind) ∧ W.cell? ⟨b', off' + k * 2, none⟩ = some (.string ⟨(x.name).toArray⟩) ∧ W.cell? ⟨b', off' + k * 2 + 1, none⟩ = some (.int .i64 x.kind)) (first | exact ⟨d0, d1, d0', d1'⟩ | exact ⟨(cell_later hb1 d0), (cell_later hb1 d1), (cell_later hb1 d0'), (cell_later hb1 d1')⟩) (first | (go_at_call 105; refine (eqSignal x   _ f0 ).mono ?_; rintro e w1 ⟨rfl, hb1⟩))
      have hb2 := hb.drew.trans (hb1.mono hsz)
      go_wp2_with fail
      go_roundw
      case rel => exact ⟨k + 1, by omega, by go_num, by (repeat' (first | (with_reducible exact Below.refl _ _) | (with_reducible assumption) | (with_reducible refine below_drewN' ?_ _) | (with_reducible refine Below.drew ?_) | (with_reducible refine Below.alloc ?_ ?_ _) | (with_reducible refine Below.setCell ?_ ?_ _) | (with_reducible refine Below.then_ ?_ (by assumption) ?_) | go_size))⟩
      case measure => simp [intOf]; omega
    · go_wp2
      go_ret
      exact ⟨rfl, by (repeat' (first | (with_reducible exact Below.refl _ _) | (with_reducible assumption) | (with_reducible refine below_drewN' ?_ _) | (with_reducible refine Below.drew ?_) | (with_reducible refine Below.alloc ?_ ?_ _) | (with_reducible refine Below.setCell ?_ ?_ _) | (with_reducible refine Below.then_ ?_ (by assumption) ?_) | go_size))⟩

set_option maxHeartbeats 1000000 in
theorem toPin (x : Pin)  (w : World)   :
    Calls Tryz.prog 156 #[.agg #[.int .i64 x.at_, .bool x.not_]] w fun e w' => e = .returned (.agg #[.int .i64 x.at_, .bool x.not_]) ∧ Below w.heap.size w w' ∧ Frz w w' := by
  go_enter Tryz.func156, Tryz.ntmps156
  go_wp2
  go_returns
  exact ⟨rfl, by (repeat' (first | (with_reducible exact Below.refl _ _) | (with_reducible assumption) | (with_reducible refine below_drewN' ?_ _) | (with_reducible refine Below.drew ?_) | (with_reducible refine Below.alloc ?_ ?_ _) | (with_reducible refine Below.setCell ?_ ?_ _) | (with_reducible refine Below.then_ ?_ (by assumption) ?_) | go_size)), by (repeat' (first | (with_reducible exact Frz.refl _) | (with_reducible assumption) | (with_reducible refine Frz.drewN ?_ _) | (with_reducible refine Frz.drew ?_) | (with_reducible refine Frz.alloc ?_ _ _) | (with_reducible refine Frz.setCell ?_ _ _) | (with_reducible refine Frz.then_ ?_ (by assumption))))⟩

set_option maxHeartbeats 1000000 in
theorem eqPin (x : Pin)   (w : World)   :
    Calls Tryz.prog 166 #[.agg #[.int .i64 x.at_, .bool x.not_], .agg #[.int .i64 x.at_, .bool x.not_]] w fun e w' => e = .returned (.bool true) ∧ Below w.heap.size w w' := by
  go_enter Tryz.func166, Tryz.ntmps166
  go_wp2
  go_ret
  exact ⟨rfl, by (repeat' (first | (with_reducible exact Below.refl _ _) | (with_reducible assumption) | (with_reducible refine below_drewN' ?_ _) | (with_reducible refine Below.drew ?_) | (with_reducible refine Below.alloc ?_ ?_ _) | (with_reducible refine Below.setCell ?_ ?_ _) | (with_reducible refine Below.then_ ?_ (by assumption) ?_) | go_size))⟩

set_option maxHeartbeats 400000 in
theorem szPinS (A : Option Addr) (n c : Nat) (left : Int) (w : World) (hn : n ≤ 9223372036854775807) (h0 : 0 ≤ left) (h1 : left ≤ 1048576) :
    Calls Tryz.prog 124 #[.slice A n c, .int .i64 left] w fun e w' => e = .returned (.int .i64 (szRes n left)) ∧ w' = w := by
  by_cases h : left < n
  · go_enter Tryz.func124, Tryz.ntmps124
    go_wp2
    go_ret
    exact ⟨ret_int (by unfold szRes; rw [if_pos (by omega)]), rfl⟩
  · go_enter Tryz.func124, Tryz.ntmps124
    go_wp2
    go_ret
    exact ⟨ret_int (by unfold szRes; rw [if_neg (by omega)]), rfl⟩

set_option maxHeartbeats 1000000 in
theorem toPinS (A : Option Addr) (c : Nat) (l : (List Pin)) (w : World) (hs : l.length ≤ 1048576) (hr : RA shPin w A l) :
    Calls Tryz.prog 130 #[.slice A l.length c] w fun e w' => ∃ A', e = .returned (.slice A' l.length l.length) ∧ RSl shPin w' (Fresh w w') A' l ∧ Below w.heap.size w w' ∧ Frz w w' := by
  have hl := hs
  obtain ⟨cells, hcs, hmk⟩ := make_row (P := Tryz.prog) (t := 136) (e := 176) (size := 2) (bytes := 16) Tryz.underlying136 (by kernel_rfl) l.length (by omega) (by decide)
  have HC := hide hcs; clear hcs
  have HM := hide hmk; clear hmk
  go_enter Tryz.func130, Tryz.ntmps130
  have hmk := HM.out w
  go_wp2
  clear hmk
  go_loopw [4] (fun i wr => ∃ k : Nat, k ≤ l.length ∧ i = .int .i64 k ∧ Hid (Filled shPin wr (Nest w.heap.size wr) w.heap.size 176 l.length k l) ∧ Below w.heap.size w wr ∧ Frz w wr) (fun i _ => l.length - (intOf i).toNat)
  case atStart => exact ⟨0, Nat.zero_le _, rfl, Filled.start HC.out, by (repeat' (first | (with_reducible exact Below.refl _ _) | (with_reducible assumption) | (with_reducible refine below_drewN' ?_ _) | (with_reducible refine Below.drew ?_) | (with_reducible refine Below.alloc ?_ ?_ _) | (with_reducible refine Below.setCell ?_ ?_ _) | (with_reducible refine Below.then_ ?_ (by assumption) ?_) | go_size)), by (repeat' (first | (with_reducible exact Frz.refl _) | (with_reducible assumption) | (with_reducible refine Frz.drewN ?_ _) | (with_reducible refine Frz.drew ?_) | (with_reducible refine Frz.alloc ?_ _ _) | (with_reducible refine Frz.setCell ?_ _ _) | (with_reducible refine Frz.then_ ?_ (by assumption))))⟩
  case round =>
    obtain ⟨k, hk, rfl, hf, hb, hfz⟩ := hrel
    have hsz := hb.size
    by_cases hlt : k < l.length
    · obtain ⟨x, hx⟩ := get_of_lt hlt
      obtain ⟨b, off, rfl, hbl, d0, d1, f0⟩ := hr.Pin_at hb hx
      have HX := hide hx; clear hx
      have hgl := hf.out.lt
      go_wp2_with fail
      refine (toPin x  wr  ).mono ?_
      rintro e w1 ⟨rfl, hb1, fz1⟩
      have hf1 := hf.out.to hb1
      obtain ⟨⟨v0, p0⟩, z0⟩ := hf1.room hlt 0 (by decide)
      obtain ⟨⟨v1, p1⟩, z1⟩ := hf1.room hlt 1 (by decide)
      have HF := hide hf1; clear hf1
      simp only [shPin_size, Nat.add_zero] at p0 z0 p1 z1
      have hb2 := hb.trans (hb1.mono hsz)
      have hsz1 := hb1.size
      go_wp2_with fail
      go_roundw
      case rel => exact ⟨k + 1, by omega, by go_num, hide (HF.out.step [.int .i64 x.at_, .bool x.not_] HX.out (shPin_mk f0) (by simp [setCells, shPin_size])), by (repeat' (first | (with_reducible exact Below.refl _ _) | (with_reducible assumption) | (with_reducible refine below_drewN' ?_ _) | (with_reducible refine Below.drew ?_) | (with_reducible refine Below.alloc ?_ ?_ _) | (with_reducible refine Below.setCell ?_ ?_ _) | (with_reducible refine Below.then_ ?_ (by assumption) ?_) | go_size)), by (repeat' (first | (with_reducible exact Frz.refl _) | (with_reducible assumption) | (with_reducible refine Frz.drewN ?_ _) | (with_reducible refine Frz.drew ?_) | (with_reducible refine Frz.alloc ?_ _ _) | (with_reducible refine Frz.setCell ?_ _ _) | (with_reducible refine Frz.then_ ?_ (by assumption))))⟩
      case measure => simp [intOf]; omega
    · have : k = l.length := by omega
      subst this
      go_wp2
      go_ret
      exact ⟨_, rfl, hf.out.finish, by (repeat' (first | (with_reducible exact Below.refl _ _) | (with_reducible assumption) | (with_reducible refine below_drewN' ?_ _) | (with_reducible refine Below.drew ?_) | (with_reducible refine Below.alloc ?_ ?_ _) | (with_reducible refine Below.setCell ?_ ?_ _) | (with_reducible refine Below.then_ ?_ (by assumption) ?_) | go_size)), by (repeat' (first | (with_reducible exact Frz.refl _) | (with_reducible assumption) | (with_reducible refine Frz.drewN ?_ _) | (with_reducible refine Frz.drew ?_) | (with_reducible refine Frz.alloc ?_ _ _) | (with_reducible refine Frz.setCell ?_ _ _) | (with_reducible refine Frz.then_ ?_ (by assumption))))⟩

set_option maxHeartbeats 1000000 in
theorem eqPinS (A A' : Option Addr) (c c' : Nat) (l : (List Pin)) (w : World) (hl : l.length ≤ 9223372036854775807) (hr : RA shPin w A l) (hr' : RA shPin w A' l) :
    Calls Tryz.prog 141 #[.slice A l.length c, .slice A' l.length c'] w fun e w' => e = .returned (.bool true) ∧ Below w.heap.size w w' := by
  go_enter Tryz.func141, Tryz.ntmps141
  go_wp2
  go_loopw [5] (fun i wr => ∃ k : Nat, k ≤ l.length ∧ i = .int .i64 k ∧ Below w.heap.size w wr) (fun i _ => l.length - (intOf i).toNat)
  case atStart => exact ⟨0, Nat.zero_le _, rfl, Below.refl _ _⟩
  case round =>
    obtain ⟨k, hk, rfl, hb⟩ := hrel
    have hsz := hb.size
    by_cases hlt : k < l.length
    · obtain ⟨x, hx⟩ := get_of_lt hlt
      obtain ⟨b, off, rfl, hbl, d0, d1, f0⟩ := hr.Pin_at hb hx
      obtain ⟨b', off', rfl, hbl', d0', d1', f0'⟩ := hr'.Pin_at hb hx
      have HX := hide hx; clear hx
      go_wp2_with fail
      go_region_held3 (fun W => W.cell? ⟨b, off + k * 2, none⟩ = some (.int .i64 x.at_) ∧ W.cell? ⟨b, off + k * 2 + 1, none⟩ = some (.bool x.not_) ∧ W.cell? ⟨b', off' + k * 2, none⟩ = some (.int .i64 x.at_) ∧ W.cell? ⟨b', off' + k * 2 + 1, none⟩ = some (.bool x.not_)) (first | exact ⟨d0, d1, d0', d1'⟩ | exact ⟨(cell_later hb1 d0), (cell_later hb1 d1), (cell_later hb1 d0'), (cell_later hb1 d1')⟩) (first | (go_at_call 166; refine (eqPin x   _  ).mono ?_; rintro e w1 ⟨rfl, hb1⟩))
      have hb2 := hb.drew.trans (hb1.mono hsz)
      go_wp2_with fail
      go_roundw
      case rel => exact ⟨k + 1, by omega, by go_num, by (repeat' (first | (with_reducible exact Below.refl _ _) | (with_reducible assumption) | (with_reducible refine below_drewN' ?_ _) | (with_reducible refine Below.drew ?_) | (with_reducible refine Below.alloc ?_ ?_ _) | (with_reducible refine Below.setCell ?_ ?_ _) | (with_reducible refine Below.then_ ?_ (by assumption) ?_) | go_size))⟩
      case measure => simp [intOf]; omega
    · go_wp2
      go_ret
      exact ⟨rfl, by (repeat' (first | (with_reducible exact Below.refl _ _) | (with_reducible assumption) | (with_reducible refine below_drewN' ?_ _) | (with_reducible refine Below.drew ?_) | (with_reducible refine Below.alloc ?_ ?_ _) | (with_reducible refine Below.setCell ?_ ?_ _) | (with_reducible refine Below.then_ ?_ (by assumption) ?_) | go_size))⟩

set_option maxHeartbeats 1000000 in
theorem szStringS (A : Option Addr) (c : Nat) (l : (List (List UInt8))) (left : Int) (w : World) (hn : l.length ≤ 9223372036854775807) (hr : RA shStr w A l) (h0 : 0 ≤ left) (h1 : left ≤ 1048576) :
    Calls Tryz.prog 63 #[.slice A l.length c, .int .i64 left] w fun e w' => e = .returned (.int .i64 (szRes (wtL wtStr l) left)) ∧ Below w.heap.size w w' := by
  by_cases h : left < l.length
  · have hs : szRes (wtL wtStr l) left = -1 := by unfold szRes wtL; rw [if_pos (by omega)]
    have HS := hide hs; clear hs
    go_enter Tryz.func63, Tryz.ntmps63
    go_wp2
    go_ret
    exact ⟨ret_int HS.out.symm, by (repeat' (first | (with_reducible exact Below.refl _ _) | (with_reducible assumption) | (with_reducible refine below_drewN' ?_ _) | (with_reducible refine Below.drew ?_) | (with_reducible refine Below.alloc ?_ ?_ _) | (with_reducible refine Below.setCell ?_ ?_ _) | (with_reducible refine Below.then_ ?_ (by assumption) ?_) | go_size))⟩
  · obtain ⟨R, hR⟩ : ∃ R, szRes (wtL wtStr l) left = R := ⟨_, rfl⟩
    have HR := hide hR
    have HL : Hid (szRes ((l.drop 0).map wtStr).sum (left - l.length) = R) := by show _ = _; rw [← hR, wtL, szRes_add h]; rfl
    clear hR
    go_enter Tryz.func63, Tryz.ntmps63
    go_wp2
    go_loopw [5, 1] (fun i L wr => ∃ (k : Nat) (m : Int), k ≤ l.length ∧ i = .int .i64 k ∧ L = .int .i64 m ∧ 0 ≤ m ∧ m ≤ 1048576 ∧ Hid (szRes ((l.drop k).map wtStr).sum m = R) ∧ Below w.heap.size w wr) (fun i _ _ => l.length - (intOf i).toNat)
    case atStart => exact ⟨0, _, Nat.zero_le _, rfl, rfl, by omega, by omega, HL, by (repeat' (first | (with_reducible exact Below.refl _ _) | (with_reducible assumption) | (with_reducible refine below_drewN' ?_ _) | (with_reducible refine Below.drew ?_) | (with_reducible refine Below.alloc ?_ ?_ _) | (with_reducible refine Below.setCell ?_ ?_ _) | (with_reducible refine Below.then_ ?_ (by assumption) ?_) | go_size))⟩
    case round =>
      obtain ⟨k, m, hk, rfl, rfl, hm0, hm1, hgo, hb⟩ := hrel
      have hsz := hb.size
      by_cases hlt : k < l.length
      · obtain ⟨x, hx⟩ := get_of_lt hlt
        obtain ⟨b, off, rfl, hbl, h2, f0⟩ := hr.str_at hb hx
        have Hd := hide (drop_get hx)
        clear hx
        have hg1 := hgo.out
        rw [Hd.out, List.map_cons, List.sum_cons] at hg1
        by_cases hq : m < (x.length : Int)
        · have HQ := hide (szRes_add_neg (b := ((l.drop (k + 1)).map wtStr).sum) hq)
          have HG := hide hg1; clear hg1
          go_wp2
          go_ret
          exact ⟨ret_int (by rw [HR.out, ← HG.out, ← HQ.out]; rfl), by (repeat' (first | (with_reducible exact Below.refl _ _) | (with_reducible assumption) | (with_reducible refine below_drewN' ?_ _) | (with_reducible refine Below.drew ?_) | (with_reducible refine Below.alloc ?_ ?_ _) | (with_reducible refine Below.setCell ?_ ?_ _) | (with_reducible refine Below.then_ ?_ (by assumption) ?_) | go_size))⟩
        · have HG : Hid (szRes ((l.drop (k + 1)).map wtStr).sum (m - x.length) = R) := by show _ = _; rw [← hg1]; exact (szRes_add hq).symm
          clear hg1
          go_wp2_with fail
          go_roundw
          case rel => exact ⟨k + 1, _, by omega, by go_num, rfl, by omega, by omega, HG, by (repeat' (first | (with_reducible exact Below.refl _ _) | (with_reducible assumption) | (with_reducible refine below_drewN' ?_ _) | (with_reducible refine Below.drew ?_) | (with_reducible refine Below.alloc ?_ ?_ _) | (with_reducible refine Below.setCell ?_ ?_ _) | (with_reducible refine Below.then_ ?_ (by assumption) ?_) | go_size))⟩
          case measure => simp [intOf]; omega
      · have hg1 := hgo.out
        rw [drop_end hlt] at hg1
        have HG := hide hg1; clear hg1
        go_wp2
        go_ret
        exact ⟨ret_int (by rw [HR.out, ← HG.out]; unfold szRes; simp; omega), by (repeat' (first | (with_reducible exact Below.refl _ _) | (with_reducible assumption) | (with_reducible refine below_drewN' ?_ _) | (with_reducible refine Below.drew ?_) | (with_reducible refine Below.alloc ?_ ?_ _) | (with_reducible refine Below.setCell ?_ ?_ _) | (with_reducible refine Below.then_ ?_ (by assumption) ?_) | go_size))⟩

set_option maxHeartbeats 1000000 in
theorem toStringS (A : Option Addr) (c : Nat) (l : (List (List UInt8))) (w : World) (hs : wtL wtStr l ≤ 1048576) (hr : RA shStr w A l) :
    Calls Tryz.prog 67 #[.slice A l.length c] w fun e w' => ∃ A', e = .returned (.slice A' l.length l.length) ∧ RSl shStr w' (Fresh w w') A' l ∧ Below w.heap.size w w' ∧ Frz w w' := by
  have hl : l.length ≤ 1048576 := by unfold wtL at hs; omega
  obtain ⟨cells, hcs, hmk⟩ := make_row (P := Tryz.prog) (t := 52) (e := 9) (size := 1) (bytes := 16) Tryz.underlying52 (by kernel_rfl) l.length (by omega) (by decide)
  have HC := hide hcs; clear hcs
  have HM := hide hmk; clear hmk
  go_enter Tryz.func67, Tryz.ntmps67
  have hmk := HM.out w
  go_wp2
  clear hmk
  go_loopw [4] (fun i wr => ∃ k : Nat, k ≤ l.length ∧ i = .int .i64 k ∧ Hid (Filled shStr wr (Nest w.heap.size wr) w.heap.size 9 l.length k l) ∧ Below w.heap.size w wr ∧ Frz w wr) (fun i _ => l.length - (intOf i).toNat)
  case atStart => exact ⟨0, Nat.zero_le _, rfl, Filled.start HC.out, by (repeat' (first | (with_reducible exact Below.refl _ _) | (with_reducible assumption) | (with_reducible refine below_drewN' ?_ _) | (with_reducible refine Below.drew ?_) | (with_reducible refine Below.alloc ?_ ?_ _) | (with_reducible refine Below.setCell ?_ ?_ _) | (with_reducible refine Below.then_ ?_ (by assumption) ?_) | go_size)), by (repeat' (first | (with_reducible exact Frz.refl _) | (with_reducible assumption) | (with_reducible refine Frz.drewN ?_ _) | (with_reducible refine Frz.drew ?_) | (with_reducible refine Frz.alloc ?_ _ _) | (with_reducible refine Frz.setCell ?_ _ _) | (with_reducible refine Frz.then_ ?_ (by assumption))))⟩
  case round =>
    obtain ⟨k, hk, rfl, hf, hb, hfz⟩ := hrel
    have hsz := hb.size
    by_cases hlt : k < l.length
    · obtain ⟨x, hx⟩ := get_of_lt hlt
      obtain ⟨b, off, rfl, hbl, d0, f0⟩ := hr.str_at hb hx
      have HX := hide hx; clear hx
      obtain ⟨⟨v0, r0⟩, z0⟩ := hf.out.room hlt 0 (by decide)
      have hgl := hf.out.lt
      simp only [shStr, Nat.add_zero, Nat.mul_one] at r0 z0
      go_wp2_with fail
      go_roundw
      case rel => exact ⟨k + 1, by omega, by go_num, hide (hf.out.step [.string ⟨x.toArray⟩] HX.out ⟨rfl, f0⟩ (by simp [setCells, shStr])), by (repeat' (first | (with_reducible exact Below.refl _ _) | (with_reducible assumption) | (with_reducible refine below_drewN' ?_ _) | (with_reducible refine Below.drew ?_) | (with_reducible refine Below.alloc ?_ ?_ _) | (with_reducible refine Below.setCell ?_ ?_ _) | (with_reducible refine Below.then_ ?_ (by assumption) ?_) | go_size)), by (repeat' (first | (with_reducible exact Frz.refl _) | (with_reducible assumption) | (with_reducible refine Frz.drewN ?_ _) | (with_reducible refine Frz.drew ?_) | (with_reducible refine Frz.alloc ?_ _ _) | (with_reducible refine Frz.setCell ?_ _ _) | (with_reducible refine Frz.then_ ?_ (by assumption))))⟩
      case measure => simp [intOf]; omega
    · have : k = l.length := by omega
      subst this
      go_wp2
      go_ret
      exact ⟨_, rfl, hf.out.finish, by (repeat' (first | (with_reducible exact Below.refl _ _) | (with_reducible assumption) | (with_reducible refine below_drewN' ?_ _) | (with_reducible refine Below.drew ?_) | (with_reducible refine Below.alloc ?_ ?_ _) | (with_reducible refine Below.setCell ?_ ?_ _) | (with_reducible refine Below.then_ ?_ (by assumption) ?_) | go_size)), by (repeat' (first | (with_reducible exact Frz.refl _) | (with_reducible assumption) | (with_reducible refine Frz.drewN ?_ _) | (with_reducible refine Frz.drew ?_) | (with_reducible refine Frz.alloc ?_ _ _) | (with_reducible refine Frz.setCell ?_ _ _) | (with_reducible refine Frz.then_ ?_ (by assumption))))⟩

set_option maxHeartbeats 1000000 in
theorem eqStringS (A A' : Option Addr) (c c' : Nat) (l : (List (List UInt8))) (w : World) (hl : l.length ≤ 9223372036854775807) (hr : RA shStr w A l) (hr' : RA shStr w A' l) :
    Calls Tryz.prog 71 #[.slice A l.length c, .slice A' l.length c'] w fun e w' => e = .returned (.bool true) ∧ Below w.heap.size w w' := by
  go_enter Tryz.func71, Tryz.ntmps71
  go_wp2
  go_loopw [5] (fun i wr => ∃ k : Nat, k ≤ l.length ∧ i = .int .i64 k ∧ Below w.heap.size w wr) (fun i _ => l.length - (intOf i).toNat)
  case atStart => exact ⟨0, Nat.zero_le _, rfl, Below.refl _ _⟩
  case round =>
    obtain ⟨k, hk, rfl, hb⟩ := hrel
    have hsz := hb.size
    by_cases hlt : k < l.length
    · obtain ⟨x, hx⟩ := get_of_lt hlt
      obtain ⟨b, off, rfl, hbl, d0, f0⟩ := hr.str_at hb hx
      obtain ⟨b', off', rfl, hbl', d0', f0'⟩ := hr'.str_at hb hx
      have HX := hide hx; clear hx
      go_wp2_with fail
      go_quiet (fail)
      go_wp2_with fail
      go_roundw
      case rel => exact ⟨k + 1, by omega, by go_num, by (repeat' (first | (with_reducible exact Below.refl _ _) | (with_reducible assumption) | (with_reducible refine below_drewN' ?_ _) | (with_reducible refine Below.drew ?_) | (with_reducible refine Below.alloc ?_ ?_ _) | (with_reducible refine Below.setCell ?_ ?_ _) | (with_reducible refine Below.then_ ?_ (by assumption) ?_) | go_size))⟩
      case measure => simp [intOf]; omega
    · go_wp2
      go_ret
      exact ⟨rfl, by (repeat' (first | (with_reducible exact Below.refl _ _) | (with_reducible assumption) | (with_reducible refine below_drewN' ?_ _) | (with_reducible refine Below.drew ?_) | (with_reducible refine Below.alloc ?_ ?_ _) | (with_reducible refine Below.setCell ?_ ?_ _) | (with_reducible refine Below.then_ ?_ (by assumption) ?_) | go_size))⟩

def wtWire (x : Wire) : Nat := (x.name).length + (x.ins).length + (wtL wtStr x.cover)

set_option maxHeartbeats 1000000 in
theorem szWire (x : Wire) (A_ins : Option Addr) (c_ins : Nat) (A_cover : Option Addr) (c_cover : Nat) (left : Int) (w : World) (g0 : (x.name).length ≤ 9223372036854775807) (g2 : (x.ins).length ≤ c_ins) (g3 : c_ins ≤ 9223372036854775807) (g4 : RA shPin w A_ins x.ins) (g5 : (x.cover).length ≤ c_cover) (g6 : c_cover ≤ 9223372036854775807) (g7 : RA shStr w A_cover x.cover) (h0 : 0 ≤ left) (h1 : left ≤ 1048576) :
    Calls Tryz.prog 89 #[.agg #[.string ⟨(x.name).toArray⟩, .int .i64 x.kind, .slice A_ins (x.ins).length c_ins, .slice A_cover (x.cover).length c_cover], .int .i64 left] w fun e w' => e = .returned (.int .i64 (szRes (wtWire x) left)) ∧ Below w.heap.size w w' := by
  show Calls _ _ _ _ fun e w' => e = .returned (.int .i64 (szRes ((x.name).length + (x.ins).length + (wtL wtStr x.cover)) left)) ∧ _
  go_enter Tryz.func89, Tryz.ntmps89
  by_cases q1 : left < ((x.name).length : Nat)
  · go_wp2
    go_ret
    exact ⟨ret_int (by unfold szRes; rw [if_pos (by omega)]), by (repeat' (first | (with_reducible exact Below.refl _ _) | (with_reducible assumption) | (with_reducible refine below_drewN' ?_ _) | (with_reducible refine Below.drew ?_) | (with_reducible refine Below.alloc ?_ ?_ _) | (with_reducible refine Below.setCell ?_ ?_ _) | (with_reducible refine Below.then_ ?_ (by assumption) ?_) | go_size))⟩
  · skip
    go_wp2_with fail
    refine (szPinS A_ins (x.ins).length c_ins (left - ((x.name).length : Nat)) _ (by omega) (by omega) (by omega)).mono ?_
    rintro e w2 ⟨rfl, rfl⟩
    by_cases q2 : left - ((x.name).length : Nat) < ((x.ins).length : Nat)
    · rw [szRes_neg q2]
      go_wp2
      go_ret
      exact ⟨ret_int (by unfold szRes; rw [if_pos (by omega)]), by (repeat' (first | (with_reducible exact Below.refl _ _) | (with_reducible assumption) | (with_reducible refine below_drewN' ?_ _) | (with_reducible refine Below.drew ?_) | (with_reducible refine Below.alloc ?_ ?_ _) | (with_reducible refine Below.setCell ?_ ?_ _) | (with_reducible refine Below.then_ ?_ (by assumption) ?_) | go_size))⟩
    · rw [szRes_pos q2]
      go_wp2_with fail
      refine (szStringS A_cover c_cover x.cover (left - ((x.name).length : Nat) - ((x.ins).length : Nat)) _ (by omega) (RA.to g7 ?hb) (by omega) (by omega)).mono ?_
      case hb => (repeat' (first | (with_reducible exact Below.refl _ _) | (with_reducible assumption) | (with_reducible refine below_drewN' ?_ _) | (with_reducible refine Below.drew ?_) | (with_reducible refine Below.alloc ?_ ?_ _) | (with_reducible refine Below.setCell ?_ ?_ _) | (with_reducible refine Below.then_ ?_ (by assumption) ?_) | go_size))
      rintro e w3 ⟨rfl, hb3⟩
      obtain ⟨hc3, hf3⟩ := bcell hb3
      have hz3 := hb3.size
      repeat (first | rw [World.size_alloc] at hz3 | rw [World.size_setCell] at hz3)
      have l3_0 : w.heap.size < w3.heap.size := by omega
      by_cases q3 : left - ((x.name).length : Nat) - ((x.ins).length : Nat) < ((wtL wtStr x.cover) : Nat)
      · rw [szRes_neg q3]
        go_wp2
        go_ret
        exact ⟨ret_int (by unfold szRes; rw [if_pos (by omega)]), by (repeat' (first | (with_reducible exact Below.refl _ _) | (with_reducible assumption) | (with_reducible refine below_drewN' ?_ _) | (with_reducible refine Below.drew ?_) | (with_reducible refine Below.alloc ?_ ?_ _) | (with_reducible refine Below.setCell ?_ ?_ _) | (with_reducible refine Below.then_ ?_ (by assumption) ?_) | go_size))⟩
      · rw [szRes_pos q3]
        go_wp2
        go_ret
        exact ⟨ret_int (by (unfold szRes; rw [if_neg (by omega)]) <;> omega), by (repeat' (first | (with_reducible exact Below.refl _ _) | (with_reducible assumption) | (with_reducible refine below_drewN' ?_ _) | (with_reducible refine Below.drew ?_) | (with_reducible refine Below.alloc ?_ ?_ _) | (with_reducible refine Below.setCell ?_ ?_ _) | (with_reducible refine Below.then_ ?_ (by assumption) ?_) | go_size))⟩

set_option maxHeartbeats 1000000 in
theorem toWire (x : Wire) (A_ins : Option Addr) (c_ins : Nat) (A_cover : Option Addr) (c_cover : Nat) (w : World) (g0 : (x.name).length ≤ 9223372036854775807) (g2 : (x.ins).length ≤ c_ins) (g3 : c_ins ≤ 9223372036854775807) (g4 : RA shPin w A_ins x.ins) (g5 : (x.cover).length ≤ c_cover) (g6 : c_cover ≤ 9223372036854775807) (g7 : RA shStr w A_cover x.cover) (hs : wtWire x ≤ 1048576) :
    Calls Tryz.prog 94 #[.agg #[.string ⟨(x.name).toArray⟩, .int .i64 x.kind, .slice A_ins (x.ins).length c_ins, .slice A_cover (x.cover).length c_cover]] w fun e w' => ∃ A_ins' A_cover', e = .returned (.agg #[.string ⟨(x.name).toArray⟩, .int .i64 x.kind, .slice A_ins' (x.ins).length (x.ins).length, .slice A_cover' (x.cover).length (x.cover).length]) ∧ RSl shPin w' (Fresh w w') A_ins' x.ins ∧ RSl shStr w' (Fresh w w') A_cover' x.cover ∧ Below w.heap.size w w' ∧ Frz w w' := by
  unfold wtWire at hs
  go_enter Tryz.func94, Tryz.ntmps94
  go_wp2_with fail
  refine (toPinS A_ins c_ins x.ins _ (by omega) (RA.to g4 ?hb)).mono ?_
  case hb => (repeat' (first | (with_reducible exact Below.refl _ _) | (with_reducible assumption) | (with_reducible refine below_drewN' ?_ _) | (with_reducible refine Below.drew ?_) | (with_reducible refine Below.alloc ?_ ?_ _) | (with_reducible refine Below.setCell ?_ ?_ _) | (with_reducible refine Below.then_ ?_ (by assumption) ?_) | go_size))
  rintro e w1 ⟨A_ins', rfl, r1, hb1, fz1⟩
  obtain ⟨hc1, hf1⟩ := bcell hb1
  have hz1 := hb1.size
  repeat (first | rw [World.size_alloc] at hz1 | rw [World.size_setCell] at hz1)
  have l1_0 : w.heap.size < w1.heap.size := by omega
  have l1_1 : w.heap.size + 1 < w1.heap.size := by omega
  have l1_2 : w.heap.size + 1 + 1 < w1.heap.size := by omega
  go_wp2_with fail
  refine (toStringS A_cover c_cover x.cover _ (by omega) (RA.to g7 ?hb)).mono ?_
  case hb => (repeat' (first | (with_reducible exact Below.refl _ _) | (with_reducible assumption) | (with_reducible refine below_drewN' ?_ _) | (with_reducible refine Below.drew ?_) | (with_reducible refine Below.alloc ?_ ?_ _) | (with_reducible refine Below.setCell ?_ ?_ _) | (with_reducible refine Below.then_ ?_ (by assumption) ?_) | go_size))
  rintro e w2 ⟨A_cover', rfl, r2, hb2, fz2⟩
  obtain ⟨hc2, hf2⟩ := bcell hb2
  have hz2 := hb2.size
  repeat (first | rw [World.size_alloc] at hz2 | rw [World.size_setCell] at hz2)
  have l2_0 : w.heap.size < w2.heap.size := by omega
  have l2_1 : w.heap.size + 1 < w2.heap.size := by omega
  have l2_2 : w.heap.size + 1 + 1 < w2.heap.size := by omega
  go_wp2
  refine bodyPost_ret (v := .agg #[.string ⟨(x.name).toArray⟩, .int .i64 x.kind, .slice A_ins' (x.ins).length (x.ins).length, .slice A_cover' (x.cover).length (x.cover).length]) ?_ rfl ?_
  · simp [results, Tryz.results94, go_sem, *]
  exact ⟨_, _, rfl, (r1).keep (by (refine Agree.out ?_; repeat' (first | (with_reducible exact Agree.refl _ _) | (with_reducible refine Agree.drew ?_) | (with_reducible refine Agree.drewN ?_ _) | (with_reducible refine Agree.setCell ?_ ?_ _) | (with_reducible refine Agree.alloc ?_ ?_ _) | (with_reducible refine Agree.then_ ?_ (by assumption) ?_) | (intro b hb; obtain ⟨hb1, hb2⟩ := hb; (first | omega | ((try simp at hb1); (try simp at hb2); (try simp); omega)))))) (by (intro b hb; obtain ⟨hb1, hb2⟩ := hb; exact ⟨by (first | omega | ((try simp at hb1); (try simp at hb2); (try simp); omega)), by (first | omega | ((try simp at hb1); (try simp at hb2); (try simp); omega))⟩)), (r2).keep (by (refine Agree.out ?_; repeat' (first | (with_reducible exact Agree.refl _ _) | (with_reducible refine Agree.drew ?_) | (with_reducible refine Agree.drewN ?_ _) | (with_reducible refine Agree.setCell ?_ ?_ _) | (with_reducible refine Agree.alloc ?_ ?_ _) | (with_reducible refine Agree.then_ ?_ (by assumption) ?_) | (intro b hb; obtain ⟨hb1, hb2⟩ := hb; (first | omega | ((try simp at hb1); (try simp at hb2); (try simp); omega)))))) (by (intro b hb; obtain ⟨hb1, hb2⟩ := hb; exact ⟨by (first | omega | ((try simp at hb1); (try simp at hb2); (try simp); omega)), by (first | omega | ((try simp at hb1); (try simp at hb2); (try simp); omega))⟩)), by (repeat' (first | (with_reducible exact Below.refl _ _) | (with_reducible assumption) | (with_reducible refine below_drewN' ?_ _) | (with_reducible refine Below.drew ?_) | (with_reducible refine Below.alloc ?_ ?_ _) | (with_reducible refine Below.setCell ?_ ?_ _) | (with_reducible refine Below.then_ ?_ (by assumption) ?_) | go_size)), by (repeat' (first | (with_reducible exact Frz.refl _) | (with_reducible assumption) | (with_reducible refine Frz.drewN ?_ _) | (with_reducible refine Frz.drew ?_) | (with_reducible refine Frz.alloc ?_ _ _) | (with_reducible refine Frz.setCell ?_ _ _) | (with_reducible refine Frz.then_ ?_ (by assumption))))⟩

set_option maxHeartbeats 1000000 in
theorem eqWire (x : Wire) (A_ins : Option Addr) (c_ins : Nat) (A_cover : Option Addr) (c_cover : Nat) (A_ins' : Option Addr) (c_ins' : Nat) (A_cover' : Option Addr) (c_cover' : Nat) (w : World) (g0 : (x.name).length ≤ 9223372036854775807) (g2 : (x.ins).length ≤ c_ins) (g3 : c_ins ≤ 9223372036854775807) (g4 : RA shPin w A_ins x.ins) (g5 : (x.cover).length ≤ c_cover) (g6 : c_cover ≤ 9223372036854775807) (g7 : RA shStr w A_cover x.cover) (g2' : (x.ins).length ≤ c_ins') (g3' : c_ins' ≤ 9223372036854775807) (g4' : RA shPin w A_ins' x.ins) (g5' : (x.cover).length ≤ c_cover') (g6' : c_cover' ≤ 9223372036854775807) (g7' : RA shStr w A_cover' x.cover) :
    Calls Tryz.prog 106 #[.agg #[.string ⟨(x.name).toArray⟩, .int .i64 x.kind, .slice A_ins (x.ins).length c_ins, .slice A_cover (x.cover).length c_cover], .agg #[.string ⟨(x.name).toArray⟩, .int .i64 x.kind, .slice A_ins' (x.ins).length c_ins', .slice A_cover' (x.cover).length c_cover']] w fun e w' => e = .returned (.bool true) ∧ Below w.heap.size w w' := by
  go_enter Tryz.func106, Tryz.ntmps106
  go_wp2_with fail
  refine (eqPinS A_ins A_ins' c_ins c_ins' x.ins _ (by omega) (RA.to g4 ?hb) (RA.to g4' ?hb2)).mono ?_
  case hb => (repeat' (first | (with_reducible exact Below.refl _ _) | (with_reducible assumption) | (with_reducible refine below_drewN' ?_ _) | (with_reducible refine Below.drew ?_) | (with_reducible refine Below.alloc ?_ ?_ _) | (with_reducible refine Below.setCell ?_ ?_ _) | (with_reducible refine Below.then_ ?_ (by assumption) ?_) | go_size))
  case hb2 => (repeat' (first | (with_reducible exact Below.refl _ _) | (with_reducible assumption) | (with_reducible refine below_drewN' ?_ _) | (with_reducible refine Below.drew ?_) | (with_reducible refine Below.alloc ?_ ?_ _) | (with_reducible refine Below.setCell ?_ ?_ _) | (with_reducible refine Below.then_ ?_ (by assumption) ?_) | go_size))
  rintro e w1 ⟨rfl, hb1⟩
  obtain ⟨hc1, hf1⟩ := bcell hb1
  have hz1 := hb1.size
  repeat (first | rw [World.size_alloc] at hz1 | rw [World.size_setCell] at hz1)
  have l1_0 : w.heap.size < w1.heap.size := by omega
  have l1_1 : w.heap.size + 1 < w1.heap.size := by omega
  go_wp2_with fail
  refine (eqStringS A_cover A_cover' c_cover c_cover' x.cover _ (by omega) (RA.to g7 ?hb) (RA.to g7' ?hb2)).mono ?_
  case hb => (repeat' (first | (with_reducible exact Below.refl _ _) | (with_reducible assumption) | (with_reducible refine below_drewN' ?_ _) | (with_reducible refine Below.drew ?_) | (with_reducible refine Below.alloc ?_ ?_ _) | (with_reducible refine Below.setCell ?_ ?_ _) | (with_reducible refine Below.then_ ?_ (by assumption) ?_) | go_size))
  case hb2 => (repeat' (first | (with_reducible exact Below.refl _ _) | (with_reducible assumption) | (with_reducible refine below_drewN' ?_ _) | (with_reducible refine Below.drew ?_) | (with_reducible refine Below.alloc ?_ ?_ _) | (with_reducible refine Below.setCell ?_ ?_ _) | (with_reducible refine Below.then_ ?_ (by assumption) ?_) | go_size))
  rintro e w2 ⟨rfl, hb2⟩
  obtain ⟨hc2, hf2⟩ := bcell hb2
  have hz2 := hb2.size
  repeat (first | rw [World.size_alloc] at hz2 | rw [World.size_setCell] at hz2)
  have l2_0 : w.heap.size < w2.heap.size := by omega
  have l2_1 : w.heap.size + 1 < w2.heap.size := by omega
  go_wp2
  go_ret
  exact ⟨rfl, by (repeat' (first | (with_reducible exact Below.refl _ _) | (with_reducible assumption) | (with_reducible refine below_drewN' ?_ _) | (with_reducible refine Below.drew ?_) | (with_reducible refine Below.alloc ?_ ?_ _) | (with_reducible refine Below.setCell ?_ ?_ _) | (with_reducible refine Below.then_ ?_ (by assumption) ?_) | go_size))⟩

set_option maxHeartbeats 1000000 in
theorem szWireS (A : Option Addr) (c : Nat) (l : (List Wire)) (left : Int) (w : World) (hn : l.length ≤ 9223372036854775807) (hr : RA shWire w A l) (h0 : 0 ≤ left) (h1 : left ≤ 1048576) :
    Calls Tryz.prog 40 #[.slice A l.length c, .int .i64 left] w fun e w' => e = .returned (.int .i64 (szRes (wtL wtWire l) left)) ∧ Below w.heap.size w w' := by
  by_cases h : left < l.length
  · have hs : szRes (wtL wtWire l) left = -1 := by unfold szRes wtL; rw [if_pos (by omega)]
    have HS := hide hs; clear hs
    go_enter Tryz.func40, Tryz.ntmps40
    go_wp2
    go_ret
    exact ⟨ret_int HS.out.symm, by (repeat' (first | (with_reducible exact Below.refl _ _) | (with_reducible assumption) | (with_reducible refine below_drewN' ?_ _) | (with_reducible refine Below.drew ?_) | (with_reducible refine Below.alloc ?_ ?_ _) | (with_reducible refine Below.setCell ?_ ?_ _) | (with_reducible refine Below.then_ ?_ (by assumption) ?_) | go_size))⟩
  · obtain ⟨R, hR⟩ : ∃ R, szRes (wtL wtWire l) left = R := ⟨_, rfl⟩
    have HR := hide hR
    have HL : Hid (szRes ((l.drop 0).map wtWire).sum (left - l.length) = R) := by show _ = _; rw [← hR, wtL, szRes_add h]; rfl
    clear hR
    go_enter Tryz.func40, Tryz.ntmps40
    go_wp2
    go_loopw [5, 1] (fun i L wr => ∃ (k : Nat) (m : Int), k ≤ l.length ∧ i = .int .i64 k ∧ L = .int .i64 m ∧ 0 ≤ m ∧ m ≤ 1048576 ∧ Hid (szRes ((l.drop k).map wtWire).sum m = R) ∧ Below w.heap.size w wr) (fun i _ _ => l.length - (intOf i).toNat)
    case atStart => exact ⟨0, _, Nat.zero_le _, rfl, rfl, by omega, by omega, HL, by (repeat' (first | (with_reducible exact Below.refl _ _) | (with_reducible assumption) | (with_reducible refine below_drewN' ?_ _) | (with_reducible refine Below.drew ?_) | (with_reducible refine Below.alloc ?_ ?_ _) | (with_reducible refine Below.setCell ?_ ?_ _) | (with_reducible refine Below.then_ ?_ (by assumption) ?_) | go_size))⟩
    case round =>
      obtain ⟨k, m, hk, rfl, rfl, hm0, hm1, hgo, hb⟩ := hrel
      have hsz := hb.size
      by_cases hlt : k < l.length
      · obtain ⟨x, hx⟩ := get_of_lt hlt
        obtain ⟨b, off, A_ins, c_ins, A_cover, c_cover, rfl, hbl, d0, d1, d2, d3, f0, f1, f2, f3, f4, f5, f6, f7⟩ := hr.Wire_at hb hx
        have Hd := hide (drop_get hx)
        clear hx
        have hg1 := hgo.out
        rw [Hd.out, List.map_cons, List.sum_cons] at hg1
        have HG := hide hg1; clear hg1
        go_wp2_with fail
        refine (szWire x A_ins c_ins A_cover c_cover m _ f0 f2 f3 f4 f5 f6 f7 hm0 hm1).mono ?_
        rintro e w1 ⟨rfl, hb1⟩
        have hb2 := hb.trans (hb1.mono hsz)
        by_cases hq : m < (wtWire x : Nat)
        · rw [szRes_neg hq]
          have HQ := hide (szRes_add_neg (b := ((l.drop (k + 1)).map wtWire).sum) hq)
          go_wp2
          go_ret
          exact ⟨ret_int (by rw [HR.out, ← HG.out, ← HQ.out]), by (repeat' (first | (with_reducible exact Below.refl _ _) | (with_reducible assumption) | (with_reducible refine below_drewN' ?_ _) | (with_reducible refine Below.drew ?_) | (with_reducible refine Below.alloc ?_ ?_ _) | (with_reducible refine Below.setCell ?_ ?_ _) | (with_reducible refine Below.then_ ?_ (by assumption) ?_) | go_size))⟩
        · rw [szRes_pos hq]
          have HG2 : Hid (szRes ((l.drop (k + 1)).map wtWire).sum (m - (wtWire x : Nat)) = R) := by show _ = _; rw [← HG.out]; exact (szRes_add hq).symm
          have hq1 : (wtWire x : Int) ≤ m := by omega
          have hq2 : (0 : Int) ≤ (wtWire x : Nat) := by omega
          go_wp2_with fail
          go_roundw
          case rel => exact ⟨k + 1, _, by omega, by go_num, rfl, by omega, by omega, HG2, by (repeat' (first | (with_reducible exact Below.refl _ _) | (with_reducible assumption) | (with_reducible refine below_drewN' ?_ _) | (with_reducible refine Below.drew ?_) | (with_reducible refine Below.alloc ?_ ?_ _) | (with_reducible refine Below.setCell ?_ ?_ _) | (with_reducible refine Below.then_ ?_ (by assumption) ?_) | go_size))⟩
          case measure => simp [intOf]; omega
      · have hg1 := hgo.out
        rw [drop_end hlt] at hg1
        have HG := hide hg1; clear hg1
        go_wp2
        go_ret
        exact ⟨ret_int (by rw [HR.out, ← HG.out]; unfold szRes; simp; omega), by (repeat' (first | (with_reducible exact Below.refl _ _) | (with_reducible assumption) | (with_reducible refine below_drewN' ?_ _) | (with_reducible refine Below.drew ?_) | (with_reducible refine Below.alloc ?_ ?_ _) | (with_reducible refine Below.setCell ?_ ?_ _) | (with_reducible refine Below.then_ ?_ (by assumption) ?_) | go_size))⟩

set_option maxHeartbeats 1000000 in
theorem toWireS (A : Option Addr) (c : Nat) (l : (List Wire)) (w : World) (hs : wtL wtWire l ≤ 1048576) (hr : RA shWire w A l) :
    Calls Tryz.prog 48 #[.slice A l.length c] w fun e w' => ∃ A', e = .returned (.slice A' l.length l.length) ∧ RSl shWire w' (Fresh w w') A' l ∧ Below w.heap.size w w' ∧ Frz w w' := by
  have hl : l.length ≤ 1048576 := by unfold wtL at hs; omega
  obtain ⟨cells, hcs, hmk⟩ := make_row (P := Tryz.prog) (t := 36) (e := 138) (size := 4) (bytes := 72) Tryz.underlying36 (by kernel_rfl) l.length (by omega) (by decide)
  have HC := hide hcs; clear hcs
  have HM := hide hmk; clear hmk
  go_enter Tryz.func48, Tryz.ntmps48
  have hmk := HM.out w
  go_wp2
  clear hmk
  go_loopw [4] (fun i wr => ∃ k : Nat, k ≤ l.length ∧ i = .int .i64 k ∧ Hid (Filled shWire wr (Nest w.heap.size wr) w.heap.size 138 l.length k l) ∧ Below w.heap.size w wr ∧ Frz w wr) (fun i _ => l.length - (intOf i).toNat)
  case atStart => exact ⟨0, Nat.zero_le _, rfl, Filled.start HC.out, by (repeat' (first | (with_reducible exact Below.refl _ _) | (with_reducible assumption) | (with_reducible refine below_drewN' ?_ _) | (with_reducible refine Below.drew ?_) | (with_reducible refine Below.alloc ?_ ?_ _) | (with_reducible refine Below.setCell ?_ ?_ _) | (with_reducible refine Below.then_ ?_ (by assumption) ?_) | go_size)), by (repeat' (first | (with_reducible exact Frz.refl _) | (with_reducible assumption) | (with_reducible refine Frz.drewN ?_ _) | (with_reducible refine Frz.drew ?_) | (with_reducible refine Frz.alloc ?_ _ _) | (with_reducible refine Frz.setCell ?_ _ _) | (with_reducible refine Frz.then_ ?_ (by assumption))))⟩
  case round =>
    obtain ⟨k, hk, rfl, hf, hb, hfz⟩ := hrel
    have hsz := hb.size
    by_cases hlt : k < l.length
    · obtain ⟨x, hx⟩ := get_of_lt hlt
      obtain ⟨b, off, A_ins, c_ins, A_cover, c_cover, rfl, hbl, d0, d1, d2, d3, f0, f1, f2, f3, f4, f5, f6, f7⟩ := hr.Wire_at hb hx
      have hwx : wtWire x ≤ 1048576 := Nat.le_trans (wtL_get hx) hs
      have HX := hide hx; clear hx
      have hgl := hf.out.lt
      go_wp2_with fail
      refine (toWire x A_ins c_ins A_cover c_cover wr f0 f2 f3 f4 f5 f6 f7 hwx).mono ?_
      rintro e w1 ⟨A_ins', A_cover', rfl, rA_ins, rA_cover, hb1, fz1⟩
      have hf1 := hf.out.to hb1
      obtain ⟨⟨v0, p0⟩, z0⟩ := hf1.room hlt 0 (by decide)
      obtain ⟨⟨v1, p1⟩, z1⟩ := hf1.room hlt 1 (by decide)
      obtain ⟨⟨v2, p2⟩, z2⟩ := hf1.room hlt 2 (by decide)
      obtain ⟨⟨v3, p3⟩, z3⟩ := hf1.room hlt 3 (by decide)
      have HF := hide hf1; clear hf1
      simp only [shWire_size, Nat.add_zero] at p0 z0 p1 z1 p2 z2 p3 z3
      have hb2 := hb.trans (hb1.mono hsz)
      have hsz1 := hb1.size
      go_wp2_with fail
      go_roundw
      case rel => exact ⟨k + 1, by omega, by go_num, hide (HF.out.step [.string ⟨(x.name).toArray⟩, .int .i64 x.kind, .slice A_ins' (x.ins).length (x.ins).length, .slice A_cover' (x.cover).length (x.cover).length] HX.out (shWire_mk f0 f1 (Nat.le_refl _) (by omega) (rA_ins.mono (by (intro b hb; obtain ⟨hb1, hb2⟩ := hb; exact ⟨by omega, by omega⟩))) (Nat.le_refl _) (by omega) (rA_cover.mono (by (intro b hb; obtain ⟨hb1, hb2⟩ := hb; exact ⟨by omega, by omega⟩)))) (by simp [setCells, shWire_size])), by (repeat' (first | (with_reducible exact Below.refl _ _) | (with_reducible assumption) | (with_reducible refine below_drewN' ?_ _) | (with_reducible refine Below.drew ?_) | (with_reducible refine Below.alloc ?_ ?_ _) | (with_reducible refine Below.setCell ?_ ?_ _) | (with_reducible refine Below.then_ ?_ (by assumption) ?_) | go_size)), by (repeat' (first | (with_reducible exact Frz.refl _) | (with_reducible assumption) | (with_reducible refine Frz.drewN ?_ _) | (with_reducible refine Frz.drew ?_) | (with_reducible refine Frz.alloc ?_ _ _) | (with_reducible refine Frz.setCell ?_ _ _) | (with_reducible refine Frz.then_ ?_ (by assumption))))⟩
      case measure => simp [intOf]; omega
    · have : k = l.length := by omega
      subst this
      go_wp2
      go_ret
      exact ⟨_, rfl, hf.out.finish, by (repeat' (first | (with_reducible exact Below.refl _ _) | (with_reducible assumption) | (with_reducible refine below_drewN' ?_ _) | (with_reducible refine Below.drew ?_) | (with_reducible refine Below.alloc ?_ ?_ _) | (with_reducible refine Below.setCell ?_ ?_ _) | (with_reducible refine Below.then_ ?_ (by assumption) ?_) | go_size)), by (repeat' (first | (with_reducible exact Frz.refl _) | (with_reducible assumption) | (with_reducible refine Frz.drewN ?_ _) | (with_reducible refine Frz.drew ?_) | (with_reducible refine Frz.alloc ?_ _ _) | (with_reducible refine Frz.setCell ?_ _ _) | (with_reducible refine Frz.then_ ?_ (by assumption))))⟩

set_option maxHeartbeats 1000000 in
theorem eqWireS (A A' : Option Addr) (c c' : Nat) (l : (List Wire)) (w : World) (hl : l.length ≤ 9223372036854775807) (hr : RA shWire w A l) (hr' : RA shWire w A' l) :
    Calls Tryz.prog 58 #[.slice A l.length c, .slice A' l.length c'] w fun e w' => e = .returned (.bool true) ∧ Below w.heap.size w w' := by
  go_enter Tryz.func58, Tryz.ntmps58
  go_wp2
  go_loopw [5] (fun i wr => ∃ k : Nat, k ≤ l.length ∧ i = .int .i64 k ∧ Below w.heap.size w wr) (fun i _ => l.length - (intOf i).toNat)
  case atStart => exact ⟨0, Nat.zero_le _, rfl, Below.refl _ _⟩
  case round =>
    obtain ⟨k, hk, rfl, hb⟩ := hrel
    have hsz := hb.size
    by_cases hlt : k < l.length
    · obtain ⟨x, hx⟩ := get_of_lt hlt
      obtain ⟨b, off, A_ins, c_ins, A_cover, c_cover, rfl, hbl, d0, d1, d2, d3, f0, f1, f2, f3, f4, f5, f6, f7⟩ := hr.Wire_at hb hx
      obtain ⟨b', off', A_ins', c_ins', A_cover', c_cover', rfl, hbl', d0', d1', d2', d3', f0', f1', f2', f3', f4', f5', f6', f7'⟩ := hr'.Wire_at hb hx
      have HX := hide hx; clear hx
      go_wp2_with fail
      go_region_held3 (fun W => W.cell? ⟨b, off + k * 4, none⟩ = some (.string ⟨(x.name).toArray⟩) ∧ W.cell? ⟨b, off + k * 4 + 1, none⟩ = some (.int .i64 x.kind) ∧ W.cell? ⟨b, off + k * 4 + 2, none⟩ = some (.slice A_ins (x.ins).length c_ins) ∧ W.cell? ⟨b, off + k * 4 + 3, none⟩ = some (.slice A_cover (x.cover).length c_cover) ∧ W.cell? ⟨b', off' + k * 4, none⟩ = some (.string ⟨(x.name).toArray⟩) ∧ W.cell? ⟨b', off' + k * 4 + 1, none⟩ = some (.int .i64 x.kind) ∧ W.cell? ⟨b', off' + k * 4 + 2, none⟩ = some (.slice A_ins' (x.ins).length c_ins') ∧ W.cell? ⟨b', off' + k * 4 + 3, none⟩ = some (.slice A_cover' (x.cover).length c_cover')) (first | exact ⟨d0, d1, d2, d3, d0', d1', d2', d3'⟩ | exact ⟨(cell_later hb1 d0), (cell_later hb1 d1), (cell_later hb1 d2), (cell_later hb1 d3), (cell_later hb1 d0'), (cell_later hb1 d1'), (cell_later hb1 d2'), (cell_later hb1 d3')⟩) (first | (go_at_call 106; refine (eqWire x A_ins c_ins A_cover c_cover A_ins' c_ins' A_cover' c_cover' _ f0 f2 f3 (RA.to f4 (Below.drew (Below.refl _ _))) f5 f6 (RA.to f7 (Below.drew (Below.refl _ _))) f2' f3' (RA.to f4' (Below.drew (Below.refl _ _))) f5' f6' (RA.to f7' (Below.drew (Below.refl _ _)))).mono ?_; rintro e w1 ⟨rfl, hb1⟩))
      have hb2 := hb.drew.trans (hb1.mono hsz)
      go_wp2_with fail
      go_roundw
      case rel => exact ⟨k + 1, by omega, by go_num, by (repeat' (first | (with_reducible exact Below.refl _ _) | (with_reducible assumption) | (with_reducible refine below_drewN' ?_ _) | (with_reducible refine Below.drew ?_) | (with_reducible refine Below.alloc ?_ ?_ _) | (with_reducible refine Below.setCell ?_ ?_ _) | (with_reducible refine Below.then_ ?_ (by assumption) ?_) | go_size))⟩
      case measure => simp [intOf]; omega
    · go_wp2
      go_ret
      exact ⟨rfl, by (repeat' (first | (with_reducible exact Below.refl _ _) | (with_reducible assumption) | (with_reducible refine below_drewN' ?_ _) | (with_reducible refine Below.drew ?_) | (with_reducible refine Below.alloc ?_ ?_ _) | (with_reducible refine Below.setCell ?_ ?_ _) | (with_reducible refine Below.then_ ?_ (by assumption) ?_) | go_size))⟩

def wtNl (x : Nl) : Nat := (wtL wtSig x.signals) + (wtL wtWire x.wires)

set_option maxHeartbeats 1000000 in
theorem szNetlist (x : Nl) (A_signals : Option Addr) (c_signals : Nat) (A_wires : Option Addr) (c_wires : Nat) (left : Int) (w : World) (g0 : (x.signals).length ≤ c_signals) (g1 : c_signals ≤ 9223372036854775807) (g2 : RA shSig w A_signals x.signals) (g3 : (x.wires).length ≤ c_wires) (g4 : c_wires ≤ 9223372036854775807) (g5 : RA shWire w A_wires x.wires) (h0 : 0 ≤ left) (h1 : left ≤ 1048576) :
    Calls Tryz.prog 8 #[.agg #[.slice A_signals (x.signals).length c_signals, .slice A_wires (x.wires).length c_wires], .int .i64 left] w fun e w' => e = .returned (.int .i64 (szRes (wtNl x) left)) ∧ Below w.heap.size w w' := by
  show Calls _ _ _ _ fun e w' => e = .returned (.int .i64 (szRes ((wtL wtSig x.signals) + (wtL wtWire x.wires)) left)) ∧ _
  go_enter Tryz.func8, Tryz.ntmps8
  go_wp2_with fail
  refine (szSignalS A_signals c_signals x.signals (left) _ (by omega) (RA.to g2 ?hb) (by omega) (by omega)).mono ?_
  case hb => (repeat' (first | (with_reducible exact Below.refl _ _) | (with_reducible assumption) | (with_reducible refine below_drewN' ?_ _) | (with_reducible refine Below.drew ?_) | (with_reducible refine Below.alloc ?_ ?_ _) | (with_reducible refine Below.setCell ?_ ?_ _) | (with_reducible refine Below.then_ ?_ (by assumption) ?_) | go_size))
  rintro e w1 ⟨rfl, hb1⟩
  obtain ⟨hc1, hf1⟩ := bcell hb1
  have hz1 := hb1.size
  repeat (first | rw [World.size_alloc] at hz1 | rw [World.size_setCell] at hz1)
  have l1_0 : w.heap.size < w1.heap.size := by omega
  by_cases q1 : left < ((wtL wtSig x.signals) : Nat)
  · rw [szRes_neg q1]
    go_wp2
    go_ret
    exact ⟨ret_int (by unfold szRes; rw [if_pos (by omega)]), by (repeat' (first | (with_reducible exact Below.refl _ _) | (with_reducible assumption) | (with_reducible refine below_drewN' ?_ _) | (with_reducible refine Below.drew ?_) | (with_reducible refine Below.alloc ?_ ?_ _) | (with_reducible refine Below.setCell ?_ ?_ _) | (with_reducible refine Below.then_ ?_ (by assumption) ?_) | go_size))⟩
  · rw [szRes_pos q1]
    go_wp2_with fail
    refine (szWireS A_wires c_wires x.wires (left - ((wtL wtSig x.signals) : Nat)) _ (by omega) (RA.to g5 ?hb) (by omega) (by omega)).mono ?_
    case hb => (repeat' (first | (with_reducible exact Below.refl _ _) | (with_reducible assumption) | (with_reducible refine below_drewN' ?_ _) | (with_reducible refine Below.drew ?_) | (with_reducible refine Below.alloc ?_ ?_ _) | (with_reducible refine Below.setCell ?_ ?_ _) | (with_reducible refine Below.then_ ?_ (by assumption) ?_) | go_size))
    rintro e w2 ⟨rfl, hb2⟩
    obtain ⟨hc2, hf2⟩ := bcell hb2
    have hz2 := hb2.size
    repeat (first | rw [World.size_alloc] at hz2 | rw [World.size_setCell] at hz2)
    have l2_0 : w.heap.size < w2.heap.size := by omega
    by_cases q2 : left - ((wtL wtSig x.signals) : Nat) < ((wtL wtWire x.wires) : Nat)
    · rw [szRes_neg q2]
      go_wp2
      go_ret
      exact ⟨ret_int (by unfold szRes; rw [if_pos (by omega)]), by (repeat' (first | (with_reducible exact Below.refl _ _) | (with_reducible assumption) | (with_reducible refine below_drewN' ?_ _) | (with_reducible refine Below.drew ?_) | (with_reducible refine Below.alloc ?_ ?_ _) | (with_reducible refine Below.setCell ?_ ?_ _) | (with_reducible refine Below.then_ ?_ (by assumption) ?_) | go_size))⟩
    · rw [szRes_pos q2]
      go_wp2
      go_ret
      exact ⟨ret_int (by (unfold szRes; rw [if_neg (by omega)]) <;> omega), by (repeat' (first | (with_reducible exact Below.refl _ _) | (with_reducible assumption) | (with_reducible refine below_drewN' ?_ _) | (with_reducible refine Below.drew ?_) | (with_reducible refine Below.alloc ?_ ?_ _) | (with_reducible refine Below.setCell ?_ ?_ _) | (with_reducible refine Below.then_ ?_ (by assumption) ?_) | go_size))⟩

set_option maxHeartbeats 1000000 in
theorem toNetlist (x : Nl) (A_signals : Option Addr) (c_signals : Nat) (A_wires : Option Addr) (c_wires : Nat) (w : World) (g0 : (x.signals).length ≤ c_signals) (g1 : c_signals ≤ 9223372036854775807) (g2 : RA shSig w A_signals x.signals) (g3 : (x.wires).length ≤ c_wires) (g4 : c_wires ≤ 9223372036854775807) (g5 : RA shWire w A_wires x.wires) (hs : wtNl x ≤ 1048576) :
    Calls Tryz.prog 11 #[.agg #[.slice A_signals (x.signals).length c_signals, .slice A_wires (x.wires).length c_wires]] w fun e w' => ∃ A_signals' A_wires', e = .returned (.agg #[.slice A_signals' (x.signals).length (x.signals).length, .slice A_wires' (x.wires).length (x.wires).length]) ∧ RSl shSig w' (Fresh w w') A_signals' x.signals ∧ RSl shWire w' (Fresh w w') A_wires' x.wires ∧ Below w.heap.size w w' ∧ Frz w w' := by
  unfold wtNl at hs
  go_enter Tryz.func11, Tryz.ntmps11
  go_wp2_with fail
  refine (toSignalS A_signals c_signals x.signals _ (by omega) (RA.to g2 ?hb)).mono ?_
  case hb => (repeat' (first | (with_reducible exact Below.refl _ _) | (with_reducible assumption) | (with_reducible refine below_drewN' ?_ _) | (with_reducible refine Below.drew ?_) | (with_reducible refine Below.alloc ?_ ?_ _) | (with_reducible refine Below.setCell ?_ ?_ _) | (with_reducible refine Below.then_ ?_ (by assumption) ?_) | go_size))
  rintro e w1 ⟨A_signals', rfl, r1, hb1, fz1⟩
  obtain ⟨hc1, hf1⟩ := bcell hb1
  have hz1 := hb1.size
  repeat (first | rw [World.size_alloc] at hz1 | rw [World.size_setCell] at hz1)
  have l1_0 : w.heap.size < w1.heap.size := by omega
  have l1_1 : w.heap.size + 1 < w1.heap.size := by omega
  have l1_2 : w.heap.size + 1 + 1 < w1.heap.size := by omega
  go_wp2_with fail
  refine (toWireS A_wires c_wires x.wires _ (by omega) (RA.to g5 ?hb)).mono ?_
  case hb => (repeat' (first | (with_reducible exact Below.refl _ _) | (with_reducible assumption) | (with_reducible refine below_drewN' ?_ _) | (with_reducible refine Below.drew ?_) | (with_reducible refine Below.alloc ?_ ?_ _) | (with_reducible refine Below.setCell ?_ ?_ _) | (with_reducible refine Below.then_ ?_ (by assumption) ?_) | go_size))
  rintro e w2 ⟨A_wires', rfl, r2, hb2, fz2⟩
  obtain ⟨hc2, hf2⟩ := bcell hb2
  have hz2 := hb2.size
  repeat (first | rw [World.size_alloc] at hz2 | rw [World.size_setCell] at hz2)
  have l2_0 : w.heap.size < w2.heap.size := by omega
  have l2_1 : w.heap.size + 1 < w2.heap.size := by omega
  have l2_2 : w.heap.size + 1 + 1 < w2.heap.size := by omega
  go_wp2
  refine bodyPost_ret (v := .agg #[.slice A_signals' (x.signals).length (x.signals).length, .slice A_wires' (x.wires).length (x.wires).length]) ?_ rfl ?_
  · simp [results, Tryz.results11, go_sem, *]
  exact ⟨_, _, rfl, (r1).keep (by (refine Agree.out ?_; repeat' (first | (with_reducible exact Agree.refl _ _) | (with_reducible refine Agree.drew ?_) | (with_reducible refine Agree.drewN ?_ _) | (with_reducible refine Agree.setCell ?_ ?_ _) | (with_reducible refine Agree.alloc ?_ ?_ _) | (with_reducible refine Agree.then_ ?_ (by assumption) ?_) | (intro b hb; obtain ⟨hb1, hb2⟩ := hb; (first | omega | ((try simp at hb1); (try simp at hb2); (try simp); omega)))))) (by (intro b hb; obtain ⟨hb1, hb2⟩ := hb; exact ⟨by (first | omega | ((try simp at hb1); (try simp at hb2); (try simp); omega)), by (first | omega | ((try simp at hb1); (try simp at hb2); (try simp); omega))⟩)), (r2).keep (by (refine Agree.out ?_; repeat' (first | (with_reducible exact Agree.refl _ _) | (with_reducible refine Agree.drew ?_) | (with_reducible refine Agree.drewN ?_ _) | (with_reducible refine Agree.setCell ?_ ?_ _) | (with_reducible refine Agree.alloc ?_ ?_ _) | (with_reducible refine Agree.then_ ?_ (by assumption) ?_) | (intro b hb; obtain ⟨hb1, hb2⟩ := hb; (first | omega | ((try simp at hb1); (try simp at hb2); (try simp); omega)))))) (by (intro b hb; obtain ⟨hb1, hb2⟩ := hb; exact ⟨by (first | omega | ((try simp at hb1); (try simp at hb2); (try simp); omega)), by (first | omega | ((try simp at hb1); (try simp at hb2); (try simp); omega))⟩)), by (repeat' (first | (with_reducible exact Below.refl _ _) | (with_reducible assumption) | (with_reducible refine below_drewN' ?_ _) | (with_reducible refine Below.drew ?_) | (with_reducible refine Below.alloc ?_ ?_ _) | (with_reducible refine Below.setCell ?_ ?_ _) | (with_reducible refine Below.then_ ?_ (by assumption) ?_) | go_size)), by (repeat' (first | (with_reducible exact Frz.refl _) | (with_reducible assumption) | (with_reducible refine Frz.drewN ?_ _) | (with_reducible refine Frz.drew ?_) | (with_reducible refine Frz.alloc ?_ _ _) | (with_reducible refine Frz.setCell ?_ _ _) | (with_reducible refine Frz.then_ ?_ (by assumption))))⟩

set_option maxHeartbeats 1000000 in
theorem eqNetlist (x : Nl) (A_signals : Option Addr) (c_signals : Nat) (A_wires : Option Addr) (c_wires : Nat) (A_signals' : Option Addr) (c_signals' : Nat) (A_wires' : Option Addr) (c_wires' : Nat) (w : World) (g0 : (x.signals).length ≤ c_signals) (g1 : c_signals ≤ 9223372036854775807) (g2 : RA shSig w A_signals x.signals) (g3 : (x.wires).length ≤ c_wires) (g4 : c_wires ≤ 9223372036854775807) (g5 : RA shWire w A_wires x.wires) (g0' : (x.signals).length ≤ c_signals') (g1' : c_signals' ≤ 9223372036854775807) (g2' : RA shSig w A_signals' x.signals) (g3' : (x.wires).length ≤ c_wires') (g4' : c_wires' ≤ 9223372036854775807) (g5' : RA shWire w A_wires' x.wires) :
    Calls Tryz.prog 15 #[.agg #[.slice A_signals (x.signals).length c_signals, .slice A_wires (x.wires).length c_wires], .agg #[.slice A_signals' (x.signals).length c_signals', .slice A_wires' (x.wires).length c_wires']] w fun e w' => e = .returned (.bool true) ∧ Below w.heap.size w w' := by
  go_enter Tryz.func15, Tryz.ntmps15
  go_wp2_with fail
  refine (eqSignalS A_signals A_signals' c_signals c_signals' x.signals _ (by omega) (RA.to g2 ?hb) (RA.to g2' ?hb2)).mono ?_
  case hb => (repeat' (first | (with_reducible exact Below.refl _ _) | (with_reducible assumption) | (with_reducible refine below_drewN' ?_ _) | (with_reducible refine Below.drew ?_) | (with_reducible refine Below.alloc ?_ ?_ _) | (with_reducible refine Below.setCell ?_ ?_ _) | (with_reducible refine Below.then_ ?_ (by assumption) ?_) | go_size))
  case hb2 => (repeat' (first | (with_reducible exact Below.refl _ _) | (with_reducible assumption) | (with_reducible refine below_drewN' ?_ _) | (with_reducible refine Below.drew ?_) | (with_reducible refine Below.alloc ?_ ?_ _) | (with_reducible refine Below.setCell ?_ ?_ _) | (with_reducible refine Below.then_ ?_ (by assumption) ?_) | go_size))
  rintro e w1 ⟨rfl, hb1⟩
  obtain ⟨hc1, hf1⟩ := bcell hb1
  have hz1 := hb1.size
  repeat (first | rw [World.size_alloc] at hz1 | rw [World.size_setCell] at hz1)
  have l1_0 : w.heap.size < w1.heap.size := by omega
  have l1_1 : w.heap.size + 1 < w1.heap.size := by omega
  go_wp2_with fail
  refine (eqWireS A_wires A_wires' c_wires c_wires' x.wires _ (by omega) (RA.to g5 ?hb) (RA.to g5' ?hb2)).mono ?_
  case hb => (repeat' (first | (with_reducible exact Below.refl _ _) | (with_reducible assumption) | (with_reducible refine below_drewN' ?_ _) | (with_reducible refine Below.drew ?_) | (with_reducible refine Below.alloc ?_ ?_ _) | (with_reducible refine Below.setCell ?_ ?_ _) | (with_reducible refine Below.then_ ?_ (by assumption) ?_) | go_size))
  case hb2 => (repeat' (first | (with_reducible exact Below.refl _ _) | (with_reducible assumption) | (with_reducible refine below_drewN' ?_ _) | (with_reducible refine Below.drew ?_) | (with_reducible refine Below.alloc ?_ ?_ _) | (with_reducible refine Below.setCell ?_ ?_ _) | (with_reducible refine Below.then_ ?_ (by assumption) ?_) | go_size))
  rintro e w2 ⟨rfl, hb2⟩
  obtain ⟨hc2, hf2⟩ := bcell hb2
  have hz2 := hb2.size
  repeat (first | rw [World.size_alloc] at hz2 | rw [World.size_setCell] at hz2)
  have l2_0 : w.heap.size < w2.heap.size := by omega
  have l2_1 : w.heap.size + 1 < w2.heap.size := by omega
  go_wp2
  go_ret
  exact ⟨rfl, by (repeat' (first | (with_reducible exact Below.refl _ _) | (with_reducible assumption) | (with_reducible refine below_drewN' ?_ _) | (with_reducible refine Below.drew ?_) | (with_reducible refine Below.alloc ?_ ?_ _) | (with_reducible refine Below.setCell ?_ ?_ _) | (with_reducible refine Below.then_ ?_ (by assumption) ?_) | go_size))⟩

def wtPSt (x : PSt) : Nat := (x.values).length

set_option maxHeartbeats 1000000 in
theorem szProductState (x : PSt)  (left : Int) (w : World) (g1 : (x.values).length ≤ 9223372036854775807) (h0 : 0 ≤ left) (h1 : left ≤ 1048576) :
    Calls Tryz.prog 27 #[.agg #[.int .i64 x.state, .string ⟨(x.values).toArray⟩], .int .i64 left] w fun e w' => e = .returned (.int .i64 (szRes (wtPSt x) left)) ∧ Below w.heap.size w w' := by
  show Calls _ _ _ _ fun e w' => e = .returned (.int .i64 (szRes ((x.values).length) left)) ∧ _
  go_enter Tryz.func27, Tryz.ntmps27
  by_cases q1 : left < ((x.values).length : Nat)
  · go_wp2
    go_ret
    exact ⟨ret_int (by unfold szRes; rw [if_pos (by omega)]), by (repeat' (first | (with_reducible exact Below.refl _ _) | (with_reducible assumption) | (with_reducible refine below_drewN' ?_ _) | (with_reducible refine Below.drew ?_) | (with_reducible refine Below.alloc ?_ ?_ _) | (with_reducible refine Below.setCell ?_ ?_ _) | (with_reducible refine Below.then_ ?_ (by assumption) ?_) | go_size))⟩
  · skip
    go_wp2
    go_ret
    exact ⟨ret_int (by (unfold szRes; rw [if_neg (by omega)]) <;> omega), by (repeat' (first | (with_reducible exact Below.refl _ _) | (with_reducible assumption) | (with_reducible refine below_drewN' ?_ _) | (with_reducible refine Below.drew ?_) | (with_reducible refine Below.alloc ?_ ?_ _) | (with_reducible refine Below.setCell ?_ ?_ _) | (with_reducible refine Below.then_ ?_ (by assumption) ?_) | go_size))⟩

set_option maxHeartbeats 1000000 in
theorem toProductState (x : PSt)  (w : World) (g1 : (x.values).length ≤ 9223372036854775807) (hs : wtPSt x ≤ 1048576) :
    Calls Tryz.prog 29 #[.agg #[.int .i64 x.state, .string ⟨(x.values).toArray⟩]] w fun e w' => e = .returned (.agg #[.int .i64 x.state, .string ⟨(x.values).toArray⟩]) ∧ Below w.heap.size w w' ∧ Frz w w' := by
  unfold wtPSt at hs
  go_enter Tryz.func29, Tryz.ntmps29
  go_wp2
  go_returns
  exact ⟨rfl, by (repeat' (first | (with_reducible exact Below.refl _ _) | (with_reducible assumption) | (with_reducible refine below_drewN' ?_ _) | (with_reducible refine Below.drew ?_) | (with_reducible refine Below.alloc ?_ ?_ _) | (with_reducible refine Below.setCell ?_ ?_ _) | (with_reducible refine Below.then_ ?_ (by assumption) ?_) | go_size)), by (repeat' (first | (with_reducible exact Frz.refl _) | (with_reducible assumption) | (with_reducible refine Frz.drewN ?_ _) | (with_reducible refine Frz.drew ?_) | (with_reducible refine Frz.alloc ?_ _ _) | (with_reducible refine Frz.setCell ?_ _ _) | (with_reducible refine Frz.then_ ?_ (by assumption))))⟩

set_option maxHeartbeats 1000000 in
theorem eqProductState (x : PSt)   (w : World) (g1 : (x.values).length ≤ 9223372036854775807)  :
    Calls Tryz.prog 25 #[.agg #[.int .i64 x.state, .string ⟨(x.values).toArray⟩], .agg #[.int .i64 x.state, .string ⟨(x.values).toArray⟩]] w fun e w' => e = .returned (.bool true) ∧ Below w.heap.size w w' := by
  go_enter Tryz.func25, Tryz.ntmps25
  go_wp2
  go_ret
  exact ⟨rfl, by (repeat' (first | (with_reducible exact Below.refl _ _) | (with_reducible assumption) | (with_reducible refine below_drewN' ?_ _) | (with_reducible refine Below.drew ?_) | (with_reducible refine Below.alloc ?_ ?_ _) | (with_reducible refine Below.setCell ?_ ?_ _) | (with_reducible refine Below.then_ ?_ (by assumption) ?_) | go_size))⟩

set_option maxHeartbeats 1000000 in
theorem szProductStateS (A : Option Addr) (c : Nat) (l : (List PSt)) (left : Int) (w : World) (hn : l.length ≤ 9223372036854775807) (hr : RA shPSt w A l) (h0 : 0 ≤ left) (h1 : left ≤ 1048576) :
    Calls Tryz.prog 41 #[.slice A l.length c, .int .i64 left] w fun e w' => e = .returned (.int .i64 (szRes (wtL wtPSt l) left)) ∧ Below w.heap.size w w' := by
  by_cases h : left < l.length
  · have hs : szRes (wtL wtPSt l) left = -1 := by unfold szRes wtL; rw [if_pos (by omega)]
    have HS := hide hs; clear hs
    go_enter Tryz.func41, Tryz.ntmps41
    go_wp2
    go_ret
    exact ⟨ret_int HS.out.symm, by (repeat' (first | (with_reducible exact Below.refl _ _) | (with_reducible assumption) | (with_reducible refine below_drewN' ?_ _) | (with_reducible refine Below.drew ?_) | (with_reducible refine Below.alloc ?_ ?_ _) | (with_reducible refine Below.setCell ?_ ?_ _) | (with_reducible refine Below.then_ ?_ (by assumption) ?_) | go_size))⟩
  · obtain ⟨R, hR⟩ : ∃ R, szRes (wtL wtPSt l) left = R := ⟨_, rfl⟩
    have HR := hide hR
    have HL : Hid (szRes ((l.drop 0).map wtPSt).sum (left - l.length) = R) := by show _ = _; rw [← hR, wtL, szRes_add h]; rfl
    clear hR
    go_enter Tryz.func41, Tryz.ntmps41
    go_wp2
    go_loopw [5, 1] (fun i L wr => ∃ (k : Nat) (m : Int), k ≤ l.length ∧ i = .int .i64 k ∧ L = .int .i64 m ∧ 0 ≤ m ∧ m ≤ 1048576 ∧ Hid (szRes ((l.drop k).map wtPSt).sum m = R) ∧ Below w.heap.size w wr) (fun i _ _ => l.length - (intOf i).toNat)
    case atStart => exact ⟨0, _, Nat.zero_le _, rfl, rfl, by omega, by omega, HL, by (repeat' (first | (with_reducible exact Below.refl _ _) | (with_reducible assumption) | (with_reducible refine below_drewN' ?_ _) | (with_reducible refine Below.drew ?_) | (with_reducible refine Below.alloc ?_ ?_ _) | (with_reducible refine Below.setCell ?_ ?_ _) | (with_reducible refine Below.then_ ?_ (by assumption) ?_) | go_size))⟩
    case round =>
      obtain ⟨k, m, hk, rfl, rfl, hm0, hm1, hgo, hb⟩ := hrel
      have hsz := hb.size
      by_cases hlt : k < l.length
      · obtain ⟨x, hx⟩ := get_of_lt hlt
        obtain ⟨b, off, rfl, hbl, d0, d1, f0, f1⟩ := hr.PSt_at hb hx
        have Hd := hide (drop_get hx)
        clear hx
        have hg1 := hgo.out
        rw [Hd.out, List.map_cons, List.sum_cons] at hg1
        have HG := hide hg1; clear hg1
        go_wp2_with fail
        refine (szProductState x  m _ f1 hm0 hm1).mono ?_
        rintro e w1 ⟨rfl, hb1⟩
        have hb2 := hb.trans (hb1.mono hsz)
        by_cases hq : m < (wtPSt x : Nat)
        · rw [szRes_neg hq]
          have HQ := hide (szRes_add_neg (b := ((l.drop (k + 1)).map wtPSt).sum) hq)
          go_wp2
          go_ret
          exact ⟨ret_int (by rw [HR.out, ← HG.out, ← HQ.out]), by (repeat' (first | (with_reducible exact Below.refl _ _) | (with_reducible assumption) | (with_reducible refine below_drewN' ?_ _) | (with_reducible refine Below.drew ?_) | (with_reducible refine Below.alloc ?_ ?_ _) | (with_reducible refine Below.setCell ?_ ?_ _) | (with_reducible refine Below.then_ ?_ (by assumption) ?_) | go_size))⟩
        · rw [szRes_pos hq]
          have HG2 : Hid (szRes ((l.drop (k + 1)).map wtPSt).sum (m - (wtPSt x : Nat)) = R) := by show _ = _; rw [← HG.out]; exact (szRes_add hq).symm
          have hq1 : (wtPSt x : Int) ≤ m := by omega
          have hq2 : (0 : Int) ≤ (wtPSt x : Nat) := by omega
          go_wp2_with fail
          go_roundw
          case rel => exact ⟨k + 1, _, by omega, by go_num, rfl, by omega, by omega, HG2, by (repeat' (first | (with_reducible exact Below.refl _ _) | (with_reducible assumption) | (with_reducible refine below_drewN' ?_ _) | (with_reducible refine Below.drew ?_) | (with_reducible refine Below.alloc ?_ ?_ _) | (with_reducible refine Below.setCell ?_ ?_ _) | (with_reducible refine Below.then_ ?_ (by assumption) ?_) | go_size))⟩
          case measure => simp [intOf]; omega
      · have hg1 := hgo.out
        rw [drop_end hlt] at hg1
        have HG := hide hg1; clear hg1
        go_wp2
        go_ret
        exact ⟨ret_int (by rw [HR.out, ← HG.out]; unfold szRes; simp; omega), by (repeat' (first | (with_reducible exact Below.refl _ _) | (with_reducible assumption) | (with_reducible refine below_drewN' ?_ _) | (with_reducible refine Below.drew ?_) | (with_reducible refine Below.alloc ?_ ?_ _) | (with_reducible refine Below.setCell ?_ ?_ _) | (with_reducible refine Below.then_ ?_ (by assumption) ?_) | go_size))⟩

set_option maxHeartbeats 1000000 in
theorem toProductStateS (A : Option Addr) (c : Nat) (l : (List PSt)) (w : World) (hs : wtL wtPSt l ≤ 1048576) (hr : RA shPSt w A l) :
    Calls Tryz.prog 49 #[.slice A l.length c] w fun e w' => ∃ A', e = .returned (.slice A' l.length l.length) ∧ RSl shPSt w' (Fresh w w') A' l ∧ Below w.heap.size w w' ∧ Frz w w' := by
  have hl : l.length ≤ 1048576 := by unfold wtL at hs; omega
  obtain ⟨cells, hcs, hmk⟩ := make_row (P := Tryz.prog) (t := 40) (e := 58) (size := 2) (bytes := 24) Tryz.underlying40 (by kernel_rfl) l.length (by omega) (by decide)
  have HC := hide hcs; clear hcs
  have HM := hide hmk; clear hmk
  go_enter Tryz.func49, Tryz.ntmps49
  have hmk := HM.out w
  go_wp2
  clear hmk
  go_loopw [4] (fun i wr => ∃ k : Nat, k ≤ l.length ∧ i = .int .i64 k ∧ Hid (Filled shPSt wr (Nest w.heap.size wr) w.heap.size 58 l.length k l) ∧ Below w.heap.size w wr ∧ Frz w wr) (fun i _ => l.length - (intOf i).toNat)
  case atStart => exact ⟨0, Nat.zero_le _, rfl, Filled.start HC.out, by (repeat' (first | (with_reducible exact Below.refl _ _) | (with_reducible assumption) | (with_reducible refine below_drewN' ?_ _) | (with_reducible refine Below.drew ?_) | (with_reducible refine Below.alloc ?_ ?_ _) | (with_reducible refine Below.setCell ?_ ?_ _) | (with_reducible refine Below.then_ ?_ (by assumption) ?_) | go_size)), by (repeat' (first | (with_reducible exact Frz.refl _) | (with_reducible assumption) | (with_reducible refine Frz.drewN ?_ _) | (with_reducible refine Frz.drew ?_) | (with_reducible refine Frz.alloc ?_ _ _) | (with_reducible refine Frz.setCell ?_ _ _) | (with_reducible refine Frz.then_ ?_ (by assumption))))⟩
  case round =>
    obtain ⟨k, hk, rfl, hf, hb, hfz⟩ := hrel
    have hsz := hb.size
    by_cases hlt : k < l.length
    · obtain ⟨x, hx⟩ := get_of_lt hlt
      obtain ⟨b, off, rfl, hbl, d0, d1, f0, f1⟩ := hr.PSt_at hb hx
      have hwx : wtPSt x ≤ 1048576 := Nat.le_trans (wtL_get hx) hs
      have HX := hide hx; clear hx
      have hgl := hf.out.lt
      go_wp2_with fail
      refine (toProductState x  wr f1 hwx).mono ?_
      rintro e w1 ⟨rfl, hb1, fz1⟩
      have hf1 := hf.out.to hb1
      obtain ⟨⟨v0, p0⟩, z0⟩ := hf1.room hlt 0 (by decide)
      obtain ⟨⟨v1, p1⟩, z1⟩ := hf1.room hlt 1 (by decide)
      have HF := hide hf1; clear hf1
      simp only [shPSt_size, Nat.add_zero] at p0 z0 p1 z1
      have hb2 := hb.trans (hb1.mono hsz)
      have hsz1 := hb1.size
      go_wp2_with fail
      go_roundw
      case rel => exact ⟨k + 1, by omega, by go_num, hide (HF.out.step [.int .i64 x.state, .string ⟨(x.values).toArray⟩] HX.out (shPSt_mk f0 f1) (by simp [setCells, shPSt_size])), by (repeat' (first | (with_reducible exact Below.refl _ _) | (with_reducible assumption) | (with_reducible refine below_drewN' ?_ _) | (with_reducible refine Below.drew ?_) | (with_reducible refine Below.alloc ?_ ?_ _) | (with_reducible refine Below.setCell ?_ ?_ _) | (with_reducible refine Below.then_ ?_ (by assumption) ?_) | go_size)), by (repeat' (first | (with_reducible exact Frz.refl _) | (with_reducible assumption) | (with_reducible refine Frz.drewN ?_ _) | (with_reducible refine Frz.drew ?_) | (with_reducible refine Frz.alloc ?_ _ _) | (with_reducible refine Frz.setCell ?_ _ _) | (with_reducible refine Frz.then_ ?_ (by assumption))))⟩
      case measure => simp [intOf]; omega
    · have : k = l.length := by omega
      subst this
      go_wp2
      go_ret
      exact ⟨_, rfl, hf.out.finish, by (repeat' (first | (with_reducible exact Below.refl _ _) | (with_reducible assumption) | (with_reducible refine below_drewN' ?_ _) | (with_reducible refine Below.drew ?_) | (with_reducible refine Below.alloc ?_ ?_ _) | (with_reducible refine Below.setCell ?_ ?_ _) | (with_reducible refine Below.then_ ?_ (by assumption) ?_) | go_size)), by (repeat' (first | (with_reducible exact Frz.refl _) | (with_reducible assumption) | (with_reducible refine Frz.drewN ?_ _) | (with_reducible refine Frz.drew ?_) | (with_reducible refine Frz.alloc ?_ _ _) | (with_reducible refine Frz.setCell ?_ _ _) | (with_reducible refine Frz.then_ ?_ (by assumption))))⟩

set_option maxHeartbeats 1000000 in
theorem eqProductStateS (A A' : Option Addr) (c c' : Nat) (l : (List PSt)) (w : World) (hl : l.length ≤ 9223372036854775807) (hr : RA shPSt w A l) (hr' : RA shPSt w A' l) :
    Calls Tryz.prog 33 #[.slice A l.length c, .slice A' l.length c'] w fun e w' => e = .returned (.bool true) ∧ Below w.heap.size w w' := by
  go_enter Tryz.func33, Tryz.ntmps33
  go_wp2
  go_loopw [5] (fun i wr => ∃ k : Nat, k ≤ l.length ∧ i = .int .i64 k ∧ Below w.heap.size w wr) (fun i _ => l.length - (intOf i).toNat)
  case atStart => exact ⟨0, Nat.zero_le _, rfl, Below.refl _ _⟩
  case round =>
    obtain ⟨k, hk, rfl, hb⟩ := hrel
    have hsz := hb.size
    by_cases hlt : k < l.length
    · obtain ⟨x, hx⟩ := get_of_lt hlt
      obtain ⟨b, off, rfl, hbl, d0, d1, f0, f1⟩ := hr.PSt_at hb hx
      obtain ⟨b', off', rfl, hbl', d0', d1', f0', f1'⟩ := hr'.PSt_at hb hx
      have HX := hide hx; clear hx
      go_wp2_with fail
      go_region_held3 (fun W => W.cell? ⟨b, off + k * 2, none⟩ = some (.int .i64 x.state) ∧ W.cell? ⟨b, off + k * 2 + 1, none⟩ = some (.string ⟨(x.values).toArray⟩) ∧ W.cell? ⟨b', off' + k * 2, none⟩ = some (.int .i64 x.state) ∧ W.cell? ⟨b', off' + k * 2 + 1, none⟩ = some (.string ⟨(x.values).toArray⟩)) (first | exact ⟨d0, d1, d0', d1'⟩ | exact ⟨(cell_later hb1 d0), (cell_later hb1 d1), (cell_later hb1 d0'), (cell_later hb1 d1')⟩) (first | (go_at_call 25; refine (eqProductState x   _ f1 ).mono ?_; rintro e w1 ⟨rfl, hb1⟩))
      have hb2 := hb.drew.trans (hb1.mono hsz)
      go_wp2_with fail
      go_roundw
      case rel => exact ⟨k + 1, by omega, by go_num, by (repeat' (first | (with_reducible exact Below.refl _ _) | (with_reducible assumption) | (with_reducible refine below_drewN' ?_ _) | (with_reducible refine Below.drew ?_) | (with_reducible refine Below.alloc ?_ ?_ _) | (with_reducible refine Below.setCell ?_ ?_ _) | (with_reducible refine Below.then_ ?_ (by assumption) ?_) | go_size))⟩
      case measure => simp [intOf]; omega
    · go_wp2
      go_ret
      exact ⟨rfl, by (repeat' (first | (with_reducible exact Below.refl _ _) | (with_reducible assumption) | (with_reducible refine below_drewN' ?_ _) | (with_reducible refine Below.drew ?_) | (with_reducible refine Below.alloc ?_ ?_ _) | (with_reducible refine Below.setCell ?_ ?_ _) | (with_reducible refine Below.then_ ?_ (by assumption) ?_) | go_size))⟩

set_option maxHeartbeats 1000000 in
theorem toWireFlip (x : Flip)  (w : World)   :
    Calls Tryz.prog 95 #[.agg #[.int .i64 x.from_, .int .i64 x.wire, .int .i64 x.to]] w fun e w' => e = .returned (.agg #[.int .i64 x.from_, .int .i64 x.wire, .int .i64 x.to]) ∧ Below w.heap.size w w' ∧ Frz w w' := by
  go_enter Tryz.func95, Tryz.ntmps95
  go_wp2
  go_returns
  exact ⟨rfl, by (repeat' (first | (with_reducible exact Below.refl _ _) | (with_reducible assumption) | (with_reducible refine below_drewN' ?_ _) | (with_reducible refine Below.drew ?_) | (with_reducible refine Below.alloc ?_ ?_ _) | (with_reducible refine Below.setCell ?_ ?_ _) | (with_reducible refine Below.then_ ?_ (by assumption) ?_) | go_size)), by (repeat' (first | (with_reducible exact Frz.refl _) | (with_reducible assumption) | (with_reducible refine Frz.drewN ?_ _) | (with_reducible refine Frz.drew ?_) | (with_reducible refine Frz.alloc ?_ _ _) | (with_reducible refine Frz.setCell ?_ _ _) | (with_reducible refine Frz.then_ ?_ (by assumption))))⟩

set_option maxHeartbeats 1000000 in
theorem eqWireFlip (x : Flip)   (w : World)   :
    Calls Tryz.prog 107 #[.agg #[.int .i64 x.from_, .int .i64 x.wire, .int .i64 x.to], .agg #[.int .i64 x.from_, .int .i64 x.wire, .int .i64 x.to]] w fun e w' => e = .returned (.bool true) ∧ Below w.heap.size w w' := by
  go_enter Tryz.func107, Tryz.ntmps107
  go_wp2
  go_ret
  exact ⟨rfl, by (repeat' (first | (with_reducible exact Below.refl _ _) | (with_reducible assumption) | (with_reducible refine below_drewN' ?_ _) | (with_reducible refine Below.drew ?_) | (with_reducible refine Below.alloc ?_ ?_ _) | (with_reducible refine Below.setCell ?_ ?_ _) | (with_reducible refine Below.then_ ?_ (by assumption) ?_) | go_size))⟩

set_option maxHeartbeats 400000 in
theorem szWireFlipS (A : Option Addr) (n c : Nat) (left : Int) (w : World) (hn : n ≤ 9223372036854775807) (h0 : 0 ≤ left) (h1 : left ≤ 1048576) :
    Calls Tryz.prog 42 #[.slice A n c, .int .i64 left] w fun e w' => e = .returned (.int .i64 (szRes n left)) ∧ w' = w := by
  by_cases h : left < n
  · go_enter Tryz.func42, Tryz.ntmps42
    go_wp2
    go_ret
    exact ⟨ret_int (by unfold szRes; rw [if_pos (by omega)]), rfl⟩
  · go_enter Tryz.func42, Tryz.ntmps42
    go_wp2
    go_ret
    exact ⟨ret_int (by unfold szRes; rw [if_neg (by omega)]), rfl⟩

set_option maxHeartbeats 1000000 in
theorem toWireFlipS (A : Option Addr) (c : Nat) (l : (List Flip)) (w : World) (hs : l.length ≤ 1048576) (hr : RA shFlip w A l) :
    Calls Tryz.prog 50 #[.slice A l.length c] w fun e w' => ∃ A', e = .returned (.slice A' l.length l.length) ∧ RSl shFlip w' (Fresh w w') A' l ∧ Below w.heap.size w w' ∧ Frz w w' := by
  have hl := hs
  obtain ⟨cells, hcs, hmk⟩ := make_row (P := Tryz.prog) (t := 41) (e := 141) (size := 3) (bytes := 24) Tryz.underlying41 (by kernel_rfl) l.length (by omega) (by decide)
  have HC := hide hcs; clear hcs
  have HM := hide hmk; clear hmk
  go_enter Tryz.func50, Tryz.ntmps50
  have hmk := HM.out w
  go_wp2
  clear hmk
  go_loopw [4] (fun i wr => ∃ k : Nat, k ≤ l.length ∧ i = .int .i64 k ∧ Hid (Filled shFlip wr (Nest w.heap.size wr) w.heap.size 141 l.length k l) ∧ Below w.heap.size w wr ∧ Frz w wr) (fun i _ => l.length - (intOf i).toNat)
  case atStart => exact ⟨0, Nat.zero_le _, rfl, Filled.start HC.out, by (repeat' (first | (with_reducible exact Below.refl _ _) | (with_reducible assumption) | (with_reducible refine below_drewN' ?_ _) | (with_reducible refine Below.drew ?_) | (with_reducible refine Below.alloc ?_ ?_ _) | (with_reducible refine Below.setCell ?_ ?_ _) | (with_reducible refine Below.then_ ?_ (by assumption) ?_) | go_size)), by (repeat' (first | (with_reducible exact Frz.refl _) | (with_reducible assumption) | (with_reducible refine Frz.drewN ?_ _) | (with_reducible refine Frz.drew ?_) | (with_reducible refine Frz.alloc ?_ _ _) | (with_reducible refine Frz.setCell ?_ _ _) | (with_reducible refine Frz.then_ ?_ (by assumption))))⟩
  case round =>
    obtain ⟨k, hk, rfl, hf, hb, hfz⟩ := hrel
    have hsz := hb.size
    by_cases hlt : k < l.length
    · obtain ⟨x, hx⟩ := get_of_lt hlt
      obtain ⟨b, off, rfl, hbl, d0, d1, d2, f0, f1, f2⟩ := hr.Flip_at hb hx
      have HX := hide hx; clear hx
      have hgl := hf.out.lt
      go_wp2_with fail
      refine (toWireFlip x  wr  ).mono ?_
      rintro e w1 ⟨rfl, hb1, fz1⟩
      have hf1 := hf.out.to hb1
      obtain ⟨⟨v0, p0⟩, z0⟩ := hf1.room hlt 0 (by decide)
      obtain ⟨⟨v1, p1⟩, z1⟩ := hf1.room hlt 1 (by decide)
      obtain ⟨⟨v2, p2⟩, z2⟩ := hf1.room hlt 2 (by decide)
      have HF := hide hf1; clear hf1
      simp only [shFlip_size, Nat.add_zero] at p0 z0 p1 z1 p2 z2
      have hb2 := hb.trans (hb1.mono hsz)
      have hsz1 := hb1.size
      go_wp2_with fail
      go_roundw
      case rel => exact ⟨k + 1, by omega, by go_num, hide (HF.out.step [.int .i64 x.from_, .int .i64 x.wire, .int .i64 x.to] HX.out (shFlip_mk f0 f1 f2) (by simp [setCells, shFlip_size])), by (repeat' (first | (with_reducible exact Below.refl _ _) | (with_reducible assumption) | (with_reducible refine below_drewN' ?_ _) | (with_reducible refine Below.drew ?_) | (with_reducible refine Below.alloc ?_ ?_ _) | (with_reducible refine Below.setCell ?_ ?_ _) | (with_reducible refine Below.then_ ?_ (by assumption) ?_) | go_size)), by (repeat' (first | (with_reducible exact Frz.refl _) | (with_reducible assumption) | (with_reducible refine Frz.drewN ?_ _) | (with_reducible refine Frz.drew ?_) | (with_reducible refine Frz.alloc ?_ _ _) | (with_reducible refine Frz.setCell ?_ _ _) | (with_reducible refine Frz.then_ ?_ (by assumption))))⟩
      case measure => simp [intOf]; omega
    · have : k = l.length := by omega
      subst this
      go_wp2
      go_ret
      exact ⟨_, rfl, hf.out.finish, by (repeat' (first | (with_reducible exact Below.refl _ _) | (with_reducible assumption) | (with_reducible refine below_drewN' ?_ _) | (with_reducible refine Below.drew ?_) | (with_reducible refine Below.alloc ?_ ?_ _) | (with_reducible refine Below.setCell ?_ ?_ _) | (with_reducible refine Below.then_ ?_ (by assumption) ?_) | go_size)), by (repeat' (first | (with_reducible exact Frz.refl _) | (with_reducible assumption) | (with_reducible refine Frz.drewN ?_ _) | (with_reducible refine Frz.drew ?_) | (with_reducible refine Frz.alloc ?_ _ _) | (with_reducible refine Frz.setCell ?_ _ _) | (with_reducible refine Frz.then_ ?_ (by assumption))))⟩

set_option maxHeartbeats 1000000 in
theorem eqWireFlipS (A A' : Option Addr) (c c' : Nat) (l : (List Flip)) (w : World) (hl : l.length ≤ 9223372036854775807) (hr : RA shFlip w A l) (hr' : RA shFlip w A' l) :
    Calls Tryz.prog 59 #[.slice A l.length c, .slice A' l.length c'] w fun e w' => e = .returned (.bool true) ∧ Below w.heap.size w w' := by
  go_enter Tryz.func59, Tryz.ntmps59
  go_wp2
  go_loopw [5] (fun i wr => ∃ k : Nat, k ≤ l.length ∧ i = .int .i64 k ∧ Below w.heap.size w wr) (fun i _ => l.length - (intOf i).toNat)
  case atStart => exact ⟨0, Nat.zero_le _, rfl, Below.refl _ _⟩
  case round =>
    obtain ⟨k, hk, rfl, hb⟩ := hrel
    have hsz := hb.size
    by_cases hlt : k < l.length
    · obtain ⟨x, hx⟩ := get_of_lt hlt
      obtain ⟨b, off, rfl, hbl, d0, d1, d2, f0, f1, f2⟩ := hr.Flip_at hb hx
      obtain ⟨b', off', rfl, hbl', d0', d1', d2', f0', f1', f2'⟩ := hr'.Flip_at hb hx
      have HX := hide hx; clear hx
      go_wp2_with fail
      go_region_held3 (fun W => W.cell? ⟨b, off + k * 3, none⟩ = some (.int .i64 x.from_) ∧ W.cell? ⟨b, off + k * 3 + 1, none⟩ = some (.int .i64 x.wire) ∧ W.cell? ⟨b, off + k * 3 + 2, none⟩ = some (.int .i64 x.to) ∧ W.cell? ⟨b', off' + k * 3, none⟩ = some (.int .i64 x.from_) ∧ W.cell? ⟨b', off' + k * 3 + 1, none⟩ = some (.int .i64 x.wire) ∧ W.cell? ⟨b', off' + k * 3 + 2, none⟩ = some (.int .i64 x.to)) (first | exact ⟨d0, d1, d2, d0', d1', d2'⟩ | exact ⟨(cell_later hb1 d0), (cell_later hb1 d1), (cell_later hb1 d2), (cell_later hb1 d0'), (cell_later hb1 d1'), (cell_later hb1 d2')⟩) (first | (go_at_call 107; refine (eqWireFlip x   _  ).mono ?_; rintro e w1 ⟨rfl, hb1⟩))
      have hb2 := hb.drew.trans (hb1.mono hsz)
      go_wp2_with fail
      go_roundw
      case rel => exact ⟨k + 1, by omega, by go_num, by (repeat' (first | (with_reducible exact Below.refl _ _) | (with_reducible assumption) | (with_reducible refine below_drewN' ?_ _) | (with_reducible refine Below.drew ?_) | (with_reducible refine Below.alloc ?_ ?_ _) | (with_reducible refine Below.setCell ?_ ?_ _) | (with_reducible refine Below.then_ ?_ (by assumption) ?_) | go_size))⟩
      case measure => simp [intOf]; omega
    · go_wp2
      go_ret
      exact ⟨rfl, by (repeat' (first | (with_reducible exact Below.refl _ _) | (with_reducible assumption) | (with_reducible refine below_drewN' ?_ _) | (with_reducible refine Below.drew ?_) | (with_reducible refine Below.alloc ?_ ?_ _) | (with_reducible refine Below.setCell ?_ ?_ _) | (with_reducible refine Below.then_ ?_ (by assumption) ?_) | go_size))⟩

def wtProdG (x : ProdG) : Nat := (wtL wtPSt x.states) + (x.flips).length + (x.extra).length

set_option maxHeartbeats 1000000 in
theorem szProduct (x : ProdG) (A_states : Option Addr) (c_states : Nat) (A_flips : Option Addr) (c_flips : Nat) (A_extra : Option Addr) (c_extra : Nat) (left : Int) (w : World) (g0 : (x.states).length ≤ c_states) (g1 : c_states ≤ 9223372036854775807) (g2 : RA shPSt w A_states x.states) (g3 : (x.flips).length ≤ c_flips) (g4 : c_flips ≤ 9223372036854775807) (g5 : RA shFlip w A_flips x.flips) (g6 : (x.extra).length ≤ c_extra) (g7 : c_extra ≤ 9223372036854775807) (g8 : RA shFlip w A_extra x.extra) (h0 : 0 ≤ left) (h1 : left ≤ 1048576) :
    Calls Tryz.prog 9 #[.agg #[.slice A_states (x.states).length c_states, .slice A_flips (x.flips).length c_flips, .slice A_extra (x.extra).length c_extra], .int .i64 left] w fun e w' => e = .returned (.int .i64 (szRes (wtProdG x) left)) ∧ Below w.heap.size w w' := by
  show Calls _ _ _ _ fun e w' => e = .returned (.int .i64 (szRes ((wtL wtPSt x.states) + (x.flips).length + (x.extra).length) left)) ∧ _
  go_enter Tryz.func9, Tryz.ntmps9
  go_wp2_with fail
  refine (szProductStateS A_states c_states x.states (left) _ (by omega) (RA.to g2 ?hb) (by omega) (by omega)).mono ?_
  case hb => (repeat' (first | (with_reducible exact Below.refl _ _) | (with_reducible assumption) | (with_reducible refine below_drewN' ?_ _) | (with_reducible refine Below.drew ?_) | (with_reducible refine Below.alloc ?_ ?_ _) | (with_reducible refine Below.setCell ?_ ?_ _) | (with_reducible refine Below.then_ ?_ (by assumption) ?_) | go_size))
  rintro e w1 ⟨rfl, hb1⟩
  obtain ⟨hc1, hf1⟩ := bcell hb1
  have hz1 := hb1.size
  repeat (first | rw [World.size_alloc] at hz1 | rw [World.size_setCell] at hz1)
  have l1_0 : w.heap.size < w1.heap.size := by omega
  by_cases q1 : left < ((wtL wtPSt x.states) : Nat)
  · rw [szRes_neg q1]
    go_wp2
    go_ret
    exact ⟨ret_int (by unfold szRes; rw [if_pos (by omega)]), by (repeat' (first | (with_reducible exact Below.refl _ _) | (with_reducible assumption) | (with_reducible refine below_drewN' ?_ _) | (with_reducible refine Below.drew ?_) | (with_reducible refine Below.alloc ?_ ?_ _) | (with_reducible refine Below.setCell ?_ ?_ _) | (with_reducible refine Below.then_ ?_ (by assumption) ?_) | go_size))⟩
  · rw [szRes_pos q1]
    go_wp2_with fail
    refine (szWireFlipS A_flips (x.flips).length c_flips (left - ((wtL wtPSt x.states) : Nat)) _ (by omega) (by omega) (by omega)).mono ?_
    rintro e w2 ⟨rfl, rfl⟩
    by_cases q2 : left - ((wtL wtPSt x.states) : Nat) < ((x.flips).length : Nat)
    · rw [szRes_neg q2]
      go_wp2
      go_ret
      exact ⟨ret_int (by unfold szRes; rw [if_pos (by omega)]), by (repeat' (first | (with_reducible exact Below.refl _ _) | (with_reducible assumption) | (with_reducible refine below_drewN' ?_ _) | (with_reducible refine Below.drew ?_) | (with_reducible refine Below.alloc ?_ ?_ _) | (with_reducible refine Below.setCell ?_ ?_ _) | (with_reducible refine Below.then_ ?_ (by assumption) ?_) | go_size))⟩
    · rw [szRes_pos q2]
      go_wp2_with fail
      refine (szWireFlipS A_extra (x.extra).length c_extra (left - ((wtL wtPSt x.states) : Nat) - ((x.flips).length : Nat)) _ (by omega) (by omega) (by omega)).mono ?_
      rintro e w3 ⟨rfl, rfl⟩
      by_cases q3 : left - ((wtL wtPSt x.states) : Nat) - ((x.flips).length : Nat) < ((x.extra).length : Nat)
      · rw [szRes_neg q3]
        go_wp2
        go_ret
        exact ⟨ret_int (by unfold szRes; rw [if_pos (by omega)]), by (repeat' (first | (with_reducible exact Below.refl _ _) | (with_reducible assumption) | (with_reducible refine below_drewN' ?_ _) | (with_reducible refine Below.drew ?_) | (with_reducible refine Below.alloc ?_ ?_ _) | (with_reducible refine Below.setCell ?_ ?_ _) | (with_reducible refine Below.then_ ?_ (by assumption) ?_) | go_size))⟩
      · rw [szRes_pos q3]
        go_wp2
        go_ret
        exact ⟨ret_int (by (unfold szRes; rw [if_neg (by omega)]) <;> omega), by (repeat' (first | (with_reducible exact Below.refl _ _) | (with_reducible assumption) | (with_reducible refine below_drewN' ?_ _) | (with_reducible refine Below.drew ?_) | (with_reducible refine Below.alloc ?_ ?_ _) | (with_reducible refine Below.setCell ?_ ?_ _) | (with_reducible refine Below.then_ ?_ (by assumption) ?_) | go_size))⟩

set_option maxHeartbeats 1000000 in
theorem toProduct (x : ProdG) (A_states : Option Addr) (c_states : Nat) (A_flips : Option Addr) (c_flips : Nat) (A_extra : Option Addr) (c_extra : Nat) (w : World) (g0 : (x.states).length ≤ c_states) (g1 : c_states ≤ 9223372036854775807) (g2 : RA shPSt w A_states x.states) (g3 : (x.flips).length ≤ c_flips) (g4 : c_flips ≤ 9223372036854775807) (g5 : RA shFlip w A_flips x.flips) (g6 : (x.extra).length ≤ c_extra) (g7 : c_extra ≤ 9223372036854775807) (g8 : RA shFlip w A_extra x.extra) (hs : wtProdG x ≤ 1048576) :
    Calls Tryz.prog 12 #[.agg #[.slice A_states (x.states).length c_states, .slice A_flips (x.flips).length c_flips, .slice A_extra (x.extra).length c_extra]] w fun e w' => ∃ A_states' A_flips' A_extra', e = .returned (.agg #[.slice A_states' (x.states).length (x.states).length, .slice A_flips' (x.flips).length (x.flips).length, .slice A_extra' (x.extra).length (x.extra).length]) ∧ RSl shPSt w' (Fresh w w') A_states' x.states ∧ RSl shFlip w' (Fresh w w') A_flips' x.flips ∧ RSl shFlip w' (Fresh w w') A_extra' x.extra ∧ Below w.heap.size w w' ∧ Frz w w' := by
  unfold wtProdG at hs
  go_enter Tryz.func12, Tryz.ntmps12
  go_wp2_with fail
  refine (toProductStateS A_states c_states x.states _ (by omega) (RA.to g2 ?hb)).mono ?_
  case hb => (repeat' (first | (with_reducible exact Below.refl _ _) | (with_reducible assumption) | (with_reducible refine below_drewN' ?_ _) | (with_reducible refine Below.drew ?_) | (with_reducible refine Below.alloc ?_ ?_ _) | (with_reducible refine Below.setCell ?_ ?_ _) | (with_reducible refine Below.then_ ?_ (by assumption) ?_) | go_size))
  rintro e w1 ⟨A_states', rfl, r1, hb1, fz1⟩
  obtain ⟨hc1, hf1⟩ := bcell hb1
  have hz1 := hb1.size
  repeat (first | rw [World.size_alloc] at hz1 | rw [World.size_setCell] at hz1)
  have l1_0 : w.heap.size < w1.heap.size := by omega
  have l1_1 : w.heap.size + 1 < w1.heap.size := by omega
  have l1_2 : w.heap.size + 1 + 1 < w1.heap.size := by omega
  go_wp2_with fail
  refine (toWireFlipS A_flips c_flips x.flips _ (by omega) (RA.to g5 ?hb)).mono ?_
  case hb => (repeat' (first | (with_reducible exact Below.refl _ _) | (with_reducible assumption) | (with_reducible refine below_drewN' ?_ _) | (with_reducible refine Below.drew ?_) | (with_reducible refine Below.alloc ?_ ?_ _) | (with_reducible refine Below.setCell ?_ ?_ _) | (with_reducible refine Below.then_ ?_ (by assumption) ?_) | go_size))
  rintro e w2 ⟨A_flips', rfl, r2, hb2, fz2⟩
  obtain ⟨hc2, hf2⟩ := bcell hb2
  have hz2 := hb2.size
  repeat (first | rw [World.size_alloc] at hz2 | rw [World.size_setCell] at hz2)
  have l2_0 : w.heap.size < w2.heap.size := by omega
  have l2_1 : w.heap.size + 1 < w2.heap.size := by omega
  have l2_2 : w.heap.size + 1 + 1 < w2.heap.size := by omega
  go_wp2_with fail
  refine (toWireFlipS A_extra c_extra x.extra _ (by omega) (RA.to g8 ?hb)).mono ?_
  case hb => (repeat' (first | (with_reducible exact Below.refl _ _) | (with_reducible assumption) | (with_reducible refine below_drewN' ?_ _) | (with_reducible refine Below.drew ?_) | (with_reducible refine Below.alloc ?_ ?_ _) | (with_reducible refine Below.setCell ?_ ?_ _) | (with_reducible refine Below.then_ ?_ (by assumption) ?_) | go_size))
  rintro e w3 ⟨A_extra', rfl, r3, hb3, fz3⟩
  obtain ⟨hc3, hf3⟩ := bcell hb3
  have hz3 := hb3.size
  repeat (first | rw [World.size_alloc] at hz3 | rw [World.size_setCell] at hz3)
  have l3_0 : w.heap.size < w3.heap.size := by omega
  have l3_1 : w.heap.size + 1 < w3.heap.size := by omega
  have l3_2 : w.heap.size + 1 + 1 < w3.heap.size := by omega
  go_wp2
  refine bodyPost_ret (v := .agg #[.slice A_states' (x.states).length (x.states).length, .slice A_flips' (x.flips).length (x.flips).length, .slice A_extra' (x.extra).length (x.extra).length]) ?_ rfl ?_
  · simp [results, Tryz.results12, go_sem, *]
  exact ⟨_, _, _, rfl, (r1).keep (by (refine Agree.out ?_; repeat' (first | (with_reducible exact Agree.refl _ _) | (with_reducible refine Agree.drew ?_) | (with_reducible refine Agree.drewN ?_ _) | (with_reducible refine Agree.setCell ?_ ?_ _) | (with_reducible refine Agree.alloc ?_ ?_ _) | (with_reducible refine Agree.then_ ?_ (by assumption) ?_) | (intro b hb; obtain ⟨hb1, hb2⟩ := hb; (first | omega | ((try simp at hb1); (try simp at hb2); (try simp); omega)))))) (by (intro b hb; obtain ⟨hb1, hb2⟩ := hb; exact ⟨by (first | omega | ((try simp at hb1); (try simp at hb2); (try simp); omega)), by (first | omega | ((try simp at hb1); (try simp at hb2); (try simp); omega))⟩)), (r2).keep (by (refine Agree.out ?_; repeat' (first | (with_reducible exact Agree.refl _ _) | (with_reducible refine Agree.drew ?_) | (with_reducible refine Agree.drewN ?_ _) | (with_reducible refine Agree.setCell ?_ ?_ _) | (with_reducible refine Agree.alloc ?_ ?_ _) | (with_reducible refine Agree.then_ ?_ (by assumption) ?_) | (intro b hb; obtain ⟨hb1, hb2⟩ := hb; (first | omega | ((try simp at hb1); (try simp at hb2); (try simp); omega)))))) (by (intro b hb; obtain ⟨hb1, hb2⟩ := hb; exact ⟨by (first | omega | ((try simp at hb1); (try simp at hb2); (try simp); omega)), by (first | omega | ((try simp at hb1); (try simp at hb2); (try simp); omega))⟩)), (r3).keep (by (refine Agree.out ?_; repeat' (first | (with_reducible exact Agree.refl _ _) | (with_reducible refine Agree.drew ?_) | (with_reducible refine Agree.drewN ?_ _) | (with_reducible refine Agree.setCell ?_ ?_ _) | (with_reducible refine Agree.alloc ?_ ?_ _) | (with_reducible refine Agree.then_ ?_ (by assumption) ?_) | (intro b hb; obtain ⟨hb1, hb2⟩ := hb; (first | omega | ((try simp at hb1); (try simp at hb2); (try simp); omega)))))) (by (intro b hb; obtain ⟨hb1, hb2⟩ := hb; exact ⟨by (first | omega | ((try simp at hb1); (try simp at hb2); (try simp); omega)), by (first | omega | ((try simp at hb1); (try simp at hb2); (try simp); omega))⟩)), by (repeat' (first | (with_reducible exact Below.refl _ _) | (with_reducible assumption) | (with_reducible refine below_drewN' ?_ _) | (with_reducible refine Below.drew ?_) | (with_reducible refine Below.alloc ?_ ?_ _) | (with_reducible refine Below.setCell ?_ ?_ _) | (with_reducible refine Below.then_ ?_ (by assumption) ?_) | go_size)), by (repeat' (first | (with_reducible exact Frz.refl _) | (with_reducible assumption) | (with_reducible refine Frz.drewN ?_ _) | (with_reducible refine Frz.drew ?_) | (with_reducible refine Frz.alloc ?_ _ _) | (with_reducible refine Frz.setCell ?_ _ _) | (with_reducible refine Frz.then_ ?_ (by assumption))))⟩

set_option maxHeartbeats 1000000 in
theorem eqProduct (x : ProdG) (A_states : Option Addr) (c_states : Nat) (A_flips : Option Addr) (c_flips : Nat) (A_extra : Option Addr) (c_extra : Nat) (A_states' : Option Addr) (c_states' : Nat) (A_flips' : Option Addr) (c_flips' : Nat) (A_extra' : Option Addr) (c_extra' : Nat) (w : World) (g0 : (x.states).length ≤ c_states) (g1 : c_states ≤ 9223372036854775807) (g2 : RA shPSt w A_states x.states) (g3 : (x.flips).length ≤ c_flips) (g4 : c_flips ≤ 9223372036854775807) (g5 : RA shFlip w A_flips x.flips) (g6 : (x.extra).length ≤ c_extra) (g7 : c_extra ≤ 9223372036854775807) (g8 : RA shFlip w A_extra x.extra) (g0' : (x.states).length ≤ c_states') (g1' : c_states' ≤ 9223372036854775807) (g2' : RA shPSt w A_states' x.states) (g3' : (x.flips).length ≤ c_flips') (g4' : c_flips' ≤ 9223372036854775807) (g5' : RA shFlip w A_flips' x.flips) (g6' : (x.extra).length ≤ c_extra') (g7' : c_extra' ≤ 9223372036854775807) (g8' : RA shFlip w A_extra' x.extra) :
    Calls Tryz.prog 16 #[.agg #[.slice A_states (x.states).length c_states, .slice A_flips (x.flips).length c_flips, .slice A_extra (x.extra).length c_extra], .agg #[.slice A_states' (x.states).length c_states', .slice A_flips' (x.flips).length c_flips', .slice A_extra' (x.extra).length c_extra']] w fun e w' => e = .returned (.bool true) ∧ Below w.heap.size w w' := by
  go_enter Tryz.func16, Tryz.ntmps16
  go_wp2_with fail
  refine (eqProductStateS A_states A_states' c_states c_states' x.states _ (by omega) (RA.to g2 ?hb) (RA.to g2' ?hb2)).mono ?_
  case hb => (repeat' (first | (with_reducible exact Below.refl _ _) | (with_reducible assumption) | (with_reducible refine below_drewN' ?_ _) | (with_reducible refine Below.drew ?_) | (with_reducible refine Below.alloc ?_ ?_ _) | (with_reducible refine Below.setCell ?_ ?_ _) | (with_reducible refine Below.then_ ?_ (by assumption) ?_) | go_size))
  case hb2 => (repeat' (first | (with_reducible exact Below.refl _ _) | (with_reducible assumption) | (with_reducible refine below_drewN' ?_ _) | (with_reducible refine Below.drew ?_) | (with_reducible refine Below.alloc ?_ ?_ _) | (with_reducible refine Below.setCell ?_ ?_ _) | (with_reducible refine Below.then_ ?_ (by assumption) ?_) | go_size))
  rintro e w1 ⟨rfl, hb1⟩
  obtain ⟨hc1, hf1⟩ := bcell hb1
  have hz1 := hb1.size
  repeat (first | rw [World.size_alloc] at hz1 | rw [World.size_setCell] at hz1)
  have l1_0 : w.heap.size < w1.heap.size := by omega
  have l1_1 : w.heap.size + 1 < w1.heap.size := by omega
  go_wp2_with fail
  refine (eqWireFlipS A_flips A_flips' c_flips c_flips' x.flips _ (by omega) (RA.to g5 ?hb) (RA.to g5' ?hb2)).mono ?_
  case hb => (repeat' (first | (with_reducible exact Below.refl _ _) | (with_reducible assumption) | (with_reducible refine below_drewN' ?_ _) | (with_reducible refine Below.drew ?_) | (with_reducible refine Below.alloc ?_ ?_ _) | (with_reducible refine Below.setCell ?_ ?_ _) | (with_reducible refine Below.then_ ?_ (by assumption) ?_) | go_size))
  case hb2 => (repeat' (first | (with_reducible exact Below.refl _ _) | (with_reducible assumption) | (with_reducible refine below_drewN' ?_ _) | (with_reducible refine Below.drew ?_) | (with_reducible refine Below.alloc ?_ ?_ _) | (with_reducible refine Below.setCell ?_ ?_ _) | (with_reducible refine Below.then_ ?_ (by assumption) ?_) | go_size))
  rintro e w2 ⟨rfl, hb2⟩
  obtain ⟨hc2, hf2⟩ := bcell hb2
  have hz2 := hb2.size
  repeat (first | rw [World.size_alloc] at hz2 | rw [World.size_setCell] at hz2)
  have l2_0 : w.heap.size < w2.heap.size := by omega
  have l2_1 : w.heap.size + 1 < w2.heap.size := by omega
  go_wp2_with fail
  refine (eqWireFlipS A_extra A_extra' c_extra c_extra' x.extra _ (by omega) (RA.to g8 ?hb) (RA.to g8' ?hb2)).mono ?_
  case hb => (repeat' (first | (with_reducible exact Below.refl _ _) | (with_reducible assumption) | (with_reducible refine below_drewN' ?_ _) | (with_reducible refine Below.drew ?_) | (with_reducible refine Below.alloc ?_ ?_ _) | (with_reducible refine Below.setCell ?_ ?_ _) | (with_reducible refine Below.then_ ?_ (by assumption) ?_) | go_size))
  case hb2 => (repeat' (first | (with_reducible exact Below.refl _ _) | (with_reducible assumption) | (with_reducible refine below_drewN' ?_ _) | (with_reducible refine Below.drew ?_) | (with_reducible refine Below.alloc ?_ ?_ _) | (with_reducible refine Below.setCell ?_ ?_ _) | (with_reducible refine Below.then_ ?_ (by assumption) ?_) | go_size))
  rintro e w3 ⟨rfl, hb3⟩
  obtain ⟨hc3, hf3⟩ := bcell hb3
  have hz3 := hb3.size
  repeat (first | rw [World.size_alloc] at hz3 | rw [World.size_setCell] at hz3)
  have l3_0 : w.heap.size < w3.heap.size := by omega
  have l3_1 : w.heap.size + 1 < w3.heap.size := by omega
  go_wp2
  go_ret
  exact ⟨rfl, by (repeat' (first | (with_reducible exact Below.refl _ _) | (with_reducible assumption) | (with_reducible refine below_drewN' ?_ _) | (with_reducible refine Below.drew ?_) | (with_reducible refine Below.alloc ?_ ?_ _) | (with_reducible refine Below.setCell ?_ ?_ _) | (with_reducible refine Below.then_ ?_ (by assumption) ?_) | go_size))⟩

end Go.Proofs.YtjplbgaocmpleaaGreat.Lw
