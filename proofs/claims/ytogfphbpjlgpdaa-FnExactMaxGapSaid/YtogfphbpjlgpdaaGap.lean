/-
  Walks of MaxGap's functions.
-/
import Derived.Test.YtogfphbpjlgpdaaRows
import Derived.Test.YtogfphbpjlgpdaaData
namespace Go.Proofs.Ytogfphbpjlgpdaa
open Go.RowKit

def goTimes : Int → List TF → Bool
  | _, [] => true
  | p, x :: r => !decide (x.at_ < 0) && !decide (x.at_ < p) && goTimes x.at_ r
def areTimes (l : List TF) : Bool := goTimes 0 l && decide (l.length ≤ 60)

set_option maxHeartbeats 1000000 in
theorem impl_areTimes (A : Option Addr) (c : Nat) (l : List TF) (w : World) (hl : l.length ≤ 1048576) (hr : RA shTF w A l) :
    Calls Try.prog 35 #[.slice A l.length c] w fun e w' => e = .returned (.bool (areTimes l)) ∧ Below w.heap.size w w' := by
  obtain ⟨R, hR⟩ : ∃ R, goTimes 0 l = R := ⟨_, rfl⟩
  have HR := hide hR; clear hR
  go_enter Try.func35, Try.ntmps35
  go_wp2
  go_loopw [7, 3, 4] (fun i _ _ wr => ∃ (k : Nat) (p : Int), k ≤ l.length ∧ i = .int .i64 k ∧ Hid (goTimes p (l.drop k) = R) ∧ Hid ((k = 0 → p = 0) ∧ (0 < k → ∃ y, l[k - 1]? = some y ∧ p = y.at_)) ∧ Below w.heap.size w wr) (fun i _ _ _ => l.length - (intOf i).toNat)
  case atStart => exact ⟨0, 0, Nat.zero_le _, rfl, HR, ⟨fun _ => rfl, fun h => absurd h (by omega)⟩, Below.refl _ _⟩
  case round =>
    obtain ⟨k, p, hk, rfl, hgo, hp, hb⟩ := hrel
    have hsz := hb.size
    by_cases hlt : k < l.length
    · obtain ⟨x, hx⟩ := get_of_lt hlt
      have hd := drop_get hx
      obtain ⟨b, off, rfl, hbl, h1, h2, ix, _⟩ := hr.TF_at hb hx
      have HX := hide hx; clear hx
      have Hd := hide hd; clear hd
      by_cases hz : x.at_ < 0
      · go_wp2_with fail
        go_quiet (fail)
        go_wp2_with fail
        go_ret
        have e1 := hgo.out
        rw [Hd.out] at e1
        exact ⟨by simp [areTimes, HR.out, ← e1, goTimes, hz], by (repeat' (first | (with_reducible exact Below.refl _ _) | (with_reducible assumption) | (with_reducible refine below_drewN' ?_ _) | (with_reducible refine Below.drew ?_) | (with_reducible refine Below.alloc ?_ ?_ _) | (with_reducible refine Below.setCell ?_ ?_ _) | go_size))⟩
      · have hz' : decide (x.at_ < 0) = false := by simpa using hz
        by_cases h0 : 0 < k
        · have h0' : (0 : Int) < k := by omega
          obtain ⟨y, hy, rfl⟩ := hp.out.2 h0
          obtain ⟨b', off', e1, _, h3, h4, iy, _⟩ := hr.TF_at hb hy
          simp only [Option.some.injEq, Addr.mk.injEq, and_true] at e1
          obtain ⟨rfl, rfl⟩ := e1
          have HY := hide hy; clear hy
          have q1 : IntKind.i64.wrap ((k : Int) - 1) = (k : Int) - 1 := IntWalk.i64_in _ (by omega)
          have q2 : (1 : Int) ≤ (k : Int) := by omega
          have q3 : (k : Int) - 1 < (l.length : Int) := by omega
          have q4 : ((k : Int) - 1).toNat = k - 1 := by omega
          by_cases hq : x.at_ < y.at_
          · go_wp2_with fail
            go_quiet (fail)
            go_wp2_with fail
            go_ret
            have e1 := hgo.out
            rw [Hd.out] at e1
            exact ⟨by simp [areTimes, HR.out, ← e1, goTimes, hq], by (repeat' (first | (with_reducible exact Below.refl _ _) | (with_reducible assumption) | (with_reducible refine below_drewN' ?_ _) | (with_reducible refine Below.drew ?_) | (with_reducible refine Below.alloc ?_ ?_ _) | (with_reducible refine Below.setCell ?_ ?_ _) | go_size))⟩
          · have hq' : decide (x.at_ < y.at_) = false := by simpa using hq
            go_wp2_with fail
            go_quiet (fail)
            go_wp2_with fail
            go_roundw
            case rel =>
              have e1 := hgo.out
              rw [Hd.out] at e1
              exact ⟨k + 1, x.at_, by omega, by go_num, hide (by simpa [goTimes, hz', hq'] using e1), ⟨fun h => absurd h (by omega), fun _ => ⟨x, by simpa using HX.out, rfl⟩⟩, by (repeat' (first | (with_reducible exact Below.refl _ _) | (with_reducible assumption) | (with_reducible refine below_drewN' ?_ _) | (with_reducible refine Below.drew ?_) | (with_reducible refine Below.alloc ?_ ?_ _) | (with_reducible refine Below.setCell ?_ ?_ _) | go_size))⟩
            case measure => simp [intOf]; omega
        · have h0' : decide ((0 : Int) < k) = false := by simp; omega
          have hp0 := hp.out.1 (by omega)
          go_wp2_with fail
          go_quiet (fail)
          go_wp2_with fail
          go_roundw
          case rel =>
            have e1 := hgo.out
            rw [Hd.out] at e1
            exact ⟨k + 1, x.at_, by omega, by go_num, hide (by simpa [goTimes, hz', hp0] using e1), ⟨fun h => absurd h (by omega), fun _ => ⟨x, by simpa using HX.out, rfl⟩⟩, by (repeat' (first | (with_reducible exact Below.refl _ _) | (with_reducible assumption) | (with_reducible refine below_drewN' ?_ _) | (with_reducible refine Below.drew ?_) | (with_reducible refine Below.alloc ?_ ?_ _) | (with_reducible refine Below.setCell ?_ ?_ _) | go_size))⟩
          case measure => simp [intOf]; omega
    · have hgo' := hgo.out
      rw [drop_end hlt] at hgo'
      have HG := hide hgo'; clear hgo'
      go_wp2
      go_ret
      exact ⟨ret_bool (by simp [areTimes, HR.out, ← HG.out, goTimes]; omega), by (repeat' (first | (with_reducible exact Below.refl _ _) | (with_reducible assumption) | (with_reducible refine below_drewN' ?_ _) | (with_reducible refine Below.drew ?_) | (with_reducible refine Below.alloc ?_ ?_ _) | (with_reducible refine Below.setCell ?_ ?_ _) | go_size))⟩
set_option maxHeartbeats 1000000 in
theorem spec_l23Times (A : Option Addr) (c : Nat) (l : List TF) (w : World) (hl : l.length ≤ 1048576) (hr : RA shTF w A l) :
    Calls Try.prog 32 #[.slice A l.length c] w fun e w' => e = .returned (.bool (areTimes l)) ∧ Below w.heap.size w w' := by
  obtain ⟨R, hR⟩ : ∃ R, goTimes 0 l = R := ⟨_, rfl⟩
  have HR := hide hR; clear hR
  go_enter Try.func32, Try.ntmps32
  go_wp2
  go_loopw [7, 3, 4] (fun i _ _ wr => ∃ (k : Nat) (p : Int), k ≤ l.length ∧ i = .int .i64 k ∧ Hid (goTimes p (l.drop k) = R) ∧ Hid ((k = 0 → p = 0) ∧ (0 < k → ∃ y, l[k - 1]? = some y ∧ p = y.at_)) ∧ Below w.heap.size w wr) (fun i _ _ _ => l.length - (intOf i).toNat)
  case atStart => exact ⟨0, 0, Nat.zero_le _, rfl, HR, ⟨fun _ => rfl, fun h => absurd h (by omega)⟩, Below.refl _ _⟩
  case round =>
    obtain ⟨k, p, hk, rfl, hgo, hp, hb⟩ := hrel
    have hsz := hb.size
    by_cases hlt : k < l.length
    · obtain ⟨x, hx⟩ := get_of_lt hlt
      have hd := drop_get hx
      obtain ⟨b, off, rfl, hbl, h1, h2, ix, _⟩ := hr.TF_at hb hx
      have HX := hide hx; clear hx
      have Hd := hide hd; clear hd
      by_cases hz : x.at_ < 0
      · go_wp2_with fail
        go_quiet (fail)
        go_wp2_with fail
        go_ret
        have e1 := hgo.out
        rw [Hd.out] at e1
        exact ⟨by simp [areTimes, HR.out, ← e1, goTimes, hz], by (repeat' (first | (with_reducible exact Below.refl _ _) | (with_reducible assumption) | (with_reducible refine below_drewN' ?_ _) | (with_reducible refine Below.drew ?_) | (with_reducible refine Below.alloc ?_ ?_ _) | (with_reducible refine Below.setCell ?_ ?_ _) | go_size))⟩
      · have hz' : decide (x.at_ < 0) = false := by simpa using hz
        by_cases h0 : 0 < k
        · have h0' : (0 : Int) < k := by omega
          obtain ⟨y, hy, rfl⟩ := hp.out.2 h0
          obtain ⟨b', off', e1, _, h3, h4, iy, _⟩ := hr.TF_at hb hy
          simp only [Option.some.injEq, Addr.mk.injEq, and_true] at e1
          obtain ⟨rfl, rfl⟩ := e1
          have HY := hide hy; clear hy
          have q1 : IntKind.i64.wrap ((k : Int) - 1) = (k : Int) - 1 := IntWalk.i64_in _ (by omega)
          have q2 : (1 : Int) ≤ (k : Int) := by omega
          have q3 : (k : Int) - 1 < (l.length : Int) := by omega
          have q4 : ((k : Int) - 1).toNat = k - 1 := by omega
          by_cases hq : x.at_ < y.at_
          · go_wp2_with fail
            go_quiet (fail)
            go_wp2_with fail
            go_ret
            have e1 := hgo.out
            rw [Hd.out] at e1
            exact ⟨by simp [areTimes, HR.out, ← e1, goTimes, hq], by (repeat' (first | (with_reducible exact Below.refl _ _) | (with_reducible assumption) | (with_reducible refine below_drewN' ?_ _) | (with_reducible refine Below.drew ?_) | (with_reducible refine Below.alloc ?_ ?_ _) | (with_reducible refine Below.setCell ?_ ?_ _) | go_size))⟩
          · have hq' : decide (x.at_ < y.at_) = false := by simpa using hq
            go_wp2_with fail
            go_quiet (fail)
            go_wp2_with fail
            go_roundw
            case rel =>
              have e1 := hgo.out
              rw [Hd.out] at e1
              exact ⟨k + 1, x.at_, by omega, by go_num, hide (by simpa [goTimes, hz', hq'] using e1), ⟨fun h => absurd h (by omega), fun _ => ⟨x, by simpa using HX.out, rfl⟩⟩, by (repeat' (first | (with_reducible exact Below.refl _ _) | (with_reducible assumption) | (with_reducible refine below_drewN' ?_ _) | (with_reducible refine Below.drew ?_) | (with_reducible refine Below.alloc ?_ ?_ _) | (with_reducible refine Below.setCell ?_ ?_ _) | go_size))⟩
            case measure => simp [intOf]; omega
        · have h0' : decide ((0 : Int) < k) = false := by simp; omega
          have hp0 := hp.out.1 (by omega)
          go_wp2_with fail
          go_quiet (fail)
          go_wp2_with fail
          go_roundw
          case rel =>
            have e1 := hgo.out
            rw [Hd.out] at e1
            exact ⟨k + 1, x.at_, by omega, by go_num, hide (by simpa [goTimes, hz', hp0] using e1), ⟨fun h => absurd h (by omega), fun _ => ⟨x, by simpa using HX.out, rfl⟩⟩, by (repeat' (first | (with_reducible exact Below.refl _ _) | (with_reducible assumption) | (with_reducible refine below_drewN' ?_ _) | (with_reducible refine Below.drew ?_) | (with_reducible refine Below.alloc ?_ ?_ _) | (with_reducible refine Below.setCell ?_ ?_ _) | go_size))⟩
          case measure => simp [intOf]; omega
    · have hgo' := hgo.out
      rw [drop_end hlt] at hgo'
      have HG := hide hgo'; clear hgo'
      go_wp2
      go_ret
      exact ⟨ret_bool (by simp [areTimes, HR.out, ← HG.out, goTimes]; omega), by (repeat' (first | (with_reducible exact Below.refl _ _) | (with_reducible assumption) | (with_reducible refine below_drewN' ?_ _) | (with_reducible refine Below.drew ?_) | (with_reducible refine Below.alloc ?_ ?_ _) | (with_reducible refine Below.setCell ?_ ?_ _) | go_size))⟩

theorem goTimes_nonneg : ∀ (l : List TF) (p : Int), goTimes p l = true → ∀ (k : Nat) (x : TF), l[k]? = some x → 0 ≤ x.at_
  | [], _, _, k, x, hx => by simp at hx
  | y :: r, p, h, k, x, hx => by
    simp [goTimes] at h
    cases k with
    | zero => simp at hx; subst hx; omega
    | succ k => exact goTimes_nonneg r y.at_ h.2 k x (by simpa using hx)
theorem areTimes_nonneg {l : List TF} (h : areTimes l = true) {k : Nat} {x : TF} (hx : l[k]? = some x) : 0 ≤ x.at_ := by
  simp [areTimes] at h
  exact goTimes_nonneg l 0 h.1 k x hx

def mx (a b : Int) : Int := if a < b then b else a
def gapGo : Int → Int → List TF → Int
  | m, _, [] => m
  | m, p, x :: r => gapGo (mx m (x.at_ - p)) x.at_ r
def gap : List TF → Int
  | [] => 0
  | x :: r => gapGo 0 x.at_ r
def maxGap (l : List TF) : Int × Bool := if areTimes l then (gap l, true) else (0, false)
/-- What the loop of MaxGap has come to. -/
def GapAt (l : List TF) (k : Nat) (m : Int) : Prop := 1 ≤ k ∧ ((l = [] ∧ m = 0) ∨ (k ≤ l.length ∧ ∃ y, l[k - 1]? = some y ∧ gapGo m y.at_ (l.drop k) = gap l))


set_option maxHeartbeats 400000 in
theorem spec_l1Most (a b : Int) (w : World) : Calls Try.prog 33 #[.int .i64 a, .int .i64 b] w fun e w' => e = .returned (.int .i64 (mx a b)) ∧ w' = w := by
  by_cases h : b < a
  · go_enter Try.func33, Try.ntmps33
    go_wp2
    go_ret
    exact ⟨ret_int (by unfold mx; rw [if_neg (by omega)]), rfl⟩
  · go_enter Try.func33, Try.ntmps33
    go_wp2
    go_ret
    exact ⟨ret_int (by unfold mx; split <;> omega), rfl⟩

set_option maxHeartbeats 1000000 in
theorem impl_MaxGap (A : Option Addr) (c : Nat) (l : List TF) (w : World) (hl : l.length ≤ 1048576) (hr : RA shTF w A l) :
    Calls Try.prog 11 #[.slice A l.length c] w fun e w' => e = .returned (.tuple #[.int .i64 (maxGap l).1, .bool (maxGap l).2]) ∧ Below w.heap.size w w' := by
  obtain ⟨T, hT⟩ : ∃ T, areTimes l = T := ⟨_, rfl⟩
  have HT := hide hT
  cases T
  · clear hT
    go_enter Try.func11, Try.ntmps11
    go_wp2_with fail
    refine (impl_areTimes A c l w hl hr).mono ?_
    rintro e w1 ⟨rfl, hb1⟩
    rw [HT.out]
    go_wp2_with fail
    go_ret2
    exact ⟨ret_int_bool (by simp [maxGap, HT.out]) (by simp [maxGap, HT.out]), hb1⟩
  · clear hT
    go_enter Try.func11, Try.ntmps11
    go_wp2_with fail
    refine (impl_areTimes A c l w hl hr).mono ?_
    rintro e w1 ⟨rfl, hb1⟩
    rw [HT.out]
    go_wp2_with fail
    go_loopw [5, 4] (fun i m wr => ∃ (k : Nat) (n : Int), i = .int .i64 k ∧ m = .int .i64 n ∧ Hid (GapAt l k n) ∧ k ≤ 1048577 ∧ Below w.heap.size w wr) (fun i _ _ => l.length + 1 - (intOf i).toNat)
    case atStart =>
      refine ⟨1, 0, rfl, rfl, hide ⟨by omega, ?_⟩, by omega, hb1⟩
      cases l with
      | nil => exact .inl ⟨rfl, rfl⟩
      | cons x r => exact .inr ⟨by simp, x, rfl, rfl⟩
    case round =>
      obtain ⟨k, n, rfl, rfl, hg, hk, hb⟩ := hrel
      have hsz := hb.size
      by_cases hlt : k < l.length
      · obtain ⟨x, hx⟩ := get_of_lt hlt
        have Hd := hide (drop_get hx)
        obtain ⟨h0, hg'⟩ := hg.out
        obtain ⟨_, y, hy, hgo⟩ := hg'.resolve_left (by rintro ⟨rfl, _⟩; simp at hlt)
        have nx := areTimes_nonneg HT.out hx
        have ny := areTimes_nonneg HT.out hy
        obtain ⟨b, off, rfl, hbl, h1, h2, ix, _⟩ := hr.TF_at hb hx
        obtain ⟨b', off', e1, _, h3, h4, iy, _⟩ := hr.TF_at hb hy
        simp only [Option.some.injEq, Addr.mk.injEq, and_true] at e1
        obtain ⟨rfl, rfl⟩ := e1
        have HG := hide hgo; clear hgo hg'
        have HX := hide hx; clear hx
        have HY := hide hy; clear hy
        obtain ⟨ix1, ix2⟩ := ix
        obtain ⟨iy1, iy2⟩ := iy
        have q1 : IntKind.i64.wrap ((k : Int) - 1) = (k : Int) - 1 := IntWalk.i64_in _ (by omega)
        have q2 : (1 : Int) ≤ (k : Int) := by omega
        have q3 : (k : Int) - 1 < (l.length : Int) := by omega
        have q4 : ((k : Int) - 1).toNat = k - 1 := by omega
        have q5 : IntKind.i64.wrap (x.at_ - y.at_) = x.at_ - y.at_ := IntWalk.i64_in _ (by omega)
        go_wp2_with fail
        go_quiet (fail)
        go_wp2_with fail
        go_roundw
        case rel =>
          have e1 := HG.out
          rw [Hd.out] at e1
          exact ⟨k + 1, _, by go_num, rfl, hide ⟨by omega, .inr ⟨by omega, x, by simpa using HX.out, e1⟩⟩, by omega, by (repeat' (first | (with_reducible exact Below.refl _ _) | (with_reducible assumption) | (with_reducible refine below_drewN' ?_ _) | (with_reducible refine Below.drew ?_) | (with_reducible refine Below.alloc ?_ ?_ _) | (with_reducible refine Below.setCell ?_ ?_ _) | go_size))⟩
        case measure => simp [intOf]; omega
      · have hg' := hg.out.2
        have hm : n = gap l := by
          rcases hg' with ⟨rfl, rfl⟩ | ⟨_, y, _, hgo⟩
          · rfl
          · rw [drop_end hlt] at hgo; exact hgo
        clear hg'
        have HM := hide hm; clear hm
        go_wp2
        go_ret2
        exact ⟨ret_int_bool (by simp [maxGap, HT.out, HM.out]) (by simp [maxGap, HT.out]), by (repeat' (first | (with_reducible exact Below.refl _ _) | (with_reducible assumption) | (with_reducible refine below_drewN' ?_ _) | (with_reducible refine Below.drew ?_) | (with_reducible refine Below.alloc ?_ ?_ _) | (with_reducible refine Below.setCell ?_ ?_ _) | go_size))⟩
set_option maxHeartbeats 1000000 in
theorem spec_MaxGap (A : Option Addr) (c : Nat) (l : List TF) (w : World) (hl : l.length ≤ 1048576) (hr : RA shTF w A l) :
    Calls Try.prog 9 #[.slice A l.length c] w fun e w' => e = .returned (.tuple #[.int .i64 (maxGap l).1, .bool (maxGap l).2]) ∧ Below w.heap.size w w' := by
  obtain ⟨T, hT⟩ : ∃ T, areTimes l = T := ⟨_, rfl⟩
  have HT := hide hT
  cases T
  · clear hT
    go_enter Try.func9, Try.ntmps9
    go_wp2_with fail
    refine (spec_l23Times A c l w hl hr).mono ?_
    rintro e w1 ⟨rfl, hb1⟩
    rw [HT.out]
    go_wp2_with fail
    go_ret2
    exact ⟨ret_int_bool (by simp [maxGap, HT.out]) (by simp [maxGap, HT.out]), hb1⟩
  · clear hT
    go_enter Try.func9, Try.ntmps9
    go_wp2_with fail
    refine (spec_l23Times A c l w hl hr).mono ?_
    rintro e w1 ⟨rfl, hb1⟩
    rw [HT.out]
    go_wp2_with fail
    go_loopw [5, 4] (fun i m wr => ∃ (k : Nat) (n : Int), i = .int .i64 k ∧ m = .int .i64 n ∧ Hid (GapAt l k n) ∧ k ≤ 1048577 ∧ Below w.heap.size w wr) (fun i _ _ => l.length + 1 - (intOf i).toNat)
    case atStart =>
      refine ⟨1, 0, rfl, rfl, hide ⟨by omega, ?_⟩, by omega, hb1⟩
      cases l with
      | nil => exact .inl ⟨rfl, rfl⟩
      | cons x r => exact .inr ⟨by simp, x, rfl, rfl⟩
    case round =>
      obtain ⟨k, n, rfl, rfl, hg, hk, hb⟩ := hrel
      have hsz := hb.size
      by_cases hlt : k < l.length
      · obtain ⟨x, hx⟩ := get_of_lt hlt
        have Hd := hide (drop_get hx)
        obtain ⟨h0, hg'⟩ := hg.out
        obtain ⟨_, y, hy, hgo⟩ := hg'.resolve_left (by rintro ⟨rfl, _⟩; simp at hlt)
        have nx := areTimes_nonneg HT.out hx
        have ny := areTimes_nonneg HT.out hy
        obtain ⟨b, off, rfl, hbl, h1, h2, ix, _⟩ := hr.TF_at hb hx
        obtain ⟨b', off', e1, _, h3, h4, iy, _⟩ := hr.TF_at hb hy
        simp only [Option.some.injEq, Addr.mk.injEq, and_true] at e1
        obtain ⟨rfl, rfl⟩ := e1
        have HG := hide hgo; clear hgo hg'
        have HX := hide hx; clear hx
        have HY := hide hy; clear hy
        obtain ⟨ix1, ix2⟩ := ix
        obtain ⟨iy1, iy2⟩ := iy
        have q1 : IntKind.i64.wrap ((k : Int) - 1) = (k : Int) - 1 := IntWalk.i64_in _ (by omega)
        have q2 : (1 : Int) ≤ (k : Int) := by omega
        have q3 : (k : Int) - 1 < (l.length : Int) := by omega
        have q4 : ((k : Int) - 1).toNat = k - 1 := by omega
        have q5 : IntKind.i64.wrap (x.at_ - y.at_) = x.at_ - y.at_ := IntWalk.i64_in _ (by omega)
        go_wp2_with fail
        go_quiet ((go_at_call 33; exact Calls.quiet_of_same (spec_l1Most _ _ _)))
        go_wp2_with fail
        go_roundw
        case rel =>
          have e1 := HG.out
          rw [Hd.out] at e1
          exact ⟨k + 1, _, by go_num, rfl, hide ⟨by omega, .inr ⟨by omega, x, by simpa using HX.out, e1⟩⟩, by omega, by (repeat' (first | (with_reducible exact Below.refl _ _) | (with_reducible assumption) | (with_reducible refine below_drewN' ?_ _) | (with_reducible refine Below.drew ?_) | (with_reducible refine Below.alloc ?_ ?_ _) | (with_reducible refine Below.setCell ?_ ?_ _) | go_size))⟩
        case measure => simp [intOf]; omega
      · have hg' := hg.out.2
        have hm : n = gap l := by
          rcases hg' with ⟨rfl, rfl⟩ | ⟨_, y, _, hgo⟩
          · rfl
          · rw [drop_end hlt] at hgo; exact hgo
        clear hg'
        have HM := hide hm; clear hm
        go_wp2
        go_ret2
        exact ⟨ret_int_bool (by simp [maxGap, HT.out, HM.out]) (by simp [maxGap, HT.out]), by (repeat' (first | (with_reducible exact Below.refl _ _) | (with_reducible assumption) | (with_reducible refine below_drewN' ?_ _) | (with_reducible refine Below.drew ?_) | (with_reducible refine Below.alloc ?_ ?_ _) | (with_reducible refine Below.setCell ?_ ?_ _) | go_size))⟩
end Go.Proofs.Ytogfphbpjlgpdaa
