/-
  Walks of the functions on signal transition graphs: validity.
-/
import Derived.Test.YtojfmppamebnkaaNet2
import Derived.Test.YtojfmppamebnkaaFire2
import Derived.Test.YtojfmppamebnkaaStgPure
import Derived.Test.YtojfmppamebnkaaIdxStg
namespace Go.Proofs.Ytojfmppamebnkaa
open Go.RowKit
set_option linter.unusedVariables false

set_option maxHeartbeats 2000000 in
theorem impl_isName (s : List UInt8) (w : World) (hs : s.length ≤ 9223372036854775807) :
    Calls Try.prog 155 #[.string ⟨s.toArray⟩] w fun e w' => e = .returned (.bool (nameB s)) ∧ Below w.heap.size w w' := by
  obtain ⟨R, hR⟩ : ∃ R, goName 0 s = R := ⟨_, rfl⟩
  have HR := hide hR; clear hR
  go_enter Try.func155, Try.ntmps155
  go_wp2
  go_loopw [3] (fun i wr => ∃ k : Nat, k ≤ s.length ∧ i = .int .i64 k ∧ Hid (goName k (s.drop k) = R) ∧ Below w.heap.size w wr) (fun i _ => s.length - (intOf i).toNat)
  case atStart => exact ⟨0, Nat.zero_le _, rfl, HR, Below.refl _ _⟩
  case round =>
    obtain ⟨k, hk, rfl, hgo, hb⟩ := hrel
    have hsz := hb.size
    by_cases hlt : k < s.length
    · obtain ⟨b, hx⟩ := get_of_lt hlt
      have hgo' := hgo.out
      rw [drop_get hx] at hgo'
      have HG := hide hgo'; clear hgo'
      have hbk := byte_at hx
      clear hx
      by_cases hk0 : k = 0
      all_goals rcases byte_range b.toNat with h | ⟨h, h'⟩ | ⟨h, h'⟩ | ⟨h, h'⟩ | h
      all_goals (
        first | (have q1 : decide ((97 : Int) ≤ (b.toNat : Int)) = true := by simp; omega) | (have q1 : decide ((97 : Int) ≤ (b.toNat : Int)) = false := by simp; omega)
        first | (have q2 : decide ((b.toNat : Int) ≤ 122) = true := by simp; omega) | (have q2 : decide ((b.toNat : Int) ≤ 122) = false := by simp; omega)
        first | (have q3 : decide ((48 : Int) ≤ (b.toNat : Int)) = true := by simp; omega) | (have q3 : decide ((48 : Int) ≤ (b.toNat : Int)) = false := by simp; omega)
        first | (have q4 : decide ((b.toNat : Int) ≤ 57) = true := by simp; omega) | (have q4 : decide ((b.toNat : Int) ≤ 57) = false := by simp; omega)
        first | (have q5 : decide ((b.toNat : Int) < 48) = true := by simp; omega) | (have q5 : decide ((b.toNat : Int) < 48) = false := by simp; omega)
        first | (have q6 : decide ((57 : Int) < (b.toNat : Int)) = true := by simp; omega) | (have q6 : decide ((57 : Int) < (b.toNat : Int)) = false := by simp; omega)
        first | (have q0 : ((k : Int) == 0) = true := by simp; omega) | (have q0 : ((k : Int) == 0) = false := by simp; omega)
        first | (have HC : Hid (okCh (k == 0) b = true) := by show _ = _; simp [okCh]; omega) | (have HC : Hid (okCh (k == 0) b = false) := by show _ = _; simp [okCh]; omega)
        clear h hk0
        try clear h'
        go_wp2_with fail; go_quiet (fail); go_wp2_with fail
        first
          | (have HG2 : Hid (goName (k + 1) (s.drop (k + 1)) = R) := by show _ = _; rw [← HG.out]; simp [goName, HC.out]
             go_roundw
             case rel => exact ⟨k + 1, by omega, by go_num, HG2, by (repeat' (first | (with_reducible exact Below.refl _ _) | (with_reducible assumption) | (with_reducible refine below_drewN' ?_ _) | (with_reducible refine Below.drew ?_) | (with_reducible refine Below.alloc ?_ ?_ _) | (with_reducible refine Below.setCell ?_ ?_ _) | (with_reducible refine Below.then_ ?_ (by assumption) ?_) | go_size))⟩
             case measure => simp [intOf]; omega)
          | (go_ret
             exact ⟨ret_bool (by unfold nameB; rw [HR.out, ← HG.out]; simp [goName, HC.out]), by (repeat' (first | (with_reducible exact Below.refl _ _) | (with_reducible assumption) | (with_reducible refine below_drewN' ?_ _) | (with_reducible refine Below.drew ?_) | (with_reducible refine Below.alloc ?_ ?_ _) | (with_reducible refine Below.setCell ?_ ?_ _) | (with_reducible refine Below.then_ ?_ (by assumption) ?_) | go_size))⟩))
    · have hgo' := hgo.out
      rw [drop_end hlt] at hgo'
      have HG := hide hgo'; clear hgo'
      go_wp2_with fail
      refine (impl_within (s.length : Int) 1 6 _).mono ?_
      rintro e w1 ⟨rfl, rfl⟩
      go_wp2_with fail
      go_ret
      exact ⟨ret_bool (by unfold nameB; rw [HR.out, ← HG.out]; simp [goName]), by (repeat' (first | (with_reducible exact Below.refl _ _) | (with_reducible assumption) | (with_reducible refine below_drewN' ?_ _) | (with_reducible refine Below.drew ?_) | (with_reducible refine Below.alloc ?_ ?_ _) | (with_reducible refine Below.setCell ?_ ?_ _) | (with_reducible refine Below.then_ ?_ (by assumption) ?_) | go_size))⟩
set_option maxHeartbeats 2000000 in
theorem spec_l2Name (s : List UInt8) (w : World) (hs : s.length ≤ 9223372036854775807) :
    Calls Try.prog 160 #[.string ⟨s.toArray⟩] w fun e w' => e = .returned (.bool (nameB s)) ∧ Below w.heap.size w w' := by
  obtain ⟨R, hR⟩ : ∃ R, goName 0 s = R := ⟨_, rfl⟩
  have HR := hide hR; clear hR
  go_enter Try.func160, Try.ntmps160
  go_wp2
  go_loopw [3] (fun i wr => ∃ k : Nat, k ≤ s.length ∧ i = .int .i64 k ∧ Hid (goName k (s.drop k) = R) ∧ Below w.heap.size w wr) (fun i _ => s.length - (intOf i).toNat)
  case atStart => exact ⟨0, Nat.zero_le _, rfl, HR, Below.refl _ _⟩
  case round =>
    obtain ⟨k, hk, rfl, hgo, hb⟩ := hrel
    have hsz := hb.size
    by_cases hlt : k < s.length
    · obtain ⟨b, hx⟩ := get_of_lt hlt
      have hgo' := hgo.out
      rw [drop_get hx] at hgo'
      have HG := hide hgo'; clear hgo'
      have hbk := byte_at hx
      clear hx
      by_cases hk0 : k = 0
      all_goals rcases byte_range b.toNat with h | ⟨h, h'⟩ | ⟨h, h'⟩ | ⟨h, h'⟩ | h
      all_goals (
        first | (have q1 : decide ((97 : Int) ≤ (b.toNat : Int)) = true := by simp; omega) | (have q1 : decide ((97 : Int) ≤ (b.toNat : Int)) = false := by simp; omega)
        first | (have q2 : decide ((b.toNat : Int) ≤ 122) = true := by simp; omega) | (have q2 : decide ((b.toNat : Int) ≤ 122) = false := by simp; omega)
        first | (have q3 : decide ((48 : Int) ≤ (b.toNat : Int)) = true := by simp; omega) | (have q3 : decide ((48 : Int) ≤ (b.toNat : Int)) = false := by simp; omega)
        first | (have q4 : decide ((b.toNat : Int) ≤ 57) = true := by simp; omega) | (have q4 : decide ((b.toNat : Int) ≤ 57) = false := by simp; omega)
        first | (have q5 : decide ((b.toNat : Int) < 48) = true := by simp; omega) | (have q5 : decide ((b.toNat : Int) < 48) = false := by simp; omega)
        first | (have q6 : decide ((57 : Int) < (b.toNat : Int)) = true := by simp; omega) | (have q6 : decide ((57 : Int) < (b.toNat : Int)) = false := by simp; omega)
        first | (have q0 : ((k : Int) == 0) = true := by simp; omega) | (have q0 : ((k : Int) == 0) = false := by simp; omega)
        first | (have HC : Hid (okCh (k == 0) b = true) := by show _ = _; simp [okCh]; omega) | (have HC : Hid (okCh (k == 0) b = false) := by show _ = _; simp [okCh]; omega)
        clear h hk0
        try clear h'
        go_wp2_with fail
        first
          | (have HG2 : Hid (goName (k + 1) (s.drop (k + 1)) = R) := by show _ = _; rw [← HG.out]; simp [goName, HC.out]
             go_roundw
             case rel => exact ⟨k + 1, by omega, by go_num, HG2, by (repeat' (first | (with_reducible exact Below.refl _ _) | (with_reducible assumption) | (with_reducible refine below_drewN' ?_ _) | (with_reducible refine Below.drew ?_) | (with_reducible refine Below.alloc ?_ ?_ _) | (with_reducible refine Below.setCell ?_ ?_ _) | (with_reducible refine Below.then_ ?_ (by assumption) ?_) | go_size))⟩
             case measure => simp [intOf]; omega)
          | (go_ret
             exact ⟨ret_bool (by unfold nameB; rw [HR.out, ← HG.out]; simp [goName, HC.out]), by (repeat' (first | (with_reducible exact Below.refl _ _) | (with_reducible assumption) | (with_reducible refine below_drewN' ?_ _) | (with_reducible refine Below.drew ?_) | (with_reducible refine Below.alloc ?_ ?_ _) | (with_reducible refine Below.setCell ?_ ?_ _) | (with_reducible refine Below.then_ ?_ (by assumption) ?_) | go_size))⟩))
    · have hgo' := hgo.out
      rw [drop_end hlt] at hgo'
      have HG := hide hgo'; clear hgo'
      go_wp2_with fail
      refine (spec_l1In (s.length : Int) 1 6 _).mono ?_
      rintro e w1 ⟨rfl, rfl⟩
      go_wp2_with fail
      go_ret
      exact ⟨ret_bool (by unfold nameB; rw [HR.out, ← HG.out]; simp [goName]), by (repeat' (first | (with_reducible exact Below.refl _ _) | (with_reducible assumption) | (with_reducible refine below_drewN' ?_ _) | (with_reducible refine Below.drew ?_) | (with_reducible refine Below.alloc ?_ ?_ _) | (with_reducible refine Below.setCell ?_ ?_ _) | (with_reducible refine Below.then_ ?_ (by assumption) ?_) | go_size))⟩
end Go.Proofs.Ytojfmppamebnkaa
