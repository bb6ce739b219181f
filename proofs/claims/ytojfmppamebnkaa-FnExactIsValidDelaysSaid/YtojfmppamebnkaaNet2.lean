/-
  Walks of the functions on nets: markings, enabling, firing.
-/
import Derived.Test.YtojfmppamebnkaaNet
namespace Go.Proofs.Ytojfmppamebnkaa
open Go.RowKit
set_option linter.unusedVariables false

theorem body_IsValidNet_1 : HasBody Try.prog 171 := body_of Try.func171 (by kernel_rfl) rfl

theorem all_not_any {α : Type} (p : α → Bool) (l : List α) : (!l.any fun x => !p x) = l.all p := by
  induction l with
  | nil => rfl
  | cons x r ih => rw [List.any_cons, List.all_cons, ← ih]; cases p x <;> simp

set_option maxHeartbeats 1000000 in
theorem impl_IsValidNet (n : Net) (A : Option Addr) (c : Nat) (w : World) (hi : InI n.places) (h1 : n.trans.length ≤ c) (h2 : c ≤ 9223372036854775807) (hr : RA shTr w A n.trans) :
    Calls Try.prog 146 #[.agg #[.int .i64 n.places, .slice A n.trans.length c]] w fun e w' => e = .returned (.bool (goodNet n)) ∧ Below w.heap.size w w' := by
  obtain ⟨B, hB⟩ : ∃ B, inB n.places 1 30 = B := ⟨_, rfl⟩
  have HB := hide hB; clear hB
  cases B
  · go_enter Try.func146, Try.ntmps146
    go_wp2_with fail
    refine (impl_within n.places 1 30 _).mono ?_
    rintro e w1 ⟨rfl, rfl⟩
    rw [HB.out]
    go_wp2_with fail
    go_ret
    exact ⟨ret_bool (by simp [goodNet, HB.out]), by (repeat' (first | (with_reducible exact Below.refl _ _) | (with_reducible assumption) | (with_reducible refine below_drewN' ?_ _) | (with_reducible refine Below.drew ?_) | (with_reducible refine Below.alloc ?_ ?_ _) | (with_reducible refine Below.setCell ?_ ?_ _) | (with_reducible refine Below.then_ ?_ (by assumption) ?_) | go_size))⟩
  · obtain ⟨hp1, hp2⟩ := inB_iff.1 HB.out
    by_cases hlen : 24 < (n.trans.length : Int)
    · go_enter Try.func146, Try.ntmps146
      go_wp2_with fail
      refine (impl_within n.places 1 30 _).mono ?_
      rintro e w1 ⟨rfl, rfl⟩
      rw [HB.out]
      go_wp2_with fail
      go_ret
      exact ⟨ret_bool (by simp [goodNet, HB.out]; omega), by (repeat' (first | (with_reducible exact Below.refl _ _) | (with_reducible assumption) | (with_reducible refine below_drewN' ?_ _) | (with_reducible refine Below.drew ?_) | (with_reducible refine Below.alloc ?_ ?_ _) | (with_reducible refine Below.setCell ?_ ?_ _) | (with_reducible refine Below.then_ ?_ (by assumption) ?_) | go_size))⟩
    · have hlen' : decide (24 < (n.trans.length : Int)) = false := by simpa using hlen
      go_enter Try.func146, Try.ntmps146
      go_wp2_with fail
      refine (impl_within n.places 1 30 _).mono ?_
      rintro e w1 ⟨rfl, rfl⟩
      rw [HB.out]
      go_wp2_with fail
      refine (containsFunc_Tr1 A c n.trans _ (fun x => !trB n.places x) _ body_IsValidNet_1 ⟨w.heap.size, 0, none⟩ (by omega) (RA.to hr ?hb) ?hf).mono ?_
      case hb => (repeat' (first | (with_reducible exact Below.refl _ _) | (with_reducible assumption) | (with_reducible refine below_drewN' ?_ _) | (with_reducible refine Below.drew ?_) | (with_reducible refine Below.alloc ?_ ?_ _) | (with_reducible refine Below.setCell ?_ ?_ _) | (with_reducible refine Below.then_ ?_ (by assumption) ?_) | go_size))
      case hf =>
        intro W hW x hx A_pre c_pre A_post c_post g0 g1 g2 g3 g4 g5
        have hc := hW.cell (p := ⟨w.heap.size, 0, none⟩) (by simp)
        have hz := hW.size
        rw [World.size_alloc] at hz
        exact impl_IsValidNet_1 x A_pre c_pre A_post c_post w.heap.size n.places W hp1 hp2 (by omega) (by rw [hc]; simp [go_sem]) g0 g1 g2 g3 g4 g5
      rintro e w1 ⟨rfl, hb1⟩
      go_wp2
      go_ret
      exact ⟨ret_bool (by rw [all_not_any]; simp [goodNet, HB.out]; omega), by (repeat' (first | (with_reducible exact Below.refl _ _) | (with_reducible assumption) | (with_reducible refine below_drewN' ?_ _) | (with_reducible refine Below.drew ?_) | (with_reducible refine Below.alloc ?_ ?_ _) | (with_reducible refine Below.setCell ?_ ?_ _) | (with_reducible refine Below.then_ ?_ (by assumption) ?_) | go_size))⟩


set_option maxHeartbeats 1000000 in
theorem impl_isBits (s : List UInt8) (n : Int) (w : World) (hs : s.length ≤ 9223372036854775807) :
    Calls Try.prog 147 #[.string ⟨s.toArray⟩, .int .i64 n] w fun e w' => e = .returned (.bool (bitsB s n)) ∧ Below w.heap.size w w' := by
  obtain ⟨R, hR⟩ : ∃ R, goBits s = R := ⟨_, rfl⟩
  have HR := hide hR; clear hR
  go_enter Try.func147, Try.ntmps147
  go_wp2
  go_loop [5] (fun i => ∃ k : Nat, k ≤ s.length ∧ i = .int .i64 k ∧ Hid (goBits (s.drop k) = R)) (fun i => s.length - (intOf i).toNat)
  case atStart => exact ⟨0, Nat.zero_le _, rfl, HR⟩
  case round =>
    obtain ⟨k, hk, rfl, hgo⟩ := hrel
    by_cases hlt : k < s.length
    · obtain ⟨b, hx⟩ := get_of_lt hlt
      have hgo' := hgo.out
      rw [drop_get hx] at hgo'
      have HG := hide hgo'; clear hgo'
      have hbk := byte_at hx
      clear hx
      by_cases h0 : b = 48
      · have q0 : ((b.toNat : Int) != 48) = false := byte_eq' h0 rfl
        have HG2 : Hid (goBits (s.drop (k + 1)) = R) := by show _ = _; rw [← HG.out, h0]; simp [goBits]
        clear h0
        go_wp2_with fail
        go_round
        case rel => exact ⟨k + 1, by omega, by go_num, HG2⟩
        case measure => simp [intOf]; omega
      · have q0 : ((b.toNat : Int) != 48) = true := byte_ne' h0 rfl
        by_cases h1 : b = 49
        · have q1 : ((b.toNat : Int) != 49) = false := byte_eq' h1 rfl
          have HG2 : Hid (goBits (s.drop (k + 1)) = R) := by show _ = _; rw [← HG.out, h1]; simp [goBits]
          clear h0 h1
          go_wp2_with fail
          go_round
          case rel => exact ⟨k + 1, by omega, by go_num, HG2⟩
          case measure => simp [intOf]; omega
        · have q1 : ((b.toNat : Int) != 49) = true := byte_ne' h1 rfl
          have HG2 : Hid (goBits s = false) := by show _ = _; rw [HR.out, ← HG.out]; simp [goBits, h0, h1]
          clear h0 h1
          go_wp2_with fail
          go_ret
          exact ⟨ret_bool (by simp [bitsB, HG2.out]), by (repeat' (first | (with_reducible exact Below.refl _ _) | (with_reducible assumption) | (with_reducible refine below_drewN' ?_ _) | (with_reducible refine Below.drew ?_) | (with_reducible refine Below.alloc ?_ ?_ _) | (with_reducible refine Below.setCell ?_ ?_ _) | (with_reducible refine Below.then_ ?_ (by assumption) ?_) | go_size))⟩
    · have hgo' := hgo.out
      rw [drop_end hlt] at hgo'
      have HG := hide hgo'; clear hgo'
      by_cases hn : (s.length : Int) = n
      · have q0 : ((s.length : Int) == n) = true := by simpa using hn
        have HN := hide hn; clear hn
        go_wp2
        go_ret
        exact ⟨ret_bool (by unfold bitsB; rw [HR.out, ← HG.out]; simp [goBits, HN.out]), by (repeat' (first | (with_reducible exact Below.refl _ _) | (with_reducible assumption) | (with_reducible refine below_drewN' ?_ _) | (with_reducible refine Below.drew ?_) | (with_reducible refine Below.alloc ?_ ?_ _) | (with_reducible refine Below.setCell ?_ ?_ _) | (with_reducible refine Below.then_ ?_ (by assumption) ?_) | go_size))⟩
      · have q0 : ((s.length : Int) == n) = false := by simpa using hn
        go_wp2
        go_ret
        exact ⟨ret_bool (by unfold bitsB; simp [hn]), by (repeat' (first | (with_reducible exact Below.refl _ _) | (with_reducible assumption) | (with_reducible refine below_drewN' ?_ _) | (with_reducible refine Below.drew ?_) | (with_reducible refine Below.alloc ?_ ?_ _) | (with_reducible refine Below.setCell ?_ ?_ _) | (with_reducible refine Below.then_ ?_ (by assumption) ?_) | go_size))⟩
set_option maxHeartbeats 1000000 in
theorem spec_l1Mark (s : List UInt8) (n : Net) (A : Option Addr) (c : Nat) (w : World) (hs : s.length ≤ 9223372036854775807) :
    Calls Try.prog 129 #[.agg #[.int .i64 n.places, .slice A n.trans.length c], .string ⟨s.toArray⟩] w fun e w' => e = .returned (.bool (bitsB s n.places)) ∧ Below w.heap.size w w' := by
  obtain ⟨R, hR⟩ : ∃ R, goBits s = R := ⟨_, rfl⟩
  have HR := hide hR; clear hR
  go_enter Try.func129, Try.ntmps129
  go_wp2
  go_loop [5] (fun i => ∃ k : Nat, k ≤ s.length ∧ i = .int .i64 k ∧ Hid (goBits (s.drop k) = R)) (fun i => s.length - (intOf i).toNat)
  case atStart => exact ⟨0, Nat.zero_le _, rfl, HR⟩
  case round =>
    obtain ⟨k, hk, rfl, hgo⟩ := hrel
    by_cases hlt : k < s.length
    · obtain ⟨b, hx⟩ := get_of_lt hlt
      have hgo' := hgo.out
      rw [drop_get hx] at hgo'
      have HG := hide hgo'; clear hgo'
      have hbk := byte_at hx
      clear hx
      by_cases h0 : b = 48
      · have q0 : ((b.toNat : Int) != 48) = false := byte_eq' h0 rfl
        have HG2 : Hid (goBits (s.drop (k + 1)) = R) := by show _ = _; rw [← HG.out, h0]; simp [goBits]
        clear h0
        go_wp2_with fail
        go_round
        case rel => exact ⟨k + 1, by omega, by go_num, HG2⟩
        case measure => simp [intOf]; omega
      · have q0 : ((b.toNat : Int) != 48) = true := byte_ne' h0 rfl
        by_cases h1 : b = 49
        · have q1 : ((b.toNat : Int) != 49) = false := byte_eq' h1 rfl
          have HG2 : Hid (goBits (s.drop (k + 1)) = R) := by show _ = _; rw [← HG.out, h1]; simp [goBits]
          clear h0 h1
          go_wp2_with fail
          go_round
          case rel => exact ⟨k + 1, by omega, by go_num, HG2⟩
          case measure => simp [intOf]; omega
        · have q1 : ((b.toNat : Int) != 49) = true := byte_ne' h1 rfl
          have HG2 : Hid (goBits s = false) := by show _ = _; rw [HR.out, ← HG.out]; simp [goBits, h0, h1]
          clear h0 h1
          go_wp2_with fail
          go_ret
          exact ⟨ret_bool (by simp [bitsB, HG2.out]), by (repeat' (first | (with_reducible exact Below.refl _ _) | (with_reducible assumption) | (with_reducible refine below_drewN' ?_ _) | (with_reducible refine Below.drew ?_) | (with_reducible refine Below.alloc ?_ ?_ _) | (with_reducible refine Below.setCell ?_ ?_ _) | (with_reducible refine Below.then_ ?_ (by assumption) ?_) | go_size))⟩
    · have hgo' := hgo.out
      rw [drop_end hlt] at hgo'
      have HG := hide hgo'; clear hgo'
      by_cases hn : (s.length : Int) = n.places
      · have q0 : ((s.length : Int) == n.places) = true := by simpa using hn
        have HN := hide hn; clear hn
        go_wp2
        go_ret
        exact ⟨ret_bool (by unfold bitsB; rw [HR.out, ← HG.out]; simp [goBits, HN.out]), by (repeat' (first | (with_reducible exact Below.refl _ _) | (with_reducible assumption) | (with_reducible refine below_drewN' ?_ _) | (with_reducible refine Below.drew ?_) | (with_reducible refine Below.alloc ?_ ?_ _) | (with_reducible refine Below.setCell ?_ ?_ _) | (with_reducible refine Below.then_ ?_ (by assumption) ?_) | go_size))⟩
      · have q0 : ((s.length : Int) == n.places) = false := by simpa using hn
        go_wp2
        go_ret
        exact ⟨ret_bool (by unfold bitsB; simp [hn]), by (repeat' (first | (with_reducible exact Below.refl _ _) | (with_reducible assumption) | (with_reducible refine below_drewN' ?_ _) | (with_reducible refine Below.drew ?_) | (with_reducible refine Below.alloc ?_ ?_ _) | (with_reducible refine Below.setCell ?_ ?_ _) | (with_reducible refine Below.then_ ?_ (by assumption) ?_) | go_size))⟩

set_option maxHeartbeats 1000000 in
theorem impl_IsValidMarking (n : Net) (m : List UInt8) (A : Option Addr) (c : Nat) (w : World) (hi : InI n.places) (h1 : n.trans.length ≤ c) (h2 : c ≤ 9223372036854775807) (hr : RA shTr w A n.trans) (hm : m.length ≤ 9223372036854775807) :
    Calls Try.prog 100 #[.agg #[.int .i64 n.places, .slice A n.trans.length c], .string ⟨m.toArray⟩] w fun e w' => e = .returned (.bool (goodMark n m)) ∧ Below w.heap.size w w' := by
  obtain ⟨B, hB⟩ : ∃ B, goodNet n = B := ⟨_, rfl⟩
  have HB := hide hB; clear hB
  go_enter Try.func100, Try.ntmps100
  go_wp2_with fail
  refine (impl_IsValidNet n A c _ hi h1 h2 (RA.to hr ?hb)).mono ?_
  case hb => (repeat' (first | (with_reducible exact Below.refl _ _) | (with_reducible assumption) | (with_reducible refine below_drewN' ?_ _) | (with_reducible refine Below.drew ?_) | (with_reducible refine Below.alloc ?_ ?_ _) | (with_reducible refine Below.setCell ?_ ?_ _) | (with_reducible refine Below.then_ ?_ (by assumption) ?_) | go_size))
  rintro e w1 ⟨rfl, hb1⟩
  obtain ⟨hc1, hf1⟩ := bcell hb1
  have hz1 := hb1.size
  rw [World.size_alloc] at hz1
  have l0 : w.heap.size < w1.heap.size := by omega
  rw [HB.out]
  cases B
  · go_wp2_with fail
    go_ret
    exact ⟨ret_bool (by simp [goodMark, HB.out]), by (repeat' (first | (with_reducible exact Below.refl _ _) | (with_reducible assumption) | (with_reducible refine below_drewN' ?_ _) | (with_reducible refine Below.drew ?_) | (with_reducible refine Below.alloc ?_ ?_ _) | (with_reducible refine Below.setCell ?_ ?_ _) | (with_reducible refine Below.then_ ?_ (by assumption) ?_) | go_size))⟩
  · go_wp2_with fail
    refine (impl_isBits m n.places _ hm).mono ?_
    rintro e w2 ⟨rfl, hb2⟩
    go_wp2_with fail
    go_ret
    exact ⟨ret_bool (by simp [goodMark, HB.out]), by (repeat' (first | (with_reducible exact Below.refl _ _) | (with_reducible assumption) | (with_reducible refine below_drewN' ?_ _) | (with_reducible refine Below.drew ?_) | (with_reducible refine Below.alloc ?_ ?_ _) | (with_reducible refine Below.setCell ?_ ?_ _) | (with_reducible refine Below.then_ ?_ (by assumption) ?_) | go_size))⟩

/-! ### enabling -/
set_option maxHeartbeats 1000000 in
theorem impl_isEnabled_1 (p : Int) (m : List UInt8) (g : Nat) (w : World) (hp0 : 0 ≤ p) (hp1 : p < m.length) (hg : g < w.heap.size) (hc : w.cell? ⟨g, 0, none⟩ = some (.string ⟨m.toArray⟩)) :
    Calls Try.prog 186 #[.int .i64 p, .pointer (some ⟨g, 0, none⟩)] w fun e w' => e = .returned (.bool (m.getD p.toNat 0 == 48)) ∧ w' = w := by
  obtain ⟨k, rfl⟩ := Int.eq_ofNat_of_zero_le hp0
  obtain ⟨b, hx⟩ := get_of_lt (show k < m.length by omega)
  have hbk := byte_at hx
  have hg' : m.getD (k : Int).toNat 0 = b := by simp [hx]
  have HG := hide hg'
  clear hg' hx
  by_cases h0 : b = 48
  · have q0 : ((b.toNat : Int) == 48) = true := byte_eq h0 rfl
    have H0 := hide h0; clear h0
    go_enter Try.func186, Try.ntmps186
    go_wp2
    go_ret
    exact ⟨ret_bool (by rw [HG.out, H0.out]; rfl), rfl⟩
  · have q0 : ((b.toNat : Int) == 48) = false := byte_ne h0 rfl
    go_enter Try.func186, Try.ntmps186
    go_wp2
    go_ret
    exact ⟨ret_bool (by rw [HG.out]; simpa using h0), rfl⟩

theorem body_isEnabled_1 : HasBody Try.prog 186 := body_of Try.func186 (by kernel_rfl) rfl

set_option maxHeartbeats 1000000 in
theorem impl_isEnabled (x : Tr) (m : List UInt8) (A_pre : Option Addr) (c_pre : Nat) (A_post : Option Addr) (c_post : Nat) (w : World) (g0 : x.pre.length ≤ c_pre) (g1 : c_pre ≤ 9223372036854775807) (g2 : RA shInt w A_pre x.pre) (hp : PlacesIn x.pre m.length) :
    Calls Try.prog 162 #[.agg #[.slice A_pre x.pre.length c_pre, .slice A_post x.post.length c_post], .string ⟨m.toArray⟩] w fun e w' => e = .returned (.bool (enB m x)) ∧ Below w.heap.size w w' := by
  have HP := hide hp; clear hp
  go_enter Try.func162, Try.ntmps162
  go_wp2_with fail
  refine (containsFunc_int1 A_pre c_pre x.pre _ (fun p => m.getD p.toNat 0 == 48) _ body_isEnabled_1 ⟨w.heap.size + 1, 0, none⟩ (by omega) (RA.to g2 ?hb) ?hf).mono ?_
  case hb => (repeat' (first | (with_reducible exact Below.refl _ _) | (with_reducible assumption) | (with_reducible refine below_drewN' ?_ _) | (with_reducible refine Below.drew ?_) | (with_reducible refine Below.alloc ?_ ?_ _) | (with_reducible refine Below.setCell ?_ ?_ _) | (with_reducible refine Below.then_ ?_ (by assumption) ?_) | go_size))
  case hf =>
    intro W hW p hp _
    have hc := hW.cell (p := ⟨w.heap.size + 1, 0, none⟩) (by simp)
    have hz := hW.size
    repeat rw [World.size_alloc] at hz
    exact (impl_isEnabled_1 p m (w.heap.size + 1) W (HP.out p hp).1 (HP.out p hp).2 (by omega) (by rw [hc]; simp [go_sem])).mono fun e w' ⟨he, hw⟩ => ⟨he, by subst hw; exact Below.refl _ _⟩
  rintro e w1 ⟨rfl, hb1⟩
  go_wp2
  go_ret
  exact ⟨rfl, by (repeat' (first | (with_reducible exact Below.refl _ _) | (with_reducible assumption) | (with_reducible refine below_drewN' ?_ _) | (with_reducible refine Below.drew ?_) | (with_reducible refine Below.alloc ?_ ?_ _) | (with_reducible refine Below.setCell ?_ ?_ _) | (with_reducible refine Below.then_ ?_ (by assumption) ?_) | go_size))⟩
end Go.Proofs.Ytojfmppamebnkaa
