/-
  Walks of the functions on nets (the program's and the reference's): validity.
-/
import Derived.Test.YtojfmppamebnkaaRows
import Derived.Test.YtojfmppamebnkaaNetPure
namespace Go.Proofs.Ytojfmppamebnkaa
open Go.RowKit
set_option linter.unusedVariables false

set_option maxHeartbeats 400000 in
theorem impl_within (n lo hi : Int) (w : World) : Calls Try.prog 91 #[.int .i64 n, .int .i64 lo, .int .i64 hi] w fun e w' => e = .returned (.bool (inB n lo hi)) ∧ w' = w := by
  by_cases a : lo ≤ n
  · by_cases b : n ≤ hi
    · go_enter Try.func91, Try.ntmps91
      go_wp2
      go_ret
      exact ⟨ret_bool (by simp [inB, a, b]), rfl⟩
    · have b' : decide (n ≤ hi) = false := by simpa using b
      go_enter Try.func91, Try.ntmps91
      go_wp2
      go_ret
      exact ⟨ret_bool (by simp [inB, b']), rfl⟩
  · have a' : decide (lo ≤ n) = false := by simpa using a
    go_enter Try.func91, Try.ntmps91
    go_wp2
    go_ret
    exact ⟨ret_bool (by simp [inB, a']), rfl⟩
set_option maxHeartbeats 400000 in
theorem spec_l1In (n lo hi : Int) (w : World) : Calls Try.prog 116 #[.int .i64 n, .int .i64 lo, .int .i64 hi] w fun e w' => e = .returned (.bool (inB n lo hi)) ∧ w' = w := by
  by_cases a : lo ≤ n
  · by_cases b : n ≤ hi
    · go_enter Try.func116, Try.ntmps116
      go_wp2
      go_ret
      exact ⟨ret_bool (by simp [inB, a, b]), rfl⟩
    · have b' : decide (n ≤ hi) = false := by simpa using b
      go_enter Try.func116, Try.ntmps116
      go_wp2
      go_ret
      exact ⟨ret_bool (by simp [inB, b']), rfl⟩
  · have a' : decide (lo ≤ n) = false := by simpa using a
    go_enter Try.func116, Try.ntmps116
    go_wp2
    go_ret
    exact ⟨ret_bool (by simp [inB, a']), rfl⟩

set_option maxHeartbeats 1000000 in
theorem impl_isIncreasing (A : Option Addr) (c : Nat) (l : List Int) (n : Int) (w : World) (hl : l.length ≤ 9223372036854775807) (hn : -9223372036854775807 ≤ n ∧ n ≤ 9223372036854775807) (hr : RA shInt w A l) :
    Calls Try.prog 172 #[.slice A l.length c, .int .i64 n] w fun e w' => e = .returned (.bool (incB (n - 1) l)) ∧ w' = w := by
  obtain ⟨R, hR⟩ : ∃ R, incB (n - 1) l = R := ⟨_, rfl⟩
  have HR := hide hR; clear hR
  go_enter Try.func172, Try.ntmps172
  go_wp2
  go_loop [9, 5, 6] (fun i _ _ => ∃ (k : Nat) (p : Int), k ≤ l.length ∧ i = .int .i64 k ∧ Hid (goInc (n - 1) p (l.drop k) = R) ∧ Hid ((k = 0 → p = -1) ∧ (0 < k → l[k - 1]? = some p))) (fun i _ _ => l.length - (intOf i).toNat)
  case atStart => exact ⟨0, -1, Nat.zero_le _, rfl, HR, ⟨fun _ => rfl, fun h => absurd h (by omega)⟩⟩
  case round =>
    obtain ⟨k, p, hk, rfl, hgo, hp⟩ := hrel
    by_cases hlt : k < l.length
    · obtain ⟨x, hx⟩ := get_of_lt hlt
      obtain ⟨b, off, rfl, hbl, h1, ix⟩ := hr.int_at (Below.refl _ _) hx
      have hgo' := hgo.out
      rw [drop_get hx] at hgo'
      have HG := hide hgo'; clear hgo'
      have HX := hide hx; clear hx
      obtain ⟨B, hB⟩ : ∃ B, inB x 0 (n - 1) = B := ⟨_, rfl⟩
      have HB := hide hB; clear hB
      cases B
      · go_wp2_with (go_at_call 91; refine (impl_within _ _ _ _).mono ?_; rintro e w' ⟨rfl, rfl⟩; rw [HB.out])
        go_ret
        exact ⟨ret_bool (by rw [HR.out, ← HG.out]; simp [goInc, HB.out]), rfl⟩
      · by_cases h0 : 0 < k
        · have h0' : (0 : Int) < k := by omega
          have hy := hp.out.2 h0
          obtain ⟨b', off', e1, _, h3, iy⟩ := hr.int_at (Below.refl _ _) hy
          simp only [Option.some.injEq, Addr.mk.injEq, and_true] at e1
          obtain ⟨rfl, rfl⟩ := e1
          clear hy
          have q1 : IntKind.i64.wrap ((k : Int) - 1) = (k : Int) - 1 := IntWalk.i64_in _ (by omega)
          have q2 : (1 : Int) ≤ (k : Int) := by omega
          have q3 : (k : Int) - 1 < (l.length : Int) := by omega
          have q4 : ((k : Int) - 1).toNat = k - 1 := by omega
          by_cases hq : x ≤ p
          · go_wp2_with (go_at_call 91; refine (impl_within _ _ _ _).mono ?_; rintro e w' ⟨rfl, rfl⟩; rw [HB.out])
            go_ret
            exact ⟨ret_bool (by rw [HR.out, ← HG.out]; simp [goInc, HB.out]; omega), rfl⟩
          · have hq' : decide (x ≤ p) = false := by simpa using hq
            have HG2 : Hid (goInc (n - 1) x (l.drop (k + 1)) = R) := by show _ = _; rw [← HG.out]; simp [goInc, HB.out]; omega
            go_wp2_with (go_at_call 91; refine (impl_within _ _ _ _).mono ?_; rintro e w' ⟨rfl, rfl⟩; rw [HB.out])
            go_round
            case rel => exact ⟨k + 1, x, by omega, by go_num, HG2, ⟨fun h => absurd h (by omega), fun _ => HX.out⟩⟩
            case measure => simp [intOf]; omega
        · have h0' : decide ((0 : Int) < k) = false := by simp; omega
          have hp0 := hp.out.1 (by omega)
          have HG2 : Hid (goInc (n - 1) x (l.drop (k + 1)) = R) := by show _ = _; rw [← HG.out]; simp [goInc, HB.out, hp0]; have := (inB_iff.1 HB.out).1; omega
          clear hp0
          go_wp2_with (go_at_call 91; refine (impl_within _ _ _ _).mono ?_; rintro e w' ⟨rfl, rfl⟩; rw [HB.out])
          go_round
          case rel => exact ⟨k + 1, x, by omega, by go_num, HG2, ⟨fun h => absurd h (by omega), fun _ => HX.out⟩⟩
          case measure => simp [intOf]; omega
    · have hgo' := hgo.out
      rw [drop_end hlt] at hgo'
      have HG := hide hgo'; clear hgo'
      go_wp2
      go_ret
      exact ⟨ret_bool (by rw [HR.out, ← HG.out]; rfl), rfl⟩
set_option maxHeartbeats 1000000 in
theorem spec_l1Rising (A : Option Addr) (c : Nat) (l : List Int) (n : Int) (w : World) (hl : l.length ≤ 9223372036854775807) (hn : True) (hr : RA shInt w A l) :
    Calls Try.prog 185 #[.slice A l.length c, .int .i64 0, .int .i64 n] w fun e w' => e = .returned (.bool (incB (n) l)) ∧ w' = w := by
  obtain ⟨R, hR⟩ : ∃ R, incB (n) l = R := ⟨_, rfl⟩
  have HR := hide hR; clear hR
  go_enter Try.func185, Try.ntmps185
  go_wp2
  go_loop [11, 7, 8] (fun i _ _ => ∃ (k : Nat) (p : Int), k ≤ l.length ∧ i = .int .i64 k ∧ Hid (goInc (n) p (l.drop k) = R) ∧ Hid ((k = 0 → p = -1) ∧ (0 < k → l[k - 1]? = some p))) (fun i _ _ => l.length - (intOf i).toNat)
  case atStart => exact ⟨0, -1, Nat.zero_le _, rfl, HR, ⟨fun _ => rfl, fun h => absurd h (by omega)⟩⟩
  case round =>
    obtain ⟨k, p, hk, rfl, hgo, hp⟩ := hrel
    by_cases hlt : k < l.length
    · obtain ⟨x, hx⟩ := get_of_lt hlt
      obtain ⟨b, off, rfl, hbl, h1, ix⟩ := hr.int_at (Below.refl _ _) hx
      have hgo' := hgo.out
      rw [drop_get hx] at hgo'
      have HG := hide hgo'; clear hgo'
      have HX := hide hx; clear hx
      obtain ⟨B, hB⟩ : ∃ B, inB x 0 (n) = B := ⟨_, rfl⟩
      have HB := hide hB; clear hB
      cases B
      · go_wp2_with (go_at_call 116; refine (spec_l1In _ _ _ _).mono ?_; rintro e w' ⟨rfl, rfl⟩; rw [HB.out])
        go_ret
        exact ⟨ret_bool (by rw [HR.out, ← HG.out]; simp [goInc, HB.out]), rfl⟩
      · by_cases h0 : 0 < k
        · have h0' : (0 : Int) < k := by omega
          have hy := hp.out.2 h0
          obtain ⟨b', off', e1, _, h3, iy⟩ := hr.int_at (Below.refl _ _) hy
          simp only [Option.some.injEq, Addr.mk.injEq, and_true] at e1
          obtain ⟨rfl, rfl⟩ := e1
          clear hy
          have q1 : IntKind.i64.wrap ((k : Int) - 1) = (k : Int) - 1 := IntWalk.i64_in _ (by omega)
          have q2 : (1 : Int) ≤ (k : Int) := by omega
          have q3 : (k : Int) - 1 < (l.length : Int) := by omega
          have q4 : ((k : Int) - 1).toNat = k - 1 := by omega
          by_cases hq : x ≤ p
          · go_wp2_with (go_at_call 116; refine (spec_l1In _ _ _ _).mono ?_; rintro e w' ⟨rfl, rfl⟩; rw [HB.out])
            go_ret
            exact ⟨ret_bool (by rw [HR.out, ← HG.out]; simp [goInc, HB.out]; omega), rfl⟩
          · have hq' : decide (x ≤ p) = false := by simpa using hq
            have HG2 : Hid (goInc (n) x (l.drop (k + 1)) = R) := by show _ = _; rw [← HG.out]; simp [goInc, HB.out]; omega
            go_wp2_with (go_at_call 116; refine (spec_l1In _ _ _ _).mono ?_; rintro e w' ⟨rfl, rfl⟩; rw [HB.out])
            go_round
            case rel => exact ⟨k + 1, x, by omega, by go_num, HG2, ⟨fun h => absurd h (by omega), fun _ => HX.out⟩⟩
            case measure => simp [intOf]; omega
        · have h0' : decide ((0 : Int) < k) = false := by simp; omega
          have hp0 := hp.out.1 (by omega)
          have HG2 : Hid (goInc (n) x (l.drop (k + 1)) = R) := by show _ = _; rw [← HG.out]; simp [goInc, HB.out, hp0]; have := (inB_iff.1 HB.out).1; omega
          clear hp0
          go_wp2_with (go_at_call 116; refine (spec_l1In _ _ _ _).mono ?_; rintro e w' ⟨rfl, rfl⟩; rw [HB.out])
          go_round
          case rel => exact ⟨k + 1, x, by omega, by go_num, HG2, ⟨fun h => absurd h (by omega), fun _ => HX.out⟩⟩
          case measure => simp [intOf]; omega
    · have hgo' := hgo.out
      rw [drop_end hlt] at hgo'
      have HG := hide hgo'; clear hgo'
      go_wp2
      go_ret
      exact ⟨ret_bool (by rw [HR.out, ← HG.out]; rfl), rfl⟩

/-! ### slices.IndexFunc, ContainsFunc at a row of ints and at a row of transitions; the function's value captures one variable -/

set_option maxHeartbeats 1000000 in
theorem indexFunc_int1 (A : Option Addr) (c : Nat) (l : List Int) (w : World) (p : Int → Bool) (f : FuncId) (hbody : HasBody Try.prog f) (a1 : Addr) (hl : l.length ≤ 9223372036854775807) (hr : RA shInt w A l)
    (hf : ∀ W : World, Below w.heap.size w W → ∀ x ∈ l, InI x → Calls Try.prog f #[.int .i64 x, .pointer (some a1)] W fun e w' => e = .returned (.bool (p x)) ∧ Below W.heap.size W w') :
    Calls Try.prog 190 #[.slice A l.length c, .func (.func f) #[] #[.pointer (some a1)]] w fun e w' => e = .returned (.int .i64 (idxB p l)) ∧ Below w.heap.size w w' := by
  obtain ⟨R, hR⟩ : ∃ R, idxB p l = R := ⟨_, rfl⟩
  have HR := hide hR; clear hR
  have HF := hide hf; clear hf
  go_enter Try.func190, Try.ntmps190
  go_wp2
  go_loopw [8, 5] (fun i _ wr => ∃ k : Nat, k ≤ l.length ∧ i = .int .i64 k ∧ Hid (goIdx p k (l.drop k) = R) ∧ Below w.heap.size w wr) (fun i _ _ => l.length - (intOf i).toNat)
  case atStart => exact ⟨0, Nat.zero_le _, rfl, HR, by (repeat' (first | (with_reducible exact Below.refl _ _) | (with_reducible assumption) | (with_reducible refine below_drewN' ?_ _) | (with_reducible refine Below.drew ?_) | (with_reducible refine Below.alloc ?_ ?_ _) | (with_reducible refine Below.setCell ?_ ?_ _) | (with_reducible refine Below.then_ ?_ (by assumption) ?_) | go_size))⟩
  case round =>
    obtain ⟨k, hk, rfl, hgo, hb⟩ := hrel
    have hsz := hb.size
    by_cases hlt : k < l.length
    · obtain ⟨x, hx⟩ := get_of_lt hlt
      obtain ⟨b, off, rfl, hbl, h1, ix⟩ := hr.int_at hb hx
      have hgo' := hgo.out
      rw [drop_get hx] at hgo'
      have HG := hide hgo'; clear hgo'
      have hm := hide (List.mem_of_getElem? hx); clear hx
      have hcf : ∀ (args : Array Value) (w : World), (callFunc f args).run Try.prog w = .ok (.enter f args) w := hbody
      go_wp2_with fail
      clear hcf
      refine (HF.out _ hb x hm.out ix).mono ?_
      rintro e w1 ⟨rfl, hb1⟩
      have hb2 := hb.trans (hb1.mono hsz)
      obtain ⟨B, hB⟩ : ∃ B, p x = B := ⟨_, rfl⟩
      rw [hB]
      have HB := hide hB; clear hB
      cases B
      · have HG2 : Hid (goIdx p (k + 1) (l.drop (k + 1)) = R) := by show _ = _; rw [← HG.out]; simp [goIdx, HB.out]
        go_wp2_with fail
        go_roundw
        case rel => exact ⟨k + 1, by omega, by go_num, HG2, by (repeat' (first | (with_reducible exact Below.refl _ _) | (with_reducible assumption) | (with_reducible refine below_drewN' ?_ _) | (with_reducible refine Below.drew ?_) | (with_reducible refine Below.alloc ?_ ?_ _) | (with_reducible refine Below.setCell ?_ ?_ _) | (with_reducible refine Below.then_ ?_ (by assumption) ?_) | go_size))⟩
        case measure => simp [intOf]; omega
      · go_wp2_with fail
        go_ret
        exact ⟨ret_int (by rw [HR.out, ← HG.out]; simp [goIdx, HB.out]), by (repeat' (first | (with_reducible exact Below.refl _ _) | (with_reducible assumption) | (with_reducible refine below_drewN' ?_ _) | (with_reducible refine Below.drew ?_) | (with_reducible refine Below.alloc ?_ ?_ _) | (with_reducible refine Below.setCell ?_ ?_ _) | (with_reducible refine Below.then_ ?_ (by assumption) ?_) | go_size))⟩
    · have hgo' := hgo.out
      rw [drop_end hlt] at hgo'
      have HG := hide hgo'; clear hgo'
      go_wp2
      go_ret
      exact ⟨ret_int (by rw [HR.out, ← HG.out]; rfl), by (repeat' (first | (with_reducible exact Below.refl _ _) | (with_reducible assumption) | (with_reducible refine below_drewN' ?_ _) | (with_reducible refine Below.drew ?_) | (with_reducible refine Below.alloc ?_ ?_ _) | (with_reducible refine Below.setCell ?_ ?_ _) | (with_reducible refine Below.then_ ?_ (by assumption) ?_) | go_size))⟩

set_option maxHeartbeats 1000000 in
theorem containsFunc_int1 (A : Option Addr) (c : Nat) (l : List Int) (w : World) (p : Int → Bool) (f : FuncId) (hbody : HasBody Try.prog f) (a1 : Addr) (hl : l.length ≤ 9223372036854775807) (hr : RA shInt w A l)
    (hf : ∀ W : World, Below w.heap.size w W → ∀ x ∈ l, InI x → Calls Try.prog f #[.int .i64 x, .pointer (some a1)] W fun e w' => e = .returned (.bool (p x)) ∧ Below W.heap.size W w') :
    Calls Try.prog 165 #[.slice A l.length c, .func (.func f) #[] #[.pointer (some a1)]] w fun e w' => e = .returned (.bool (l.any p)) ∧ Below w.heap.size w w' := by
  have HF := hide hf; clear hf
  go_enter Try.func165, Try.ntmps165
  go_wp2_with fail
  refine (indexFunc_int1 A c l _ p f hbody a1 hl hr HF.out).mono ?_
  rintro e w1 ⟨rfl, hb1⟩
  go_wp2
  go_ret
  exact ⟨ret_bool (idxB_any p l), hb1⟩

set_option maxHeartbeats 1000000 in
theorem indexFunc_Tr1 (A : Option Addr) (c : Nat) (l : List Tr) (w : World) (p : Tr → Bool) (f : FuncId) (hbody : HasBody Try.prog f) (a1 : Addr) (hl : l.length ≤ 9223372036854775807) (hr : RA shTr w A l)
    (hf : ∀ W : World, Below w.heap.size w W → ∀ x ∈ l, ∀ A_pre c_pre A_post c_post, x.pre.length ≤ c_pre → c_pre ≤ 9223372036854775807 → RA shInt W A_pre x.pre → x.post.length ≤ c_post → c_post ≤ 9223372036854775807 → RA shInt W A_post x.post →
      Calls Try.prog f #[.agg #[.slice A_pre x.pre.length c_pre, .slice A_post x.post.length c_post], .pointer (some a1)] W fun e w' => e = .returned (.bool (p x)) ∧ Below W.heap.size W w') :
    Calls Try.prog 192 #[.slice A l.length c, .func (.func f) #[] #[.pointer (some a1)]] w fun e w' => e = .returned (.int .i64 (idxB p l)) ∧ Below w.heap.size w w' := by
  obtain ⟨R, hR⟩ : ∃ R, idxB p l = R := ⟨_, rfl⟩
  have HR := hide hR; clear hR
  have HF := hide hf; clear hf
  go_enter Try.func192, Try.ntmps192
  go_wp2
  go_loopw [8, 5] (fun i _ wr => ∃ k : Nat, k ≤ l.length ∧ i = .int .i64 k ∧ Hid (goIdx p k (l.drop k) = R) ∧ Below w.heap.size w wr) (fun i _ _ => l.length - (intOf i).toNat)
  case atStart => exact ⟨0, Nat.zero_le _, rfl, HR, by (repeat' (first | (with_reducible exact Below.refl _ _) | (with_reducible assumption) | (with_reducible refine below_drewN' ?_ _) | (with_reducible refine Below.drew ?_) | (with_reducible refine Below.alloc ?_ ?_ _) | (with_reducible refine Below.setCell ?_ ?_ _) | (with_reducible refine Below.then_ ?_ (by assumption) ?_) | go_size))⟩
  case round =>
    obtain ⟨k, hk, rfl, hgo, hb⟩ := hrel
    have hsz := hb.size
    by_cases hlt : k < l.length
    · obtain ⟨x, hx⟩ := get_of_lt hlt
      obtain ⟨b, off, A_pre, c_pre, A_post, c_post, rfl, hbl, h1, h2, g0, g1, g2, g3, g4, g5⟩ := hr.Tr_at hb hx
      have hgo' := hgo.out
      rw [drop_get hx] at hgo'
      have HG := hide hgo'; clear hgo'
      have hm := hide (List.mem_of_getElem? hx); clear hx
      have hcf : ∀ (args : Array Value) (w : World), (callFunc f args).run Try.prog w = .ok (.enter f args) w := hbody
      go_wp2_with fail
      clear hcf
      refine (HF.out _ hb x hm.out _ _ _ _ g0 g1 g2 g3 g4 g5).mono ?_
      rintro e w1 ⟨rfl, hb1⟩
      have hb2 := hb.trans (hb1.mono hsz)
      obtain ⟨B, hB⟩ : ∃ B, p x = B := ⟨_, rfl⟩
      rw [hB]
      have HB := hide hB; clear hB
      cases B
      · have HG2 : Hid (goIdx p (k + 1) (l.drop (k + 1)) = R) := by show _ = _; rw [← HG.out]; simp [goIdx, HB.out]
        go_wp2_with fail
        go_roundw
        case rel => exact ⟨k + 1, by omega, by go_num, HG2, by (repeat' (first | (with_reducible exact Below.refl _ _) | (with_reducible assumption) | (with_reducible refine below_drewN' ?_ _) | (with_reducible refine Below.drew ?_) | (with_reducible refine Below.alloc ?_ ?_ _) | (with_reducible refine Below.setCell ?_ ?_ _) | (with_reducible refine Below.then_ ?_ (by assumption) ?_) | go_size))⟩
        case measure => simp [intOf]; omega
      · go_wp2_with fail
        go_ret
        exact ⟨ret_int (by rw [HR.out, ← HG.out]; simp [goIdx, HB.out]), by (repeat' (first | (with_reducible exact Below.refl _ _) | (with_reducible assumption) | (with_reducible refine below_drewN' ?_ _) | (with_reducible refine Below.drew ?_) | (with_reducible refine Below.alloc ?_ ?_ _) | (with_reducible refine Below.setCell ?_ ?_ _) | (with_reducible refine Below.then_ ?_ (by assumption) ?_) | go_size))⟩
    · have hgo' := hgo.out
      rw [drop_end hlt] at hgo'
      have HG := hide hgo'; clear hgo'
      go_wp2
      go_ret
      exact ⟨ret_int (by rw [HR.out, ← HG.out]; rfl), by (repeat' (first | (with_reducible exact Below.refl _ _) | (with_reducible assumption) | (with_reducible refine below_drewN' ?_ _) | (with_reducible refine Below.drew ?_) | (with_reducible refine Below.alloc ?_ ?_ _) | (with_reducible refine Below.setCell ?_ ?_ _) | (with_reducible refine Below.then_ ?_ (by assumption) ?_) | go_size))⟩

set_option maxHeartbeats 1000000 in
theorem containsFunc_Tr1 (A : Option Addr) (c : Nat) (l : List Tr) (w : World) (p : Tr → Bool) (f : FuncId) (hbody : HasBody Try.prog f) (a1 : Addr) (hl : l.length ≤ 9223372036854775807) (hr : RA shTr w A l)
    (hf : ∀ W : World, Below w.heap.size w W → ∀ x ∈ l, ∀ A_pre c_pre A_post c_post, x.pre.length ≤ c_pre → c_pre ≤ 9223372036854775807 → RA shInt W A_pre x.pre → x.post.length ≤ c_post → c_post ≤ 9223372036854775807 → RA shInt W A_post x.post →
      Calls Try.prog f #[.agg #[.slice A_pre x.pre.length c_pre, .slice A_post x.post.length c_post], .pointer (some a1)] W fun e w' => e = .returned (.bool (p x)) ∧ Below W.heap.size W w') :
    Calls Try.prog 170 #[.slice A l.length c, .func (.func f) #[] #[.pointer (some a1)]] w fun e w' => e = .returned (.bool (l.any p)) ∧ Below w.heap.size w w' := by
  have HF := hide hf; clear hf
  go_enter Try.func170, Try.ntmps170
  go_wp2_with fail
  refine (indexFunc_Tr1 A c l _ p f hbody a1 hl hr HF.out).mono ?_
  rintro e w1 ⟨rfl, hb1⟩
  go_wp2
  go_ret
  exact ⟨ret_bool (idxB_any p l), hb1⟩

set_option maxHeartbeats 1000000 in
theorem impl_IsValidNet_1 (x : Tr) (A_pre : Option Addr) (c_pre : Nat) (A_post : Option Addr) (c_post : Nat) (g : Nat) (places : Int) (w : World) (h1 : 1 ≤ places) (h2 : places ≤ 30) (hg : g < w.heap.size) (hc : w.cell? ⟨g, 0, none⟩ = some (.int .i64 places))
    (g0 : x.pre.length ≤ c_pre) (g1 : c_pre ≤ 9223372036854775807) (g2 : RA shInt w A_pre x.pre) (g3 : x.post.length ≤ c_post) (g4 : c_post ≤ 9223372036854775807) (g5 : RA shInt w A_post x.post) :
    Calls Try.prog 171 #[.agg #[.slice A_pre x.pre.length c_pre, .slice A_post x.post.length c_post], .pointer (some ⟨g, 0, none⟩)] w fun e w' => e = .returned (.bool (!trB places x)) ∧ Below w.heap.size w w' := by
  by_cases h0 : x.pre = []
  · have hl0 : (x.pre.length : Int) = 0 := by rw [h0]; rfl
    have b0 : ((x.pre.length : Int) == 0) = true := by simp [hl0]
    have H0 := hide h0; clear h0 hl0
    go_enter Try.func171, Try.ntmps171
    go_wp2
    go_ret
    exact ⟨ret_bool (by simp [trB, H0.out]), by (repeat' (first | (with_reducible exact Below.refl _ _) | (with_reducible assumption) | (with_reducible refine below_drewN' ?_ _) | (with_reducible refine Below.drew ?_) | (with_reducible refine Below.alloc ?_ ?_ _) | (with_reducible refine Below.setCell ?_ ?_ _) | (with_reducible refine Below.then_ ?_ (by assumption) ?_) | go_size))⟩
  · have b0 : ((x.pre.length : Int) == 0) = false := by have := List.length_pos_iff.2 h0; simp; exact h0
    have H0 : Hid (x.pre.isEmpty = false) := by show _ = _; simpa using h0
    clear h0
    obtain ⟨B, hB⟩ : ∃ B, incB (places - 1) x.pre = B := ⟨_, rfl⟩
    have HB := hide hB; clear hB
    cases B
    · go_enter Try.func171, Try.ntmps171
      go_wp2_with fail
      refine (impl_isIncreasing A_pre c_pre x.pre places _ (by omega) (by omega) (RA.to g2 ?hb)).mono ?_
      case hb => (repeat' (first | (with_reducible exact Below.refl _ _) | (with_reducible assumption) | (with_reducible refine below_drewN' ?_ _) | (with_reducible refine Below.drew ?_) | (with_reducible refine Below.alloc ?_ ?_ _) | (with_reducible refine Below.setCell ?_ ?_ _) | (with_reducible refine Below.then_ ?_ (by assumption) ?_) | go_size))
      rintro e w1 ⟨rfl, rfl⟩
      rw [HB.out]
      go_wp2
      go_ret
      exact ⟨ret_bool (by simp [trB, H0.out, HB.out]), by (repeat' (first | (with_reducible exact Below.refl _ _) | (with_reducible assumption) | (with_reducible refine below_drewN' ?_ _) | (with_reducible refine Below.drew ?_) | (with_reducible refine Below.alloc ?_ ?_ _) | (with_reducible refine Below.setCell ?_ ?_ _) | (with_reducible refine Below.then_ ?_ (by assumption) ?_) | go_size))⟩
    · go_enter Try.func171, Try.ntmps171
      go_wp2_with fail
      refine (impl_isIncreasing A_pre c_pre x.pre places _ (by omega) (by omega) (RA.to g2 ?hb)).mono ?_
      case hb => (repeat' (first | (with_reducible exact Below.refl _ _) | (with_reducible assumption) | (with_reducible refine below_drewN' ?_ _) | (with_reducible refine Below.drew ?_) | (with_reducible refine Below.alloc ?_ ?_ _) | (with_reducible refine Below.setCell ?_ ?_ _) | (with_reducible refine Below.then_ ?_ (by assumption) ?_) | go_size))
      rintro e w1 ⟨rfl, rfl⟩
      rw [HB.out]
      go_wp2_with fail
      refine (impl_isIncreasing A_post c_post x.post places _ (by omega) (by omega) (RA.to g5 ?hb)).mono ?_
      case hb => (repeat' (first | (with_reducible exact Below.refl _ _) | (with_reducible assumption) | (with_reducible refine below_drewN' ?_ _) | (with_reducible refine Below.drew ?_) | (with_reducible refine Below.alloc ?_ ?_ _) | (with_reducible refine Below.setCell ?_ ?_ _) | (with_reducible refine Below.then_ ?_ (by assumption) ?_) | go_size))
      rintro e w2 ⟨rfl, rfl⟩
      go_wp2
      go_ret
      exact ⟨ret_bool (by simp [trB, H0.out, HB.out]), by (repeat' (first | (with_reducible exact Below.refl _ _) | (with_reducible assumption) | (with_reducible refine below_drewN' ?_ _) | (with_reducible refine Below.drew ?_) | (with_reducible refine Below.alloc ?_ ?_ _) | (with_reducible refine Below.setCell ?_ ?_ _) | (with_reducible refine Below.then_ ?_ (by assumption) ?_) | go_size))⟩
end Go.Proofs.Ytojfmppamebnkaa
