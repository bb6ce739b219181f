/-
  slices.IndexFunc and ContainsFunc at rows of: Sig/1 Lab/1 Dl/0. Printed by a program of this repo (idxgen.py).
-/
import Derived.Test.YtojfmppamebnkaaRows
import Derived.Test.YtojfmppamebnkaaNetPure
namespace Go.Proofs.Ytojfmppamebnkaa
open Go.RowKit
set_option linter.unusedVariables false

set_option maxHeartbeats 1000000 in
theorem indexFunc_Sig1 (A : Option Addr) (c : Nat) (l : List Sig) (w : World) (p : Sig → Bool) (f : FuncId) (hbody : HasBody Try.prog f) (a1 : Addr) (hl : l.length ≤ 9223372036854775807) (hr : RA shSig w A l)
    (hf : ∀ W : World, Below w.heap.size w W → ∀ x ∈ l, (x.name).length ≤ 9223372036854775807 → InI x.kind → Calls Try.prog f #[.agg #[.string ⟨(x.name).toArray⟩, .int .i64 x.kind], .pointer (some a1)] W fun e w' => e = .returned (.bool (p x)) ∧ Below W.heap.size W w') :
    Calls Try.prog 184 #[.slice A l.length c, .func (.func f) #[] #[.pointer (some a1)]] w fun e w' => e = .returned (.int .i64 (idxB p l)) ∧ Below w.heap.size w w' := by
  obtain ⟨R, hR⟩ : ∃ R, idxB p l = R := ⟨_, rfl⟩
  have HR := hide hR; clear hR
  have HF := hide hf; clear hf
  go_enter Try.func184, Try.ntmps184
  go_wp2
  go_loopw [8, 5] (fun i _ wr => ∃ k : Nat, k ≤ l.length ∧ i = .int .i64 k ∧ Hid (goIdx p k (l.drop k) = R) ∧ Below w.heap.size w wr) (fun i _ _ => l.length - (intOf i).toNat)
  case atStart => exact ⟨0, Nat.zero_le _, rfl, HR, by (repeat' (first | (with_reducible exact Below.refl _ _) | (with_reducible assumption) | (with_reducible refine below_drewN' ?_ _) | (with_reducible refine Below.drew ?_) | (with_reducible refine Below.alloc ?_ ?_ _) | (with_reducible refine Below.setCell ?_ ?_ _) | (with_reducible refine Below.then_ ?_ (by assumption) ?_) | go_size))⟩
  case round =>
    obtain ⟨k, hk, rfl, hgo, hb⟩ := hrel
    have hsz := hb.size
    by_cases hlt : k < l.length
    · obtain ⟨x, hx⟩ := get_of_lt hlt
      obtain ⟨b, off, rfl, hbl, d0, d1, g0, g1⟩ := hr.Sig_at hb hx
      have hgo' := hgo.out
      rw [drop_get hx] at hgo'
      have HG := hide hgo'; clear hgo'
      have hm := hide (List.mem_of_getElem? hx); clear hx
      have hcf : ∀ (args : Array Value) (w : World), (callFunc f args).run Try.prog w = .ok (.enter f args) w := hbody
      go_wp2_with fail
      clear hcf
      refine (HF.out _ hb x hm.out  g0 g1).mono ?_
      rintro e w1 ⟨rfl, hb1⟩
      have hb2 := hb.trans (hb1.mono hsz)
      obtain ⟨B, hB⟩ : ∃ B, p x = B := ⟨_, rfl⟩
      rw [hB]
      have HB := hide hB; clear hB
      cases B
      · have HG2 : Hid (goIdx p (k + 1) (l.drop (k + 1)) = R) := by show _ = _; rw [← HG.out]; simp [goIdx, HB.out]
        go_wp2_with fail
        go_roundw
        case rel => exact ⟨k + 1, by omega, by go_num, HG2, by (repeat' (first | (with_reducible exact Below.refl _ _) | (with_reducible assumption) | (with_reducible refine below_drewN' ?_ _) | (with_reducible refine Below.drew ?_) | (with_reducible refine Below.alloc ?_ ?_ _) | (with_reducible refine Below.setCell ?_ ?_ _) | (with_reducible refine Below.then_ ?_ (by assumption) ?_) | go_size))⟩
        case measure => simp [intOf]; omega
      · go_wp2_with fail
        go_ret
        exact ⟨ret_int (by rw [HR.out, ← HG.out]; simp [goIdx, HB.out]), by (repeat' (first | (with_reducible exact Below.refl _ _) | (with_reducible assumption) | (with_reducible refine below_drewN' ?_ _) | (with_reducible refine Below.drew ?_) | (with_reducible refine Below.alloc ?_ ?_ _) | (with_reducible refine Below.setCell ?_ ?_ _) | (with_reducible refine Below.then_ ?_ (by assumption) ?_) | go_size))⟩
    · have hgo' := hgo.out
      rw [drop_end hlt] at hgo'
      have HG := hide hgo'; clear hgo'
      go_wp2
      go_ret
      exact ⟨ret_int (by rw [HR.out, ← HG.out]; rfl), by (repeat' (first | (with_reducible exact Below.refl _ _) | (with_reducible assumption) | (with_reducible refine below_drewN' ?_ _) | (with_reducible refine Below.drew ?_) | (with_reducible refine Below.alloc ?_ ?_ _) | (with_reducible refine Below.setCell ?_ ?_ _) | (with_reducible refine Below.then_ ?_ (by assumption) ?_) | go_size))⟩

set_option maxHeartbeats 1000000 in
theorem containsFunc_Sig1 (A : Option Addr) (c : Nat) (l : List Sig) (w : World) (p : Sig → Bool) (f : FuncId) (hbody : HasBody Try.prog f) (a1 : Addr) (hl : l.length ≤ 9223372036854775807) (hr : RA shSig w A l)
    (hf : ∀ W : World, Below w.heap.size w W → ∀ x ∈ l, (x.name).length ≤ 9223372036854775807 → InI x.kind → Calls Try.prog f #[.agg #[.string ⟨(x.name).toArray⟩, .int .i64 x.kind], .pointer (some a1)] W fun e w' => e = .returned (.bool (p x)) ∧ Below W.heap.size W w') :
    Calls Try.prog 156 #[.slice A l.length c, .func (.func f) #[] #[.pointer (some a1)]] w fun e w' => e = .returned (.bool (l.any p)) ∧ Below w.heap.size w w' := by
  have HF := hide hf; clear hf
  go_enter Try.func156, Try.ntmps156
  go_wp2_with fail
  refine (indexFunc_Sig1 A c l _ p f hbody a1 hl hr HF.out).mono ?_
  rintro e w1 ⟨rfl, hb1⟩
  go_wp2
  go_ret
  exact ⟨ret_bool (idxB_any p l), hb1⟩

set_option maxHeartbeats 1000000 in
theorem indexFunc_Lab1 (A : Option Addr) (c : Nat) (l : List Lab) (w : World) (p : Lab → Bool) (f : FuncId) (hbody : HasBody Try.prog f) (a1 : Addr) (hl : l.length ≤ 9223372036854775807) (hr : RA shLab w A l)
    (hf : ∀ W : World, Below w.heap.size w W → ∀ x ∈ l, InI x.sig → Calls Try.prog f #[.agg #[.int .i64 x.sig, .bool x.up], .pointer (some a1)] W fun e w' => e = .returned (.bool (p x)) ∧ Below W.heap.size W w') :
    Calls Try.prog 158 #[.slice A l.length c, .func (.func f) #[] #[.pointer (some a1)]] w fun e w' => e = .returned (.int .i64 (idxB p l)) ∧ Below w.heap.size w w' := by
  obtain ⟨R, hR⟩ : ∃ R, idxB p l = R := ⟨_, rfl⟩
  have HR := hide hR; clear hR
  have HF := hide hf; clear hf
  go_enter Try.func158, Try.ntmps158
  go_wp2
  go_loopw [8, 5] (fun i _ wr => ∃ k : Nat, k ≤ l.length ∧ i = .int .i64 k ∧ Hid (goIdx p k (l.drop k) = R) ∧ Below w.heap.size w wr) (fun i _ _ => l.length - (intOf i).toNat)
  case atStart => exact ⟨0, Nat.zero_le _, rfl, HR, by (repeat' (first | (with_reducible exact Below.refl _ _) | (with_reducible assumption) | (with_reducible refine below_drewN' ?_ _) | (with_reducible refine Below.drew ?_) | (with_reducible refine Below.alloc ?_ ?_ _) | (with_reducible refine Below.setCell ?_ ?_ _) | (with_reducible refine Below.then_ ?_ (by assumption) ?_) | go_size))⟩
  case round =>
    obtain ⟨k, hk, rfl, hgo, hb⟩ := hrel
    have hsz := hb.size
    by_cases hlt : k < l.length
    · obtain ⟨x, hx⟩ := get_of_lt hlt
      obtain ⟨b, off, rfl, hbl, d0, d1, g0⟩ := hr.Lab_at hb hx
      have hgo' := hgo.out
      rw [drop_get hx] at hgo'
      have HG := hide hgo'; clear hgo'
      have hm := hide (List.mem_of_getElem? hx); clear hx
      have hcf : ∀ (args : Array Value) (w : World), (callFunc f args).run Try.prog w = .ok (.enter f args) w := hbody
      go_wp2_with fail
      clear hcf
      refine (HF.out _ hb x hm.out  g0).mono ?_
      rintro e w1 ⟨rfl, hb1⟩
      have hb2 := hb.trans (hb1.mono hsz)
      obtain ⟨B, hB⟩ : ∃ B, p x = B := ⟨_, rfl⟩
      rw [hB]
      have HB := hide hB; clear hB
      cases B
      · have HG2 : Hid (goIdx p (k + 1) (l.drop (k + 1)) = R) := by show _ = _; rw [← HG.out]; simp [goIdx, HB.out]
        go_wp2_with fail
        go_roundw
        case rel => exact ⟨k + 1, by omega, by go_num, HG2, by (repeat' (first | (with_reducible exact Below.refl _ _) | (with_reducible assumption) | (with_reducible refine below_drewN' ?_ _) | (with_reducible refine Below.drew ?_) | (with_reducible refine Below.alloc ?_ ?_ _) | (with_reducible refine Below.setCell ?_ ?_ _) | (with_reducible refine Below.then_ ?_ (by assumption) ?_) | go_size))⟩
        case measure => simp [intOf]; omega
      · go_wp2_with fail
        go_ret
        exact ⟨ret_int (by rw [HR.out, ← HG.out]; simp [goIdx, HB.out]), by (repeat' (first | (with_reducible exact Below.refl _ _) | (with_reducible assumption) | (with_reducible refine below_drewN' ?_ _) | (with_reducible refine Below.drew ?_) | (with_reducible refine Below.alloc ?_ ?_ _) | (with_reducible refine Below.setCell ?_ ?_ _) | (with_reducible refine Below.then_ ?_ (by assumption) ?_) | go_size))⟩
    · have hgo' := hgo.out
      rw [drop_end hlt] at hgo'
      have HG := hide hgo'; clear hgo'
      go_wp2
      go_ret
      exact ⟨ret_int (by rw [HR.out, ← HG.out]; rfl), by (repeat' (first | (with_reducible exact Below.refl _ _) | (with_reducible assumption) | (with_reducible refine below_drewN' ?_ _) | (with_reducible refine Below.drew ?_) | (with_reducible refine Below.alloc ?_ ?_ _) | (with_reducible refine Below.setCell ?_ ?_ _) | (with_reducible refine Below.then_ ?_ (by assumption) ?_) | go_size))⟩

set_option maxHeartbeats 1000000 in
theorem containsFunc_Lab1 (A : Option Addr) (c : Nat) (l : List Lab) (w : World) (p : Lab → Bool) (f : FuncId) (hbody : HasBody Try.prog f) (a1 : Addr) (hl : l.length ≤ 9223372036854775807) (hr : RA shLab w A l)
    (hf : ∀ W : World, Below w.heap.size w W → ∀ x ∈ l, InI x.sig → Calls Try.prog f #[.agg #[.int .i64 x.sig, .bool x.up], .pointer (some a1)] W fun e w' => e = .returned (.bool (p x)) ∧ Below W.heap.size W w') :
    Calls Try.prog 120 #[.slice A l.length c, .func (.func f) #[] #[.pointer (some a1)]] w fun e w' => e = .returned (.bool (l.any p)) ∧ Below w.heap.size w w' := by
  have HF := hide hf; clear hf
  go_enter Try.func120, Try.ntmps120
  go_wp2_with fail
  refine (indexFunc_Lab1 A c l _ p f hbody a1 hl hr HF.out).mono ?_
  rintro e w1 ⟨rfl, hb1⟩
  go_wp2
  go_ret
  exact ⟨ret_bool (idxB_any p l), hb1⟩

set_option maxHeartbeats 1000000 in
theorem indexFunc_Dl0 (A : Option Addr) (c : Nat) (l : List Dl) (w : World) (p : Dl → Bool) (f : FuncId) (hbody : HasBody Try.prog f)  (hl : l.length ≤ 9223372036854775807) (hr : RA shDl w A l)
    (hf : ∀ W : World, Below w.heap.size w W → ∀ x ∈ l, InI x.low → InI x.high → Calls Try.prog f #[.agg #[.int .i64 x.low, .int .i64 x.high]] W fun e w' => e = .returned (.bool (p x)) ∧ Below W.heap.size W w') :
    Calls Try.prog 123 #[.slice A l.length c, .func (.func f) #[] #[]] w fun e w' => e = .returned (.int .i64 (idxB p l)) ∧ Below w.heap.size w w' := by
  obtain ⟨R, hR⟩ : ∃ R, idxB p l = R := ⟨_, rfl⟩
  have HR := hide hR; clear hR
  have HF := hide hf; clear hf
  go_enter Try.func123, Try.ntmps123
  go_wp2
  go_loopw [8, 5] (fun i _ wr => ∃ k : Nat, k ≤ l.length ∧ i = .int .i64 k ∧ Hid (goIdx p k (l.drop k) = R) ∧ Below w.heap.size w wr) (fun i _ _ => l.length - (intOf i).toNat)
  case atStart => exact ⟨0, Nat.zero_le _, rfl, HR, by (repeat' (first | (with_reducible exact Below.refl _ _) | (with_reducible assumption) | (with_reducible refine below_drewN' ?_ _) | (with_reducible refine Below.drew ?_) | (with_reducible refine Below.alloc ?_ ?_ _) | (with_reducible refine Below.setCell ?_ ?_ _) | (with_reducible refine Below.then_ ?_ (by assumption) ?_) | go_size))⟩
  case round =>
    obtain ⟨k, hk, rfl, hgo, hb⟩ := hrel
    have hsz := hb.size
    by_cases hlt : k < l.length
    · obtain ⟨x, hx⟩ := get_of_lt hlt
      obtain ⟨b, off, rfl, hbl, d0, d1, g0, g1⟩ := hr.Dl_at hb hx
      have hgo' := hgo.out
      rw [drop_get hx] at hgo'
      have HG := hide hgo'; clear hgo'
      have hm := hide (List.mem_of_getElem? hx); clear hx
      have hcf : ∀ (args : Array Value) (w : World), (callFunc f args).run Try.prog w = .ok (.enter f args) w := hbody
      go_wp2_with fail
      clear hcf
      refine (HF.out _ hb x hm.out  g0 g1).mono ?_
      rintro e w1 ⟨rfl, hb1⟩
      have hb2 := hb.trans (hb1.mono hsz)
      obtain ⟨B, hB⟩ : ∃ B, p x = B := ⟨_, rfl⟩
      rw [hB]
      have HB := hide hB; clear hB
      cases B
      · have HG2 : Hid (goIdx p (k + 1) (l.drop (k + 1)) = R) := by show _ = _; rw [← HG.out]; simp [goIdx, HB.out]
        go_wp2_with fail
        go_roundw
        case rel => exact ⟨k + 1, by omega, by go_num, HG2, by (repeat' (first | (with_reducible exact Below.refl _ _) | (with_reducible assumption) | (with_reducible refine below_drewN' ?_ _) | (with_reducible refine Below.drew ?_) | (with_reducible refine Below.alloc ?_ ?_ _) | (with_reducible refine Below.setCell ?_ ?_ _) | (with_reducible refine Below.then_ ?_ (by assumption) ?_) | go_size))⟩
        case measure => simp [intOf]; omega
      · go_wp2_with fail
        go_ret
        exact ⟨ret_int (by rw [HR.out, ← HG.out]; simp [goIdx, HB.out]), by (repeat' (first | (with_reducible exact Below.refl _ _) | (with_reducible assumption) | (with_reducible refine below_drewN' ?_ _) | (with_reducible refine Below.drew ?_) | (with_reducible refine Below.alloc ?_ ?_ _) | (with_reducible refine Below.setCell ?_ ?_ _) | (with_reducible refine Below.then_ ?_ (by assumption) ?_) | go_size))⟩
    · have hgo' := hgo.out
      rw [drop_end hlt] at hgo'
      have HG := hide hgo'; clear hgo'
      go_wp2
      go_ret
      exact ⟨ret_int (by rw [HR.out, ← HG.out]; rfl), by (repeat' (first | (with_reducible exact Below.refl _ _) | (with_reducible assumption) | (with_reducible refine below_drewN' ?_ _) | (with_reducible refine Below.drew ?_) | (with_reducible refine Below.alloc ?_ ?_ _) | (with_reducible refine Below.setCell ?_ ?_ _) | (with_reducible refine Below.then_ ?_ (by assumption) ?_) | go_size))⟩

set_option maxHeartbeats 1000000 in
theorem containsFunc_Dl0 (A : Option Addr) (c : Nat) (l : List Dl) (w : World) (p : Dl → Bool) (f : FuncId) (hbody : HasBody Try.prog f)  (hl : l.length ≤ 9223372036854775807) (hr : RA shDl w A l)
    (hf : ∀ W : World, Below w.heap.size w W → ∀ x ∈ l, InI x.low → InI x.high → Calls Try.prog f #[.agg #[.int .i64 x.low, .int .i64 x.high]] W fun e w' => e = .returned (.bool (p x)) ∧ Below W.heap.size W w') :
    Calls Try.prog 67 #[.slice A l.length c, .func (.func f) #[] #[]] w fun e w' => e = .returned (.bool (l.any p)) ∧ Below w.heap.size w w' := by
  have HF := hide hf; clear hf
  go_enter Try.func67, Try.ntmps67
  go_wp2_with fail
  refine (indexFunc_Dl0 A c l _ p f hbody  hl hr HF.out).mono ?_
  rintro e w1 ⟨rfl, hb1⟩
  go_wp2
  go_ret
  exact ⟨ret_bool (idxB_any p l), hb1⟩
end Go.Proofs.Ytojfmppamebnkaa
