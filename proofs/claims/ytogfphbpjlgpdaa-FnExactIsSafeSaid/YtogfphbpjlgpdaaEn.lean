/-
  Walks: the enabled transitions.
-/
import Derived.Test.YtogfphbpjlgpdaaFire2
import Derived.Test.YtogfphbpjlgpdaaEnPure
import Derived.Test.YtogfphbpjlgpdaaBase3
namespace Go.Proofs.Ytogfphbpjlgpdaa
open Go.RowKit
set_option linter.unusedVariables false

theorem info_int : (Try.prog.info? 3).map (fun i => (i.zero.map (fun z => z.cells.size), i.size, i.bytes)) = some (some 1, 1, 8) := by kernel_rfl
theorem info_str : (Try.prog.info? 9).map (fun i => (i.zero.map (fun z => z.cells.size), i.size, i.bytes)) = some (some 1, 1, 16) := by kernel_rfl

set_option maxHeartbeats 1000000 in
theorem impl_enabled (n : Net) (m : List UInt8) (A : Option Addr) (c : Nat) (w : World) (hg : goodMark n m = true) (h1 : n.trans.length ≤ c) (h2 : c ≤ 9223372036854775807) (hr : RA shTr w A n.trans) :
    Calls Try.prog 72 #[.agg #[.int .i64 n.places, .slice A n.trans.length c], .string ⟨m.toArray⟩] w fun e w' => ∃ A' c', e = .returned (.slice A' (enL n m).length c') ∧ Own shInt w' w.heap.size 3 A' c' (enL n m) ∧ Below w.heap.size w w' ∧ w.heap.size < w'.heap.size := by
  obtain ⟨R, hR⟩ : ∃ R, enL n m = R := ⟨_, rfl⟩
  have HR := hide hR
  have HL : Hid (([] : List Int) ++ goEn m 0 (n.trans.drop 0) = R) := hR
  clear hR
  have hlen24 : n.trans.length ≤ 24 := by
    simp only [goodMark, goodNet, Bool.and_eq_true, decide_eq_true_eq] at hg
    omega
  have HGM := hide hg; clear hg
  go_enter Try.func72, Try.ntmps72
  go_wp2_with fail
  go_loopw [12, 5] (fun i v wr => ∃ (k : Nat) (acc : List Int) (A' : Option Addr) (c' : Nat), k ≤ n.trans.length ∧ i = .int .i64 k ∧ v = .slice A' acc.length c' ∧ acc.length ≤ k ∧ Hid (acc ++ goEn m k (n.trans.drop k) = R) ∧ Hid (Own shInt wr w.heap.size 3 A' c' acc) ∧ Below w.heap.size w wr ∧ w.heap.size < wr.heap.size) (fun i _ _ => n.trans.length - (intOf i).toNat)
  case atStart =>
    refine ⟨0, [], some ⟨w.heap.size + 1, 0, none⟩, 0, Nat.zero_le _, rfl, rfl, Nat.le_refl _, HL, ?_, by (repeat' (first | (with_reducible exact Below.refl _ _) | (with_reducible assumption) | (with_reducible refine below_drewN' ?_ _) | (with_reducible refine Below.drew ?_) | (with_reducible refine Below.alloc ?_ ?_ _) | (with_reducible refine Below.setCell ?_ ?_ _) | (with_reducible refine Below.then_ ?_ (by assumption) ?_) | go_size)), by simp; omega⟩
    have := Own.made (S := shInt) (w := w.alloc (.cells #[.int .i64 n.places, .slice A n.trans.length c] 38)) (base := w.heap.size) (e := 3) (by simp)
    rw [World.size_alloc] at this
    exact this
  case round =>
    obtain ⟨k, acc, A', c', hk, rfl, rfl, hak, hgo, hown, hb, hgt⟩ := hrel
    have hsz := hb.size
    by_cases hlt : k < n.trans.length
    · obtain ⟨x, hx⟩ := get_of_lt hlt
      obtain ⟨hpre, hpost⟩ := good_tr HGM.out hx
      obtain ⟨b, off, A_pre, c_pre, A_post, c_post, rfl, hbl, d1, d2, g0, g1, g2, g3, g4, g5⟩ := hr.Tr_at hb hx
      have hgo' := hgo.out
      rw [drop_get hx] at hgo'
      have HG := hide hgo'; clear hgo' hx
      have HPre := hide hpre; clear hpre hpost
      go_wp2_with fail
      refine (impl_isEnabled x m A_pre c_pre A_post c_post _ g0 g1 (RA.to g2 ?hb) HPre.out).mono ?_
      case hb => (repeat' (first | (with_reducible exact Below.refl _ _) | (with_reducible assumption) | (with_reducible refine below_drewN' ?_ _) | (with_reducible refine Below.drew ?_) | (with_reducible refine Below.alloc ?_ ?_ _) | (with_reducible refine Below.setCell ?_ ?_ _) | (with_reducible refine Below.then_ ?_ (by assumption) ?_) | go_size))
      rintro e w1 ⟨rfl, hb1⟩
      have hs1 : Below wr.heap.size wr w1 := by (repeat' (first | (with_reducible exact Below.refl _ _) | (with_reducible assumption) | (with_reducible refine below_drewN' ?_ _) | (with_reducible refine Below.drew ?_) | (with_reducible refine Below.alloc ?_ ?_ _) | (with_reducible refine Below.setCell ?_ ?_ _) | (with_reducible refine Below.then_ ?_ (by assumption) ?_) | go_size))
      have hown1 := hide (hown.out.to hs1)
      have hb2 : Below w.heap.size w w1 := hb.trans (hs1.mono hsz)
      have hz1 := hs1.size
      obtain ⟨E, hE⟩ : ∃ E, enB m x = E := ⟨_, rfl⟩
      rw [hE]
      have HE := hide hE; clear hE
      cases E
      · have HG2 : Hid (acc ++ goEn m (k + 1) (n.trans.drop (k + 1)) = R) := by show _ = _; rw [← HG.out]; simp [goEn, HE.out]
        go_wp2_with fail
        go_roundw
        case rel => exact ⟨k + 1, acc, A', c', by omega, by go_num, rfl, by omega, HG2, hown1, hb2, by omega⟩
        case measure => simp [intOf]; omega
      · have HG2 : Hid ((acc ++ [(k : Int)]) ++ goEn m (k + 1) (n.trans.drop (k + 1)) = R) := by show _ = _; rw [← HG.out]; simp [goEn, HE.out]
        have hki : InI (k : Int) := ⟨by omega, by omega⟩
        have hla : acc.length ≤ 4000000 := by omega
        have hbs : w.heap.size ≤ w1.heap.size := by omega
        have hone := one_int (k : Int)
        go_wp2_with (at_builtin; refine wpList_push (S := shInt) (size := 1) (bytes := 8) rfl (.tmp 20) (.tmp 22) rfl Try.underlying42 info_int rfl (by decide) (by decide) rfl hown1.out hbs hla (k : Int) [.int .i64 k] ⟨rfl, hki⟩ hone rfl ?_; intro A2 c2 w2 hown2 hp2)
        have hb3 := hp2.below hown1.out hb2 (Nat.le_refl _) hbs
        have hz2 := hp2.size
        have HO2 := hide hown2; clear hown2
        go_roundw
        case rel => exact ⟨k + 1, acc ++ [(k : Int)], A2, c2, by omega, by go_num, by simp, by simp; omega, HG2, HO2, hb3, by omega⟩
        case measure => simp [intOf]; omega
    · have hgo' := hgo.out
      rw [drop_end hlt] at hgo'
      simp only [goEn, List.append_nil] at hgo'
      have HG := hide hgo'; clear hgo'
      go_wp2_with fail
      go_ret
      exact ⟨A', c', by rw [HR.out, HG.out]; rfl, by rw [HR.out, ← HG.out]; exact hown.out, hb, hgt⟩
set_option maxHeartbeats 1000000 in
theorem spec_l1Enabled (n : Net) (m : List UInt8) (A : Option Addr) (c : Nat) (w : World) (hg : goodMark n m = true) (h1 : n.trans.length ≤ c) (h2 : c ≤ 9223372036854775807) (hr : RA shTr w A n.trans) :
    Calls Try.prog 70 #[.agg #[.int .i64 n.places, .slice A n.trans.length c], .string ⟨m.toArray⟩] w fun e w' => ∃ A' c', e = .returned (.slice A' (enL n m).length c') ∧ Own shInt w' w.heap.size 3 A' c' (enL n m) ∧ Below w.heap.size w w' ∧ w.heap.size < w'.heap.size := by
  obtain ⟨R, hR⟩ : ∃ R, enL n m = R := ⟨_, rfl⟩
  have HR := hide hR
  have HL : Hid (([] : List Int) ++ goEn m 0 (n.trans.drop 0) = R) := hR
  clear hR
  have hlen24 : n.trans.length ≤ 24 := by
    simp only [goodMark, goodNet, Bool.and_eq_true, decide_eq_true_eq] at hg
    omega
  have HGM := hide hg; clear hg
  go_enter Try.func70, Try.ntmps70
  go_wp2_with fail
  go_loopw [10, 5] (fun i v wr => ∃ (k : Nat) (acc : List Int) (A' : Option Addr) (c' : Nat), k ≤ n.trans.length ∧ i = .int .i64 k ∧ v = .slice A' acc.length c' ∧ acc.length ≤ k ∧ Hid (acc ++ goEn m k (n.trans.drop k) = R) ∧ Hid (Own shInt wr (w.heap.size + 1) 3 A' c' acc) ∧ Below (w.heap.size + 1) (w.alloc (.cells #[.int .i64 n.places, .slice A n.trans.length c] 38)) wr) (fun i _ _ => n.trans.length - (intOf i).toNat)
  case atStart =>
    exact ⟨0, [], none, 0, Nat.zero_le _, rfl, rfl, Nat.le_refl _, HL, Own.nil_, Below.refl _ _⟩
  case round =>
    obtain ⟨k, acc, A', c', hk, rfl, rfl, hak, hgo, hown, hb0⟩ := hrel
    have hsz0 := hb0.size
    rw [World.size_alloc] at hsz0
    have hgt : w.heap.size < wr.heap.size := by omega
    have hb : Below w.heap.size w wr := ((Below.refl w.heap.size w).alloc (Nat.le_refl _) _).trans (hb0.mono (by omega))
    have hsz := hb.size
    have hcr : ∀ b o, b < w.heap.size + 1 → wr.cell? ⟨b, o, none⟩ = (w.alloc (.cells #[.int .i64 n.places, .slice A n.trans.length c] 38)).cell? ⟨b, o, none⟩ := fun b o h => hb0.cell (p := ⟨b, o, none⟩) h
    by_cases hlt : k < n.trans.length
    · obtain ⟨x, hx⟩ := get_of_lt hlt
      obtain ⟨hpre, hpost⟩ := good_tr HGM.out hx
      have hre := ready_en (good_bits HGM.out) hpre
      have hgo' := hgo.out
      rw [drop_get hx] at hgo'
      have HG := hide hgo'; clear hgo'
      have HX := hide hx; clear hx
      have HPre := hide hpre; clear hpre hpost
      have HRE := hide hre; clear hre
      go_wp2_with fail
      refine (spec_l1Ready n m k x A c _ HPre.out HX.out h1 h2 (RA.to hr ?hb)).mono ?_
      case hb => (repeat' (first | (with_reducible exact Below.refl _ _) | (with_reducible assumption) | (with_reducible refine below_drewN' ?_ _) | (with_reducible refine Below.drew ?_) | (with_reducible refine Below.alloc ?_ ?_ _) | (with_reducible refine Below.setCell ?_ ?_ _) | (with_reducible refine Below.then_ ?_ (by assumption) ?_) | go_size))
      rintro e w1 ⟨rfl, hb1⟩
      rw [HRE.out]
      have hs1 : Below wr.heap.size wr w1 := by (repeat' (first | (with_reducible exact Below.refl _ _) | (with_reducible assumption) | (with_reducible refine below_drewN' ?_ _) | (with_reducible refine Below.drew ?_) | (with_reducible refine Below.alloc ?_ ?_ _) | (with_reducible refine Below.setCell ?_ ?_ _) | (with_reducible refine Below.then_ ?_ (by assumption) ?_) | go_size))
      have hown1 := hide (hown.out.to hs1)
      have hb2 : Below (w.heap.size + 1) (w.alloc (.cells #[.int .i64 n.places, .slice A n.trans.length c] 38)) w1 := hb0.trans (hs1.mono (by omega))
      have hz1 := hs1.size
      obtain ⟨E, hE⟩ : ∃ E, enB m x = E := ⟨_, rfl⟩
      rw [hE]
      have HE := hide hE; clear hE
      cases E
      · have HG2 : Hid (acc ++ goEn m (k + 1) (n.trans.drop (k + 1)) = R) := by show _ = _; rw [← HG.out]; simp [goEn, HE.out]
        go_wp2_with fail
        go_roundw
        case rel => exact ⟨k + 1, acc, A', c', by omega, by go_num, rfl, by omega, HG2, hown1, hb2⟩
        case measure => simp [intOf]; omega
      · have HG2 : Hid ((acc ++ [(k : Int)]) ++ goEn m (k + 1) (n.trans.drop (k + 1)) = R) := by show _ = _; rw [← HG.out]; simp [goEn, HE.out]
        have hki : InI (k : Int) := ⟨by omega, by omega⟩
        have hla : acc.length ≤ 4000000 := by omega
        have hbs : w.heap.size + 1 ≤ w1.heap.size := by omega
        have hone := one_int (k : Int)
        go_wp2_with (at_builtin; refine wpList_push (S := shInt) (size := 1) (bytes := 8) rfl (.tmp 17) (.tmp 19) rfl Try.underlying42 info_int rfl (by decide) (by decide) rfl hown1.out hbs hla (k : Int) [.int .i64 k] ⟨rfl, hki⟩ hone rfl ?_; intro A2 c2 w2 hown2 hp2)
        have hb3 := hp2.below hown1.out hb2 (Nat.le_refl _) hbs
        have hz2 := hp2.size
        have HO2 := hide hown2; clear hown2
        go_roundw
        case rel => exact ⟨k + 1, acc ++ [(k : Int)], A2, c2, by omega, by go_num, by simp, by simp; omega, HG2, HO2, hb3⟩
        case measure => simp [intOf]; omega
    · have hgo' := hgo.out
      rw [drop_end hlt] at hgo'
      simp only [goEn, List.append_nil] at hgo'
      have HG := hide hgo'; clear hgo'
      go_wp2_with fail
      go_ret
      exact ⟨A', c', by rw [HR.out, HG.out]; rfl, by rw [HR.out, ← HG.out]; exact hown.out.lower (by omega), hb, hgt⟩
end Go.Proofs.Ytogfphbpjlgpdaa
