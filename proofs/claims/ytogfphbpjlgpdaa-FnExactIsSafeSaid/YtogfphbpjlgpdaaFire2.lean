/-
  Walks: the reference's validity of nets; Fire; FireSequence.
-/
import Derived.Test.YtogfphbpjlgpdaaFire
namespace Go.Proofs.Ytogfphbpjlgpdaa
open Go.RowKit
set_option linter.unusedVariables false

theorem trB_iff (places : Int) (t : Tr) : trB places t = (!t.pre.isEmpty && incB (places - 1) t.pre && incB (places - 1) t.post) := rfl

set_option maxHeartbeats 2000000 in
theorem spec_l1Good (n : Net) (A : Option Addr) (c : Nat) (w : World) (hi : InI n.places) (h1 : n.trans.length ≤ c) (h2 : c ≤ 9223372036854775807) (hr : RA shTr w A n.trans) :
    Calls Try.prog 38 #[.agg #[.int .i64 n.places, .slice A n.trans.length c]] w fun e w' => e = .returned (.bool (goodNet n)) ∧ Below w.heap.size w w' := by
  obtain ⟨B, hB⟩ : ∃ B, inB n.places 1 30 = B := ⟨_, rfl⟩
  have HB := hide hB; clear hB
  cases B
  · have HGN : Hid (goodNet n = false) := by show _ = _; simp [goodNet, HB.out]
    go_enter Try.func38, Try.ntmps38
    go_wp2_with fail
    go_loopw [8, 4] (fun i _ wr => ∃ k : Nat, k ≤ n.trans.length ∧ i = .int .i64 k ∧ Below (w.heap.size + 1) (w.alloc (.cells #[.int .i64 n.places, .slice A n.trans.length c] 38)) wr) (fun i _ _ => n.trans.length - (intOf i).toNat)
    case atStart => exact ⟨0, Nat.zero_le _, rfl, Below.refl _ _⟩
    case round =>
      obtain ⟨k, hk, rfl, hb⟩ := hrel
      have hsz := hb.size
      rw [World.size_alloc] at hsz
      have hcr : ∀ b o, b < w.heap.size + 1 → wr.cell? ⟨b, o, none⟩ = (w.alloc (.cells #[.int .i64 n.places, .slice A n.trans.length c] 38)).cell? ⟨b, o, none⟩ := fun b o h => hb.cell (p := ⟨b, o, none⟩) h
      have lr : w.heap.size < wr.heap.size := by omega
      have hbw : Below w.heap.size w wr := ((Below.refl w.heap.size w).alloc (Nat.le_refl _) _).trans (hb.mono (by omega))
      by_cases hlt : k < n.trans.length
      · obtain ⟨x, hx⟩ := get_of_lt hlt
        obtain ⟨b, off, A_pre, c_pre, A_post, c_post, rfl, hbl, d1, d2, g0, g1, g2, g3, g4, g5⟩ := hr.Tr_at hbw hx
        clear hx
        by_cases h0 : x.pre = []
        · have b0 : ((x.pre.length : Int) == 0) = true := by rw [h0]; rfl
          clear h0
          go_wp2_with fail
          go_ret
          exact ⟨ret_bool HGN.out.symm, by (repeat' (first | (with_reducible exact Below.refl _ _) | (with_reducible assumption) | (with_reducible refine below_drewN' ?_ _) | (with_reducible refine Below.drew ?_) | (with_reducible refine Below.alloc ?_ ?_ _) | (with_reducible refine Below.setCell ?_ ?_ _) | (with_reducible refine Below.then_ ?_ (by assumption) ?_) | go_size))⟩
        · have b0 : ((x.pre.length : Int) == 0) = false := by have := List.length_pos_iff.2 h0; simp; exact h0
          clear h0
          go_wp2_with fail
          refine (spec_l1Set2 A_pre c_pre x.pre _ _ (by omega) (RA.to g2 ?hb)).mono ?_
          case hb => (repeat' (first | (with_reducible exact Below.refl _ _) | (with_reducible assumption) | (with_reducible refine below_drewN' ?_ _) | (with_reducible refine Below.drew ?_) | (with_reducible refine Below.alloc ?_ ?_ _) | (with_reducible refine Below.setCell ?_ ?_ _) | (with_reducible refine Below.then_ ?_ (by assumption) ?_) | go_size))
          rintro e w1 ⟨rfl, rfl⟩
          generalize incB _ x.pre = B1
          cases B1
          · go_wp2_with fail
            go_ret
            exact ⟨ret_bool HGN.out.symm, by (repeat' (first | (with_reducible exact Below.refl _ _) | (with_reducible assumption) | (with_reducible refine below_drewN' ?_ _) | (with_reducible refine Below.drew ?_) | (with_reducible refine Below.alloc ?_ ?_ _) | (with_reducible refine Below.setCell ?_ ?_ _) | (with_reducible refine Below.then_ ?_ (by assumption) ?_) | go_size))⟩
          · go_wp2_with fail
            refine (spec_l1Set2 A_post c_post x.post _ _ (by omega) (RA.to g5 ?hb)).mono ?_
            case hb => (repeat' (first | (with_reducible exact Below.refl _ _) | (with_reducible assumption) | (with_reducible refine below_drewN' ?_ _) | (with_reducible refine Below.drew ?_) | (with_reducible refine Below.alloc ?_ ?_ _) | (with_reducible refine Below.setCell ?_ ?_ _) | (with_reducible refine Below.then_ ?_ (by assumption) ?_) | go_size))
            rintro e w1 ⟨rfl, rfl⟩
            generalize incB _ x.post = B2
            cases B2
            · go_wp2_with fail
              go_ret
              exact ⟨ret_bool HGN.out.symm, by (repeat' (first | (with_reducible exact Below.refl _ _) | (with_reducible assumption) | (with_reducible refine below_drewN' ?_ _) | (with_reducible refine Below.drew ?_) | (with_reducible refine Below.alloc ?_ ?_ _) | (with_reducible refine Below.setCell ?_ ?_ _) | (with_reducible refine Below.then_ ?_ (by assumption) ?_) | go_size))⟩
            · go_wp2_with fail
              go_roundw
              case rel => exact ⟨k + 1, by omega, by go_num, by (repeat' (first | (with_reducible exact Below.refl _ _) | (with_reducible assumption) | (with_reducible refine below_drewN' ?_ _) | (with_reducible refine Below.drew ?_) | (with_reducible refine Below.alloc ?_ ?_ _) | (with_reducible refine Below.setCell ?_ ?_ _) | (with_reducible refine Below.then_ ?_ (by assumption) ?_) | go_size))⟩
              case measure => simp [intOf]; omega
      · go_wp2_with fail
        refine (spec_l1In n.places 1 30 _).mono ?_
        rintro e w1 ⟨rfl, rfl⟩
        rw [HB.out]
        go_wp2_with fail
        go_ret
        exact ⟨ret_bool HGN.out.symm, by (repeat' (first | (with_reducible exact Below.refl _ _) | (with_reducible assumption) | (with_reducible refine below_drewN' ?_ _) | (with_reducible refine Below.drew ?_) | (with_reducible refine Below.alloc ?_ ?_ _) | (with_reducible refine Below.setCell ?_ ?_ _) | (with_reducible refine Below.then_ ?_ (by assumption) ?_) | go_size))⟩
  · obtain ⟨hp1, hp2⟩ := inB_iff.1 HB.out
    obtain ⟨R, hR⟩ : ∃ R, n.trans.all (trB n.places) = R := ⟨_, rfl⟩
    have HR := hide hR
    have HL : Hid ((n.trans.drop 0).all (trB n.places) = R) := hR
    clear hR
    go_enter Try.func38, Try.ntmps38
    go_wp2_with fail
    go_loopw [8, 4] (fun i _ wr => ∃ k : Nat, k ≤ n.trans.length ∧ i = .int .i64 k ∧ Hid ((n.trans.drop k).all (trB n.places) = R) ∧ Below (w.heap.size + 1) (w.alloc (.cells #[.int .i64 n.places, .slice A n.trans.length c] 38)) wr) (fun i _ _ => n.trans.length - (intOf i).toNat)
    case atStart => exact ⟨0, Nat.zero_le _, rfl, HL, Below.refl _ _⟩
    case round =>
      obtain ⟨k, hk, rfl, hgo, hb⟩ := hrel
      have hsz := hb.size
      rw [World.size_alloc] at hsz
      have hcr : ∀ b o, b < w.heap.size + 1 → wr.cell? ⟨b, o, none⟩ = (w.alloc (.cells #[.int .i64 n.places, .slice A n.trans.length c] 38)).cell? ⟨b, o, none⟩ := fun b o h => hb.cell (p := ⟨b, o, none⟩) h
      have lr : w.heap.size < wr.heap.size := by omega
      have hbw : Below w.heap.size w wr := ((Below.refl w.heap.size w).alloc (Nat.le_refl _) _).trans (hb.mono (by omega))
      by_cases hlt : k < n.trans.length
      · obtain ⟨x, hx⟩ := get_of_lt hlt
        obtain ⟨b, off, A_pre, c_pre, A_post, c_post, rfl, hbl, d1, d2, g0, g1, g2, g3, g4, g5⟩ := hr.Tr_at hbw hx
        have hgo' := hgo.out
        rw [drop_get hx, List.all_cons, trB_iff] at hgo'
        have HG := hide hgo'; clear hgo' hx
        by_cases h0 : x.pre = []
        · have b0 : ((x.pre.length : Int) == 0) = true := by rw [h0]; rfl
          have H0 : Hid (x.pre.isEmpty = true) := by show _ = _; simpa using h0
          clear h0
          go_wp2_with fail
          go_ret
          exact ⟨ret_bool (by simp only [goodNet, HB.out, HR.out, ← HG.out, H0.out]; simp), by (repeat' (first | (with_reducible exact Below.refl _ _) | (with_reducible assumption) | (with_reducible refine below_drewN' ?_ _) | (with_reducible refine Below.drew ?_) | (with_reducible refine Below.alloc ?_ ?_ _) | (with_reducible refine Below.setCell ?_ ?_ _) | (with_reducible refine Below.then_ ?_ (by assumption) ?_) | go_size))⟩
        · have b0 : ((x.pre.length : Int) == 0) = false := by have := List.length_pos_iff.2 h0; simp; exact h0
          have H0 : Hid (x.pre.isEmpty = false) := by show _ = _; simpa using h0
          clear h0
          go_wp2_with fail
          refine (spec_l1Set2 A_pre c_pre x.pre (n.places - 1) _ (by omega) (RA.to g2 ?hb)).mono ?_
          case hb => (repeat' (first | (with_reducible exact Below.refl _ _) | (with_reducible assumption) | (with_reducible refine below_drewN' ?_ _) | (with_reducible refine Below.drew ?_) | (with_reducible refine Below.alloc ?_ ?_ _) | (with_reducible refine Below.setCell ?_ ?_ _) | (with_reducible refine Below.then_ ?_ (by assumption) ?_) | go_size))
          rintro e w1 ⟨rfl, rfl⟩
          obtain ⟨B1, hB1⟩ : ∃ B, incB (n.places - 1) x.pre = B := ⟨_, rfl⟩
          rw [hB1]
          have HB1 := hide hB1; clear hB1
          cases B1
          · go_wp2_with fail
            go_ret
            exact ⟨ret_bool (by simp only [goodNet, HB.out, HR.out, ← HG.out, H0.out, HB1.out]; simp), by (repeat' (first | (with_reducible exact Below.refl _ _) | (with_reducible assumption) | (with_reducible refine below_drewN' ?_ _) | (with_reducible refine Below.drew ?_) | (with_reducible refine Below.alloc ?_ ?_ _) | (with_reducible refine Below.setCell ?_ ?_ _) | (with_reducible refine Below.then_ ?_ (by assumption) ?_) | go_size))⟩
          · go_wp2_with fail
            refine (spec_l1Set2 A_post c_post x.post (n.places - 1) _ (by omega) (RA.to g5 ?hb)).mono ?_
            case hb => (repeat' (first | (with_reducible exact Below.refl _ _) | (with_reducible assumption) | (with_reducible refine below_drewN' ?_ _) | (with_reducible refine Below.drew ?_) | (with_reducible refine Below.alloc ?_ ?_ _) | (with_reducible refine Below.setCell ?_ ?_ _) | (with_reducible refine Below.then_ ?_ (by assumption) ?_) | go_size))
            rintro e w1 ⟨rfl, rfl⟩
            obtain ⟨B2, hB2⟩ : ∃ B, incB (n.places - 1) x.post = B := ⟨_, rfl⟩
            rw [hB2]
            have HB2 := hide hB2; clear hB2
            cases B2
            · go_wp2_with fail
              go_ret
              exact ⟨ret_bool (by simp only [goodNet, HB.out, HR.out, ← HG.out, H0.out, HB1.out, HB2.out]; simp), by (repeat' (first | (with_reducible exact Below.refl _ _) | (with_reducible assumption) | (with_reducible refine below_drewN' ?_ _) | (with_reducible refine Below.drew ?_) | (with_reducible refine Below.alloc ?_ ?_ _) | (with_reducible refine Below.setCell ?_ ?_ _) | (with_reducible refine Below.then_ ?_ (by assumption) ?_) | go_size))⟩
            · have HG2 : Hid ((n.trans.drop (k + 1)).all (trB n.places) = R) := by show _ = _; simp only [← HG.out, H0.out, HB1.out, HB2.out]; simp
              go_wp2_with fail
              go_roundw
              case rel => exact ⟨k + 1, by omega, by go_num, HG2, by (repeat' (first | (with_reducible exact Below.refl _ _) | (with_reducible assumption) | (with_reducible refine below_drewN' ?_ _) | (with_reducible refine Below.drew ?_) | (with_reducible refine Below.alloc ?_ ?_ _) | (with_reducible refine Below.setCell ?_ ?_ _) | (with_reducible refine Below.then_ ?_ (by assumption) ?_) | go_size))⟩
              case measure => simp [intOf]; omega
      · have hgo' := hgo.out
        rw [drop_end hlt] at hgo'
        have HG := hide hgo'; clear hgo'
        go_wp2_with fail
        refine (spec_l1In n.places 1 30 _).mono ?_
        rintro e w1 ⟨rfl, rfl⟩
        rw [HB.out]
        go_wp2_with fail
        go_ret
        exact ⟨ret_bool (by simp [goodNet, HB.out, HR.out, ← HG.out]; try omega), by (repeat' (first | (with_reducible exact Below.refl _ _) | (with_reducible assumption) | (with_reducible refine below_drewN' ?_ _) | (with_reducible refine Below.drew ?_) | (with_reducible refine Below.alloc ?_ ?_ _) | (with_reducible refine Below.setCell ?_ ?_ _) | (with_reducible refine Below.then_ ?_ (by assumption) ?_) | go_size))⟩

def fireQ (n : Net) (m : List UInt8) (t : Int) : Option (List UInt8) := if goodMark n m then fireB n m t else none

set_option maxHeartbeats 1000000 in
theorem impl_Fire (n : Net) (m : List UInt8) (t : Int) (A : Option Addr) (c : Nat) (w : World) (hi : InI n.places) (h1 : n.trans.length ≤ c) (h2 : c ≤ 9223372036854775807) (hr : RA shTr w A n.trans) (hm : m.length ≤ 9223372036854775807) :
    Calls Try.prog 16 #[.agg #[.int .i64 n.places, .slice A n.trans.length c], .string ⟨m.toArray⟩, .int .i64 t] w fun e w' => e = .returned (fireV (fireQ n m t)) ∧ Below w.heap.size w w' := by
  obtain ⟨B, hB⟩ : ∃ B, goodMark n m = B := ⟨_, rfl⟩
  have HB := hide hB; clear hB
  go_enter Try.func16, Try.ntmps16
  go_wp2_with fail
  refine (impl_IsValidMarking n m A c _ hi h1 h2 (RA.to hr ?hb) hm).mono ?_
  case hb => (repeat' (first | (with_reducible exact Below.refl _ _) | (with_reducible assumption) | (with_reducible refine below_drewN' ?_ _) | (with_reducible refine Below.drew ?_) | (with_reducible refine Below.alloc ?_ ?_ _) | (with_reducible refine Below.setCell ?_ ?_ _) | (with_reducible refine Below.then_ ?_ (by assumption) ?_) | go_size))
  rintro e w1 ⟨rfl, hb1⟩
  obtain ⟨hc1, hf1⟩ := bcell hb1
  have hz1 := hb1.size
  rw [World.size_alloc] at hz1
  have l0 : w.heap.size < w1.heap.size := by omega
  rw [HB.out]
  cases B
  · go_wp2_with fail
    go_ret2
    exact ⟨by simp [fireQ, HB.out, fireV, optS], by (repeat' (first | (with_reducible exact Below.refl _ _) | (with_reducible assumption) | (with_reducible refine below_drewN' ?_ _) | (with_reducible refine Below.drew ?_) | (with_reducible refine Below.alloc ?_ ?_ _) | (with_reducible refine Below.setCell ?_ ?_ _) | (with_reducible refine Below.then_ ?_ (by assumption) ?_) | go_size))⟩
  · go_wp2_with fail
    refine (impl_fire n m t A c _ HB.out h1 h2 (RA.to hr ?hb)).mono ?_
    case hb => (repeat' (first | (with_reducible exact Below.refl _ _) | (with_reducible assumption) | (with_reducible refine below_drewN' ?_ _) | (with_reducible refine Below.drew ?_) | (with_reducible refine Below.alloc ?_ ?_ _) | (with_reducible refine Below.setCell ?_ ?_ _) | (with_reducible refine Below.then_ ?_ (by assumption) ?_) | go_size))
    rintro e w2 ⟨rfl, hb2⟩
    have hv : fireV (fireB n m t) = .tuple #[.string ⟨(optS (fireB n m t)).1.toArray⟩, .bool (optS (fireB n m t)).2] := rfl
    rw [hv]
    clear hv
    generalize hs : (optS (fireB n m t)).1 = s1
    generalize hs2 : (optS (fireB n m t)).2 = s2
    have HS := hide hs; clear hs
    have HS2 := hide hs2; clear hs2
    go_wp2_with fail
    go_ret2
    exact ⟨by simp [fireQ, HB.out, fireV, HS.out, HS2.out], by (repeat' (first | (with_reducible exact Below.refl _ _) | (with_reducible assumption) | (with_reducible refine below_drewN' ?_ _) | (with_reducible refine Below.drew ?_) | (with_reducible refine Below.alloc ?_ ?_ _) | (with_reducible refine Below.setCell ?_ ?_ _) | (with_reducible refine Below.then_ ?_ (by assumption) ?_) | go_size))⟩

set_option maxHeartbeats 1000000 in
theorem spec_Fire (n : Net) (m : List UInt8) (t : Int) (A : Option Addr) (c : Nat) (w : World) (hi : InI n.places) (h1 : n.trans.length ≤ c) (h2 : c ≤ 9223372036854775807) (hr : RA shTr w A n.trans) (hm : m.length ≤ 9223372036854775807) :
    Calls Try.prog 14 #[.agg #[.int .i64 n.places, .slice A n.trans.length c], .string ⟨m.toArray⟩, .int .i64 t] w fun e w' => e = .returned (fireV (fireQ n m t)) ∧ Below w.heap.size w w' := by
  obtain ⟨B, hB⟩ : ∃ B, goodNet n = B := ⟨_, rfl⟩
  have HB := hide hB; clear hB
  obtain ⟨B2, hB2⟩ : ∃ B, bitsB m n.places = B := ⟨_, rfl⟩
  have HB2 := hide hB2; clear hB2
  obtain ⟨B3, hB3⟩ : ∃ B, inB t 0 ((n.trans.length : Int) - 1) = B := ⟨_, rfl⟩
  have HB3 := hide hB3; clear hB3
  go_enter Try.func14, Try.ntmps14
  go_wp2_with fail
  refine (spec_l1Good n A c _ hi h1 h2 (RA.to hr ?hb)).mono ?_
  case hb => (repeat' (first | (with_reducible exact Below.refl _ _) | (with_reducible assumption) | (with_reducible refine below_drewN' ?_ _) | (with_reducible refine Below.drew ?_) | (with_reducible refine Below.alloc ?_ ?_ _) | (with_reducible refine Below.setCell ?_ ?_ _) | (with_reducible refine Below.then_ ?_ (by assumption) ?_) | go_size))
  rintro e w1 ⟨rfl, hb1⟩
  obtain ⟨hc1, hf1⟩ := bcell hb1
  have hz1 := hb1.size
  rw [World.size_alloc] at hz1
  have l1 : w.heap.size < w1.heap.size := by omega
  rw [HB.out]
  cases B
  · go_wp2_with fail
    go_ret2
    exact ⟨by simp [fireQ, goodMark, HB.out, fireV, optS], by (repeat' (first | (with_reducible exact Below.refl _ _) | (with_reducible assumption) | (with_reducible refine below_drewN' ?_ _) | (with_reducible refine Below.drew ?_) | (with_reducible refine Below.alloc ?_ ?_ _) | (with_reducible refine Below.setCell ?_ ?_ _) | (with_reducible refine Below.then_ ?_ (by assumption) ?_) | go_size))⟩
  · go_wp2_with fail
    refine (spec_l1Mark m n A c _ hm).mono ?_
    rintro e w2 ⟨rfl, hb2⟩
    obtain ⟨hc2, hf2⟩ := bcell hb2
    have hz2 := hb2.size
    have l2 : w.heap.size < w2.heap.size := by omega
    rw [HB2.out]
    cases B2
    · go_wp2_with fail
      go_ret2
      exact ⟨by simp [fireQ, goodMark, HB.out, HB2.out, fireV, optS], by (repeat' (first | (with_reducible exact Below.refl _ _) | (with_reducible assumption) | (with_reducible refine below_drewN' ?_ _) | (with_reducible refine Below.drew ?_) | (with_reducible refine Below.alloc ?_ ?_ _) | (with_reducible refine Below.setCell ?_ ?_ _) | (with_reducible refine Below.then_ ?_ (by assumption) ?_) | go_size))⟩
    · have HGM : Hid (goodMark n m = true) := by show _ = _; simp [goodMark, HB.out, HB2.out]
      go_wp2_with fail
      refine (spec_l1In t 0 _ _).mono ?_
      rintro e w3 ⟨rfl, rfl⟩
      rw [HB3.out]
      cases B3
      · go_wp2_with fail
        go_ret2
        exact ⟨by simp [fireQ, HGM.out, fireB, HB3.out, fireV, optS], by (repeat' (first | (with_reducible exact Below.refl _ _) | (with_reducible assumption) | (with_reducible refine below_drewN' ?_ _) | (with_reducible refine Below.drew ?_) | (with_reducible refine Below.alloc ?_ ?_ _) | (with_reducible refine Below.setCell ?_ ?_ _) | (with_reducible refine Below.then_ ?_ (by assumption) ?_) | go_size))⟩
      · obtain ⟨k, rfl⟩ := Int.eq_ofNat_of_zero_le (inB_iff.1 HB3.out).1
        have hk : k < n.trans.length := by have := (inB_iff.1 HB3.out).2; omega
        obtain ⟨x, hx⟩ := get_of_lt hk
        obtain ⟨hpre, hpost⟩ := good_tr HGM.out hx
        have hre := ready_en (good_bits HGM.out) hpre
        have hq : fireQ n m k = if enB m x then fireM x m else none := by simp [fireQ, HGM.out, fireB, HB3.out, hx]
        have HQ := hide hq; clear hq
        have HX := hide hx; clear hx
        have HPre := hide hpre; clear hpre
        have HPost := hide hpost; clear hpost
        have HRE := hide hre; clear hre
        go_wp2_with fail
        refine (spec_l1Ready n m k x A c _ HPre.out HX.out h1 h2 (RA.to hr ?hb)).mono ?_
        case hb => (repeat' (first | (with_reducible exact Below.refl _ _) | (with_reducible assumption) | (with_reducible refine below_drewN' ?_ _) | (with_reducible refine Below.drew ?_) | (with_reducible refine Below.alloc ?_ ?_ _) | (with_reducible refine Below.setCell ?_ ?_ _) | (with_reducible refine Below.then_ ?_ (by assumption) ?_) | go_size))
        rintro e w3 ⟨rfl, hb3⟩
        obtain ⟨hc3, hf3⟩ := bcell hb3
        have hz3 := hb3.size
        have l3 : w.heap.size < w3.heap.size := by omega
        rw [HRE.out]
        obtain ⟨E, hE⟩ : ∃ E, enB m x = E := ⟨_, rfl⟩
        rw [hE]
        have HE := hide hE; clear hE
        cases E
        · go_wp2_with fail
          go_ret2
          exact ⟨by rw [HQ.out]; simp [HE.out, fireV, optS], by (repeat' (first | (with_reducible exact Below.refl _ _) | (with_reducible assumption) | (with_reducible refine below_drewN' ?_ _) | (with_reducible refine Below.drew ?_) | (with_reducible refine Below.alloc ?_ ?_ _) | (with_reducible refine Below.setCell ?_ ?_ _) | (with_reducible refine Below.then_ ?_ (by assumption) ?_) | go_size))⟩
        · go_wp2_with fail
          refine (spec_l1Fire n m k x A c _ HGM.out HX.out h1 h2 (RA.to hr ?hb)).mono ?_
          case hb => (repeat' (first | (with_reducible exact Below.refl _ _) | (with_reducible assumption) | (with_reducible refine below_drewN' ?_ _) | (with_reducible refine Below.drew ?_) | (with_reducible refine Below.alloc ?_ ?_ _) | (with_reducible refine Below.setCell ?_ ?_ _) | (with_reducible refine Below.then_ ?_ (by assumption) ?_) | go_size))
          rintro e w4 ⟨rfl, hb4⟩
          have hv : fireV (fireM x m) = .tuple #[.string ⟨(optS (fireM x m)).1.toArray⟩, .bool (optS (fireM x m)).2] := rfl
          rw [hv]
          clear hv
          generalize hs : (optS (fireM x m)).1 = s1
          generalize hs2 : (optS (fireM x m)).2 = s2
          have HS := hide hs; clear hs
          have HS2 := hide hs2; clear hs2
          go_wp2_with fail
          go_ret2
          exact ⟨by rw [HQ.out]; simp [HE.out, fireV, HS.out, HS2.out], by (repeat' (first | (with_reducible exact Below.refl _ _) | (with_reducible assumption) | (with_reducible refine below_drewN' ?_ _) | (with_reducible refine Below.drew ?_) | (with_reducible refine Below.alloc ?_ ?_ _) | (with_reducible refine Below.setCell ?_ ?_ _) | (with_reducible refine Below.then_ ?_ (by assumption) ?_) | go_size))⟩
end Go.Proofs.Ytogfphbpjlgpdaa
