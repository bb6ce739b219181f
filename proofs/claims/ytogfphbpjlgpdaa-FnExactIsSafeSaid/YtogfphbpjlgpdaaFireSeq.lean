/-
  Walks: FireSequence.
-/
import Derived.Test.YtogfphbpjlgpdaaFire2
namespace Go.Proofs.Ytogfphbpjlgpdaa
open Go.RowKit
set_option linter.unusedVariables false

def fireSeq (n : Net) : Nat → List UInt8 → List Int → List UInt8 × Int × Bool
  | i, m, [] => (m, (i : Int), true)
  | i, m, t :: r => match fireB n m t with
    | some m' => fireSeq n (i + 1) m' r
    | none => (m, (i : Int), false)
def fireSeqQ (n : Net) (m : List UInt8) (l : List Int) : List UInt8 × Int × Bool := if goodMark n m && decide (l.length ≤ 200) then fireSeq n 0 m l else ([], 0, false)
theorem fireSeqQ_long {n : Net} {m : List UInt8} {l : List Int} (h : 200 < (l.length : Int)) : fireSeqQ n m l = ([], 0, false) := by
  unfold fireSeqQ
  have : decide (l.length ≤ 200) = false := by simp; omega
  rw [this]
  simp
theorem fireSeqQ_ok {n : Net} {m : List UInt8} {l : List Int} (hg : goodMark n m = true) (h : ¬ 200 < (l.length : Int)) : fireSeqQ n m l = fireSeq n 0 m l := by
  unfold fireSeqQ
  have : decide (l.length ≤ 200) = true := by simp; omega
  rw [this, hg]
  simp
def seqV (x : List UInt8 × Int × Bool) : Value := .tuple #[.string ⟨x.1.toArray⟩, .int .i64 x.2.1, .bool x.2.2]
theorem fireB_good {n : Net} {m m' : List UInt8} {t : Int} (h : goodMark n m = true) (hf : fireB n m t = some m') : goodMark n m' = true := by
  unfold fireB at hf
  split at hf
  · split at hf
    · split at hf
      · exact fireM_good h hf
      · cases hf
    · cases hf
  · cases hf
theorem fireV_none : fireV none = .tuple #[.string ⟨#[]⟩, .bool false] := rfl
theorem fireV_some (m : List UInt8) : fireV (some m) = .tuple #[.string ⟨m.toArray⟩, .bool true] := rfl


set_option maxHeartbeats 2000000 in
theorem impl_FireSequence (n : Net) (m : List UInt8) (l : List Int) (A A2 : Option Addr) (c c2 : Nat) (w : World) (hi : InI n.places) (h1 : n.trans.length ≤ c) (h2 : c ≤ 9223372036854775807) (hr : RA shTr w A n.trans) (hm : m.length ≤ 9223372036854775807) (hl : l.length ≤ 9223372036854775807) (hr2 : RA shInt w A2 l) :
    Calls Try.prog 20 #[.agg #[.int .i64 n.places, .slice A n.trans.length c], .string ⟨m.toArray⟩, .slice A2 l.length c2] w fun e w' => e = .returned (seqV (fireSeqQ n m l)) ∧ Below w.heap.size w w' := by
  obtain ⟨B, hB⟩ : ∃ B, goodMark n m = B := ⟨_, rfl⟩
  have HB := hide hB; clear hB
  go_enter Try.func20, Try.ntmps20
  go_wp2_with fail
  refine (impl_IsValidMarking n m A c _ hi h1 h2 (RA.to hr ?hb) hm).mono ?_
  case hb => (repeat' (first | (with_reducible exact Below.refl _ _) | (with_reducible assumption) | (with_reducible refine below_drewN' ?_ _) | (with_reducible refine Below.drew ?_) | (with_reducible refine Below.alloc ?_ ?_ _) | (with_reducible refine Below.setCell ?_ ?_ _) | (with_reducible refine Below.then_ ?_ (by assumption) ?_) | go_size))
  rintro e w1 ⟨rfl, hb1⟩
  obtain ⟨hc1, hf1⟩ := bcell hb1
  have hz1 := hb1.size
  rw [World.size_alloc] at hz1
  have l0 : w.heap.size < w1.heap.size := by omega
  rw [HB.out]
  cases B
  · go_wp2_with fail
    go_ret3
    exact ⟨by simp [fireSeqQ, HB.out, seqV], by (repeat' (first | (with_reducible exact Below.refl _ _) | (with_reducible assumption) | (with_reducible refine below_drewN' ?_ _) | (with_reducible refine Below.drew ?_) | (with_reducible refine Below.alloc ?_ ?_ _) | (with_reducible refine Below.setCell ?_ ?_ _) | (with_reducible refine Below.then_ ?_ (by assumption) ?_) | go_size))⟩
  by_cases hlen : 200 < (l.length : Int)
  · go_wp2_with fail
    go_ret3
    exact ⟨by rw [fireSeqQ_long (by omega)]; rfl, by (repeat' (first | (with_reducible exact Below.refl _ _) | (with_reducible assumption) | (with_reducible refine below_drewN' ?_ _) | (with_reducible refine Below.drew ?_) | (with_reducible refine Below.alloc ?_ ?_ _) | (with_reducible refine Below.setCell ?_ ?_ _) | (with_reducible refine Below.then_ ?_ (by assumption) ?_) | go_size))⟩
  · have hlen' : decide (200 < (l.length : Int)) = false := by simpa using hlen
    obtain ⟨R, hR⟩ : ∃ R, fireSeq n 0 m l = R := ⟨_, rfl⟩
    have HL : Hid (fireSeq n 0 m (l.drop 0) = R) := hR
    have HV : Hid (seqV (fireSeqQ n m l) = seqV R) := by show _ = _; rw [← hR, fireSeqQ_ok HB.out hlen]
    clear hR
    have HGM : Hid (goodMark n m = true) := HB
    go_wp2_with fail
    go_loopw [24, 1] (fun i s wr => ∃ (k : Nat) (mk : List UInt8), k ≤ l.length ∧ i = .int .i64 k ∧ s = .string ⟨mk.toArray⟩ ∧ Hid (goodMark n mk = true) ∧ Hid (fireSeq n k mk (l.drop k) = R) ∧ mk.length ≤ 9223372036854775807 ∧ Below w1.heap.size w1 wr) (fun i _ _ => l.length - (intOf i).toNat)
    case atStart => exact ⟨0, m, Nat.zero_le _, rfl, rfl, HGM, HL, hm, Below.refl _ _⟩
    case round =>
      obtain ⟨k, mk, hk, rfl, rfl, hgm, hgo, hmk, hb⟩ := hrel
      have hsz := hb.size
      obtain ⟨hcr, hfr⟩ := bcell hb
      have lr : w.heap.size < wr.heap.size := by omega
      have hbw : Below w.heap.size w wr := by (repeat' (first | (with_reducible exact Below.refl _ _) | (with_reducible assumption) | (with_reducible refine below_drewN' ?_ _) | (with_reducible refine Below.drew ?_) | (with_reducible refine Below.alloc ?_ ?_ _) | (with_reducible refine Below.setCell ?_ ?_ _) | (with_reducible refine Below.then_ ?_ (by assumption) ?_) | go_size))
      by_cases hlt : k < l.length
      · obtain ⟨t, ht⟩ := get_of_lt hlt
        obtain ⟨b, off, rfl, hbl, d1, it⟩ := hr2.int_at hbw ht
        have hgo' := hgo.out
        rw [drop_get ht] at hgo'
        have HG := hide hgo'; clear hgo' ht
        go_wp2_with fail
        refine (impl_fire n mk t A c _ hgm.out h1 h2 (RA.to hr ?hb)).mono ?_
        case hb => (repeat' (first | (with_reducible exact Below.refl _ _) | (with_reducible assumption) | (with_reducible refine below_drewN' ?_ _) | (with_reducible refine Below.drew ?_) | (with_reducible refine Below.alloc ?_ ?_ _) | (with_reducible refine Below.setCell ?_ ?_ _) | (with_reducible refine Below.then_ ?_ (by assumption) ?_) | go_size))
        rintro e w9 ⟨rfl, hb9⟩
        skip
        obtain ⟨o, ho⟩ : ∃ o, fireB n mk t = o := ⟨_, rfl⟩
        rw [ho]
        have HO := hide ho; clear ho
        cases o with
        | none =>
          rw [fireV_none]
          go_wp2_with fail
          go_ret3
          exact ⟨by rw [HV.out, ← HG.out]; simp [fireSeq, HO.out, seqV], by (repeat' (first | (with_reducible exact Below.refl _ _) | (with_reducible assumption) | (with_reducible refine below_drewN' ?_ _) | (with_reducible refine Below.drew ?_) | (with_reducible refine Below.alloc ?_ ?_ _) | (with_reducible refine Below.setCell ?_ ?_ _) | (with_reducible refine Below.then_ ?_ (by assumption) ?_) | go_size))⟩
        | some m2 =>
          rw [fireV_some]
          have hg2 : Hid (goodMark n m2 = true) := fireB_good hgm.out HO.out
          have hl2 : m2.length ≤ 9223372036854775807 := by have := good_places hg2.out; omega
          have HG3 : Hid (fireSeq n (k + 1) m2 (l.drop (k + 1)) = R) := by show _ = _; rw [← HG.out]; simp [fireSeq, HO.out]
          go_wp2_with fail
          go_roundw
          case rel => exact ⟨k + 1, m2, by omega, by go_num, rfl, hg2, HG3, hl2, by (repeat' (first | (with_reducible exact Below.refl _ _) | (with_reducible assumption) | (with_reducible refine below_drewN' ?_ _) | (with_reducible refine Below.drew ?_) | (with_reducible refine Below.alloc ?_ ?_ _) | (with_reducible refine Below.setCell ?_ ?_ _) | (with_reducible refine Below.then_ ?_ (by assumption) ?_) | go_size))⟩
          case measure => simp [intOf]; omega
      · have hke : k = l.length := by omega
        have hgo' := hgo.out
        rw [drop_end hlt] at hgo'
        have HG := hide hgo'; clear hgo'
        have HKE := hide hke; clear hke
        go_wp2_with fail
        go_ret3
        exact ⟨by rw [HV.out, ← HG.out]; simp [fireSeq, seqV, HKE.out], by (repeat' (first | (with_reducible exact Below.refl _ _) | (with_reducible assumption) | (with_reducible refine below_drewN' ?_ _) | (with_reducible refine Below.drew ?_) | (with_reducible refine Below.alloc ?_ ?_ _) | (with_reducible refine Below.setCell ?_ ?_ _) | (with_reducible refine Below.then_ ?_ (by assumption) ?_) | go_size))⟩

set_option maxHeartbeats 2000000 in
theorem spec_FireSequence (n : Net) (m : List UInt8) (l : List Int) (A A2 : Option Addr) (c c2 : Nat) (w : World) (hi : InI n.places) (h1 : n.trans.length ≤ c) (h2 : c ≤ 9223372036854775807) (hr : RA shTr w A n.trans) (hm : m.length ≤ 9223372036854775807) (hl : l.length ≤ 9223372036854775807) (hr2 : RA shInt w A2 l) :
    Calls Try.prog 18 #[.agg #[.int .i64 n.places, .slice A n.trans.length c], .string ⟨m.toArray⟩, .slice A2 l.length c2] w fun e w' => e = .returned (seqV (fireSeqQ n m l)) ∧ Below w.heap.size w w' := by
  obtain ⟨B, hB⟩ : ∃ B, goodNet n = B := ⟨_, rfl⟩
  have HB := hide hB; clear hB
  obtain ⟨B2, hB2⟩ : ∃ B, bitsB m n.places = B := ⟨_, rfl⟩
  have HB2 := hide hB2; clear hB2
  go_enter Try.func18, Try.ntmps18
  go_wp2_with fail
  refine (spec_l1Good n A c _ hi h1 h2 (RA.to hr ?hb)).mono ?_
  case hb => (repeat' (first | (with_reducible exact Below.refl _ _) | (with_reducible assumption) | (with_reducible refine below_drewN' ?_ _) | (with_reducible refine Below.drew ?_) | (with_reducible refine Below.alloc ?_ ?_ _) | (with_reducible refine Below.setCell ?_ ?_ _) | (with_reducible refine Below.then_ ?_ (by assumption) ?_) | go_size))
  rintro e w1 ⟨rfl, hb1⟩
  obtain ⟨hc1, hf1⟩ := bcell hb1
  have hz1 := hb1.size
  rw [World.size_alloc] at hz1
  have l1 : w.heap.size < w1.heap.size := by omega
  rw [HB.out]
  cases B
  · go_wp2_with fail
    go_ret3
    exact ⟨by simp [fireSeqQ, goodMark, HB.out, seqV], by (repeat' (first | (with_reducible exact Below.refl _ _) | (with_reducible assumption) | (with_reducible refine below_drewN' ?_ _) | (with_reducible refine Below.drew ?_) | (with_reducible refine Below.alloc ?_ ?_ _) | (with_reducible refine Below.setCell ?_ ?_ _) | (with_reducible refine Below.then_ ?_ (by assumption) ?_) | go_size))⟩
  go_wp2_with fail
  refine (spec_l1Mark m n A c _ hm).mono ?_
  rintro e w2 ⟨rfl, hb2⟩
  obtain ⟨hc2, hf2⟩ := bcell hb2
  have hz2 := hb2.size
  have l2 : w.heap.size < w2.heap.size := by omega
  rw [HB2.out]
  cases B2
  · go_wp2_with fail
    go_ret3
    exact ⟨by simp [fireSeqQ, goodMark, HB.out, HB2.out, seqV], by (repeat' (first | (with_reducible exact Below.refl _ _) | (with_reducible assumption) | (with_reducible refine below_drewN' ?_ _) | (with_reducible refine Below.drew ?_) | (with_reducible refine Below.alloc ?_ ?_ _) | (with_reducible refine Below.setCell ?_ ?_ _) | (with_reducible refine Below.then_ ?_ (by assumption) ?_) | go_size))⟩
  have HGM : Hid (goodMark n m = true) := by show _ = _; simp [goodMark, HB.out, HB2.out]
  by_cases hlen : 200 < (l.length : Int)
  · go_wp2_with fail
    go_ret3
    exact ⟨by rw [fireSeqQ_long (by omega)]; rfl, by (repeat' (first | (with_reducible exact Below.refl _ _) | (with_reducible assumption) | (with_reducible refine below_drewN' ?_ _) | (with_reducible refine Below.drew ?_) | (with_reducible refine Below.alloc ?_ ?_ _) | (with_reducible refine Below.setCell ?_ ?_ _) | (with_reducible refine Below.then_ ?_ (by assumption) ?_) | go_size))⟩
  · have hlen' : decide (200 < (l.length : Int)) = false := by simpa using hlen
    obtain ⟨R, hR⟩ : ∃ R, fireSeq n 0 m l = R := ⟨_, rfl⟩
    have HL : Hid (fireSeq n 0 m (l.drop 0) = R) := hR
    have HV : Hid (seqV (fireSeqQ n m l) = seqV R) := by show _ = _; rw [← hR, fireSeqQ_ok HGM.out hlen]
    clear hR
    go_wp2_with fail
    go_loopw [29, 1] (fun i s wr => ∃ (k : Nat) (mk : List UInt8), k ≤ l.length ∧ i = .int .i64 k ∧ s = .string ⟨mk.toArray⟩ ∧ Hid (goodMark n mk = true) ∧ Hid (fireSeq n k mk (l.drop k) = R) ∧ mk.length ≤ 9223372036854775807 ∧ Below w2.heap.size w2 wr) (fun i _ _ => l.length - (intOf i).toNat)
    case atStart => exact ⟨0, m, Nat.zero_le _, rfl, rfl, HGM, HL, hm, Below.refl _ _⟩
    case round =>
      obtain ⟨k, mk, hk, rfl, rfl, hgm, hgo, hmk, hb⟩ := hrel
      have hsz := hb.size
      obtain ⟨hcr, hfr⟩ := bcell hb
      have lr : w.heap.size < wr.heap.size := by omega
      have hbw : Below w.heap.size w wr := by (repeat' (first | (with_reducible exact Below.refl _ _) | (with_reducible assumption) | (with_reducible refine below_drewN' ?_ _) | (with_reducible refine Below.drew ?_) | (with_reducible refine Below.alloc ?_ ?_ _) | (with_reducible refine Below.setCell ?_ ?_ _) | (with_reducible refine Below.then_ ?_ (by assumption) ?_) | go_size))
      by_cases hlt : k < l.length
      · obtain ⟨t, ht⟩ := get_of_lt hlt
        obtain ⟨b, off, rfl, hbl, d1, it⟩ := hr2.int_at hbw ht
        have hgo' := hgo.out
        rw [drop_get ht] at hgo'
        have HG := hide hgo'; clear hgo' ht
        go_wp2_with fail
        refine (spec_Fire n mk t A c _ hi h1 h2 (RA.to hr ?hb) hmk).mono ?_
        case hb => (repeat' (first | (with_reducible exact Below.refl _ _) | (with_reducible assumption) | (with_reducible refine below_drewN' ?_ _) | (with_reducible refine Below.drew ?_) | (with_reducible refine Below.alloc ?_ ?_ _) | (with_reducible refine Below.setCell ?_ ?_ _) | (with_reducible refine Below.then_ ?_ (by assumption) ?_) | go_size))
        rintro e w9 ⟨rfl, hb9⟩
        rw [show fireQ n mk t = fireB n mk t from by simp [fireQ, hgm.out]]
        obtain ⟨o, ho⟩ : ∃ o, fireB n mk t = o := ⟨_, rfl⟩
        rw [ho]
        have HO := hide ho; clear ho
        cases o with
        | none =>
          rw [fireV_none]
          go_wp2_with fail
          go_ret3
          exact ⟨by rw [HV.out, ← HG.out]; simp [fireSeq, HO.out, seqV], by (repeat' (first | (with_reducible exact Below.refl _ _) | (with_reducible assumption) | (with_reducible refine below_drewN' ?_ _) | (with_reducible refine Below.drew ?_) | (with_reducible refine Below.alloc ?_ ?_ _) | (with_reducible refine Below.setCell ?_ ?_ _) | (with_reducible refine Below.then_ ?_ (by assumption) ?_) | go_size))⟩
        | some m2 =>
          rw [fireV_some]
          have hg2 : Hid (goodMark n m2 = true) := fireB_good hgm.out HO.out
          have hl2 : m2.length ≤ 9223372036854775807 := by have := good_places hg2.out; omega
          have HG3 : Hid (fireSeq n (k + 1) m2 (l.drop (k + 1)) = R) := by show _ = _; rw [← HG.out]; simp [fireSeq, HO.out]
          go_wp2_with fail
          go_roundw
          case rel => exact ⟨k + 1, m2, by omega, by go_num, rfl, hg2, HG3, hl2, by (repeat' (first | (with_reducible exact Below.refl _ _) | (with_reducible assumption) | (with_reducible refine below_drewN' ?_ _) | (with_reducible refine Below.drew ?_) | (with_reducible refine Below.alloc ?_ ?_ _) | (with_reducible refine Below.setCell ?_ ?_ _) | (with_reducible refine Below.then_ ?_ (by assumption) ?_) | go_size))⟩
          case measure => simp [intOf]; omega
      · have hke : k = l.length := by omega
        have hgo' := hgo.out
        rw [drop_end hlt] at hgo'
        have HG := hide hgo'; clear hgo'
        have HKE := hide hke; clear hke
        go_wp2_with fail
        go_ret3
        exact ⟨by rw [HV.out, ← HG.out]; simp [fireSeq, seqV, HKE.out], by (repeat' (first | (with_reducible exact Below.refl _ _) | (with_reducible assumption) | (with_reducible refine below_drewN' ?_ _) | (with_reducible refine Below.drew ?_) | (with_reducible refine Below.alloc ?_ ?_ _) | (with_reducible refine Below.setCell ?_ ?_ _) | (with_reducible refine Below.then_ ?_ (by assumption) ?_) | go_size))⟩
end Go.Proofs.Ytogfphbpjlgpdaa
