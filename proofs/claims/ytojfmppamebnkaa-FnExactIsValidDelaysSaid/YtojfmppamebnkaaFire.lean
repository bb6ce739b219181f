/-
  Walks: firing.
-/
import Derived.Test.YtojfmppamebnkaaNet2
import Derived.Test.YtojfmppamebnkaaBase2
namespace Go.Proofs.Ytojfmppamebnkaa
open Go.RowKit
set_option linter.unusedVariables false

/-- The two loops of a firing, as a walk leaves them. -/
def fireV (o : Option (List UInt8)) : Value := .tuple #[.string ⟨(optS o).1.toArray⟩, .bool (optS o).2]

set_option maxHeartbeats 2000000 in
theorem impl_fire (n : Net) (m : List UInt8) (t : Int) (A : Option Addr) (c : Nat) (w : World) (hg : goodMark n m = true) (h1 : n.trans.length ≤ c) (h2 : c ≤ 9223372036854775807) (hr : RA shTr w A n.trans) :
    Calls Try.prog 134 #[.agg #[.int .i64 n.places, .slice A n.trans.length c], .string ⟨m.toArray⟩, .int .i64 t] w fun e w' => e = .returned (fireV (fireB n m t)) ∧ Below w.heap.size w w' := by
  obtain ⟨B, hB⟩ : ∃ B, inB t 0 ((n.trans.length : Int) - 1) = B := ⟨_, rfl⟩
  have HG := hide hg; clear hg
  have HB := hide hB; clear hB
  cases B
  · go_enter Try.func134, Try.ntmps134
    go_wp2_with fail
    refine (impl_within t 0 _ _).mono ?_
    rintro e w1 ⟨rfl, rfl⟩
    rw [HB.out]
    go_wp2_with fail
    go_ret2
    exact ⟨by simp [fireV, fireB, HB.out, optS], by (repeat' (first | (with_reducible exact Below.refl _ _) | (with_reducible assumption) | (with_reducible refine below_drewN' ?_ _) | (with_reducible refine Below.drew ?_) | (with_reducible refine Below.alloc ?_ ?_ _) | (with_reducible refine Below.setCell ?_ ?_ _) | (with_reducible refine Below.then_ ?_ (by assumption) ?_) | go_size))⟩
  · obtain ⟨k, rfl⟩ := Int.eq_ofNat_of_zero_le (inB_iff.1 HB.out).1
    have hk : k < n.trans.length := by have := (inB_iff.1 HB.out).2; omega
    obtain ⟨x, hx⟩ := get_of_lt hk
    obtain ⟨hpre, hpost⟩ := good_tr HG.out hx
    obtain ⟨b, off, A_pre, c_pre, A_post, c_post, rfl, hbl, d1, d2, g0, g1, g2, g3, g4, g5⟩ := hr.Tr_at (Below.refl _ _) hx
    obtain ⟨E, hE⟩ : ∃ E, enB m x = E := ⟨_, rfl⟩
    have HE := hide hE; clear hE
    have HX := hide hx; clear hx
    have HPre := hide hpre; clear hpre
    have HPost := hide hpost; clear hpost
    have hfv : fireV (fireB n m k) = fireV (if enB m x then fireM x m else none) := by simp [fireB, HB.out, HX.out]
    have HV := hide hfv; clear hfv
    cases E
    · go_enter Try.func134, Try.ntmps134
      go_wp2_with fail
      refine (impl_within _ 0 _ _).mono ?_
      rintro e w1 ⟨rfl, rfl⟩
      rw [HB.out]
      go_wp2_with fail
      refine (impl_isEnabled x m A_pre c_pre A_post c_post _ g0 g1 (RA.to g2 ?hb) HPre.out).mono ?_
      case hb => (repeat' (first | (with_reducible exact Below.refl _ _) | (with_reducible assumption) | (with_reducible refine below_drewN' ?_ _) | (with_reducible refine Below.drew ?_) | (with_reducible refine Below.alloc ?_ ?_ _) | (with_reducible refine Below.setCell ?_ ?_ _) | (with_reducible refine Below.then_ ?_ (by assumption) ?_) | go_size))
      rintro e w2 ⟨rfl, hb2⟩
      rw [HE.out]
      go_wp2_with fail
      go_ret2
      exact ⟨by rw [HV.out]; simp [fireV, HE.out, optS], by (repeat' (first | (with_reducible exact Below.refl _ _) | (with_reducible assumption) | (with_reducible refine below_drewN' ?_ _) | (with_reducible refine Below.drew ?_) | (with_reducible refine Below.alloc ?_ ?_ _) | (with_reducible refine Below.setCell ?_ ?_ _) | (with_reducible refine Below.then_ ?_ (by assumption) ?_) | go_size))⟩
    · go_enter Try.func134, Try.ntmps134
      go_wp2_with fail
      refine (impl_within _ 0 _ _).mono ?_
      rintro e w1 ⟨rfl, rfl⟩
      rw [HB.out]
      go_wp2_with fail
      refine (impl_isEnabled x m A_pre c_pre A_post c_post _ g0 g1 (RA.to g2 ?hb) HPre.out).mono ?_
      case hb => (repeat' (first | (with_reducible exact Below.refl _ _) | (with_reducible assumption) | (with_reducible refine below_drewN' ?_ _) | (with_reducible refine Below.drew ?_) | (with_reducible refine Below.alloc ?_ ?_ _) | (with_reducible refine Below.setCell ?_ ?_ _) | (with_reducible refine Below.then_ ?_ (by assumption) ?_) | go_size))
      rintro e w2 ⟨rfl, hb2⟩
      rw [HE.out]
      obtain ⟨hc2, hf2⟩ := bcell hb2
      have hz2 := hb2.size
      rw [World.size_alloc] at hz2
      have l2 : w.heap.size < w2.heap.size := by omega
      have l2b : b < w2.heap.size := by omega
      obtain ⟨cap, w3, hconv, hrow, hb3, hz3⟩ := conv_bytes (P := Try.prog) (src := 9) (dst := 155) (e := 5) w2 m Try.underlying9 Try.underlying155 Try.underlying5
      obtain ⟨hc3, hf3⟩ := bcell hb3
      have l3 : w.heap.size < w3.heap.size := by omega
      have hb23 : Below w.heap.size w w3 := by (repeat' (first | (with_reducible exact Below.refl _ _) | (with_reducible assumption) | (with_reducible refine below_drewN' ?_ _) | (with_reducible refine Below.drew ?_) | (with_reducible refine Below.alloc ?_ ?_ _) | (with_reducible refine Below.setCell ?_ ?_ _) | (with_reducible refine Below.then_ ?_ (by assumption) ?_) | go_size))
      have HRow := hide hrow; clear hrow
      have lg : w.heap.size < w2.heap.size := l2
      have l3g : w2.heap.size < w3.heap.size := hz3
      go_wp2_with fail
      clear hconv
      obtain ⟨R, hR⟩ : ∃ R, fireM x m = R := ⟨_, rfl⟩
      have HR := hide hR
      have HL : Hid (markM x.post (clearM (x.pre.drop 0) m) = R) := hR
      clear hR
      go_loopw [39, 10] (fun i _ wr => ∃ (j : Nat) (mk : List UInt8), j ≤ x.pre.length ∧ i = .int .i64 j ∧ Hid (markM x.post (clearM (x.pre.drop j) mk) = R) ∧ mk.length = m.length ∧ Hid (BRow wr (w2.heap.size) mk) ∧ Below (w2.heap.size) w3 wr) (fun i _ _ => x.pre.length - (intOf i).toNat)
      case atStart => exact ⟨0, m, Nat.zero_le _, rfl, HL, rfl, HRow, Below.refl _ _⟩
      case round =>
        obtain ⟨j, mk, hj, rfl, hgo, hml, hrow, hb⟩ := hrel
        have hsz := hb.size
        have HML := hide hml; clear hml
        by_cases hlt : j < x.pre.length
        · obtain ⟨p, hp⟩ := get_of_lt hlt
          obtain ⟨hp0, hp1⟩ := HPre.out p (List.mem_of_getElem? hp)
          obtain ⟨q, rfl⟩ := Int.eq_ofNat_of_zero_le hp0
          have hbw : Below w.heap.size w wr := hb23.trans (hb.mono (by omega))
          obtain ⟨b', off', rfl, hbl', h1', ip⟩ := g2.int_at hbw hp
          have hgo' := hgo.out
          rw [drop_get hp] at hgo'
          have HG2 := hide hgo'; clear hgo' hp
          have hq : q < m.length := by omega
          obtain ⟨v, hv⟩ := get_of_lt (show q < mk.length by rw [HML.out]; omega)
          have hcell := hrow.out.cell hv
          have hfz := hrow.out.frozen (lt_of_get hv)
          have HV2 := hide hv; clear hv
          have hrow2 : Hid (BRow (wr.setCell ⟨w2.heap.size, q, none⟩ (.int .u8 48)) (w2.heap.size) (mk.set q 48)) := hrow.out.set (lt_of_get HV2.out) 48
          go_wp2_with fail
          go_roundw
          case rel => exact ⟨j + 1, mk.set q 48, by omega, by go_num, HG2, by rw [List.length_set, HML.out], hrow2, by (repeat' (first | (with_reducible exact Below.refl _ _) | (with_reducible assumption) | (with_reducible refine below_drewN' ?_ _) | (with_reducible refine Below.drew ?_) | (with_reducible refine Below.alloc ?_ ?_ _) | (with_reducible refine Below.setCell ?_ ?_ _) | (with_reducible refine Below.then_ ?_ (by assumption) ?_) | go_size))⟩
          case measure => simp [intOf]; omega
        · have hgo' := hgo.out
          rw [drop_end hlt] at hgo'
          have HG2 : Hid (markM (x.post.drop 0) mk = R) := hgo'
          clear hgo'
          have hcr : ∀ b o, b < w2.heap.size → wr.cell? ⟨b, o, none⟩ = w3.cell? ⟨b, o, none⟩ := fun b o h => hb.cell (p := ⟨b, o, none⟩) h
          have lr : w.heap.size < wr.heap.size := by omega
          have lrb : b < wr.heap.size := by omega
          have lrw : b < w.heap.size := hbl
          have hbw : Below w.heap.size w wr := hb23.trans (hb.mono (by omega))
          have e1 : wr.cell? ⟨b, off + k * 2, none⟩ = some (.slice A_pre x.pre.length c_pre) := (hbw.cell (p := ⟨b, off + k * 2, none⟩) hbl).trans d1
          have e2 : wr.cell? ⟨b, off + k * 2 + 1, none⟩ = some (.slice A_post x.post.length c_post) := (hbw.cell (p := ⟨b, off + k * 2 + 1, none⟩) hbl).trans d2
          go_wp2_with fail
          obtain ⟨wo, rfl⟩ : ∃ wo : World, wo = wr := ⟨_, rfl⟩
          clear hcr
          go_loopw [54, 12] (fun i _ wr => ∃ (j : Nat) (mk : List UInt8), j ≤ x.post.length ∧ i = .int .i64 j ∧ Hid (markM (x.post.drop j) mk = R) ∧ mk.length = m.length ∧ Hid (BRow wr (w2.heap.size) mk) ∧ Below (w2.heap.size) w3 wr) (fun i _ _ => x.post.length - (intOf i).toNat)
          case atStart => exact ⟨0, mk, Nat.zero_le _, rfl, HG2, HML.out, hrow, hb⟩
          case round =>
            clear hb HG2 hrow HML hlt hj hsz hbw e1 e2 lr lrb
            clear hgo
            obtain ⟨j2, mk2, hj2, rfl, hgo, hml, hrow, hb⟩ := hrel
            have hsz := hb.size
            have HML := hide hml; clear hml
            by_cases hlt : j2 < x.post.length
            · obtain ⟨p, hp⟩ := get_of_lt hlt
              obtain ⟨hp0, hp1⟩ := HPost.out p (List.mem_of_getElem? hp)
              obtain ⟨q, rfl⟩ := Int.eq_ofNat_of_zero_le hp0
              have hbw : Below w.heap.size w wr := hb23.trans (hb.mono (by omega))
              obtain ⟨b', off', rfl, hbl', h1', ip⟩ := g5.int_at hbw hp
              have hgo' := hgo.out
              rw [drop_get hp] at hgo'
              have HG2 := hide hgo'; clear hgo' hp
              have hq : q < m.length := by omega
              obtain ⟨v, hv⟩ := get_of_lt (show q < mk2.length by rw [HML.out]; omega)
              have hcell := hrow.out.cell hv
              have hfz := hrow.out.frozen (lt_of_get hv)
              have hgd : Hid (mk2[q]?.getD 0 = v) := by show _ = _; simp [hv]
              have HV2 := hide hv; clear hv
              have hrow2 : Hid (BRow (wr.setCell ⟨w2.heap.size, q, none⟩ (.int .u8 49)) (w2.heap.size) (mk2.set q 49)) := hrow.out.set (lt_of_get HV2.out) 49
              by_cases hb49 : v = 49
              · have q0 : ((v.toNat : Int) == 49) = true := byte_eq hb49 rfl
                have HB49 := hide hb49; clear hb49
                go_wp2_with fail
                go_ret2
                exact ⟨by rw [HV.out, HE.out, if_pos rfl, HR.out, ← HG2.out]; simp [markM, hgd.out, HB49.out, fireV, optS], by (repeat' (first | (with_reducible exact Below.refl _ _) | (with_reducible assumption) | (with_reducible refine below_drewN' ?_ _) | (with_reducible refine Below.drew ?_) | (with_reducible refine Below.alloc ?_ ?_ _) | (with_reducible refine Below.setCell ?_ ?_ _) | (with_reducible refine Below.then_ ?_ (by assumption) ?_) | go_size))⟩
              · have q0 : ((v.toNat : Int) == 49) = false := byte_ne hb49 rfl
                have HB49 := hide hb49; clear hb49
                have HG3 : Hid (markM (x.post.drop (j2 + 1)) (mk2.set q 49) = R) := by show _ = _; rw [← HG2.out]; simp [markM, hgd.out, HB49.out]
                go_wp2_with fail
                go_roundw
                case rel => exact ⟨j2 + 1, mk2.set q 49, by omega, by go_num, HG3, by rw [List.length_set, HML.out], hrow2, by (repeat' (first | (with_reducible exact Below.refl _ _) | (with_reducible assumption) | (with_reducible refine below_drewN' ?_ _) | (with_reducible refine Below.drew ?_) | (with_reducible refine Below.alloc ?_ ?_ _) | (with_reducible refine Below.setCell ?_ ?_ _) | (with_reducible refine Below.then_ ?_ (by assumption) ?_) | go_size))⟩
                case measure => simp [intOf]; omega
            · have hgo' := hgo.out
              rw [drop_end hlt] at hgo'
              have HG2 := hide hgo'; clear hgo'
              have hbw : Below w.heap.size w wr := hb23.trans (hb.mono (by omega))
              have hcb := conv_back (P := Try.prog) (src := 155) (dst := 9) (e := 5) (cap := cap) hrow.out HML.out Try.underlying155 Try.underlying5 Try.underlying9
              go_wp2_with fail
              go_ret2
              exact ⟨by rw [HV.out, HE.out, if_pos rfl, HR.out, ← HG2.out]; simp [markM, fireV, optS], by (repeat' (first | (with_reducible exact Below.refl _ _) | (with_reducible assumption) | (with_reducible refine below_drewN' ?_ _) | (with_reducible refine Below.drew ?_) | (with_reducible refine Below.alloc ?_ ?_ _) | (with_reducible refine Below.setCell ?_ ?_ _) | (with_reducible refine Below.then_ ?_ (by assumption) ?_) | go_size))⟩

/-! ### the reference's -/
set_option maxHeartbeats 400000 in
theorem spec_l1Set2 (A : Option Addr) (c : Nat) (l : List Int) (n : Int) (w : World) (hl : l.length ≤ 9223372036854775807) (hr : RA shInt w A l) :
    Calls Try.prog 159 #[.slice A l.length c, .int .i64 n] w fun e w' => e = .returned (.bool (incB n l)) ∧ w' = w := by
  go_enter Try.func159, Try.ntmps159
  go_wp2_with fail
  refine (spec_l1Rising A c l n _ hl trivial hr).mono ?_
  rintro e w' ⟨rfl, rfl⟩
  go_wp2
  go_ret
  exact ⟨rfl, rfl⟩

set_option maxHeartbeats 2000000 in
theorem spec_l1Fire (n : Net) (m : List UInt8) (k : Nat) (x : Tr) (A : Option Addr) (c : Nat) (w : World) (hg : goodMark n m = true) (hx : n.trans[k]? = some x) (h1 : n.trans.length ≤ c) (h2 : c ≤ 9223372036854775807) (hr : RA shTr w A n.trans) :
    Calls Try.prog 131 #[.agg #[.int .i64 n.places, .slice A n.trans.length c], .string ⟨m.toArray⟩, .int .i64 k] w fun e w' => e = .returned (fireV (fireM x m)) ∧ Below w.heap.size w w' := by
  have hk : k < n.trans.length := lt_of_get hx
  obtain ⟨hpre, hpost⟩ := good_tr hg hx
  obtain ⟨b, off, A_pre, c_pre, A_post, c_post, rfl, hbl, d1, d2, g0, g1, g2, g3, g4, g5⟩ := hr.Tr_at (Below.refl _ _) hx
  clear hg
  have HX := hide hx; clear hx
  have HPre := hide hpre; clear hpre
  have HPost := hide hpost; clear hpost
  · · obtain ⟨cap, w3, hconv, hrow, hb3, hz3⟩ := conv_bytes (P := Try.prog) (src := 9) (dst := 155) (e := 5) (w.alloc (.cells #[.int .i64 n.places, .slice (some ⟨b, off, none⟩) n.trans.length c] 35)) m Try.underlying9 Try.underlying155 Try.underlying5
      obtain ⟨hc3, hf3⟩ := bcell hb3
      have hb23 : Below w.heap.size w w3 := by (repeat' (first | (with_reducible exact Below.refl _ _) | (with_reducible assumption) | (with_reducible refine below_drewN' ?_ _) | (with_reducible refine Below.drew ?_) | (with_reducible refine Below.alloc ?_ ?_ _) | (with_reducible refine Below.setCell ?_ ?_ _) | (with_reducible refine Below.then_ ?_ (by assumption) ?_) | go_size))
      rw [World.size_alloc] at hrow hz3 hc3
      have l3 : w.heap.size < w3.heap.size := by omega
      have lg : w.heap.size < w.heap.size + 1 := by omega
      have HRow := hide hrow; clear hrow
      have l3g : w.heap.size + 1 < w3.heap.size := hz3
      go_enter Try.func131, Try.ntmps131
      go_wp2_with fail
      clear hconv
      obtain ⟨R, hR⟩ : ∃ R, fireM x m = R := ⟨_, rfl⟩
      have HR := hide hR
      have HL : Hid (markM x.post (clearM (x.pre.drop 0) m) = R) := hR
      clear hR
      go_loopw [22, 10] (fun i _ wr => ∃ (j : Nat) (mk : List UInt8), j ≤ x.pre.length ∧ i = .int .i64 j ∧ Hid (markM x.post (clearM (x.pre.drop j) mk) = R) ∧ mk.length = m.length ∧ Hid (BRow wr (w.heap.size + 1) mk) ∧ Below (w.heap.size + 1) w3 wr) (fun i _ _ => x.pre.length - (intOf i).toNat)
      case atStart => exact ⟨0, m, Nat.zero_le _, rfl, HL, rfl, HRow, Below.refl _ _⟩
      case round =>
        obtain ⟨j, mk, hj, rfl, hgo, hml, hrow, hb⟩ := hrel
        have hsz := hb.size
        have HML := hide hml; clear hml
        by_cases hlt : j < x.pre.length
        · obtain ⟨p, hp⟩ := get_of_lt hlt
          obtain ⟨hp0, hp1⟩ := HPre.out p (List.mem_of_getElem? hp)
          obtain ⟨q, rfl⟩ := Int.eq_ofNat_of_zero_le hp0
          have hbw : Below w.heap.size w wr := hb23.trans (hb.mono (by omega))
          obtain ⟨b', off', rfl, hbl', h1', ip⟩ := g2.int_at hbw hp
          have hgo' := hgo.out
          rw [drop_get hp] at hgo'
          have HG2 := hide hgo'; clear hgo' hp
          have hq : q < m.length := by omega
          obtain ⟨v, hv⟩ := get_of_lt (show q < mk.length by rw [HML.out]; omega)
          have hcell := hrow.out.cell hv
          have hfz := hrow.out.frozen (lt_of_get hv)
          have HV2 := hide hv; clear hv
          have hrow2 : Hid (BRow (wr.setCell ⟨w.heap.size + 1, q, none⟩ (.int .u8 48)) (w.heap.size + 1) (mk.set q 48)) := hrow.out.set (lt_of_get HV2.out) 48
          go_wp2_with fail
          go_roundw
          case rel => exact ⟨j + 1, mk.set q 48, by omega, by go_num, HG2, by rw [List.length_set, HML.out], hrow2, by (repeat' (first | (with_reducible exact Below.refl _ _) | (with_reducible assumption) | (with_reducible refine below_drewN' ?_ _) | (with_reducible refine Below.drew ?_) | (with_reducible refine Below.alloc ?_ ?_ _) | (with_reducible refine Below.setCell ?_ ?_ _) | (with_reducible refine Below.then_ ?_ (by assumption) ?_) | go_size))⟩
          case measure => simp [intOf]; omega
        · have hgo' := hgo.out
          rw [drop_end hlt] at hgo'
          have HG2 : Hid (markM (x.post.drop 0) mk = R) := hgo'
          clear hgo'
          have hcr : ∀ b o, b < w.heap.size + 1 → wr.cell? ⟨b, o, none⟩ = w3.cell? ⟨b, o, none⟩ := fun b o h => hb.cell (p := ⟨b, o, none⟩) h
          have lr : w.heap.size < wr.heap.size := by omega
          have lrb : b < wr.heap.size := by omega
          have lrw : b < w.heap.size := hbl
          have hbw : Below w.heap.size w wr := hb23.trans (hb.mono (by omega))
          have e1 : wr.cell? ⟨b, off + k * 2, none⟩ = some (.slice A_pre x.pre.length c_pre) := (hbw.cell (p := ⟨b, off + k * 2, none⟩) hbl).trans d1
          have e2 : wr.cell? ⟨b, off + k * 2 + 1, none⟩ = some (.slice A_post x.post.length c_post) := (hbw.cell (p := ⟨b, off + k * 2 + 1, none⟩) hbl).trans d2
          go_wp2_with fail
          obtain ⟨wo, rfl⟩ : ∃ wo : World, wo = wr := ⟨_, rfl⟩
          clear hcr
          go_loopw [37, 12] (fun i _ wr => ∃ (j : Nat) (mk : List UInt8), j ≤ x.post.length ∧ i = .int .i64 j ∧ Hid (markM (x.post.drop j) mk = R) ∧ mk.length = m.length ∧ Hid (BRow wr (w.heap.size + 1) mk) ∧ Below (w.heap.size + 1) w3 wr) (fun i _ _ => x.post.length - (intOf i).toNat)
          case atStart => exact ⟨0, mk, Nat.zero_le _, rfl, HG2, HML.out, hrow, hb⟩
          case round =>
            clear hb HG2 hrow HML hlt hj hsz hbw e1 e2 lr lrb
            clear hgo
            obtain ⟨j2, mk2, hj2, rfl, hgo, hml, hrow, hb⟩ := hrel
            have hsz := hb.size
            have HML := hide hml; clear hml
            by_cases hlt : j2 < x.post.length
            · obtain ⟨p, hp⟩ := get_of_lt hlt
              obtain ⟨hp0, hp1⟩ := HPost.out p (List.mem_of_getElem? hp)
              obtain ⟨q, rfl⟩ := Int.eq_ofNat_of_zero_le hp0
              have hbw : Below w.heap.size w wr := hb23.trans (hb.mono (by omega))
              obtain ⟨b', off', rfl, hbl', h1', ip⟩ := g5.int_at hbw hp
              have hgo' := hgo.out
              rw [drop_get hp] at hgo'
              have HG2 := hide hgo'; clear hgo' hp
              have hq : q < m.length := by omega
              obtain ⟨v, hv⟩ := get_of_lt (show q < mk2.length by rw [HML.out]; omega)
              have hcell := hrow.out.cell hv
              have hfz := hrow.out.frozen (lt_of_get hv)
              have hgd : Hid (mk2[q]?.getD 0 = v) := by show _ = _; simp [hv]
              have HV2 := hide hv; clear hv
              have hrow2 : Hid (BRow (wr.setCell ⟨w.heap.size + 1, q, none⟩ (.int .u8 49)) (w.heap.size + 1) (mk2.set q 49)) := hrow.out.set (lt_of_get HV2.out) 49
              by_cases hb49 : v = 49
              · have q0 : ((v.toNat : Int) == 49) = true := byte_eq hb49 rfl
                have HB49 := hide hb49; clear hb49
                go_wp2_with fail
                go_ret2
                exact ⟨by rw [ HR.out, ← HG2.out]; simp [markM, hgd.out, HB49.out, fireV, optS], by (repeat' (first | (with_reducible exact Below.refl _ _) | (with_reducible assumption) | (with_reducible refine below_drewN' ?_ _) | (with_reducible refine Below.drew ?_) | (with_reducible refine Below.alloc ?_ ?_ _) | (with_reducible refine Below.setCell ?_ ?_ _) | (with_reducible refine Below.then_ ?_ (by assumption) ?_) | go_size))⟩
              · have q0 : ((v.toNat : Int) == 49) = false := byte_ne hb49 rfl
                have HB49 := hide hb49; clear hb49
                have HG3 : Hid (markM (x.post.drop (j2 + 1)) (mk2.set q 49) = R) := by show _ = _; rw [← HG2.out]; simp [markM, hgd.out, HB49.out]
                go_wp2_with fail
                go_roundw
                case rel => exact ⟨j2 + 1, mk2.set q 49, by omega, by go_num, HG3, by rw [List.length_set, HML.out], hrow2, by (repeat' (first | (with_reducible exact Below.refl _ _) | (with_reducible assumption) | (with_reducible refine below_drewN' ?_ _) | (with_reducible refine Below.drew ?_) | (with_reducible refine Below.alloc ?_ ?_ _) | (with_reducible refine Below.setCell ?_ ?_ _) | (with_reducible refine Below.then_ ?_ (by assumption) ?_) | go_size))⟩
                case measure => simp [intOf]; omega
            · have hgo' := hgo.out
              rw [drop_end hlt] at hgo'
              have HG2 := hide hgo'; clear hgo'
              have hbw : Below w.heap.size w wr := hb23.trans (hb.mono (by omega))
              have hcb := conv_back (P := Try.prog) (src := 155) (dst := 9) (e := 5) (cap := cap) hrow.out HML.out Try.underlying155 Try.underlying5 Try.underlying9
              go_wp2_with fail
              go_ret2
              exact ⟨by rw [ HR.out, ← HG2.out]; simp [markM, fireV, optS], by (repeat' (first | (with_reducible exact Below.refl _ _) | (with_reducible assumption) | (with_reducible refine below_drewN' ?_ _) | (with_reducible refine Below.drew ?_) | (with_reducible refine Below.alloc ?_ ?_ _) | (with_reducible refine Below.setCell ?_ ?_ _) | (with_reducible refine Below.then_ ?_ (by assumption) ?_) | go_size))⟩

set_option maxHeartbeats 1000000 in
theorem spec_l1Ready (n : Net) (m : List UInt8) (k : Nat) (x : Tr) (A : Option Addr) (c : Nat) (w : World) (hp : PlacesIn x.pre m.length) (hx : n.trans[k]? = some x) (h1 : n.trans.length ≤ c) (h2 : c ≤ 9223372036854775807) (hr : RA shTr w A n.trans) :
    Calls Try.prog 161 #[.agg #[.int .i64 n.places, .slice A n.trans.length c], .string ⟨m.toArray⟩, .int .i64 k] w fun e w' => e = .returned (.bool (readyB m x)) ∧ Below w.heap.size w w' := by
  have hk : k < n.trans.length := lt_of_get hx
  obtain ⟨b, off, A_pre, c_pre, A_post, c_post, rfl, hbl, d1, d2, g0, g1, g2, g3, g4, g5⟩ := hr.Tr_at (Below.refl _ _) hx
  have HX := hide hx; clear hx
  have HPre := hide hp; clear hp
  obtain ⟨R, hR⟩ : ∃ R, readyB m x = R := ⟨_, rfl⟩
  have HR := hide hR
  have HL : Hid ((x.pre.drop 0).all (fun p => m.getD p.toNat 0 == 49) = R) := hR
  clear hR
  go_enter Try.func161, Try.ntmps161
  go_wp2_with fail
  go_loopw [16, 8] (fun i _ wr => ∃ j : Nat, j ≤ x.pre.length ∧ i = .int .i64 j ∧ Hid ((x.pre.drop j).all (fun p => m.getD p.toNat 0 == 49) = R) ∧ Below w.heap.size w wr) (fun i _ _ => x.pre.length - (intOf i).toNat)
  case atStart => exact ⟨0, Nat.zero_le _, rfl, HL, by (repeat' (first | (with_reducible exact Below.refl _ _) | (with_reducible assumption) | (with_reducible refine below_drewN' ?_ _) | (with_reducible refine Below.drew ?_) | (with_reducible refine Below.alloc ?_ ?_ _) | (with_reducible refine Below.setCell ?_ ?_ _) | (with_reducible refine Below.then_ ?_ (by assumption) ?_) | go_size))⟩
  case round =>
    obtain ⟨j, hj, rfl, hgo, hb⟩ := hrel
    have hsz := hb.size
    by_cases hlt : j < x.pre.length
    · obtain ⟨p, hp⟩ := get_of_lt hlt
      obtain ⟨hp0, hp1⟩ := HPre.out p (List.mem_of_getElem? hp)
      obtain ⟨q, rfl⟩ := Int.eq_ofNat_of_zero_le hp0
      obtain ⟨b', off', rfl, hbl', h1', ip⟩ := g2.int_at hb hp
      have hgo' := hgo.out
      rw [drop_get hp, List.all_cons] at hgo'
      have HG2 := hide hgo'; clear hgo' hp
      have hq : q < m.length := by omega
      obtain ⟨v, hv⟩ := get_of_lt hq
      have hbk := byte_at hv
      have hgd : Hid (m[q]?.getD 0 = v) := by show _ = _; simp [hv]
      clear hv
      by_cases hb49 : v = 49
      · have q0 : ((v.toNat : Int) != 49) = false := byte_eq' hb49 rfl
        have HG3 : Hid ((x.pre.drop (j + 1)).all (fun p => m.getD p.toNat 0 == 49) = R) := by
          have h := HG2.out
          show _ = _
          rw [← h]
          simp [hgd.out, hb49]
        clear hb49
        go_wp2_with fail
        go_roundw
        case rel => exact ⟨j + 1, by omega, by go_num, HG3, by (repeat' (first | (with_reducible exact Below.refl _ _) | (with_reducible assumption) | (with_reducible refine below_drewN' ?_ _) | (with_reducible refine Below.drew ?_) | (with_reducible refine Below.alloc ?_ ?_ _) | (with_reducible refine Below.setCell ?_ ?_ _) | (with_reducible refine Below.then_ ?_ (by assumption) ?_) | go_size))⟩
        case measure => simp [intOf]; omega
      · have q0 : ((v.toNat : Int) != 49) = true := byte_ne' hb49 rfl
        have HB49 := hide hb49; clear hb49
        go_wp2_with fail
        go_ret
        exact ⟨ret_bool (by rw [HR.out, ← HG2.out]; simp [hgd.out, HB49.out]), by (repeat' (first | (with_reducible exact Below.refl _ _) | (with_reducible assumption) | (with_reducible refine below_drewN' ?_ _) | (with_reducible refine Below.drew ?_) | (with_reducible refine Below.alloc ?_ ?_ _) | (with_reducible refine Below.setCell ?_ ?_ _) | (with_reducible refine Below.then_ ?_ (by assumption) ?_) | go_size))⟩
    · have hgo' := hgo.out
      rw [drop_end hlt] at hgo'
      have HG2 := hide hgo'; clear hgo'
      go_wp2_with fail
      go_ret
      exact ⟨ret_bool (by rw [HR.out, ← HG2.out]; rfl), by (repeat' (first | (with_reducible exact Below.refl _ _) | (with_reducible assumption) | (with_reducible refine below_drewN' ?_ _) | (with_reducible refine Below.drew ?_) | (with_reducible refine Below.alloc ?_ ?_ _) | (with_reducible refine Below.setCell ?_ ?_ _) | (with_reducible refine Below.then_ ?_ (by assumption) ?_) | go_size))⟩
end Go.Proofs.Ytojfmppamebnkaa
