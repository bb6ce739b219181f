/-
  Walks: the reference's validity of nets; Fire; FireSequence.
-/
import Derived.Test.YtojfmppamebnkaaFire
namespace Go.Proofs.Ytojfmppamebnkaa
open Go.RowKit
set_option linter.unusedVariables false

theorem trB_iff (places : Int) (t : Tr) : trB places t = (!t.pre.isEmpty && incB (places - 1) t.pre && incB (places - 1) t.post) := rfl

set_option maxHeartbeats 2000000 in
theorem spec_l1Good (n : Net) (A : Option Addr) (c : Nat) (w : World) (hi : InI n.places) (h1 : n.trans.length ≤ c) (h2 : c ≤ 9223372036854775807) (hr : RA shTr w A n.trans) :
    Calls Try.prog 127 #[.agg #[.int .i64 n.places, .slice A n.trans.length c]] w fun e w' => e = .returned (.bool (goodNet n)) ∧ Below w.heap.size w w' := by
  obtain ⟨B, hB⟩ : ∃ B, inB n.places 1 30 = B := ⟨_, rfl⟩
  have HB := hide hB; clear hB
  cases B
  · have HGN : Hid (goodNet n = false) := by show _ = _; simp [goodNet, HB.out]
    go_enter Try.func127, Try.ntmps127
    go_wp2_with fail
    go_loopw [8, 4] (fun i _ wr => ∃ k : Nat, k ≤ n.trans.length ∧ i = .int .i64 k ∧ Below (w.heap.size + 1) (w.alloc (.cells #[.int .i64 n.places, .slice A n.trans.length c] 35)) wr) (fun i _ _ => n.trans.length - (intOf i).toNat)
    case atStart => exact ⟨0, Nat.zero_le _, rfl, Below.refl _ _⟩
    case round =>
      obtain ⟨k, hk, rfl, hb⟩ := hrel
      have hsz := hb.size
      rw [World.size_alloc] at hsz
      have hcr : ∀ b o, b < w.heap.size + 1 → wr.cell? ⟨b, o, none⟩ = (w.alloc (.cells #[.int .i64 n.places, .slice A n.trans.length c] 35)).cell? ⟨b, o, none⟩ := fun b o h => hb.cell (p := ⟨b, o, none⟩) h
      have lr : w.heap.size < wr.heap.size := by omega
      have hbw : Below w.heap.size w wr := ((Below.refl w.heap.size w).alloc (Nat.le_refl _) _).trans (hb.mono (by omega))
      by_cases hlt : k < n.trans.length
      · obtain ⟨x, hx⟩ := get_of_lt hlt
        obtain ⟨b, off, A_pre, c_pre, A_post, c_post, rfl, hbl, d1, d2, g0, g1, g2, g3, g4, g5⟩ := hr.Tr_at hbw hx
        clear hx
        by_cases h0 : x.pre = []
        · have b0 : ((x.pre.length : Int) == 0) = true := by rw [h0]; rfl
          clear h0
          go_wp2_with fail
          go_ret
          exact ⟨ret_bool HGN.out.symm, by (repeat' (first | (with_reducible exact Below.refl _ _) | (with_reducible assumption) | (with_reducible refine below_drewN' ?_ _) | (with_reducible refine Below.drew ?_) | (with_reducible refine Below.alloc ?_ ?_ _) | (with_reducible refine Below.setCell ?_ ?_ _) | (with_reducible refine Below.then_ ?_ (by assumption) ?_) | go_size))⟩
        · have b0 : ((x.pre.length : Int) == 0) = false := by have := List.length_pos_iff.2 h0; simp; exact h0
          clear h0
          go_wp2_with fail
          refine (spec_l1Set2 A_pre c_pre x.pre _ _ (by omega) (RA.to g2 ?hb)).mono ?_
          case hb => (repeat' (first | (with_reducible exact Below.refl _ _) | (with_reducible assumption) | (with_reducible refine below_drewN' ?_ _) | (with_reducible refine Below.drew ?_) | (with_reducible refine Below.alloc ?_ ?_ _) | (with_reducible refine Below.setCell ?_ ?_ _) | (with_reducible refine Below.then_ ?_ (by assumption) ?_) | go_size))
          rintro e w1 ⟨rfl, rfl⟩
          generalize incB _ x.pre = B1
          cases B1
          · go_wp2_with fail
            go_ret
            exact ⟨ret_bool HGN.out.symm, by (repeat' (first | (with_reducible exact Below.refl _ _) | (with_reducible assumption) | (with_reducible refine below_drewN' ?_ _) | (with_reducible refine Below.drew ?_) | (with_reducible refine Below.alloc ?_ ?_ _) | (with_reducible refine Below.setCell ?_ ?_ _) | (with_reducible refine Below.then_ ?_ (by assumption) ?_) | go_size))⟩
          · go_wp2_with fail
            refine (spec_l1Set2 A_post c_post x.post _ _ (by omega) (RA.to g5 ?hb)).mono ?_
            case hb => (repeat' (first | (with_reducible exact Below.refl _ _) | (with_reducible assumption) | (with_reducible refine below_drewN' ?_ _) | (with_reducible refine Below.drew ?_) | (with_reducible refine Below.alloc ?_ ?_ _) | (with_reducible refine Below.setCell ?_ ?_ _) | (with_reducible refine Below.then_ ?_ (by assumption) ?_) | go_size))
            rintro e w1 ⟨rfl, rfl⟩
            generalize incB _ x.post = B2
            cases B2
            · go_wp2_with fail
              go_ret
              exact ⟨ret_bool HGN.out.symm, by (repeat' (first | (with_reducible exact Below.refl _ _) | (with_reducible assumption) | (with_reducible refine below_drewN' ?_ _) | (with_reducible refine Below.drew ?_) | (with_reducible refine Below.alloc ?_ ?_ _) | (with_reducible refine Below.setCell ?_ ?_ _) | (with_reducible refine Below.then_ ?_ (by assumption) ?_) | go_size))⟩
            · go_wp2_with fail
              go_roundw
              case rel => exact ⟨k + 1, by omega, by go_num, by (repeat' (first | (with_reducible exact Below.refl _ _) | (with_reducible assumption) | (with_reducible refine below_drewN' ?_ _) | (with_reducible refine Below.drew ?_) | (with_reducible refine Below.alloc ?_ ?_ _) | (with_reducible refine Below.setCell ?_ ?_ _) | (with_reducible refine Below.then_ ?_ (by assumption) ?_) | go_size))⟩
              case measure => simp [intOf]; omega
      · go_wp2_with fail
        refine (spec_l1In n.places 1 30 _).mono ?_
        rintro e w1 ⟨rfl, rfl⟩
        rw [HB.out]
        go_wp2_with fail
        go_ret
        exact ⟨ret_bool HGN.out.symm, by (repeat' (first | (with_reducible exact Below.refl _ _) | (with_reducible assumption) | (with_reducible refine below_drewN' ?_ _) | (with_reducible refine Below.drew ?_) | (with_reducible refine Below.alloc ?_ ?_ _) | (with_reducible refine Below.setCell ?_ ?_ _) | (with_reducible refine Below.then_ ?_ (by assumption) ?_) | go_size))⟩
  · obtain ⟨hp1, hp2⟩ := inB_iff.1 HB.out
    obtain ⟨R, hR⟩ : ∃ R, n.trans.all (trB n.places) = R := ⟨_, rfl⟩
    have HR := hide hR
    have HL : Hid ((n.trans.drop 0).all (trB n.places) = R) := hR
    clear hR
    go_enter Try.func127, Try.ntmps127
    go_wp2_with fail
    go_loopw [8, 4] (fun i _ wr => ∃ k : Nat, k ≤ n.trans.length ∧ i = .int .i64 k ∧ Hid ((n.trans.drop k).all (trB n.places) = R) ∧ Below (w.heap.size + 1) (w.alloc (.cells #[.int .i64 n.places, .slice A n.trans.length c] 35)) wr) (fun i _ _ => n.trans.length - (intOf i).toNat)
    case atStart => exact ⟨0, Nat.zero_le _, rfl, HL, Below.refl _ _⟩
    case round =>
      obtain ⟨k, hk, rfl, hgo, hb⟩ := hrel
      have hsz := hb.size
      rw [World.size_alloc] at hsz
      have hcr : ∀ b o, b < w.heap.size + 1 → wr.cell? ⟨b, o, none⟩ = (w.alloc (.cells #[.int .i64 n.places, .slice A n.trans.length c] 35)).cell? ⟨b, o, none⟩ := fun b o h => hb.cell (p := ⟨b, o, none⟩) h
      have lr : w.heap.size < wr.heap.size := by omega
      have hbw : Below w.heap.size w wr := ((Below.refl w.heap.size w).alloc (Nat.le_refl _) _).trans (hb.mono (by omega))
      by_cases hlt : k < n.trans.length
      · obtain ⟨x, hx⟩ := get_of_lt hlt
        obtain ⟨b, off, A_pre, c_pre, A_post, c_post, rfl, hbl, d1, d2, g0, g1, g2, g3, g4, g5⟩ := hr.Tr_at hbw hx
        have hgo' := hgo.out
        rw [drop_get hx, List.all_cons, trB_iff] at hgo'
        have HG := hide hgo'; clear hgo' hx
        by_cases h0 : x.pre = []
        · have b0 : ((x.pre.length : Int) == 0) = true := by rw [h0]; rfl
          have H0 : Hid (x.pre.isEmpty = true) := by show _ = _; simpa using h0
          clear h0
          go_wp2_with fail
          go_ret
          exact ⟨ret_bool (by simp only [goodNet, HB.out, HR.out, ← HG.out, H0.out]; simp), by (repeat' (first | (with_reducible exact Below.refl _ _) | (with_reducible assumption) | (with_reducible refine below_drewN' ?_ _) | (with_reducible refine Below.drew ?_) | (with_reducible refine Below.alloc ?_ ?_ _) | (with_reducible refine Below.setCell ?_ ?_ _) | (with_reducible refine Below.then_ ?_ (by assumption) ?_) | go_size))⟩
        · have b0 : ((x.pre.length : Int) == 0) = false := by have := List.length_pos_iff.2 h0; simp; exact h0
          have H0 : Hid (x.pre.isEmpty = false) := by show _ = _; simpa using h0
          clear h0
          go_wp2_with fail
          refine (spec_l1Set2 A_pre c_pre x.pre (n.places - 1) _ (by omega) (RA.to g2 ?hb)).mono ?_
          case hb => (repeat' (first | (with_reducible exact Below.refl _ _) | (with_reducible assumption) | (with_reducible refine below_drewN' ?_ _) | (with_reducible refine Below.drew ?_) | (with_reducible refine Below.alloc ?_ ?_ _) | (with_reducible refine Below.setCell ?_ ?_ _) | (with_reducible refine Below.then_ ?_ (by assumption) ?_) | go_size))
          rintro e w1 ⟨rfl, rfl⟩
          obtain ⟨B1, hB1⟩ : ∃ B, incB (n.places - 1) x.pre = B := ⟨_, rfl⟩
          rw [hB1]
          have HB1 := hide hB1; clear hB1
          cases B1
          · go_wp2_with fail
            go_ret
            exact ⟨ret_bool (by simp only [goodNet, HB.out, HR.out, ← HG.out, H0.out, HB1.out]; simp), by (repeat' (first | (with_reducible exact Below.refl _ _) | (with_reducible assumption) | (with_reducible refine below_drewN' ?_ _) | (with_reducible refine Below.drew ?_) | (with_reducible refine Below.alloc ?_ ?_ _) | (with_reducible refine Below.setCell ?_ ?_ _) | (with_reducible refine Below.then_ ?_ (by assumption) ?_) | go_size))⟩
          · go_wp2_with fail
            refine (spec_l1Set2 A_post c_post x.post (n.places - 1) _ (by omega) (RA.to g5 ?hb)).mono ?_
            case hb => (repeat' (first | (with_reducible exact Below.refl _ _) | (with_reducible assumption) | (with_reducible refine below_drewN' ?_ _) | (with_reducible refine Below.drew ?_) | (with_reducible refine Below.alloc ?_ ?_ _) | (with_reducible refine Below.setCell ?_ ?_ _) | (with_reducible refine Below.then_ ?_ (by assumption) ?_) | go_size))
            rintro e w1 ⟨rfl, rfl⟩
            obtain ⟨B2, hB2⟩ : ∃ B, incB (n.places - 1) x.post = B := ⟨_, rfl⟩
            rw [hB2]
            have HB2 := hide hB2; clear hB2
            cases B2
            · go_wp2_with fail
              go_ret
              exact ⟨ret_bool (by simp only [goodNet, HB.out, HR.out, ← HG.out, H0.out, HB1.out, HB2.out]; simp), by (repeat' (first | (with_reducible exact Below.refl _ _) | (with_reducible assumption) | (with_reducible refine below_drewN' ?_ _) | (with_reducible refine Below.drew ?_) | (with_reducible refine Below.alloc ?_ ?_ _) | (with_reducible refine Below.setCell ?_ ?_ _) | (with_reducible refine Below.then_ ?_ (by assumption) ?_) | go_size))⟩
            · have HG2 : Hid ((n.trans.drop (k + 1)).all (trB n.places) = R) := by show _ = _; simp only [← HG.out, H0.out, HB1.out, HB2.out]; simp
              go_wp2_with fail
              go_roundw
              case rel => exact ⟨k + 1, by omega, by go_num, HG2, by (repeat' (first | (with_reducible exact Below.refl _ _) | (with_reducible assumption) | (with_reducible refine below_drewN' ?_ _) | (with_reducible refine Below.drew ?_) | (with_reducible refine Below.alloc ?_ ?_ _) | (with_reducible refine Below.setCell ?_ ?_ _) | (with_reducible refine Below.then_ ?_ (by assumption) ?_) | go_size))⟩
              case measure => simp [intOf]; omega
      · have hgo' := hgo.out
        rw [drop_end hlt] at hgo'
        have HG := hide hgo'; clear hgo'
        go_wp2_with fail
        refine (spec_l1In n.places 1 30 _).mono ?_
        rintro e w1 ⟨rfl, rfl⟩
        rw [HB.out]
        go_wp2_with fail
        go_ret
        exact ⟨ret_bool (by simp [goodNet, HB.out, HR.out, ← HG.out]; try omega), by (repeat' (first | (with_reducible exact Below.refl _ _) | (with_reducible assumption) | (with_reducible refine below_drewN' ?_ _) | (with_reducible refine Below.drew ?_) | (with_reducible refine Below.alloc ?_ ?_ _) | (with_reducible refine Below.setCell ?_ ?_ _) | (with_reducible refine Below.then_ ?_ (by assumption) ?_) | go_size))⟩

theorem fireB_good {n : Net} {m m' : List UInt8} {t : Int} (h : goodMark n m = true) (hf : fireB n m t = some m') : goodMark n m' = true := by
  unfold fireB at hf
  split at hf
  · split at hf
    · split at hf
      · exact fireM_good h hf
      · cases hf
    · cases hf
  · cases hf
theorem fireV_none : fireV none = .tuple #[.string ⟨#[]⟩, .bool false] := rfl
theorem fireV_some (m : List UInt8) : fireV (some m) = .tuple #[.string ⟨m.toArray⟩, .bool true] := rfl
end Go.Proofs.Ytojfmppamebnkaa
