/-
  Walks of the functions on signal transition graphs: signals, labels, the graph, delays.
-/
import Derived.Test.YtojfmppamebnkaaStg
namespace Go.Proofs.Ytojfmppamebnkaa
open Go.RowKit
set_option linter.unusedVariables false

theorem body_areSignals_1 : HasBody Try.prog 157 := body_of Try.func157 (by kernel_rfl) rfl

/-- The program's closure: another signal's name is this one's; the captured cell holds this one. -/
theorem impl_areSignals_1 (y : Sig) (s : List UInt8) (g : Nat) (w : World) (hg : g < w.heap.size) (hc : w.cell? ⟨g, 0, none⟩ = some (.string ⟨s.toArray⟩)) :
    Calls Try.prog 157 #[.agg #[.string ⟨y.name.toArray⟩, .int .i64 y.kind], .pointer (some ⟨g, 0, none⟩)] w fun e w' => e = .returned (.bool (y.name == s)) ∧ Below w.heap.size w w' := by
  obtain ⟨B, hB⟩ : ∃ B, (y.name == s) = B := ⟨_, rfl⟩
  have HB := hide hB
  go_enter Try.func157, Try.ntmps157
  go_wp2_with fail
  go_ret
  exact ⟨ret_bool HB.out.symm, by (repeat' (first | (with_reducible exact Below.refl _ _) | (with_reducible assumption) | (with_reducible refine below_drewN' ?_ _) | (with_reducible refine Below.drew ?_) | (with_reducible refine Below.alloc ?_ ?_ _) | (with_reducible refine Below.setCell ?_ ?_ _) | (with_reducible refine Below.then_ ?_ (by assumption) ?_) | go_size))⟩

set_option maxHeartbeats 2000000 in
theorem impl_areSignals (l : List Sig) (A : Option Addr) (c : Nat) (w : World) (h1 : l.length ≤ c) (h2 : c ≤ 9223372036854775807) (hr : RA shSig w A l) :
    Calls Try.prog 119 #[.slice A l.length c] w fun e w' => e = .returned (.bool (sigsB l)) ∧ Below w.heap.size w w' := by
  obtain ⟨R, hR⟩ : ∃ R, goSigs l 0 l = R := ⟨_, rfl⟩
  have HR := hide hR
  have HL : Hid (goSigs l 0 (l.drop 0) = R) := hR
  clear hR
  go_enter Try.func119, Try.ntmps119
  go_wp2
  go_loopw [7] (fun i wr => ∃ k : Nat, k ≤ l.length ∧ i = .int .i64 k ∧ Hid (goSigs l k (l.drop k) = R) ∧ Below w.heap.size w wr) (fun i _ => l.length - (intOf i).toNat)
  case atStart => exact ⟨0, Nat.zero_le _, rfl, HL, Below.refl _ _⟩
  case round =>
    obtain ⟨k, hk, rfl, hgo, hb⟩ := hrel
    have hsz := hb.size
    by_cases hlt : k < l.length
    · obtain ⟨x, hx⟩ := get_of_lt hlt
      obtain ⟨b, off, rfl, hbl, d0, d1, g0, g1⟩ := hr.Sig_at hb hx
      have hgo' := hgo.out
      rw [drop_get hx] at hgo'
      have HG := hide hgo'; clear hgo' hx
      obtain ⟨N, hN⟩ : ∃ N, nameB x.name = N := ⟨_, rfl⟩
      have HN := hide hN; clear hN
      go_wp2_with fail
      refine (impl_isName x.name _ g0).mono ?_
      rintro e w1 ⟨rfl, hb1⟩
      obtain ⟨hc1, hf1⟩ := bcell hb1
      have hz1 := hb1.size
      rw [World.size_alloc] at hz1
      have l1 : wr.heap.size < w1.heap.size := by omega
      have hs1 : Below w.heap.size w w1 := by (repeat' (first | (with_reducible exact Below.refl _ _) | (with_reducible assumption) | (with_reducible refine below_drewN' ?_ _) | (with_reducible refine Below.drew ?_) | (with_reducible refine Below.alloc ?_ ?_ _) | (with_reducible refine Below.setCell ?_ ?_ _) | (with_reducible refine Below.then_ ?_ (by assumption) ?_) | go_size))
      rw [HN.out]
      cases N
      · go_wp2_with fail
        go_ret
        exact ⟨ret_bool (by unfold sigsB; rw [HR.out, ← HG.out]; simp [goSigs, HN.out]), by (repeat' (first | (with_reducible exact Below.refl _ _) | (with_reducible assumption) | (with_reducible refine below_drewN' ?_ _) | (with_reducible refine Below.drew ?_) | (with_reducible refine Below.alloc ?_ ?_ _) | (with_reducible refine Below.setCell ?_ ?_ _) | (with_reducible refine Below.then_ ?_ (by assumption) ?_) | go_size))⟩
      · obtain ⟨K, hK⟩ : ∃ K, inB x.kind 1 3 = K := ⟨_, rfl⟩
        have HK := hide hK; clear hK
        go_wp2_with fail
        refine (impl_within x.kind 1 3 _).mono ?_
        rintro e w2 ⟨rfl, rfl⟩
        rw [HK.out]
        cases K
        · go_wp2_with fail
          go_ret
          exact ⟨ret_bool (by unfold sigsB; rw [HR.out, ← HG.out]; simp [goSigs, HN.out, HK.out]), by (repeat' (first | (with_reducible exact Below.refl _ _) | (with_reducible assumption) | (with_reducible refine below_drewN' ?_ _) | (with_reducible refine Below.drew ?_) | (with_reducible refine Below.alloc ?_ ?_ _) | (with_reducible refine Below.setCell ?_ ?_ _) | (with_reducible refine Below.then_ ?_ (by assumption) ?_) | go_size))⟩
        · have ht : (l.take k).length = k := by rw [List.length_take]; omega
          obtain ⟨Q, hQ⟩ : ∃ Q, ((l.take k).any fun y => y.name == x.name) = Q := ⟨_, rfl⟩
          have HQ := hide hQ; clear hQ
          go_wp2_with fail
          have hcall := containsFunc_Sig1 (some ⟨b, off, none⟩) c (l.take k) w2 (fun y => y.name == x.name) _ body_areSignals_1 ⟨wr.heap.size, 0, none⟩ (by omega) (RA.take (RA.to hr hs1) k) (by
            intro W hW y hy g0' g1'
            have hc := hW.cell (p := ⟨wr.heap.size, 0, none⟩) l1
            have hz := hW.size
            exact impl_areSignals_1 y x.name wr.heap.size W (by omega) (by rw [hc, hc1 _ _ (by rw [World.size_alloc]; omega)]; simp [go_sem]))
          rw [ht] at hcall
          refine hcall.mono ?_
          rintro e w3 ⟨rfl, hb3⟩
          have hs3 : Below w.heap.size w w3 := hs1.trans (hb3.mono hs1.size)
          rw [HQ.out]
          cases Q
          · have HG2 : Hid (goSigs l (k + 1) (l.drop (k + 1)) = R) := by show _ = _; rw [← HG.out]; simp only [goSigs, HN.out, HK.out, HQ.out]; simp
            go_wp2_with fail
            go_roundw
            case rel => exact ⟨k + 1, by omega, by go_num, HG2, by (repeat' (first | (with_reducible exact Below.refl _ _) | (with_reducible assumption) | (with_reducible refine below_drewN' ?_ _) | (with_reducible refine Below.drew ?_) | (with_reducible refine Below.alloc ?_ ?_ _) | (with_reducible refine Below.setCell ?_ ?_ _) | (with_reducible refine Below.then_ ?_ (by assumption) ?_) | go_size))⟩
            case measure => simp [intOf]; omega
          · go_wp2_with fail
            go_ret
            exact ⟨ret_bool (by unfold sigsB; rw [HR.out, ← HG.out]; simp only [goSigs, HN.out, HK.out, HQ.out]; simp), by (repeat' (first | (with_reducible exact Below.refl _ _) | (with_reducible assumption) | (with_reducible refine below_drewN' ?_ _) | (with_reducible refine Below.drew ?_) | (with_reducible refine Below.alloc ?_ ?_ _) | (with_reducible refine Below.setCell ?_ ?_ _) | (with_reducible refine Below.then_ ?_ (by assumption) ?_) | go_size))⟩
    · have hgo' := hgo.out
      rw [drop_end hlt] at hgo'
      have HG := hide hgo'; clear hgo'
      go_wp2_with fail
      refine (impl_within (l.length : Int) 1 8 _).mono ?_
      rintro e w1 ⟨rfl, rfl⟩
      go_wp2_with fail
      go_ret
      exact ⟨ret_bool (by unfold sigsB; rw [HR.out, ← HG.out]; simp [goSigs]), by (repeat' (first | (with_reducible exact Below.refl _ _) | (with_reducible assumption) | (with_reducible refine below_drewN' ?_ _) | (with_reducible refine Below.drew ?_) | (with_reducible refine Below.alloc ?_ ?_ _) | (with_reducible refine Below.setCell ?_ ?_ _) | (with_reducible refine Below.then_ ?_ (by assumption) ?_) | go_size))⟩

set_option maxHeartbeats 2000000 in
theorem spec_l2Signals (l : List Sig) (A : Option Addr) (c : Nat) (w : World) (h1 : l.length ≤ c) (h2 : c ≤ 9223372036854775807) (hr : RA shSig w A l) :
    Calls Try.prog 128 #[.slice A l.length c] w fun e w' => e = .returned (.bool (sigsB l)) ∧ Below w.heap.size w w' := by
  obtain ⟨R, hR⟩ : ∃ R, goSigs l 0 l = R := ⟨_, rfl⟩
  have HR := hide hR
  have HL : Hid (goSigs l 0 (l.drop 0) = R) := hR
  clear hR
  go_enter Try.func128, Try.ntmps128
  go_wp2
  go_loopw [9] (fun i wr => ∃ k : Nat, k ≤ l.length ∧ i = .int .i64 k ∧ Hid (goSigs l k (l.drop k) = R) ∧ Below w.heap.size w wr) (fun i _ => l.length - (intOf i).toNat)
  case atStart => exact ⟨0, Nat.zero_le _, rfl, HL, Below.refl _ _⟩
  case round =>
    obtain ⟨k, hk, rfl, hgo, hb⟩ := hrel
    have hsz := hb.size
    by_cases hlt : k < l.length
    · obtain ⟨x, hx⟩ := get_of_lt hlt
      obtain ⟨b, off, rfl, hbl, d0, d1, g0, g1⟩ := hr.Sig_at hb hx
      have hgo' := hgo.out
      rw [drop_get hx] at hgo'
      have HG := hide hgo'; clear hgo' hx
      obtain ⟨N, hN⟩ : ∃ N, nameB x.name = N := ⟨_, rfl⟩
      have HN := hide hN; clear hN
      go_wp2_with fail
      refine (spec_l2Name x.name _ g0).mono ?_
      rintro e w1 ⟨rfl, hb1⟩
      obtain ⟨hc1, hf1⟩ := bcell hb1
      have hz1 := hb1.size
      rw [World.size_alloc] at hz1
      have l1 : wr.heap.size < w1.heap.size := by omega
      have hs1 : Below w.heap.size w w1 := by (repeat' (first | (with_reducible exact Below.refl _ _) | (with_reducible assumption) | (with_reducible refine below_drewN' ?_ _) | (with_reducible refine Below.drew ?_) | (with_reducible refine Below.alloc ?_ ?_ _) | (with_reducible refine Below.setCell ?_ ?_ _) | (with_reducible refine Below.then_ ?_ (by assumption) ?_) | go_size))
      rw [HN.out]
      cases N
      · go_wp2_with fail
        go_ret
        exact ⟨ret_bool (by unfold sigsB; rw [HR.out, ← HG.out]; simp [goSigs, HN.out]), by (repeat' (first | (with_reducible exact Below.refl _ _) | (with_reducible assumption) | (with_reducible refine below_drewN' ?_ _) | (with_reducible refine Below.drew ?_) | (with_reducible refine Below.alloc ?_ ?_ _) | (with_reducible refine Below.setCell ?_ ?_ _) | (with_reducible refine Below.then_ ?_ (by assumption) ?_) | go_size))⟩
      · obtain ⟨K, hK⟩ : ∃ K, inB x.kind 1 3 = K := ⟨_, rfl⟩
        have HK := hide hK; clear hK
        go_wp2_with fail
        refine (spec_l1In x.kind 1 3 _).mono ?_
        rintro e w2 ⟨rfl, rfl⟩
        rw [HK.out]
        cases K
        · go_wp2_with fail
          go_ret
          exact ⟨ret_bool (by unfold sigsB; rw [HR.out, ← HG.out]; simp [goSigs, HN.out, HK.out]), by (repeat' (first | (with_reducible exact Below.refl _ _) | (with_reducible assumption) | (with_reducible refine below_drewN' ?_ _) | (with_reducible refine Below.drew ?_) | (with_reducible refine Below.alloc ?_ ?_ _) | (with_reducible refine Below.setCell ?_ ?_ _) | (with_reducible refine Below.then_ ?_ (by assumption) ?_) | go_size))⟩
        · have ht : (l.take k).length = k := by rw [List.length_take]; omega
          have hrt := RA.take (RA.to hr hs1) k
          obtain ⟨Q, hQ⟩ : ∃ Q, ((l.take k).any fun y => y.name == x.name) = Q := ⟨_, rfl⟩
          have HQ := hide hQ
          have HQL : Hid (((l.take k).drop 0).any (fun y => y.name == x.name) = Q) := hQ
          clear hQ
          obtain ⟨wo, rfl⟩ : ∃ wo : World, wo = wr := ⟨_, rfl⟩
          have e0 : w2.cell? ⟨wo.heap.size, 0, none⟩ = some (.string ⟨x.name.toArray⟩) := by rw [hc1 _ _ (by rw [World.size_alloc]; omega)]; simp [go_sem]
          go_wp2_with fail
          go_loopw [28] (fun i wr => ∃ j : Nat, j ≤ k ∧ i = .int .i64 j ∧ Hid (((l.take k).drop j).any (fun y => y.name == x.name) = Q) ∧ Below w2.heap.size w2 wr) (fun i _ => k - (intOf i).toNat)
          case atStart => exact ⟨0, Nat.zero_le _, rfl, HQL, Below.refl _ _⟩
          case round =>
            obtain ⟨j, hj, rfl, hgq, hbv⟩ := hrel
            have hsv := hbv.size
            have e1 : wr.cell? ⟨wo.heap.size, 0, none⟩ = some (.string ⟨x.name.toArray⟩) := by rw [hbv.cell (p := ⟨wo.heap.size, 0, none⟩) l1]; exact e0
            have lv : wo.heap.size < wr.heap.size := by omega
            by_cases hlj : j < k
            · obtain ⟨y, hy⟩ := get_of_lt (show j < (l.take k).length by omega)
              obtain ⟨b2, off2, hA2, hbl2, d0', d1', g0', g1'⟩ := hrt.Sig_at hbv hy
              cases hA2
              have hgq' := hgq.out
              rw [drop_get hy] at hgq'
              have HGQ := hide hgq'; clear hgq' hy
              by_cases hxy : x.name = y.name
              · have HXY := hide hxy
                have q : (x.name == y.name) = true := by simpa using hxy
                clear hxy
                go_wp2_with fail
                go_ret
                exact ⟨ret_bool (by
                  have hq : Q = true := by rw [← HGQ.out]; simp [HXY.out]
                  unfold sigsB; rw [HR.out, ← HG.out]; simp only [goSigs, HN.out, HK.out, HQ.out, hq]; simp), by (repeat' (first | (with_reducible exact Below.refl _ _) | (with_reducible assumption) | (with_reducible refine below_drewN' ?_ _) | (with_reducible refine Below.drew ?_) | (with_reducible refine Below.alloc ?_ ?_ _) | (with_reducible refine Below.setCell ?_ ?_ _) | (with_reducible refine Below.then_ ?_ (by assumption) ?_) | go_size))⟩
              · have q : (x.name == y.name) = false := by simpa using hxy
                have HG3 : Hid (((l.take k).drop (j + 1)).any (fun y => y.name == x.name) = Q) := by show _ = _; rw [← HGQ.out]; simp [Ne.symm hxy]
                clear hxy
                go_wp2_with fail
                go_roundw
                case rel => exact ⟨j + 1, by omega, by go_num, HG3, by (repeat' (first | (with_reducible exact Below.refl _ _) | (with_reducible assumption) | (with_reducible refine below_drewN' ?_ _) | (with_reducible refine Below.drew ?_) | (with_reducible refine Below.alloc ?_ ?_ _) | (with_reducible refine Below.setCell ?_ ?_ _) | (with_reducible refine Below.then_ ?_ (by assumption) ?_) | go_size))⟩
                case measure => simp [intOf]; omega
            · have hgq' := hgq.out
              rw [drop_end (show ¬ j < (l.take k).length by omega)] at hgq'
              have HGQ := hide hgq'; clear hgq'
              have HG2 : Hid (goSigs l (k + 1) (l.drop (k + 1)) = R) := by
                have hq : Q = false := by rw [← HGQ.out]; rfl
                show _ = _; rw [← HG.out]; simp only [goSigs, HN.out, HK.out, HQ.out, hq]; simp
              go_wp2_with fail
              go_roundw
              case rel => exact ⟨k + 1, by omega, by go_num, HG2, by (repeat' (first | (with_reducible exact Below.refl _ _) | (with_reducible assumption) | (with_reducible refine below_drewN' ?_ _) | (with_reducible refine Below.drew ?_) | (with_reducible refine Below.alloc ?_ ?_ _) | (with_reducible refine Below.setCell ?_ ?_ _) | (with_reducible refine Below.then_ ?_ (by assumption) ?_) | go_size))⟩
              case measure => simp [intOf]; omega
    · have hgo' := hgo.out
      rw [drop_end hlt] at hgo'
      have HG := hide hgo'; clear hgo'
      go_wp2_with fail
      refine (spec_l1In (l.length : Int) 1 8 _).mono ?_
      rintro e w1 ⟨rfl, rfl⟩
      go_wp2_with fail
      go_ret
      exact ⟨ret_bool (by unfold sigsB; rw [HR.out, ← HG.out]; simp [goSigs]), by (repeat' (first | (with_reducible exact Below.refl _ _) | (with_reducible assumption) | (with_reducible refine below_drewN' ?_ _) | (with_reducible refine Below.drew ?_) | (with_reducible refine Below.alloc ?_ ?_ _) | (with_reducible refine Below.setCell ?_ ?_ _) | (with_reducible refine Below.then_ ?_ (by assumption) ?_) | go_size))⟩

set_option maxHeartbeats 1000000 in
theorem impl_isEdge (x : Lab) (n : Int) (w : World) (hn : -9223372036854775807 ≤ n ∧ n ≤ 9223372036854775807) :
    Calls Try.prog 122 #[.agg #[.int .i64 x.sig, .bool x.up], .int .i64 n] w fun e w' => e = .returned (.bool (labB n x)) ∧ Below w.heap.size w w' := by
  obtain ⟨B, hB⟩ : ∃ B, inB x.sig 0 (n - 1) = B := ⟨_, rfl⟩
  have HB := hide hB; clear hB
  obtain ⟨sg, up⟩ := x
  go_enter Try.func122, Try.ntmps122
  go_wp2_with fail
  refine (impl_within sg 0 (n - 1) _).mono ?_
  rintro e w1 ⟨rfl, rfl⟩
  rw [HB.out]
  cases B
  · by_cases h : sg = -1
    · have HS := hide h
      have q : (sg == -1) = true := by simpa using h
      cases up
      · subst h
        go_wp2_with fail
        go_ret
        exact ⟨ret_bool (by simp [labB, HB.out]), by (repeat' (first | (with_reducible exact Below.refl _ _) | (with_reducible assumption) | (with_reducible refine below_drewN' ?_ _) | (with_reducible refine Below.drew ?_) | (with_reducible refine Below.alloc ?_ ?_ _) | (with_reducible refine Below.setCell ?_ ?_ _) | (with_reducible refine Below.then_ ?_ (by assumption) ?_) | go_size))⟩
      · subst h
        go_wp2_with fail
        go_ret
        exact ⟨ret_bool (by simp [labB, HB.out]), by (repeat' (first | (with_reducible exact Below.refl _ _) | (with_reducible assumption) | (with_reducible refine below_drewN' ?_ _) | (with_reducible refine Below.drew ?_) | (with_reducible refine Below.alloc ?_ ?_ _) | (with_reducible refine Below.setCell ?_ ?_ _) | (with_reducible refine Below.then_ ?_ (by assumption) ?_) | go_size))⟩
    · have HS := hide h
      have q : (sg == -1) = false := by simpa using h
      go_wp2_with fail
      go_ret
      exact ⟨ret_bool (by simp [labB, HB.out, HS.out]), by (repeat' (first | (with_reducible exact Below.refl _ _) | (with_reducible assumption) | (with_reducible refine below_drewN' ?_ _) | (with_reducible refine Below.drew ?_) | (with_reducible refine Below.alloc ?_ ?_ _) | (with_reducible refine Below.setCell ?_ ?_ _) | (with_reducible refine Below.then_ ?_ (by assumption) ?_) | go_size))⟩
  · go_wp2_with fail
    go_ret
    exact ⟨ret_bool (by simp [labB, HB.out]), by (repeat' (first | (with_reducible exact Below.refl _ _) | (with_reducible assumption) | (with_reducible refine below_drewN' ?_ _) | (with_reducible refine Below.drew ?_) | (with_reducible refine Below.alloc ?_ ?_ _) | (with_reducible refine Below.setCell ?_ ?_ _) | (with_reducible refine Below.then_ ?_ (by assumption) ?_) | go_size))⟩
set_option maxHeartbeats 1000000 in
theorem spec_l2Label (x : Lab) (n : Int) (w : World) (hn : -9223372036854775807 ≤ n ∧ n ≤ 9223372036854775807) :
    Calls Try.prog 126 #[.agg #[.int .i64 x.sig, .bool x.up], .int .i64 n] w fun e w' => e = .returned (.bool (labB n x)) ∧ Below w.heap.size w w' := by
  obtain ⟨B, hB⟩ : ∃ B, inB x.sig 0 (n - 1) = B := ⟨_, rfl⟩
  have HB := hide hB; clear hB
  obtain ⟨sg, up⟩ := x
  go_enter Try.func126, Try.ntmps126
  go_wp2_with fail
  refine (spec_l1In sg 0 (n - 1) _).mono ?_
  rintro e w1 ⟨rfl, rfl⟩
  rw [HB.out]
  cases B
  · by_cases h : sg = -1
    · have HS := hide h
      have q : (sg == -1) = true := by simpa using h
      cases up
      · subst h
        go_wp2_with fail
        go_ret
        exact ⟨ret_bool (by simp [labB, HB.out]), by (repeat' (first | (with_reducible exact Below.refl _ _) | (with_reducible assumption) | (with_reducible refine below_drewN' ?_ _) | (with_reducible refine Below.drew ?_) | (with_reducible refine Below.alloc ?_ ?_ _) | (with_reducible refine Below.setCell ?_ ?_ _) | (with_reducible refine Below.then_ ?_ (by assumption) ?_) | go_size))⟩
      · subst h
        go_wp2_with fail
        go_ret
        exact ⟨ret_bool (by simp [labB, HB.out]), by (repeat' (first | (with_reducible exact Below.refl _ _) | (with_reducible assumption) | (with_reducible refine below_drewN' ?_ _) | (with_reducible refine Below.drew ?_) | (with_reducible refine Below.alloc ?_ ?_ _) | (with_reducible refine Below.setCell ?_ ?_ _) | (with_reducible refine Below.then_ ?_ (by assumption) ?_) | go_size))⟩
    · have HS := hide h
      have q : (sg == -1) = false := by simpa using h
      go_wp2_with fail
      go_ret
      exact ⟨ret_bool (by simp [labB, HB.out, HS.out]), by (repeat' (first | (with_reducible exact Below.refl _ _) | (with_reducible assumption) | (with_reducible refine below_drewN' ?_ _) | (with_reducible refine Below.drew ?_) | (with_reducible refine Below.alloc ?_ ?_ _) | (with_reducible refine Below.setCell ?_ ?_ _) | (with_reducible refine Below.then_ ?_ (by assumption) ?_) | go_size))⟩
  · go_wp2_with fail
    go_ret
    exact ⟨ret_bool (by simp [labB, HB.out]), by (repeat' (first | (with_reducible exact Below.refl _ _) | (with_reducible assumption) | (with_reducible refine below_drewN' ?_ _) | (with_reducible refine Below.drew ?_) | (with_reducible refine Below.alloc ?_ ?_ _) | (with_reducible refine Below.setCell ?_ ?_ _) | (with_reducible refine Below.then_ ?_ (by assumption) ?_) | go_size))⟩
end Go.Proofs.Ytojfmppamebnkaa
