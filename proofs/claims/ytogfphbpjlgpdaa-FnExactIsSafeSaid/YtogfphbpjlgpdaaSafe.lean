import Derived.Test.YtogfphbpjlgpdaaReach
namespace Go.Proofs.Ytogfphbpjlgpdaa
open Go.RowKit
set_option linter.unusedVariables false

/-- What the reference's search returns: safe and done; refused; too many. -/
def metV (A : Option Addr) (n c : Nat) (r : List (List UInt8) × Nat) : Value := .tuple #[.slice A n c, .bool (r.2 == 0), .bool (r.2 != 2)]

set_option maxHeartbeats 4000000 in
theorem spec_l9Met (n : Net) (m : List UInt8) (A : Option Addr) (c : Nat) (w : World) (hg : goodMark n m = true) (h1 : n.trans.length ≤ c) (h2 : c ≤ 9223372036854775807) (hr : RA shTr w A n.trans) :
    Calls Try.prog 48 #[.agg #[.int .i64 n.places, .slice A n.trans.length c], .string ⟨m.toArray⟩] w fun e w' => ∃ A' c' out, e = .returned (metV A' out.length c' (reach n m)) ∧ ((reach n m).2 = 0 → out = (reach n m).1) ∧ Own shStr w' w.heap.size 9 A' c' out ∧ Below w.heap.size w w' := by
  obtain ⟨R, hR⟩ : ∃ R, reach n m = R := ⟨_, rfl⟩
  have HR := hide hR
  have HL : Hid (reachOut n (601 - 0) 0 [m] = R) := hR
  clear hR
  have hlen24 : n.trans.length ≤ 24 := by
    simp only [goodMark, goodNet, Bool.and_eq_true, decide_eq_true_eq] at hg
    omega
  have hml := (good_places hg).2.2
  have hpl := (good_places hg).2.1
  have HGM := hide hg; clear hg
  go_enter Try.func48, Try.ntmps48
  go_wp2_with fail
  have HO : Hid (Own shStr ((w.alloc (.cells #[.int .i64 n.places, .slice A n.trans.length c] 38)).alloc (.cells #[.string ⟨m.toArray⟩] 9)) (w.heap.size + 1) 9 (some ⟨w.heap.size + 1, 0, none⟩) 1 [m]) := by
    have h := Own.single (S := shStr) (w := w.alloc (.cells #[.int .i64 n.places, .slice A n.trans.length c] 38)) (base := w.heap.size + 1) (e := 9) (y := m) (cs := [.string ⟨m.toArray⟩]) (by simp) ⟨rfl, by omega⟩ (by decide)
    rw [World.size_alloc] at h
    exact h
  have HB0 : Below (w.heap.size + 1) (w.alloc (.cells #[.int .i64 n.places, .slice A n.trans.length c] 38)) ((w.alloc (.cells #[.int .i64 n.places, .slice A n.trans.length c] 38)).alloc (.cells #[.string ⟨m.toArray⟩] 9)) := (Below.refl _ _).alloc (by simp) _
  have HGA : Hid (∀ x ∈ [m], goodMark n x = true) := fun x hx => by simp at hx; subst hx; exact HGM.out
  go_loopw [8, 7] (fun i v wr => ∃ (k : Nat) (out : List (List UInt8)) (A7 : Option Addr) (c7 : Nat), k ≤ 600 ∧ i = .int .i64 k ∧ v = .slice A7 out.length c7 ∧ Hid (reachOut n (601 - k) k out = R) ∧ out.length ≤ 600 ∧ Hid (∀ x ∈ out, goodMark n x = true) ∧ Hid (Own shStr wr (w.heap.size + 1) 9 A7 c7 out) ∧ Below (w.heap.size + 1) (w.alloc (.cells #[.int .i64 n.places, .slice A n.trans.length c] 38)) wr) (fun i _ _ => 601 - (intOf i).toNat)
  case atStart => exact ⟨0, [m], _, _, by omega, rfl, rfl, HL, by simp, HGA, HO, HB0⟩
  case round =>
    clear HL HO HB0 HGA
    obtain ⟨k, out, A7, c7, hk6, rfl, rfl, hgo, hol, hga, hown, hb0⟩ := hrel
    have hsz0 := hb0.size
    rw [World.size_alloc] at hsz0
    have hbw : Below w.heap.size w wr := ((Below.refl w.heap.size w).alloc (Nat.le_refl _) _).trans (hb0.mono (by omega))
    by_cases hlt : k < out.length
    · obtain ⟨x, hx⟩ := get_of_lt hlt
      have hgx := hide (hga.out x (List.mem_of_getElem? hx))
      obtain ⟨b, off, rfl, hbl, d7, _⟩ := hown.out.ra.str_at (Below.refl _ _) hx
      have e0 : wr.cell? ⟨w.heap.size, 0, none⟩ = some (.int .i64 n.places) := by rw [hb0.cell (p := ⟨w.heap.size, 0, none⟩) (by simp)]; simp [go_sem]
      have e1 : wr.cell? ⟨w.heap.size, 1, none⟩ = some (.slice A n.trans.length c) := by rw [hb0.cell (p := ⟨w.heap.size, 1, none⟩) (by simp)]; simp [go_sem]
      have HX := hide hx; clear hx
      have htl := enL_length hgx.out
      obtain ⟨RI, hRI⟩ : ∃ RI, reachIn n x (enL n x) out = RI := ⟨_, rfl⟩
      have HLI : Hid (reachIn n x ((enL n x).drop 0) out = RI) := hRI
      have HSTEP : Hid (R = after3 RI (reachOut n (600 - k) (k + 1))) := by
        have := reachOut_step (n := n) (f := 600 - k) (k := k) (out := out) HX.out
        rw [show 600 - k + 1 = 601 - k from by omega, hgo.out, hRI] at this
        exact this
      clear hRI
      go_wp2_with fail
      go_region_held3 (fun W => W.cell? ⟨w.heap.size, 0, none⟩ = some (.int .i64 n.places) ∧ W.cell? ⟨w.heap.size, 1, none⟩ = some (.slice A n.trans.length c) ∧ W.cell? ⟨b, off + k, none⟩ = some (.string ⟨x.toArray⟩)) (first | exact ⟨e0, e1, d7⟩ | exact ⟨(cell_later hb1 e0), (cell_later hb1 e1), (cell_later hb1 d7)⟩) (first | (go_at_call 70; refine (spec_l1Enabled n x A c _ hgx.out h1 h2 (RA.to hr hbw.drew)).mono ?_; rintro e w1 ⟨At, ct, rfl, hot, hb1, hgt1⟩))
      go_wp2_with fail
      have hs1 : Below wr.heap.size wr w1 := (Below.drew (Below.refl _ _)).trans hb1
      have ho1 := hide (hown.out.to hs1)
      have hb01 : Below (w.heap.size + 1) (w.alloc (.cells #[.int .i64 n.places, .slice A n.trans.length c] 38)) w1 := hb0.trans (hs1.mono (by omega))
      have hot1 : Hid (Own shInt w1 (w.heap.size + 1) 3 At ct (enL n x)) := hot.lower (by show w.heap.size + 1 ≤ wr.heap.size; omega)
      have HXO := HX
      clear hot hown hb1 e0 e1 d7 hbl hbw
      obtain ⟨wo, rfl⟩ : ∃ wo : World, wo = wr := ⟨_, rfl⟩
      generalize hA7 : (some ⟨b, off, none⟩ : Option Addr) = A7 at ho1 ⊢
      clear hA7
      go_loopw [28, 7] (fun i v wr => ∃ (j : Nat) (out : List (List UInt8)) (A7 : Option Addr) (c7 : Nat), j ≤ (enL n x).length ∧ i = .int .i64 j ∧ v = .slice A7 out.length c7 ∧ Hid (reachIn n x ((enL n x).drop j) out = RI) ∧ out.length ≤ 600 + j ∧ Hid (out[k]? = some x) ∧ Hid (∀ x ∈ out, goodMark n x = true) ∧ Hid (Own shStr wr (w.heap.size + 1) 9 A7 c7 out) ∧ Hid (Own shInt wr (w.heap.size + 1) 3 At ct (enL n x)) ∧ Below (w.heap.size + 1) (w.alloc (.cells #[.int .i64 n.places, .slice A n.trans.length c] 38)) wr) (fun i _ _ => (enL n x).length - (intOf i).toNat)
      case atStart => exact ⟨0, out, A7, c7, Nat.zero_le _, rfl, rfl, HLI, by omega, HX, hga, ho1, hot1, hb01⟩
      case round =>
        clear HLI hga ho1 hot1 hb01 hb0 hsz0 hs1 hgo hol hlt HX HXO
        obtain ⟨j, out, A7, c7, hj, rfl, rfl, hgo, hol, hx2, hga, hown, hot, hb0⟩ := hrel
        have hsz0 := hb0.size
        rw [World.size_alloc] at hsz0
        have hbw : Below w.heap.size w wr := ((Below.refl w.heap.size w).alloc (Nat.le_refl _) _).trans (hb0.mono (by omega))
        by_cases hlt : j < (enL n x).length
        · obtain ⟨t, ht⟩ := get_of_lt hlt
          obtain ⟨b, off, rfl, hbl, d7, _⟩ := hown.out.ra.str_at (Below.refl _ _) hx2.out
          obtain ⟨bt, offt, hAt, hblt, dt, it⟩ := hot.out.ra.int_at (Below.refl _ _) ht
          subst hAt
          have hkl : k < out.length := lt_of_get hx2.out
          have e0 : wr.cell? ⟨w.heap.size, 0, none⟩ = some (.int .i64 n.places) := by rw [hb0.cell (p := ⟨w.heap.size, 0, none⟩) (by simp)]; simp [go_sem]
          have e1 : wr.cell? ⟨w.heap.size, 1, none⟩ = some (.slice A n.trans.length c) := by rw [hb0.cell (p := ⟨w.heap.size, 1, none⟩) (by simp)]; simp [go_sem]
          have hgo' := hgo.out
          rw [drop_get ht] at hgo'
          obtain ⟨kt, xt, rfl, hxt, _, hfm⟩ := enL_mem (List.mem_of_getElem? ht)
          have HXT := hide hxt; clear hxt
          have HFM := hide hfm; clear hfm
          obtain ⟨o, ho⟩ : ∃ o, fireB n x kt = o := ⟨_, rfl⟩
          have HO := hide ho; clear ho
          have HG := hide hgo'; clear hgo' ht
          cases o with
          | none =>
            have hRI : RI = none := by rw [← HG.out]; simp [reachIn, HO.out]
            have hRR : R = ([], 1) := by rw [HSTEP.out, hRI, after3_none]
            have HRR := hide hRR
            clear hRI hRR
            go_wp2_with fail
            go_region_held3 (fun W => W.cell? ⟨w.heap.size, 0, none⟩ = some (.int .i64 n.places) ∧ W.cell? ⟨w.heap.size, 1, none⟩ = some (.slice A n.trans.length c) ∧ W.cell? ⟨b, off + k, none⟩ = some (.string ⟨x.toArray⟩)) (first | exact ⟨e0, e1, d7⟩ | exact ⟨(cell_later hb1 e0), (cell_later hb1 e1), (cell_later hb1 d7)⟩) (first | (go_at_call 42; refine (spec_l1Fire n x kt xt A c _ hgx.out HXT.out h1 h2 (RA.to hr hbw.drew)).mono ?_; rintro e w1 ⟨rfl, hb1⟩; rw [← HFM.out, HO.out, fireV_none]))
            have hs1 : Below wr.heap.size wr w1 := (Below.drew (Below.refl _ _)).trans hb1
            go_wp2_with fail
            go_ret3
            exact ⟨none, 0, [], by rw [HR.out, HRR.out]; rfl, by rw [HR.out, HRR.out]; exact fun h => absurd h (by decide), Own.nil_, hbw.trans (hs1.mono (by omega))⟩
          | some m2 =>
            have hg2 := hide (fireB_good hgx.out HO.out)
            have hl2 : m2.length ≤ 30 := by have := good_places hg2.out; omega
            go_wp2_with fail
            go_region_held3 (fun W => W.cell? ⟨w.heap.size, 0, none⟩ = some (.int .i64 n.places) ∧ W.cell? ⟨w.heap.size, 1, none⟩ = some (.slice A n.trans.length c) ∧ W.cell? ⟨b, off + k, none⟩ = some (.string ⟨x.toArray⟩)) (first | exact ⟨e0, e1, d7⟩ | exact ⟨(cell_later hb1 e0), (cell_later hb1 e1), (cell_later hb1 d7)⟩) (first | (go_at_call 42; refine (spec_l1Fire n x kt xt A c _ hgx.out HXT.out h1 h2 (RA.to hr hbw.drew)).mono ?_; rintro e w1 ⟨rfl, hb1⟩; rw [← HFM.out, HO.out, fireV_some]))
            have hs1 : Below wr.heap.size wr w1 := (Below.drew (Below.refl _ _)).trans hb1
            have ho1 := hide (hown.out.to hs1)
            have hot1 := hide (hot.out.to hs1)
            have hb01 : Below (w.heap.size + 1) (w.alloc (.cells #[.int .i64 n.places, .slice A n.trans.length c] 38)) w1 := hb0.trans (hs1.mono (by omega))
            have hsz1 : w.heap.size + 1 ≤ w1.heap.size := by have := hs1.size; omega
            have hlo : out.length ≤ 4000000 := by omega
            have hm9 : m2.length ≤ 9223372036854775807 := by omega
            obtain ⟨Q, hQ⟩ : ∃ Q, decide (m2 ∈ out) = Q := ⟨_, rfl⟩
            have HQ := hide hQ; clear hQ
            go_wp2_with fail
            refine (spec_l1HasS _ c7 out m2 _ (by omega) ho1.out.ra).mono ?_
            rintro e w3 ⟨rfl, rfl⟩
            rw [HQ.out]
            cases Q with
            | true =>
              have HG2 : Hid (reachIn n x ((enL n x).drop (j + 1)) out = RI) := by show _ = _; rw [← HG.out]; simp [reachIn, HO.out, of_decide_eq_true HQ.out]
              go_wp2_with fail
              go_roundw
              case rel => exact ⟨j + 1, out, some ⟨b, off, none⟩, c7, by omega, by go_num, rfl, HG2, by omega, hx2, hga, ho1, hot1, hb01⟩
              case measure => simp [intOf]; omega
            | false =>
              have HG2 : Hid (reachIn n x ((enL n x).drop (j + 1)) (out ++ [m2]) = RI) := by show _ = _; rw [← HG.out]; simp [reachIn, HO.out, of_decide_eq_false HQ.out]
              have hg3 : Hid (∀ y ∈ out ++ [m2], goodMark n y = true) := fun y hy => by
                rcases List.mem_append.1 hy with hy | hy
                · exact hga.out y hy
                · simp at hy; subst hy; exact hg2.out
              have hx3 : Hid ((out ++ [m2])[k]? = some x) := by show _ = _; rw [List.getElem?_append_left hkl]; exact hx2.out
              have hone := one_str m2
              go_wp2_with (at_builtin; refine wpList_push (S := shStr) (size := 1) (bytes := 16) rfl (.tmp 48) (.tmp 50) rfl Try.underlying81 info_str rfl (by decide) (by decide) rfl ho1.out hsz1 hlo m2 [.string ⟨m2.toArray⟩] ⟨rfl, hm9⟩ hone rfl ?_; intro A2 c2 w4 hown2 hp2)
              have hb04 := hp2.below ho1.out hb01 (Nat.le_refl _) hsz1
              have hot4 := hide (hp2.other ho1.out hot1.out (by decide))
              have HO2 := hide hown2; clear hown2
              go_roundw
              case rel => exact ⟨j + 1, out ++ [m2], A2, c2, by omega, by go_num, by simp, HG2, by simp; omega, hx3, hg3, HO2, hot4, hb04⟩
              case measure => simp [intOf]; omega
        · have hgo' := hgo.out
          rw [drop_end hlt] at hgo'
          simp only [reachIn] at hgo'
          have hst := HSTEP.out
          rw [← hgo'] at hst
          clear hgo'
          by_cases hbig : 600 < out.length
          · rw [after3_big hbig] at hst
            have HST := hide hst; clear hst
            have hbigi : (600 : Int) < (out.length : Int) := by omega
            go_wp2_with fail
            go_ret3
            exact ⟨none, 0, [], by rw [HR.out, HST.out]; rfl, by rw [HR.out, HST.out]; exact fun h => absurd h (by decide), Own.nil_, hbw⟩
          · rw [after3_ok hbig] at hst
            have HST := hide hst.symm; clear hst
            have hbigi : decide ((600 : Int) < (out.length : Int)) = false := by simp; omega
            have HST2 : Hid (reachOut n (601 - (k + 1)) (k + 1) out = R) := by rw [show 601 - (k + 1) = 600 - k from by omega]; exact HST
            have hk3 : k + 1 ≤ 600 := by have := lt_of_get hx2.out; omega
            go_wp2_with fail
            go_roundw
            case rel => exact ⟨k + 1, out, A7, c7, hk3, by go_num, rfl, HST2, by omega, hga, hown, hb0⟩
            case measure => simp [intOf]; omega
    · have hgo' := hgo.out
      rw [reachOut_end hlt] at hgo'
      have HG := hide hgo'; clear hgo'
      go_wp2_with fail
      go_ret3
      exact ⟨A7, c7, out, by rw [HR.out, ← HG.out]; rfl, by rw [HR.out, ← HG.out]; intro _; rfl, hown.out.lower (by omega), hbw⟩

def safeV (r : List (List UInt8) × Nat) : Value := .tuple #[.bool (r.2 == 0), .bool (r.2 != 2)]
def safeQ (n : Net) (m : List UInt8) : List (List UInt8) × Nat := if goodMark n m then reach n m else ([], 2)
set_option maxHeartbeats 1000000 in
theorem impl_IsSafe (n : Net) (m : List UInt8) (A : Option Addr) (c : Nat) (w : World) (hi : InI n.places) (h1 : n.trans.length ≤ c) (h2 : c ≤ 9223372036854775807) (hr : RA shTr w A n.trans) (hm : m.length ≤ 9223372036854775807) :
    Calls Try.prog 23 #[.agg #[.int .i64 n.places, .slice A n.trans.length c], .string ⟨m.toArray⟩] w fun e w' => e = .returned (safeV (safeQ n m)) ∧ Below w.heap.size w w' := by
  obtain ⟨B, hB⟩ : ∃ B, goodMark n m = B := ⟨_, rfl⟩
  have HB := hide hB; clear hB
  go_enter Try.func23, Try.ntmps23
  go_wp2_with fail
  refine (impl_IsValidMarking n m A c _ hi h1 h2 (RA.to hr ?hb) hm).mono ?_
  case hb => (repeat' (first | (with_reducible exact Below.refl _ _) | (with_reducible assumption) | (with_reducible refine below_drewN' ?_ _) | (with_reducible refine Below.drew ?_) | (with_reducible refine Below.alloc ?_ ?_ _) | (with_reducible refine Below.setCell ?_ ?_ _) | (with_reducible refine Below.then_ ?_ (by assumption) ?_) | go_size))
  rintro e w1 ⟨rfl, hb1⟩
  obtain ⟨hc1, hf1⟩ := bcell hb1
  have hz1 := hb1.size
  rw [World.size_alloc] at hz1
  have l1 : w.heap.size < w1.heap.size := by omega
  rw [HB.out]
  cases B
  · go_wp2_with fail
    go_ret2
    exact ⟨by simp [safeQ, HB.out, safeV], by (repeat' (first | (with_reducible exact Below.refl _ _) | (with_reducible assumption) | (with_reducible refine below_drewN' ?_ _) | (with_reducible refine Below.drew ?_) | (with_reducible refine Below.alloc ?_ ?_ _) | (with_reducible refine Below.setCell ?_ ?_ _) | (with_reducible refine Below.then_ ?_ (by assumption) ?_) | go_size))⟩
  obtain ⟨R, hR⟩ : ∃ R, reach n m = R := ⟨_, rfl⟩
  have HR := hide hR; clear hR
  have HQ : Hid (safeQ n m = R) := by show _ = _; simp [safeQ, HB.out, HR.out]
  have hbw : Below w.heap.size w w1 := by (repeat' (first | (with_reducible exact Below.refl _ _) | (with_reducible assumption) | (with_reducible refine below_drewN' ?_ _) | (with_reducible refine Below.drew ?_) | (with_reducible refine Below.alloc ?_ ?_ _) | (with_reducible refine Below.setCell ?_ ?_ _) | (with_reducible refine Below.then_ ?_ (by assumption) ?_) | go_size))
  go_wp2_with fail
  refine (impl_reachable n m A c _ HB.out h1 h2 (RA.to hr hbw)).mono ?_
  rintro e w2 ⟨A', c', out, rfl, _, _, hb2⟩
  rw [HR.out]
  have hv : reachV A' out.length c' R = .tuple #[.slice A' out.length c', .bool (R.2 == 0), .bool (R.2 != 2)] := rfl
  rw [hv]
  clear hv
  generalize hs1 : (R.2 == 0) = s1
  generalize hs2 : (R.2 != 2) = s2
  have HS1 := hide hs1; clear hs1
  have HS2 := hide hs2; clear hs2
  skip
  go_wp2_with fail
  go_ret2
  exact ⟨by rw [HQ.out]; simp [safeV, HS1.out, HS2.out], hbw.trans (hb2.mono (by omega))⟩
set_option maxHeartbeats 1000000 in
theorem spec_IsSafe (n : Net) (m : List UInt8) (A : Option Addr) (c : Nat) (w : World) (hi : InI n.places) (h1 : n.trans.length ≤ c) (h2 : c ≤ 9223372036854775807) (hr : RA shTr w A n.trans) (hm : m.length ≤ 9223372036854775807) :
    Calls Try.prog 22 #[.agg #[.int .i64 n.places, .slice A n.trans.length c], .string ⟨m.toArray⟩] w fun e w' => e = .returned (safeV (safeQ n m)) ∧ Below w.heap.size w w' := by
  obtain ⟨B, hB⟩ : ∃ B, goodMark n m = B := ⟨_, rfl⟩
  have HB := hide hB; clear hB
  go_enter Try.func22, Try.ntmps22
  go_wp2_with fail
  refine (spec_l7Asked n m A c _ hi h1 h2 (RA.to hr ?hb) hm).mono ?_
  case hb => (repeat' (first | (with_reducible exact Below.refl _ _) | (with_reducible assumption) | (with_reducible refine below_drewN' ?_ _) | (with_reducible refine Below.drew ?_) | (with_reducible refine Below.alloc ?_ ?_ _) | (with_reducible refine Below.setCell ?_ ?_ _) | (with_reducible refine Below.then_ ?_ (by assumption) ?_) | go_size))
  rintro e w1 ⟨rfl, hb1⟩
  obtain ⟨hc1, hf1⟩ := bcell hb1
  have hz1 := hb1.size
  rw [World.size_alloc] at hz1
  have l1 : w.heap.size < w1.heap.size := by omega
  rw [HB.out]
  cases B
  · go_wp2_with fail
    go_ret2
    exact ⟨by simp [safeQ, HB.out, safeV], by (repeat' (first | (with_reducible exact Below.refl _ _) | (with_reducible assumption) | (with_reducible refine below_drewN' ?_ _) | (with_reducible refine Below.drew ?_) | (with_reducible refine Below.alloc ?_ ?_ _) | (with_reducible refine Below.setCell ?_ ?_ _) | (with_reducible refine Below.then_ ?_ (by assumption) ?_) | go_size))⟩
  obtain ⟨R, hR⟩ : ∃ R, reach n m = R := ⟨_, rfl⟩
  have HR := hide hR; clear hR
  have HQ : Hid (safeQ n m = R) := by show _ = _; simp [safeQ, HB.out, HR.out]
  have hbw : Below w.heap.size w w1 := by (repeat' (first | (with_reducible exact Below.refl _ _) | (with_reducible assumption) | (with_reducible refine below_drewN' ?_ _) | (with_reducible refine Below.drew ?_) | (with_reducible refine Below.alloc ?_ ?_ _) | (with_reducible refine Below.setCell ?_ ?_ _) | (with_reducible refine Below.then_ ?_ (by assumption) ?_) | go_size))
  go_wp2_with fail
  refine (spec_l9Met n m A c _ HB.out h1 h2 (RA.to hr hbw)).mono ?_
  rintro e w2 ⟨A', c', out, rfl, _, _, hb2⟩
  rw [HR.out]
  have hv : metV A' out.length c' R = .tuple #[.slice A' out.length c', .bool (R.2 == 0), .bool (R.2 != 2)] := rfl
  rw [hv]
  clear hv
  generalize hs1 : (R.2 == 0) = s1
  generalize hs2 : (R.2 != 2) = s2
  have HS1 := hide hs1; clear hs1
  have HS2 := hide hs2; clear hs2
  skip
  cases s1
  · go_wp2_with fail
    go_ret2
    exact ⟨by rw [HQ.out]; simp [safeV, HS1.out, HS2.out], hbw.trans (hb2.mono (by omega))⟩
  · have hs2 : s2 = true := by
      have h0 : R.2 = 0 := by simpa using HS1.out
      have := HS2.out
      rw [h0] at this
      exact this.symm
    have HS3 := hide hs2
    subst hs2
    go_wp2_with fail
    go_ret2
    exact ⟨by rw [HQ.out]; simp [safeV, HS1.out, HS2.out], hbw.trans (hb2.mono (by omega))⟩
end Go.Proofs.Ytogfphbpjlgpdaa
