/-
  Walks: the reachable markings.
-/
import Derived.Test.YtogfphbpjlgpdaaEn
import Derived.Test.YtogfphbpjlgpdaaFireSeq
namespace Go.Proofs.Ytogfphbpjlgpdaa
open Go.RowKit
set_option linter.unusedVariables false

set_option maxHeartbeats 1000000 in
theorem spec_l1HasS (A : Option Addr) (c : Nat) (l : List (List UInt8)) (s : List UInt8) (w : World) (hl : l.length ≤ 9223372036854775807) (hr : RA shStr w A l) :
    Calls Try.prog 71 #[.slice A l.length c, .string ⟨s.toArray⟩] w fun e w' => e = .returned (.bool (decide (s ∈ l))) ∧ w' = w := by
  obtain ⟨R, hR⟩ : ∃ R, decide (s ∈ l) = R := ⟨_, rfl⟩
  have HR := hide hR
  have HL : Hid (decide (s ∈ l.drop 0) = R) := hR
  clear hR
  go_enter Try.func71, Try.ntmps71
  go_wp2
  go_loop [9, 6] (fun i _ => ∃ k : Nat, k ≤ l.length ∧ i = .int .i64 k ∧ Hid (decide (s ∈ l.drop k) = R)) (fun i _ => l.length - (intOf i).toNat)
  case atStart => exact ⟨0, Nat.zero_le _, rfl, HL⟩
  case round =>
    obtain ⟨k, hk, rfl, hgo⟩ := hrel
    by_cases hlt : k < l.length
    · obtain ⟨x, hx⟩ := get_of_lt hlt
      obtain ⟨b, off, rfl, hbl, h1, ix⟩ := hr.str_at (Below.refl _ _) hx
      have hgo' := hgo.out
      rw [drop_get hx] at hgo'
      have HG := hide hgo'; clear hgo' hx
      by_cases hxs : x = s
      · have HXS := hide hxs
        subst hxs
        go_wp2_with fail
        go_ret
        exact ⟨ret_bool (by rw [HR.out, ← HG.out]; simp), rfl⟩
      · have hq : (x == s) = false := by simpa using hxs
        go_wp2_with fail
        go_round
        case rel => exact ⟨k + 1, by omega, by go_num, by show _ = _; rw [← HG.out]; simp [Ne.symm hxs]⟩
        case measure => simp [intOf]; omega
    · have hgo' := hgo.out
      rw [drop_end hlt] at hgo'
      have HG := hide hgo'; clear hgo'
      go_wp2
      go_ret
      exact ⟨ret_bool (by rw [HR.out, ← HG.out]; simp), rfl⟩

set_option maxHeartbeats 1000000 in
theorem spec_l7Asked (n : Net) (m : List UInt8) (A : Option Addr) (c : Nat) (w : World) (hi : InI n.places) (h1 : n.trans.length ≤ c) (h2 : c ≤ 9223372036854775807) (hr : RA shTr w A n.trans) (hm : m.length ≤ 9223372036854775807) :
    Calls Try.prog 47 #[.agg #[.int .i64 n.places, .slice A n.trans.length c], .string ⟨m.toArray⟩] w fun e w' => e = .returned (.bool (goodMark n m)) ∧ Below w.heap.size w w' := by
  obtain ⟨B, hB⟩ : ∃ B, goodNet n = B := ⟨_, rfl⟩
  have HB := hide hB; clear hB
  go_enter Try.func47, Try.ntmps47
  go_wp2_with fail
  refine (spec_l1Good n A c _ hi h1 h2 (RA.to hr ?hb)).mono ?_
  case hb => (repeat' (first | (with_reducible exact Below.refl _ _) | (with_reducible assumption) | (with_reducible refine below_drewN' ?_ _) | (with_reducible refine Below.drew ?_) | (with_reducible refine Below.alloc ?_ ?_ _) | (with_reducible refine Below.setCell ?_ ?_ _) | (with_reducible refine Below.then_ ?_ (by assumption) ?_) | go_size))
  rintro e w1 ⟨rfl, hb1⟩
  obtain ⟨hc1, hf1⟩ := bcell hb1
  have hz1 := hb1.size
  rw [World.size_alloc] at hz1
  have l0 : w.heap.size < w1.heap.size := by omega
  rw [HB.out]
  cases B
  · go_wp2_with fail
    go_ret
    exact ⟨ret_bool (by simp [goodMark, HB.out]), by (repeat' (first | (with_reducible exact Below.refl _ _) | (with_reducible assumption) | (with_reducible refine below_drewN' ?_ _) | (with_reducible refine Below.drew ?_) | (with_reducible refine Below.alloc ?_ ?_ _) | (with_reducible refine Below.setCell ?_ ?_ _) | (with_reducible refine Below.then_ ?_ (by assumption) ?_) | go_size))⟩
  · go_wp2_with fail
    refine (spec_l1Mark m n A c _ hm).mono ?_
    rintro e w2 ⟨rfl, hb2⟩
    go_wp2_with fail
    go_ret
    exact ⟨ret_bool (by simp [goodMark, HB.out]), by (repeat' (first | (with_reducible exact Below.refl _ _) | (with_reducible assumption) | (with_reducible refine below_drewN' ?_ _) | (with_reducible refine Below.drew ?_) | (with_reducible refine Below.alloc ?_ ?_ _) | (with_reducible refine Below.setCell ?_ ?_ _) | (with_reducible refine Below.then_ ?_ (by assumption) ?_) | go_size))⟩

/-- What the map of the program's own search holds. -/
def SeenIs (kv : List (List UInt8 × Value)) (out : List (List UInt8)) : Prop := ∀ x, kvGet x kv = if x ∈ out then some (.bool true) else none
theorem kvGet_set (k : List UInt8) (v : Value) : ∀ (kv : List (List UInt8 × Value)) (x : List UInt8), kvGet x (kvSet k v kv) = if x = k then some v else kvGet x kv
  | [], x => by simp [kvSet, kvGet]
  | (a, u) :: r, x => by
    unfold kvSet
    by_cases hka : k = a
    · subst hka
      by_cases hx : x = k <;> simp [kvGet, hx]
    · simp only [hka, if_false]
      by_cases hxa : x = a
      · subst hxa
        have : ¬ x = k := fun e => hka e.symm
        simp [kvGet, this]
      · simp only [kvGet, hxa, if_false]
        exact kvGet_set k v r x
theorem SeenIs.add {kv : List (List UInt8 × Value)} {out : List (List UInt8)} (h : SeenIs kv out) (m : List UInt8) : SeenIs (kvSet m (.bool true) kv) (out ++ [m]) := fun x => by
  rw [kvGet_set, h x]
  by_cases hx : x = m
  · simp [hx]
  · simp [hx]
theorem zero_bool (w : World) : (zeroValue 4).run Try.prog w = .ok (.bool false) w := by kernel_rfl
theorem keyStr : KeyOk Try.prog 9 (List UInt8) strVal := keyOk_str Try.underlying9

/-- What a search returns: the markings (where it ended well), whether it is safe, whether there were not too many. -/
def reachV (A : Option Addr) (n c : Nat) (r : List (List UInt8) × Nat) : Value := .tuple #[.slice A n c, .bool (r.2 == 0), .bool (r.2 != 2)]

set_option maxHeartbeats 4000000 in
theorem impl_reachable (n : Net) (m : List UInt8) (A : Option Addr) (c : Nat) (w : World) (hg : goodMark n m = true) (h1 : n.trans.length ≤ c) (h2 : c ≤ 9223372036854775807) (hr : RA shTr w A n.trans) :
    Calls Try.prog 49 #[.agg #[.int .i64 n.places, .slice A n.trans.length c], .string ⟨m.toArray⟩] w fun e w' => ∃ A' c' out, e = .returned (reachV A' out.length c' (reach n m)) ∧ ((reach n m).2 = 0 → out = (reach n m).1) ∧ Own shStr w' w.heap.size 9 A' c' out ∧ Below w.heap.size w w' := by
  obtain ⟨R, hR⟩ : ∃ R, reach n m = R := ⟨_, rfl⟩
  have HR := hide hR
  have HL : Hid (reachOut n (601 - 0) 0 [m] = R) := hR
  clear hR
  have hlen24 : n.trans.length ≤ 24 := by
    simp only [goodMark, goodNet, Bool.and_eq_true, decide_eq_true_eq] at hg
    omega
  have hml := (good_places hg).2.2
  have hpl := (good_places hg).2.1
  have HGM := hide hg; clear hg
  have hmk := @run_makeMap Try.prog
  obtain ⟨wm, hum, hmm, htm⟩ : ∃ wm, (Instr.mapUpdate 109 (.map (some (w.heap.size + 2))) (strVal m) (.bool true)).run Try.prog (((w.alloc (.cells #[.int .i64 n.places, .slice A n.trans.length c] 38)).alloc (.cells #[.string ⟨m.toArray⟩] 9)).alloc (.map #[] 0)) = .ok () wm ∧ MapIs strVal wm (w.heap.size + 2) (kvSet m (.bool true) []) ∧ MapTurned (((w.alloc (.cells #[.int .i64 n.places, .slice A n.trans.length c] 38)).alloc (.cells #[.string ⟨m.toArray⟩] 9)).alloc (.map #[] 0)) wm (w.heap.size + 2) := by
    have h := MapIs.new ((w.alloc (.cells #[.int .i64 n.places, .slice A n.trans.length c] 38)).alloc (.cells #[.string ⟨m.toArray⟩] 9)) strVal
    rw [World.size_alloc, World.size_alloc] at h
    exact h.update keyStr Try.underlying109 m (.bool true)
  have HMM := hide hmm; clear hmm
  have HTM := hide htm; clear htm
  unfold strVal at hum
  go_enter Try.func49, Try.ntmps49
  go_wp2_with fail
  have HM2 : Hid (MapIs strVal wm (w.heap.size + 1 + 1) (kvSet m (.bool true) [])) := HMM
  have HT2 : Hid (MapTurned (((w.alloc (.cells #[.int .i64 n.places, .slice A n.trans.length c] 38)).alloc (.cells #[.string ⟨m.toArray⟩] 9)).alloc (.map #[] 0)) wm (w.heap.size + 1 + 1)) := HTM
  clear HMM HTM hum hmk
  have HO : Hid (Own shStr wm (w.heap.size + 1) 9 (some ⟨w.heap.size + 1, 0, none⟩) 1 [m]) := by
    have h := Own.single (S := shStr) (w := w.alloc (.cells #[.int .i64 n.places, .slice A n.trans.length c] 38)) (base := w.heap.size + 1) (e := 9) (y := m) (cs := [.string ⟨m.toArray⟩]) (by simp) ⟨rfl, by omega⟩ (by decide)
    rw [World.size_alloc] at h
    refine (h.keep (w' := ((w.alloc (.cells #[.int .i64 n.places, .slice A n.trans.length c] 38)).alloc (.cells #[.string ⟨m.toArray⟩] 9)).alloc (.map #[] 0)) (fun k hk => ?_)).keep (fun k hk => HT2.out.2.2.2.2 k ?_)
    · have := (h.lt k hk).2
      exact Below.heap_alloc _ _ _ this
    · have := (h.lt k hk).2
      simp at this
      omega
  have HB0 : Below (w.heap.size + 1) (w.alloc (.cells #[.int .i64 n.places, .slice A n.trans.length c] 38)) wm := by
    refine HT2.out.below ?_ (by omega)
    exact ((Below.refl _ _).alloc (by simp) _).alloc (by simp) _
  have HS0 : Hid (SeenIs (kvSet m (.bool true) []) [m]) := fun x => by simp [kvSet, kvGet]
  have HGA : Hid (∀ x ∈ [m], goodMark n x = true) := fun x hx => by simp at hx; subst hx; exact HGM.out
  go_loopw [9, 7] (fun i v wr => ∃ (k : Nat) (out : List (List UInt8)) (A7 : Option Addr) (c7 : Nat) (kv : List (List UInt8 × Value)), k ≤ 600 ∧ i = .int .i64 k ∧ v = .slice A7 out.length c7 ∧ Hid (reachOut n (601 - k) k out = R) ∧ out.length ≤ 600 ∧ Hid (∀ x ∈ out, goodMark n x = true) ∧ Hid (Own shStr wr (w.heap.size + 1) 9 A7 c7 out) ∧ Hid (MapIs strVal wr (w.heap.size + 1 + 1) kv) ∧ Hid (SeenIs kv out) ∧ Below (w.heap.size + 1) (w.alloc (.cells #[.int .i64 n.places, .slice A n.trans.length c] 38)) wr) (fun i _ _ => 601 - (intOf i).toNat)
  case atStart => exact ⟨0, [m], _, _, _, by omega, rfl, rfl, HL, by simp, HGA, HO, HM2, HS0, HB0⟩
  case round =>
    clear HL HO HM2 HS0 HB0 HT2 HGA
    obtain ⟨k, out, A7, c7, kv, hk6, rfl, rfl, hgo, hol, hga, hown, hmap, hseen, hb0⟩ := hrel
    have hsz0 := hb0.size
    rw [World.size_alloc] at hsz0
    have hbw : Below w.heap.size w wr := ((Below.refl w.heap.size w).alloc (Nat.le_refl _) _).trans (hb0.mono (by omega))
    by_cases hlt : k < out.length
    · obtain ⟨x, hx⟩ := get_of_lt hlt
      have hgx := hide (hga.out x (List.mem_of_getElem? hx))
      obtain ⟨b, off, rfl, hbl, d7, _⟩ := hown.out.ra.str_at (Below.refl _ _) hx
      have e0 : wr.cell? ⟨w.heap.size, 0, none⟩ = some (.int .i64 n.places) := by rw [hb0.cell (p := ⟨w.heap.size, 0, none⟩) (by simp)]; simp [go_sem]
      have e1 : wr.cell? ⟨w.heap.size, 1, none⟩ = some (.slice A n.trans.length c) := by rw [hb0.cell (p := ⟨w.heap.size, 1, none⟩) (by simp)]; simp [go_sem]
      have HX := hide hx; clear hx
      have htl := enL_length hgx.out
      obtain ⟨RI, hRI⟩ : ∃ RI, reachIn n x (enL n x) out = RI := ⟨_, rfl⟩
      have HLI : Hid (reachIn n x ((enL n x).drop 0) out = RI) := hRI
      have HSTEP : Hid (R = after3 RI (reachOut n (600 - k) (k + 1))) := by
        have := reachOut_step (n := n) (f := 600 - k) (k := k) (out := out) HX.out
        rw [show 600 - k + 1 = 601 - k from by omega, hgo.out, hRI] at this
        exact this
      clear hRI
      go_wp2_with fail
      go_region_held3 (fun W => W.cell? ⟨w.heap.size, 0, none⟩ = some (.int .i64 n.places) ∧ W.cell? ⟨w.heap.size, 1, none⟩ = some (.slice A n.trans.length c) ∧ W.cell? ⟨b, off + k, none⟩ = some (.string ⟨x.toArray⟩)) (first | exact ⟨e0, e1, d7⟩ | exact ⟨(cell_later hb1 e0), (cell_later hb1 e1), (cell_later hb1 d7)⟩) (first | (go_at_call 72; refine (impl_enabled n x A c _ hgx.out h1 h2 (RA.to hr hbw.drew)).mono ?_; rintro e w1 ⟨At, ct, rfl, hot, hb1, hgt1⟩))
      go_wp2_with fail
      have hs1 : Below wr.heap.size wr w1 := (Below.drew (Below.refl _ _)).trans hb1
      have ho1 := hide (hown.out.to hs1)
      have hm1 := hide (hmap.out.below hs1 hmap.out.lt)
      have hb01 : Below (w.heap.size + 1) (w.alloc (.cells #[.int .i64 n.places, .slice A n.trans.length c] 38)) w1 := hb0.trans (hs1.mono (by omega))
      have hot1 : Hid (Own shInt w1 (w.heap.size + 1) 3 At ct (enL n x)) := hot.lower (by show w.heap.size + 1 ≤ wr.heap.size; omega)
      have HXO := HX
      clear hot hown hmap hb1 e0 e1 d7 hbl hbw
      obtain ⟨wo, rfl⟩ : ∃ wo : World, wo = wr := ⟨_, rfl⟩
      generalize hA7 : (some ⟨b, off, none⟩ : Option Addr) = A7 at ho1 ⊢
      clear hA7
      go_loopw [32, 7] (fun i v wr => ∃ (j : Nat) (out : List (List UInt8)) (A7 : Option Addr) (c7 : Nat) (kv : List (List UInt8 × Value)), j ≤ (enL n x).length ∧ i = .int .i64 j ∧ v = .slice A7 out.length c7 ∧ Hid (reachIn n x ((enL n x).drop j) out = RI) ∧ out.length ≤ 600 + j ∧ Hid (out[k]? = some x) ∧ Hid (∀ x ∈ out, goodMark n x = true) ∧ Hid (Own shStr wr (w.heap.size + 1) 9 A7 c7 out) ∧ Hid (MapIs strVal wr (w.heap.size + 1 + 1) kv) ∧ Hid (SeenIs kv out) ∧ Hid (Own shInt wr (w.heap.size + 1) 3 At ct (enL n x)) ∧ Below (w.heap.size + 1) (w.alloc (.cells #[.int .i64 n.places, .slice A n.trans.length c] 38)) wr) (fun i _ _ => (enL n x).length - (intOf i).toNat)
      case atStart => exact ⟨0, out, A7, c7, kv, Nat.zero_le _, rfl, rfl, HLI, by omega, HX, hga, ho1, hm1, hseen, hot1, hb01⟩
      case round =>
        clear HLI hga ho1 hm1 hseen hot1 hb01 hb0 hsz0 hs1 hgo hol hlt HX HXO
        obtain ⟨j, out, A7, c7, kv, hj, rfl, rfl, hgo, hol, hx2, hga, hown, hmap, hseen, hot, hb0⟩ := hrel
        have hsz0 := hb0.size
        rw [World.size_alloc] at hsz0
        have hbw : Below w.heap.size w wr := ((Below.refl w.heap.size w).alloc (Nat.le_refl _) _).trans (hb0.mono (by omega))
        by_cases hlt : j < (enL n x).length
        · obtain ⟨t, ht⟩ := get_of_lt hlt
          obtain ⟨b, off, rfl, hbl, d7, _⟩ := hown.out.ra.str_at (Below.refl _ _) hx2.out
          obtain ⟨bt, offt, hAt, hblt, dt, it⟩ := hot.out.ra.int_at (Below.refl _ _) ht
          subst hAt
          have hkl : k < out.length := lt_of_get hx2.out
          have e0 : wr.cell? ⟨w.heap.size, 0, none⟩ = some (.int .i64 n.places) := by rw [hb0.cell (p := ⟨w.heap.size, 0, none⟩) (by simp)]; simp [go_sem]
          have e1 : wr.cell? ⟨w.heap.size, 1, none⟩ = some (.slice A n.trans.length c) := by rw [hb0.cell (p := ⟨w.heap.size, 1, none⟩) (by simp)]; simp [go_sem]
          have hgo' := hgo.out
          rw [drop_get ht] at hgo'
          obtain ⟨o, ho⟩ : ∃ o, fireB n x t = o := ⟨_, rfl⟩
          have HO := hide ho; clear ho
          have HG := hide hgo'; clear hgo' ht
          cases o with
          | none =>
            have hRI : RI = none := by rw [← HG.out]; simp [reachIn, HO.out]
            have hRR : R = ([], 1) := by rw [HSTEP.out, hRI, after3_none]
            have HRR := hide hRR
            clear hRI hRR
            go_wp2_with fail
            go_region_held3 (fun W => W.cell? ⟨w.heap.size, 0, none⟩ = some (.int .i64 n.places) ∧ W.cell? ⟨w.heap.size, 1, none⟩ = some (.slice A n.trans.length c) ∧ W.cell? ⟨b, off + k, none⟩ = some (.string ⟨x.toArray⟩)) (first | exact ⟨e0, e1, d7⟩ | exact ⟨(cell_later hb1 e0), (cell_later hb1 e1), (cell_later hb1 d7)⟩) (first | (go_at_call 45; refine (impl_fire n x t A c _ hgx.out h1 h2 (RA.to hr hbw.drew)).mono ?_; rintro e w1 ⟨rfl, hb1⟩; rw [HO.out, fireV_none]))
            have hs1 : Below wr.heap.size wr w1 := (Below.drew (Below.refl _ _)).trans hb1
            go_wp2_with fail
            go_ret3
            exact ⟨some ⟨b, off, none⟩, c7, out, by rw [HR.out, HRR.out]; rfl, by rw [HR.out, HRR.out]; exact fun h => absurd h (by decide), (hown.out.to hs1).lower (by omega), hbw.trans (hs1.mono (by omega))⟩
          | some m2 =>
            have hg2 := hide (fireB_good hgx.out HO.out)
            have hl2 : m2.length ≤ 30 := by have := good_places hg2.out; omega
            go_wp2_with fail
            go_region_held3 (fun W => W.cell? ⟨w.heap.size, 0, none⟩ = some (.int .i64 n.places) ∧ W.cell? ⟨w.heap.size, 1, none⟩ = some (.slice A n.trans.length c) ∧ W.cell? ⟨b, off + k, none⟩ = some (.string ⟨x.toArray⟩)) (first | exact ⟨e0, e1, d7⟩ | exact ⟨(cell_later hb1 e0), (cell_later hb1 e1), (cell_later hb1 d7)⟩) (first | (go_at_call 45; refine (impl_fire n x t A c _ hgx.out h1 h2 (RA.to hr hbw.drew)).mono ?_; rintro e w1 ⟨rfl, hb1⟩; rw [HO.out, fireV_some]))
            have hs1 : Below wr.heap.size wr w1 := (Below.drew (Below.refl _ _)).trans hb1
            have ho1 := hide (hown.out.to hs1)
            have hm1 := hide (hmap.out.below hs1 hmap.out.lt)
            have hot1 := hide (hot.out.to hs1)
            have hb01 : Below (w.heap.size + 1) (w.alloc (.cells #[.int .i64 n.places, .slice A n.trans.length c] 38)) w1 := hb0.trans (hs1.mono (by omega))
            have hsz1 : w.heap.size + 1 ≤ w1.heap.size := by have := hs1.size; omega
            have hlook := hm1.out.lookup keyStr Try.underlying109 (zero_bool w1) m2
            by_cases hmem : m2 ∈ out
            · have hv : (kvGet m2 kv).getD (.bool false) = .bool true := by rw [hseen.out m2, if_pos hmem]; rfl
              rw [hv] at hlook
              unfold strVal at hlook
              have HG2 : Hid (reachIn n x ((enL n x).drop (j + 1)) out = RI) := by show _ = _; rw [← HG.out]; simp [reachIn, HO.out, hmem]
              clear hv hmem
              go_wp2_with fail
              go_roundw
              case rel => exact ⟨j + 1, out, some ⟨b, off, none⟩, c7, kv, by omega, by go_num, rfl, HG2, by omega, hx2, hga, ho1, hm1, hseen, hot1, hb01⟩
              case measure => simp [intOf]; omega
            · have hv : (kvGet m2 kv).getD (.bool false) = .bool false := by rw [hseen.out m2, if_neg hmem]; rfl
              rw [hv] at hlook
              obtain ⟨w3, hup, hm3, ht3⟩ := hm1.out.update keyStr Try.underlying109 m2 (.bool true)
              unfold strVal at hlook hup
              have HG2 : Hid (reachIn n x ((enL n x).drop (j + 1)) (out ++ [m2]) = RI) := by show _ = _; rw [← HG.out]; simp [reachIn, HO.out, hmem]
              have hs2 := hide (hseen.out.add m2)
              have hg3 : Hid (∀ y ∈ out ++ [m2], goodMark n y = true) := fun y hy => by
                rcases List.mem_append.1 hy with hy | hy
                · exact hga.out y hy
                · simp at hy; subst hy; exact hg2.out
              have hx3 : Hid ((out ++ [m2])[k]? = some x) := by show _ = _; rw [List.getElem?_append_left hkl]; exact hx2.out
              have ho3 := hide (ho1.out.turned hm1.out ht3)
              have hot3 := hide (hot1.out.turned hm1.out ht3)
              have hb03 : Below (w.heap.size + 1) (w.alloc (.cells #[.int .i64 n.places, .slice A n.trans.length c] 38)) w3 := ht3.below hb01 (by omega)
              have hsz3 : w.heap.size + 1 ≤ w3.heap.size := by rw [ht3.2.2.2.1]; exact hsz1
              have HM3 := hide hm3; clear hm3 ht3 hv hmem
              have hone := one_str m2
              have hlo : out.length ≤ 4000000 := by omega
              have hm9 : m2.length ≤ 9223372036854775807 := by omega
              go_wp2_with (at_builtin; refine wpList_push (S := shStr) (size := 1) (bytes := 16) rfl (.tmp 55) (.tmp 57) rfl Try.underlying81 info_str rfl (by decide) (by decide) rfl ho3.out hsz3 hlo m2 [.string ⟨m2.toArray⟩] ⟨rfl, hm9⟩ hone rfl ?_; intro A2 c2 w4 hown2 hp2)
              have hb04 := hp2.below ho3.out hb03 (Nat.le_refl _) hsz3
              have hm4 := hide (hp2.map ho3.out HM3.out)
              have hot4 := hide (hp2.other ho3.out hot3.out (by decide))
              have HO2 := hide hown2; clear hown2
              go_roundw
              case rel => exact ⟨j + 1, out ++ [m2], A2, c2, _, by omega, by go_num, by simp, HG2, by simp; omega, hx3, hg3, HO2, hm4, hs2, hot4, hb04⟩
              case measure => simp [intOf]; omega
        · have hgo' := hgo.out
          rw [drop_end hlt] at hgo'
          simp only [reachIn] at hgo'
          have hst := HSTEP.out
          rw [← hgo'] at hst
          clear hgo'
          by_cases hbig : 600 < out.length
          · rw [after3_big hbig] at hst
            have HST := hide hst; clear hst
            have hbigi : (600 : Int) < (out.length : Int) := by omega
            go_wp2_with fail
            go_ret3
            exact ⟨A7, c7, out, by rw [HR.out, HST.out]; rfl, by rw [HR.out, HST.out]; exact fun h => absurd h (by decide), hown.out.lower (by omega), hbw⟩
          · rw [after3_ok hbig] at hst
            have HST := hide hst.symm; clear hst
            have hbigi : decide ((600 : Int) < (out.length : Int)) = false := by simp; omega
            have HST2 : Hid (reachOut n (601 - (k + 1)) (k + 1) out = R) := by rw [show 601 - (k + 1) = 600 - k from by omega]; exact HST
            have hk3 : k + 1 ≤ 600 := by have := lt_of_get hx2.out; omega
            go_wp2_with fail
            go_roundw
            case rel => exact ⟨k + 1, out, A7, c7, kv, hk3, by go_num, rfl, HST2, by omega, hga, hown, hmap, hseen, hb0⟩
            case measure => simp [intOf]; omega
    · have hgo' := hgo.out
      rw [reachOut_end hlt] at hgo'
      have HG := hide hgo'; clear hgo'
      go_wp2_with fail
      go_ret3
      exact ⟨A7, c7, out, by rw [HR.out, ← HG.out]; rfl, by rw [HR.out, ← HG.out]; intro _; rfl, hown.out.lower (by omega), hbw⟩
end Go.Proofs.Ytogfphbpjlgpdaa
