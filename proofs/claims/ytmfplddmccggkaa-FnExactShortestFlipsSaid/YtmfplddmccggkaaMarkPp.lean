/-
  The contracts of the laws' helpers that write and look for marks: int[]/aoh PSt[]/a Flip[]/a ProdG/a. Printed by a program of this repo (markgen.py).
-/
import Derived.Test.YtmfplddmccggkaaRows
import Derived.Test.YtmfplddmccggkaaMarkText
import Derived.Test.YtmfplddmccggkaaLawPp
namespace Go.Proofs.Ytmfplddmccggkaa.Lw
open Go.RowKit
set_option linter.unusedVariables false

set_option maxHeartbeats 1000000 in
theorem markIntS_arg (w0 : World) (D : Nat → Prop) (hD : ∀ b, D b → b < w0.heap.size) (hnf : ∀ b o, D b → w0.frozen? ⟨b, o, none⟩ = false) (A : Option Addr) (c : Nat) (l : List Int) (hr : RSl shInt w0 D A l) (hl : l.length ≤ 9223372036854775807) (k : Int) (w : World) (hm : Marked D w0 w) (h0 : 0 ≤ k) (hk : k + 64 * ((l).length : Nat) ≤ 4611686018427387904) :
    Calls Try.prog 13 #[.slice A l.length c, .int .i64 k] w fun e w' => ∃ k' : Int, e = .returned (.int .i64 k') ∧ k ≤ k' ∧ k' ≤ k + 64 * ((l).length : Nat) ∧ Marked D w0 w' ∧ Touch D w w' := by
  go_enter Try.func13, Try.ntmps13
  go_wp2_with fail
  go_loopw [5, 1] (fun i kv wr => ∃ (j : Nat) (n : Int), j ≤ l.length ∧ i = .int .i64 j ∧ kv = .int .i64 n ∧ k ≤ n ∧ n + 64 * (((l.drop j)).length : Nat) ≤ k + 64 * ((l).length : Nat) ∧ Hid (Marked D w0 wr) ∧ Hid (Touch D w wr)) (fun i _ _ => l.length - (intOf i).toNat)
  case atStart => exact ⟨0, k, Nat.zero_le _, rfl, rfl, Int.le_refl _, by simp, hm, Touch.refl _ _⟩
  case round =>
    obtain ⟨j, n, hj, rfl, rfl, hn0, hn1, hmr, htr⟩ := hrel
    have hsr := hmr.out.size
    by_cases hlt : j < l.length
    · obtain ⟨x, hx⟩ := get_of_lt hlt
      obtain ⟨b, off, rfl, hDb, d0, f0⟩ := hr.int_at hx
      have hcost : (((l.drop j)).length : Nat) = 1 + (((l.drop (j + 1))).length : Nat) := by rw [drop_get hx]; rw [List.length_cons]; omega
      rw [hcost] at hn1
      clear hcost hx
      have lb := hD b hDb
      have hk0 : 0 ≤ n := by omega
      have lbr : b < wr.heap.size := by omega
      obtain ⟨v0_0, e0_0, _⟩ := hmr.out.cells _ _ _ hDb d0
      have z0_0 : wr.frozen? ⟨b, off + j, none⟩ = false := (hmr.out.froz _ _ hDb).trans (hnf _ _ hDb)
      go_wp2_with fail
      go_roundw
      case rel => exact ⟨j + 1, n + 1, by omega, by go_num, rfl, by omega, by omega, (hmr.out.put hDb d0 (.int _ _)), (htr.out.put hDb _)⟩
      case measure => simp [intOf]; omega
    · go_wp2_with fail
      go_ret
      exact ⟨n, rfl, hn0, by omega, hmr.out, htr.out⟩

def mkInt (n : Int) (_ : Int) : Int := n
set_option maxHeartbeats 1000000 in
theorem markIntS_own (base : Nat) (t : TypeId) (A : Option Addr) (c : Nat) (l : List Int) (k : Int) (w : World) (ho : Own shInt w base t A c l) (h0 : 0 ≤ k) (hk : k + 1 * l.length ≤ 4611686018427387904) :
    Calls Try.prog 13 #[.slice A l.length c, .int .i64 k] w fun e w' => e = .returned (.int .i64 (k + 1 * l.length)) ∧ RSl shInt w' (fun b => blk A = some b) A (marksL mkInt 1 k l) ∧ Touch (fun b => blk A = some b) w w' := by
  have hcap := ho.cap
  have hlt0 := ho.lt
  have HM : Hid (MRow shInt w A t c 0 (marksL mkInt 1 k l)) := ho.mrow (marksL_len _ _ _ _)
  obtain ⟨ml, hml⟩ : ∃ ml, (marksL mkInt 1 k l) = ml := ⟨_, rfl⟩
  have hmlen : ml.length = l.length := by rw [← hml]; exact marksL_len _ _ _ _
  rw [hml] at HM ⊢
  have HML := hide hml; clear hml
  go_enter Try.func13, Try.ntmps13
  go_wp2_with fail
  go_loopw [5, 1] (fun i kv wr => ∃ (j : Nat) (n : Int), j ≤ l.length ∧ i = .int .i64 j ∧ kv = .int .i64 n ∧ Hid (n = k + 1 * j) ∧ Hid (MRow shInt wr A t c j ml) ∧ Hid (Touch (fun b => blk A = some b) w wr)) (fun i _ _ => l.length - (intOf i).toNat)
  case atStart => exact ⟨0, k, Nat.zero_le _, rfl, rfl, by show _ = _; omega, HM, Touch.refl _ _⟩
  case round =>
    obtain ⟨j, n, hj, rfl, rfl, hn, hmr, htr⟩ := hrel
    have hnv := hn.out
    have hsr := htr.out.size
    by_cases hlt : j < l.length
    · obtain ⟨x, hx⟩ := get_of_lt hlt
      have hmx : ml[j]? = some (mkInt n x) := by rw [← HML.out, marksL_get hx, hnv]; rfl
      obtain ⟨g, rfl, hroom⟩ := hmr.out.room hmx
      have lg : g < wr.heap.size := by have := (hlt0 g rfl).2; omega
      obtain ⟨⟨v0, r0⟩, z0⟩ := hroom 0 (by decide)
      simp only [shInt, Nat.add_zero, Nat.mul_one] at r0 z0
      have HX := hide hmx; clear hmx hx hroom
      have hk0 : 0 ≤ n ∧ n + 1 ≤ 4611686018427387904 := by omega
      clear hnv
      go_wp2_with fail
      go_roundw
      case rel => exact ⟨j + 1, n + 1, by omega, by go_num, by go_num, by have := hn.out; show _ = _; omega, hide (hmr.out.step [.int .i64 (n)] HX.out (⟨rfl, (by constructor <;> simp only [mkInt] <;> omega)⟩) (by simp [setCells, shInt])), hide (Touch.put htr.out (p := ⟨g, j, none⟩) rfl _)⟩
      case measure => simp [intOf]; omega
    · have hjl : j = l.length := by omega
      have HJ := hide hjl; clear hjl hnv
      go_wp2_with fail
      go_ret
      refine ⟨ret_int (by rw [hn.out, HJ.out]), ?_, htr.out⟩
      have h := hmr.out
      rw [HJ.out, ← hmlen] at h
      exact h.done

set_option maxHeartbeats 1000000 in
theorem heldIntS (A : Option Addr) (c : Nat) (l : List Int) (k : Int) (w : World) (hl : l.length ≤ 9223372036854775807) (hr : RA shInt w A (marksL mkInt 1 k l)) (h0 : 0 ≤ k) (hk : k + 1 * l.length ≤ 4611686018427387904) :
    Calls Try.prog 14 #[.slice A l.length c, .int .i64 k] w fun e w' => e = .returned (.int .i64 (k + 1 * l.length)) ∧ Below w.heap.size w w' := by
  go_enter Try.func14, Try.ntmps14
  go_wp2_with fail
  go_loopw [5, 1] (fun i kv wr => ∃ (j : Nat) (n : Int), j ≤ l.length ∧ i = .int .i64 j ∧ kv = .int .i64 n ∧ Hid (n = k + 1 * j) ∧ Below w.heap.size w wr) (fun i _ _ => l.length - (intOf i).toNat)
  case atStart => exact ⟨0, k, Nat.zero_le _, rfl, rfl, by show _ = _; omega, Below.refl _ _⟩
  case round =>
    obtain ⟨j, n, hj, rfl, rfl, hn, hb⟩ := hrel
    have hnv := hn.out
    have hsz := hb.size
    by_cases hlt : j < l.length
    · obtain ⟨x, hx⟩ := get_of_lt hlt
      have hmx : (marksL mkInt 1 k l)[j]? = some (mkInt n x) := by rw [marksL_get hx, hnv]; rfl
      obtain ⟨b, off, rfl, hbl, d0, f0⟩ := hr.int_at hb hmx
      simp only [mkInt] at d0
      clear hmx hx
      have hk0 : 0 ≤ n ∧ n + 1 ≤ 4611686018427387904 := by omega
      clear hnv
      go_wp2_with fail
      try go_quiet (fail)
      go_wp2_with fail
      go_roundw
      case rel => exact ⟨j + 1, n + 1, by omega, by go_num, by go_num, by have := hn.out; show _ = _; omega, by (repeat' (first | (with_reducible exact Below.refl _ _) | (with_reducible assumption) | (with_reducible refine below_drewN' ?_ _) | (with_reducible refine Below.drew ?_) | (with_reducible refine Below.alloc ?_ ?_ _) | (with_reducible refine Below.setCell ?_ ?_ _) | (with_reducible refine Below.then_ ?_ (by assumption) ?_) | go_size))⟩
      case measure => simp [intOf]; omega
    · have hjl : j = l.length := by omega
      have HJ := hide hjl; clear hjl hnv
      go_wp2_with fail
      go_ret
      exact ⟨ret_int (by rw [hn.out, HJ.out]), hb⟩

set_option maxHeartbeats 1000000 in
theorem markProductStateS_arg (w0 : World) (D : Nat → Prop) (hD : ∀ b, D b → b < w0.heap.size) (hnf : ∀ b o, D b → w0.frozen? ⟨b, o, none⟩ = false) (A : Option Addr) (c : Nat) (l : List PSt) (hr : RSl shPSt w0 D A l) (hl : l.length ≤ 9223372036854775807) (k : Int) (w : World) (hm : Marked D w0 w) (h0 : 0 ≤ k) (hk : k + 64 * ((wtL wtPSt l) : Nat) ≤ 4611686018427387904) :
    Calls Try.prog 37 #[.slice A l.length c, .int .i64 k] w fun e w' => ∃ k' : Int, e = .returned (.int .i64 k') ∧ k ≤ k' ∧ k' ≤ k + 64 * ((wtL wtPSt l) : Nat) ∧ Marked D w0 w' ∧ Touch D w w' := by
  go_enter Try.func37, Try.ntmps37
  go_wp2_with fail
  go_loopw [5, 1] (fun i kv wr => ∃ (j : Nat) (n : Int), j ≤ l.length ∧ i = .int .i64 j ∧ kv = .int .i64 n ∧ k ≤ n ∧ n + 64 * ((wtL wtPSt (l.drop j)) : Nat) ≤ k + 64 * ((wtL wtPSt l) : Nat) ∧ Hid (Marked D w0 wr) ∧ Hid (Touch D w wr)) (fun i _ _ => l.length - (intOf i).toNat)
  case atStart => exact ⟨0, k, Nat.zero_le _, rfl, rfl, Int.le_refl _, by simp, hm, Touch.refl _ _⟩
  case round =>
    obtain ⟨j, n, hj, rfl, rfl, hn0, hn1, hmr, htr⟩ := hrel
    have hsr := hmr.out.size
    by_cases hlt : j < l.length
    · obtain ⟨x, hx⟩ := get_of_lt hlt
      obtain ⟨b, off, rfl, hDb, d0, d1, f0, f1⟩ := hr.PSt_at hx
      have hcost : ((wtL wtPSt (l.drop j)) : Nat) = 1 + wtPSt x + ((wtL wtPSt (l.drop (j + 1))) : Nat) := by rw [drop_get hx]; rw [wtL_cons]
      rw [show wtPSt x = (x.values).length from rfl] at hcost
      rw [hcost] at hn1
      clear hcost hx
      have lb := hD b hDb
      have hk0 : 0 ≤ n := by omega
      have lbr : b < wr.heap.size := by omega
      obtain ⟨v0_0, e0_0, _⟩ := hmr.out.cells _ _ _ hDb d0
      have z0_0 : wr.frozen? ⟨b, off + j * 2, none⟩ = false := (hmr.out.froz _ _ hDb).trans (hnf _ _ hDb)
      obtain ⟨v1_0, e1_0, _⟩ := hmr.out.cells _ _ _ hDb d1
      have z1_0 : wr.frozen? ⟨b, off + j * 2 + 1, none⟩ = false := (hmr.out.froz _ _ hDb).trans (hnf _ _ hDb)
      go_wp2_with fail
      refine (markTextI (n + 1) _ (by omega) (by omega)).mono ?_
      rintro e w1 ⟨rfl, hb1⟩
      obtain ⟨hc1, hf1⟩ := bcell hb1
      have hz1 := hb1.size
      repeat (first | rw [World.size_setCell] at hz1)
      have lb1 : b < w1.heap.size := by omega
      go_wp2_with fail
      go_roundw
      case rel => exact ⟨j + 1, n + 1 + 1, by omega, by go_num, rfl, by omega, by omega, (((hmr.out.put hDb d0 (.int _ _)).then_ (fun q hq => by have := hD q hq; (repeat rw [World.size_setCell]); omega) hb1).put hDb d1 (.str _ _)), (((htr.out.put hDb _).then_ hb1).put hDb _)⟩
      case measure => simp [intOf]; omega
    · go_wp2_with fail
      go_ret
      exact ⟨n, rfl, hn0, by omega, hmr.out, htr.out⟩

set_option maxHeartbeats 1000000 in
theorem markWireFlipS_arg (w0 : World) (D : Nat → Prop) (hD : ∀ b, D b → b < w0.heap.size) (hnf : ∀ b o, D b → w0.frozen? ⟨b, o, none⟩ = false) (A : Option Addr) (c : Nat) (l : List Flip) (hr : RSl shFlip w0 D A l) (hl : l.length ≤ 9223372036854775807) (k : Int) (w : World) (hm : Marked D w0 w) (h0 : 0 ≤ k) (hk : k + 64 * ((l).length : Nat) ≤ 4611686018427387904) :
    Calls Try.prog 38 #[.slice A l.length c, .int .i64 k] w fun e w' => ∃ k' : Int, e = .returned (.int .i64 k') ∧ k ≤ k' ∧ k' ≤ k + 64 * ((l).length : Nat) ∧ Marked D w0 w' ∧ Touch D w w' := by
  go_enter Try.func38, Try.ntmps38
  go_wp2_with fail
  go_loopw [5, 1] (fun i kv wr => ∃ (j : Nat) (n : Int), j ≤ l.length ∧ i = .int .i64 j ∧ kv = .int .i64 n ∧ k ≤ n ∧ n + 64 * (((l.drop j)).length : Nat) ≤ k + 64 * ((l).length : Nat) ∧ Hid (Marked D w0 wr) ∧ Hid (Touch D w wr)) (fun i _ _ => l.length - (intOf i).toNat)
  case atStart => exact ⟨0, k, Nat.zero_le _, rfl, rfl, Int.le_refl _, by simp, hm, Touch.refl _ _⟩
  case round =>
    obtain ⟨j, n, hj, rfl, rfl, hn0, hn1, hmr, htr⟩ := hrel
    have hsr := hmr.out.size
    by_cases hlt : j < l.length
    · obtain ⟨x, hx⟩ := get_of_lt hlt
      obtain ⟨b, off, rfl, hDb, d0, d1, d2, f0, f1, f2⟩ := hr.Flip_at hx
      have hcost : (((l.drop j)).length : Nat) = 1 + (((l.drop (j + 1))).length : Nat) := by rw [drop_get hx]; rw [List.length_cons]; omega
      rw [hcost] at hn1
      clear hcost hx
      have lb := hD b hDb
      have hk0 : 0 ≤ n := by omega
      have lbr : b < wr.heap.size := by omega
      obtain ⟨v0_0, e0_0, _⟩ := hmr.out.cells _ _ _ hDb d0
      have z0_0 : wr.frozen? ⟨b, off + j * 3, none⟩ = false := (hmr.out.froz _ _ hDb).trans (hnf _ _ hDb)
      obtain ⟨v1_0, e1_0, _⟩ := hmr.out.cells _ _ _ hDb d1
      have z1_0 : wr.frozen? ⟨b, off + j * 3 + 1, none⟩ = false := (hmr.out.froz _ _ hDb).trans (hnf _ _ hDb)
      obtain ⟨v2_0, e2_0, _⟩ := hmr.out.cells _ _ _ hDb d2
      have z2_0 : wr.frozen? ⟨b, off + j * 3 + 2, none⟩ = false := (hmr.out.froz _ _ hDb).trans (hnf _ _ hDb)
      go_wp2_with fail
      go_roundw
      case rel => exact ⟨j + 1, n + 1 + 1 + 1, by omega, by go_num, rfl, by omega, by omega, (((hmr.out.put hDb d0 (.int _ _)).put hDb d1 (.int _ _)).put hDb d2 (.int _ _)), (((htr.out.put hDb _).put hDb _).put hDb _)⟩
      case measure => simp [intOf]; omega
    · go_wp2_with fail
      go_ret
      exact ⟨n, rfl, hn0, by omega, hmr.out, htr.out⟩

set_option maxHeartbeats 1000000 in
theorem markProduct_arg (w0 : World) (D : Nat → Prop) (hD : ∀ b, D b → b < w0.heap.size) (hnf : ∀ b o, D b → w0.frozen? ⟨b, o, none⟩ = false) (x : ProdG) (A_states : Option Addr) (c_states : Nat) (A_flips : Option Addr) (c_flips : Nat) (A_extra : Option Addr) (c_extra : Nat) (g0 : (x.states).length ≤ c_states) (g1 : c_states ≤ 9223372036854775807) (g2 : RSl shPSt w0 D A_states x.states) (g3 : (x.flips).length ≤ c_flips) (g4 : c_flips ≤ 9223372036854775807) (g5 : RSl shFlip w0 D A_flips x.flips) (g6 : (x.extra).length ≤ c_extra) (g7 : c_extra ≤ 9223372036854775807) (g8 : RSl shFlip w0 D A_extra x.extra) (k : Int) (w : World) (hm : Marked D w0 w) (h0 : 0 ≤ k) (hk : k + 64 * (wtProdG x : Nat) ≤ 4611686018427387904) :
    Calls Try.prog 12 #[.agg #[.slice A_states (x.states).length c_states, .slice A_flips (x.flips).length c_flips, .slice A_extra (x.extra).length c_extra], .int .i64 k] w fun e w' => ∃ k' : Int, e = .returned (.int .i64 k') ∧ k ≤ k' ∧ k' ≤ k + 64 * (wtProdG x : Nat) ∧ Marked D w0 w' ∧ Touch D w w' := by
  have hwt : wtProdG x = wtProdG x := rfl
  conv at hwt => rhs; unfold wtProdG
  rw [hwt] at hk ⊢
  clear hwt
  have hs0 := hm.size
  have hbx : ∀ b, b = w.heap.size → ¬ D b := fun b hb hd => by have := hD b hd; omega
  go_enter Try.func12, Try.ntmps12
  go_wp2_with fail
  have hM0 := hm.then_ (fun q hq => by have := hD q hq; omega) ((Below.refl w.heap.size w).alloc (Nat.le_refl _) (.cells #[.slice A_states (x.states).length c_states, .slice A_flips (x.flips).length c_flips, .slice A_extra (x.extra).length c_extra] 33))
  have hT0 : Touch D w (w.alloc (.cells #[.slice A_states (x.states).length c_states, .slice A_flips (x.flips).length c_flips, .slice A_extra (x.extra).length c_extra] 33)) := (Touch.refl D w).then_ ((Below.refl w.heap.size w).alloc (Nat.le_refl _) _)
  refine (markProductStateS_arg w0 D hD hnf _ _ _ g2 (by omega) k _ hM0 (by omega) (by omega)).mono ?_
  rintro e w1 ⟨n1, rfl, hp1, hq1, hM1, hT1⟩
  have hTT1 : Touch D w w1 := Touch.chain hT0 hT1 hD hm.size
  have hs1 := hT1.size
  rw [World.size_alloc] at hs1
  have e1_1 : w1.cell? ⟨w.heap.size, 1, none⟩ = some (.slice A_flips (x.flips).length c_flips) := by rw [hT1.cell (by first | omega | (rw [World.size_alloc]; omega)) (hbx _ rfl)]; simp [go_sem]
  have e2_1 : w1.cell? ⟨w.heap.size, 2, none⟩ = some (.slice A_extra (x.extra).length c_extra) := by rw [hT1.cell (by first | omega | (rw [World.size_alloc]; omega)) (hbx _ rfl)]; simp [go_sem]
  go_wp2_with fail
  refine (markWireFlipS_arg w0 D hD hnf _ _ _ g5 (by omega) n1 _ hM1 (by omega) (by omega)).mono ?_
  rintro e w2 ⟨n2, rfl, hp2, hq2, hM2, hT2⟩
  have hTT2 : Touch D w w2 := Touch.chain hTT1 hT2 hD hm.size
  have hs2 := hT2.size
  have e2_2 : w2.cell? ⟨w.heap.size, 2, none⟩ = some (.slice A_extra (x.extra).length c_extra) := by rw [hT2.cell (by first | omega | (rw [World.size_alloc]; omega)) (hbx _ rfl)]; exact e2_1
  go_wp2_with fail
  refine (markWireFlipS_arg w0 D hD hnf _ _ _ g8 (by omega) n2 _ hM2 (by omega) (by omega)).mono ?_
  rintro e w3 ⟨n3, rfl, hp3, hq3, hM3, hT3⟩
  have hTT3 : Touch D w w3 := Touch.chain hTT2 hT3 hD hm.size
  have hs3 := hT3.size
  go_wp2_with fail
  go_ret
  exact ⟨n3, rfl, by omega, by omega, hM3, hTT3⟩

end Go.Proofs.Ytmfplddmccggkaa.Lw
