/-
  The contracts of the laws' helpers that write and look for marks: int[]/aoh Tr[]/a Net/a Sig[]/a Lab[]/a STG/a TF[]/a. Printed by a program of this repo (markgen.py).
-/
import Derived.Test.YtnpbdphfjablbaaRows
import Derived.Test.YtnpbdphfjablbaaMarkText
import Derived.Test.YtnpbdphfjablbaaLawTm
namespace Go.Proofs.Ytnpbdphfjablbaa.Lw
open Go.RowKit
set_option linter.unusedVariables false

set_option maxHeartbeats 1000000 in
theorem markIntS_arg (w0 : World) (D : Nat → Prop) (hD : ∀ b, D b → b < w0.heap.size) (hnf : ∀ b o, D b → w0.frozen? ⟨b, o, none⟩ = false) (A : Option Addr) (c : Nat) (l : List Int) (hr : RSl shInt w0 D A l) (hl : l.length ≤ 9223372036854775807) (k : Int) (w : World) (hm : Marked D w0 w) (h0 : 0 ≤ k) (hk : k + 64 * ((l).length : Nat) ≤ 4611686018427387904) :
    Calls Try.prog 28 #[.slice A l.length c, .int .i64 k] w fun e w' => ∃ k' : Int, e = .returned (.int .i64 k') ∧ k ≤ k' ∧ k' ≤ k + 64 * ((l).length : Nat) ∧ Marked D w0 w' ∧ Touch D w w' := by
  go_enter Try.func28, Try.ntmps28
  go_wp2_with fail
  go_loopw [5, 1] (fun i kv wr => ∃ (j : Nat) (n : Int), j ≤ l.length ∧ i = .int .i64 j ∧ kv = .int .i64 n ∧ k ≤ n ∧ n + 64 * (((l.drop j)).length : Nat) ≤ k + 64 * ((l).length : Nat) ∧ Hid (Marked D w0 wr) ∧ Hid (Touch D w wr)) (fun i _ _ => l.length - (intOf i).toNat)
  case atStart => exact ⟨0, k, Nat.zero_le _, rfl, rfl, Int.le_refl _, by simp, hm, Touch.refl _ _⟩
  case round =>
    obtain ⟨j, n, hj, rfl, rfl, hn0, hn1, hmr, htr⟩ := hrel
    have hsr := hmr.out.size
    by_cases hlt : j < l.length
    · obtain ⟨x, hx⟩ := get_of_lt hlt
      obtain ⟨b, off, rfl, hDb, d0, f0⟩ := hr.int_at hx
      have hcost : (((l.drop j)).length : Nat) = 1 + (((l.drop (j + 1))).length : Nat) := by rw [drop_get hx]; rw [List.length_cons]; omega
      rw [hcost] at hn1
      clear hcost hx
      have lb := hD b hDb
      have hk0 : 0 ≤ n := by omega
      have lbr : b < wr.heap.size := by omega
      obtain ⟨v0_0, e0_0, _⟩ := hmr.out.cells _ _ _ hDb d0
      have z0_0 : wr.frozen? ⟨b, off + j, none⟩ = false := (hmr.out.froz _ _ hDb).trans (hnf _ _ hDb)
      go_wp2_with fail
      go_roundw
      case rel => exact ⟨j + 1, n + 1, by omega, by go_num, rfl, by omega, by omega, (hmr.out.put hDb d0 (.int _ _)), (htr.out.put hDb _)⟩
      case measure => simp [intOf]; omega
    · go_wp2_with fail
      go_ret
      exact ⟨n, rfl, hn0, by omega, hmr.out, htr.out⟩

def mkInt (n : Int) (_ : Int) : Int := n
set_option maxHeartbeats 1000000 in
theorem markIntS_own (base : Nat) (t : TypeId) (A : Option Addr) (c : Nat) (l : List Int) (k : Int) (w : World) (ho : Own shInt w base t A c l) (h0 : 0 ≤ k) (hk : k + 1 * l.length ≤ 4611686018427387904) :
    Calls Try.prog 28 #[.slice A l.length c, .int .i64 k] w fun e w' => e = .returned (.int .i64 (k + 1 * l.length)) ∧ RSl shInt w' (fun b => blk A = some b) A (marksL mkInt 1 k l) ∧ Touch (fun b => blk A = some b) w w' := by
  have hcap := ho.cap
  have hlt0 := ho.lt
  have HM : Hid (MRow shInt w A t c 0 (marksL mkInt 1 k l)) := ho.mrow (marksL_len _ _ _ _)
  obtain ⟨ml, hml⟩ : ∃ ml, (marksL mkInt 1 k l) = ml := ⟨_, rfl⟩
  have hmlen : ml.length = l.length := by rw [← hml]; exact marksL_len _ _ _ _
  rw [hml] at HM ⊢
  have HML := hide hml; clear hml
  go_enter Try.func28, Try.ntmps28
  go_wp2_with fail
  go_loopw [5, 1] (fun i kv wr => ∃ (j : Nat) (n : Int), j ≤ l.length ∧ i = .int .i64 j ∧ kv = .int .i64 n ∧ Hid (n = k + 1 * j) ∧ Hid (MRow shInt wr A t c j ml) ∧ Hid (Touch (fun b => blk A = some b) w wr)) (fun i _ _ => l.length - (intOf i).toNat)
  case atStart => exact ⟨0, k, Nat.zero_le _, rfl, rfl, by show _ = _; omega, HM, Touch.refl _ _⟩
  case round =>
    obtain ⟨j, n, hj, rfl, rfl, hn, hmr, htr⟩ := hrel
    have hnv := hn.out
    have hsr := htr.out.size
    by_cases hlt : j < l.length
    · obtain ⟨x, hx⟩ := get_of_lt hlt
      have hmx : ml[j]? = some (mkInt n x) := by rw [← HML.out, marksL_get hx, hnv]; rfl
      obtain ⟨g, rfl, hroom⟩ := hmr.out.room hmx
      have lg : g < wr.heap.size := by have := (hlt0 g rfl).2; omega
      obtain ⟨⟨v0, r0⟩, z0⟩ := hroom 0 (by decide)
      simp only [shInt, Nat.add_zero, Nat.mul_one] at r0 z0
      have HX := hide hmx; clear hmx hx hroom
      have hk0 : 0 ≤ n ∧ n + 1 ≤ 4611686018427387904 := by omega
      clear hnv
      go_wp2_with fail
      go_roundw
      case rel => exact ⟨j + 1, n + 1, by omega, by go_num, by go_num, by have := hn.out; show _ = _; omega, hide (hmr.out.step [.int .i64 (n)] HX.out (⟨rfl, (by constructor <;> simp only [mkInt] <;> omega)⟩) (by simp [setCells, shInt])), hide (Touch.put htr.out (p := ⟨g, j, none⟩) rfl _)⟩
      case measure => simp [intOf]; omega
    · have hjl : j = l.length := by omega
      have HJ := hide hjl; clear hjl hnv
      go_wp2_with fail
      go_ret
      refine ⟨ret_int (by rw [hn.out, HJ.out]), ?_, htr.out⟩
      have h := hmr.out
      rw [HJ.out, ← hmlen] at h
      exact h.done

set_option maxHeartbeats 1000000 in
theorem heldIntS (A : Option Addr) (c : Nat) (l : List Int) (k : Int) (w : World) (hl : l.length ≤ 9223372036854775807) (hr : RA shInt w A (marksL mkInt 1 k l)) (h0 : 0 ≤ k) (hk : k + 1 * l.length ≤ 4611686018427387904) :
    Calls Try.prog 29 #[.slice A l.length c, .int .i64 k] w fun e w' => e = .returned (.int .i64 (k + 1 * l.length)) ∧ Below w.heap.size w w' := by
  go_enter Try.func29, Try.ntmps29
  go_wp2_with fail
  go_loopw [5, 1] (fun i kv wr => ∃ (j : Nat) (n : Int), j ≤ l.length ∧ i = .int .i64 j ∧ kv = .int .i64 n ∧ Hid (n = k + 1 * j) ∧ Below w.heap.size w wr) (fun i _ _ => l.length - (intOf i).toNat)
  case atStart => exact ⟨0, k, Nat.zero_le _, rfl, rfl, by show _ = _; omega, Below.refl _ _⟩
  case round =>
    obtain ⟨j, n, hj, rfl, rfl, hn, hb⟩ := hrel
    have hnv := hn.out
    have hsz := hb.size
    by_cases hlt : j < l.length
    · obtain ⟨x, hx⟩ := get_of_lt hlt
      have hmx : (marksL mkInt 1 k l)[j]? = some (mkInt n x) := by rw [marksL_get hx, hnv]; rfl
      obtain ⟨b, off, rfl, hbl, d0, f0⟩ := hr.int_at hb hmx
      simp only [mkInt] at d0
      clear hmx hx
      have hk0 : 0 ≤ n ∧ n + 1 ≤ 4611686018427387904 := by omega
      clear hnv
      go_wp2_with fail
      try go_quiet (fail)
      go_wp2_with fail
      go_roundw
      case rel => exact ⟨j + 1, n + 1, by omega, by go_num, by go_num, by have := hn.out; show _ = _; omega, by (repeat' (first | (with_reducible exact Below.refl _ _) | (with_reducible assumption) | (with_reducible refine below_drewN' ?_ _) | (with_reducible refine Below.drew ?_) | (with_reducible refine Below.alloc ?_ ?_ _) | (with_reducible refine Below.setCell ?_ ?_ _) | (with_reducible refine Below.then_ ?_ (by assumption) ?_) | go_size))⟩
      case measure => simp [intOf]; omega
    · have hjl : j = l.length := by omega
      have HJ := hide hjl; clear hjl hnv
      go_wp2_with fail
      go_ret
      exact ⟨ret_int (by rw [hn.out, HJ.out]), hb⟩

set_option maxHeartbeats 1000000 in
theorem markTransitionS_arg (w0 : World) (D : Nat → Prop) (hD : ∀ b, D b → b < w0.heap.size) (hnf : ∀ b o, D b → w0.frozen? ⟨b, o, none⟩ = false) (A : Option Addr) (c : Nat) (l : List Tr) (hr : RSl shTr w0 D A l) (hl : l.length ≤ 9223372036854775807) (k : Int) (w : World) (hm : Marked D w0 w) (h0 : 0 ≤ k) (hk : k + 64 * ((wtL wtTr l) : Nat) ≤ 4611686018427387904) :
    Calls Try.prog 115 #[.slice A l.length c, .int .i64 k] w fun e w' => ∃ k' : Int, e = .returned (.int .i64 k') ∧ k ≤ k' ∧ k' ≤ k + 64 * ((wtL wtTr l) : Nat) ∧ Marked D w0 w' ∧ Touch D w w' := by
  go_enter Try.func115, Try.ntmps115
  go_wp2_with fail
  go_loopw [5, 1] (fun i kv wr => ∃ (j : Nat) (n : Int), j ≤ l.length ∧ i = .int .i64 j ∧ kv = .int .i64 n ∧ k ≤ n ∧ n + 64 * ((wtL wtTr (l.drop j)) : Nat) ≤ k + 64 * ((wtL wtTr l) : Nat) ∧ Hid (Marked D w0 wr) ∧ Hid (Touch D w wr)) (fun i _ _ => l.length - (intOf i).toNat)
  case atStart => exact ⟨0, k, Nat.zero_le _, rfl, rfl, Int.le_refl _, by simp, hm, Touch.refl _ _⟩
  case round =>
    obtain ⟨j, n, hj, rfl, rfl, hn0, hn1, hmr, htr⟩ := hrel
    have hsr := hmr.out.size
    by_cases hlt : j < l.length
    · obtain ⟨x, hx⟩ := get_of_lt hlt
      obtain ⟨b, off, A_pre, c_pre, A_post, c_post, rfl, hDb, d0, d1, f0, f1, f2, f3, f4, f5⟩ := hr.Tr_at hx
      have hcost : ((wtL wtTr (l.drop j)) : Nat) = 1 + wtTr x + ((wtL wtTr (l.drop (j + 1))) : Nat) := by rw [drop_get hx]; rw [wtL_cons]
      rw [show wtTr x = (x.pre).length + (x.post).length from rfl] at hcost
      rw [hcost] at hn1
      clear hcost hx
      have lb := hD b hDb
      have hk0 : 0 ≤ n := by omega
      have lbr : b < wr.heap.size := by omega
      have e0_0 : wr.cell? ⟨b, off + j * 2, none⟩ = some (.slice A_pre (x.pre).length c_pre) := by obtain ⟨v1, h1, h2⟩ := hmr.out.cells _ _ _ hDb d0; rw [h1, h2.slice]
      have e1_0 : wr.cell? ⟨b, off + j * 2 + 1, none⟩ = some (.slice A_post (x.post).length c_post) := by obtain ⟨v1, h1, h2⟩ := hmr.out.cells _ _ _ hDb d1; rw [h1, h2.slice]
      go_wp2_with fail
      have hMc1 := hmr.out
      have hTc1 := htr.out
      refine (markIntS_arg w0 D hD hnf _ _ _ f2 (by omega) (n) _ hMc1 (by omega) (by omega)).mono ?_
      rintro e w1 ⟨n1, rfl, hp1, hq1, hM1, hT1⟩
      have hTT1 : Touch D w w1 := Touch.chain hTc1 hT1 hD hm.size
      have hs1 := hM1.size
      have e1_1 : w1.cell? ⟨b, off + j * 2 + 1, none⟩ = some (.slice A_post (x.post).length c_post) := by obtain ⟨v1, h1, h2⟩ := hM1.cells _ _ _ hDb d1; rw [h1, h2.slice]
      go_wp2_with fail
      have hMc2 := hM1
      have hTc2 := hTT1
      refine (markIntS_arg w0 D hD hnf _ _ _ f5 (by omega) (n1) _ hMc2 (by omega) (by omega)).mono ?_
      rintro e w2 ⟨n2, rfl, hp2, hq2, hM2, hT2⟩
      have hTT2 : Touch D w w2 := Touch.chain hTc2 hT2 hD hm.size
      have hs2 := hM2.size
      go_wp2_with fail
      go_roundw
      case rel => exact ⟨j + 1, n2, by omega, by go_num, rfl, by omega, by omega, hM2, hTT2⟩
      case measure => simp [intOf]; omega
    · go_wp2_with fail
      go_ret
      exact ⟨n, rfl, hn0, by omega, hmr.out, htr.out⟩

set_option maxHeartbeats 1000000 in
theorem markNet_arg (w0 : World) (D : Nat → Prop) (hD : ∀ b, D b → b < w0.heap.size) (hnf : ∀ b o, D b → w0.frozen? ⟨b, o, none⟩ = false) (x : Net) (A_trans : Option Addr) (c_trans : Nat) (g1 : (x.trans).length ≤ c_trans) (g2 : c_trans ≤ 9223372036854775807) (g3 : RSl shTr w0 D A_trans x.trans) (k : Int) (w : World) (hm : Marked D w0 w) (h0 : 0 ≤ k) (hk : k + 64 * (wtNet x : Nat) ≤ 4611686018427387904) :
    Calls Try.prog 70 #[.agg #[.int .i64 x.places, .slice A_trans (x.trans).length c_trans], .int .i64 k] w fun e w' => ∃ k' : Int, e = .returned (.int .i64 k') ∧ k ≤ k' ∧ k' ≤ k + 64 * (wtNet x : Nat) ∧ Marked D w0 w' ∧ Touch D w w' := by
  have hwt : wtNet x = wtNet x := rfl
  conv at hwt => rhs; unfold wtNet
  rw [hwt] at hk ⊢
  clear hwt
  have hs0 := hm.size
  have hbx : ∀ b, b = w.heap.size → ¬ D b := fun b hb hd => by have := hD b hd; omega
  go_enter Try.func70, Try.ntmps70
  go_wp2_with fail
  have hM0 := hm.then_ (fun q hq => by have := hD q hq; omega) ((Below.refl w.heap.size w).alloc (Nat.le_refl _) (.cells #[.int .i64 x.places, .slice A_trans (x.trans).length c_trans] 36))
  have hT0 : Touch D w (w.alloc (.cells #[.int .i64 x.places, .slice A_trans (x.trans).length c_trans] 36)) := (Touch.refl D w).then_ ((Below.refl w.heap.size w).alloc (Nat.le_refl _) _)
  refine (markTransitionS_arg w0 D hD hnf _ _ _ g3 (by omega) k _ hM0 (by omega) (by omega)).mono ?_
  rintro e w1 ⟨n1, rfl, hp1, hq1, hM1, hT1⟩
  have hTT1 : Touch D w w1 := Touch.chain hT0 hT1 hD hm.size
  have hs1 := hT1.size
  rw [World.size_alloc] at hs1
  go_wp2_with fail
  go_ret
  exact ⟨n1, rfl, by omega, by omega, hM1, hTT1⟩

set_option maxHeartbeats 1000000 in
theorem markSignalS_arg (w0 : World) (D : Nat → Prop) (hD : ∀ b, D b → b < w0.heap.size) (hnf : ∀ b o, D b → w0.frozen? ⟨b, o, none⟩ = false) (A : Option Addr) (c : Nat) (l : List Sig) (hr : RSl shSig w0 D A l) (hl : l.length ≤ 9223372036854775807) (k : Int) (w : World) (hm : Marked D w0 w) (h0 : 0 ≤ k) (hk : k + 64 * ((wtL wtSig l) : Nat) ≤ 4611686018427387904) :
    Calls Try.prog 71 #[.slice A l.length c, .int .i64 k] w fun e w' => ∃ k' : Int, e = .returned (.int .i64 k') ∧ k ≤ k' ∧ k' ≤ k + 64 * ((wtL wtSig l) : Nat) ∧ Marked D w0 w' ∧ Touch D w w' := by
  go_enter Try.func71, Try.ntmps71
  go_wp2_with fail
  go_loopw [5, 1] (fun i kv wr => ∃ (j : Nat) (n : Int), j ≤ l.length ∧ i = .int .i64 j ∧ kv = .int .i64 n ∧ k ≤ n ∧ n + 64 * ((wtL wtSig (l.drop j)) : Nat) ≤ k + 64 * ((wtL wtSig l) : Nat) ∧ Hid (Marked D w0 wr) ∧ Hid (Touch D w wr)) (fun i _ _ => l.length - (intOf i).toNat)
  case atStart => exact ⟨0, k, Nat.zero_le _, rfl, rfl, Int.le_refl _, by simp, hm, Touch.refl _ _⟩
  case round =>
    obtain ⟨j, n, hj, rfl, rfl, hn0, hn1, hmr, htr⟩ := hrel
    have hsr := hmr.out.size
    by_cases hlt : j < l.length
    · obtain ⟨x, hx⟩ := get_of_lt hlt
      obtain ⟨b, off, rfl, hDb, d0, d1, f0, f1⟩ := hr.Sig_at hx
      have hcost : ((wtL wtSig (l.drop j)) : Nat) = 1 + wtSig x + ((wtL wtSig (l.drop (j + 1))) : Nat) := by rw [drop_get hx]; rw [wtL_cons]
      rw [show wtSig x = (x.name).length from rfl] at hcost
      rw [hcost] at hn1
      clear hcost hx
      have lb := hD b hDb
      have hk0 : 0 ≤ n := by omega
      have lbr : b < wr.heap.size := by omega
      obtain ⟨v0_0, e0_0, _⟩ := hmr.out.cells _ _ _ hDb d0
      have z0_0 : wr.frozen? ⟨b, off + j * 2, none⟩ = false := (hmr.out.froz _ _ hDb).trans (hnf _ _ hDb)
      obtain ⟨v1_0, e1_0, _⟩ := hmr.out.cells _ _ _ hDb d1
      have z1_0 : wr.frozen? ⟨b, off + j * 2 + 1, none⟩ = false := (hmr.out.froz _ _ hDb).trans (hnf _ _ hDb)
      go_wp2_with fail
      refine (markTextI (n) _ (by omega) (by omega)).mono ?_
      rintro e w1 ⟨rfl, hb1⟩
      obtain ⟨hc1, hf1⟩ := bcell hb1
      have hz1 := hb1.size
      repeat (first | rw [World.size_setCell] at hz1)
      have lb1 : b < w1.heap.size := by omega
      go_wp2_with fail
      go_roundw
      case rel => exact ⟨j + 1, n + 1 + 1, by omega, by go_num, rfl, by omega, by omega, (((hmr.out.then_ (fun q hq => by have := hD q hq; (repeat rw [World.size_setCell]); omega) hb1).put hDb d0 (.str _ _)).put hDb d1 (.int _ _)), (((htr.out.then_ hb1).put hDb _).put hDb _)⟩
      case measure => simp [intOf]; omega
    · go_wp2_with fail
      go_ret
      exact ⟨n, rfl, hn0, by omega, hmr.out, htr.out⟩

set_option maxHeartbeats 1000000 in
theorem markLabelS_arg (w0 : World) (D : Nat → Prop) (hD : ∀ b, D b → b < w0.heap.size) (hnf : ∀ b o, D b → w0.frozen? ⟨b, o, none⟩ = false) (A : Option Addr) (c : Nat) (l : List Lab) (hr : RSl shLab w0 D A l) (hl : l.length ≤ 9223372036854775807) (k : Int) (w : World) (hm : Marked D w0 w) (h0 : 0 ≤ k) (hk : k + 64 * ((l).length : Nat) ≤ 4611686018427387904) :
    Calls Try.prog 72 #[.slice A l.length c, .int .i64 k] w fun e w' => ∃ k' : Int, e = .returned (.int .i64 k') ∧ k ≤ k' ∧ k' ≤ k + 64 * ((l).length : Nat) ∧ Marked D w0 w' ∧ Touch D w w' := by
  go_enter Try.func72, Try.ntmps72
  go_wp2_with fail
  go_loopw [5, 1] (fun i kv wr => ∃ (j : Nat) (n : Int), j ≤ l.length ∧ i = .int .i64 j ∧ kv = .int .i64 n ∧ k ≤ n ∧ n + 64 * (((l.drop j)).length : Nat) ≤ k + 64 * ((l).length : Nat) ∧ Hid (Marked D w0 wr) ∧ Hid (Touch D w wr)) (fun i _ _ => l.length - (intOf i).toNat)
  case atStart => exact ⟨0, k, Nat.zero_le _, rfl, rfl, Int.le_refl _, by simp, hm, Touch.refl _ _⟩
  case round =>
    obtain ⟨j, n, hj, rfl, rfl, hn0, hn1, hmr, htr⟩ := hrel
    have hsr := hmr.out.size
    by_cases hlt : j < l.length
    · obtain ⟨x, hx⟩ := get_of_lt hlt
      obtain ⟨b, off, rfl, hDb, d0, d1, f0⟩ := hr.Lab_at hx
      have hcost : (((l.drop j)).length : Nat) = 1 + (((l.drop (j + 1))).length : Nat) := by rw [drop_get hx]; rw [List.length_cons]; omega
      rw [hcost] at hn1
      clear hcost hx
      have lb := hD b hDb
      have hk0 : 0 ≤ n := by omega
      have lbr : b < wr.heap.size := by omega
      obtain ⟨v0_0, e0_0, _⟩ := hmr.out.cells _ _ _ hDb d0
      have z0_0 : wr.frozen? ⟨b, off + j * 2, none⟩ = false := (hmr.out.froz _ _ hDb).trans (hnf _ _ hDb)
      obtain ⟨v1_0, e1_0, _⟩ := hmr.out.cells _ _ _ hDb d1
      have z1_0 : wr.frozen? ⟨b, off + j * 2 + 1, none⟩ = false := (hmr.out.froz _ _ hDb).trans (hnf _ _ hDb)
      go_wp2_with fail
      go_roundw
      case rel => exact ⟨j + 1, n + 1 + 1, by omega, by go_num, rfl, by omega, by omega, ((hmr.out.put hDb d0 (.int _ _)).put hDb d1 (.bool _ _)), ((htr.out.put hDb _).put hDb _)⟩
      case measure => simp [intOf]; omega
    · go_wp2_with fail
      go_ret
      exact ⟨n, rfl, hn0, by omega, hmr.out, htr.out⟩

set_option maxHeartbeats 1000000 in
theorem markSTG_arg (w0 : World) (D : Nat → Prop) (hD : ∀ b, D b → b < w0.heap.size) (hnf : ∀ b o, D b → w0.frozen? ⟨b, o, none⟩ = false) (x : STG) (A_net_trans : Option Addr) (c_net_trans : Nat) (A_signals : Option Addr) (c_signals : Nat) (A_labels : Option Addr) (c_labels : Nat) (g1 : (x.net.trans).length ≤ c_net_trans) (g2 : c_net_trans ≤ 9223372036854775807) (g3 : RSl shTr w0 D A_net_trans x.net.trans) (g4 : (x.signals).length ≤ c_signals) (g5 : c_signals ≤ 9223372036854775807) (g6 : RSl shSig w0 D A_signals x.signals) (g7 : (x.labels).length ≤ c_labels) (g8 : c_labels ≤ 9223372036854775807) (g9 : RSl shLab w0 D A_labels x.labels) (g10 : (x.start).length ≤ 9223372036854775807) (k : Int) (w : World) (hm : Marked D w0 w) (h0 : 0 ≤ k) (hk : k + 64 * (wtSTG x : Nat) ≤ 4611686018427387904) :
    Calls Try.prog 26 #[.agg #[.int .i64 x.net.places, .slice A_net_trans (x.net.trans).length c_net_trans, .slice A_signals (x.signals).length c_signals, .slice A_labels (x.labels).length c_labels, .string ⟨(x.start).toArray⟩], .int .i64 k] w fun e w' => ∃ k' : Int, e = .returned (.int .i64 k') ∧ k ≤ k' ∧ k' ≤ k + 64 * (wtSTG x : Nat) ∧ Marked D w0 w' ∧ Touch D w w' := by
  have hwt : wtSTG x = wtSTG x := rfl
  conv at hwt => rhs; unfold wtSTG
  rw [hwt] at hk ⊢
  clear hwt
  have hs0 := hm.size
  have hbx : ∀ b, b = w.heap.size → ¬ D b := fun b hb hd => by have := hD b hd; omega
  go_enter Try.func26, Try.ntmps26
  go_wp2_with fail
  have hM0 := hm.then_ (fun q hq => by have := hD q hq; omega) ((Below.refl w.heap.size w).alloc (Nat.le_refl _) (.cells #[.int .i64 x.net.places, .slice A_net_trans (x.net.trans).length c_net_trans, .slice A_signals (x.signals).length c_signals, .slice A_labels (x.labels).length c_labels, .string ⟨(x.start).toArray⟩] 40))
  have hT0 : Touch D w (w.alloc (.cells #[.int .i64 x.net.places, .slice A_net_trans (x.net.trans).length c_net_trans, .slice A_signals (x.signals).length c_signals, .slice A_labels (x.labels).length c_labels, .string ⟨(x.start).toArray⟩] 40)) := (Touch.refl D w).then_ ((Below.refl w.heap.size w).alloc (Nat.le_refl _) _)
  refine (markNet_arg w0 D hD hnf x.net A_net_trans c_net_trans g1 g2 g3 k _ hM0 (by omega) (by omega)).mono ?_
  rintro e w1 ⟨n1, rfl, hp1, hq1, hM1, hT1⟩
  have hTT1 : Touch D w w1 := Touch.chain hT0 hT1 hD hm.size
  have hs1 := hT1.size
  rw [World.size_alloc] at hs1
  have e2_1 : w1.cell? ⟨w.heap.size, 2, none⟩ = some (.slice A_signals (x.signals).length c_signals) := by rw [hT1.cell (by first | omega | (rw [World.size_alloc]; omega)) (hbx _ rfl)]; simp [go_sem]
  have e3_1 : w1.cell? ⟨w.heap.size, 3, none⟩ = some (.slice A_labels (x.labels).length c_labels) := by rw [hT1.cell (by first | omega | (rw [World.size_alloc]; omega)) (hbx _ rfl)]; simp [go_sem]
  have e4_1 : w1.cell? ⟨w.heap.size, 4, none⟩ = some (.string ⟨(x.start).toArray⟩) := by rw [hT1.cell (by first | omega | (rw [World.size_alloc]; omega)) (hbx _ rfl)]; simp [go_sem]
  go_wp2_with fail
  refine (markSignalS_arg w0 D hD hnf _ _ _ g6 (by omega) n1 _ hM1 (by omega) (by omega)).mono ?_
  rintro e w2 ⟨n2, rfl, hp2, hq2, hM2, hT2⟩
  have hTT2 : Touch D w w2 := Touch.chain hTT1 hT2 hD hm.size
  have hs2 := hT2.size
  have e3_2 : w2.cell? ⟨w.heap.size, 3, none⟩ = some (.slice A_labels (x.labels).length c_labels) := by rw [hT2.cell (by first | omega | (rw [World.size_alloc]; omega)) (hbx _ rfl)]; exact e3_1
  have e4_2 : w2.cell? ⟨w.heap.size, 4, none⟩ = some (.string ⟨(x.start).toArray⟩) := by rw [hT2.cell (by first | omega | (rw [World.size_alloc]; omega)) (hbx _ rfl)]; exact e4_1
  go_wp2_with fail
  refine (markLabelS_arg w0 D hD hnf _ _ _ g9 (by omega) n2 _ hM2 (by omega) (by omega)).mono ?_
  rintro e w3 ⟨n3, rfl, hp3, hq3, hM3, hT3⟩
  have hTT3 : Touch D w w3 := Touch.chain hTT2 hT3 hD hm.size
  have hs3 := hT3.size
  have e4_3 : w3.cell? ⟨w.heap.size, 4, none⟩ = some (.string ⟨(x.start).toArray⟩) := by rw [hT3.cell (by first | omega | (rw [World.size_alloc]; omega)) (hbx _ rfl)]; exact e4_2
  go_wp2_with fail
  go_ret
  exact ⟨n3, rfl, by omega, by omega, hM3, hTT3⟩

set_option maxHeartbeats 1000000 in
theorem markTimedFiringS_arg (w0 : World) (D : Nat → Prop) (hD : ∀ b, D b → b < w0.heap.size) (hnf : ∀ b o, D b → w0.frozen? ⟨b, o, none⟩ = false) (A : Option Addr) (c : Nat) (l : List TF) (hr : RSl shTF w0 D A l) (hl : l.length ≤ 9223372036854775807) (k : Int) (w : World) (hm : Marked D w0 w) (h0 : 0 ≤ k) (hk : k + 64 * ((l).length : Nat) ≤ 4611686018427387904) :
    Calls Try.prog 27 #[.slice A l.length c, .int .i64 k] w fun e w' => ∃ k' : Int, e = .returned (.int .i64 k') ∧ k ≤ k' ∧ k' ≤ k + 64 * ((l).length : Nat) ∧ Marked D w0 w' ∧ Touch D w w' := by
  go_enter Try.func27, Try.ntmps27
  go_wp2_with fail
  go_loopw [5, 1] (fun i kv wr => ∃ (j : Nat) (n : Int), j ≤ l.length ∧ i = .int .i64 j ∧ kv = .int .i64 n ∧ k ≤ n ∧ n + 64 * (((l.drop j)).length : Nat) ≤ k + 64 * ((l).length : Nat) ∧ Hid (Marked D w0 wr) ∧ Hid (Touch D w wr)) (fun i _ _ => l.length - (intOf i).toNat)
  case atStart => exact ⟨0, k, Nat.zero_le _, rfl, rfl, Int.le_refl _, by simp, hm, Touch.refl _ _⟩
  case round =>
    obtain ⟨j, n, hj, rfl, rfl, hn0, hn1, hmr, htr⟩ := hrel
    have hsr := hmr.out.size
    by_cases hlt : j < l.length
    · obtain ⟨x, hx⟩ := get_of_lt hlt
      obtain ⟨b, off, rfl, hDb, d0, d1, f0, f1⟩ := hr.TF_at hx
      have hcost : (((l.drop j)).length : Nat) = 1 + (((l.drop (j + 1))).length : Nat) := by rw [drop_get hx]; rw [List.length_cons]; omega
      rw [hcost] at hn1
      clear hcost hx
      have lb := hD b hDb
      have hk0 : 0 ≤ n := by omega
      have lbr : b < wr.heap.size := by omega
      obtain ⟨v0_0, e0_0, _⟩ := hmr.out.cells _ _ _ hDb d0
      have z0_0 : wr.frozen? ⟨b, off + j * 2, none⟩ = false := (hmr.out.froz _ _ hDb).trans (hnf _ _ hDb)
      obtain ⟨v1_0, e1_0, _⟩ := hmr.out.cells _ _ _ hDb d1
      have z1_0 : wr.frozen? ⟨b, off + j * 2 + 1, none⟩ = false := (hmr.out.froz _ _ hDb).trans (hnf _ _ hDb)
      go_wp2_with fail
      go_roundw
      case rel => exact ⟨j + 1, n + 1 + 1, by omega, by go_num, rfl, by omega, by omega, ((hmr.out.put hDb d0 (.int _ _)).put hDb d1 (.int _ _)), ((htr.out.put hDb _).put hDb _)⟩
      case measure => simp [intOf]; omega
    · go_wp2_with fail
      go_ret
      exact ⟨n, rfl, hn0, by omega, hmr.out, htr.out⟩

end Go.Proofs.Ytnpbdphfjablbaa.Lw
