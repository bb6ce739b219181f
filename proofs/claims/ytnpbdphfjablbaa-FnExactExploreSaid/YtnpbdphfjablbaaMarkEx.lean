/-
  The contracts of the laws' helpers that write and look for marks: str[]/oh Mv[]/oh RG/oh. Printed by a program of this repo (markgen.py).
-/
import Derived.Test.YtnpbdphfjablbaaRows
import Derived.Test.YtnpbdphfjablbaaMarkText
import Derived.Test.YtnpbdphfjablbaaLawTm
import Derived.Test.YtnpbdphfjablbaaLawEx
import Derived.Test.YtnpbdphfjablbaaMarkTe
namespace Go.Proofs.Ytnpbdphfjablbaa.Lw
open Go.RowKit
set_option linter.unusedVariables false

def mkStr (n : Int) (_ : (List UInt8)) : (List UInt8) := (mtext (n).toNat)
set_option maxHeartbeats 1000000 in
theorem markStringS_own (base : Nat) (t : TypeId) (A : Option Addr) (c : Nat) (l : List (List UInt8)) (k : Int) (w : World) (ho : Own shStr w base t A c l) (h0 : 0 ≤ k) (hk : k + 1 * l.length ≤ 4611686018427387904) :
    Calls Try.prog 78 #[.slice A l.length c, .int .i64 k] w fun e w' => e = .returned (.int .i64 (k + 1 * l.length)) ∧ RSl shStr w' (fun b => blk A = some b) A (marksL mkStr 1 k l) ∧ Touch (fun b => blk A = some b) w w' := by
  have hcap := ho.cap
  have hlt0 := ho.lt
  have HM : Hid (MRow shStr w A t c 0 (marksL mkStr 1 k l)) := ho.mrow (marksL_len _ _ _ _)
  obtain ⟨ml, hml⟩ : ∃ ml, (marksL mkStr 1 k l) = ml := ⟨_, rfl⟩
  have hmlen : ml.length = l.length := by rw [← hml]; exact marksL_len _ _ _ _
  rw [hml] at HM ⊢
  have HML := hide hml; clear hml
  go_enter Try.func78, Try.ntmps78
  go_wp2_with fail
  go_loopw [5, 1] (fun i kv wr => ∃ (j : Nat) (n : Int), j ≤ l.length ∧ i = .int .i64 j ∧ kv = .int .i64 n ∧ Hid (n = k + 1 * j) ∧ Hid (MRow shStr wr A t c j ml) ∧ Hid (Touch (fun b => blk A = some b) w wr)) (fun i _ _ => l.length - (intOf i).toNat)
  case atStart => exact ⟨0, k, Nat.zero_le _, rfl, rfl, by show _ = _; omega, HM, Touch.refl _ _⟩
  case round =>
    obtain ⟨j, n, hj, rfl, rfl, hn, hmr, htr⟩ := hrel
    have hnv := hn.out
    have hsr := htr.out.size
    by_cases hlt : j < l.length
    · obtain ⟨x, hx⟩ := get_of_lt hlt
      have hmx : ml[j]? = some (mkStr n x) := by rw [← HML.out, marksL_get hx, hnv]; rfl
      obtain ⟨g, rfl, hroom⟩ := hmr.out.room hmx
      have lg : g < wr.heap.size := by have := (hlt0 g rfl).2; omega
      obtain ⟨⟨v0, r0⟩, z0⟩ := hroom 0 (by decide)
      simp only [shStr, Nat.add_zero, Nat.mul_one] at r0 z0
      have HX := hide hmx; clear hmx hx hroom
      have hk0 : 0 ≤ n ∧ n + 1 ≤ 4611686018427387904 := by omega
      clear hnv
      go_wp2_with fail
      refine (markTextI (n) _ (by omega) (by omega)).mono ?_
      rintro e w1 ⟨rfl, hb1⟩
      obtain ⟨hc1, hf1⟩ := bcell hb1
      have hz1 := hb1.size
      repeat (first | rw [World.size_setCell] at hz1)
      go_wp2_with fail
      go_roundw
      case rel => exact ⟨j + 1, n + 1, by omega, by go_num, by go_num, by have := hn.out; show _ = _; omega, hide ((hmr.out.to hb1).step [.string ⟨(mtext (n).toNat).toArray⟩] HX.out (⟨rfl, (mtext_len _)⟩) (by simp [setCells, shStr])), hide (Touch.put (htr.out.then_ hb1) (p := ⟨g, j, none⟩) rfl _)⟩
      case measure => simp [intOf]; omega
    · have hjl : j = l.length := by omega
      have HJ := hide hjl; clear hjl hnv
      go_wp2_with fail
      go_ret
      refine ⟨ret_int (by rw [hn.out, HJ.out]), ?_, htr.out⟩
      have h := hmr.out
      rw [HJ.out, ← hmlen] at h
      exact h.done

set_option maxHeartbeats 1000000 in
theorem heldStringS (A : Option Addr) (c : Nat) (l : List (List UInt8)) (k : Int) (w : World) (hl : l.length ≤ 9223372036854775807) (hr : RA shStr w A (marksL mkStr 1 k l)) (h0 : 0 ≤ k) (hk : k + 1 * l.length ≤ 4611686018427387904) :
    Calls Try.prog 80 #[.slice A l.length c, .int .i64 k] w fun e w' => e = .returned (.int .i64 (k + 1 * l.length)) ∧ Below w.heap.size w w' := by
  go_enter Try.func80, Try.ntmps80
  go_wp2_with fail
  go_loopw [5, 1] (fun i kv wr => ∃ (j : Nat) (n : Int), j ≤ l.length ∧ i = .int .i64 j ∧ kv = .int .i64 n ∧ Hid (n = k + 1 * j) ∧ Below w.heap.size w wr) (fun i _ _ => l.length - (intOf i).toNat)
  case atStart => exact ⟨0, k, Nat.zero_le _, rfl, rfl, by show _ = _; omega, Below.refl _ _⟩
  case round =>
    obtain ⟨j, n, hj, rfl, rfl, hn, hb⟩ := hrel
    have hnv := hn.out
    have hsz := hb.size
    by_cases hlt : j < l.length
    · obtain ⟨x, hx⟩ := get_of_lt hlt
      have hmx : (marksL mkStr 1 k l)[j]? = some (mkStr n x) := by rw [marksL_get hx, hnv]; rfl
      obtain ⟨b, off, rfl, hbl, d0, f0⟩ := hr.str_at hb hmx
      simp only [mkStr] at d0
      clear hmx hx
      have hk0 : 0 ≤ n ∧ n + 1 ≤ 4611686018427387904 := by omega
      clear hnv
      go_wp2_with fail
      go_region_held3 (fun W => W.cell? ⟨b, off + j, none⟩ = some (.string ⟨(mtext (n).toNat).toArray⟩)) (first | exact d0 | exact (cell_later hb1 d0)) (first | (go_at_call 116; refine (markTextI (n) _ (by omega) (by omega)).mono ?_; rintro e w1 ⟨rfl, hb1⟩))
      have hb2 := hb.drew.trans (hb1.mono hsz)
      go_wp2_with fail
      go_roundw
      case rel => exact ⟨j + 1, n + 1, by omega, by go_num, by go_num, by have := hn.out; show _ = _; omega, by (repeat' (first | (with_reducible exact Below.refl _ _) | (with_reducible assumption) | (with_reducible refine below_drewN' ?_ _) | (with_reducible refine Below.drew ?_) | (with_reducible refine Below.alloc ?_ ?_ _) | (with_reducible refine Below.setCell ?_ ?_ _) | (with_reducible refine Below.then_ ?_ (by assumption) ?_) | go_size))⟩
      case measure => simp [intOf]; omega
    · have hjl : j = l.length := by omega
      have HJ := hide hjl; clear hjl hnv
      go_wp2_with fail
      go_ret
      exact ⟨ret_int (by rw [hn.out, HJ.out]), hb⟩

def mkMv (n : Int) (_ : Mv) : Mv := ⟨n, n + 1, n + 1 + 1⟩
set_option maxHeartbeats 1000000 in
theorem markMoveS_own (base : Nat) (t : TypeId) (A : Option Addr) (c : Nat) (l : List Mv) (k : Int) (w : World) (ho : Own shMv w base t A c l) (h0 : 0 ≤ k) (hk : k + 3 * l.length ≤ 4611686018427387904) :
    Calls Try.prog 79 #[.slice A l.length c, .int .i64 k] w fun e w' => e = .returned (.int .i64 (k + 3 * l.length)) ∧ RSl shMv w' (fun b => blk A = some b) A (marksL mkMv 3 k l) ∧ Touch (fun b => blk A = some b) w w' := by
  have hcap := ho.cap
  have hlt0 := ho.lt
  have HM : Hid (MRow shMv w A t c 0 (marksL mkMv 3 k l)) := ho.mrow (marksL_len _ _ _ _)
  obtain ⟨ml, hml⟩ : ∃ ml, (marksL mkMv 3 k l) = ml := ⟨_, rfl⟩
  have hmlen : ml.length = l.length := by rw [← hml]; exact marksL_len _ _ _ _
  rw [hml] at HM ⊢
  have HML := hide hml; clear hml
  go_enter Try.func79, Try.ntmps79
  go_wp2_with fail
  go_loopw [5, 1] (fun i kv wr => ∃ (j : Nat) (n : Int), j ≤ l.length ∧ i = .int .i64 j ∧ kv = .int .i64 n ∧ Hid (n = k + 3 * j) ∧ Hid (MRow shMv wr A t c j ml) ∧ Hid (Touch (fun b => blk A = some b) w wr)) (fun i _ _ => l.length - (intOf i).toNat)
  case atStart => exact ⟨0, k, Nat.zero_le _, rfl, rfl, by show _ = _; omega, HM, Touch.refl _ _⟩
  case round =>
    obtain ⟨j, n, hj, rfl, rfl, hn, hmr, htr⟩ := hrel
    have hnv := hn.out
    have hsr := htr.out.size
    by_cases hlt : j < l.length
    · obtain ⟨x, hx⟩ := get_of_lt hlt
      have hmx : ml[j]? = some (mkMv n x) := by rw [← HML.out, marksL_get hx, hnv]; rfl
      obtain ⟨g, rfl, hroom⟩ := hmr.out.room hmx
      have lg : g < wr.heap.size := by have := (hlt0 g rfl).2; omega
      obtain ⟨⟨v0, r0⟩, z0⟩ := hroom 0 (by decide)
      obtain ⟨⟨v1, r1⟩, z1⟩ := hroom 1 (by decide)
      obtain ⟨⟨v2, r2⟩, z2⟩ := hroom 2 (by decide)
      simp only [shMv_size, Nat.add_zero] at r0 z0 r1 z1 r2 z2
      have HX := hide hmx; clear hmx hx hroom
      have hk0 : 0 ≤ n ∧ n + 3 ≤ 4611686018427387904 := by omega
      clear hnv
      go_wp2_with fail
      go_roundw
      case rel => exact ⟨j + 1, n + 1 + 1 + 1, by omega, by go_num, by go_num, by have := hn.out; show _ = _; omega, hide (hmr.out.step [.int .i64 (n), .int .i64 (n + 1), .int .i64 (n + 1 + 1)] HX.out (shMv_mk (x := mkMv n x) (by constructor <;> simp only [mkMv] <;> omega) (by constructor <;> simp only [mkMv] <;> omega) (by constructor <;> simp only [mkMv] <;> omega)) (by simp [setCells, shMv_size])), hide (Touch.put (Touch.put (Touch.put htr.out (p := ⟨g, j * 3, none⟩) rfl _) (p := ⟨g, j * 3 + 1, none⟩) rfl _) (p := ⟨g, j * 3 + 2, none⟩) rfl _)⟩
      case measure => simp [intOf]; omega
    · have hjl : j = l.length := by omega
      have HJ := hide hjl; clear hjl hnv
      go_wp2_with fail
      go_ret
      refine ⟨ret_int (by rw [hn.out, HJ.out]), ?_, htr.out⟩
      have h := hmr.out
      rw [HJ.out, ← hmlen] at h
      exact h.done

set_option maxHeartbeats 1000000 in
theorem heldMoveS (A : Option Addr) (c : Nat) (l : List Mv) (k : Int) (w : World) (hl : l.length ≤ 9223372036854775807) (hr : RA shMv w A (marksL mkMv 3 k l)) (h0 : 0 ≤ k) (hk : k + 3 * l.length ≤ 4611686018427387904) :
    Calls Try.prog 81 #[.slice A l.length c, .int .i64 k] w fun e w' => e = .returned (.int .i64 (k + 3 * l.length)) ∧ Below w.heap.size w w' := by
  go_enter Try.func81, Try.ntmps81
  go_wp2_with fail
  go_loopw [5, 1] (fun i kv wr => ∃ (j : Nat) (n : Int), j ≤ l.length ∧ i = .int .i64 j ∧ kv = .int .i64 n ∧ Hid (n = k + 3 * j) ∧ Below w.heap.size w wr) (fun i _ _ => l.length - (intOf i).toNat)
  case atStart => exact ⟨0, k, Nat.zero_le _, rfl, rfl, by show _ = _; omega, Below.refl _ _⟩
  case round =>
    obtain ⟨j, n, hj, rfl, rfl, hn, hb⟩ := hrel
    have hnv := hn.out
    have hsz := hb.size
    by_cases hlt : j < l.length
    · obtain ⟨x, hx⟩ := get_of_lt hlt
      have hmx : (marksL mkMv 3 k l)[j]? = some (mkMv n x) := by rw [marksL_get hx, hnv]; rfl
      obtain ⟨b, off, rfl, hbl, d0, d1, d2, f0, f1, f2⟩ := hr.Mv_at hb hmx
      simp only [mkMv] at d0 d1 d2
      clear hmx hx
      have hk0 : 0 ≤ n ∧ n + 3 ≤ 4611686018427387904 := by omega
      clear hnv
      go_wp2_with fail
      try go_quiet (fail)
      go_wp2_with fail
      try go_quiet (fail)
      go_wp2_with fail
      try go_quiet (fail)
      go_wp2_with fail
      go_roundw
      case rel => exact ⟨j + 1, n + 1 + 1 + 1, by omega, by go_num, by go_num, by have := hn.out; show _ = _; omega, by (repeat' (first | (with_reducible exact Below.refl _ _) | (with_reducible assumption) | (with_reducible refine below_drewN' ?_ _) | (with_reducible refine Below.drew ?_) | (with_reducible refine Below.alloc ?_ ?_ _) | (with_reducible refine Below.setCell ?_ ?_ _) | (with_reducible refine Below.then_ ?_ (by assumption) ?_) | go_size))⟩
      case measure => simp [intOf]; omega
    · have hjl : j = l.length := by omega
      have HJ := hide hjl; clear hjl hnv
      go_wp2_with fail
      go_ret
      exact ⟨ret_int (by rw [hn.out, HJ.out]), hb⟩

set_option maxHeartbeats 1000000 in
set_option maxRecDepth 20000 in
theorem markReachabilityGraph_own (base : Nat) (t0 t1 : TypeId) (x : RG) (A0 : Option Addr) (c0 : Nat) (A1 : Option Addr) (c1 : Nat) (k : Int) (w : World) (ho0 : Own shStr w base t0 A0 c0 x.marks) (ho1 : Own shMv w base t1 A1 c1 x.moves) (dj0_1 : ∀ q, blk A0 = some q → blk A1 = some q → False) (h0 : 0 ≤ k) (hk : k + 1 * x.marks.length + 3 * x.moves.length ≤ 4611686018427387904) :
    Calls Try.prog 33 #[.agg #[.slice A0 (x.marks).length c0, .slice A1 (x.moves).length c1], .int .i64 k] w fun e w' => e = .returned (.int .i64 (k + x.marks.length + 3 * x.moves.length)) ∧ RSl shStr w' (fun b => blk A0 = some b) A0 (marksL mkStr 1 (k) x.marks) ∧ RSl shMv w' (fun b => blk A1 = some b) A1 (marksL mkMv 3 (k + x.marks.length) x.moves) ∧ Touch (fun b => blk A0 = some b ∨ blk A1 = some b) w w' := by
  have hlt0 := ho0.lt
  have hlt1 := ho1.lt
  have hD : ∀ b, (fun b => blk A0 = some b ∨ blk A1 = some b) b → b < w.heap.size := fun b hd => by rcases hd with hd | hd <;> first | exact (hlt0 b hd).2 | exact (hlt1 b hd).2
  go_enter Try.func33, Try.ntmps33
  go_wp2_with fail
  have b0 := (Below.refl w.heap.size w).alloc (Nat.le_refl _) (.cells #[.slice A0 (x.marks).length c0, .slice A1 (x.moves).length c1] 65)
  have hTT0 : Touch (fun b => blk A0 = some b ∨ blk A1 = some b) w (w.alloc (.cells #[.slice A0 (x.marks).length c0, .slice A1 (x.moves).length c1] 65)) := (Touch.refl _ w).then_ b0
  have p0_0 := ho0.to b0
  have p1_0 := ho1.to b0
  refine (markStringS_own base t0 A0 c0 x.marks (k) _ p0_0 (by omega) (by omega)).mono ?_
  rintro e w1 ⟨rfl, hr0, hT1⟩
  have hs1 := hT1.size
  rw [World.size_alloc] at hs1
  have hTT1 : Touch (fun b => blk A0 = some b ∨ blk A1 = some b) w w1 := Touch.chain hTT0 (hT1.mono fun b hb => .inl hb) hD (Nat.le_refl _)
  have e1_1 : w1.cell? ⟨w.heap.size, 1, none⟩ = some (.slice A1 (x.moves).length c1) := by rw [hT1.cell (by first | omega | (rw [World.size_alloc]; omega)) (fun hd => by have := hlt0 _ hd; omega)]; simp [go_sem]
  have p1_1 := hT1.own p1_0 (fun q h1 h2 => dj0_1 q h2 h1)
  go_wp2_with fail
  refine (markMoveS_own base t1 A1 c1 x.moves (k + x.marks.length) _ p1_1 (by omega) (by omega)).mono ?_
  rintro e w2 ⟨rfl, hr1, hT2⟩
  have hs2 := hT2.size
  have hTT2 : Touch (fun b => blk A0 = some b ∨ blk A1 = some b) w w2 := Touch.chain hTT1 (hT2.mono fun b hb => .inr hb) hD (Nat.le_refl _)
  have hr0 := hT2.rsl hr0 (fun q hq => ⟨by have := hlt0 q hq; omega, fun hd => dj0_1 q hq hd⟩)
  go_wp2_with fail
  go_ret
  exact ⟨rfl, hr0, hr1, hTT2⟩

set_option maxHeartbeats 1000000 in
set_option maxRecDepth 20000 in
theorem heldReachabilityGraph (x : RG) (A0 : Option Addr) (c0 : Nat) (A1 : Option Addr) (c1 : Nat) (k : Int) (w : World) (g0 : (x.marks).length ≤ 9223372036854775807) (r0 : RA shStr w A0 (marksL mkStr 1 (k) x.marks)) (g1 : (x.moves).length ≤ 9223372036854775807) (r1 : RA shMv w A1 (marksL mkMv 3 (k + x.marks.length) x.moves)) (h0 : 0 ≤ k) (hk : k + 1 * x.marks.length + 3 * x.moves.length ≤ 4611686018427387904) :
    Calls Try.prog 34 #[.agg #[.slice A0 (x.marks).length c0, .slice A1 (x.moves).length c1], .int .i64 k] w fun e w' => e = .returned (.int .i64 (k + x.marks.length + 3 * x.moves.length)) ∧ Below w.heap.size w w' := by
  have q0 : decide (k + x.marks.length < 0) = false := by simp; omega
  have q1 : decide (k + x.marks.length + 3 * x.moves.length < 0) = false := by simp; omega
  go_enter Try.func34, Try.ntmps34
  go_wp2_with fail
  have b0 : Below w.heap.size w (w.alloc (.cells #[.slice A0 (x.marks).length c0, .slice A1 (x.moves).length c1] 65)) := (Below.refl w.heap.size w).alloc (Nat.le_refl _) _
  refine (heldStringS A0 c0 x.marks (k) _ g0 (RA.to r0 b0) (by omega) (by omega)).mono ?_
  rintro e w1 ⟨rfl, hb1⟩
  have b1 : Below w.heap.size w w1 := b0.trans (hb1.mono b0.size)
  obtain ⟨hc1, _⟩ := bcell hb1
  have e1_1 : w1.cell? ⟨w.heap.size, 1, none⟩ = some (.slice A1 (x.moves).length c1) := by rw [hc1 _ _ (by first | omega | (rw [World.size_alloc]; omega) | (have := b0.size; omega))]; simp [go_sem]
  have hl1 : w.heap.size < w1.heap.size := by have := hb1.size; rw [World.size_alloc] at this; omega
  go_wp2_with fail
  refine (heldMoveS A1 c1 x.moves (k + x.marks.length) _ g1 (RA.to r1 b1) (by omega) (by omega)).mono ?_
  rintro e w2 ⟨rfl, hb2⟩
  have b2 : Below w.heap.size w w2 := b1.trans (hb2.mono b1.size)
  obtain ⟨hc2, _⟩ := bcell hb2
  have hl2 : w.heap.size < w2.heap.size := by have := hb2.size; omega
  go_wp2_with fail
  go_ret
  exact ⟨rfl, b2⟩

end Go.Proofs.Ytnpbdphfjablbaa.Lw
