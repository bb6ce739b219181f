import Derived.Test.YtmfplddmccggkaaGreatRows
import Derived.Test.YtmfplddmccggkaaGreatSuC
import Derived.Test.YtmfplddmccggkaaGreatLawSu
import Derived.Test.YtmfplddmccggkaaGreatMarkSu
namespace Go.Proofs.YtmfplddmccggkaaGreat.Lw
open Go.RowKit
set_option linter.unusedVariables false
set_option maxHeartbeats 4000000 in
theorem law_UnexpectedOutputs (c : SGr) (n : Nl) (b : PSt) (A_c_signals : Option Addr) (c_c_signals : Nat) (A_c_codes : Option Addr) (c_c_codes : Nat) (A_c_arcs : Option Addr) (c_c_arcs : Nat) (A_n_signals : Option Addr) (c_n_signals : Nat) (A_n_wires : Option Addr) (c_n_wires : Nat) (w : World) (g0 : (c.signals).length ≤ c_c_signals) (g1 : c_c_signals ≤ 9223372036854775807) (g2 : RA Z6 w A_c_signals c.signals) (g3 : (c.codes).length ≤ c_c_codes) (g4 : c_c_codes ≤ 9223372036854775807) (g5 : RA Zah w A_c_codes c.codes) (g6 : (c.arcs).length ≤ c_c_arcs) (g7 : c_c_arcs ≤ 9223372036854775807) (g8 : RA ZcH w A_c_arcs c.arcs) (g9 : (n.signals).length ≤ c_n_signals) (g10 : c_n_signals ≤ 9223372036854775807) (g11 : RA Z6 w A_n_signals n.signals) (g12 : (n.wires).length ≤ c_n_wires) (g13 : c_n_wires ≤ 9223372036854775807) (g14 : RA Zao w A_n_wires n.wires) (g15 : InI b.state) (g16 : (b.values).length ≤ 9223372036854775807) :
 Calls Tryz.prog 6 #[.agg #[.slice A_c_signals (c.signals).length c_c_signals, .slice A_c_codes (c.codes).length c_c_codes, .slice A_c_arcs (c.arcs).length c_c_arcs], .agg #[.slice A_n_signals (n.signals).length c_n_signals, .slice A_n_wires (n.wires).length c_n_wires], .agg #[.int .i64 b.state, .string ⟨(b.values).toArray⟩]] w fun e w' => e = .returned (.bool true) ∧ Below w.heap.size w w' := by
 obtain ⟨R, hR⟩ : ∃ R, uoA c n b = R := ⟨_, rfl⟩
 have hRb := uoA_len c n b
 rw [hR] at hRb
 have HR := Zl hR; clear hR
 go_enter Tryz.func6, Tryz.ntmps6
 go_wp2_with fail
 refine (szStateGraph c A_c_signals c_c_signals A_c_codes c_c_codes A_c_arcs c_c_arcs (1048576) _ g0 g1 (RA.to g2 (by (repeat' (first | (with_reducible exact Below.refl _ _) | (with_reducible assumption) | (with_reducible refine Zb ?_ _) | (with_reducible refine Below.drew ?_) | (with_reducible refine Below.alloc ?_ ?_ _) | (with_reducible refine Below.setCell ?_ ?_ _) | (with_reducible refine Below.then_ ?_ (by assumption) ?_) | go_size)))) g3 g4 (RA.to g5 (by (repeat' (first | (with_reducible exact Below.refl _ _) | (with_reducible assumption) | (with_reducible refine Zb ?_ _) | (with_reducible refine Below.drew ?_) | (with_reducible refine Below.alloc ?_ ?_ _) | (with_reducible refine Below.setCell ?_ ?_ _) | (with_reducible refine Below.then_ ?_ (by assumption) ?_) | go_size)))) g6 g7 (RA.to g8 (by (repeat' (first | (with_reducible exact Below.refl _ _) | (with_reducible assumption) | (with_reducible refine Zb ?_ _) | (with_reducible refine Below.drew ?_) | (with_reducible refine Below.alloc ?_ ?_ _) | (with_reducible refine Below.setCell ?_ ?_ _) | (with_reducible refine Below.then_ ?_ (by assumption) ?_) | go_size)))) (by omega) (by omega)).mono ?_
 rintro e w1 ⟨rfl, hb1⟩
 have HW1 : Hid (Below w.heap.size w w1) := Zl (by (repeat' (first | (with_reducible exact Below.refl _ _) | (with_reducible assumption) | (with_reducible refine Zb ?_ _) | (with_reducible refine Below.drew ?_) | (with_reducible refine Below.alloc ?_ ?_ _) | (with_reducible refine Below.setCell ?_ ?_ _) | (with_reducible refine Below.then_ ?_ (by assumption) ?_) | go_size)))
 obtain ⟨hc1, _⟩ := Zan hb1
 have hz1 := hb1.size
 repeat rw [World.size_alloc] at hz1
 have l1_0 : w.heap.size < w1.heap.size := by omega
 have t1_0_0 : w1.cell? ⟨w.heap.size, 0, none⟩ = some (.slice A_c_signals (c.signals).length c_c_signals) := by rw [hc1 _ _ (by first | omega | (repeat rw [World.size_alloc]); omega)]; simp [go_sem]
 have t1_0_1 : w1.cell? ⟨w.heap.size, 1, none⟩ = some (.slice A_c_codes (c.codes).length c_c_codes) := by rw [hc1 _ _ (by first | omega | (repeat rw [World.size_alloc]); omega)]; simp [go_sem]
 have t1_0_2 : w1.cell? ⟨w.heap.size, 2, none⟩ = some (.slice A_c_arcs (c.arcs).length c_c_arcs) := by rw [hc1 _ _ (by first | omega | (repeat rw [World.size_alloc]); omega)]; simp [go_sem]
 have l1_1 : w.heap.size + 1 < w1.heap.size := by omega
 have t1_1_0 : w1.cell? ⟨w.heap.size + 1, 0, none⟩ = some (.slice A_n_signals (n.signals).length c_n_signals) := by rw [hc1 _ _ (by first | omega | (repeat rw [World.size_alloc]); omega)]; simp [go_sem]
 have t1_1_1 : w1.cell? ⟨w.heap.size + 1, 1, none⟩ = some (.slice A_n_wires (n.wires).length c_n_wires) := by rw [hc1 _ _ (by first | omega | (repeat rw [World.size_alloc]); omega)]; simp [go_sem]
 have l1_2 : w.heap.size + 1 + 1 < w1.heap.size := by omega
 have t1_2_0 : w1.cell? ⟨w.heap.size + 1 + 1, 0, none⟩ = some (.int .i64 b.state) := by rw [hc1 _ _ (by first | omega | (repeat rw [World.size_alloc]); omega)]; simp [go_sem]
 have t1_2_1 : w1.cell? ⟨w.heap.size + 1 + 1, 1, none⟩ = some (.string ⟨(b.values).toArray⟩) := by rw [hc1 _ _ (by first | omega | (repeat rw [World.size_alloc]); omega)]; simp [go_sem]
 clear hc1
 by_cases q_c : (1048576 : Int) < ((wtSGr c) : Nat)
 ·rw [ZaT q_c]
  go_wp2_with fail
  go_ret
  exact ⟨rfl, HW1.out⟩
 rw [ZaU q_c]
 have qq_c : ((wtSGr c) : Nat) ≤ 1048576 := by omega
 go_wp2_with fail
 refine (szNetlist n A_n_signals c_n_signals A_n_wires c_n_wires (1048576 - ((wtSGr c) : Nat)) _ g9 g10 (RA.to g11 HW1.out) g12 g13 (RA.to g14 HW1.out) (by omega) (by omega)).mono ?_
 rintro e w2 ⟨rfl, hb2⟩
 have hs2 : Below w1.heap.size w1 w2 := hb2
 have HW2 : Hid (Below w.heap.size w w2) := Zl (HW1.out.trans (hs2.mono HW1.out.size))
 obtain ⟨hc2, _⟩ := Zan hb2
 have hz2 := hb2.size
 repeat rw [World.size_alloc] at hz2
 have l2_0 : w.heap.size < w2.heap.size := by omega
 have t2_0_0 : w2.cell? ⟨w.heap.size, 0, none⟩ = some (.slice A_c_signals (c.signals).length c_c_signals) := (hc2 _ _ (by omega)).trans t1_0_0
 have t2_0_1 : w2.cell? ⟨w.heap.size, 1, none⟩ = some (.slice A_c_codes (c.codes).length c_c_codes) := (hc2 _ _ (by omega)).trans t1_0_1
 have t2_0_2 : w2.cell? ⟨w.heap.size, 2, none⟩ = some (.slice A_c_arcs (c.arcs).length c_c_arcs) := (hc2 _ _ (by omega)).trans t1_0_2
 have l2_1 : w.heap.size + 1 < w2.heap.size := by omega
 have t2_1_0 : w2.cell? ⟨w.heap.size + 1, 0, none⟩ = some (.slice A_n_signals (n.signals).length c_n_signals) := (hc2 _ _ (by omega)).trans t1_1_0
 have t2_1_1 : w2.cell? ⟨w.heap.size + 1, 1, none⟩ = some (.slice A_n_wires (n.wires).length c_n_wires) := (hc2 _ _ (by omega)).trans t1_1_1
 have l2_2 : w.heap.size + 1 + 1 < w2.heap.size := by omega
 have t2_2_0 : w2.cell? ⟨w.heap.size + 1 + 1, 0, none⟩ = some (.int .i64 b.state) := (hc2 _ _ (by omega)).trans t1_2_0
 have t2_2_1 : w2.cell? ⟨w.heap.size + 1 + 1, 1, none⟩ = some (.string ⟨(b.values).toArray⟩) := (hc2 _ _ (by omega)).trans t1_2_1
 clear t1_0_0
 clear t1_0_1
 clear t1_0_2
 clear t1_1_0
 clear t1_1_1
 clear t1_2_0
 clear t1_2_1
 clear hc2
 by_cases q_n : (1048576 - ((wtSGr c) : Nat) : Int) < ((wtNl n) : Nat)
 ·rw [ZaT q_n]
  go_wp2_with fail
  go_ret
  exact ⟨rfl, HW2.out⟩
 rw [ZaU q_n]
 have qq_n : ((wtNl n) : Nat) ≤ 1048576 := by omega
 go_wp2_with fail
 refine (szProductState b  (1048576 - ((wtSGr c) : Nat) - ((wtNl n) : Nat)) _ g16 (by omega) (by omega)).mono ?_
 rintro e w3 ⟨rfl, hb3⟩
 have hs3 : Below w2.heap.size w2 w3 := hb3
 have HW3 : Hid (Below w.heap.size w w3) := Zl (HW2.out.trans (hs3.mono HW2.out.size))
 obtain ⟨hc3, _⟩ := Zan hb3
 have hz3 := hb3.size
 repeat rw [World.size_alloc] at hz3
 have l3_0 : w.heap.size < w3.heap.size := by omega
 have t3_0_0 : w3.cell? ⟨w.heap.size, 0, none⟩ = some (.slice A_c_signals (c.signals).length c_c_signals) := (hc3 _ _ (by omega)).trans t2_0_0
 have t3_0_1 : w3.cell? ⟨w.heap.size, 1, none⟩ = some (.slice A_c_codes (c.codes).length c_c_codes) := (hc3 _ _ (by omega)).trans t2_0_1
 have t3_0_2 : w3.cell? ⟨w.heap.size, 2, none⟩ = some (.slice A_c_arcs (c.arcs).length c_c_arcs) := (hc3 _ _ (by omega)).trans t2_0_2
 have l3_1 : w.heap.size + 1 < w3.heap.size := by omega
 have t3_1_0 : w3.cell? ⟨w.heap.size + 1, 0, none⟩ = some (.slice A_n_signals (n.signals).length c_n_signals) := (hc3 _ _ (by omega)).trans t2_1_0
 have t3_1_1 : w3.cell? ⟨w.heap.size + 1, 1, none⟩ = some (.slice A_n_wires (n.wires).length c_n_wires) := (hc3 _ _ (by omega)).trans t2_1_1
 have l3_2 : w.heap.size + 1 + 1 < w3.heap.size := by omega
 have t3_2_0 : w3.cell? ⟨w.heap.size + 1 + 1, 0, none⟩ = some (.int .i64 b.state) := (hc3 _ _ (by omega)).trans t2_2_0
 have t3_2_1 : w3.cell? ⟨w.heap.size + 1 + 1, 1, none⟩ = some (.string ⟨(b.values).toArray⟩) := (hc3 _ _ (by omega)).trans t2_2_1
 clear t2_0_0
 clear t2_0_1
 clear t2_0_2
 clear t2_1_0
 clear t2_1_1
 clear t2_2_0
 clear t2_2_1
 clear hc3
 by_cases q_b : (1048576 - ((wtSGr c) : Nat) - ((wtNl n) : Nat) : Int) < ((wtPSt b) : Nat)
 ·rw [ZaT q_b]
  go_wp2_with fail
  go_ret
  exact ⟨rfl, HW3.out⟩
 rw [ZaU q_b]
 have qq_b : ((wtPSt b) : Nat) ≤ 1048576 := by omega
 have qs_c := qq_c
 unfold wtSGr at qs_c
 have qs_n := qq_n
 unfold wtNl at qs_n
 have qs_b := qq_b
 unfold wtPSt at qs_b
 go_wp2_with fail
 go_region_held3 (fun W => W.cell? ⟨w.heap.size, 0, none⟩ = some (.slice A_c_signals (c.signals).length c_c_signals) ∧ W.cell? ⟨w.heap.size, 1, none⟩ = some (.slice A_c_codes (c.codes).length c_c_codes) ∧ W.cell? ⟨w.heap.size, 2, none⟩ = some (.slice A_c_arcs (c.arcs).length c_c_arcs) ∧ W.cell? ⟨w.heap.size + 1, 0, none⟩ = some (.slice A_n_signals (n.signals).length c_n_signals) ∧ W.cell? ⟨w.heap.size + 1, 1, none⟩ = some (.slice A_n_wires (n.wires).length c_n_wires) ∧ W.cell? ⟨w.heap.size + 1 + 1, 0, none⟩ = some (.int .i64 b.state) ∧ W.cell? ⟨w.heap.size + 1 + 1, 1, none⟩ = some (.string ⟨(b.values).toArray⟩)) (first | exact ⟨t3_0_0, t3_0_1, t3_0_2, t3_1_0, t3_1_1, t3_2_0, t3_2_1⟩ | exact ⟨t4_0_0, t4_0_1, t4_0_2, t4_1_0, t4_1_1, t4_2_0, t4_2_1⟩ | exact ⟨t5_0_0, t5_0_1, t5_0_2, t5_1_0, t5_1_1, t5_2_0, t5_2_1⟩ | exact ⟨t6_0_0, t6_0_1, t6_0_2, t6_1_0, t6_1_1, t6_2_0, t6_2_1⟩ | exact ⟨t7_0_0, t7_0_1, t7_0_2, t7_1_0, t7_1_1, t7_2_0, t7_2_1⟩) (first
  | (
   go_at_call 15
   refine (toStateGraph c A_c_signals c_c_signals A_c_codes c_c_codes A_c_arcs c_c_arcs _ g0 g1 (RA.to g2 HW3.out.drew) g3 g4 (RA.to g5 HW3.out.drew) g6 g7 (RA.to g8 HW3.out.drew) qq_c).mono ?_
   rintro e w4 ⟨A_c_signals4, A_c_codes4, A_c_arcs4, rfl, rA_c_signals4, rA_c_codes4, rA_c_arcs4, hb4, fz4⟩
   have hs4 : Below w3.heap.size w3 w4 := (Below.drew (Below.refl _ _)).trans hb4
   have HW4 : Hid (Below w.heap.size w w4) := Zl (HW3.out.trans (hs4.mono HW3.out.size))
   obtain ⟨hc4, _⟩ := Zan hs4
   have hz4 := hs4.size
   repeat rw [World.size_alloc] at hz4
   have l4_0 : w.heap.size < w4.heap.size := by omega
   have t4_0_0 : w4.cell? ⟨w.heap.size, 0, none⟩ = some (.slice A_c_signals (c.signals).length c_c_signals) := (hc4 _ _ (by omega)).trans t3_0_0
   have t4_0_1 : w4.cell? ⟨w.heap.size, 1, none⟩ = some (.slice A_c_codes (c.codes).length c_c_codes) := (hc4 _ _ (by omega)).trans t3_0_1
   have t4_0_2 : w4.cell? ⟨w.heap.size, 2, none⟩ = some (.slice A_c_arcs (c.arcs).length c_c_arcs) := (hc4 _ _ (by omega)).trans t3_0_2
   have l4_1 : w.heap.size + 1 < w4.heap.size := by omega
   have t4_1_0 : w4.cell? ⟨w.heap.size + 1, 0, none⟩ = some (.slice A_n_signals (n.signals).length c_n_signals) := (hc4 _ _ (by omega)).trans t3_1_0
   have t4_1_1 : w4.cell? ⟨w.heap.size + 1, 1, none⟩ = some (.slice A_n_wires (n.wires).length c_n_wires) := (hc4 _ _ (by omega)).trans t3_1_1
   have l4_2 : w.heap.size + 1 + 1 < w4.heap.size := by omega
   have t4_2_0 : w4.cell? ⟨w.heap.size + 1 + 1, 0, none⟩ = some (.int .i64 b.state) := (hc4 _ _ (by omega)).trans t3_2_0
   have t4_2_1 : w4.cell? ⟨w.heap.size + 1 + 1, 1, none⟩ = some (.string ⟨(b.values).toArray⟩) := (hc4 _ _ (by omega)).trans t3_2_1
   clear t3_0_0
   clear t3_0_1
   clear t3_0_2
   clear t3_1_0
   clear t3_1_1
   clear t3_2_0
   clear t3_2_1
   clear hc4
   have aA_c_signals4 : RA Z6 w4 A_c_signals4 c.signals := (rA_c_signals4).mono fun b hb => hb.2
   have aA_c_codes4 : RA Zah w4 A_c_codes4 c.codes := (rA_c_codes4).mono fun b hb => hb.2
   have aA_c_arcs4 : RA ZcH w4 A_c_arcs4 c.arcs := (rA_c_arcs4).mono fun b hb => hb.2
   )
  | (
   go_at_call 16
   refine (toNetlist n A_n_signals c_n_signals A_n_wires c_n_wires _ g9 g10 (RA.to g11 HW4.out) g12 g13 (RA.to g14 HW4.out) qq_n).mono ?_
   rintro e w5 ⟨A_n_signals5, A_n_wires5, rfl, rA_n_signals5, rA_n_wires5, hb5, fz5⟩
   have hs5 : Below w4.heap.size w4 w5 := hb5
   have HW5 : Hid (Below w.heap.size w w5) := Zl (HW4.out.trans (hs5.mono HW4.out.size))
   obtain ⟨hc5, _⟩ := Zan hb5
   have hz5 := hb5.size
   repeat rw [World.size_alloc] at hz5
   have l5_0 : w.heap.size < w5.heap.size := by omega
   have t5_0_0 : w5.cell? ⟨w.heap.size, 0, none⟩ = some (.slice A_c_signals (c.signals).length c_c_signals) := (hc5 _ _ (by omega)).trans t4_0_0
   have t5_0_1 : w5.cell? ⟨w.heap.size, 1, none⟩ = some (.slice A_c_codes (c.codes).length c_c_codes) := (hc5 _ _ (by omega)).trans t4_0_1
   have t5_0_2 : w5.cell? ⟨w.heap.size, 2, none⟩ = some (.slice A_c_arcs (c.arcs).length c_c_arcs) := (hc5 _ _ (by omega)).trans t4_0_2
   have l5_1 : w.heap.size + 1 < w5.heap.size := by omega
   have t5_1_0 : w5.cell? ⟨w.heap.size + 1, 0, none⟩ = some (.slice A_n_signals (n.signals).length c_n_signals) := (hc5 _ _ (by omega)).trans t4_1_0
   have t5_1_1 : w5.cell? ⟨w.heap.size + 1, 1, none⟩ = some (.slice A_n_wires (n.wires).length c_n_wires) := (hc5 _ _ (by omega)).trans t4_1_1
   have l5_2 : w.heap.size + 1 + 1 < w5.heap.size := by omega
   have t5_2_0 : w5.cell? ⟨w.heap.size + 1 + 1, 0, none⟩ = some (.int .i64 b.state) := (hc5 _ _ (by omega)).trans t4_2_0
   have t5_2_1 : w5.cell? ⟨w.heap.size + 1 + 1, 1, none⟩ = some (.string ⟨(b.values).toArray⟩) := (hc5 _ _ (by omega)).trans t4_2_1
   clear t4_0_0
   clear t4_0_1
   clear t4_0_2
   clear t4_1_0
   clear t4_1_1
   clear t4_2_0
   clear t4_2_1
   have aA_c_signals4_5 := RA.to aA_c_signals4 hs5
   clear aA_c_signals4
   have aA_c_codes4_5 := RA.to aA_c_codes4 hs5
   clear aA_c_codes4
   have aA_c_arcs4_5 := RA.to aA_c_arcs4 hs5
   clear aA_c_arcs4
   clear hc5
   have aA_n_signals5 : RA Z6 w5 A_n_signals5 n.signals := (rA_n_signals5).mono fun b hb => hb.2
   have aA_n_wires5 : RA Zao w5 A_n_wires5 n.wires := (rA_n_wires5).mono fun b hb => hb.2
   )
  | (
   go_at_call 23
   refine (toProductState b  _ g16 qq_b).mono ?_
   rintro e w6 ⟨rfl, hb6, fz6⟩
   have hs6 : Below w5.heap.size w5 w6 := hb6
   have HW6 : Hid (Below w.heap.size w w6) := Zl (HW5.out.trans (hs6.mono HW5.out.size))
   obtain ⟨hc6, _⟩ := Zan hb6
   have hz6 := hb6.size
   repeat rw [World.size_alloc] at hz6
   have l6_0 : w.heap.size < w6.heap.size := by omega
   have t6_0_0 : w6.cell? ⟨w.heap.size, 0, none⟩ = some (.slice A_c_signals (c.signals).length c_c_signals) := (hc6 _ _ (by omega)).trans t5_0_0
   have t6_0_1 : w6.cell? ⟨w.heap.size, 1, none⟩ = some (.slice A_c_codes (c.codes).length c_c_codes) := (hc6 _ _ (by omega)).trans t5_0_1
   have t6_0_2 : w6.cell? ⟨w.heap.size, 2, none⟩ = some (.slice A_c_arcs (c.arcs).length c_c_arcs) := (hc6 _ _ (by omega)).trans t5_0_2
   have l6_1 : w.heap.size + 1 < w6.heap.size := by omega
   have t6_1_0 : w6.cell? ⟨w.heap.size + 1, 0, none⟩ = some (.slice A_n_signals (n.signals).length c_n_signals) := (hc6 _ _ (by omega)).trans t5_1_0
   have t6_1_1 : w6.cell? ⟨w.heap.size + 1, 1, none⟩ = some (.slice A_n_wires (n.wires).length c_n_wires) := (hc6 _ _ (by omega)).trans t5_1_1
   have l6_2 : w.heap.size + 1 + 1 < w6.heap.size := by omega
   have t6_2_0 : w6.cell? ⟨w.heap.size + 1 + 1, 0, none⟩ = some (.int .i64 b.state) := (hc6 _ _ (by omega)).trans t5_2_0
   have t6_2_1 : w6.cell? ⟨w.heap.size + 1 + 1, 1, none⟩ = some (.string ⟨(b.values).toArray⟩) := (hc6 _ _ (by omega)).trans t5_2_1
   clear t5_0_0
   clear t5_0_1
   clear t5_0_2
   clear t5_1_0
   clear t5_1_1
   clear t5_2_0
   clear t5_2_1
   have aA_c_signals4_6 := RA.to aA_c_signals4_5 hs6
   clear aA_c_signals4_5
   have aA_c_codes4_6 := RA.to aA_c_codes4_5 hs6
   clear aA_c_codes4_5
   have aA_c_arcs4_6 := RA.to aA_c_arcs4_5 hs6
   clear aA_c_arcs4_5
   have aA_n_signals5_6 := RA.to aA_n_signals5 hs6
   clear aA_n_signals5
   have aA_n_wires5_6 := RA.to aA_n_wires5 hs6
   clear aA_n_wires5
   clear hc6
   )
  | (
   go_at_call 35
   refine (spec_UnexpectedOutputs c n b A_c_signals4 (c.signals).length A_c_codes4 (c.codes).length A_c_arcs4 (c.arcs).length A_n_signals5 (n.signals).length A_n_wires5 (n.wires).length  _ (Nat.le_refl _) (by omega) (RA.to aA_c_signals4_6 (Below.refl _ _)) (Nat.le_refl _) (by omega) (RA.to aA_c_codes4_6 (Below.refl _ _)) (Nat.le_refl _) (by omega) (RA.to aA_c_arcs4_6 (Below.refl _ _)) (Nat.le_refl _) (by omega) (RA.to aA_n_signals5_6 (Below.refl _ _)) (Nat.le_refl _) (by omega) (RA.to aA_n_wires5_6 (Below.refl _ _)) g15 g16).mono ?_
   rintro e w7 ⟨A7_0, c7_0, rfl, ho7_0, hb7⟩
   have hs7 : Below w6.heap.size w6 w7 := hb7
   have HW7 : Hid (Below w.heap.size w w7) := Zl (HW6.out.trans (hs7.mono HW6.out.size))
   obtain ⟨hc7, _⟩ := Zan hb7
   have hz7 := hb7.size
   repeat rw [World.size_alloc] at hz7
   have l7_0 : w.heap.size < w7.heap.size := by omega
   have t7_0_0 : w7.cell? ⟨w.heap.size, 0, none⟩ = some (.slice A_c_signals (c.signals).length c_c_signals) := (hc7 _ _ (by omega)).trans t6_0_0
   have t7_0_1 : w7.cell? ⟨w.heap.size, 1, none⟩ = some (.slice A_c_codes (c.codes).length c_c_codes) := (hc7 _ _ (by omega)).trans t6_0_1
   have t7_0_2 : w7.cell? ⟨w.heap.size, 2, none⟩ = some (.slice A_c_arcs (c.arcs).length c_c_arcs) := (hc7 _ _ (by omega)).trans t6_0_2
   have l7_1 : w.heap.size + 1 < w7.heap.size := by omega
   have t7_1_0 : w7.cell? ⟨w.heap.size + 1, 0, none⟩ = some (.slice A_n_signals (n.signals).length c_n_signals) := (hc7 _ _ (by omega)).trans t6_1_0
   have t7_1_1 : w7.cell? ⟨w.heap.size + 1, 1, none⟩ = some (.slice A_n_wires (n.wires).length c_n_wires) := (hc7 _ _ (by omega)).trans t6_1_1
   have l7_2 : w.heap.size + 1 + 1 < w7.heap.size := by omega
   have t7_2_0 : w7.cell? ⟨w.heap.size + 1 + 1, 0, none⟩ = some (.int .i64 b.state) := (hc7 _ _ (by omega)).trans t6_2_0
   have t7_2_1 : w7.cell? ⟨w.heap.size + 1 + 1, 1, none⟩ = some (.string ⟨(b.values).toArray⟩) := (hc7 _ _ (by omega)).trans t6_2_1
   clear t6_0_0
   clear t6_0_1
   clear t6_0_2
   clear t6_1_0
   clear t6_1_1
   clear t6_2_0
   clear t6_2_1
   have aA_c_signals4_7 := RA.to aA_c_signals4_6 hs7
   clear aA_c_signals4_6
   have aA_c_codes4_7 := RA.to aA_c_codes4_6 hs7
   clear aA_c_codes4_6
   have aA_c_arcs4_7 := RA.to aA_c_arcs4_6 hs7
   clear aA_c_arcs4_6
   have aA_n_signals5_7 := RA.to aA_n_signals5_6 hs7
   clear aA_n_signals5_6
   have aA_n_wires5_7 := RA.to aA_n_wires5_6 hs7
   clear aA_n_wires5_6
   clear hc7
   rw [HR.out] at ho7_0
   have hlt7_0 := ho7_0.lt
   rw [HR.out]
   )
  )
 go_wp2_with fail
 refine (toStateGraph c A_c_signals c_c_signals A_c_codes c_c_codes A_c_arcs c_c_arcs _ g0 g1 (RA.to g2 HW7.out) g3 g4 (RA.to g5 HW7.out) g6 g7 (RA.to g8 HW7.out) qq_c).mono ?_
 rintro e w8 ⟨A_c_signals8, A_c_codes8, A_c_arcs8, rfl, rA_c_signals8, rA_c_codes8, rA_c_arcs8, hb8, fz8⟩
 have hs8 : Below w7.heap.size w7 w8 := hb8
 have HW8 : Hid (Below w.heap.size w w8) := Zl (HW7.out.trans (hs8.mono HW7.out.size))
 obtain ⟨hc8, _⟩ := Zan hb8
 have hz8 := hb8.size
 repeat rw [World.size_alloc] at hz8
 have l8_0 : w.heap.size < w8.heap.size := by omega
 have t8_0_0 : w8.cell? ⟨w.heap.size, 0, none⟩ = some (.slice A_c_signals (c.signals).length c_c_signals) := (hc8 _ _ (by omega)).trans t7_0_0
 have t8_0_1 : w8.cell? ⟨w.heap.size, 1, none⟩ = some (.slice A_c_codes (c.codes).length c_c_codes) := (hc8 _ _ (by omega)).trans t7_0_1
 have t8_0_2 : w8.cell? ⟨w.heap.size, 2, none⟩ = some (.slice A_c_arcs (c.arcs).length c_c_arcs) := (hc8 _ _ (by omega)).trans t7_0_2
 have l8_1 : w.heap.size + 1 < w8.heap.size := by omega
 have t8_1_0 : w8.cell? ⟨w.heap.size + 1, 0, none⟩ = some (.slice A_n_signals (n.signals).length c_n_signals) := (hc8 _ _ (by omega)).trans t7_1_0
 have t8_1_1 : w8.cell? ⟨w.heap.size + 1, 1, none⟩ = some (.slice A_n_wires (n.wires).length c_n_wires) := (hc8 _ _ (by omega)).trans t7_1_1
 have l8_2 : w.heap.size + 1 + 1 < w8.heap.size := by omega
 have t8_2_0 : w8.cell? ⟨w.heap.size + 1 + 1, 0, none⟩ = some (.int .i64 b.state) := (hc8 _ _ (by omega)).trans t7_2_0
 have t8_2_1 : w8.cell? ⟨w.heap.size + 1 + 1, 1, none⟩ = some (.string ⟨(b.values).toArray⟩) := (hc8 _ _ (by omega)).trans t7_2_1
 clear t7_0_0
 clear t7_0_1
 clear t7_0_2
 clear t7_1_0
 clear t7_1_1
 clear t7_2_0
 clear t7_2_1
 have ho7_0_8 := Own.to ho7_0 hs8
 clear ho7_0
 clear hc8
 have aA_c_signals8 : RA Z6 w8 A_c_signals8 c.signals := (rA_c_signals8).mono fun b hb => hb.2
 have aA_c_codes8 : RA Zah w8 A_c_codes8 c.codes := (rA_c_codes8).mono fun b hb => hb.2
 have aA_c_arcs8 : RA ZcH w8 A_c_arcs8 c.arcs := (rA_c_arcs8).mono fun b hb => hb.2
 have hlo_c : w.heap.size ≤ w7.heap.size := HW7.out.size
 go_wp2_with fail
 refine (toNetlist n A_n_signals c_n_signals A_n_wires c_n_wires _ g9 g10 (RA.to g11 (HW8.out.alloc HW8.out.size _)) g12 g13 (RA.to g14 (HW8.out.alloc HW8.out.size _)) qq_n).mono ?_
 rintro e w9 ⟨A_n_signals9, A_n_wires9, rfl, rA_n_signals9, rA_n_wires9, hb9, fz9⟩
 have hs9 : Below w8.heap.size w8 w9 := ((Below.refl _ _).alloc (Nat.le_refl _) _).trans (hb9.mono (by rw [World.size_alloc]; omega))
 have HW9 : Hid (Below w.heap.size w w9) := Zl (HW8.out.trans (hs9.mono HW8.out.size))
 obtain ⟨hc9, _⟩ := Zan hb9
 have hz9 := hb9.size
 repeat rw [World.size_alloc] at hz9
 have l9_0 : w.heap.size < w9.heap.size := by omega
 have t9_0_0 : w9.cell? ⟨w.heap.size, 0, none⟩ = some (.slice A_c_signals (c.signals).length c_c_signals) := (hc9 _ _ (by rw [World.size_alloc]; omega)).trans (by rw [World.cell?_alloc_past _ _ _ (by omega)]; exact t8_0_0)
 have t9_0_1 : w9.cell? ⟨w.heap.size, 1, none⟩ = some (.slice A_c_codes (c.codes).length c_c_codes) := (hc9 _ _ (by rw [World.size_alloc]; omega)).trans (by rw [World.cell?_alloc_past _ _ _ (by omega)]; exact t8_0_1)
 have t9_0_2 : w9.cell? ⟨w.heap.size, 2, none⟩ = some (.slice A_c_arcs (c.arcs).length c_c_arcs) := (hc9 _ _ (by rw [World.size_alloc]; omega)).trans (by rw [World.cell?_alloc_past _ _ _ (by omega)]; exact t8_0_2)
 have l9_1 : w.heap.size + 1 < w9.heap.size := by omega
 have t9_1_0 : w9.cell? ⟨w.heap.size + 1, 0, none⟩ = some (.slice A_n_signals (n.signals).length c_n_signals) := (hc9 _ _ (by rw [World.size_alloc]; omega)).trans (by rw [World.cell?_alloc_past _ _ _ (by omega)]; exact t8_1_0)
 have t9_1_1 : w9.cell? ⟨w.heap.size + 1, 1, none⟩ = some (.slice A_n_wires (n.wires).length c_n_wires) := (hc9 _ _ (by rw [World.size_alloc]; omega)).trans (by rw [World.cell?_alloc_past _ _ _ (by omega)]; exact t8_1_1)
 have l9_2 : w.heap.size + 1 + 1 < w9.heap.size := by omega
 have t9_2_0 : w9.cell? ⟨w.heap.size + 1 + 1, 0, none⟩ = some (.int .i64 b.state) := (hc9 _ _ (by rw [World.size_alloc]; omega)).trans (by rw [World.cell?_alloc_past _ _ _ (by omega)]; exact t8_2_0)
 have t9_2_1 : w9.cell? ⟨w.heap.size + 1 + 1, 1, none⟩ = some (.string ⟨(b.values).toArray⟩) := (hc9 _ _ (by rw [World.size_alloc]; omega)).trans (by rw [World.cell?_alloc_past _ _ _ (by omega)]; exact t8_2_1)
 have l9_3 : w8.heap.size < w9.heap.size := by omega
 have t9_3_0 : w9.cell? ⟨w8.heap.size, 0, none⟩ = some (.slice A_c_signals8 (c.signals).length (c.signals).length) := by rw [hc9 _ _ (by first | omega | (repeat rw [World.size_alloc]); omega)]; simp [go_sem]
 have t9_3_1 : w9.cell? ⟨w8.heap.size, 1, none⟩ = some (.slice A_c_codes8 (c.codes).length (c.codes).length) := by rw [hc9 _ _ (by first | omega | (repeat rw [World.size_alloc]); omega)]; simp [go_sem]
 have t9_3_2 : w9.cell? ⟨w8.heap.size, 2, none⟩ = some (.slice A_c_arcs8 (c.arcs).length (c.arcs).length) := by rw [hc9 _ _ (by first | omega | (repeat rw [World.size_alloc]); omega)]; simp [go_sem]
 clear t8_0_0
 clear t8_0_1
 clear t8_0_2
 clear t8_1_0
 clear t8_1_1
 clear t8_2_0
 clear t8_2_1
 have aA_c_signals8_9 := RA.to aA_c_signals8 hs9
 clear aA_c_signals8
 have aA_c_codes8_9 := RA.to aA_c_codes8 hs9
 clear aA_c_codes8
 have aA_c_arcs8_9 := RA.to aA_c_arcs8 hs9
 clear aA_c_arcs8
 have HXc_9 : Hid (Below w8.heap.size w8 w9) := Zl hs9
 have ho7_0_9 := Own.to ho7_0_8 hs9
 clear ho7_0_8
 clear hc9
 have aA_n_signals9 : RA Z6 w9 A_n_signals9 n.signals := (rA_n_signals9).mono fun b hb => hb.2
 have aA_n_wires9 : RA Zao w9 A_n_wires9 n.wires := (rA_n_wires9).mono fun b hb => hb.2
 have hlo_n : w.heap.size ≤ w8.heap.size := HW8.out.size
 go_wp2_with fail
 obtain ⟨w10, hw10⟩ : ∃ x, w9.alloc (.cells #[.slice A_n_signals9 (n.signals).length (n.signals).length, .slice A_n_wires9 (n.wires).length (n.wires).length] 43) = x := ⟨_, rfl⟩
 have hs10 : Below w9.heap.size w9 w10 := by rw [← hw10]; exact (Below.refl _ _).alloc (Nat.le_refl _) _
 have HW10 : Hid (Below w.heap.size w w10) := Zl (HW9.out.trans (hs10.mono HW9.out.size))
 have hz10 : w10.heap.size = w9.heap.size + 1 := by rw [← hw10]; simp
 have l10_0 : w.heap.size < w10.heap.size := by omega
 have t10_0_0 : w10.cell? ⟨w.heap.size, 0, none⟩ = some (.slice A_c_signals (c.signals).length c_c_signals) := cell_later hs10 t9_0_0
 clear t9_0_0
 have t10_0_1 : w10.cell? ⟨w.heap.size, 1, none⟩ = some (.slice A_c_codes (c.codes).length c_c_codes) := cell_later hs10 t9_0_1
 clear t9_0_1
 have t10_0_2 : w10.cell? ⟨w.heap.size, 2, none⟩ = some (.slice A_c_arcs (c.arcs).length c_c_arcs) := cell_later hs10 t9_0_2
 clear t9_0_2
 have l10_1 : w.heap.size + 1 < w10.heap.size := by omega
 have t10_1_0 : w10.cell? ⟨w.heap.size + 1, 0, none⟩ = some (.slice A_n_signals (n.signals).length c_n_signals) := cell_later hs10 t9_1_0
 clear t9_1_0
 have t10_1_1 : w10.cell? ⟨w.heap.size + 1, 1, none⟩ = some (.slice A_n_wires (n.wires).length c_n_wires) := cell_later hs10 t9_1_1
 clear t9_1_1
 have l10_2 : w.heap.size + 1 + 1 < w10.heap.size := by omega
 have t10_2_0 : w10.cell? ⟨w.heap.size + 1 + 1, 0, none⟩ = some (.int .i64 b.state) := cell_later hs10 t9_2_0
 clear t9_2_0
 have t10_2_1 : w10.cell? ⟨w.heap.size + 1 + 1, 1, none⟩ = some (.string ⟨(b.values).toArray⟩) := cell_later hs10 t9_2_1
 clear t9_2_1
 have l10_3 : w8.heap.size < w10.heap.size := by omega
 have t10_3_0 : w10.cell? ⟨w8.heap.size, 0, none⟩ = some (.slice A_c_signals8 (c.signals).length (c.signals).length) := cell_later hs10 t9_3_0
 clear t9_3_0
 have t10_3_1 : w10.cell? ⟨w8.heap.size, 1, none⟩ = some (.slice A_c_codes8 (c.codes).length (c.codes).length) := cell_later hs10 t9_3_1
 clear t9_3_1
 have t10_3_2 : w10.cell? ⟨w8.heap.size, 2, none⟩ = some (.slice A_c_arcs8 (c.arcs).length (c.arcs).length) := cell_later hs10 t9_3_2
 clear t9_3_2
 have l10_4 : w9.heap.size < w10.heap.size := by omega
 have t10_4_0 : w10.cell? ⟨w9.heap.size, 0, none⟩ = some (.slice A_n_signals9 (n.signals).length (n.signals).length) := by rw [← hw10]; simp [go_sem]
 have t10_4_1 : w10.cell? ⟨w9.heap.size, 1, none⟩ = some (.slice A_n_wires9 (n.wires).length (n.wires).length) := by rw [← hw10]; simp [go_sem]
 rw [hw10]
 clear hw10
 have aA_c_signals8_10 := RA.to aA_c_signals8_9 hs10
 clear aA_c_signals8_9
 have aA_c_codes8_10 := RA.to aA_c_codes8_9 hs10
 clear aA_c_codes8_9
 have aA_c_arcs8_10 := RA.to aA_c_arcs8_9 hs10
 clear aA_c_arcs8_9
 have aA_n_signals9_10 := RA.to aA_n_signals9 hs10
 clear aA_n_signals9
 have aA_n_wires9_10 := RA.to aA_n_wires9 hs10
 clear aA_n_wires9
 have HXc_10 : Hid (Below w8.heap.size w8 w10) := Zl (HXc_9.out.trans (hs10.mono HXc_9.out.size))
 clear HXc_9
 have HXn_10 : Hid (Below w9.heap.size w9 w10) := Zl hs10
 have ho7_0_10 := Own.to ho7_0_9 hs10
 clear ho7_0_9
 go_wp2_with fail
 go_region_held3 (fun W => W.cell? ⟨w8.heap.size, 0, none⟩ = some (.slice A_c_signals8 (c.signals).length (c.signals).length) ∧ W.cell? ⟨w8.heap.size, 1, none⟩ = some (.slice A_c_codes8 (c.codes).length (c.codes).length) ∧ W.cell? ⟨w8.heap.size, 2, none⟩ = some (.slice A_c_arcs8 (c.arcs).length (c.arcs).length) ∧ W.cell? ⟨w9.heap.size, 0, none⟩ = some (.slice A_n_signals9 (n.signals).length (n.signals).length) ∧ W.cell? ⟨w9.heap.size, 1, none⟩ = some (.slice A_n_wires9 (n.wires).length (n.wires).length) ∧ W.cell? ⟨w.heap.size + 1 + 1, 0, none⟩ = some (.int .i64 b.state) ∧ W.cell? ⟨w.heap.size + 1 + 1, 1, none⟩ = some (.string ⟨(b.values).toArray⟩)) (first | exact ⟨t10_3_0, t10_3_1, t10_3_2, t10_4_0, t10_4_1, t10_2_0, t10_2_1⟩ | exact ⟨t11_3_0, t11_3_1, t11_3_2, t11_4_0, t11_4_1, t11_2_0, t11_2_1⟩ | exact ⟨t12_3_0, t12_3_1, t12_3_2, t12_4_0, t12_4_1, t12_2_0, t12_2_1⟩) (first
  | (
   go_at_call 23
   refine (toProductState b  _ g16 qq_b).mono ?_
   rintro e w11 ⟨rfl, hb11, fz11⟩
   have hs11 : Below w10.heap.size w10 w11 := (Below.drew (Below.refl _ _)).trans hb11
   have HW11 : Hid (Below w.heap.size w w11) := Zl (HW10.out.trans (hs11.mono HW10.out.size))
   obtain ⟨hc11, _⟩ := Zan hs11
   have hz11 := hs11.size
   repeat rw [World.size_alloc] at hz11
   have l11_0 : w.heap.size < w11.heap.size := by omega
   have t11_0_0 : w11.cell? ⟨w.heap.size, 0, none⟩ = some (.slice A_c_signals (c.signals).length c_c_signals) := (hc11 _ _ (by omega)).trans t10_0_0
   have t11_0_1 : w11.cell? ⟨w.heap.size, 1, none⟩ = some (.slice A_c_codes (c.codes).length c_c_codes) := (hc11 _ _ (by omega)).trans t10_0_1
   have t11_0_2 : w11.cell? ⟨w.heap.size, 2, none⟩ = some (.slice A_c_arcs (c.arcs).length c_c_arcs) := (hc11 _ _ (by omega)).trans t10_0_2
   have l11_1 : w.heap.size + 1 < w11.heap.size := by omega
   have t11_1_0 : w11.cell? ⟨w.heap.size + 1, 0, none⟩ = some (.slice A_n_signals (n.signals).length c_n_signals) := (hc11 _ _ (by omega)).trans t10_1_0
   have t11_1_1 : w11.cell? ⟨w.heap.size + 1, 1, none⟩ = some (.slice A_n_wires (n.wires).length c_n_wires) := (hc11 _ _ (by omega)).trans t10_1_1
   have l11_2 : w.heap.size + 1 + 1 < w11.heap.size := by omega
   have t11_2_0 : w11.cell? ⟨w.heap.size + 1 + 1, 0, none⟩ = some (.int .i64 b.state) := (hc11 _ _ (by omega)).trans t10_2_0
   have t11_2_1 : w11.cell? ⟨w.heap.size + 1 + 1, 1, none⟩ = some (.string ⟨(b.values).toArray⟩) := (hc11 _ _ (by omega)).trans t10_2_1
   have l11_3 : w8.heap.size < w11.heap.size := by omega
   have t11_3_0 : w11.cell? ⟨w8.heap.size, 0, none⟩ = some (.slice A_c_signals8 (c.signals).length (c.signals).length) := (hc11 _ _ (by omega)).trans t10_3_0
   have t11_3_1 : w11.cell? ⟨w8.heap.size, 1, none⟩ = some (.slice A_c_codes8 (c.codes).length (c.codes).length) := (hc11 _ _ (by omega)).trans t10_3_1
   have t11_3_2 : w11.cell? ⟨w8.heap.size, 2, none⟩ = some (.slice A_c_arcs8 (c.arcs).length (c.arcs).length) := (hc11 _ _ (by omega)).trans t10_3_2
   have l11_4 : w9.heap.size < w11.heap.size := by omega
   have t11_4_0 : w11.cell? ⟨w9.heap.size, 0, none⟩ = some (.slice A_n_signals9 (n.signals).length (n.signals).length) := (hc11 _ _ (by omega)).trans t10_4_0
   have t11_4_1 : w11.cell? ⟨w9.heap.size, 1, none⟩ = some (.slice A_n_wires9 (n.wires).length (n.wires).length) := (hc11 _ _ (by omega)).trans t10_4_1
   clear t10_0_0
   clear t10_0_1
   clear t10_0_2
   clear t10_1_0
   clear t10_1_1
   clear t10_2_0
   clear t10_2_1
   clear t10_3_0
   clear t10_3_1
   clear t10_3_2
   clear t10_4_0
   clear t10_4_1
   have aA_c_signals8_11 := RA.to aA_c_signals8_10 hs11
   clear aA_c_signals8_10
   have aA_c_codes8_11 := RA.to aA_c_codes8_10 hs11
   clear aA_c_codes8_10
   have aA_c_arcs8_11 := RA.to aA_c_arcs8_10 hs11
   clear aA_c_arcs8_10
   have aA_n_signals9_11 := RA.to aA_n_signals9_10 hs11
   clear aA_n_signals9_10
   have aA_n_wires9_11 := RA.to aA_n_wires9_10 hs11
   clear aA_n_wires9_10
   have HXc_11 : Hid (Below w8.heap.size w8 w11) := Zl (HXc_10.out.trans (hs11.mono HXc_10.out.size))
   clear HXc_10
   have HXn_11 : Hid (Below w9.heap.size w9 w11) := Zl (HXn_10.out.trans (hs11.mono HXn_10.out.size))
   clear HXn_10
   have ho7_0_11 := Own.to ho7_0_10 hs11
   clear ho7_0_10
   clear hc11
   )
  | (
   go_at_call 36
   refine (impl_UnexpectedOutputs c n b A_c_signals8 (c.signals).length A_c_codes8 (c.codes).length A_c_arcs8 (c.arcs).length A_n_signals9 (n.signals).length A_n_wires9 (n.wires).length  _ (Nat.le_refl _) (by omega) (RA.to aA_c_signals8_11 (Below.refl _ _)) (Nat.le_refl _) (by omega) (RA.to aA_c_codes8_11 (Below.refl _ _)) (Nat.le_refl _) (by omega) (RA.to aA_c_arcs8_11 (Below.refl _ _)) (Nat.le_refl _) (by omega) (RA.to aA_n_signals9_11 (Below.refl _ _)) (Nat.le_refl _) (by omega) (RA.to aA_n_wires9_11 (Below.refl _ _)) g15 g16).mono ?_
   rintro e w12 ⟨A12_0, c12_0, rfl, ho12_0, hb12⟩
   have hs12 : Below w11.heap.size w11 w12 := hb12
   have HW12 : Hid (Below w.heap.size w w12) := Zl (HW11.out.trans (hs12.mono HW11.out.size))
   obtain ⟨hc12, _⟩ := Zan hb12
   have hz12 := hb12.size
   repeat rw [World.size_alloc] at hz12
   have l12_0 : w.heap.size < w12.heap.size := by omega
   have t12_0_0 : w12.cell? ⟨w.heap.size, 0, none⟩ = some (.slice A_c_signals (c.signals).length c_c_signals) := (hc12 _ _ (by omega)).trans t11_0_0
   have t12_0_1 : w12.cell? ⟨w.heap.size, 1, none⟩ = some (.slice A_c_codes (c.codes).length c_c_codes) := (hc12 _ _ (by omega)).trans t11_0_1
   have t12_0_2 : w12.cell? ⟨w.heap.size, 2, none⟩ = some (.slice A_c_arcs (c.arcs).length c_c_arcs) := (hc12 _ _ (by omega)).trans t11_0_2
   have l12_1 : w.heap.size + 1 < w12.heap.size := by omega
   have t12_1_0 : w12.cell? ⟨w.heap.size + 1, 0, none⟩ = some (.slice A_n_signals (n.signals).length c_n_signals) := (hc12 _ _ (by omega)).trans t11_1_0
   have t12_1_1 : w12.cell? ⟨w.heap.size + 1, 1, none⟩ = some (.slice A_n_wires (n.wires).length c_n_wires) := (hc12 _ _ (by omega)).trans t11_1_1
   have l12_2 : w.heap.size + 1 + 1 < w12.heap.size := by omega
   have t12_2_0 : w12.cell? ⟨w.heap.size + 1 + 1, 0, none⟩ = some (.int .i64 b.state) := (hc12 _ _ (by omega)).trans t11_2_0
   have t12_2_1 : w12.cell? ⟨w.heap.size + 1 + 1, 1, none⟩ = some (.string ⟨(b.values).toArray⟩) := (hc12 _ _ (by omega)).trans t11_2_1
   have l12_3 : w8.heap.size < w12.heap.size := by omega
   have t12_3_0 : w12.cell? ⟨w8.heap.size, 0, none⟩ = some (.slice A_c_signals8 (c.signals).length (c.signals).length) := (hc12 _ _ (by omega)).trans t11_3_0
   have t12_3_1 : w12.cell? ⟨w8.heap.size, 1, none⟩ = some (.slice A_c_codes8 (c.codes).length (c.codes).length) := (hc12 _ _ (by omega)).trans t11_3_1
   have t12_3_2 : w12.cell? ⟨w8.heap.size, 2, none⟩ = some (.slice A_c_arcs8 (c.arcs).length (c.arcs).length) := (hc12 _ _ (by omega)).trans t11_3_2
   have l12_4 : w9.heap.size < w12.heap.size := by omega
   have t12_4_0 : w12.cell? ⟨w9.heap.size, 0, none⟩ = some (.slice A_n_signals9 (n.signals).length (n.signals).length) := (hc12 _ _ (by omega)).trans t11_4_0
   have t12_4_1 : w12.cell? ⟨w9.heap.size, 1, none⟩ = some (.slice A_n_wires9 (n.wires).length (n.wires).length) := (hc12 _ _ (by omega)).trans t11_4_1
   clear t11_0_0
   clear t11_0_1
   clear t11_0_2
   clear t11_1_0
   clear t11_1_1
   clear t11_2_0
   clear t11_2_1
   clear t11_3_0
   clear t11_3_1
   clear t11_3_2
   clear t11_4_0
   clear t11_4_1
   have aA_c_signals8_12 := RA.to aA_c_signals8_11 hs12
   clear aA_c_signals8_11
   have aA_c_codes8_12 := RA.to aA_c_codes8_11 hs12
   clear aA_c_codes8_11
   have aA_c_arcs8_12 := RA.to aA_c_arcs8_11 hs12
   clear aA_c_arcs8_11
   have aA_n_signals9_12 := RA.to aA_n_signals9_11 hs12
   clear aA_n_signals9_11
   have aA_n_wires9_12 := RA.to aA_n_wires9_11 hs12
   clear aA_n_wires9_11
   have HXc_12 : Hid (Below w8.heap.size w8 w12) := Zl (HXc_11.out.trans (hs12.mono HXc_11.out.size))
   clear HXc_11
   have HXn_12 : Hid (Below w9.heap.size w9 w12) := Zl (HXn_11.out.trans (hs12.mono HXn_11.out.size))
   clear HXn_11
   have ho7_0_12 := Own.to ho7_0_11 hs12
   clear ho7_0_11
   clear hc12
   rw [HR.out] at ho12_0
   have hlt12_0 := ho12_0.lt
   rw [HR.out]
   )
  )
 go_wp2_with fail
 refine (eqIntS A12_0 A7_0 c12_0 c7_0 R.1 _ (by omega) (RA.to ho12_0.ra (Below.refl _ _)) (RA.to ho7_0_12.ra (Below.refl _ _))).mono ?_
 rintro e w13 ⟨rfl, hb13⟩
 have hs13 : Below w12.heap.size w12 w13 := hb13
 have HW13 : Hid (Below w.heap.size w w13) := Zl (HW12.out.trans (hs13.mono HW12.out.size))
 obtain ⟨hc13, _⟩ := Zan hb13
 have hz13 := hb13.size
 repeat rw [World.size_alloc] at hz13
 have l13_0 : w.heap.size < w13.heap.size := by omega
 have t13_0_0 : w13.cell? ⟨w.heap.size, 0, none⟩ = some (.slice A_c_signals (c.signals).length c_c_signals) := (hc13 _ _ (by omega)).trans t12_0_0
 have t13_0_1 : w13.cell? ⟨w.heap.size, 1, none⟩ = some (.slice A_c_codes (c.codes).length c_c_codes) := (hc13 _ _ (by omega)).trans t12_0_1
 have t13_0_2 : w13.cell? ⟨w.heap.size, 2, none⟩ = some (.slice A_c_arcs (c.arcs).length c_c_arcs) := (hc13 _ _ (by omega)).trans t12_0_2
 have l13_1 : w.heap.size + 1 < w13.heap.size := by omega
 have t13_1_0 : w13.cell? ⟨w.heap.size + 1, 0, none⟩ = some (.slice A_n_signals (n.signals).length c_n_signals) := (hc13 _ _ (by omega)).trans t12_1_0
 have t13_1_1 : w13.cell? ⟨w.heap.size + 1, 1, none⟩ = some (.slice A_n_wires (n.wires).length c_n_wires) := (hc13 _ _ (by omega)).trans t12_1_1
 have l13_2 : w.heap.size + 1 + 1 < w13.heap.size := by omega
 have t13_2_0 : w13.cell? ⟨w.heap.size + 1 + 1, 0, none⟩ = some (.int .i64 b.state) := (hc13 _ _ (by omega)).trans t12_2_0
 have t13_2_1 : w13.cell? ⟨w.heap.size + 1 + 1, 1, none⟩ = some (.string ⟨(b.values).toArray⟩) := (hc13 _ _ (by omega)).trans t12_2_1
 have l13_3 : w8.heap.size < w13.heap.size := by omega
 have t13_3_0 : w13.cell? ⟨w8.heap.size, 0, none⟩ = some (.slice A_c_signals8 (c.signals).length (c.signals).length) := (hc13 _ _ (by omega)).trans t12_3_0
 have t13_3_1 : w13.cell? ⟨w8.heap.size, 1, none⟩ = some (.slice A_c_codes8 (c.codes).length (c.codes).length) := (hc13 _ _ (by omega)).trans t12_3_1
 have t13_3_2 : w13.cell? ⟨w8.heap.size, 2, none⟩ = some (.slice A_c_arcs8 (c.arcs).length (c.arcs).length) := (hc13 _ _ (by omega)).trans t12_3_2
 have l13_4 : w9.heap.size < w13.heap.size := by omega
 have t13_4_0 : w13.cell? ⟨w9.heap.size, 0, none⟩ = some (.slice A_n_signals9 (n.signals).length (n.signals).length) := (hc13 _ _ (by omega)).trans t12_4_0
 have t13_4_1 : w13.cell? ⟨w9.heap.size, 1, none⟩ = some (.slice A_n_wires9 (n.wires).length (n.wires).length) := (hc13 _ _ (by omega)).trans t12_4_1
 clear t12_0_0
 clear t12_0_1
 clear t12_0_2
 clear t12_1_0
 clear t12_1_1
 clear t12_2_0
 clear t12_2_1
 clear t12_3_0
 clear t12_3_1
 clear t12_3_2
 clear t12_4_0
 clear t12_4_1
 have aA_c_signals8_13 := RA.to aA_c_signals8_12 hs13
 clear aA_c_signals8_12
 have aA_c_codes8_13 := RA.to aA_c_codes8_12 hs13
 clear aA_c_codes8_12
 have aA_c_arcs8_13 := RA.to aA_c_arcs8_12 hs13
 clear aA_c_arcs8_12
 have aA_n_signals9_13 := RA.to aA_n_signals9_12 hs13
 clear aA_n_signals9_12
 have aA_n_wires9_13 := RA.to aA_n_wires9_12 hs13
 clear aA_n_wires9_12
 have HXc_13 : Hid (Below w8.heap.size w8 w13) := Zl (HXc_12.out.trans (hs13.mono HXc_12.out.size))
 clear HXc_12
 have HXn_13 : Hid (Below w9.heap.size w9 w13) := Zl (HXn_12.out.trans (hs13.mono HXn_12.out.size))
 clear HXn_12
 have ho7_0_13 := Own.to ho7_0_12 hs13
 clear ho7_0_12
 have ho12_0_13 := Own.to ho12_0 hs13
 clear ho12_0
 clear hc13
 go_wp2_with fail
 go_region_held3 (fun W => W.cell? ⟨w8.heap.size, 0, none⟩ = some (.slice A_c_signals8 (c.signals).length (c.signals).length) ∧ W.cell? ⟨w8.heap.size, 1, none⟩ = some (.slice A_c_codes8 (c.codes).length (c.codes).length) ∧ W.cell? ⟨w8.heap.size, 2, none⟩ = some (.slice A_c_arcs8 (c.arcs).length (c.arcs).length) ∧ W.cell? ⟨w.heap.size, 0, none⟩ = some (.slice A_c_signals (c.signals).length c_c_signals) ∧ W.cell? ⟨w.heap.size, 1, none⟩ = some (.slice A_c_codes (c.codes).length c_c_codes) ∧ W.cell? ⟨w.heap.size, 2, none⟩ = some (.slice A_c_arcs (c.arcs).length c_c_arcs)) (first | exact ⟨t13_3_0, t13_3_1, t13_3_2, t13_0_0, t13_0_1, t13_0_2⟩ | exact ⟨(cell_later hb14 t13_3_0), (cell_later hb14 t13_3_1), (cell_later hb14 t13_3_2), (cell_later hb14 t13_0_0), (cell_later hb14 t13_0_1), (cell_later hb14 t13_0_2)⟩ | exact ⟨(cell_later hb15 (cell_later hb14 t13_3_0)), (cell_later hb15 (cell_later hb14 t13_3_1)), (cell_later hb15 (cell_later hb14 t13_3_2)), (cell_later hb15 (cell_later hb14 t13_0_0)), (cell_later hb15 (cell_later hb14 t13_0_1)), (cell_later hb15 (cell_later hb14 t13_0_2))⟩) (first | (go_at_call 15; refine (toStateGraph c A_c_signals c_c_signals A_c_codes c_c_codes A_c_arcs c_c_arcs _ g0 g1 (RA.to g2 HW13.out.drew) g3 g4 (RA.to g5 HW13.out.drew) g6 g7 (RA.to g8 HW13.out.drew) qq_c).mono ?_; rintro e w14 ⟨A_c_signals14, A_c_codes14, A_c_arcs14, rfl, rA_c_signals14, rA_c_codes14, rA_c_arcs14, hb14, fz14⟩) | (go_at_call 19; refine (eqStateGraph c A_c_signals8 (c.signals).length A_c_codes8 (c.codes).length A_c_arcs8 (c.arcs).length A_c_signals14 (c.signals).length A_c_codes14 (c.codes).length A_c_arcs14 (c.arcs).length _ (Nat.le_refl _) (by omega) (RA.to aA_c_signals8_13 (Below.trans (Below.drew (Below.refl _ _)) hb14)) (Nat.le_refl _) (by omega) (RA.to aA_c_codes8_13 (Below.trans (Below.drew (Below.refl _ _)) hb14)) (Nat.le_refl _) (by omega) (RA.to aA_c_arcs8_13 (Below.trans (Below.drew (Below.refl _ _)) hb14)) (Nat.le_refl _) (by omega) ((rA_c_signals14).mono fun b hb => hb.2) (Nat.le_refl _) (by omega) ((rA_c_codes14).mono fun b hb => hb.2) (Nat.le_refl _) (by omega) ((rA_c_arcs14).mono fun b hb => hb.2)).mono ?_; rintro e w15 ⟨rfl, hb15⟩))
 have hs15 : Below w13.heap.size w13 w15 := (Below.drew (Below.refl _ _)).trans (hb14.trans (hb15.mono hb14.size))
 have HW15 : Hid (Below w.heap.size w w15) := Zl (HW13.out.trans (hs15.mono HW13.out.size))
 have hz15 : w13.heap.size ≤ w15.heap.size := Nat.le_trans hb14.size hb15.size
 have l15_0 : w.heap.size < w15.heap.size := by omega
 have t15_0_0 : w15.cell? ⟨w.heap.size, 0, none⟩ = some (.slice A_c_signals (c.signals).length c_c_signals) := cell_later hb15 (cell_later hb14 t13_0_0)
 clear t13_0_0
 have t15_0_1 : w15.cell? ⟨w.heap.size, 1, none⟩ = some (.slice A_c_codes (c.codes).length c_c_codes) := cell_later hb15 (cell_later hb14 t13_0_1)
 clear t13_0_1
 have t15_0_2 : w15.cell? ⟨w.heap.size, 2, none⟩ = some (.slice A_c_arcs (c.arcs).length c_c_arcs) := cell_later hb15 (cell_later hb14 t13_0_2)
 clear t13_0_2
 have l15_1 : w.heap.size + 1 < w15.heap.size := by omega
 have t15_1_0 : w15.cell? ⟨w.heap.size + 1, 0, none⟩ = some (.slice A_n_signals (n.signals).length c_n_signals) := cell_later hb15 (cell_later hb14 t13_1_0)
 clear t13_1_0
 have t15_1_1 : w15.cell? ⟨w.heap.size + 1, 1, none⟩ = some (.slice A_n_wires (n.wires).length c_n_wires) := cell_later hb15 (cell_later hb14 t13_1_1)
 clear t13_1_1
 have l15_2 : w.heap.size + 1 + 1 < w15.heap.size := by omega
 have t15_2_0 : w15.cell? ⟨w.heap.size + 1 + 1, 0, none⟩ = some (.int .i64 b.state) := cell_later hb15 (cell_later hb14 t13_2_0)
 clear t13_2_0
 have t15_2_1 : w15.cell? ⟨w.heap.size + 1 + 1, 1, none⟩ = some (.string ⟨(b.values).toArray⟩) := cell_later hb15 (cell_later hb14 t13_2_1)
 clear t13_2_1
 have l15_3 : w8.heap.size < w15.heap.size := by omega
 have t15_3_0 : w15.cell? ⟨w8.heap.size, 0, none⟩ = some (.slice A_c_signals8 (c.signals).length (c.signals).length) := cell_later hb15 (cell_later hb14 t13_3_0)
 clear t13_3_0
 have t15_3_1 : w15.cell? ⟨w8.heap.size, 1, none⟩ = some (.slice A_c_codes8 (c.codes).length (c.codes).length) := cell_later hb15 (cell_later hb14 t13_3_1)
 clear t13_3_1
 have t15_3_2 : w15.cell? ⟨w8.heap.size, 2, none⟩ = some (.slice A_c_arcs8 (c.arcs).length (c.arcs).length) := cell_later hb15 (cell_later hb14 t13_3_2)
 clear t13_3_2
 have l15_4 : w9.heap.size < w15.heap.size := by omega
 have t15_4_0 : w15.cell? ⟨w9.heap.size, 0, none⟩ = some (.slice A_n_signals9 (n.signals).length (n.signals).length) := cell_later hb15 (cell_later hb14 t13_4_0)
 clear t13_4_0
 have t15_4_1 : w15.cell? ⟨w9.heap.size, 1, none⟩ = some (.slice A_n_wires9 (n.wires).length (n.wires).length) := cell_later hb15 (cell_later hb14 t13_4_1)
 clear t13_4_1
 have aA_c_signals8_15 := RA.to aA_c_signals8_13 hs15
 clear aA_c_signals8_13
 have aA_c_codes8_15 := RA.to aA_c_codes8_13 hs15
 clear aA_c_codes8_13
 have aA_c_arcs8_15 := RA.to aA_c_arcs8_13 hs15
 clear aA_c_arcs8_13
 have aA_n_signals9_15 := RA.to aA_n_signals9_13 hs15
 clear aA_n_signals9_13
 have aA_n_wires9_15 := RA.to aA_n_wires9_13 hs15
 clear aA_n_wires9_13
 have HXc_15 : Hid (Below w8.heap.size w8 w15) := Zl (HXc_13.out.trans (hs15.mono HXc_13.out.size))
 clear HXc_13
 have HXn_15 : Hid (Below w9.heap.size w9 w15) := Zl (HXn_13.out.trans (hs15.mono HXn_13.out.size))
 clear HXn_13
 have ho7_0_15 := Own.to ho7_0_13 hs15
 clear ho7_0_13
 have ho12_0_15 := Own.to ho12_0_13 hs15
 clear ho12_0_13
 go_wp2_with fail
 go_region_held3 (fun W => W.cell? ⟨w9.heap.size, 0, none⟩ = some (.slice A_n_signals9 (n.signals).length (n.signals).length) ∧ W.cell? ⟨w9.heap.size, 1, none⟩ = some (.slice A_n_wires9 (n.wires).length (n.wires).length) ∧ W.cell? ⟨w.heap.size + 1, 0, none⟩ = some (.slice A_n_signals (n.signals).length c_n_signals) ∧ W.cell? ⟨w.heap.size + 1, 1, none⟩ = some (.slice A_n_wires (n.wires).length c_n_wires)) (first | exact ⟨t15_4_0, t15_4_1, t15_1_0, t15_1_1⟩ | exact ⟨(cell_later hb16 t15_4_0), (cell_later hb16 t15_4_1), (cell_later hb16 t15_1_0), (cell_later hb16 t15_1_1)⟩ | exact ⟨(cell_later hb17 (cell_later hb16 t15_4_0)), (cell_later hb17 (cell_later hb16 t15_4_1)), (cell_later hb17 (cell_later hb16 t15_1_0)), (cell_later hb17 (cell_later hb16 t15_1_1))⟩) (first | (go_at_call 16; refine (toNetlist n A_n_signals c_n_signals A_n_wires c_n_wires _ g9 g10 (RA.to g11 HW15.out.drew) g12 g13 (RA.to g14 HW15.out.drew) qq_n).mono ?_; rintro e w16 ⟨A_n_signals16, A_n_wires16, rfl, rA_n_signals16, rA_n_wires16, hb16, fz16⟩) | (go_at_call 20; refine (eqNetlist n A_n_signals9 (n.signals).length A_n_wires9 (n.wires).length A_n_signals16 (n.signals).length A_n_wires16 (n.wires).length _ (Nat.le_refl _) (by omega) (RA.to aA_n_signals9_15 (Below.trans (Below.drew (Below.refl _ _)) hb16)) (Nat.le_refl _) (by omega) (RA.to aA_n_wires9_15 (Below.trans (Below.drew (Below.refl _ _)) hb16)) (Nat.le_refl _) (by omega) ((rA_n_signals16).mono fun b hb => hb.2) (Nat.le_refl _) (by omega) ((rA_n_wires16).mono fun b hb => hb.2)).mono ?_; rintro e w17 ⟨rfl, hb17⟩))
 have hs17 : Below w15.heap.size w15 w17 := (Below.drew (Below.refl _ _)).trans (hb16.trans (hb17.mono hb16.size))
 have HW17 : Hid (Below w.heap.size w w17) := Zl (HW15.out.trans (hs17.mono HW15.out.size))
 have hz17 : w15.heap.size ≤ w17.heap.size := Nat.le_trans hb16.size hb17.size
 have l17_0 : w.heap.size < w17.heap.size := by omega
 have t17_0_0 : w17.cell? ⟨w.heap.size, 0, none⟩ = some (.slice A_c_signals (c.signals).length c_c_signals) := cell_later hb17 (cell_later hb16 t15_0_0)
 clear t15_0_0
 have t17_0_1 : w17.cell? ⟨w.heap.size, 1, none⟩ = some (.slice A_c_codes (c.codes).length c_c_codes) := cell_later hb17 (cell_later hb16 t15_0_1)
 clear t15_0_1
 have t17_0_2 : w17.cell? ⟨w.heap.size, 2, none⟩ = some (.slice A_c_arcs (c.arcs).length c_c_arcs) := cell_later hb17 (cell_later hb16 t15_0_2)
 clear t15_0_2
 have l17_1 : w.heap.size + 1 < w17.heap.size := by omega
 have t17_1_0 : w17.cell? ⟨w.heap.size + 1, 0, none⟩ = some (.slice A_n_signals (n.signals).length c_n_signals) := cell_later hb17 (cell_later hb16 t15_1_0)
 clear t15_1_0
 have t17_1_1 : w17.cell? ⟨w.heap.size + 1, 1, none⟩ = some (.slice A_n_wires (n.wires).length c_n_wires) := cell_later hb17 (cell_later hb16 t15_1_1)
 clear t15_1_1
 have l17_2 : w.heap.size + 1 + 1 < w17.heap.size := by omega
 have t17_2_0 : w17.cell? ⟨w.heap.size + 1 + 1, 0, none⟩ = some (.int .i64 b.state) := cell_later hb17 (cell_later hb16 t15_2_0)
 clear t15_2_0
 have t17_2_1 : w17.cell? ⟨w.heap.size + 1 + 1, 1, none⟩ = some (.string ⟨(b.values).toArray⟩) := cell_later hb17 (cell_later hb16 t15_2_1)
 clear t15_2_1
 have l17_3 : w8.heap.size < w17.heap.size := by omega
 have t17_3_0 : w17.cell? ⟨w8.heap.size, 0, none⟩ = some (.slice A_c_signals8 (c.signals).length (c.signals).length) := cell_later hb17 (cell_later hb16 t15_3_0)
 clear t15_3_0
 have t17_3_1 : w17.cell? ⟨w8.heap.size, 1, none⟩ = some (.slice A_c_codes8 (c.codes).length (c.codes).length) := cell_later hb17 (cell_later hb16 t15_3_1)
 clear t15_3_1
 have t17_3_2 : w17.cell? ⟨w8.heap.size, 2, none⟩ = some (.slice A_c_arcs8 (c.arcs).length (c.arcs).length) := cell_later hb17 (cell_later hb16 t15_3_2)
 clear t15_3_2
 have l17_4 : w9.heap.size < w17.heap.size := by omega
 have t17_4_0 : w17.cell? ⟨w9.heap.size, 0, none⟩ = some (.slice A_n_signals9 (n.signals).length (n.signals).length) := cell_later hb17 (cell_later hb16 t15_4_0)
 clear t15_4_0
 have t17_4_1 : w17.cell? ⟨w9.heap.size, 1, none⟩ = some (.slice A_n_wires9 (n.wires).length (n.wires).length) := cell_later hb17 (cell_later hb16 t15_4_1)
 clear t15_4_1
 have aA_c_signals8_17 := RA.to aA_c_signals8_15 hs17
 clear aA_c_signals8_15
 have aA_c_codes8_17 := RA.to aA_c_codes8_15 hs17
 clear aA_c_codes8_15
 have aA_c_arcs8_17 := RA.to aA_c_arcs8_15 hs17
 clear aA_c_arcs8_15
 have aA_n_signals9_17 := RA.to aA_n_signals9_15 hs17
 clear aA_n_signals9_15
 have aA_n_wires9_17 := RA.to aA_n_wires9_15 hs17
 clear aA_n_wires9_15
 have HXc_17 : Hid (Below w8.heap.size w8 w17) := Zl (HXc_15.out.trans (hs17.mono HXc_15.out.size))
 clear HXc_15
 have HXn_17 : Hid (Below w9.heap.size w9 w17) := Zl (HXn_15.out.trans (hs17.mono HXn_15.out.size))
 clear HXn_15
 have ho7_0_17 := Own.to ho7_0_15 hs17
 clear ho7_0_15
 have ho12_0_17 := Own.to ho12_0_15 hs17
 clear ho12_0_15
 have hD : ∀ b, (fun b => Zab w7 w8 b ∨ Zab (w8.alloc (.cells #[.slice A_c_signals8 (c.signals).length (c.signals).length, .slice A_c_codes8 (c.codes).length (c.codes).length, .slice A_c_arcs8 (c.arcs).length (c.arcs).length] 39)) w9 b) b → b < w17.heap.size := fun b hd => by
  rcases hd with hd | hd
  ·exact Nat.lt_of_lt_of_le hd.2 HXc_17.out.size
  ·exact Nat.lt_of_lt_of_le hd.2 HXn_17.out.size
 have hnf : ∀ b o, (fun b => Zab w7 w8 b ∨ Zab (w8.alloc (.cells #[.slice A_c_signals8 (c.signals).length (c.signals).length, .slice A_c_codes8 (c.codes).length (c.codes).length, .slice A_c_arcs8 (c.arcs).length (c.arcs).length] 39)) w9 b) b → w17.frozen? ⟨b, o, none⟩ = false := fun b o hd => by
  rcases hd with hd | hd
  ·exact (HXc_17.out.frozen (p := ⟨b, o, none⟩) hd.2).trans (fz8.fresh hd.1)
  ·exact (HXn_17.out.frozen (p := ⟨b, o, none⟩) hd.2).trans (fz9.fresh hd.1)
 have mrA_c_signals8 : RSl Z6 w17 (fun b => Zab w7 w8 b ∨ Zab (w8.alloc (.cells #[.slice A_c_signals8 (c.signals).length (c.signals).length, .slice A_c_codes8 (c.codes).length (c.codes).length, .slice A_c_arcs8 (c.arcs).length (c.arcs).length] 39)) w9 b) A_c_signals8 c.signals := (rA_c_signals8.below HXc_17.out (fun b hd => hd.2)).mono (fun b hd => .inl hd)
 have mrA_c_codes8 : RSl Zah w17 (fun b => Zab w7 w8 b ∨ Zab (w8.alloc (.cells #[.slice A_c_signals8 (c.signals).length (c.signals).length, .slice A_c_codes8 (c.codes).length (c.codes).length, .slice A_c_arcs8 (c.arcs).length (c.arcs).length] 39)) w9 b) A_c_codes8 c.codes := (rA_c_codes8.below HXc_17.out (fun b hd => hd.2)).mono (fun b hd => .inl hd)
 have mrA_c_arcs8 : RSl ZcH w17 (fun b => Zab w7 w8 b ∨ Zab (w8.alloc (.cells #[.slice A_c_signals8 (c.signals).length (c.signals).length, .slice A_c_codes8 (c.codes).length (c.codes).length, .slice A_c_arcs8 (c.arcs).length (c.arcs).length] 39)) w9 b) A_c_arcs8 c.arcs := (rA_c_arcs8.below HXc_17.out (fun b hd => hd.2)).mono (fun b hd => .inl hd)
 have mrA_n_signals9 : RSl Z6 w17 (fun b => Zab w7 w8 b ∨ Zab (w8.alloc (.cells #[.slice A_c_signals8 (c.signals).length (c.signals).length, .slice A_c_codes8 (c.codes).length (c.codes).length, .slice A_c_arcs8 (c.arcs).length (c.arcs).length] 39)) w9 b) A_n_signals9 n.signals := (rA_n_signals9.below HXn_17.out (fun b hd => hd.2)).mono (fun b hd => .inr (hd))
 have mrA_n_wires9 : RSl Zao w17 (fun b => Zab w7 w8 b ∨ Zab (w8.alloc (.cells #[.slice A_c_signals8 (c.signals).length (c.signals).length, .slice A_c_codes8 (c.codes).length (c.codes).length, .slice A_c_arcs8 (c.arcs).length (c.arcs).length] 39)) w9 b) A_n_wires9 n.wires := (rA_n_wires9.below HXn_17.out (fun b hd => hd.2)).mono (fun b hd => .inr (hd))
 have hM0 := Marked.refl (fun b => Zab w7 w8 b ∨ Zab (w8.alloc (.cells #[.slice A_c_signals8 (c.signals).length (c.signals).length, .slice A_c_codes8 (c.codes).length (c.codes).length, .slice A_c_arcs8 (c.arcs).length (c.arcs).length] 39)) w9 b) w17
 go_wp2_with fail
 refine (markStateGraph_arg w17 (fun b => Zab w7 w8 b ∨ Zab (w8.alloc (.cells #[.slice A_c_signals8 (c.signals).length (c.signals).length, .slice A_c_codes8 (c.codes).length (c.codes).length, .slice A_c_arcs8 (c.arcs).length (c.arcs).length] 39)) w9 b) hD hnf c A_c_signals8 (c.signals).length A_c_codes8 (c.codes).length A_c_arcs8 (c.arcs).length (Nat.le_refl _) (by omega) mrA_c_signals8 (Nat.le_refl _) (by omega) mrA_c_codes8 (Nat.le_refl _) (by omega) mrA_c_arcs8 1 _ hM0 (by omega) (by omega)).mono ?_
 rintro e w18 ⟨n18, rfl, hp18, hq18, hM18, hT18⟩
 have hz18 := hT18.size
 have HW18 : Hid (Below w.heap.size w w18) := Zl (HW17.out.trans (hT18.below (fun q hd => by rcases hd with hd | hd <;> (have h1 := hd.1; (try rw [World.size_alloc] at h1); have h2 := hd.2; omega)) HW17.out.size))
 have l18_0 : w.heap.size < w18.heap.size := by omega
 have t18_0_0 : w18.cell? ⟨w.heap.size, 0, none⟩ = some (.slice A_c_signals (c.signals).length c_c_signals) := (hT18.cell (by omega) (fun hd => by rcases hd with hd | hd <;> (have h1 := hd.1; (try rw [World.size_alloc] at h1); have h2 := hd.2; omega))).trans t17_0_0
 clear t17_0_0
 have t18_0_1 : w18.cell? ⟨w.heap.size, 1, none⟩ = some (.slice A_c_codes (c.codes).length c_c_codes) := (hT18.cell (by omega) (fun hd => by rcases hd with hd | hd <;> (have h1 := hd.1; (try rw [World.size_alloc] at h1); have h2 := hd.2; omega))).trans t17_0_1
 clear t17_0_1
 have t18_0_2 : w18.cell? ⟨w.heap.size, 2, none⟩ = some (.slice A_c_arcs (c.arcs).length c_c_arcs) := (hT18.cell (by omega) (fun hd => by rcases hd with hd | hd <;> (have h1 := hd.1; (try rw [World.size_alloc] at h1); have h2 := hd.2; omega))).trans t17_0_2
 clear t17_0_2
 have l18_1 : w.heap.size + 1 < w18.heap.size := by omega
 have t18_1_0 : w18.cell? ⟨w.heap.size + 1, 0, none⟩ = some (.slice A_n_signals (n.signals).length c_n_signals) := (hT18.cell (by omega) (fun hd => by rcases hd with hd | hd <;> (have h1 := hd.1; (try rw [World.size_alloc] at h1); have h2 := hd.2; omega))).trans t17_1_0
 clear t17_1_0
 have t18_1_1 : w18.cell? ⟨w.heap.size + 1, 1, none⟩ = some (.slice A_n_wires (n.wires).length c_n_wires) := (hT18.cell (by omega) (fun hd => by rcases hd with hd | hd <;> (have h1 := hd.1; (try rw [World.size_alloc] at h1); have h2 := hd.2; omega))).trans t17_1_1
 clear t17_1_1
 have l18_2 : w.heap.size + 1 + 1 < w18.heap.size := by omega
 have t18_2_0 : w18.cell? ⟨w.heap.size + 1 + 1, 0, none⟩ = some (.int .i64 b.state) := (hT18.cell (by omega) (fun hd => by rcases hd with hd | hd <;> (have h1 := hd.1; (try rw [World.size_alloc] at h1); have h2 := hd.2; omega))).trans t17_2_0
 clear t17_2_0
 have t18_2_1 : w18.cell? ⟨w.heap.size + 1 + 1, 1, none⟩ = some (.string ⟨(b.values).toArray⟩) := (hT18.cell (by omega) (fun hd => by rcases hd with hd | hd <;> (have h1 := hd.1; (try rw [World.size_alloc] at h1); have h2 := hd.2; omega))).trans t17_2_1
 clear t17_2_1
 have l18_3 : w8.heap.size < w18.heap.size := by omega
 have t18_3_0 : w18.cell? ⟨w8.heap.size, 0, none⟩ = some (.slice A_c_signals8 (c.signals).length (c.signals).length) := (hT18.cell (by omega) (fun hd => by rcases hd with hd | hd <;> (have h1 := hd.1; (try rw [World.size_alloc] at h1); have h2 := hd.2; omega))).trans t17_3_0
 clear t17_3_0
 have t18_3_1 : w18.cell? ⟨w8.heap.size, 1, none⟩ = some (.slice A_c_codes8 (c.codes).length (c.codes).length) := (hT18.cell (by omega) (fun hd => by rcases hd with hd | hd <;> (have h1 := hd.1; (try rw [World.size_alloc] at h1); have h2 := hd.2; omega))).trans t17_3_1
 clear t17_3_1
 have t18_3_2 : w18.cell? ⟨w8.heap.size, 2, none⟩ = some (.slice A_c_arcs8 (c.arcs).length (c.arcs).length) := (hT18.cell (by omega) (fun hd => by rcases hd with hd | hd <;> (have h1 := hd.1; (try rw [World.size_alloc] at h1); have h2 := hd.2; omega))).trans t17_3_2
 clear t17_3_2
 have l18_4 : w9.heap.size < w18.heap.size := by omega
 have t18_4_0 : w18.cell? ⟨w9.heap.size, 0, none⟩ = some (.slice A_n_signals9 (n.signals).length (n.signals).length) := (hT18.cell (by omega) (fun hd => by rcases hd with hd | hd <;> (have h1 := hd.1; (try rw [World.size_alloc] at h1); have h2 := hd.2; omega))).trans t17_4_0
 clear t17_4_0
 have t18_4_1 : w18.cell? ⟨w9.heap.size, 1, none⟩ = some (.slice A_n_wires9 (n.wires).length (n.wires).length) := (hT18.cell (by omega) (fun hd => by rcases hd with hd | hd <;> (have h1 := hd.1; (try rw [World.size_alloc] at h1); have h2 := hd.2; omega))).trans t17_4_1
 clear t17_4_1
 have ho7_0_18 := Touch.own hT18 ho7_0_17 (fun q hq hd => by rcases hd with hd | hd <;> (have h1 := hd.1; (try rw [World.size_alloc] at h1); have h2 := hd.2; have h3 := hlt7_0 q hq; omega))
 clear ho7_0_17
 have ho12_0_18 := Touch.own hT18 ho12_0_17 (fun q hq hd => by rcases hd with hd | hd <;> (have h1 := hd.1; (try rw [World.size_alloc] at h1); have h2 := hd.2; have h3 := hlt12_0 q hq; omega))
 clear ho12_0_17
 go_wp2_with fail
 refine (markNetlist_arg w17 (fun b => Zab w7 w8 b ∨ Zab (w8.alloc (.cells #[.slice A_c_signals8 (c.signals).length (c.signals).length, .slice A_c_codes8 (c.codes).length (c.codes).length, .slice A_c_arcs8 (c.arcs).length (c.arcs).length] 39)) w9 b) hD hnf n A_n_signals9 (n.signals).length A_n_wires9 (n.wires).length (Nat.le_refl _) (by omega) mrA_n_signals9 (Nat.le_refl _) (by omega) mrA_n_wires9 n18 _ hM18 (by omega) (by omega)).mono ?_
 rintro e w19 ⟨n19, rfl, hp19, hq19, hM19, hT19⟩
 have hz19 := hT19.size
 have HW19 : Hid (Below w.heap.size w w19) := Zl (HW18.out.trans (hT19.below (fun q hd => by rcases hd with hd | hd <;> (have h1 := hd.1; (try rw [World.size_alloc] at h1); have h2 := hd.2; omega)) HW18.out.size))
 have l19_0 : w.heap.size < w19.heap.size := by omega
 have t19_0_0 : w19.cell? ⟨w.heap.size, 0, none⟩ = some (.slice A_c_signals (c.signals).length c_c_signals) := (hT19.cell (by omega) (fun hd => by rcases hd with hd | hd <;> (have h1 := hd.1; (try rw [World.size_alloc] at h1); have h2 := hd.2; omega))).trans t18_0_0
 clear t18_0_0
 have t19_0_1 : w19.cell? ⟨w.heap.size, 1, none⟩ = some (.slice A_c_codes (c.codes).length c_c_codes) := (hT19.cell (by omega) (fun hd => by rcases hd with hd | hd <;> (have h1 := hd.1; (try rw [World.size_alloc] at h1); have h2 := hd.2; omega))).trans t18_0_1
 clear t18_0_1
 have t19_0_2 : w19.cell? ⟨w.heap.size, 2, none⟩ = some (.slice A_c_arcs (c.arcs).length c_c_arcs) := (hT19.cell (by omega) (fun hd => by rcases hd with hd | hd <;> (have h1 := hd.1; (try rw [World.size_alloc] at h1); have h2 := hd.2; omega))).trans t18_0_2
 clear t18_0_2
 have l19_1 : w.heap.size + 1 < w19.heap.size := by omega
 have t19_1_0 : w19.cell? ⟨w.heap.size + 1, 0, none⟩ = some (.slice A_n_signals (n.signals).length c_n_signals) := (hT19.cell (by omega) (fun hd => by rcases hd with hd | hd <;> (have h1 := hd.1; (try rw [World.size_alloc] at h1); have h2 := hd.2; omega))).trans t18_1_0
 clear t18_1_0
 have t19_1_1 : w19.cell? ⟨w.heap.size + 1, 1, none⟩ = some (.slice A_n_wires (n.wires).length c_n_wires) := (hT19.cell (by omega) (fun hd => by rcases hd with hd | hd <;> (have h1 := hd.1; (try rw [World.size_alloc] at h1); have h2 := hd.2; omega))).trans t18_1_1
 clear t18_1_1
 have l19_2 : w.heap.size + 1 + 1 < w19.heap.size := by omega
 have t19_2_0 : w19.cell? ⟨w.heap.size + 1 + 1, 0, none⟩ = some (.int .i64 b.state) := (hT19.cell (by omega) (fun hd => by rcases hd with hd | hd <;> (have h1 := hd.1; (try rw [World.size_alloc] at h1); have h2 := hd.2; omega))).trans t18_2_0
 clear t18_2_0
 have t19_2_1 : w19.cell? ⟨w.heap.size + 1 + 1, 1, none⟩ = some (.string ⟨(b.values).toArray⟩) := (hT19.cell (by omega) (fun hd => by rcases hd with hd | hd <;> (have h1 := hd.1; (try rw [World.size_alloc] at h1); have h2 := hd.2; omega))).trans t18_2_1
 clear t18_2_1
 have l19_3 : w8.heap.size < w19.heap.size := by omega
 have t19_3_0 : w19.cell? ⟨w8.heap.size, 0, none⟩ = some (.slice A_c_signals8 (c.signals).length (c.signals).length) := (hT19.cell (by omega) (fun hd => by rcases hd with hd | hd <;> (have h1 := hd.1; (try rw [World.size_alloc] at h1); have h2 := hd.2; omega))).trans t18_3_0
 clear t18_3_0
 have t19_3_1 : w19.cell? ⟨w8.heap.size, 1, none⟩ = some (.slice A_c_codes8 (c.codes).length (c.codes).length) := (hT19.cell (by omega) (fun hd => by rcases hd with hd | hd <;> (have h1 := hd.1; (try rw [World.size_alloc] at h1); have h2 := hd.2; omega))).trans t18_3_1
 clear t18_3_1
 have t19_3_2 : w19.cell? ⟨w8.heap.size, 2, none⟩ = some (.slice A_c_arcs8 (c.arcs).length (c.arcs).length) := (hT19.cell (by omega) (fun hd => by rcases hd with hd | hd <;> (have h1 := hd.1; (try rw [World.size_alloc] at h1); have h2 := hd.2; omega))).trans t18_3_2
 clear t18_3_2
 have l19_4 : w9.heap.size < w19.heap.size := by omega
 have t19_4_0 : w19.cell? ⟨w9.heap.size, 0, none⟩ = some (.slice A_n_signals9 (n.signals).length (n.signals).length) := (hT19.cell (by omega) (fun hd => by rcases hd with hd | hd <;> (have h1 := hd.1; (try rw [World.size_alloc] at h1); have h2 := hd.2; omega))).trans t18_4_0
 clear t18_4_0
 have t19_4_1 : w19.cell? ⟨w9.heap.size, 1, none⟩ = some (.slice A_n_wires9 (n.wires).length (n.wires).length) := (hT19.cell (by omega) (fun hd => by rcases hd with hd | hd <;> (have h1 := hd.1; (try rw [World.size_alloc] at h1); have h2 := hd.2; omega))).trans t18_4_1
 clear t18_4_1
 have ho7_0_19 := Touch.own hT19 ho7_0_18 (fun q hq hd => by rcases hd with hd | hd <;> (have h1 := hd.1; (try rw [World.size_alloc] at h1); have h2 := hd.2; have h3 := hlt7_0 q hq; omega))
 clear ho7_0_18
 have ho12_0_19 := Touch.own hT19 ho12_0_18 (fun q hq hd => by rcases hd with hd | hd <;> (have h1 := hd.1; (try rw [World.size_alloc] at h1); have h2 := hd.2; have h3 := hlt12_0 q hq; omega))
 clear ho12_0_18
 clear HXc_17
 clear HXn_17
 have qn : decide (n19 < 0) = false := by simp; omega
 go_wp2_with fail
 refine (eqIntS A12_0 A7_0 c12_0 c7_0 R.1 _ (by omega) (RA.to ho12_0_19.ra (Below.refl _ _)) (RA.to ho7_0_19.ra (Below.refl _ _))).mono ?_
 rintro e w20 ⟨rfl, hb20⟩
 have hs20 : Below w19.heap.size w19 w20 := hb20
 have HW20 : Hid (Below w.heap.size w w20) := Zl (HW19.out.trans (hs20.mono HW19.out.size))
 obtain ⟨hc20, _⟩ := Zan hb20
 have hz20 := hb20.size
 repeat rw [World.size_alloc] at hz20
 have l20_0 : w.heap.size < w20.heap.size := by omega
 have t20_0_0 : w20.cell? ⟨w.heap.size, 0, none⟩ = some (.slice A_c_signals (c.signals).length c_c_signals) := (hc20 _ _ (by omega)).trans t19_0_0
 have t20_0_1 : w20.cell? ⟨w.heap.size, 1, none⟩ = some (.slice A_c_codes (c.codes).length c_c_codes) := (hc20 _ _ (by omega)).trans t19_0_1
 have t20_0_2 : w20.cell? ⟨w.heap.size, 2, none⟩ = some (.slice A_c_arcs (c.arcs).length c_c_arcs) := (hc20 _ _ (by omega)).trans t19_0_2
 have l20_1 : w.heap.size + 1 < w20.heap.size := by omega
 have t20_1_0 : w20.cell? ⟨w.heap.size + 1, 0, none⟩ = some (.slice A_n_signals (n.signals).length c_n_signals) := (hc20 _ _ (by omega)).trans t19_1_0
 have t20_1_1 : w20.cell? ⟨w.heap.size + 1, 1, none⟩ = some (.slice A_n_wires (n.wires).length c_n_wires) := (hc20 _ _ (by omega)).trans t19_1_1
 have l20_2 : w.heap.size + 1 + 1 < w20.heap.size := by omega
 have t20_2_0 : w20.cell? ⟨w.heap.size + 1 + 1, 0, none⟩ = some (.int .i64 b.state) := (hc20 _ _ (by omega)).trans t19_2_0
 have t20_2_1 : w20.cell? ⟨w.heap.size + 1 + 1, 1, none⟩ = some (.string ⟨(b.values).toArray⟩) := (hc20 _ _ (by omega)).trans t19_2_1
 have l20_3 : w8.heap.size < w20.heap.size := by omega
 have t20_3_0 : w20.cell? ⟨w8.heap.size, 0, none⟩ = some (.slice A_c_signals8 (c.signals).length (c.signals).length) := (hc20 _ _ (by omega)).trans t19_3_0
 have t20_3_1 : w20.cell? ⟨w8.heap.size, 1, none⟩ = some (.slice A_c_codes8 (c.codes).length (c.codes).length) := (hc20 _ _ (by omega)).trans t19_3_1
 have t20_3_2 : w20.cell? ⟨w8.heap.size, 2, none⟩ = some (.slice A_c_arcs8 (c.arcs).length (c.arcs).length) := (hc20 _ _ (by omega)).trans t19_3_2
 have l20_4 : w9.heap.size < w20.heap.size := by omega
 have t20_4_0 : w20.cell? ⟨w9.heap.size, 0, none⟩ = some (.slice A_n_signals9 (n.signals).length (n.signals).length) := (hc20 _ _ (by omega)).trans t19_4_0
 have t20_4_1 : w20.cell? ⟨w9.heap.size, 1, none⟩ = some (.slice A_n_wires9 (n.wires).length (n.wires).length) := (hc20 _ _ (by omega)).trans t19_4_1
 clear t19_0_0
 clear t19_0_1
 clear t19_0_2
 clear t19_1_0
 clear t19_1_1
 clear t19_2_0
 clear t19_2_1
 clear t19_3_0
 clear t19_3_1
 clear t19_3_2
 clear t19_4_0
 clear t19_4_1
 have ho7_0_20 := Own.to ho7_0_19 hs20
 clear ho7_0_19
 have ho12_0_20 := Own.to ho12_0_19 hs20
 clear ho12_0_19
 clear hc20
 go_wp2_with fail
 refine (markIntS_own _ _ A12_0 c12_0 R.1 1 _ ho12_0_20 (by omega) (by omega)).mono ?_
 rintro e w21 ⟨rfl, hr21, hT21⟩
 have hz21 := hT21.size
 have HW21 : Hid (Below w.heap.size w w21) := Zl (HW20.out.trans (hT21.below (fun q hd => by have h3 := hlt12_0 q hd; omega) HW20.out.size))
 have l21_0 : w.heap.size < w21.heap.size := by omega
 have t21_0_0 : w21.cell? ⟨w.heap.size, 0, none⟩ = some (.slice A_c_signals (c.signals).length c_c_signals) := (hT21.cell (by omega) (fun hd => by have h3 := hlt12_0 _ hd; omega)).trans t20_0_0
 clear t20_0_0
 have t21_0_1 : w21.cell? ⟨w.heap.size, 1, none⟩ = some (.slice A_c_codes (c.codes).length c_c_codes) := (hT21.cell (by omega) (fun hd => by have h3 := hlt12_0 _ hd; omega)).trans t20_0_1
 clear t20_0_1
 have t21_0_2 : w21.cell? ⟨w.heap.size, 2, none⟩ = some (.slice A_c_arcs (c.arcs).length c_c_arcs) := (hT21.cell (by omega) (fun hd => by have h3 := hlt12_0 _ hd; omega)).trans t20_0_2
 clear t20_0_2
 have l21_1 : w.heap.size + 1 < w21.heap.size := by omega
 have t21_1_0 : w21.cell? ⟨w.heap.size + 1, 0, none⟩ = some (.slice A_n_signals (n.signals).length c_n_signals) := (hT21.cell (by omega) (fun hd => by have h3 := hlt12_0 _ hd; omega)).trans t20_1_0
 clear t20_1_0
 have t21_1_1 : w21.cell? ⟨w.heap.size + 1, 1, none⟩ = some (.slice A_n_wires (n.wires).length c_n_wires) := (hT21.cell (by omega) (fun hd => by have h3 := hlt12_0 _ hd; omega)).trans t20_1_1
 clear t20_1_1
 have l21_2 : w.heap.size + 1 + 1 < w21.heap.size := by omega
 have t21_2_0 : w21.cell? ⟨w.heap.size + 1 + 1, 0, none⟩ = some (.int .i64 b.state) := (hT21.cell (by omega) (fun hd => by have h3 := hlt12_0 _ hd; omega)).trans t20_2_0
 clear t20_2_0
 have t21_2_1 : w21.cell? ⟨w.heap.size + 1 + 1, 1, none⟩ = some (.string ⟨(b.values).toArray⟩) := (hT21.cell (by omega) (fun hd => by have h3 := hlt12_0 _ hd; omega)).trans t20_2_1
 clear t20_2_1
 have l21_3 : w8.heap.size < w21.heap.size := by omega
 have t21_3_0 : w21.cell? ⟨w8.heap.size, 0, none⟩ = some (.slice A_c_signals8 (c.signals).length (c.signals).length) := (hT21.cell (by omega) (fun hd => by have h3 := hlt12_0 _ hd; omega)).trans t20_3_0
 clear t20_3_0
 have t21_3_1 : w21.cell? ⟨w8.heap.size, 1, none⟩ = some (.slice A_c_codes8 (c.codes).length (c.codes).length) := (hT21.cell (by omega) (fun hd => by have h3 := hlt12_0 _ hd; omega)).trans t20_3_1
 clear t20_3_1
 have t21_3_2 : w21.cell? ⟨w8.heap.size, 2, none⟩ = some (.slice A_c_arcs8 (c.arcs).length (c.arcs).length) := (hT21.cell (by omega) (fun hd => by have h3 := hlt12_0 _ hd; omega)).trans t20_3_2
 clear t20_3_2
 have l21_4 : w9.heap.size < w21.heap.size := by omega
 have t21_4_0 : w21.cell? ⟨w9.heap.size, 0, none⟩ = some (.slice A_n_signals9 (n.signals).length (n.signals).length) := (hT21.cell (by omega) (fun hd => by have h3 := hlt12_0 _ hd; omega)).trans t20_4_0
 clear t20_4_0
 have t21_4_1 : w21.cell? ⟨w9.heap.size, 1, none⟩ = some (.slice A_n_wires9 (n.wires).length (n.wires).length) := (hT21.cell (by omega) (fun hd => by have h3 := hlt12_0 _ hd; omega)).trans t20_4_1
 clear t20_4_1
 have ho7_0_21 := Touch.own hT21 ho7_0_20 (fun q hq hd => by have h3 := hlt7_0 q hq; have h4 := hlt12_0 q hd; omega)
 clear ho7_0_20
 have aG21 : RA Zr w21 A12_0 (Zen mkInt 1 1 R.1) := hr21.mono (fun b hd => by have h3 := hlt12_0 b hd; omega)
 have qh : decide (1 + 1 * (R.1.length : Int) < 0) = false := by simp; omega
 go_wp2_with fail
 refine (heldIntS A12_0 c12_0 R.1 1 _ (by omega) (RA.to aG21 (Below.refl _ _)) (by omega) (by omega)).mono ?_
 rintro e w22 ⟨rfl, hb22⟩
 have hs22 : Below w21.heap.size w21 w22 := hb22
 have HW22 : Hid (Below w.heap.size w w22) := Zl (HW21.out.trans (hs22.mono HW21.out.size))
 obtain ⟨hc22, _⟩ := Zan hb22
 have hz22 := hb22.size
 repeat rw [World.size_alloc] at hz22
 have l22_0 : w.heap.size < w22.heap.size := by omega
 have t22_0_0 : w22.cell? ⟨w.heap.size, 0, none⟩ = some (.slice A_c_signals (c.signals).length c_c_signals) := (hc22 _ _ (by omega)).trans t21_0_0
 have t22_0_1 : w22.cell? ⟨w.heap.size, 1, none⟩ = some (.slice A_c_codes (c.codes).length c_c_codes) := (hc22 _ _ (by omega)).trans t21_0_1
 have t22_0_2 : w22.cell? ⟨w.heap.size, 2, none⟩ = some (.slice A_c_arcs (c.arcs).length c_c_arcs) := (hc22 _ _ (by omega)).trans t21_0_2
 have l22_1 : w.heap.size + 1 < w22.heap.size := by omega
 have t22_1_0 : w22.cell? ⟨w.heap.size + 1, 0, none⟩ = some (.slice A_n_signals (n.signals).length c_n_signals) := (hc22 _ _ (by omega)).trans t21_1_0
 have t22_1_1 : w22.cell? ⟨w.heap.size + 1, 1, none⟩ = some (.slice A_n_wires (n.wires).length c_n_wires) := (hc22 _ _ (by omega)).trans t21_1_1
 have l22_2 : w.heap.size + 1 + 1 < w22.heap.size := by omega
 have t22_2_0 : w22.cell? ⟨w.heap.size + 1 + 1, 0, none⟩ = some (.int .i64 b.state) := (hc22 _ _ (by omega)).trans t21_2_0
 have t22_2_1 : w22.cell? ⟨w.heap.size + 1 + 1, 1, none⟩ = some (.string ⟨(b.values).toArray⟩) := (hc22 _ _ (by omega)).trans t21_2_1
 have l22_3 : w8.heap.size < w22.heap.size := by omega
 have t22_3_0 : w22.cell? ⟨w8.heap.size, 0, none⟩ = some (.slice A_c_signals8 (c.signals).length (c.signals).length) := (hc22 _ _ (by omega)).trans t21_3_0
 have t22_3_1 : w22.cell? ⟨w8.heap.size, 1, none⟩ = some (.slice A_c_codes8 (c.codes).length (c.codes).length) := (hc22 _ _ (by omega)).trans t21_3_1
 have t22_3_2 : w22.cell? ⟨w8.heap.size, 2, none⟩ = some (.slice A_c_arcs8 (c.arcs).length (c.arcs).length) := (hc22 _ _ (by omega)).trans t21_3_2
 have l22_4 : w9.heap.size < w22.heap.size := by omega
 have t22_4_0 : w22.cell? ⟨w9.heap.size, 0, none⟩ = some (.slice A_n_signals9 (n.signals).length (n.signals).length) := (hc22 _ _ (by omega)).trans t21_4_0
 have t22_4_1 : w22.cell? ⟨w9.heap.size, 1, none⟩ = some (.slice A_n_wires9 (n.wires).length (n.wires).length) := (hc22 _ _ (by omega)).trans t21_4_1
 clear t21_0_0
 clear t21_0_1
 clear t21_0_2
 clear t21_1_0
 clear t21_1_1
 clear t21_2_0
 clear t21_2_1
 clear t21_3_0
 clear t21_3_1
 clear t21_3_2
 clear t21_4_0
 clear t21_4_1
 have aG21_22 := RA.to aG21 hs22
 clear aG21
 have ho7_0_22 := Own.to ho7_0_21 hs22
 clear ho7_0_21
 clear hc22
 go_wp2_with fail
 go_region_held3 (fun W => W.cell? ⟨w.heap.size, 0, none⟩ = some (.slice A_c_signals (c.signals).length c_c_signals) ∧ W.cell? ⟨w.heap.size, 1, none⟩ = some (.slice A_c_codes (c.codes).length c_c_codes) ∧ W.cell? ⟨w.heap.size, 2, none⟩ = some (.slice A_c_arcs (c.arcs).length c_c_arcs) ∧ W.cell? ⟨w.heap.size + 1, 0, none⟩ = some (.slice A_n_signals (n.signals).length c_n_signals) ∧ W.cell? ⟨w.heap.size + 1, 1, none⟩ = some (.slice A_n_wires (n.wires).length c_n_wires) ∧ W.cell? ⟨w.heap.size + 1 + 1, 0, none⟩ = some (.int .i64 b.state) ∧ W.cell? ⟨w.heap.size + 1 + 1, 1, none⟩ = some (.string ⟨(b.values).toArray⟩)) (first | exact ⟨t22_0_0, t22_0_1, t22_0_2, t22_1_0, t22_1_1, t22_2_0, t22_2_1⟩ | exact ⟨t23_0_0, t23_0_1, t23_0_2, t23_1_0, t23_1_1, t23_2_0, t23_2_1⟩ | exact ⟨t24_0_0, t24_0_1, t24_0_2, t24_1_0, t24_1_1, t24_2_0, t24_2_1⟩ | exact ⟨t25_0_0, t25_0_1, t25_0_2, t25_1_0, t25_1_1, t25_2_0, t25_2_1⟩ | exact ⟨t26_0_0, t26_0_1, t26_0_2, t26_1_0, t26_1_1, t26_2_0, t26_2_1⟩) (first
  | (
   go_at_call 15
   refine (toStateGraph c A_c_signals c_c_signals A_c_codes c_c_codes A_c_arcs c_c_arcs _ g0 g1 (RA.to g2 HW22.out.drew) g3 g4 (RA.to g5 HW22.out.drew) g6 g7 (RA.to g8 HW22.out.drew) qq_c).mono ?_
   rintro e w23 ⟨A_c_signals23, A_c_codes23, A_c_arcs23, rfl, rA_c_signals23, rA_c_codes23, rA_c_arcs23, hb23, fz23⟩
   have hs23 : Below w22.heap.size w22 w23 := (Below.drew (Below.refl _ _)).trans hb23
   have HW23 : Hid (Below w.heap.size w w23) := Zl (HW22.out.trans (hs23.mono HW22.out.size))
   obtain ⟨hc23, _⟩ := Zan hs23
   have hz23 := hs23.size
   repeat rw [World.size_alloc] at hz23
   have l23_0 : w.heap.size < w23.heap.size := by omega
   have t23_0_0 : w23.cell? ⟨w.heap.size, 0, none⟩ = some (.slice A_c_signals (c.signals).length c_c_signals) := (hc23 _ _ (by omega)).trans t22_0_0
   have t23_0_1 : w23.cell? ⟨w.heap.size, 1, none⟩ = some (.slice A_c_codes (c.codes).length c_c_codes) := (hc23 _ _ (by omega)).trans t22_0_1
   have t23_0_2 : w23.cell? ⟨w.heap.size, 2, none⟩ = some (.slice A_c_arcs (c.arcs).length c_c_arcs) := (hc23 _ _ (by omega)).trans t22_0_2
   have l23_1 : w.heap.size + 1 < w23.heap.size := by omega
   have t23_1_0 : w23.cell? ⟨w.heap.size + 1, 0, none⟩ = some (.slice A_n_signals (n.signals).length c_n_signals) := (hc23 _ _ (by omega)).trans t22_1_0
   have t23_1_1 : w23.cell? ⟨w.heap.size + 1, 1, none⟩ = some (.slice A_n_wires (n.wires).length c_n_wires) := (hc23 _ _ (by omega)).trans t22_1_1
   have l23_2 : w.heap.size + 1 + 1 < w23.heap.size := by omega
   have t23_2_0 : w23.cell? ⟨w.heap.size + 1 + 1, 0, none⟩ = some (.int .i64 b.state) := (hc23 _ _ (by omega)).trans t22_2_0
   have t23_2_1 : w23.cell? ⟨w.heap.size + 1 + 1, 1, none⟩ = some (.string ⟨(b.values).toArray⟩) := (hc23 _ _ (by omega)).trans t22_2_1
   have l23_3 : w8.heap.size < w23.heap.size := by omega
   have t23_3_0 : w23.cell? ⟨w8.heap.size, 0, none⟩ = some (.slice A_c_signals8 (c.signals).length (c.signals).length) := (hc23 _ _ (by omega)).trans t22_3_0
   have t23_3_1 : w23.cell? ⟨w8.heap.size, 1, none⟩ = some (.slice A_c_codes8 (c.codes).length (c.codes).length) := (hc23 _ _ (by omega)).trans t22_3_1
   have t23_3_2 : w23.cell? ⟨w8.heap.size, 2, none⟩ = some (.slice A_c_arcs8 (c.arcs).length (c.arcs).length) := (hc23 _ _ (by omega)).trans t22_3_2
   have l23_4 : w9.heap.size < w23.heap.size := by omega
   have t23_4_0 : w23.cell? ⟨w9.heap.size, 0, none⟩ = some (.slice A_n_signals9 (n.signals).length (n.signals).length) := (hc23 _ _ (by omega)).trans t22_4_0
   have t23_4_1 : w23.cell? ⟨w9.heap.size, 1, none⟩ = some (.slice A_n_wires9 (n.wires).length (n.wires).length) := (hc23 _ _ (by omega)).trans t22_4_1
   clear t22_0_0
   clear t22_0_1
   clear t22_0_2
   clear t22_1_0
   clear t22_1_1
   clear t22_2_0
   clear t22_2_1
   clear t22_3_0
   clear t22_3_1
   clear t22_3_2
   clear t22_4_0
   clear t22_4_1
   have aG21_23 := RA.to aG21_22 hs23
   clear aG21_22
   have ho7_0_23 := Own.to ho7_0_22 hs23
   clear ho7_0_22
   clear hc23
   have aA_c_signals23 : RA Z6 w23 A_c_signals23 c.signals := (rA_c_signals23).mono fun b hb => hb.2
   have aA_c_codes23 : RA Zah w23 A_c_codes23 c.codes := (rA_c_codes23).mono fun b hb => hb.2
   have aA_c_arcs23 : RA ZcH w23 A_c_arcs23 c.arcs := (rA_c_arcs23).mono fun b hb => hb.2
   )
  | (
   go_at_call 16
   refine (toNetlist n A_n_signals c_n_signals A_n_wires c_n_wires _ g9 g10 (RA.to g11 HW23.out) g12 g13 (RA.to g14 HW23.out) qq_n).mono ?_
   rintro e w24 ⟨A_n_signals24, A_n_wires24, rfl, rA_n_signals24, rA_n_wires24, hb24, fz24⟩
   have hs24 : Below w23.heap.size w23 w24 := hb24
   have HW24 : Hid (Below w.heap.size w w24) := Zl (HW23.out.trans (hs24.mono HW23.out.size))
   obtain ⟨hc24, _⟩ := Zan hb24
   have hz24 := hb24.size
   repeat rw [World.size_alloc] at hz24
   have l24_0 : w.heap.size < w24.heap.size := by omega
   have t24_0_0 : w24.cell? ⟨w.heap.size, 0, none⟩ = some (.slice A_c_signals (c.signals).length c_c_signals) := (hc24 _ _ (by omega)).trans t23_0_0
   have t24_0_1 : w24.cell? ⟨w.heap.size, 1, none⟩ = some (.slice A_c_codes (c.codes).length c_c_codes) := (hc24 _ _ (by omega)).trans t23_0_1
   have t24_0_2 : w24.cell? ⟨w.heap.size, 2, none⟩ = some (.slice A_c_arcs (c.arcs).length c_c_arcs) := (hc24 _ _ (by omega)).trans t23_0_2
   have l24_1 : w.heap.size + 1 < w24.heap.size := by omega
   have t24_1_0 : w24.cell? ⟨w.heap.size + 1, 0, none⟩ = some (.slice A_n_signals (n.signals).length c_n_signals) := (hc24 _ _ (by omega)).trans t23_1_0
   have t24_1_1 : w24.cell? ⟨w.heap.size + 1, 1, none⟩ = some (.slice A_n_wires (n.wires).length c_n_wires) := (hc24 _ _ (by omega)).trans t23_1_1
   have l24_2 : w.heap.size + 1 + 1 < w24.heap.size := by omega
   have t24_2_0 : w24.cell? ⟨w.heap.size + 1 + 1, 0, none⟩ = some (.int .i64 b.state) := (hc24 _ _ (by omega)).trans t23_2_0
   have t24_2_1 : w24.cell? ⟨w.heap.size + 1 + 1, 1, none⟩ = some (.string ⟨(b.values).toArray⟩) := (hc24 _ _ (by omega)).trans t23_2_1
   have l24_3 : w8.heap.size < w24.heap.size := by omega
   have t24_3_0 : w24.cell? ⟨w8.heap.size, 0, none⟩ = some (.slice A_c_signals8 (c.signals).length (c.signals).length) := (hc24 _ _ (by omega)).trans t23_3_0
   have t24_3_1 : w24.cell? ⟨w8.heap.size, 1, none⟩ = some (.slice A_c_codes8 (c.codes).length (c.codes).length) := (hc24 _ _ (by omega)).trans t23_3_1
   have t24_3_2 : w24.cell? ⟨w8.heap.size, 2, none⟩ = some (.slice A_c_arcs8 (c.arcs).length (c.arcs).length) := (hc24 _ _ (by omega)).trans t23_3_2
   have l24_4 : w9.heap.size < w24.heap.size := by omega
   have t24_4_0 : w24.cell? ⟨w9.heap.size, 0, none⟩ = some (.slice A_n_signals9 (n.signals).length (n.signals).length) := (hc24 _ _ (by omega)).trans t23_4_0
   have t24_4_1 : w24.cell? ⟨w9.heap.size, 1, none⟩ = some (.slice A_n_wires9 (n.wires).length (n.wires).length) := (hc24 _ _ (by omega)).trans t23_4_1
   clear t23_0_0
   clear t23_0_1
   clear t23_0_2
   clear t23_1_0
   clear t23_1_1
   clear t23_2_0
   clear t23_2_1
   clear t23_3_0
   clear t23_3_1
   clear t23_3_2
   clear t23_4_0
   clear t23_4_1
   have aG21_24 := RA.to aG21_23 hs24
   clear aG21_23
   have aA_c_signals23_24 := RA.to aA_c_signals23 hs24
   clear aA_c_signals23
   have aA_c_codes23_24 := RA.to aA_c_codes23 hs24
   clear aA_c_codes23
   have aA_c_arcs23_24 := RA.to aA_c_arcs23 hs24
   clear aA_c_arcs23
   have ho7_0_24 := Own.to ho7_0_23 hs24
   clear ho7_0_23
   clear hc24
   have aA_n_signals24 : RA Z6 w24 A_n_signals24 n.signals := (rA_n_signals24).mono fun b hb => hb.2
   have aA_n_wires24 : RA Zao w24 A_n_wires24 n.wires := (rA_n_wires24).mono fun b hb => hb.2
   )
  | (
   go_at_call 23
   refine (toProductState b  _ g16 qq_b).mono ?_
   rintro e w25 ⟨rfl, hb25, fz25⟩
   have hs25 : Below w24.heap.size w24 w25 := hb25
   have HW25 : Hid (Below w.heap.size w w25) := Zl (HW24.out.trans (hs25.mono HW24.out.size))
   obtain ⟨hc25, _⟩ := Zan hb25
   have hz25 := hb25.size
   repeat rw [World.size_alloc] at hz25
   have l25_0 : w.heap.size < w25.heap.size := by omega
   have t25_0_0 : w25.cell? ⟨w.heap.size, 0, none⟩ = some (.slice A_c_signals (c.signals).length c_c_signals) := (hc25 _ _ (by omega)).trans t24_0_0
   have t25_0_1 : w25.cell? ⟨w.heap.size, 1, none⟩ = some (.slice A_c_codes (c.codes).length c_c_codes) := (hc25 _ _ (by omega)).trans t24_0_1
   have t25_0_2 : w25.cell? ⟨w.heap.size, 2, none⟩ = some (.slice A_c_arcs (c.arcs).length c_c_arcs) := (hc25 _ _ (by omega)).trans t24_0_2
   have l25_1 : w.heap.size + 1 < w25.heap.size := by omega
   have t25_1_0 : w25.cell? ⟨w.heap.size + 1, 0, none⟩ = some (.slice A_n_signals (n.signals).length c_n_signals) := (hc25 _ _ (by omega)).trans t24_1_0
   have t25_1_1 : w25.cell? ⟨w.heap.size + 1, 1, none⟩ = some (.slice A_n_wires (n.wires).length c_n_wires) := (hc25 _ _ (by omega)).trans t24_1_1
   have l25_2 : w.heap.size + 1 + 1 < w25.heap.size := by omega
   have t25_2_0 : w25.cell? ⟨w.heap.size + 1 + 1, 0, none⟩ = some (.int .i64 b.state) := (hc25 _ _ (by omega)).trans t24_2_0
   have t25_2_1 : w25.cell? ⟨w.heap.size + 1 + 1, 1, none⟩ = some (.string ⟨(b.values).toArray⟩) := (hc25 _ _ (by omega)).trans t24_2_1
   have l25_3 : w8.heap.size < w25.heap.size := by omega
   have t25_3_0 : w25.cell? ⟨w8.heap.size, 0, none⟩ = some (.slice A_c_signals8 (c.signals).length (c.signals).length) := (hc25 _ _ (by omega)).trans t24_3_0
   have t25_3_1 : w25.cell? ⟨w8.heap.size, 1, none⟩ = some (.slice A_c_codes8 (c.codes).length (c.codes).length) := (hc25 _ _ (by omega)).trans t24_3_1
   have t25_3_2 : w25.cell? ⟨w8.heap.size, 2, none⟩ = some (.slice A_c_arcs8 (c.arcs).length (c.arcs).length) := (hc25 _ _ (by omega)).trans t24_3_2
   have l25_4 : w9.heap.size < w25.heap.size := by omega
   have t25_4_0 : w25.cell? ⟨w9.heap.size, 0, none⟩ = some (.slice A_n_signals9 (n.signals).length (n.signals).length) := (hc25 _ _ (by omega)).trans t24_4_0
   have t25_4_1 : w25.cell? ⟨w9.heap.size, 1, none⟩ = some (.slice A_n_wires9 (n.wires).length (n.wires).length) := (hc25 _ _ (by omega)).trans t24_4_1
   clear t24_0_0
   clear t24_0_1
   clear t24_0_2
   clear t24_1_0
   clear t24_1_1
   clear t24_2_0
   clear t24_2_1
   clear t24_3_0
   clear t24_3_1
   clear t24_3_2
   clear t24_4_0
   clear t24_4_1
   have aG21_25 := RA.to aG21_24 hs25
   clear aG21_24
   have aA_c_signals23_25 := RA.to aA_c_signals23_24 hs25
   clear aA_c_signals23_24
   have aA_c_codes23_25 := RA.to aA_c_codes23_24 hs25
   clear aA_c_codes23_24
   have aA_c_arcs23_25 := RA.to aA_c_arcs23_24 hs25
   clear aA_c_arcs23_24
   have aA_n_signals24_25 := RA.to aA_n_signals24 hs25
   clear aA_n_signals24
   have aA_n_wires24_25 := RA.to aA_n_wires24 hs25
   clear aA_n_wires24
   have ho7_0_25 := Own.to ho7_0_24 hs25
   clear ho7_0_24
   clear hc25
   )
  | (
   go_at_call 36
   refine (impl_UnexpectedOutputs c n b A_c_signals23 (c.signals).length A_c_codes23 (c.codes).length A_c_arcs23 (c.arcs).length A_n_signals24 (n.signals).length A_n_wires24 (n.wires).length  _ (Nat.le_refl _) (by omega) (RA.to aA_c_signals23_25 (Below.refl _ _)) (Nat.le_refl _) (by omega) (RA.to aA_c_codes23_25 (Below.refl _ _)) (Nat.le_refl _) (by omega) (RA.to aA_c_arcs23_25 (Below.refl _ _)) (Nat.le_refl _) (by omega) (RA.to aA_n_signals24_25 (Below.refl _ _)) (Nat.le_refl _) (by omega) (RA.to aA_n_wires24_25 (Below.refl _ _)) g15 g16).mono ?_
   rintro e w26 ⟨A26_0, c26_0, rfl, ho26_0, hb26⟩
   have hs26 : Below w25.heap.size w25 w26 := hb26
   have HW26 : Hid (Below w.heap.size w w26) := Zl (HW25.out.trans (hs26.mono HW25.out.size))
   obtain ⟨hc26, _⟩ := Zan hb26
   have hz26 := hb26.size
   repeat rw [World.size_alloc] at hz26
   have l26_0 : w.heap.size < w26.heap.size := by omega
   have t26_0_0 : w26.cell? ⟨w.heap.size, 0, none⟩ = some (.slice A_c_signals (c.signals).length c_c_signals) := (hc26 _ _ (by omega)).trans t25_0_0
   have t26_0_1 : w26.cell? ⟨w.heap.size, 1, none⟩ = some (.slice A_c_codes (c.codes).length c_c_codes) := (hc26 _ _ (by omega)).trans t25_0_1
   have t26_0_2 : w26.cell? ⟨w.heap.size, 2, none⟩ = some (.slice A_c_arcs (c.arcs).length c_c_arcs) := (hc26 _ _ (by omega)).trans t25_0_2
   have l26_1 : w.heap.size + 1 < w26.heap.size := by omega
   have t26_1_0 : w26.cell? ⟨w.heap.size + 1, 0, none⟩ = some (.slice A_n_signals (n.signals).length c_n_signals) := (hc26 _ _ (by omega)).trans t25_1_0
   have t26_1_1 : w26.cell? ⟨w.heap.size + 1, 1, none⟩ = some (.slice A_n_wires (n.wires).length c_n_wires) := (hc26 _ _ (by omega)).trans t25_1_1
   have l26_2 : w.heap.size + 1 + 1 < w26.heap.size := by omega
   have t26_2_0 : w26.cell? ⟨w.heap.size + 1 + 1, 0, none⟩ = some (.int .i64 b.state) := (hc26 _ _ (by omega)).trans t25_2_0
   have t26_2_1 : w26.cell? ⟨w.heap.size + 1 + 1, 1, none⟩ = some (.string ⟨(b.values).toArray⟩) := (hc26 _ _ (by omega)).trans t25_2_1
   have l26_3 : w8.heap.size < w26.heap.size := by omega
   have t26_3_0 : w26.cell? ⟨w8.heap.size, 0, none⟩ = some (.slice A_c_signals8 (c.signals).length (c.signals).length) := (hc26 _ _ (by omega)).trans t25_3_0
   have t26_3_1 : w26.cell? ⟨w8.heap.size, 1, none⟩ = some (.slice A_c_codes8 (c.codes).length (c.codes).length) := (hc26 _ _ (by omega)).trans t25_3_1
   have t26_3_2 : w26.cell? ⟨w8.heap.size, 2, none⟩ = some (.slice A_c_arcs8 (c.arcs).length (c.arcs).length) := (hc26 _ _ (by omega)).trans t25_3_2
   have l26_4 : w9.heap.size < w26.heap.size := by omega
   have t26_4_0 : w26.cell? ⟨w9.heap.size, 0, none⟩ = some (.slice A_n_signals9 (n.signals).length (n.signals).length) := (hc26 _ _ (by omega)).trans t25_4_0
   have t26_4_1 : w26.cell? ⟨w9.heap.size, 1, none⟩ = some (.slice A_n_wires9 (n.wires).length (n.wires).length) := (hc26 _ _ (by omega)).trans t25_4_1
   clear t25_0_0
   clear t25_0_1
   clear t25_0_2
   clear t25_1_0
   clear t25_1_1
   clear t25_2_0
   clear t25_2_1
   clear t25_3_0
   clear t25_3_1
   clear t25_3_2
   clear t25_4_0
   clear t25_4_1
   have aG21_26 := RA.to aG21_25 hs26
   clear aG21_25
   have aA_c_signals23_26 := RA.to aA_c_signals23_25 hs26
   clear aA_c_signals23_25
   have aA_c_codes23_26 := RA.to aA_c_codes23_25 hs26
   clear aA_c_codes23_25
   have aA_c_arcs23_26 := RA.to aA_c_arcs23_25 hs26
   clear aA_c_arcs23_25
   have aA_n_signals24_26 := RA.to aA_n_signals24_25 hs26
   clear aA_n_signals24_25
   have aA_n_wires24_26 := RA.to aA_n_wires24_25 hs26
   clear aA_n_wires24_25
   have ho7_0_26 := Own.to ho7_0_25 hs26
   clear ho7_0_25
   clear hc26
   rw [HR.out] at ho26_0
   have hlt26_0 := ho26_0.lt
   rw [HR.out]
   )
  )
 go_wp2_with fail
 refine (eqIntS A26_0 A7_0 c26_0 c7_0 R.1 _ (by omega) (RA.to ho26_0.ra (Below.refl _ _)) (RA.to ho7_0_26.ra (Below.refl _ _))).mono ?_
 rintro e w27 ⟨rfl, hb27⟩
 have hs27 : Below w26.heap.size w26 w27 := hb27
 have HW27 : Hid (Below w.heap.size w w27) := Zl (HW26.out.trans (hs27.mono HW26.out.size))
 obtain ⟨hc27, _⟩ := Zan hb27
 have hz27 := hb27.size
 repeat rw [World.size_alloc] at hz27
 have l27_0 : w.heap.size < w27.heap.size := by omega
 have t27_0_0 : w27.cell? ⟨w.heap.size, 0, none⟩ = some (.slice A_c_signals (c.signals).length c_c_signals) := (hc27 _ _ (by omega)).trans t26_0_0
 have t27_0_1 : w27.cell? ⟨w.heap.size, 1, none⟩ = some (.slice A_c_codes (c.codes).length c_c_codes) := (hc27 _ _ (by omega)).trans t26_0_1
 have t27_0_2 : w27.cell? ⟨w.heap.size, 2, none⟩ = some (.slice A_c_arcs (c.arcs).length c_c_arcs) := (hc27 _ _ (by omega)).trans t26_0_2
 have l27_1 : w.heap.size + 1 < w27.heap.size := by omega
 have t27_1_0 : w27.cell? ⟨w.heap.size + 1, 0, none⟩ = some (.slice A_n_signals (n.signals).length c_n_signals) := (hc27 _ _ (by omega)).trans t26_1_0
 have t27_1_1 : w27.cell? ⟨w.heap.size + 1, 1, none⟩ = some (.slice A_n_wires (n.wires).length c_n_wires) := (hc27 _ _ (by omega)).trans t26_1_1
 have l27_2 : w.heap.size + 1 + 1 < w27.heap.size := by omega
 have t27_2_0 : w27.cell? ⟨w.heap.size + 1 + 1, 0, none⟩ = some (.int .i64 b.state) := (hc27 _ _ (by omega)).trans t26_2_0
 have t27_2_1 : w27.cell? ⟨w.heap.size + 1 + 1, 1, none⟩ = some (.string ⟨(b.values).toArray⟩) := (hc27 _ _ (by omega)).trans t26_2_1
 have l27_3 : w8.heap.size < w27.heap.size := by omega
 have t27_3_0 : w27.cell? ⟨w8.heap.size, 0, none⟩ = some (.slice A_c_signals8 (c.signals).length (c.signals).length) := (hc27 _ _ (by omega)).trans t26_3_0
 have t27_3_1 : w27.cell? ⟨w8.heap.size, 1, none⟩ = some (.slice A_c_codes8 (c.codes).length (c.codes).length) := (hc27 _ _ (by omega)).trans t26_3_1
 have t27_3_2 : w27.cell? ⟨w8.heap.size, 2, none⟩ = some (.slice A_c_arcs8 (c.arcs).length (c.arcs).length) := (hc27 _ _ (by omega)).trans t26_3_2
 have l27_4 : w9.heap.size < w27.heap.size := by omega
 have t27_4_0 : w27.cell? ⟨w9.heap.size, 0, none⟩ = some (.slice A_n_signals9 (n.signals).length (n.signals).length) := (hc27 _ _ (by omega)).trans t26_4_0
 have t27_4_1 : w27.cell? ⟨w9.heap.size, 1, none⟩ = some (.slice A_n_wires9 (n.wires).length (n.wires).length) := (hc27 _ _ (by omega)).trans t26_4_1
 clear t26_0_0
 clear t26_0_1
 clear t26_0_2
 clear t26_1_0
 clear t26_1_1
 clear t26_2_0
 clear t26_2_1
 clear t26_3_0
 clear t26_3_1
 clear t26_3_2
 clear t26_4_0
 clear t26_4_1
 have aG21_27 := RA.to aG21_26 hs27
 clear aG21_26
 have aA_c_signals23_27 := RA.to aA_c_signals23_26 hs27
 clear aA_c_signals23_26
 have aA_c_codes23_27 := RA.to aA_c_codes23_26 hs27
 clear aA_c_codes23_26
 have aA_c_arcs23_27 := RA.to aA_c_arcs23_26 hs27
 clear aA_c_arcs23_26
 have aA_n_signals24_27 := RA.to aA_n_signals24_26 hs27
 clear aA_n_signals24_26
 have aA_n_wires24_27 := RA.to aA_n_wires24_26 hs27
 clear aA_n_wires24_26
 have ho7_0_27 := Own.to ho7_0_26 hs27
 clear ho7_0_26
 have ho26_0_27 := Own.to ho26_0 hs27
 clear ho26_0
 clear hc27
 go_wp2_with fail
 refine (heldIntS A12_0 c12_0 R.1 1 _ (by omega) (RA.to aG21_27 (Below.refl _ _)) (by omega) (by omega)).mono ?_
 rintro e w28 ⟨rfl, hb28⟩
 have hs28 : Below w27.heap.size w27 w28 := hb28
 have HW28 : Hid (Below w.heap.size w w28) := Zl (HW27.out.trans (hs28.mono HW27.out.size))
 obtain ⟨hc28, _⟩ := Zan hb28
 have hz28 := hb28.size
 repeat rw [World.size_alloc] at hz28
 have l28_0 : w.heap.size < w28.heap.size := by omega
 have t28_0_0 : w28.cell? ⟨w.heap.size, 0, none⟩ = some (.slice A_c_signals (c.signals).length c_c_signals) := (hc28 _ _ (by omega)).trans t27_0_0
 have t28_0_1 : w28.cell? ⟨w.heap.size, 1, none⟩ = some (.slice A_c_codes (c.codes).length c_c_codes) := (hc28 _ _ (by omega)).trans t27_0_1
 have t28_0_2 : w28.cell? ⟨w.heap.size, 2, none⟩ = some (.slice A_c_arcs (c.arcs).length c_c_arcs) := (hc28 _ _ (by omega)).trans t27_0_2
 have l28_1 : w.heap.size + 1 < w28.heap.size := by omega
 have t28_1_0 : w28.cell? ⟨w.heap.size + 1, 0, none⟩ = some (.slice A_n_signals (n.signals).length c_n_signals) := (hc28 _ _ (by omega)).trans t27_1_0
 have t28_1_1 : w28.cell? ⟨w.heap.size + 1, 1, none⟩ = some (.slice A_n_wires (n.wires).length c_n_wires) := (hc28 _ _ (by omega)).trans t27_1_1
 have l28_2 : w.heap.size + 1 + 1 < w28.heap.size := by omega
 have t28_2_0 : w28.cell? ⟨w.heap.size + 1 + 1, 0, none⟩ = some (.int .i64 b.state) := (hc28 _ _ (by omega)).trans t27_2_0
 have t28_2_1 : w28.cell? ⟨w.heap.size + 1 + 1, 1, none⟩ = some (.string ⟨(b.values).toArray⟩) := (hc28 _ _ (by omega)).trans t27_2_1
 have l28_3 : w8.heap.size < w28.heap.size := by omega
 have t28_3_0 : w28.cell? ⟨w8.heap.size, 0, none⟩ = some (.slice A_c_signals8 (c.signals).length (c.signals).length) := (hc28 _ _ (by omega)).trans t27_3_0
 have t28_3_1 : w28.cell? ⟨w8.heap.size, 1, none⟩ = some (.slice A_c_codes8 (c.codes).length (c.codes).length) := (hc28 _ _ (by omega)).trans t27_3_1
 have t28_3_2 : w28.cell? ⟨w8.heap.size, 2, none⟩ = some (.slice A_c_arcs8 (c.arcs).length (c.arcs).length) := (hc28 _ _ (by omega)).trans t27_3_2
 have l28_4 : w9.heap.size < w28.heap.size := by omega
 have t28_4_0 : w28.cell? ⟨w9.heap.size, 0, none⟩ = some (.slice A_n_signals9 (n.signals).length (n.signals).length) := (hc28 _ _ (by omega)).trans t27_4_0
 have t28_4_1 : w28.cell? ⟨w9.heap.size, 1, none⟩ = some (.slice A_n_wires9 (n.wires).length (n.wires).length) := (hc28 _ _ (by omega)).trans t27_4_1
 clear t27_0_0
 clear t27_0_1
 clear t27_0_2
 clear t27_1_0
 clear t27_1_1
 clear t27_2_0
 clear t27_2_1
 clear t27_3_0
 clear t27_3_1
 clear t27_3_2
 clear t27_4_0
 clear t27_4_1
 have aG21_28 := RA.to aG21_27 hs28
 clear aG21_27
 have aA_c_signals23_28 := RA.to aA_c_signals23_27 hs28
 clear aA_c_signals23_27
 have aA_c_codes23_28 := RA.to aA_c_codes23_27 hs28
 clear aA_c_codes23_27
 have aA_c_arcs23_28 := RA.to aA_c_arcs23_27 hs28
 clear aA_c_arcs23_27
 have aA_n_signals24_28 := RA.to aA_n_signals24_27 hs28
 clear aA_n_signals24_27
 have aA_n_wires24_28 := RA.to aA_n_wires24_27 hs28
 clear aA_n_wires24_27
 have ho7_0_28 := Own.to ho7_0_27 hs28
 clear ho7_0_27
 have ho26_0_28 := Own.to ho26_0_27 hs28
 clear ho26_0_27
 clear hc28
 go_wp2_with fail
 go_ret
 exact ⟨rfl, HW28.out⟩
end Go.Proofs.YtmfplddmccggkaaGreat.Lw
