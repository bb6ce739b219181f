import Derived.Test.YtmfplddmccggkaaGreatRows
import Derived.Test.YtmfplddmccggkaaGreatScC
import Derived.Test.YtmfplddmccggkaaGreatLawSv
import Derived.Test.YtmfplddmccggkaaGreatMarkSv
namespace Go.Proofs.YtmfplddmccggkaaGreat.Lw
open Go.RowKit
set_option linter.unusedVariables false
set_option maxHeartbeats 4000000 in
set_option maxRecDepth 20000 in
theorem law_Successors (c:SGr) (n:Nl) (b:PSt) (A_c_signals:Option Addr) (c_c_signals:Nat) (A_c_codes:Option Addr) (c_c_codes:Nat) (A_c_arcs:Option Addr) (c_c_arcs:Nat) (A_n_signals:Option Addr) (c_n_signals:Nat) (A_n_wires:Option Addr) (c_n_wires:Nat) (w:World) (g0:(c.signals).length≤c_c_signals) (g1:c_c_signals≤9223372036854775807) (g2:RA Z2 w A_c_signals c.signals) (g3:(c.codes).length≤c_c_codes) (g4:c_c_codes≤9223372036854775807) (g5:RA Zab w A_c_codes c.codes) (g6:(c.arcs).length≤c_c_arcs) (g7:c_c_arcs≤9223372036854775807) (g8:RA Zcv w A_c_arcs c.arcs) (g9:(n.signals).length≤c_n_signals) (g10:c_n_signals≤9223372036854775807) (g11:RA Z2 w A_n_signals n.signals) (g12:(n.wires).length≤c_n_wires) (g13:c_n_wires≤9223372036854775807) (g14:RA Zah w A_n_wires n.wires) (g15:InI b.state) (g16:(b.values).length≤9223372036854775807):
 Calls Tryz.prog 5 #[.agg #[.slice A_c_signals (c.signals).length c_c_signals,.slice A_c_codes (c.codes).length c_c_codes,.slice A_c_arcs (c.arcs).length c_c_arcs],.agg #[.slice A_n_signals (n.signals).length c_n_signals,.slice A_n_wires (n.wires).length c_n_wires],.agg #[.int .i64 b.state,.string ⟨(b.values).toArray⟩]] w fun e w'=>e=.returned (.bool true)∧Below w.heap.size w w':=by
 obtain ⟨R,hR⟩:∃R,scA c n b=R:=⟨_,rfl⟩
 have hRb:=sc_bound c n b A_c_signals c_c_signals A_c_codes c_c_codes A_c_arcs c_c_arcs A_n_signals c_n_signals A_n_wires c_n_wires w g0 g1 g2 g3 g4 g5 g6 g7 g8 g9 g10 g11 g12 g13 g14
 rw[hR] at hRb
 have HR:=Zj hR;clear hR
 go_enter Tryz.func5,Tryz.ntmps5
 go_wp2_with fail
 refine (szStateGraph c A_c_signals c_c_signals A_c_codes c_c_codes A_c_arcs c_c_arcs (1048576) _ g0 g1 (RA.to g2 (by (repeat' (first|(with_reducible exact Below.refl _ _)|(with_reducible assumption)|(with_reducible refine Zb ?_ _)|(with_reducible refine Below.drew ?_)|(with_reducible refine Below.alloc ?_ ?_ _)|(with_reducible refine Below.setCell ?_ ?_ _)|(with_reducible refine Below.then_ ?_ (by assumption) ?_)|go_size)))) g3 g4 (RA.to g5 (by (repeat' (first|(with_reducible exact Below.refl _ _)|(with_reducible assumption)|(with_reducible refine Zb ?_ _)|(with_reducible refine Below.drew ?_)|(with_reducible refine Below.alloc ?_ ?_ _)|(with_reducible refine Below.setCell ?_ ?_ _)|(with_reducible refine Below.then_ ?_ (by assumption) ?_)|go_size)))) g6 g7 (RA.to g8 (by (repeat' (first|(with_reducible exact Below.refl _ _)|(with_reducible assumption)|(with_reducible refine Zb ?_ _)|(with_reducible refine Below.drew ?_)|(with_reducible refine Below.alloc ?_ ?_ _)|(with_reducible refine Below.setCell ?_ ?_ _)|(with_reducible refine Below.then_ ?_ (by assumption) ?_)|go_size)))) (by omega) (by omega)).mono ?_
 rintro e w1 ⟨rfl,hb1⟩
 have HW1:Hid (Below w.heap.size w w1):=Zj (by (repeat' (first|(with_reducible exact Below.refl _ _)|(with_reducible assumption)|(with_reducible refine Zb ?_ _)|(with_reducible refine Below.drew ?_)|(with_reducible refine Below.alloc ?_ ?_ _)|(with_reducible refine Below.setCell ?_ ?_ _)|(with_reducible refine Below.then_ ?_ (by assumption) ?_)|go_size)))
 obtain ⟨hc1,_⟩:=Z4 hb1
 have hz1:=hb1.size
 repeat rw[World.size_alloc] at hz1
 have l1_0:w.heap.size<w1.heap.size:=by omega
 have t1_0_0:w1.cell? ⟨w.heap.size,0,none⟩=some (.slice A_c_signals (c.signals).length c_c_signals):=by rw[hc1 _ _ (by first|omega|(repeat rw[World.size_alloc]);omega)];simp[go_sem]
 have t1_0_1:w1.cell? ⟨w.heap.size,1,none⟩=some (.slice A_c_codes (c.codes).length c_c_codes):=by rw[hc1 _ _ (by first|omega|(repeat rw[World.size_alloc]);omega)];simp[go_sem]
 have t1_0_2:w1.cell? ⟨w.heap.size,2,none⟩=some (.slice A_c_arcs (c.arcs).length c_c_arcs):=by rw[hc1 _ _ (by first|omega|(repeat rw[World.size_alloc]);omega)];simp[go_sem]
 have l1_1:w.heap.size+1<w1.heap.size:=by omega
 have t1_1_0:w1.cell? ⟨w.heap.size+1,0,none⟩=some (.slice A_n_signals (n.signals).length c_n_signals):=by rw[hc1 _ _ (by first|omega|(repeat rw[World.size_alloc]);omega)];simp[go_sem]
 have t1_1_1:w1.cell? ⟨w.heap.size+1,1,none⟩=some (.slice A_n_wires (n.wires).length c_n_wires):=by rw[hc1 _ _ (by first|omega|(repeat rw[World.size_alloc]);omega)];simp[go_sem]
 have l1_2:w.heap.size+1+1<w1.heap.size:=by omega
 have t1_2_0:w1.cell? ⟨w.heap.size+1+1,0,none⟩=some (.int .i64 b.state):=by rw[hc1 _ _ (by first|omega|(repeat rw[World.size_alloc]);omega)];simp[go_sem]
 have t1_2_1:w1.cell? ⟨w.heap.size+1+1,1,none⟩=some (.string ⟨(b.values).toArray⟩):=by rw[hc1 _ _ (by first|omega|(repeat rw[World.size_alloc]);omega)];simp[go_sem]
 clear hc1
 by_cases q_c:(1048576:Int)<((wtSGr c):Nat)
 ·rw[ZaM q_c]
  go_wp2_with fail
  go_ret
  exact ⟨rfl,HW1.out⟩
 rw[ZaN q_c]
 have qq_c:((wtSGr c):Nat)≤1048576:=by omega
 go_wp2_with fail
 refine (szNetlist n A_n_signals c_n_signals A_n_wires c_n_wires (1048576 - ((wtSGr c):Nat)) _ g9 g10 (RA.to g11 HW1.out) g12 g13 (RA.to g14 HW1.out) (by omega) (by omega)).mono ?_
 rintro e w2 ⟨rfl,hb2⟩
 have hs2:Below w1.heap.size w1 w2:=hb2
 have HW2:Hid (Below w.heap.size w w2):=Zj (HW1.out.trans (hs2.mono HW1.out.size))
 obtain ⟨hc2,_⟩:=Z4 hb2
 have hz2:=hb2.size
 repeat rw[World.size_alloc] at hz2
 have l2_0:w.heap.size<w2.heap.size:=by omega
 have t2_0_0:w2.cell? ⟨w.heap.size,0,none⟩=some (.slice A_c_signals (c.signals).length c_c_signals):=(hc2 _ _ (by omega)).trans t1_0_0
 have t2_0_1:w2.cell? ⟨w.heap.size,1,none⟩=some (.slice A_c_codes (c.codes).length c_c_codes):=(hc2 _ _ (by omega)).trans t1_0_1
 have t2_0_2:w2.cell? ⟨w.heap.size,2,none⟩=some (.slice A_c_arcs (c.arcs).length c_c_arcs):=(hc2 _ _ (by omega)).trans t1_0_2
 have l2_1:w.heap.size+1<w2.heap.size:=by omega
 have t2_1_0:w2.cell? ⟨w.heap.size+1,0,none⟩=some (.slice A_n_signals (n.signals).length c_n_signals):=(hc2 _ _ (by omega)).trans t1_1_0
 have t2_1_1:w2.cell? ⟨w.heap.size+1,1,none⟩=some (.slice A_n_wires (n.wires).length c_n_wires):=(hc2 _ _ (by omega)).trans t1_1_1
 have l2_2:w.heap.size+1+1<w2.heap.size:=by omega
 have t2_2_0:w2.cell? ⟨w.heap.size+1+1,0,none⟩=some (.int .i64 b.state):=(hc2 _ _ (by omega)).trans t1_2_0
 have t2_2_1:w2.cell? ⟨w.heap.size+1+1,1,none⟩=some (.string ⟨(b.values).toArray⟩):=(hc2 _ _ (by omega)).trans t1_2_1
 clear t1_0_0
 clear t1_0_1
 clear t1_0_2
 clear t1_1_0
 clear t1_1_1
 clear t1_2_0
 clear t1_2_1
 clear hc2
 by_cases q_n:(1048576 - ((wtSGr c):Nat):Int)<((wtNl n):Nat)
 ·rw[ZaM q_n]
  go_wp2_with fail
  go_ret
  exact ⟨rfl,HW2.out⟩
 rw[ZaN q_n]
 have qq_n:((wtNl n):Nat)≤1048576:=by omega
 go_wp2_with fail
 refine (szProductState b  (1048576 - ((wtSGr c):Nat) - ((wtNl n):Nat)) _ g16 (by omega) (by omega)).mono ?_
 rintro e w3 ⟨rfl,hb3⟩
 have hs3:Below w2.heap.size w2 w3:=hb3
 have HW3:Hid (Below w.heap.size w w3):=Zj (HW2.out.trans (hs3.mono HW2.out.size))
 obtain ⟨hc3,_⟩:=Z4 hb3
 have hz3:=hb3.size
 repeat rw[World.size_alloc] at hz3
 have l3_0:w.heap.size<w3.heap.size:=by omega
 have t3_0_0:w3.cell? ⟨w.heap.size,0,none⟩=some (.slice A_c_signals (c.signals).length c_c_signals):=(hc3 _ _ (by omega)).trans t2_0_0
 have t3_0_1:w3.cell? ⟨w.heap.size,1,none⟩=some (.slice A_c_codes (c.codes).length c_c_codes):=(hc3 _ _ (by omega)).trans t2_0_1
 have t3_0_2:w3.cell? ⟨w.heap.size,2,none⟩=some (.slice A_c_arcs (c.arcs).length c_c_arcs):=(hc3 _ _ (by omega)).trans t2_0_2
 have l3_1:w.heap.size+1<w3.heap.size:=by omega
 have t3_1_0:w3.cell? ⟨w.heap.size+1,0,none⟩=some (.slice A_n_signals (n.signals).length c_n_signals):=(hc3 _ _ (by omega)).trans t2_1_0
 have t3_1_1:w3.cell? ⟨w.heap.size+1,1,none⟩=some (.slice A_n_wires (n.wires).length c_n_wires):=(hc3 _ _ (by omega)).trans t2_1_1
 have l3_2:w.heap.size+1+1<w3.heap.size:=by omega
 have t3_2_0:w3.cell? ⟨w.heap.size+1+1,0,none⟩=some (.int .i64 b.state):=(hc3 _ _ (by omega)).trans t2_2_0
 have t3_2_1:w3.cell? ⟨w.heap.size+1+1,1,none⟩=some (.string ⟨(b.values).toArray⟩):=(hc3 _ _ (by omega)).trans t2_2_1
 clear t2_0_0
 clear t2_0_1
 clear t2_0_2
 clear t2_1_0
 clear t2_1_1
 clear t2_2_0
 clear t2_2_1
 clear hc3
 by_cases q_b:(1048576 - ((wtSGr c):Nat) - ((wtNl n):Nat):Int)<((wtPSt b):Nat)
 ·rw[ZaM q_b]
  go_wp2_with fail
  go_ret
  exact ⟨rfl,HW3.out⟩
 rw[ZaN q_b]
 have qq_b:((wtPSt b):Nat)≤1048576:=by omega
 have qs_c:=qq_c
 unfold wtSGr at qs_c
 have qs_n:=qq_n
 unfold wtNl at qs_n
 have qs_b:=qq_b
 unfold wtPSt at qs_b
 go_wp2_with fail
 go_region_held3 (fun W=>W.cell? ⟨w.heap.size,0,none⟩=some (.slice A_c_signals (c.signals).length c_c_signals)∧W.cell? ⟨w.heap.size,1,none⟩=some (.slice A_c_codes (c.codes).length c_c_codes)∧W.cell? ⟨w.heap.size,2,none⟩=some (.slice A_c_arcs (c.arcs).length c_c_arcs)∧W.cell? ⟨w.heap.size+1,0,none⟩=some (.slice A_n_signals (n.signals).length c_n_signals)∧W.cell? ⟨w.heap.size+1,1,none⟩=some (.slice A_n_wires (n.wires).length c_n_wires)∧W.cell? ⟨w.heap.size+1+1,0,none⟩=some (.int .i64 b.state)∧W.cell? ⟨w.heap.size+1+1,1,none⟩=some (.string ⟨(b.values).toArray⟩)) (first|exact ⟨t3_0_0,t3_0_1,t3_0_2,t3_1_0,t3_1_1,t3_2_0,t3_2_1⟩|exact ⟨t4_0_0,t4_0_1,t4_0_2,t4_1_0,t4_1_1,t4_2_0,t4_2_1⟩|exact ⟨t5_0_0,t5_0_1,t5_0_2,t5_1_0,t5_1_1,t5_2_0,t5_2_1⟩|exact ⟨t6_0_0,t6_0_1,t6_0_2,t6_1_0,t6_1_1,t6_2_0,t6_2_1⟩|exact ⟨t7_0_0,t7_0_1,t7_0_2,t7_1_0,t7_1_1,t7_2_0,t7_2_1⟩) (first
  | (
   go_at_call 15
   refine (toStateGraph c A_c_signals c_c_signals A_c_codes c_c_codes A_c_arcs c_c_arcs _ g0 g1 (RA.to g2 HW3.out.drew) g3 g4 (RA.to g5 HW3.out.drew) g6 g7 (RA.to g8 HW3.out.drew) qq_c).mono ?_
   rintro e w4 ⟨A_c_signals4,A_c_codes4,A_c_arcs4,rfl,rA_c_signals4,rA_c_codes4,rA_c_arcs4,hb4,fz4⟩
   have hs4:Below w3.heap.size w3 w4:=(Below.drew (Below.refl _ _)).trans hb4
   have HW4:Hid (Below w.heap.size w w4):=Zj (HW3.out.trans (hs4.mono HW3.out.size))
   obtain ⟨hc4,_⟩:=Z4 hs4
   have hz4:=hs4.size
   repeat rw[World.size_alloc] at hz4
   have l4_0:w.heap.size<w4.heap.size:=by omega
   have t4_0_0:w4.cell? ⟨w.heap.size,0,none⟩=some (.slice A_c_signals (c.signals).length c_c_signals):=(hc4 _ _ (by omega)).trans t3_0_0
   have t4_0_1:w4.cell? ⟨w.heap.size,1,none⟩=some (.slice A_c_codes (c.codes).length c_c_codes):=(hc4 _ _ (by omega)).trans t3_0_1
   have t4_0_2:w4.cell? ⟨w.heap.size,2,none⟩=some (.slice A_c_arcs (c.arcs).length c_c_arcs):=(hc4 _ _ (by omega)).trans t3_0_2
   have l4_1:w.heap.size+1<w4.heap.size:=by omega
   have t4_1_0:w4.cell? ⟨w.heap.size+1,0,none⟩=some (.slice A_n_signals (n.signals).length c_n_signals):=(hc4 _ _ (by omega)).trans t3_1_0
   have t4_1_1:w4.cell? ⟨w.heap.size+1,1,none⟩=some (.slice A_n_wires (n.wires).length c_n_wires):=(hc4 _ _ (by omega)).trans t3_1_1
   have l4_2:w.heap.size+1+1<w4.heap.size:=by omega
   have t4_2_0:w4.cell? ⟨w.heap.size+1+1,0,none⟩=some (.int .i64 b.state):=(hc4 _ _ (by omega)).trans t3_2_0
   have t4_2_1:w4.cell? ⟨w.heap.size+1+1,1,none⟩=some (.string ⟨(b.values).toArray⟩):=(hc4 _ _ (by omega)).trans t3_2_1
   clear t3_0_0
   clear t3_0_1
   clear t3_0_2
   clear t3_1_0
   clear t3_1_1
   clear t3_2_0
   clear t3_2_1
   clear hc4
   have aA_c_signals4:RA Z2 w4 A_c_signals4 c.signals:=(rA_c_signals4).mono fun b hb=>hb.2
   have aA_c_codes4:RA Zab w4 A_c_codes4 c.codes:=(rA_c_codes4).mono fun b hb=>hb.2
   have aA_c_arcs4:RA Zcv w4 A_c_arcs4 c.arcs:=(rA_c_arcs4).mono fun b hb=>hb.2
   )
  | (
   go_at_call 16
   refine (toNetlist n A_n_signals c_n_signals A_n_wires c_n_wires _ g9 g10 (RA.to g11 HW4.out) g12 g13 (RA.to g14 HW4.out) qq_n).mono ?_
   rintro e w5 ⟨A_n_signals5,A_n_wires5,rfl,rA_n_signals5,rA_n_wires5,hb5,fz5⟩
   have hs5:Below w4.heap.size w4 w5:=hb5
   have HW5:Hid (Below w.heap.size w w5):=Zj (HW4.out.trans (hs5.mono HW4.out.size))
   obtain ⟨hc5,_⟩:=Z4 hb5
   have hz5:=hb5.size
   repeat rw[World.size_alloc] at hz5
   have l5_0:w.heap.size<w5.heap.size:=by omega
   have t5_0_0:w5.cell? ⟨w.heap.size,0,none⟩=some (.slice A_c_signals (c.signals).length c_c_signals):=(hc5 _ _ (by omega)).trans t4_0_0
   have t5_0_1:w5.cell? ⟨w.heap.size,1,none⟩=some (.slice A_c_codes (c.codes).length c_c_codes):=(hc5 _ _ (by omega)).trans t4_0_1
   have t5_0_2:w5.cell? ⟨w.heap.size,2,none⟩=some (.slice A_c_arcs (c.arcs).length c_c_arcs):=(hc5 _ _ (by omega)).trans t4_0_2
   have l5_1:w.heap.size+1<w5.heap.size:=by omega
   have t5_1_0:w5.cell? ⟨w.heap.size+1,0,none⟩=some (.slice A_n_signals (n.signals).length c_n_signals):=(hc5 _ _ (by omega)).trans t4_1_0
   have t5_1_1:w5.cell? ⟨w.heap.size+1,1,none⟩=some (.slice A_n_wires (n.wires).length c_n_wires):=(hc5 _ _ (by omega)).trans t4_1_1
   have l5_2:w.heap.size+1+1<w5.heap.size:=by omega
   have t5_2_0:w5.cell? ⟨w.heap.size+1+1,0,none⟩=some (.int .i64 b.state):=(hc5 _ _ (by omega)).trans t4_2_0
   have t5_2_1:w5.cell? ⟨w.heap.size+1+1,1,none⟩=some (.string ⟨(b.values).toArray⟩):=(hc5 _ _ (by omega)).trans t4_2_1
   clear t4_0_0
   clear t4_0_1
   clear t4_0_2
   clear t4_1_0
   clear t4_1_1
   clear t4_2_0
   clear t4_2_1
   have aA_c_signals4_5:=RA.to aA_c_signals4 hs5
   clear aA_c_signals4
   have aA_c_codes4_5:=RA.to aA_c_codes4 hs5
   clear aA_c_codes4
   have aA_c_arcs4_5:=RA.to aA_c_arcs4 hs5
   clear aA_c_arcs4
   clear hc5
   have aA_n_signals5:RA Z2 w5 A_n_signals5 n.signals:=(rA_n_signals5).mono fun b hb=>hb.2
   have aA_n_wires5:RA Zah w5 A_n_wires5 n.wires:=(rA_n_wires5).mono fun b hb=>hb.2
   )
  | (
   go_at_call 23
   refine (toProductState b  _ g16 qq_b).mono ?_
   rintro e w6 ⟨rfl,hb6,fz6⟩
   have hs6:Below w5.heap.size w5 w6:=hb6
   have HW6:Hid (Below w.heap.size w w6):=Zj (HW5.out.trans (hs6.mono HW5.out.size))
   obtain ⟨hc6,_⟩:=Z4 hb6
   have hz6:=hb6.size
   repeat rw[World.size_alloc] at hz6
   have l6_0:w.heap.size<w6.heap.size:=by omega
   have t6_0_0:w6.cell? ⟨w.heap.size,0,none⟩=some (.slice A_c_signals (c.signals).length c_c_signals):=(hc6 _ _ (by omega)).trans t5_0_0
   have t6_0_1:w6.cell? ⟨w.heap.size,1,none⟩=some (.slice A_c_codes (c.codes).length c_c_codes):=(hc6 _ _ (by omega)).trans t5_0_1
   have t6_0_2:w6.cell? ⟨w.heap.size,2,none⟩=some (.slice A_c_arcs (c.arcs).length c_c_arcs):=(hc6 _ _ (by omega)).trans t5_0_2
   have l6_1:w.heap.size+1<w6.heap.size:=by omega
   have t6_1_0:w6.cell? ⟨w.heap.size+1,0,none⟩=some (.slice A_n_signals (n.signals).length c_n_signals):=(hc6 _ _ (by omega)).trans t5_1_0
   have t6_1_1:w6.cell? ⟨w.heap.size+1,1,none⟩=some (.slice A_n_wires (n.wires).length c_n_wires):=(hc6 _ _ (by omega)).trans t5_1_1
   have l6_2:w.heap.size+1+1<w6.heap.size:=by omega
   have t6_2_0:w6.cell? ⟨w.heap.size+1+1,0,none⟩=some (.int .i64 b.state):=(hc6 _ _ (by omega)).trans t5_2_0
   have t6_2_1:w6.cell? ⟨w.heap.size+1+1,1,none⟩=some (.string ⟨(b.values).toArray⟩):=(hc6 _ _ (by omega)).trans t5_2_1
   clear t5_0_0
   clear t5_0_1
   clear t5_0_2
   clear t5_1_0
   clear t5_1_1
   clear t5_2_0
   clear t5_2_1
   have aA_c_signals4_6:=RA.to aA_c_signals4_5 hs6
   clear aA_c_signals4_5
   have aA_c_codes4_6:=RA.to aA_c_codes4_5 hs6
   clear aA_c_codes4_5
   have aA_c_arcs4_6:=RA.to aA_c_arcs4_5 hs6
   clear aA_c_arcs4_5
   have aA_n_signals5_6:=RA.to aA_n_signals5 hs6
   clear aA_n_signals5
   have aA_n_wires5_6:=RA.to aA_n_wires5 hs6
   clear aA_n_wires5
   clear hc6
   )
  | (
   go_at_call 25
   refine (spec_Successors c n b A_c_signals4 (c.signals).length A_c_codes4 (c.codes).length A_c_arcs4 (c.arcs).length A_n_signals5 (n.signals).length A_n_wires5 (n.wires).length  _ (Nat.le_refl _) (by omega) (RA.to aA_c_signals4_6 (Below.refl _ _)) (Nat.le_refl _) (by omega) (RA.to aA_c_codes4_6 (Below.refl _ _)) (Nat.le_refl _) (by omega) (RA.to aA_c_arcs4_6 (Below.refl _ _)) (Nat.le_refl _) (by omega) (RA.to aA_n_signals5_6 (Below.refl _ _)) (Nat.le_refl _) (by omega) (RA.to aA_n_wires5_6 (Below.refl _ _)) g15 g16).mono ?_
   rintro e w7 ⟨A7_0,c7_0,A7_1,c7_1,rfl,ho7_0,ho7_1,dj7_0_1,hb7⟩
   have hs7:Below w6.heap.size w6 w7:=hb7
   have HW7:Hid (Below w.heap.size w w7):=Zj (HW6.out.trans (hs7.mono HW6.out.size))
   obtain ⟨hc7,_⟩:=Z4 hb7
   have hz7:=hb7.size
   repeat rw[World.size_alloc] at hz7
   have l7_0:w.heap.size<w7.heap.size:=by omega
   have t7_0_0:w7.cell? ⟨w.heap.size,0,none⟩=some (.slice A_c_signals (c.signals).length c_c_signals):=(hc7 _ _ (by omega)).trans t6_0_0
   have t7_0_1:w7.cell? ⟨w.heap.size,1,none⟩=some (.slice A_c_codes (c.codes).length c_c_codes):=(hc7 _ _ (by omega)).trans t6_0_1
   have t7_0_2:w7.cell? ⟨w.heap.size,2,none⟩=some (.slice A_c_arcs (c.arcs).length c_c_arcs):=(hc7 _ _ (by omega)).trans t6_0_2
   have l7_1:w.heap.size+1<w7.heap.size:=by omega
   have t7_1_0:w7.cell? ⟨w.heap.size+1,0,none⟩=some (.slice A_n_signals (n.signals).length c_n_signals):=(hc7 _ _ (by omega)).trans t6_1_0
   have t7_1_1:w7.cell? ⟨w.heap.size+1,1,none⟩=some (.slice A_n_wires (n.wires).length c_n_wires):=(hc7 _ _ (by omega)).trans t6_1_1
   have l7_2:w.heap.size+1+1<w7.heap.size:=by omega
   have t7_2_0:w7.cell? ⟨w.heap.size+1+1,0,none⟩=some (.int .i64 b.state):=(hc7 _ _ (by omega)).trans t6_2_0
   have t7_2_1:w7.cell? ⟨w.heap.size+1+1,1,none⟩=some (.string ⟨(b.values).toArray⟩):=(hc7 _ _ (by omega)).trans t6_2_1
   clear t6_0_0
   clear t6_0_1
   clear t6_0_2
   clear t6_1_0
   clear t6_1_1
   clear t6_2_0
   clear t6_2_1
   have aA_c_signals4_7:=RA.to aA_c_signals4_6 hs7
   clear aA_c_signals4_6
   have aA_c_codes4_7:=RA.to aA_c_codes4_6 hs7
   clear aA_c_codes4_6
   have aA_c_arcs4_7:=RA.to aA_c_arcs4_6 hs7
   clear aA_c_arcs4_6
   have aA_n_signals5_7:=RA.to aA_n_signals5_6 hs7
   clear aA_n_signals5_6
   have aA_n_wires5_7:=RA.to aA_n_wires5_6 hs7
   clear aA_n_wires5_6
   clear hc7
   rw[HR.out] at ho7_0
   have hlt7_0:=ho7_0.lt
   rw[HR.out] at ho7_1
   have hlt7_1:=ho7_1.lt
   rw[HR.out]
   )
  )
 go_wp2_with fail
 refine (toStateGraph c A_c_signals c_c_signals A_c_codes c_c_codes A_c_arcs c_c_arcs _ g0 g1 (RA.to g2 HW7.out) g3 g4 (RA.to g5 HW7.out) g6 g7 (RA.to g8 HW7.out) qq_c).mono ?_
 rintro e w8 ⟨A_c_signals8,A_c_codes8,A_c_arcs8,rfl,rA_c_signals8,rA_c_codes8,rA_c_arcs8,hb8,fz8⟩
 have hs8:Below w7.heap.size w7 w8:=hb8
 have HW8:Hid (Below w.heap.size w w8):=Zj (HW7.out.trans (hs8.mono HW7.out.size))
 obtain ⟨hc8,_⟩:=Z4 hb8
 have hz8:=hb8.size
 repeat rw[World.size_alloc] at hz8
 have l8_0:w.heap.size<w8.heap.size:=by omega
 have t8_0_0:w8.cell? ⟨w.heap.size,0,none⟩=some (.slice A_c_signals (c.signals).length c_c_signals):=(hc8 _ _ (by omega)).trans t7_0_0
 have t8_0_1:w8.cell? ⟨w.heap.size,1,none⟩=some (.slice A_c_codes (c.codes).length c_c_codes):=(hc8 _ _ (by omega)).trans t7_0_1
 have t8_0_2:w8.cell? ⟨w.heap.size,2,none⟩=some (.slice A_c_arcs (c.arcs).length c_c_arcs):=(hc8 _ _ (by omega)).trans t7_0_2
 have l8_1:w.heap.size+1<w8.heap.size:=by omega
 have t8_1_0:w8.cell? ⟨w.heap.size+1,0,none⟩=some (.slice A_n_signals (n.signals).length c_n_signals):=(hc8 _ _ (by omega)).trans t7_1_0
 have t8_1_1:w8.cell? ⟨w.heap.size+1,1,none⟩=some (.slice A_n_wires (n.wires).length c_n_wires):=(hc8 _ _ (by omega)).trans t7_1_1
 have l8_2:w.heap.size+1+1<w8.heap.size:=by omega
 have t8_2_0:w8.cell? ⟨w.heap.size+1+1,0,none⟩=some (.int .i64 b.state):=(hc8 _ _ (by omega)).trans t7_2_0
 have t8_2_1:w8.cell? ⟨w.heap.size+1+1,1,none⟩=some (.string ⟨(b.values).toArray⟩):=(hc8 _ _ (by omega)).trans t7_2_1
 clear t7_0_0
 clear t7_0_1
 clear t7_0_2
 clear t7_1_0
 clear t7_1_1
 clear t7_2_0
 clear t7_2_1
 have ho7_0_8:=Own.to ho7_0 hs8
 clear ho7_0
 have ho7_1_8:=Own.to ho7_1 hs8
 clear ho7_1
 clear hc8
 have aA_c_signals8:RA Z2 w8 A_c_signals8 c.signals:=(rA_c_signals8).mono fun b hb=>hb.2
 have aA_c_codes8:RA Zab w8 A_c_codes8 c.codes:=(rA_c_codes8).mono fun b hb=>hb.2
 have aA_c_arcs8:RA Zcv w8 A_c_arcs8 c.arcs:=(rA_c_arcs8).mono fun b hb=>hb.2
 have hlo_c:w.heap.size≤w7.heap.size:=HW7.out.size
 go_wp2_with fail
 refine (toNetlist n A_n_signals c_n_signals A_n_wires c_n_wires _ g9 g10 (RA.to g11 (HW8.out.alloc HW8.out.size _)) g12 g13 (RA.to g14 (HW8.out.alloc HW8.out.size _)) qq_n).mono ?_
 rintro e w9 ⟨A_n_signals9,A_n_wires9,rfl,rA_n_signals9,rA_n_wires9,hb9,fz9⟩
 have hs9:Below w8.heap.size w8 w9:=((Below.refl _ _).alloc (Nat.le_refl _) _).trans (hb9.mono (by rw[World.size_alloc];omega))
 have HW9:Hid (Below w.heap.size w w9):=Zj (HW8.out.trans (hs9.mono HW8.out.size))
 obtain ⟨hc9,_⟩:=Z4 hb9
 have hz9:=hb9.size
 repeat rw[World.size_alloc] at hz9
 have l9_0:w.heap.size<w9.heap.size:=by omega
 have t9_0_0:w9.cell? ⟨w.heap.size,0,none⟩=some (.slice A_c_signals (c.signals).length c_c_signals):=(hc9 _ _ (by rw[World.size_alloc];omega)).trans (by rw[World.cell?_alloc_past _ _ _ (by omega)];exact t8_0_0)
 have t9_0_1:w9.cell? ⟨w.heap.size,1,none⟩=some (.slice A_c_codes (c.codes).length c_c_codes):=(hc9 _ _ (by rw[World.size_alloc];omega)).trans (by rw[World.cell?_alloc_past _ _ _ (by omega)];exact t8_0_1)
 have t9_0_2:w9.cell? ⟨w.heap.size,2,none⟩=some (.slice A_c_arcs (c.arcs).length c_c_arcs):=(hc9 _ _ (by rw[World.size_alloc];omega)).trans (by rw[World.cell?_alloc_past _ _ _ (by omega)];exact t8_0_2)
 have l9_1:w.heap.size+1<w9.heap.size:=by omega
 have t9_1_0:w9.cell? ⟨w.heap.size+1,0,none⟩=some (.slice A_n_signals (n.signals).length c_n_signals):=(hc9 _ _ (by rw[World.size_alloc];omega)).trans (by rw[World.cell?_alloc_past _ _ _ (by omega)];exact t8_1_0)
 have t9_1_1:w9.cell? ⟨w.heap.size+1,1,none⟩=some (.slice A_n_wires (n.wires).length c_n_wires):=(hc9 _ _ (by rw[World.size_alloc];omega)).trans (by rw[World.cell?_alloc_past _ _ _ (by omega)];exact t8_1_1)
 have l9_2:w.heap.size+1+1<w9.heap.size:=by omega
 have t9_2_0:w9.cell? ⟨w.heap.size+1+1,0,none⟩=some (.int .i64 b.state):=(hc9 _ _ (by rw[World.size_alloc];omega)).trans (by rw[World.cell?_alloc_past _ _ _ (by omega)];exact t8_2_0)
 have t9_2_1:w9.cell? ⟨w.heap.size+1+1,1,none⟩=some (.string ⟨(b.values).toArray⟩):=(hc9 _ _ (by rw[World.size_alloc];omega)).trans (by rw[World.cell?_alloc_past _ _ _ (by omega)];exact t8_2_1)
 have l9_3:w8.heap.size<w9.heap.size:=by omega
 have t9_3_0:w9.cell? ⟨w8.heap.size,0,none⟩=some (.slice A_c_signals8 (c.signals).length (c.signals).length):=by rw[hc9 _ _ (by first|omega|(repeat rw[World.size_alloc]);omega)];simp[go_sem]
 have t9_3_1:w9.cell? ⟨w8.heap.size,1,none⟩=some (.slice A_c_codes8 (c.codes).length (c.codes).length):=by rw[hc9 _ _ (by first|omega|(repeat rw[World.size_alloc]);omega)];simp[go_sem]
 have t9_3_2:w9.cell? ⟨w8.heap.size,2,none⟩=some (.slice A_c_arcs8 (c.arcs).length (c.arcs).length):=by rw[hc9 _ _ (by first|omega|(repeat rw[World.size_alloc]);omega)];simp[go_sem]
 clear t8_0_0
 clear t8_0_1
 clear t8_0_2
 clear t8_1_0
 clear t8_1_1
 clear t8_2_0
 clear t8_2_1
 have aA_c_signals8_9:=RA.to aA_c_signals8 hs9
 clear aA_c_signals8
 have aA_c_codes8_9:=RA.to aA_c_codes8 hs9
 clear aA_c_codes8
 have aA_c_arcs8_9:=RA.to aA_c_arcs8 hs9
 clear aA_c_arcs8
 have HXc_9:Hid (Below w8.heap.size w8 w9):=Zj hs9
 have ho7_0_9:=Own.to ho7_0_8 hs9
 clear ho7_0_8
 have ho7_1_9:=Own.to ho7_1_8 hs9
 clear ho7_1_8
 clear hc9
 have aA_n_signals9:RA Z2 w9 A_n_signals9 n.signals:=(rA_n_signals9).mono fun b hb=>hb.2
 have aA_n_wires9:RA Zah w9 A_n_wires9 n.wires:=(rA_n_wires9).mono fun b hb=>hb.2
 have hlo_n:w.heap.size≤w8.heap.size:=HW8.out.size
 go_wp2_with fail
 obtain ⟨w10,hw10⟩:∃x,w9.alloc (.cells #[.slice A_n_signals9 (n.signals).length (n.signals).length,.slice A_n_wires9 (n.wires).length (n.wires).length] 43)=x:=⟨_,rfl⟩
 have hs10:Below w9.heap.size w9 w10:=by rw[←hw10];exact (Below.refl _ _).alloc (Nat.le_refl _) _
 have HW10:Hid (Below w.heap.size w w10):=Zj (HW9.out.trans (hs10.mono HW9.out.size))
 have hz10:w10.heap.size=w9.heap.size+1:=by rw[←hw10];simp
 have l10_0:w.heap.size<w10.heap.size:=by omega
 have t10_0_0:w10.cell? ⟨w.heap.size,0,none⟩=some (.slice A_c_signals (c.signals).length c_c_signals):=cell_later hs10 t9_0_0
 clear t9_0_0
 have t10_0_1:w10.cell? ⟨w.heap.size,1,none⟩=some (.slice A_c_codes (c.codes).length c_c_codes):=cell_later hs10 t9_0_1
 clear t9_0_1
 have t10_0_2:w10.cell? ⟨w.heap.size,2,none⟩=some (.slice A_c_arcs (c.arcs).length c_c_arcs):=cell_later hs10 t9_0_2
 clear t9_0_2
 have l10_1:w.heap.size+1<w10.heap.size:=by omega
 have t10_1_0:w10.cell? ⟨w.heap.size+1,0,none⟩=some (.slice A_n_signals (n.signals).length c_n_signals):=cell_later hs10 t9_1_0
 clear t9_1_0
 have t10_1_1:w10.cell? ⟨w.heap.size+1,1,none⟩=some (.slice A_n_wires (n.wires).length c_n_wires):=cell_later hs10 t9_1_1
 clear t9_1_1
 have l10_2:w.heap.size+1+1<w10.heap.size:=by omega
 have t10_2_0:w10.cell? ⟨w.heap.size+1+1,0,none⟩=some (.int .i64 b.state):=cell_later hs10 t9_2_0
 clear t9_2_0
 have t10_2_1:w10.cell? ⟨w.heap.size+1+1,1,none⟩=some (.string ⟨(b.values).toArray⟩):=cell_later hs10 t9_2_1
 clear t9_2_1
 have l10_3:w8.heap.size<w10.heap.size:=by omega
 have t10_3_0:w10.cell? ⟨w8.heap.size,0,none⟩=some (.slice A_c_signals8 (c.signals).length (c.signals).length):=cell_later hs10 t9_3_0
 clear t9_3_0
 have t10_3_1:w10.cell? ⟨w8.heap.size,1,none⟩=some (.slice A_c_codes8 (c.codes).length (c.codes).length):=cell_later hs10 t9_3_1
 clear t9_3_1
 have t10_3_2:w10.cell? ⟨w8.heap.size,2,none⟩=some (.slice A_c_arcs8 (c.arcs).length (c.arcs).length):=cell_later hs10 t9_3_2
 clear t9_3_2
 have l10_4:w9.heap.size<w10.heap.size:=by omega
 have t10_4_0:w10.cell? ⟨w9.heap.size,0,none⟩=some (.slice A_n_signals9 (n.signals).length (n.signals).length):=by rw[←hw10];simp[go_sem]
 have t10_4_1:w10.cell? ⟨w9.heap.size,1,none⟩=some (.slice A_n_wires9 (n.wires).length (n.wires).length):=by rw[←hw10];simp[go_sem]
 rw[hw10]
 clear hw10
 have aA_c_signals8_10:=RA.to aA_c_signals8_9 hs10
 clear aA_c_signals8_9
 have aA_c_codes8_10:=RA.to aA_c_codes8_9 hs10
 clear aA_c_codes8_9
 have aA_c_arcs8_10:=RA.to aA_c_arcs8_9 hs10
 clear aA_c_arcs8_9
 have aA_n_signals9_10:=RA.to aA_n_signals9 hs10
 clear aA_n_signals9
 have aA_n_wires9_10:=RA.to aA_n_wires9 hs10
 clear aA_n_wires9
 have HXc_10:Hid (Below w8.heap.size w8 w10):=Zj (HXc_9.out.trans (hs10.mono HXc_9.out.size))
 clear HXc_9
 have HXn_10:Hid (Below w9.heap.size w9 w10):=Zj hs10
 have ho7_0_10:=Own.to ho7_0_9 hs10
 clear ho7_0_9
 have ho7_1_10:=Own.to ho7_1_9 hs10
 clear ho7_1_9
 go_wp2_with fail
 go_region_held3 (fun W=>W.cell? ⟨w8.heap.size,0,none⟩=some (.slice A_c_signals8 (c.signals).length (c.signals).length)∧W.cell? ⟨w8.heap.size,1,none⟩=some (.slice A_c_codes8 (c.codes).length (c.codes).length)∧W.cell? ⟨w8.heap.size,2,none⟩=some (.slice A_c_arcs8 (c.arcs).length (c.arcs).length)∧W.cell? ⟨w9.heap.size,0,none⟩=some (.slice A_n_signals9 (n.signals).length (n.signals).length)∧W.cell? ⟨w9.heap.size,1,none⟩=some (.slice A_n_wires9 (n.wires).length (n.wires).length)∧W.cell? ⟨w.heap.size+1+1,0,none⟩=some (.int .i64 b.state)∧W.cell? ⟨w.heap.size+1+1,1,none⟩=some (.string ⟨(b.values).toArray⟩)) (first|exact ⟨t10_3_0,t10_3_1,t10_3_2,t10_4_0,t10_4_1,t10_2_0,t10_2_1⟩|exact ⟨t11_3_0,t11_3_1,t11_3_2,t11_4_0,t11_4_1,t11_2_0,t11_2_1⟩|exact ⟨t12_3_0,t12_3_1,t12_3_2,t12_4_0,t12_4_1,t12_2_0,t12_2_1⟩) (first
  | (
   go_at_call 23
   refine (toProductState b  _ g16 qq_b).mono ?_
   rintro e w11 ⟨rfl,hb11,fz11⟩
   have hs11:Below w10.heap.size w10 w11:=(Below.drew (Below.refl _ _)).trans hb11
   have HW11:Hid (Below w.heap.size w w11):=Zj (HW10.out.trans (hs11.mono HW10.out.size))
   obtain ⟨hc11,_⟩:=Z4 hs11
   have hz11:=hs11.size
   repeat rw[World.size_alloc] at hz11
   have l11_0:w.heap.size<w11.heap.size:=by omega
   have t11_0_0:w11.cell? ⟨w.heap.size,0,none⟩=some (.slice A_c_signals (c.signals).length c_c_signals):=(hc11 _ _ (by omega)).trans t10_0_0
   have t11_0_1:w11.cell? ⟨w.heap.size,1,none⟩=some (.slice A_c_codes (c.codes).length c_c_codes):=(hc11 _ _ (by omega)).trans t10_0_1
   have t11_0_2:w11.cell? ⟨w.heap.size,2,none⟩=some (.slice A_c_arcs (c.arcs).length c_c_arcs):=(hc11 _ _ (by omega)).trans t10_0_2
   have l11_1:w.heap.size+1<w11.heap.size:=by omega
   have t11_1_0:w11.cell? ⟨w.heap.size+1,0,none⟩=some (.slice A_n_signals (n.signals).length c_n_signals):=(hc11 _ _ (by omega)).trans t10_1_0
   have t11_1_1:w11.cell? ⟨w.heap.size+1,1,none⟩=some (.slice A_n_wires (n.wires).length c_n_wires):=(hc11 _ _ (by omega)).trans t10_1_1
   have l11_2:w.heap.size+1+1<w11.heap.size:=by omega
   have t11_2_0:w11.cell? ⟨w.heap.size+1+1,0,none⟩=some (.int .i64 b.state):=(hc11 _ _ (by omega)).trans t10_2_0
   have t11_2_1:w11.cell? ⟨w.heap.size+1+1,1,none⟩=some (.string ⟨(b.values).toArray⟩):=(hc11 _ _ (by omega)).trans t10_2_1
   have l11_3:w8.heap.size<w11.heap.size:=by omega
   have t11_3_0:w11.cell? ⟨w8.heap.size,0,none⟩=some (.slice A_c_signals8 (c.signals).length (c.signals).length):=(hc11 _ _ (by omega)).trans t10_3_0
   have t11_3_1:w11.cell? ⟨w8.heap.size,1,none⟩=some (.slice A_c_codes8 (c.codes).length (c.codes).length):=(hc11 _ _ (by omega)).trans t10_3_1
   have t11_3_2:w11.cell? ⟨w8.heap.size,2,none⟩=some (.slice A_c_arcs8 (c.arcs).length (c.arcs).length):=(hc11 _ _ (by omega)).trans t10_3_2
   have l11_4:w9.heap.size<w11.heap.size:=by omega
   have t11_4_0:w11.cell? ⟨w9.heap.size,0,none⟩=some (.slice A_n_signals9 (n.signals).length (n.signals).length):=(hc11 _ _ (by omega)).trans t10_4_0
   have t11_4_1:w11.cell? ⟨w9.heap.size,1,none⟩=some (.slice A_n_wires9 (n.wires).length (n.wires).length):=(hc11 _ _ (by omega)).trans t10_4_1
   clear t10_0_0
   clear t10_0_1
   clear t10_0_2
   clear t10_1_0
   clear t10_1_1
   clear t10_2_0
   clear t10_2_1
   clear t10_3_0
   clear t10_3_1
   clear t10_3_2
   clear t10_4_0
   clear t10_4_1
   have aA_c_signals8_11:=RA.to aA_c_signals8_10 hs11
   clear aA_c_signals8_10
   have aA_c_codes8_11:=RA.to aA_c_codes8_10 hs11
   clear aA_c_codes8_10
   have aA_c_arcs8_11:=RA.to aA_c_arcs8_10 hs11
   clear aA_c_arcs8_10
   have aA_n_signals9_11:=RA.to aA_n_signals9_10 hs11
   clear aA_n_signals9_10
   have aA_n_wires9_11:=RA.to aA_n_wires9_10 hs11
   clear aA_n_wires9_10
   have HXc_11:Hid (Below w8.heap.size w8 w11):=Zj (HXc_10.out.trans (hs11.mono HXc_10.out.size))
   clear HXc_10
   have HXn_11:Hid (Below w9.heap.size w9 w11):=Zj (HXn_10.out.trans (hs11.mono HXn_10.out.size))
   clear HXn_10
   have ho7_0_11:=Own.to ho7_0_10 hs11
   clear ho7_0_10
   have ho7_1_11:=Own.to ho7_1_10 hs11
   clear ho7_1_10
   clear hc11
   )
  | (
   go_at_call 26
   refine (impl_Successors c n b A_c_signals8 (c.signals).length A_c_codes8 (c.codes).length A_c_arcs8 (c.arcs).length A_n_signals9 (n.signals).length A_n_wires9 (n.wires).length  _ (Nat.le_refl _) (by omega) (RA.to aA_c_signals8_11 (Below.refl _ _)) (Nat.le_refl _) (by omega) (RA.to aA_c_codes8_11 (Below.refl _ _)) (Nat.le_refl _) (by omega) (RA.to aA_c_arcs8_11 (Below.refl _ _)) (Nat.le_refl _) (by omega) (RA.to aA_n_signals9_11 (Below.refl _ _)) (Nat.le_refl _) (by omega) (RA.to aA_n_wires9_11 (Below.refl _ _)) g15 g16).mono ?_
   rintro e w12 ⟨A12_0,c12_0,A12_1,c12_1,rfl,ho12_0,ho12_1,dj12_0_1,hb12⟩
   have hs12:Below w11.heap.size w11 w12:=hb12
   have HW12:Hid (Below w.heap.size w w12):=Zj (HW11.out.trans (hs12.mono HW11.out.size))
   obtain ⟨hc12,_⟩:=Z4 hb12
   have hz12:=hb12.size
   repeat rw[World.size_alloc] at hz12
   have l12_0:w.heap.size<w12.heap.size:=by omega
   have t12_0_0:w12.cell? ⟨w.heap.size,0,none⟩=some (.slice A_c_signals (c.signals).length c_c_signals):=(hc12 _ _ (by omega)).trans t11_0_0
   have t12_0_1:w12.cell? ⟨w.heap.size,1,none⟩=some (.slice A_c_codes (c.codes).length c_c_codes):=(hc12 _ _ (by omega)).trans t11_0_1
   have t12_0_2:w12.cell? ⟨w.heap.size,2,none⟩=some (.slice A_c_arcs (c.arcs).length c_c_arcs):=(hc12 _ _ (by omega)).trans t11_0_2
   have l12_1:w.heap.size+1<w12.heap.size:=by omega
   have t12_1_0:w12.cell? ⟨w.heap.size+1,0,none⟩=some (.slice A_n_signals (n.signals).length c_n_signals):=(hc12 _ _ (by omega)).trans t11_1_0
   have t12_1_1:w12.cell? ⟨w.heap.size+1,1,none⟩=some (.slice A_n_wires (n.wires).length c_n_wires):=(hc12 _ _ (by omega)).trans t11_1_1
   have l12_2:w.heap.size+1+1<w12.heap.size:=by omega
   have t12_2_0:w12.cell? ⟨w.heap.size+1+1,0,none⟩=some (.int .i64 b.state):=(hc12 _ _ (by omega)).trans t11_2_0
   have t12_2_1:w12.cell? ⟨w.heap.size+1+1,1,none⟩=some (.string ⟨(b.values).toArray⟩):=(hc12 _ _ (by omega)).trans t11_2_1
   have l12_3:w8.heap.size<w12.heap.size:=by omega
   have t12_3_0:w12.cell? ⟨w8.heap.size,0,none⟩=some (.slice A_c_signals8 (c.signals).length (c.signals).length):=(hc12 _ _ (by omega)).trans t11_3_0
   have t12_3_1:w12.cell? ⟨w8.heap.size,1,none⟩=some (.slice A_c_codes8 (c.codes).length (c.codes).length):=(hc12 _ _ (by omega)).trans t11_3_1
   have t12_3_2:w12.cell? ⟨w8.heap.size,2,none⟩=some (.slice A_c_arcs8 (c.arcs).length (c.arcs).length):=(hc12 _ _ (by omega)).trans t11_3_2
   have l12_4:w9.heap.size<w12.heap.size:=by omega
   have t12_4_0:w12.cell? ⟨w9.heap.size,0,none⟩=some (.slice A_n_signals9 (n.signals).length (n.signals).length):=(hc12 _ _ (by omega)).trans t11_4_0
   have t12_4_1:w12.cell? ⟨w9.heap.size,1,none⟩=some (.slice A_n_wires9 (n.wires).length (n.wires).length):=(hc12 _ _ (by omega)).trans t11_4_1
   clear t11_0_0
   clear t11_0_1
   clear t11_0_2
   clear t11_1_0
   clear t11_1_1
   clear t11_2_0
   clear t11_2_1
   clear t11_3_0
   clear t11_3_1
   clear t11_3_2
   clear t11_4_0
   clear t11_4_1
   have aA_c_signals8_12:=RA.to aA_c_signals8_11 hs12
   clear aA_c_signals8_11
   have aA_c_codes8_12:=RA.to aA_c_codes8_11 hs12
   clear aA_c_codes8_11
   have aA_c_arcs8_12:=RA.to aA_c_arcs8_11 hs12
   clear aA_c_arcs8_11
   have aA_n_signals9_12:=RA.to aA_n_signals9_11 hs12
   clear aA_n_signals9_11
   have aA_n_wires9_12:=RA.to aA_n_wires9_11 hs12
   clear aA_n_wires9_11
   have HXc_12:Hid (Below w8.heap.size w8 w12):=Zj (HXc_11.out.trans (hs12.mono HXc_11.out.size))
   clear HXc_11
   have HXn_12:Hid (Below w9.heap.size w9 w12):=Zj (HXn_11.out.trans (hs12.mono HXn_11.out.size))
   clear HXn_11
   have ho7_0_12:=Own.to ho7_0_11 hs12
   clear ho7_0_11
   have ho7_1_12:=Own.to ho7_1_11 hs12
   clear ho7_1_11
   clear hc12
   rw[HR.out] at ho12_0
   have hlt12_0:=ho12_0.lt
   rw[HR.out] at ho12_1
   have hlt12_1:=ho12_1.lt
   rw[HR.out]
   )
  )
 go_wp2_with fail
 refine (eqProductStateS A12_0 A7_0 c12_0 c7_0 R.1.1 _ (by omega) (RA.to ho12_0.ra (Below.refl _ _)) (RA.to ho7_0_12.ra (Below.refl _ _))).mono ?_
 rintro e w13 ⟨rfl,hb13⟩
 have hs13:Below w12.heap.size w12 w13:=hb13
 have HW13:Hid (Below w.heap.size w w13):=Zj (HW12.out.trans (hs13.mono HW12.out.size))
 obtain ⟨hc13,_⟩:=Z4 hb13
 have hz13:=hb13.size
 repeat rw[World.size_alloc] at hz13
 have l13_0:w.heap.size<w13.heap.size:=by omega
 have t13_0_0:w13.cell? ⟨w.heap.size,0,none⟩=some (.slice A_c_signals (c.signals).length c_c_signals):=(hc13 _ _ (by omega)).trans t12_0_0
 have t13_0_1:w13.cell? ⟨w.heap.size,1,none⟩=some (.slice A_c_codes (c.codes).length c_c_codes):=(hc13 _ _ (by omega)).trans t12_0_1
 have t13_0_2:w13.cell? ⟨w.heap.size,2,none⟩=some (.slice A_c_arcs (c.arcs).length c_c_arcs):=(hc13 _ _ (by omega)).trans t12_0_2
 have l13_1:w.heap.size+1<w13.heap.size:=by omega
 have t13_1_0:w13.cell? ⟨w.heap.size+1,0,none⟩=some (.slice A_n_signals (n.signals).length c_n_signals):=(hc13 _ _ (by omega)).trans t12_1_0
 have t13_1_1:w13.cell? ⟨w.heap.size+1,1,none⟩=some (.slice A_n_wires (n.wires).length c_n_wires):=(hc13 _ _ (by omega)).trans t12_1_1
 have l13_2:w.heap.size+1+1<w13.heap.size:=by omega
 have t13_2_0:w13.cell? ⟨w.heap.size+1+1,0,none⟩=some (.int .i64 b.state):=(hc13 _ _ (by omega)).trans t12_2_0
 have t13_2_1:w13.cell? ⟨w.heap.size+1+1,1,none⟩=some (.string ⟨(b.values).toArray⟩):=(hc13 _ _ (by omega)).trans t12_2_1
 have l13_3:w8.heap.size<w13.heap.size:=by omega
 have t13_3_0:w13.cell? ⟨w8.heap.size,0,none⟩=some (.slice A_c_signals8 (c.signals).length (c.signals).length):=(hc13 _ _ (by omega)).trans t12_3_0
 have t13_3_1:w13.cell? ⟨w8.heap.size,1,none⟩=some (.slice A_c_codes8 (c.codes).length (c.codes).length):=(hc13 _ _ (by omega)).trans t12_3_1
 have t13_3_2:w13.cell? ⟨w8.heap.size,2,none⟩=some (.slice A_c_arcs8 (c.arcs).length (c.arcs).length):=(hc13 _ _ (by omega)).trans t12_3_2
 have l13_4:w9.heap.size<w13.heap.size:=by omega
 have t13_4_0:w13.cell? ⟨w9.heap.size,0,none⟩=some (.slice A_n_signals9 (n.signals).length (n.signals).length):=(hc13 _ _ (by omega)).trans t12_4_0
 have t13_4_1:w13.cell? ⟨w9.heap.size,1,none⟩=some (.slice A_n_wires9 (n.wires).length (n.wires).length):=(hc13 _ _ (by omega)).trans t12_4_1
 clear t12_0_0
 clear t12_0_1
 clear t12_0_2
 clear t12_1_0
 clear t12_1_1
 clear t12_2_0
 clear t12_2_1
 clear t12_3_0
 clear t12_3_1
 clear t12_3_2
 clear t12_4_0
 clear t12_4_1
 have aA_c_signals8_13:=RA.to aA_c_signals8_12 hs13
 clear aA_c_signals8_12
 have aA_c_codes8_13:=RA.to aA_c_codes8_12 hs13
 clear aA_c_codes8_12
 have aA_c_arcs8_13:=RA.to aA_c_arcs8_12 hs13
 clear aA_c_arcs8_12
 have aA_n_signals9_13:=RA.to aA_n_signals9_12 hs13
 clear aA_n_signals9_12
 have aA_n_wires9_13:=RA.to aA_n_wires9_12 hs13
 clear aA_n_wires9_12
 have HXc_13:Hid (Below w8.heap.size w8 w13):=Zj (HXc_12.out.trans (hs13.mono HXc_12.out.size))
 clear HXc_12
 have HXn_13:Hid (Below w9.heap.size w9 w13):=Zj (HXn_12.out.trans (hs13.mono HXn_12.out.size))
 clear HXn_12
 have ho7_0_13:=Own.to ho7_0_12 hs13
 clear ho7_0_12
 have ho7_1_13:=Own.to ho7_1_12 hs13
 clear ho7_1_12
 have ho12_0_13:=Own.to ho12_0 hs13
 clear ho12_0
 have ho12_1_13:=Own.to ho12_1 hs13
 clear ho12_1
 clear hc13
 go_wp2_with fail
 refine (eqIntS A12_1 A7_1 c12_1 c7_1 R.1.2 _ (by omega) (RA.to ho12_1_13.ra (Below.refl _ _)) (RA.to ho7_1_13.ra (Below.refl _ _))).mono ?_
 rintro e w14 ⟨rfl,hb14⟩
 have hs14:Below w13.heap.size w13 w14:=hb14
 have HW14:Hid (Below w.heap.size w w14):=Zj (HW13.out.trans (hs14.mono HW13.out.size))
 obtain ⟨hc14,_⟩:=Z4 hb14
 have hz14:=hb14.size
 repeat rw[World.size_alloc] at hz14
 have l14_0:w.heap.size<w14.heap.size:=by omega
 have t14_0_0:w14.cell? ⟨w.heap.size,0,none⟩=some (.slice A_c_signals (c.signals).length c_c_signals):=(hc14 _ _ (by omega)).trans t13_0_0
 have t14_0_1:w14.cell? ⟨w.heap.size,1,none⟩=some (.slice A_c_codes (c.codes).length c_c_codes):=(hc14 _ _ (by omega)).trans t13_0_1
 have t14_0_2:w14.cell? ⟨w.heap.size,2,none⟩=some (.slice A_c_arcs (c.arcs).length c_c_arcs):=(hc14 _ _ (by omega)).trans t13_0_2
 have l14_1:w.heap.size+1<w14.heap.size:=by omega
 have t14_1_0:w14.cell? ⟨w.heap.size+1,0,none⟩=some (.slice A_n_signals (n.signals).length c_n_signals):=(hc14 _ _ (by omega)).trans t13_1_0
 have t14_1_1:w14.cell? ⟨w.heap.size+1,1,none⟩=some (.slice A_n_wires (n.wires).length c_n_wires):=(hc14 _ _ (by omega)).trans t13_1_1
 have l14_2:w.heap.size+1+1<w14.heap.size:=by omega
 have t14_2_0:w14.cell? ⟨w.heap.size+1+1,0,none⟩=some (.int .i64 b.state):=(hc14 _ _ (by omega)).trans t13_2_0
 have t14_2_1:w14.cell? ⟨w.heap.size+1+1,1,none⟩=some (.string ⟨(b.values).toArray⟩):=(hc14 _ _ (by omega)).trans t13_2_1
 have l14_3:w8.heap.size<w14.heap.size:=by omega
 have t14_3_0:w14.cell? ⟨w8.heap.size,0,none⟩=some (.slice A_c_signals8 (c.signals).length (c.signals).length):=(hc14 _ _ (by omega)).trans t13_3_0
 have t14_3_1:w14.cell? ⟨w8.heap.size,1,none⟩=some (.slice A_c_codes8 (c.codes).length (c.codes).length):=(hc14 _ _ (by omega)).trans t13_3_1
 have t14_3_2:w14.cell? ⟨w8.heap.size,2,none⟩=some (.slice A_c_arcs8 (c.arcs).length (c.arcs).length):=(hc14 _ _ (by omega)).trans t13_3_2
 have l14_4:w9.heap.size<w14.heap.size:=by omega
 have t14_4_0:w14.cell? ⟨w9.heap.size,0,none⟩=some (.slice A_n_signals9 (n.signals).length (n.signals).length):=(hc14 _ _ (by omega)).trans t13_4_0
 have t14_4_1:w14.cell? ⟨w9.heap.size,1,none⟩=some (.slice A_n_wires9 (n.wires).length (n.wires).length):=(hc14 _ _ (by omega)).trans t13_4_1
 clear t13_0_0
 clear t13_0_1
 clear t13_0_2
 clear t13_1_0
 clear t13_1_1
 clear t13_2_0
 clear t13_2_1
 clear t13_3_0
 clear t13_3_1
 clear t13_3_2
 clear t13_4_0
 clear t13_4_1
 have aA_c_signals8_14:=RA.to aA_c_signals8_13 hs14
 clear aA_c_signals8_13
 have aA_c_codes8_14:=RA.to aA_c_codes8_13 hs14
 clear aA_c_codes8_13
 have aA_c_arcs8_14:=RA.to aA_c_arcs8_13 hs14
 clear aA_c_arcs8_13
 have aA_n_signals9_14:=RA.to aA_n_signals9_13 hs14
 clear aA_n_signals9_13
 have aA_n_wires9_14:=RA.to aA_n_wires9_13 hs14
 clear aA_n_wires9_13
 have HXc_14:Hid (Below w8.heap.size w8 w14):=Zj (HXc_13.out.trans (hs14.mono HXc_13.out.size))
 clear HXc_13
 have HXn_14:Hid (Below w9.heap.size w9 w14):=Zj (HXn_13.out.trans (hs14.mono HXn_13.out.size))
 clear HXn_13
 have ho7_0_14:=Own.to ho7_0_13 hs14
 clear ho7_0_13
 have ho7_1_14:=Own.to ho7_1_13 hs14
 clear ho7_1_13
 have ho12_0_14:=Own.to ho12_0_13 hs14
 clear ho12_0_13
 have ho12_1_14:=Own.to ho12_1_13 hs14
 clear ho12_1_13
 clear hc14
 go_wp2_with fail
 go_region_held3 (fun W=>W.cell? ⟨w8.heap.size,0,none⟩=some (.slice A_c_signals8 (c.signals).length (c.signals).length)∧W.cell? ⟨w8.heap.size,1,none⟩=some (.slice A_c_codes8 (c.codes).length (c.codes).length)∧W.cell? ⟨w8.heap.size,2,none⟩=some (.slice A_c_arcs8 (c.arcs).length (c.arcs).length)∧W.cell? ⟨w.heap.size,0,none⟩=some (.slice A_c_signals (c.signals).length c_c_signals)∧W.cell? ⟨w.heap.size,1,none⟩=some (.slice A_c_codes (c.codes).length c_c_codes)∧W.cell? ⟨w.heap.size,2,none⟩=some (.slice A_c_arcs (c.arcs).length c_c_arcs)) (first|exact ⟨t14_3_0,t14_3_1,t14_3_2,t14_0_0,t14_0_1,t14_0_2⟩|exact ⟨(cell_later hb15 t14_3_0),(cell_later hb15 t14_3_1),(cell_later hb15 t14_3_2),(cell_later hb15 t14_0_0),(cell_later hb15 t14_0_1),(cell_later hb15 t14_0_2)⟩|exact ⟨(cell_later hb16 (cell_later hb15 t14_3_0)),(cell_later hb16 (cell_later hb15 t14_3_1)),(cell_later hb16 (cell_later hb15 t14_3_2)),(cell_later hb16 (cell_later hb15 t14_0_0)),(cell_later hb16 (cell_later hb15 t14_0_1)),(cell_later hb16 (cell_later hb15 t14_0_2))⟩) (first|(go_at_call 15;refine (toStateGraph c A_c_signals c_c_signals A_c_codes c_c_codes A_c_arcs c_c_arcs _ g0 g1 (RA.to g2 HW14.out.drew) g3 g4 (RA.to g5 HW14.out.drew) g6 g7 (RA.to g8 HW14.out.drew) qq_c).mono ?_;rintro e w15 ⟨A_c_signals15,A_c_codes15,A_c_arcs15,rfl,rA_c_signals15,rA_c_codes15,rA_c_arcs15,hb15,fz15⟩)|(go_at_call 19;refine (eqStateGraph c A_c_signals8 (c.signals).length A_c_codes8 (c.codes).length A_c_arcs8 (c.arcs).length A_c_signals15 (c.signals).length A_c_codes15 (c.codes).length A_c_arcs15 (c.arcs).length _ (Nat.le_refl _) (by omega) (RA.to aA_c_signals8_14 (Below.trans (Below.drew (Below.refl _ _)) hb15)) (Nat.le_refl _) (by omega) (RA.to aA_c_codes8_14 (Below.trans (Below.drew (Below.refl _ _)) hb15)) (Nat.le_refl _) (by omega) (RA.to aA_c_arcs8_14 (Below.trans (Below.drew (Below.refl _ _)) hb15)) (Nat.le_refl _) (by omega) ((rA_c_signals15).mono fun b hb=>hb.2) (Nat.le_refl _) (by omega) ((rA_c_codes15).mono fun b hb=>hb.2) (Nat.le_refl _) (by omega) ((rA_c_arcs15).mono fun b hb=>hb.2)).mono ?_;rintro e w16 ⟨rfl,hb16⟩))
 have hs16:Below w14.heap.size w14 w16:=(Below.drew (Below.refl _ _)).trans (hb15.trans (hb16.mono hb15.size))
 have HW16:Hid (Below w.heap.size w w16):=Zj (HW14.out.trans (hs16.mono HW14.out.size))
 have hz16:w14.heap.size≤w16.heap.size:=Nat.le_trans hb15.size hb16.size
 have l16_0:w.heap.size<w16.heap.size:=by omega
 have t16_0_0:w16.cell? ⟨w.heap.size,0,none⟩=some (.slice A_c_signals (c.signals).length c_c_signals):=cell_later hb16 (cell_later hb15 t14_0_0)
 clear t14_0_0
 have t16_0_1:w16.cell? ⟨w.heap.size,1,none⟩=some (.slice A_c_codes (c.codes).length c_c_codes):=cell_later hb16 (cell_later hb15 t14_0_1)
 clear t14_0_1
 have t16_0_2:w16.cell? ⟨w.heap.size,2,none⟩=some (.slice A_c_arcs (c.arcs).length c_c_arcs):=cell_later hb16 (cell_later hb15 t14_0_2)
 clear t14_0_2
 have l16_1:w.heap.size+1<w16.heap.size:=by omega
 have t16_1_0:w16.cell? ⟨w.heap.size+1,0,none⟩=some (.slice A_n_signals (n.signals).length c_n_signals):=cell_later hb16 (cell_later hb15 t14_1_0)
 clear t14_1_0
 have t16_1_1:w16.cell? ⟨w.heap.size+1,1,none⟩=some (.slice A_n_wires (n.wires).length c_n_wires):=cell_later hb16 (cell_later hb15 t14_1_1)
 clear t14_1_1
 have l16_2:w.heap.size+1+1<w16.heap.size:=by omega
 have t16_2_0:w16.cell? ⟨w.heap.size+1+1,0,none⟩=some (.int .i64 b.state):=cell_later hb16 (cell_later hb15 t14_2_0)
 clear t14_2_0
 have t16_2_1:w16.cell? ⟨w.heap.size+1+1,1,none⟩=some (.string ⟨(b.values).toArray⟩):=cell_later hb16 (cell_later hb15 t14_2_1)
 clear t14_2_1
 have l16_3:w8.heap.size<w16.heap.size:=by omega
 have t16_3_0:w16.cell? ⟨w8.heap.size,0,none⟩=some (.slice A_c_signals8 (c.signals).length (c.signals).length):=cell_later hb16 (cell_later hb15 t14_3_0)
 clear t14_3_0
 have t16_3_1:w16.cell? ⟨w8.heap.size,1,none⟩=some (.slice A_c_codes8 (c.codes).length (c.codes).length):=cell_later hb16 (cell_later hb15 t14_3_1)
 clear t14_3_1
 have t16_3_2:w16.cell? ⟨w8.heap.size,2,none⟩=some (.slice A_c_arcs8 (c.arcs).length (c.arcs).length):=cell_later hb16 (cell_later hb15 t14_3_2)
 clear t14_3_2
 have l16_4:w9.heap.size<w16.heap.size:=by omega
 have t16_4_0:w16.cell? ⟨w9.heap.size,0,none⟩=some (.slice A_n_signals9 (n.signals).length (n.signals).length):=cell_later hb16 (cell_later hb15 t14_4_0)
 clear t14_4_0
 have t16_4_1:w16.cell? ⟨w9.heap.size,1,none⟩=some (.slice A_n_wires9 (n.wires).length (n.wires).length):=cell_later hb16 (cell_later hb15 t14_4_1)
 clear t14_4_1
 have aA_c_signals8_16:=RA.to aA_c_signals8_14 hs16
 clear aA_c_signals8_14
 have aA_c_codes8_16:=RA.to aA_c_codes8_14 hs16
 clear aA_c_codes8_14
 have aA_c_arcs8_16:=RA.to aA_c_arcs8_14 hs16
 clear aA_c_arcs8_14
 have aA_n_signals9_16:=RA.to aA_n_signals9_14 hs16
 clear aA_n_signals9_14
 have aA_n_wires9_16:=RA.to aA_n_wires9_14 hs16
 clear aA_n_wires9_14
 have HXc_16:Hid (Below w8.heap.size w8 w16):=Zj (HXc_14.out.trans (hs16.mono HXc_14.out.size))
 clear HXc_14
 have HXn_16:Hid (Below w9.heap.size w9 w16):=Zj (HXn_14.out.trans (hs16.mono HXn_14.out.size))
 clear HXn_14
 have ho7_0_16:=Own.to ho7_0_14 hs16
 clear ho7_0_14
 have ho7_1_16:=Own.to ho7_1_14 hs16
 clear ho7_1_14
 have ho12_0_16:=Own.to ho12_0_14 hs16
 clear ho12_0_14
 have ho12_1_16:=Own.to ho12_1_14 hs16
 clear ho12_1_14
 go_wp2_with fail
 go_region_held3 (fun W=>W.cell? ⟨w9.heap.size,0,none⟩=some (.slice A_n_signals9 (n.signals).length (n.signals).length)∧W.cell? ⟨w9.heap.size,1,none⟩=some (.slice A_n_wires9 (n.wires).length (n.wires).length)∧W.cell? ⟨w.heap.size+1,0,none⟩=some (.slice A_n_signals (n.signals).length c_n_signals)∧W.cell? ⟨w.heap.size+1,1,none⟩=some (.slice A_n_wires (n.wires).length c_n_wires)) (first|exact ⟨t16_4_0,t16_4_1,t16_1_0,t16_1_1⟩|exact ⟨(cell_later hb17 t16_4_0),(cell_later hb17 t16_4_1),(cell_later hb17 t16_1_0),(cell_later hb17 t16_1_1)⟩|exact ⟨(cell_later hb18 (cell_later hb17 t16_4_0)),(cell_later hb18 (cell_later hb17 t16_4_1)),(cell_later hb18 (cell_later hb17 t16_1_0)),(cell_later hb18 (cell_later hb17 t16_1_1))⟩) (first|(go_at_call 16;refine (toNetlist n A_n_signals c_n_signals A_n_wires c_n_wires _ g9 g10 (RA.to g11 HW16.out.drew) g12 g13 (RA.to g14 HW16.out.drew) qq_n).mono ?_;rintro e w17 ⟨A_n_signals17,A_n_wires17,rfl,rA_n_signals17,rA_n_wires17,hb17,fz17⟩)|(go_at_call 20;refine (eqNetlist n A_n_signals9 (n.signals).length A_n_wires9 (n.wires).length A_n_signals17 (n.signals).length A_n_wires17 (n.wires).length _ (Nat.le_refl _) (by omega) (RA.to aA_n_signals9_16 (Below.trans (Below.drew (Below.refl _ _)) hb17)) (Nat.le_refl _) (by omega) (RA.to aA_n_wires9_16 (Below.trans (Below.drew (Below.refl _ _)) hb17)) (Nat.le_refl _) (by omega) ((rA_n_signals17).mono fun b hb=>hb.2) (Nat.le_refl _) (by omega) ((rA_n_wires17).mono fun b hb=>hb.2)).mono ?_;rintro e w18 ⟨rfl,hb18⟩))
 have hs18:Below w16.heap.size w16 w18:=(Below.drew (Below.refl _ _)).trans (hb17.trans (hb18.mono hb17.size))
 have HW18:Hid (Below w.heap.size w w18):=Zj (HW16.out.trans (hs18.mono HW16.out.size))
 have hz18:w16.heap.size≤w18.heap.size:=Nat.le_trans hb17.size hb18.size
 have l18_0:w.heap.size<w18.heap.size:=by omega
 have t18_0_0:w18.cell? ⟨w.heap.size,0,none⟩=some (.slice A_c_signals (c.signals).length c_c_signals):=cell_later hb18 (cell_later hb17 t16_0_0)
 clear t16_0_0
 have t18_0_1:w18.cell? ⟨w.heap.size,1,none⟩=some (.slice A_c_codes (c.codes).length c_c_codes):=cell_later hb18 (cell_later hb17 t16_0_1)
 clear t16_0_1
 have t18_0_2:w18.cell? ⟨w.heap.size,2,none⟩=some (.slice A_c_arcs (c.arcs).length c_c_arcs):=cell_later hb18 (cell_later hb17 t16_0_2)
 clear t16_0_2
 have l18_1:w.heap.size+1<w18.heap.size:=by omega
 have t18_1_0:w18.cell? ⟨w.heap.size+1,0,none⟩=some (.slice A_n_signals (n.signals).length c_n_signals):=cell_later hb18 (cell_later hb17 t16_1_0)
 clear t16_1_0
 have t18_1_1:w18.cell? ⟨w.heap.size+1,1,none⟩=some (.slice A_n_wires (n.wires).length c_n_wires):=cell_later hb18 (cell_later hb17 t16_1_1)
 clear t16_1_1
 have l18_2:w.heap.size+1+1<w18.heap.size:=by omega
 have t18_2_0:w18.cell? ⟨w.heap.size+1+1,0,none⟩=some (.int .i64 b.state):=cell_later hb18 (cell_later hb17 t16_2_0)
 clear t16_2_0
 have t18_2_1:w18.cell? ⟨w.heap.size+1+1,1,none⟩=some (.string ⟨(b.values).toArray⟩):=cell_later hb18 (cell_later hb17 t16_2_1)
 clear t16_2_1
 have l18_3:w8.heap.size<w18.heap.size:=by omega
 have t18_3_0:w18.cell? ⟨w8.heap.size,0,none⟩=some (.slice A_c_signals8 (c.signals).length (c.signals).length):=cell_later hb18 (cell_later hb17 t16_3_0)
 clear t16_3_0
 have t18_3_1:w18.cell? ⟨w8.heap.size,1,none⟩=some (.slice A_c_codes8 (c.codes).length (c.codes).length):=cell_later hb18 (cell_later hb17 t16_3_1)
 clear t16_3_1
 have t18_3_2:w18.cell? ⟨w8.heap.size,2,none⟩=some (.slice A_c_arcs8 (c.arcs).length (c.arcs).length):=cell_later hb18 (cell_later hb17 t16_3_2)
 clear t16_3_2
 have l18_4:w9.heap.size<w18.heap.size:=by omega
 have t18_4_0:w18.cell? ⟨w9.heap.size,0,none⟩=some (.slice A_n_signals9 (n.signals).length (n.signals).length):=cell_later hb18 (cell_later hb17 t16_4_0)
 clear t16_4_0
 have t18_4_1:w18.cell? ⟨w9.heap.size,1,none⟩=some (.slice A_n_wires9 (n.wires).length (n.wires).length):=cell_later hb18 (cell_later hb17 t16_4_1)
 clear t16_4_1
 have aA_c_signals8_18:=RA.to aA_c_signals8_16 hs18
 clear aA_c_signals8_16
 have aA_c_codes8_18:=RA.to aA_c_codes8_16 hs18
 clear aA_c_codes8_16
 have aA_c_arcs8_18:=RA.to aA_c_arcs8_16 hs18
 clear aA_c_arcs8_16
 have aA_n_signals9_18:=RA.to aA_n_signals9_16 hs18
 clear aA_n_signals9_16
 have aA_n_wires9_18:=RA.to aA_n_wires9_16 hs18
 clear aA_n_wires9_16
 have HXc_18:Hid (Below w8.heap.size w8 w18):=Zj (HXc_16.out.trans (hs18.mono HXc_16.out.size))
 clear HXc_16
 have HXn_18:Hid (Below w9.heap.size w9 w18):=Zj (HXn_16.out.trans (hs18.mono HXn_16.out.size))
 clear HXn_16
 have ho7_0_18:=Own.to ho7_0_16 hs18
 clear ho7_0_16
 have ho7_1_18:=Own.to ho7_1_16 hs18
 clear ho7_1_16
 have ho12_0_18:=Own.to ho12_0_16 hs18
 clear ho12_0_16
 have ho12_1_18:=Own.to ho12_1_16 hs18
 clear ho12_1_16
 have hD:∀b,(fun b=>Zax w7 w8 b∨Zax (w8.alloc (.cells #[.slice A_c_signals8 (c.signals).length (c.signals).length,.slice A_c_codes8 (c.codes).length (c.codes).length,.slice A_c_arcs8 (c.arcs).length (c.arcs).length] 39)) w9 b) b→b<w18.heap.size:=fun b hd=>by
  rcases hd with hd|hd
  ·exact Nat.lt_of_lt_of_le hd.2 HXc_18.out.size
  ·exact Nat.lt_of_lt_of_le hd.2 HXn_18.out.size
 have hnf:∀b o,(fun b=>Zax w7 w8 b∨Zax (w8.alloc (.cells #[.slice A_c_signals8 (c.signals).length (c.signals).length,.slice A_c_codes8 (c.codes).length (c.codes).length,.slice A_c_arcs8 (c.arcs).length (c.arcs).length] 39)) w9 b) b→w18.frozen? ⟨b,o,none⟩=false:=fun b o hd=>by
  rcases hd with hd|hd
  ·exact (HXc_18.out.frozen (p:=⟨b,o,none⟩) hd.2).trans (fz8.fresh hd.1)
  ·exact (HXn_18.out.frozen (p:=⟨b,o,none⟩) hd.2).trans (fz9.fresh hd.1)
 have mrA_c_signals8:RSl Z2 w18 (fun b=>Zax w7 w8 b∨Zax (w8.alloc (.cells #[.slice A_c_signals8 (c.signals).length (c.signals).length,.slice A_c_codes8 (c.codes).length (c.codes).length,.slice A_c_arcs8 (c.arcs).length (c.arcs).length] 39)) w9 b) A_c_signals8 c.signals:=(rA_c_signals8.below HXc_18.out (fun b hd=>hd.2)).mono (fun b hd=>.inl hd)
 have mrA_c_codes8:RSl Zab w18 (fun b=>Zax w7 w8 b∨Zax (w8.alloc (.cells #[.slice A_c_signals8 (c.signals).length (c.signals).length,.slice A_c_codes8 (c.codes).length (c.codes).length,.slice A_c_arcs8 (c.arcs).length (c.arcs).length] 39)) w9 b) A_c_codes8 c.codes:=(rA_c_codes8.below HXc_18.out (fun b hd=>hd.2)).mono (fun b hd=>.inl hd)
 have mrA_c_arcs8:RSl Zcv w18 (fun b=>Zax w7 w8 b∨Zax (w8.alloc (.cells #[.slice A_c_signals8 (c.signals).length (c.signals).length,.slice A_c_codes8 (c.codes).length (c.codes).length,.slice A_c_arcs8 (c.arcs).length (c.arcs).length] 39)) w9 b) A_c_arcs8 c.arcs:=(rA_c_arcs8.below HXc_18.out (fun b hd=>hd.2)).mono (fun b hd=>.inl hd)
 have mrA_n_signals9:RSl Z2 w18 (fun b=>Zax w7 w8 b∨Zax (w8.alloc (.cells #[.slice A_c_signals8 (c.signals).length (c.signals).length,.slice A_c_codes8 (c.codes).length (c.codes).length,.slice A_c_arcs8 (c.arcs).length (c.arcs).length] 39)) w9 b) A_n_signals9 n.signals:=(rA_n_signals9.below HXn_18.out (fun b hd=>hd.2)).mono (fun b hd=>.inr (hd))
 have mrA_n_wires9:RSl Zah w18 (fun b=>Zax w7 w8 b∨Zax (w8.alloc (.cells #[.slice A_c_signals8 (c.signals).length (c.signals).length,.slice A_c_codes8 (c.codes).length (c.codes).length,.slice A_c_arcs8 (c.arcs).length (c.arcs).length] 39)) w9 b) A_n_wires9 n.wires:=(rA_n_wires9.below HXn_18.out (fun b hd=>hd.2)).mono (fun b hd=>.inr (hd))
 have hM0:=Marked.refl (fun b=>Zax w7 w8 b∨Zax (w8.alloc (.cells #[.slice A_c_signals8 (c.signals).length (c.signals).length,.slice A_c_codes8 (c.codes).length (c.codes).length,.slice A_c_arcs8 (c.arcs).length (c.arcs).length] 39)) w9 b) w18
 go_wp2_with fail
 refine (markStateGraph_arg w18 (fun b=>Zax w7 w8 b∨Zax (w8.alloc (.cells #[.slice A_c_signals8 (c.signals).length (c.signals).length,.slice A_c_codes8 (c.codes).length (c.codes).length,.slice A_c_arcs8 (c.arcs).length (c.arcs).length] 39)) w9 b) hD hnf c A_c_signals8 (c.signals).length A_c_codes8 (c.codes).length A_c_arcs8 (c.arcs).length (Nat.le_refl _) (by omega) mrA_c_signals8 (Nat.le_refl _) (by omega) mrA_c_codes8 (Nat.le_refl _) (by omega) mrA_c_arcs8 1 _ hM0 (by omega) (by omega)).mono ?_
 rintro e w19 ⟨n19,rfl,hp19,hq19,hM19,hT19⟩
 have hz19:=hT19.size
 have HW19:Hid (Below w.heap.size w w19):=Zj (HW18.out.trans (hT19.below (fun q hd=>by rcases hd with hd|hd<;>(have h1:=hd.1;(try rw[World.size_alloc] at h1);have h2:=hd.2;omega)) HW18.out.size))
 have l19_0:w.heap.size<w19.heap.size:=by omega
 have t19_0_0:w19.cell? ⟨w.heap.size,0,none⟩=some (.slice A_c_signals (c.signals).length c_c_signals):=(hT19.cell (by omega) (fun hd=>by rcases hd with hd|hd<;>(have h1:=hd.1;(try rw[World.size_alloc] at h1);have h2:=hd.2;omega))).trans t18_0_0
 clear t18_0_0
 have t19_0_1:w19.cell? ⟨w.heap.size,1,none⟩=some (.slice A_c_codes (c.codes).length c_c_codes):=(hT19.cell (by omega) (fun hd=>by rcases hd with hd|hd<;>(have h1:=hd.1;(try rw[World.size_alloc] at h1);have h2:=hd.2;omega))).trans t18_0_1
 clear t18_0_1
 have t19_0_2:w19.cell? ⟨w.heap.size,2,none⟩=some (.slice A_c_arcs (c.arcs).length c_c_arcs):=(hT19.cell (by omega) (fun hd=>by rcases hd with hd|hd<;>(have h1:=hd.1;(try rw[World.size_alloc] at h1);have h2:=hd.2;omega))).trans t18_0_2
 clear t18_0_2
 have l19_1:w.heap.size+1<w19.heap.size:=by omega
 have t19_1_0:w19.cell? ⟨w.heap.size+1,0,none⟩=some (.slice A_n_signals (n.signals).length c_n_signals):=(hT19.cell (by omega) (fun hd=>by rcases hd with hd|hd<;>(have h1:=hd.1;(try rw[World.size_alloc] at h1);have h2:=hd.2;omega))).trans t18_1_0
 clear t18_1_0
 have t19_1_1:w19.cell? ⟨w.heap.size+1,1,none⟩=some (.slice A_n_wires (n.wires).length c_n_wires):=(hT19.cell (by omega) (fun hd=>by rcases hd with hd|hd<;>(have h1:=hd.1;(try rw[World.size_alloc] at h1);have h2:=hd.2;omega))).trans t18_1_1
 clear t18_1_1
 have l19_2:w.heap.size+1+1<w19.heap.size:=by omega
 have t19_2_0:w19.cell? ⟨w.heap.size+1+1,0,none⟩=some (.int .i64 b.state):=(hT19.cell (by omega) (fun hd=>by rcases hd with hd|hd<;>(have h1:=hd.1;(try rw[World.size_alloc] at h1);have h2:=hd.2;omega))).trans t18_2_0
 clear t18_2_0
 have t19_2_1:w19.cell? ⟨w.heap.size+1+1,1,none⟩=some (.string ⟨(b.values).toArray⟩):=(hT19.cell (by omega) (fun hd=>by rcases hd with hd|hd<;>(have h1:=hd.1;(try rw[World.size_alloc] at h1);have h2:=hd.2;omega))).trans t18_2_1
 clear t18_2_1
 have l19_3:w8.heap.size<w19.heap.size:=by omega
 have t19_3_0:w19.cell? ⟨w8.heap.size,0,none⟩=some (.slice A_c_signals8 (c.signals).length (c.signals).length):=(hT19.cell (by omega) (fun hd=>by rcases hd with hd|hd<;>(have h1:=hd.1;(try rw[World.size_alloc] at h1);have h2:=hd.2;omega))).trans t18_3_0
 clear t18_3_0
 have t19_3_1:w19.cell? ⟨w8.heap.size,1,none⟩=some (.slice A_c_codes8 (c.codes).length (c.codes).length):=(hT19.cell (by omega) (fun hd=>by rcases hd with hd|hd<;>(have h1:=hd.1;(try rw[World.size_alloc] at h1);have h2:=hd.2;omega))).trans t18_3_1
 clear t18_3_1
 have t19_3_2:w19.cell? ⟨w8.heap.size,2,none⟩=some (.slice A_c_arcs8 (c.arcs).length (c.arcs).length):=(hT19.cell (by omega) (fun hd=>by rcases hd with hd|hd<;>(have h1:=hd.1;(try rw[World.size_alloc] at h1);have h2:=hd.2;omega))).trans t18_3_2
 clear t18_3_2
 have l19_4:w9.heap.size<w19.heap.size:=by omega
 have t19_4_0:w19.cell? ⟨w9.heap.size,0,none⟩=some (.slice A_n_signals9 (n.signals).length (n.signals).length):=(hT19.cell (by omega) (fun hd=>by rcases hd with hd|hd<;>(have h1:=hd.1;(try rw[World.size_alloc] at h1);have h2:=hd.2;omega))).trans t18_4_0
 clear t18_4_0
 have t19_4_1:w19.cell? ⟨w9.heap.size,1,none⟩=some (.slice A_n_wires9 (n.wires).length (n.wires).length):=(hT19.cell (by omega) (fun hd=>by rcases hd with hd|hd<;>(have h1:=hd.1;(try rw[World.size_alloc] at h1);have h2:=hd.2;omega))).trans t18_4_1
 clear t18_4_1
 have ho7_0_19:=Touch.own hT19 ho7_0_18 (fun q hq hd=>by rcases hd with hd|hd<;>(have h1:=hd.1;(try rw[World.size_alloc] at h1);have h2:=hd.2;have h3:=hlt7_0 q hq;omega))
 clear ho7_0_18
 have ho7_1_19:=Touch.own hT19 ho7_1_18 (fun q hq hd=>by rcases hd with hd|hd<;>(have h1:=hd.1;(try rw[World.size_alloc] at h1);have h2:=hd.2;have h3:=hlt7_1 q hq;omega))
 clear ho7_1_18
 have ho12_0_19:=Touch.own hT19 ho12_0_18 (fun q hq hd=>by rcases hd with hd|hd<;>(have h1:=hd.1;(try rw[World.size_alloc] at h1);have h2:=hd.2;have h3:=hlt12_0 q hq;omega))
 clear ho12_0_18
 have ho12_1_19:=Touch.own hT19 ho12_1_18 (fun q hq hd=>by rcases hd with hd|hd<;>(have h1:=hd.1;(try rw[World.size_alloc] at h1);have h2:=hd.2;have h3:=hlt12_1 q hq;omega))
 clear ho12_1_18
 go_wp2_with fail
 refine (markNetlist_arg w18 (fun b=>Zax w7 w8 b∨Zax (w8.alloc (.cells #[.slice A_c_signals8 (c.signals).length (c.signals).length,.slice A_c_codes8 (c.codes).length (c.codes).length,.slice A_c_arcs8 (c.arcs).length (c.arcs).length] 39)) w9 b) hD hnf n A_n_signals9 (n.signals).length A_n_wires9 (n.wires).length (Nat.le_refl _) (by omega) mrA_n_signals9 (Nat.le_refl _) (by omega) mrA_n_wires9 n19 _ hM19 (by omega) (by omega)).mono ?_
 rintro e w20 ⟨n20,rfl,hp20,hq20,hM20,hT20⟩
 have hz20:=hT20.size
 have HW20:Hid (Below w.heap.size w w20):=Zj (HW19.out.trans (hT20.below (fun q hd=>by rcases hd with hd|hd<;>(have h1:=hd.1;(try rw[World.size_alloc] at h1);have h2:=hd.2;omega)) HW19.out.size))
 have l20_0:w.heap.size<w20.heap.size:=by omega
 have t20_0_0:w20.cell? ⟨w.heap.size,0,none⟩=some (.slice A_c_signals (c.signals).length c_c_signals):=(hT20.cell (by omega) (fun hd=>by rcases hd with hd|hd<;>(have h1:=hd.1;(try rw[World.size_alloc] at h1);have h2:=hd.2;omega))).trans t19_0_0
 clear t19_0_0
 have t20_0_1:w20.cell? ⟨w.heap.size,1,none⟩=some (.slice A_c_codes (c.codes).length c_c_codes):=(hT20.cell (by omega) (fun hd=>by rcases hd with hd|hd<;>(have h1:=hd.1;(try rw[World.size_alloc] at h1);have h2:=hd.2;omega))).trans t19_0_1
 clear t19_0_1
 have t20_0_2:w20.cell? ⟨w.heap.size,2,none⟩=some (.slice A_c_arcs (c.arcs).length c_c_arcs):=(hT20.cell (by omega) (fun hd=>by rcases hd with hd|hd<;>(have h1:=hd.1;(try rw[World.size_alloc] at h1);have h2:=hd.2;omega))).trans t19_0_2
 clear t19_0_2
 have l20_1:w.heap.size+1<w20.heap.size:=by omega
 have t20_1_0:w20.cell? ⟨w.heap.size+1,0,none⟩=some (.slice A_n_signals (n.signals).length c_n_signals):=(hT20.cell (by omega) (fun hd=>by rcases hd with hd|hd<;>(have h1:=hd.1;(try rw[World.size_alloc] at h1);have h2:=hd.2;omega))).trans t19_1_0
 clear t19_1_0
 have t20_1_1:w20.cell? ⟨w.heap.size+1,1,none⟩=some (.slice A_n_wires (n.wires).length c_n_wires):=(hT20.cell (by omega) (fun hd=>by rcases hd with hd|hd<;>(have h1:=hd.1;(try rw[World.size_alloc] at h1);have h2:=hd.2;omega))).trans t19_1_1
 clear t19_1_1
 have l20_2:w.heap.size+1+1<w20.heap.size:=by omega
 have t20_2_0:w20.cell? ⟨w.heap.size+1+1,0,none⟩=some (.int .i64 b.state):=(hT20.cell (by omega) (fun hd=>by rcases hd with hd|hd<;>(have h1:=hd.1;(try rw[World.size_alloc] at h1);have h2:=hd.2;omega))).trans t19_2_0
 clear t19_2_0
 have t20_2_1:w20.cell? ⟨w.heap.size+1+1,1,none⟩=some (.string ⟨(b.values).toArray⟩):=(hT20.cell (by omega) (fun hd=>by rcases hd with hd|hd<;>(have h1:=hd.1;(try rw[World.size_alloc] at h1);have h2:=hd.2;omega))).trans t19_2_1
 clear t19_2_1
 have l20_3:w8.heap.size<w20.heap.size:=by omega
 have t20_3_0:w20.cell? ⟨w8.heap.size,0,none⟩=some (.slice A_c_signals8 (c.signals).length (c.signals).length):=(hT20.cell (by omega) (fun hd=>by rcases hd with hd|hd<;>(have h1:=hd.1;(try rw[World.size_alloc] at h1);have h2:=hd.2;omega))).trans t19_3_0
 clear t19_3_0
 have t20_3_1:w20.cell? ⟨w8.heap.size,1,none⟩=some (.slice A_c_codes8 (c.codes).length (c.codes).length):=(hT20.cell (by omega) (fun hd=>by rcases hd with hd|hd<;>(have h1:=hd.1;(try rw[World.size_alloc] at h1);have h2:=hd.2;omega))).trans t19_3_1
 clear t19_3_1
 have t20_3_2:w20.cell? ⟨w8.heap.size,2,none⟩=some (.slice A_c_arcs8 (c.arcs).length (c.arcs).length):=(hT20.cell (by omega) (fun hd=>by rcases hd with hd|hd<;>(have h1:=hd.1;(try rw[World.size_alloc] at h1);have h2:=hd.2;omega))).trans t19_3_2
 clear t19_3_2
 have l20_4:w9.heap.size<w20.heap.size:=by omega
 have t20_4_0:w20.cell? ⟨w9.heap.size,0,none⟩=some (.slice A_n_signals9 (n.signals).length (n.signals).length):=(hT20.cell (by omega) (fun hd=>by rcases hd with hd|hd<;>(have h1:=hd.1;(try rw[World.size_alloc] at h1);have h2:=hd.2;omega))).trans t19_4_0
 clear t19_4_0
 have t20_4_1:w20.cell? ⟨w9.heap.size,1,none⟩=some (.slice A_n_wires9 (n.wires).length (n.wires).length):=(hT20.cell (by omega) (fun hd=>by rcases hd with hd|hd<;>(have h1:=hd.1;(try rw[World.size_alloc] at h1);have h2:=hd.2;omega))).trans t19_4_1
 clear t19_4_1
 have ho7_0_20:=Touch.own hT20 ho7_0_19 (fun q hq hd=>by rcases hd with hd|hd<;>(have h1:=hd.1;(try rw[World.size_alloc] at h1);have h2:=hd.2;have h3:=hlt7_0 q hq;omega))
 clear ho7_0_19
 have ho7_1_20:=Touch.own hT20 ho7_1_19 (fun q hq hd=>by rcases hd with hd|hd<;>(have h1:=hd.1;(try rw[World.size_alloc] at h1);have h2:=hd.2;have h3:=hlt7_1 q hq;omega))
 clear ho7_1_19
 have ho12_0_20:=Touch.own hT20 ho12_0_19 (fun q hq hd=>by rcases hd with hd|hd<;>(have h1:=hd.1;(try rw[World.size_alloc] at h1);have h2:=hd.2;have h3:=hlt12_0 q hq;omega))
 clear ho12_0_19
 have ho12_1_20:=Touch.own hT20 ho12_1_19 (fun q hq hd=>by rcases hd with hd|hd<;>(have h1:=hd.1;(try rw[World.size_alloc] at h1);have h2:=hd.2;have h3:=hlt12_1 q hq;omega))
 clear ho12_1_19
 clear HXc_18
 clear HXn_18
 have qn:decide (n20<0)=false:=by simp;omega
 go_wp2_with fail
 refine (eqProductStateS A12_0 A7_0 c12_0 c7_0 R.1.1 _ (by omega) (RA.to ho12_0_20.ra (Below.refl _ _)) (RA.to ho7_0_20.ra (Below.refl _ _))).mono ?_
 rintro e w21 ⟨rfl,hb21⟩
 have hs21:Below w20.heap.size w20 w21:=hb21
 have HW21:Hid (Below w.heap.size w w21):=Zj (HW20.out.trans (hs21.mono HW20.out.size))
 obtain ⟨hc21,_⟩:=Z4 hb21
 have hz21:=hb21.size
 repeat rw[World.size_alloc] at hz21
 have l21_0:w.heap.size<w21.heap.size:=by omega
 have t21_0_0:w21.cell? ⟨w.heap.size,0,none⟩=some (.slice A_c_signals (c.signals).length c_c_signals):=(hc21 _ _ (by omega)).trans t20_0_0
 have t21_0_1:w21.cell? ⟨w.heap.size,1,none⟩=some (.slice A_c_codes (c.codes).length c_c_codes):=(hc21 _ _ (by omega)).trans t20_0_1
 have t21_0_2:w21.cell? ⟨w.heap.size,2,none⟩=some (.slice A_c_arcs (c.arcs).length c_c_arcs):=(hc21 _ _ (by omega)).trans t20_0_2
 have l21_1:w.heap.size+1<w21.heap.size:=by omega
 have t21_1_0:w21.cell? ⟨w.heap.size+1,0,none⟩=some (.slice A_n_signals (n.signals).length c_n_signals):=(hc21 _ _ (by omega)).trans t20_1_0
 have t21_1_1:w21.cell? ⟨w.heap.size+1,1,none⟩=some (.slice A_n_wires (n.wires).length c_n_wires):=(hc21 _ _ (by omega)).trans t20_1_1
 have l21_2:w.heap.size+1+1<w21.heap.size:=by omega
 have t21_2_0:w21.cell? ⟨w.heap.size+1+1,0,none⟩=some (.int .i64 b.state):=(hc21 _ _ (by omega)).trans t20_2_0
 have t21_2_1:w21.cell? ⟨w.heap.size+1+1,1,none⟩=some (.string ⟨(b.values).toArray⟩):=(hc21 _ _ (by omega)).trans t20_2_1
 have l21_3:w8.heap.size<w21.heap.size:=by omega
 have t21_3_0:w21.cell? ⟨w8.heap.size,0,none⟩=some (.slice A_c_signals8 (c.signals).length (c.signals).length):=(hc21 _ _ (by omega)).trans t20_3_0
 have t21_3_1:w21.cell? ⟨w8.heap.size,1,none⟩=some (.slice A_c_codes8 (c.codes).length (c.codes).length):=(hc21 _ _ (by omega)).trans t20_3_1
 have t21_3_2:w21.cell? ⟨w8.heap.size,2,none⟩=some (.slice A_c_arcs8 (c.arcs).length (c.arcs).length):=(hc21 _ _ (by omega)).trans t20_3_2
 have l21_4:w9.heap.size<w21.heap.size:=by omega
 have t21_4_0:w21.cell? ⟨w9.heap.size,0,none⟩=some (.slice A_n_signals9 (n.signals).length (n.signals).length):=(hc21 _ _ (by omega)).trans t20_4_0
 have t21_4_1:w21.cell? ⟨w9.heap.size,1,none⟩=some (.slice A_n_wires9 (n.wires).length (n.wires).length):=(hc21 _ _ (by omega)).trans t20_4_1
 clear t20_0_0
 clear t20_0_1
 clear t20_0_2
 clear t20_1_0
 clear t20_1_1
 clear t20_2_0
 clear t20_2_1
 clear t20_3_0
 clear t20_3_1
 clear t20_3_2
 clear t20_4_0
 clear t20_4_1
 have ho7_0_21:=Own.to ho7_0_20 hs21
 clear ho7_0_20
 have ho7_1_21:=Own.to ho7_1_20 hs21
 clear ho7_1_20
 have ho12_0_21:=Own.to ho12_0_20 hs21
 clear ho12_0_20
 have ho12_1_21:=Own.to ho12_1_20 hs21
 clear ho12_1_20
 clear hc21
 go_wp2_with fail
 refine (eqIntS A12_1 A7_1 c12_1 c7_1 R.1.2 _ (by omega) (RA.to ho12_1_21.ra (Below.refl _ _)) (RA.to ho7_1_21.ra (Below.refl _ _))).mono ?_
 rintro e w22 ⟨rfl,hb22⟩
 have hs22:Below w21.heap.size w21 w22:=hb22
 have HW22:Hid (Below w.heap.size w w22):=Zj (HW21.out.trans (hs22.mono HW21.out.size))
 obtain ⟨hc22,_⟩:=Z4 hb22
 have hz22:=hb22.size
 repeat rw[World.size_alloc] at hz22
 have l22_0:w.heap.size<w22.heap.size:=by omega
 have t22_0_0:w22.cell? ⟨w.heap.size,0,none⟩=some (.slice A_c_signals (c.signals).length c_c_signals):=(hc22 _ _ (by omega)).trans t21_0_0
 have t22_0_1:w22.cell? ⟨w.heap.size,1,none⟩=some (.slice A_c_codes (c.codes).length c_c_codes):=(hc22 _ _ (by omega)).trans t21_0_1
 have t22_0_2:w22.cell? ⟨w.heap.size,2,none⟩=some (.slice A_c_arcs (c.arcs).length c_c_arcs):=(hc22 _ _ (by omega)).trans t21_0_2
 have l22_1:w.heap.size+1<w22.heap.size:=by omega
 have t22_1_0:w22.cell? ⟨w.heap.size+1,0,none⟩=some (.slice A_n_signals (n.signals).length c_n_signals):=(hc22 _ _ (by omega)).trans t21_1_0
 have t22_1_1:w22.cell? ⟨w.heap.size+1,1,none⟩=some (.slice A_n_wires (n.wires).length c_n_wires):=(hc22 _ _ (by omega)).trans t21_1_1
 have l22_2:w.heap.size+1+1<w22.heap.size:=by omega
 have t22_2_0:w22.cell? ⟨w.heap.size+1+1,0,none⟩=some (.int .i64 b.state):=(hc22 _ _ (by omega)).trans t21_2_0
 have t22_2_1:w22.cell? ⟨w.heap.size+1+1,1,none⟩=some (.string ⟨(b.values).toArray⟩):=(hc22 _ _ (by omega)).trans t21_2_1
 have l22_3:w8.heap.size<w22.heap.size:=by omega
 have t22_3_0:w22.cell? ⟨w8.heap.size,0,none⟩=some (.slice A_c_signals8 (c.signals).length (c.signals).length):=(hc22 _ _ (by omega)).trans t21_3_0
 have t22_3_1:w22.cell? ⟨w8.heap.size,1,none⟩=some (.slice A_c_codes8 (c.codes).length (c.codes).length):=(hc22 _ _ (by omega)).trans t21_3_1
 have t22_3_2:w22.cell? ⟨w8.heap.size,2,none⟩=some (.slice A_c_arcs8 (c.arcs).length (c.arcs).length):=(hc22 _ _ (by omega)).trans t21_3_2
 have l22_4:w9.heap.size<w22.heap.size:=by omega
 have t22_4_0:w22.cell? ⟨w9.heap.size,0,none⟩=some (.slice A_n_signals9 (n.signals).length (n.signals).length):=(hc22 _ _ (by omega)).trans t21_4_0
 have t22_4_1:w22.cell? ⟨w9.heap.size,1,none⟩=some (.slice A_n_wires9 (n.wires).length (n.wires).length):=(hc22 _ _ (by omega)).trans t21_4_1
 clear t21_0_0
 clear t21_0_1
 clear t21_0_2
 clear t21_1_0
 clear t21_1_1
 clear t21_2_0
 clear t21_2_1
 clear t21_3_0
 clear t21_3_1
 clear t21_3_2
 clear t21_4_0
 clear t21_4_1
 have ho7_0_22:=Own.to ho7_0_21 hs22
 clear ho7_0_21
 have ho7_1_22:=Own.to ho7_1_21 hs22
 clear ho7_1_21
 have ho12_0_22:=Own.to ho12_0_21 hs22
 clear ho12_0_21
 have ho12_1_22:=Own.to ho12_1_21 hs22
 clear ho12_1_21
 clear hc22
 go_wp2_with fail
 refine (markProductStateS_own _ _ A12_0 c12_0 R.1.1 1 _ ho12_0_22 (by omega) (by omega)).mono ?_
 rintro e w23 ⟨rfl,hr23,hT23⟩
 have hz23:=hT23.size
 have HW23:Hid (Below w.heap.size w w23):=Zj (HW22.out.trans (hT23.below (fun q hd=>by have h3:=hlt12_0 q hd;omega) HW22.out.size))
 have l23_0:w.heap.size<w23.heap.size:=by omega
 have t23_0_0:w23.cell? ⟨w.heap.size,0,none⟩=some (.slice A_c_signals (c.signals).length c_c_signals):=(hT23.cell (by omega) (fun hd=>by have h3:=hlt12_0 _ hd;omega)).trans t22_0_0
 clear t22_0_0
 have t23_0_1:w23.cell? ⟨w.heap.size,1,none⟩=some (.slice A_c_codes (c.codes).length c_c_codes):=(hT23.cell (by omega) (fun hd=>by have h3:=hlt12_0 _ hd;omega)).trans t22_0_1
 clear t22_0_1
 have t23_0_2:w23.cell? ⟨w.heap.size,2,none⟩=some (.slice A_c_arcs (c.arcs).length c_c_arcs):=(hT23.cell (by omega) (fun hd=>by have h3:=hlt12_0 _ hd;omega)).trans t22_0_2
 clear t22_0_2
 have l23_1:w.heap.size+1<w23.heap.size:=by omega
 have t23_1_0:w23.cell? ⟨w.heap.size+1,0,none⟩=some (.slice A_n_signals (n.signals).length c_n_signals):=(hT23.cell (by omega) (fun hd=>by have h3:=hlt12_0 _ hd;omega)).trans t22_1_0
 clear t22_1_0
 have t23_1_1:w23.cell? ⟨w.heap.size+1,1,none⟩=some (.slice A_n_wires (n.wires).length c_n_wires):=(hT23.cell (by omega) (fun hd=>by have h3:=hlt12_0 _ hd;omega)).trans t22_1_1
 clear t22_1_1
 have l23_2:w.heap.size+1+1<w23.heap.size:=by omega
 have t23_2_0:w23.cell? ⟨w.heap.size+1+1,0,none⟩=some (.int .i64 b.state):=(hT23.cell (by omega) (fun hd=>by have h3:=hlt12_0 _ hd;omega)).trans t22_2_0
 clear t22_2_0
 have t23_2_1:w23.cell? ⟨w.heap.size+1+1,1,none⟩=some (.string ⟨(b.values).toArray⟩):=(hT23.cell (by omega) (fun hd=>by have h3:=hlt12_0 _ hd;omega)).trans t22_2_1
 clear t22_2_1
 have l23_3:w8.heap.size<w23.heap.size:=by omega
 have t23_3_0:w23.cell? ⟨w8.heap.size,0,none⟩=some (.slice A_c_signals8 (c.signals).length (c.signals).length):=(hT23.cell (by omega) (fun hd=>by have h3:=hlt12_0 _ hd;omega)).trans t22_3_0
 clear t22_3_0
 have t23_3_1:w23.cell? ⟨w8.heap.size,1,none⟩=some (.slice A_c_codes8 (c.codes).length (c.codes).length):=(hT23.cell (by omega) (fun hd=>by have h3:=hlt12_0 _ hd;omega)).trans t22_3_1
 clear t22_3_1
 have t23_3_2:w23.cell? ⟨w8.heap.size,2,none⟩=some (.slice A_c_arcs8 (c.arcs).length (c.arcs).length):=(hT23.cell (by omega) (fun hd=>by have h3:=hlt12_0 _ hd;omega)).trans t22_3_2
 clear t22_3_2
 have l23_4:w9.heap.size<w23.heap.size:=by omega
 have t23_4_0:w23.cell? ⟨w9.heap.size,0,none⟩=some (.slice A_n_signals9 (n.signals).length (n.signals).length):=(hT23.cell (by omega) (fun hd=>by have h3:=hlt12_0 _ hd;omega)).trans t22_4_0
 clear t22_4_0
 have t23_4_1:w23.cell? ⟨w9.heap.size,1,none⟩=some (.slice A_n_wires9 (n.wires).length (n.wires).length):=(hT23.cell (by omega) (fun hd=>by have h3:=hlt12_0 _ hd;omega)).trans t22_4_1
 clear t22_4_1
 have ho7_0_23:=Touch.own hT23 ho7_0_22 (fun q hq hd=>by have h3:=hlt7_0 q hq;have h4:=hlt12_0 q hd;omega)
 clear ho7_0_22
 have ho7_1_23:=Touch.own hT23 ho7_1_22 (fun q hq hd=>by have h3:=hlt7_1 q hq;have h4:=hlt12_0 q hd;omega)
 clear ho7_1_22
 have ho12_1_23:=Touch.own hT23 ho12_1_22 (fun q hq hd=>dj12_0_1 q hd hq)
 clear ho12_1_22
 go_wp2_with fail
 refine (markIntS_own _ _ A12_1 c12_1 R.1.2 (1+2 * (R.1.1.length:Int)) _ ho12_1_23 (by omega) (by omega)).mono ?_
 rintro e w24 ⟨rfl,hr24,hT24⟩
 have hz24:=hT24.size
 have HW24:Hid (Below w.heap.size w w24):=Zj (HW23.out.trans (hT24.below (fun q hd=>by have h3:=hlt12_1 q hd;omega) HW23.out.size))
 have l24_0:w.heap.size<w24.heap.size:=by omega
 have t24_0_0:w24.cell? ⟨w.heap.size,0,none⟩=some (.slice A_c_signals (c.signals).length c_c_signals):=(hT24.cell (by omega) (fun hd=>by have h3:=hlt12_1 _ hd;omega)).trans t23_0_0
 clear t23_0_0
 have t24_0_1:w24.cell? ⟨w.heap.size,1,none⟩=some (.slice A_c_codes (c.codes).length c_c_codes):=(hT24.cell (by omega) (fun hd=>by have h3:=hlt12_1 _ hd;omega)).trans t23_0_1
 clear t23_0_1
 have t24_0_2:w24.cell? ⟨w.heap.size,2,none⟩=some (.slice A_c_arcs (c.arcs).length c_c_arcs):=(hT24.cell (by omega) (fun hd=>by have h3:=hlt12_1 _ hd;omega)).trans t23_0_2
 clear t23_0_2
 have l24_1:w.heap.size+1<w24.heap.size:=by omega
 have t24_1_0:w24.cell? ⟨w.heap.size+1,0,none⟩=some (.slice A_n_signals (n.signals).length c_n_signals):=(hT24.cell (by omega) (fun hd=>by have h3:=hlt12_1 _ hd;omega)).trans t23_1_0
 clear t23_1_0
 have t24_1_1:w24.cell? ⟨w.heap.size+1,1,none⟩=some (.slice A_n_wires (n.wires).length c_n_wires):=(hT24.cell (by omega) (fun hd=>by have h3:=hlt12_1 _ hd;omega)).trans t23_1_1
 clear t23_1_1
 have l24_2:w.heap.size+1+1<w24.heap.size:=by omega
 have t24_2_0:w24.cell? ⟨w.heap.size+1+1,0,none⟩=some (.int .i64 b.state):=(hT24.cell (by omega) (fun hd=>by have h3:=hlt12_1 _ hd;omega)).trans t23_2_0
 clear t23_2_0
 have t24_2_1:w24.cell? ⟨w.heap.size+1+1,1,none⟩=some (.string ⟨(b.values).toArray⟩):=(hT24.cell (by omega) (fun hd=>by have h3:=hlt12_1 _ hd;omega)).trans t23_2_1
 clear t23_2_1
 have l24_3:w8.heap.size<w24.heap.size:=by omega
 have t24_3_0:w24.cell? ⟨w8.heap.size,0,none⟩=some (.slice A_c_signals8 (c.signals).length (c.signals).length):=(hT24.cell (by omega) (fun hd=>by have h3:=hlt12_1 _ hd;omega)).trans t23_3_0
 clear t23_3_0
 have t24_3_1:w24.cell? ⟨w8.heap.size,1,none⟩=some (.slice A_c_codes8 (c.codes).length (c.codes).length):=(hT24.cell (by omega) (fun hd=>by have h3:=hlt12_1 _ hd;omega)).trans t23_3_1
 clear t23_3_1
 have t24_3_2:w24.cell? ⟨w8.heap.size,2,none⟩=some (.slice A_c_arcs8 (c.arcs).length (c.arcs).length):=(hT24.cell (by omega) (fun hd=>by have h3:=hlt12_1 _ hd;omega)).trans t23_3_2
 clear t23_3_2
 have l24_4:w9.heap.size<w24.heap.size:=by omega
 have t24_4_0:w24.cell? ⟨w9.heap.size,0,none⟩=some (.slice A_n_signals9 (n.signals).length (n.signals).length):=(hT24.cell (by omega) (fun hd=>by have h3:=hlt12_1 _ hd;omega)).trans t23_4_0
 clear t23_4_0
 have t24_4_1:w24.cell? ⟨w9.heap.size,1,none⟩=some (.slice A_n_wires9 (n.wires).length (n.wires).length):=(hT24.cell (by omega) (fun hd=>by have h3:=hlt12_1 _ hd;omega)).trans t23_4_1
 clear t23_4_1
 have ho7_0_24:=Touch.own hT24 ho7_0_23 (fun q hq hd=>by have h3:=hlt7_0 q hq;have h4:=hlt12_1 q hd;omega)
 clear ho7_0_23
 have ho7_1_24:=Touch.own hT24 ho7_1_23 (fun q hq hd=>by have h3:=hlt7_1 q hq;have h4:=hlt12_1 q hd;omega)
 clear ho7_1_23
 have hr23_24:=hT24.rsl hr23 (fun q hq=>⟨by have h3:=hlt12_0 q hq;omega,fun hd=>dj12_0_1 q hq hd⟩)
 clear hr23
 have aG_12_0:RA Zcc w24 A12_0 (Zcf mkPSt 2 1 R.1.1):=hr23_24.mono (fun b hd=>by have h3:=hlt12_0 b hd;omega)
 have aG_12_1:RA Zp w24 A12_1 (Zcf mkInt 1 (1+2 * (R.1.1.length:Int)) R.1.2):=hr24.mono (fun b hd=>by have h3:=hlt12_1 b hd;omega)
 have qh:decide (1+2 * (R.1.1.length:Int)+1 * (R.1.2.length:Int)<0)=false:=by simp;omega
 go_wp2_with fail
 refine (heldProductStateS A12_0 c12_0 R.1.1 1 _ (by omega) (RA.to aG_12_0 (Below.refl _ _)) (by omega) (by omega)).mono ?_
 rintro e w25 ⟨rfl,hb25⟩
 have hs25:Below w24.heap.size w24 w25:=hb25
 have HW25:Hid (Below w.heap.size w w25):=Zj (HW24.out.trans (hs25.mono HW24.out.size))
 obtain ⟨hc25,_⟩:=Z4 hb25
 have hz25:=hb25.size
 repeat rw[World.size_alloc] at hz25
 have l25_0:w.heap.size<w25.heap.size:=by omega
 have t25_0_0:w25.cell? ⟨w.heap.size,0,none⟩=some (.slice A_c_signals (c.signals).length c_c_signals):=(hc25 _ _ (by omega)).trans t24_0_0
 have t25_0_1:w25.cell? ⟨w.heap.size,1,none⟩=some (.slice A_c_codes (c.codes).length c_c_codes):=(hc25 _ _ (by omega)).trans t24_0_1
 have t25_0_2:w25.cell? ⟨w.heap.size,2,none⟩=some (.slice A_c_arcs (c.arcs).length c_c_arcs):=(hc25 _ _ (by omega)).trans t24_0_2
 have l25_1:w.heap.size+1<w25.heap.size:=by omega
 have t25_1_0:w25.cell? ⟨w.heap.size+1,0,none⟩=some (.slice A_n_signals (n.signals).length c_n_signals):=(hc25 _ _ (by omega)).trans t24_1_0
 have t25_1_1:w25.cell? ⟨w.heap.size+1,1,none⟩=some (.slice A_n_wires (n.wires).length c_n_wires):=(hc25 _ _ (by omega)).trans t24_1_1
 have l25_2:w.heap.size+1+1<w25.heap.size:=by omega
 have t25_2_0:w25.cell? ⟨w.heap.size+1+1,0,none⟩=some (.int .i64 b.state):=(hc25 _ _ (by omega)).trans t24_2_0
 have t25_2_1:w25.cell? ⟨w.heap.size+1+1,1,none⟩=some (.string ⟨(b.values).toArray⟩):=(hc25 _ _ (by omega)).trans t24_2_1
 have l25_3:w8.heap.size<w25.heap.size:=by omega
 have t25_3_0:w25.cell? ⟨w8.heap.size,0,none⟩=some (.slice A_c_signals8 (c.signals).length (c.signals).length):=(hc25 _ _ (by omega)).trans t24_3_0
 have t25_3_1:w25.cell? ⟨w8.heap.size,1,none⟩=some (.slice A_c_codes8 (c.codes).length (c.codes).length):=(hc25 _ _ (by omega)).trans t24_3_1
 have t25_3_2:w25.cell? ⟨w8.heap.size,2,none⟩=some (.slice A_c_arcs8 (c.arcs).length (c.arcs).length):=(hc25 _ _ (by omega)).trans t24_3_2
 have l25_4:w9.heap.size<w25.heap.size:=by omega
 have t25_4_0:w25.cell? ⟨w9.heap.size,0,none⟩=some (.slice A_n_signals9 (n.signals).length (n.signals).length):=(hc25 _ _ (by omega)).trans t24_4_0
 have t25_4_1:w25.cell? ⟨w9.heap.size,1,none⟩=some (.slice A_n_wires9 (n.wires).length (n.wires).length):=(hc25 _ _ (by omega)).trans t24_4_1
 clear t24_0_0
 clear t24_0_1
 clear t24_0_2
 clear t24_1_0
 clear t24_1_1
 clear t24_2_0
 clear t24_2_1
 clear t24_3_0
 clear t24_3_1
 clear t24_3_2
 clear t24_4_0
 clear t24_4_1
 have aG_12_0_25:=RA.to aG_12_0 hs25
 clear aG_12_0
 have aG_12_1_25:=RA.to aG_12_1 hs25
 clear aG_12_1
 have ho7_0_25:=Own.to ho7_0_24 hs25
 clear ho7_0_24
 have ho7_1_25:=Own.to ho7_1_24 hs25
 clear ho7_1_24
 clear hc25
 go_wp2_with fail
 refine (heldIntS A12_1 c12_1 R.1.2 (1+2 * (R.1.1.length:Int)) _ (by omega) (RA.to aG_12_1_25 (Below.refl _ _)) (by omega) (by omega)).mono ?_
 rintro e w26 ⟨rfl,hb26⟩
 have hs26:Below w25.heap.size w25 w26:=hb26
 have HW26:Hid (Below w.heap.size w w26):=Zj (HW25.out.trans (hs26.mono HW25.out.size))
 obtain ⟨hc26,_⟩:=Z4 hb26
 have hz26:=hb26.size
 repeat rw[World.size_alloc] at hz26
 have l26_0:w.heap.size<w26.heap.size:=by omega
 have t26_0_0:w26.cell? ⟨w.heap.size,0,none⟩=some (.slice A_c_signals (c.signals).length c_c_signals):=(hc26 _ _ (by omega)).trans t25_0_0
 have t26_0_1:w26.cell? ⟨w.heap.size,1,none⟩=some (.slice A_c_codes (c.codes).length c_c_codes):=(hc26 _ _ (by omega)).trans t25_0_1
 have t26_0_2:w26.cell? ⟨w.heap.size,2,none⟩=some (.slice A_c_arcs (c.arcs).length c_c_arcs):=(hc26 _ _ (by omega)).trans t25_0_2
 have l26_1:w.heap.size+1<w26.heap.size:=by omega
 have t26_1_0:w26.cell? ⟨w.heap.size+1,0,none⟩=some (.slice A_n_signals (n.signals).length c_n_signals):=(hc26 _ _ (by omega)).trans t25_1_0
 have t26_1_1:w26.cell? ⟨w.heap.size+1,1,none⟩=some (.slice A_n_wires (n.wires).length c_n_wires):=(hc26 _ _ (by omega)).trans t25_1_1
 have l26_2:w.heap.size+1+1<w26.heap.size:=by omega
 have t26_2_0:w26.cell? ⟨w.heap.size+1+1,0,none⟩=some (.int .i64 b.state):=(hc26 _ _ (by omega)).trans t25_2_0
 have t26_2_1:w26.cell? ⟨w.heap.size+1+1,1,none⟩=some (.string ⟨(b.values).toArray⟩):=(hc26 _ _ (by omega)).trans t25_2_1
 have l26_3:w8.heap.size<w26.heap.size:=by omega
 have t26_3_0:w26.cell? ⟨w8.heap.size,0,none⟩=some (.slice A_c_signals8 (c.signals).length (c.signals).length):=(hc26 _ _ (by omega)).trans t25_3_0
 have t26_3_1:w26.cell? ⟨w8.heap.size,1,none⟩=some (.slice A_c_codes8 (c.codes).length (c.codes).length):=(hc26 _ _ (by omega)).trans t25_3_1
 have t26_3_2:w26.cell? ⟨w8.heap.size,2,none⟩=some (.slice A_c_arcs8 (c.arcs).length (c.arcs).length):=(hc26 _ _ (by omega)).trans t25_3_2
 have l26_4:w9.heap.size<w26.heap.size:=by omega
 have t26_4_0:w26.cell? ⟨w9.heap.size,0,none⟩=some (.slice A_n_signals9 (n.signals).length (n.signals).length):=(hc26 _ _ (by omega)).trans t25_4_0
 have t26_4_1:w26.cell? ⟨w9.heap.size,1,none⟩=some (.slice A_n_wires9 (n.wires).length (n.wires).length):=(hc26 _ _ (by omega)).trans t25_4_1
 clear t25_0_0
 clear t25_0_1
 clear t25_0_2
 clear t25_1_0
 clear t25_1_1
 clear t25_2_0
 clear t25_2_1
 clear t25_3_0
 clear t25_3_1
 clear t25_3_2
 clear t25_4_0
 clear t25_4_1
 have aG_12_0_26:=RA.to aG_12_0_25 hs26
 clear aG_12_0_25
 have aG_12_1_26:=RA.to aG_12_1_25 hs26
 clear aG_12_1_25
 have ho7_0_26:=Own.to ho7_0_25 hs26
 clear ho7_0_25
 have ho7_1_26:=Own.to ho7_1_25 hs26
 clear ho7_1_25
 clear hc26
 go_wp2_with fail
 go_region_held3 (fun W=>W.cell? ⟨w.heap.size,0,none⟩=some (.slice A_c_signals (c.signals).length c_c_signals)∧W.cell? ⟨w.heap.size,1,none⟩=some (.slice A_c_codes (c.codes).length c_c_codes)∧W.cell? ⟨w.heap.size,2,none⟩=some (.slice A_c_arcs (c.arcs).length c_c_arcs)∧W.cell? ⟨w.heap.size+1,0,none⟩=some (.slice A_n_signals (n.signals).length c_n_signals)∧W.cell? ⟨w.heap.size+1,1,none⟩=some (.slice A_n_wires (n.wires).length c_n_wires)∧W.cell? ⟨w.heap.size+1+1,0,none⟩=some (.int .i64 b.state)∧W.cell? ⟨w.heap.size+1+1,1,none⟩=some (.string ⟨(b.values).toArray⟩)) (first|exact ⟨t26_0_0,t26_0_1,t26_0_2,t26_1_0,t26_1_1,t26_2_0,t26_2_1⟩|exact ⟨t27_0_0,t27_0_1,t27_0_2,t27_1_0,t27_1_1,t27_2_0,t27_2_1⟩|exact ⟨t28_0_0,t28_0_1,t28_0_2,t28_1_0,t28_1_1,t28_2_0,t28_2_1⟩|exact ⟨t29_0_0,t29_0_1,t29_0_2,t29_1_0,t29_1_1,t29_2_0,t29_2_1⟩|exact ⟨t30_0_0,t30_0_1,t30_0_2,t30_1_0,t30_1_1,t30_2_0,t30_2_1⟩) (first
  | (
   go_at_call 15
   refine (toStateGraph c A_c_signals c_c_signals A_c_codes c_c_codes A_c_arcs c_c_arcs _ g0 g1 (RA.to g2 HW26.out.drew) g3 g4 (RA.to g5 HW26.out.drew) g6 g7 (RA.to g8 HW26.out.drew) qq_c).mono ?_
   rintro e w27 ⟨A_c_signals27,A_c_codes27,A_c_arcs27,rfl,rA_c_signals27,rA_c_codes27,rA_c_arcs27,hb27,fz27⟩
   have hs27:Below w26.heap.size w26 w27:=(Below.drew (Below.refl _ _)).trans hb27
   have HW27:Hid (Below w.heap.size w w27):=Zj (HW26.out.trans (hs27.mono HW26.out.size))
   obtain ⟨hc27,_⟩:=Z4 hs27
   have hz27:=hs27.size
   repeat rw[World.size_alloc] at hz27
   have l27_0:w.heap.size<w27.heap.size:=by omega
   have t27_0_0:w27.cell? ⟨w.heap.size,0,none⟩=some (.slice A_c_signals (c.signals).length c_c_signals):=(hc27 _ _ (by omega)).trans t26_0_0
   have t27_0_1:w27.cell? ⟨w.heap.size,1,none⟩=some (.slice A_c_codes (c.codes).length c_c_codes):=(hc27 _ _ (by omega)).trans t26_0_1
   have t27_0_2:w27.cell? ⟨w.heap.size,2,none⟩=some (.slice A_c_arcs (c.arcs).length c_c_arcs):=(hc27 _ _ (by omega)).trans t26_0_2
   have l27_1:w.heap.size+1<w27.heap.size:=by omega
   have t27_1_0:w27.cell? ⟨w.heap.size+1,0,none⟩=some (.slice A_n_signals (n.signals).length c_n_signals):=(hc27 _ _ (by omega)).trans t26_1_0
   have t27_1_1:w27.cell? ⟨w.heap.size+1,1,none⟩=some (.slice A_n_wires (n.wires).length c_n_wires):=(hc27 _ _ (by omega)).trans t26_1_1
   have l27_2:w.heap.size+1+1<w27.heap.size:=by omega
   have t27_2_0:w27.cell? ⟨w.heap.size+1+1,0,none⟩=some (.int .i64 b.state):=(hc27 _ _ (by omega)).trans t26_2_0
   have t27_2_1:w27.cell? ⟨w.heap.size+1+1,1,none⟩=some (.string ⟨(b.values).toArray⟩):=(hc27 _ _ (by omega)).trans t26_2_1
   have l27_3:w8.heap.size<w27.heap.size:=by omega
   have t27_3_0:w27.cell? ⟨w8.heap.size,0,none⟩=some (.slice A_c_signals8 (c.signals).length (c.signals).length):=(hc27 _ _ (by omega)).trans t26_3_0
   have t27_3_1:w27.cell? ⟨w8.heap.size,1,none⟩=some (.slice A_c_codes8 (c.codes).length (c.codes).length):=(hc27 _ _ (by omega)).trans t26_3_1
   have t27_3_2:w27.cell? ⟨w8.heap.size,2,none⟩=some (.slice A_c_arcs8 (c.arcs).length (c.arcs).length):=(hc27 _ _ (by omega)).trans t26_3_2
   have l27_4:w9.heap.size<w27.heap.size:=by omega
   have t27_4_0:w27.cell? ⟨w9.heap.size,0,none⟩=some (.slice A_n_signals9 (n.signals).length (n.signals).length):=(hc27 _ _ (by omega)).trans t26_4_0
   have t27_4_1:w27.cell? ⟨w9.heap.size,1,none⟩=some (.slice A_n_wires9 (n.wires).length (n.wires).length):=(hc27 _ _ (by omega)).trans t26_4_1
   clear t26_0_0
   clear t26_0_1
   clear t26_0_2
   clear t26_1_0
   clear t26_1_1
   clear t26_2_0
   clear t26_2_1
   clear t26_3_0
   clear t26_3_1
   clear t26_3_2
   clear t26_4_0
   clear t26_4_1
   have aG_12_0_27:=RA.to aG_12_0_26 hs27
   clear aG_12_0_26
   have aG_12_1_27:=RA.to aG_12_1_26 hs27
   clear aG_12_1_26
   have ho7_0_27:=Own.to ho7_0_26 hs27
   clear ho7_0_26
   have ho7_1_27:=Own.to ho7_1_26 hs27
   clear ho7_1_26
   clear hc27
   have aA_c_signals27:RA Z2 w27 A_c_signals27 c.signals:=(rA_c_signals27).mono fun b hb=>hb.2
   have aA_c_codes27:RA Zab w27 A_c_codes27 c.codes:=(rA_c_codes27).mono fun b hb=>hb.2
   have aA_c_arcs27:RA Zcv w27 A_c_arcs27 c.arcs:=(rA_c_arcs27).mono fun b hb=>hb.2
   )
  | (
   go_at_call 16
   refine (toNetlist n A_n_signals c_n_signals A_n_wires c_n_wires _ g9 g10 (RA.to g11 HW27.out) g12 g13 (RA.to g14 HW27.out) qq_n).mono ?_
   rintro e w28 ⟨A_n_signals28,A_n_wires28,rfl,rA_n_signals28,rA_n_wires28,hb28,fz28⟩
   have hs28:Below w27.heap.size w27 w28:=hb28
   have HW28:Hid (Below w.heap.size w w28):=Zj (HW27.out.trans (hs28.mono HW27.out.size))
   obtain ⟨hc28,_⟩:=Z4 hb28
   have hz28:=hb28.size
   repeat rw[World.size_alloc] at hz28
   have l28_0:w.heap.size<w28.heap.size:=by omega
   have t28_0_0:w28.cell? ⟨w.heap.size,0,none⟩=some (.slice A_c_signals (c.signals).length c_c_signals):=(hc28 _ _ (by omega)).trans t27_0_0
   have t28_0_1:w28.cell? ⟨w.heap.size,1,none⟩=some (.slice A_c_codes (c.codes).length c_c_codes):=(hc28 _ _ (by omega)).trans t27_0_1
   have t28_0_2:w28.cell? ⟨w.heap.size,2,none⟩=some (.slice A_c_arcs (c.arcs).length c_c_arcs):=(hc28 _ _ (by omega)).trans t27_0_2
   have l28_1:w.heap.size+1<w28.heap.size:=by omega
   have t28_1_0:w28.cell? ⟨w.heap.size+1,0,none⟩=some (.slice A_n_signals (n.signals).length c_n_signals):=(hc28 _ _ (by omega)).trans t27_1_0
   have t28_1_1:w28.cell? ⟨w.heap.size+1,1,none⟩=some (.slice A_n_wires (n.wires).length c_n_wires):=(hc28 _ _ (by omega)).trans t27_1_1
   have l28_2:w.heap.size+1+1<w28.heap.size:=by omega
   have t28_2_0:w28.cell? ⟨w.heap.size+1+1,0,none⟩=some (.int .i64 b.state):=(hc28 _ _ (by omega)).trans t27_2_0
   have t28_2_1:w28.cell? ⟨w.heap.size+1+1,1,none⟩=some (.string ⟨(b.values).toArray⟩):=(hc28 _ _ (by omega)).trans t27_2_1
   have l28_3:w8.heap.size<w28.heap.size:=by omega
   have t28_3_0:w28.cell? ⟨w8.heap.size,0,none⟩=some (.slice A_c_signals8 (c.signals).length (c.signals).length):=(hc28 _ _ (by omega)).trans t27_3_0
   have t28_3_1:w28.cell? ⟨w8.heap.size,1,none⟩=some (.slice A_c_codes8 (c.codes).length (c.codes).length):=(hc28 _ _ (by omega)).trans t27_3_1
   have t28_3_2:w28.cell? ⟨w8.heap.size,2,none⟩=some (.slice A_c_arcs8 (c.arcs).length (c.arcs).length):=(hc28 _ _ (by omega)).trans t27_3_2
   have l28_4:w9.heap.size<w28.heap.size:=by omega
   have t28_4_0:w28.cell? ⟨w9.heap.size,0,none⟩=some (.slice A_n_signals9 (n.signals).length (n.signals).length):=(hc28 _ _ (by omega)).trans t27_4_0
   have t28_4_1:w28.cell? ⟨w9.heap.size,1,none⟩=some (.slice A_n_wires9 (n.wires).length (n.wires).length):=(hc28 _ _ (by omega)).trans t27_4_1
   clear t27_0_0
   clear t27_0_1
   clear t27_0_2
   clear t27_1_0
   clear t27_1_1
   clear t27_2_0
   clear t27_2_1
   clear t27_3_0
   clear t27_3_1
   clear t27_3_2
   clear t27_4_0
   clear t27_4_1
   have aG_12_0_28:=RA.to aG_12_0_27 hs28
   clear aG_12_0_27
   have aG_12_1_28:=RA.to aG_12_1_27 hs28
   clear aG_12_1_27
   have aA_c_signals27_28:=RA.to aA_c_signals27 hs28
   clear aA_c_signals27
   have aA_c_codes27_28:=RA.to aA_c_codes27 hs28
   clear aA_c_codes27
   have aA_c_arcs27_28:=RA.to aA_c_arcs27 hs28
   clear aA_c_arcs27
   have ho7_0_28:=Own.to ho7_0_27 hs28
   clear ho7_0_27
   have ho7_1_28:=Own.to ho7_1_27 hs28
   clear ho7_1_27
   clear hc28
   have aA_n_signals28:RA Z2 w28 A_n_signals28 n.signals:=(rA_n_signals28).mono fun b hb=>hb.2
   have aA_n_wires28:RA Zah w28 A_n_wires28 n.wires:=(rA_n_wires28).mono fun b hb=>hb.2
   )
  | (
   go_at_call 23
   refine (toProductState b  _ g16 qq_b).mono ?_
   rintro e w29 ⟨rfl,hb29,fz29⟩
   have hs29:Below w28.heap.size w28 w29:=hb29
   have HW29:Hid (Below w.heap.size w w29):=Zj (HW28.out.trans (hs29.mono HW28.out.size))
   obtain ⟨hc29,_⟩:=Z4 hb29
   have hz29:=hb29.size
   repeat rw[World.size_alloc] at hz29
   have l29_0:w.heap.size<w29.heap.size:=by omega
   have t29_0_0:w29.cell? ⟨w.heap.size,0,none⟩=some (.slice A_c_signals (c.signals).length c_c_signals):=(hc29 _ _ (by omega)).trans t28_0_0
   have t29_0_1:w29.cell? ⟨w.heap.size,1,none⟩=some (.slice A_c_codes (c.codes).length c_c_codes):=(hc29 _ _ (by omega)).trans t28_0_1
   have t29_0_2:w29.cell? ⟨w.heap.size,2,none⟩=some (.slice A_c_arcs (c.arcs).length c_c_arcs):=(hc29 _ _ (by omega)).trans t28_0_2
   have l29_1:w.heap.size+1<w29.heap.size:=by omega
   have t29_1_0:w29.cell? ⟨w.heap.size+1,0,none⟩=some (.slice A_n_signals (n.signals).length c_n_signals):=(hc29 _ _ (by omega)).trans t28_1_0
   have t29_1_1:w29.cell? ⟨w.heap.size+1,1,none⟩=some (.slice A_n_wires (n.wires).length c_n_wires):=(hc29 _ _ (by omega)).trans t28_1_1
   have l29_2:w.heap.size+1+1<w29.heap.size:=by omega
   have t29_2_0:w29.cell? ⟨w.heap.size+1+1,0,none⟩=some (.int .i64 b.state):=(hc29 _ _ (by omega)).trans t28_2_0
   have t29_2_1:w29.cell? ⟨w.heap.size+1+1,1,none⟩=some (.string ⟨(b.values).toArray⟩):=(hc29 _ _ (by omega)).trans t28_2_1
   have l29_3:w8.heap.size<w29.heap.size:=by omega
   have t29_3_0:w29.cell? ⟨w8.heap.size,0,none⟩=some (.slice A_c_signals8 (c.signals).length (c.signals).length):=(hc29 _ _ (by omega)).trans t28_3_0
   have t29_3_1:w29.cell? ⟨w8.heap.size,1,none⟩=some (.slice A_c_codes8 (c.codes).length (c.codes).length):=(hc29 _ _ (by omega)).trans t28_3_1
   have t29_3_2:w29.cell? ⟨w8.heap.size,2,none⟩=some (.slice A_c_arcs8 (c.arcs).length (c.arcs).length):=(hc29 _ _ (by omega)).trans t28_3_2
   have l29_4:w9.heap.size<w29.heap.size:=by omega
   have t29_4_0:w29.cell? ⟨w9.heap.size,0,none⟩=some (.slice A_n_signals9 (n.signals).length (n.signals).length):=(hc29 _ _ (by omega)).trans t28_4_0
   have t29_4_1:w29.cell? ⟨w9.heap.size,1,none⟩=some (.slice A_n_wires9 (n.wires).length (n.wires).length):=(hc29 _ _ (by omega)).trans t28_4_1
   clear t28_0_0
   clear t28_0_1
   clear t28_0_2
   clear t28_1_0
   clear t28_1_1
   clear t28_2_0
   clear t28_2_1
   clear t28_3_0
   clear t28_3_1
   clear t28_3_2
   clear t28_4_0
   clear t28_4_1
   have aG_12_0_29:=RA.to aG_12_0_28 hs29
   clear aG_12_0_28
   have aG_12_1_29:=RA.to aG_12_1_28 hs29
   clear aG_12_1_28
   have aA_c_signals27_29:=RA.to aA_c_signals27_28 hs29
   clear aA_c_signals27_28
   have aA_c_codes27_29:=RA.to aA_c_codes27_28 hs29
   clear aA_c_codes27_28
   have aA_c_arcs27_29:=RA.to aA_c_arcs27_28 hs29
   clear aA_c_arcs27_28
   have aA_n_signals28_29:=RA.to aA_n_signals28 hs29
   clear aA_n_signals28
   have aA_n_wires28_29:=RA.to aA_n_wires28 hs29
   clear aA_n_wires28
   have ho7_0_29:=Own.to ho7_0_28 hs29
   clear ho7_0_28
   have ho7_1_29:=Own.to ho7_1_28 hs29
   clear ho7_1_28
   clear hc29
   )
  | (
   go_at_call 26
   refine (impl_Successors c n b A_c_signals27 (c.signals).length A_c_codes27 (c.codes).length A_c_arcs27 (c.arcs).length A_n_signals28 (n.signals).length A_n_wires28 (n.wires).length  _ (Nat.le_refl _) (by omega) (RA.to aA_c_signals27_29 (Below.refl _ _)) (Nat.le_refl _) (by omega) (RA.to aA_c_codes27_29 (Below.refl _ _)) (Nat.le_refl _) (by omega) (RA.to aA_c_arcs27_29 (Below.refl _ _)) (Nat.le_refl _) (by omega) (RA.to aA_n_signals28_29 (Below.refl _ _)) (Nat.le_refl _) (by omega) (RA.to aA_n_wires28_29 (Below.refl _ _)) g15 g16).mono ?_
   rintro e w30 ⟨A30_0,c30_0,A30_1,c30_1,rfl,ho30_0,ho30_1,dj30_0_1,hb30⟩
   have hs30:Below w29.heap.size w29 w30:=hb30
   have HW30:Hid (Below w.heap.size w w30):=Zj (HW29.out.trans (hs30.mono HW29.out.size))
   obtain ⟨hc30,_⟩:=Z4 hb30
   have hz30:=hb30.size
   repeat rw[World.size_alloc] at hz30
   have l30_0:w.heap.size<w30.heap.size:=by omega
   have t30_0_0:w30.cell? ⟨w.heap.size,0,none⟩=some (.slice A_c_signals (c.signals).length c_c_signals):=(hc30 _ _ (by omega)).trans t29_0_0
   have t30_0_1:w30.cell? ⟨w.heap.size,1,none⟩=some (.slice A_c_codes (c.codes).length c_c_codes):=(hc30 _ _ (by omega)).trans t29_0_1
   have t30_0_2:w30.cell? ⟨w.heap.size,2,none⟩=some (.slice A_c_arcs (c.arcs).length c_c_arcs):=(hc30 _ _ (by omega)).trans t29_0_2
   have l30_1:w.heap.size+1<w30.heap.size:=by omega
   have t30_1_0:w30.cell? ⟨w.heap.size+1,0,none⟩=some (.slice A_n_signals (n.signals).length c_n_signals):=(hc30 _ _ (by omega)).trans t29_1_0
   have t30_1_1:w30.cell? ⟨w.heap.size+1,1,none⟩=some (.slice A_n_wires (n.wires).length c_n_wires):=(hc30 _ _ (by omega)).trans t29_1_1
   have l30_2:w.heap.size+1+1<w30.heap.size:=by omega
   have t30_2_0:w30.cell? ⟨w.heap.size+1+1,0,none⟩=some (.int .i64 b.state):=(hc30 _ _ (by omega)).trans t29_2_0
   have t30_2_1:w30.cell? ⟨w.heap.size+1+1,1,none⟩=some (.string ⟨(b.values).toArray⟩):=(hc30 _ _ (by omega)).trans t29_2_1
   have l30_3:w8.heap.size<w30.heap.size:=by omega
   have t30_3_0:w30.cell? ⟨w8.heap.size,0,none⟩=some (.slice A_c_signals8 (c.signals).length (c.signals).length):=(hc30 _ _ (by omega)).trans t29_3_0
   have t30_3_1:w30.cell? ⟨w8.heap.size,1,none⟩=some (.slice A_c_codes8 (c.codes).length (c.codes).length):=(hc30 _ _ (by omega)).trans t29_3_1
   have t30_3_2:w30.cell? ⟨w8.heap.size,2,none⟩=some (.slice A_c_arcs8 (c.arcs).length (c.arcs).length):=(hc30 _ _ (by omega)).trans t29_3_2
   have l30_4:w9.heap.size<w30.heap.size:=by omega
   have t30_4_0:w30.cell? ⟨w9.heap.size,0,none⟩=some (.slice A_n_signals9 (n.signals).length (n.signals).length):=(hc30 _ _ (by omega)).trans t29_4_0
   have t30_4_1:w30.cell? ⟨w9.heap.size,1,none⟩=some (.slice A_n_wires9 (n.wires).length (n.wires).length):=(hc30 _ _ (by omega)).trans t29_4_1
   clear t29_0_0
   clear t29_0_1
   clear t29_0_2
   clear t29_1_0
   clear t29_1_1
   clear t29_2_0
   clear t29_2_1
   clear t29_3_0
   clear t29_3_1
   clear t29_3_2
   clear t29_4_0
   clear t29_4_1
   have aG_12_0_30:=RA.to aG_12_0_29 hs30
   clear aG_12_0_29
   have aG_12_1_30:=RA.to aG_12_1_29 hs30
   clear aG_12_1_29
   have aA_c_signals27_30:=RA.to aA_c_signals27_29 hs30
   clear aA_c_signals27_29
   have aA_c_codes27_30:=RA.to aA_c_codes27_29 hs30
   clear aA_c_codes27_29
   have aA_c_arcs27_30:=RA.to aA_c_arcs27_29 hs30
   clear aA_c_arcs27_29
   have aA_n_signals28_30:=RA.to aA_n_signals28_29 hs30
   clear aA_n_signals28_29
   have aA_n_wires28_30:=RA.to aA_n_wires28_29 hs30
   clear aA_n_wires28_29
   have ho7_0_30:=Own.to ho7_0_29 hs30
   clear ho7_0_29
   have ho7_1_30:=Own.to ho7_1_29 hs30
   clear ho7_1_29
   clear hc30
   rw[HR.out] at ho30_0
   have hlt30_0:=ho30_0.lt
   rw[HR.out] at ho30_1
   have hlt30_1:=ho30_1.lt
   rw[HR.out]
   )
  )
 go_wp2_with fail
 refine (eqProductStateS A30_0 A7_0 c30_0 c7_0 R.1.1 _ (by omega) (RA.to ho30_0.ra (Below.refl _ _)) (RA.to ho7_0_30.ra (Below.refl _ _))).mono ?_
 rintro e w31 ⟨rfl,hb31⟩
 have hs31:Below w30.heap.size w30 w31:=hb31
 have HW31:Hid (Below w.heap.size w w31):=Zj (HW30.out.trans (hs31.mono HW30.out.size))
 obtain ⟨hc31,_⟩:=Z4 hb31
 have hz31:=hb31.size
 repeat rw[World.size_alloc] at hz31
 have l31_0:w.heap.size<w31.heap.size:=by omega
 have t31_0_0:w31.cell? ⟨w.heap.size,0,none⟩=some (.slice A_c_signals (c.signals).length c_c_signals):=(hc31 _ _ (by omega)).trans t30_0_0
 have t31_0_1:w31.cell? ⟨w.heap.size,1,none⟩=some (.slice A_c_codes (c.codes).length c_c_codes):=(hc31 _ _ (by omega)).trans t30_0_1
 have t31_0_2:w31.cell? ⟨w.heap.size,2,none⟩=some (.slice A_c_arcs (c.arcs).length c_c_arcs):=(hc31 _ _ (by omega)).trans t30_0_2
 have l31_1:w.heap.size+1<w31.heap.size:=by omega
 have t31_1_0:w31.cell? ⟨w.heap.size+1,0,none⟩=some (.slice A_n_signals (n.signals).length c_n_signals):=(hc31 _ _ (by omega)).trans t30_1_0
 have t31_1_1:w31.cell? ⟨w.heap.size+1,1,none⟩=some (.slice A_n_wires (n.wires).length c_n_wires):=(hc31 _ _ (by omega)).trans t30_1_1
 have l31_2:w.heap.size+1+1<w31.heap.size:=by omega
 have t31_2_0:w31.cell? ⟨w.heap.size+1+1,0,none⟩=some (.int .i64 b.state):=(hc31 _ _ (by omega)).trans t30_2_0
 have t31_2_1:w31.cell? ⟨w.heap.size+1+1,1,none⟩=some (.string ⟨(b.values).toArray⟩):=(hc31 _ _ (by omega)).trans t30_2_1
 have l31_3:w8.heap.size<w31.heap.size:=by omega
 have t31_3_0:w31.cell? ⟨w8.heap.size,0,none⟩=some (.slice A_c_signals8 (c.signals).length (c.signals).length):=(hc31 _ _ (by omega)).trans t30_3_0
 have t31_3_1:w31.cell? ⟨w8.heap.size,1,none⟩=some (.slice A_c_codes8 (c.codes).length (c.codes).length):=(hc31 _ _ (by omega)).trans t30_3_1
 have t31_3_2:w31.cell? ⟨w8.heap.size,2,none⟩=some (.slice A_c_arcs8 (c.arcs).length (c.arcs).length):=(hc31 _ _ (by omega)).trans t30_3_2
 have l31_4:w9.heap.size<w31.heap.size:=by omega
 have t31_4_0:w31.cell? ⟨w9.heap.size,0,none⟩=some (.slice A_n_signals9 (n.signals).length (n.signals).length):=(hc31 _ _ (by omega)).trans t30_4_0
 have t31_4_1:w31.cell? ⟨w9.heap.size,1,none⟩=some (.slice A_n_wires9 (n.wires).length (n.wires).length):=(hc31 _ _ (by omega)).trans t30_4_1
 clear t30_0_0
 clear t30_0_1
 clear t30_0_2
 clear t30_1_0
 clear t30_1_1
 clear t30_2_0
 clear t30_2_1
 clear t30_3_0
 clear t30_3_1
 clear t30_3_2
 clear t30_4_0
 clear t30_4_1
 have aG_12_0_31:=RA.to aG_12_0_30 hs31
 clear aG_12_0_30
 have aG_12_1_31:=RA.to aG_12_1_30 hs31
 clear aG_12_1_30
 have aA_c_signals27_31:=RA.to aA_c_signals27_30 hs31
 clear aA_c_signals27_30
 have aA_c_codes27_31:=RA.to aA_c_codes27_30 hs31
 clear aA_c_codes27_30
 have aA_c_arcs27_31:=RA.to aA_c_arcs27_30 hs31
 clear aA_c_arcs27_30
 have aA_n_signals28_31:=RA.to aA_n_signals28_30 hs31
 clear aA_n_signals28_30
 have aA_n_wires28_31:=RA.to aA_n_wires28_30 hs31
 clear aA_n_wires28_30
 have ho7_0_31:=Own.to ho7_0_30 hs31
 clear ho7_0_30
 have ho7_1_31:=Own.to ho7_1_30 hs31
 clear ho7_1_30
 have ho30_0_31:=Own.to ho30_0 hs31
 clear ho30_0
 have ho30_1_31:=Own.to ho30_1 hs31
 clear ho30_1
 clear hc31
 go_wp2_with fail
 refine (eqIntS A30_1 A7_1 c30_1 c7_1 R.1.2 _ (by omega) (RA.to ho30_1_31.ra (Below.refl _ _)) (RA.to ho7_1_31.ra (Below.refl _ _))).mono ?_
 rintro e w32 ⟨rfl,hb32⟩
 have hs32:Below w31.heap.size w31 w32:=hb32
 have HW32:Hid (Below w.heap.size w w32):=Zj (HW31.out.trans (hs32.mono HW31.out.size))
 obtain ⟨hc32,_⟩:=Z4 hb32
 have hz32:=hb32.size
 repeat rw[World.size_alloc] at hz32
 have l32_0:w.heap.size<w32.heap.size:=by omega
 have t32_0_0:w32.cell? ⟨w.heap.size,0,none⟩=some (.slice A_c_signals (c.signals).length c_c_signals):=(hc32 _ _ (by omega)).trans t31_0_0
 have t32_0_1:w32.cell? ⟨w.heap.size,1,none⟩=some (.slice A_c_codes (c.codes).length c_c_codes):=(hc32 _ _ (by omega)).trans t31_0_1
 have t32_0_2:w32.cell? ⟨w.heap.size,2,none⟩=some (.slice A_c_arcs (c.arcs).length c_c_arcs):=(hc32 _ _ (by omega)).trans t31_0_2
 have l32_1:w.heap.size+1<w32.heap.size:=by omega
 have t32_1_0:w32.cell? ⟨w.heap.size+1,0,none⟩=some (.slice A_n_signals (n.signals).length c_n_signals):=(hc32 _ _ (by omega)).trans t31_1_0
 have t32_1_1:w32.cell? ⟨w.heap.size+1,1,none⟩=some (.slice A_n_wires (n.wires).length c_n_wires):=(hc32 _ _ (by omega)).trans t31_1_1
 have l32_2:w.heap.size+1+1<w32.heap.size:=by omega
 have t32_2_0:w32.cell? ⟨w.heap.size+1+1,0,none⟩=some (.int .i64 b.state):=(hc32 _ _ (by omega)).trans t31_2_0
 have t32_2_1:w32.cell? ⟨w.heap.size+1+1,1,none⟩=some (.string ⟨(b.values).toArray⟩):=(hc32 _ _ (by omega)).trans t31_2_1
 have l32_3:w8.heap.size<w32.heap.size:=by omega
 have t32_3_0:w32.cell? ⟨w8.heap.size,0,none⟩=some (.slice A_c_signals8 (c.signals).length (c.signals).length):=(hc32 _ _ (by omega)).trans t31_3_0
 have t32_3_1:w32.cell? ⟨w8.heap.size,1,none⟩=some (.slice A_c_codes8 (c.codes).length (c.codes).length):=(hc32 _ _ (by omega)).trans t31_3_1
 have t32_3_2:w32.cell? ⟨w8.heap.size,2,none⟩=some (.slice A_c_arcs8 (c.arcs).length (c.arcs).length):=(hc32 _ _ (by omega)).trans t31_3_2
 have l32_4:w9.heap.size<w32.heap.size:=by omega
 have t32_4_0:w32.cell? ⟨w9.heap.size,0,none⟩=some (.slice A_n_signals9 (n.signals).length (n.signals).length):=(hc32 _ _ (by omega)).trans t31_4_0
 have t32_4_1:w32.cell? ⟨w9.heap.size,1,none⟩=some (.slice A_n_wires9 (n.wires).length (n.wires).length):=(hc32 _ _ (by omega)).trans t31_4_1
 clear t31_0_0
 clear t31_0_1
 clear t31_0_2
 clear t31_1_0
 clear t31_1_1
 clear t31_2_0
 clear t31_2_1
 clear t31_3_0
 clear t31_3_1
 clear t31_3_2
 clear t31_4_0
 clear t31_4_1
 have aG_12_0_32:=RA.to aG_12_0_31 hs32
 clear aG_12_0_31
 have aG_12_1_32:=RA.to aG_12_1_31 hs32
 clear aG_12_1_31
 have aA_c_signals27_32:=RA.to aA_c_signals27_31 hs32
 clear aA_c_signals27_31
 have aA_c_codes27_32:=RA.to aA_c_codes27_31 hs32
 clear aA_c_codes27_31
 have aA_c_arcs27_32:=RA.to aA_c_arcs27_31 hs32
 clear aA_c_arcs27_31
 have aA_n_signals28_32:=RA.to aA_n_signals28_31 hs32
 clear aA_n_signals28_31
 have aA_n_wires28_32:=RA.to aA_n_wires28_31 hs32
 clear aA_n_wires28_31
 have ho7_0_32:=Own.to ho7_0_31 hs32
 clear ho7_0_31
 have ho7_1_32:=Own.to ho7_1_31 hs32
 clear ho7_1_31
 have ho30_0_32:=Own.to ho30_0_31 hs32
 clear ho30_0_31
 have ho30_1_32:=Own.to ho30_1_31 hs32
 clear ho30_1_31
 clear hc32
 go_wp2_with fail
 refine (heldProductStateS A12_0 c12_0 R.1.1 1 _ (by omega) (RA.to aG_12_0_32 (Below.refl _ _)) (by omega) (by omega)).mono ?_
 rintro e w33 ⟨rfl,hb33⟩
 have hs33:Below w32.heap.size w32 w33:=hb33
 have HW33:Hid (Below w.heap.size w w33):=Zj (HW32.out.trans (hs33.mono HW32.out.size))
 obtain ⟨hc33,_⟩:=Z4 hb33
 have hz33:=hb33.size
 repeat rw[World.size_alloc] at hz33
 have l33_0:w.heap.size<w33.heap.size:=by omega
 have t33_0_0:w33.cell? ⟨w.heap.size,0,none⟩=some (.slice A_c_signals (c.signals).length c_c_signals):=(hc33 _ _ (by omega)).trans t32_0_0
 have t33_0_1:w33.cell? ⟨w.heap.size,1,none⟩=some (.slice A_c_codes (c.codes).length c_c_codes):=(hc33 _ _ (by omega)).trans t32_0_1
 have t33_0_2:w33.cell? ⟨w.heap.size,2,none⟩=some (.slice A_c_arcs (c.arcs).length c_c_arcs):=(hc33 _ _ (by omega)).trans t32_0_2
 have l33_1:w.heap.size+1<w33.heap.size:=by omega
 have t33_1_0:w33.cell? ⟨w.heap.size+1,0,none⟩=some (.slice A_n_signals (n.signals).length c_n_signals):=(hc33 _ _ (by omega)).trans t32_1_0
 have t33_1_1:w33.cell? ⟨w.heap.size+1,1,none⟩=some (.slice A_n_wires (n.wires).length c_n_wires):=(hc33 _ _ (by omega)).trans t32_1_1
 have l33_2:w.heap.size+1+1<w33.heap.size:=by omega
 have t33_2_0:w33.cell? ⟨w.heap.size+1+1,0,none⟩=some (.int .i64 b.state):=(hc33 _ _ (by omega)).trans t32_2_0
 have t33_2_1:w33.cell? ⟨w.heap.size+1+1,1,none⟩=some (.string ⟨(b.values).toArray⟩):=(hc33 _ _ (by omega)).trans t32_2_1
 have l33_3:w8.heap.size<w33.heap.size:=by omega
 have t33_3_0:w33.cell? ⟨w8.heap.size,0,none⟩=some (.slice A_c_signals8 (c.signals).length (c.signals).length):=(hc33 _ _ (by omega)).trans t32_3_0
 have t33_3_1:w33.cell? ⟨w8.heap.size,1,none⟩=some (.slice A_c_codes8 (c.codes).length (c.codes).length):=(hc33 _ _ (by omega)).trans t32_3_1
 have t33_3_2:w33.cell? ⟨w8.heap.size,2,none⟩=some (.slice A_c_arcs8 (c.arcs).length (c.arcs).length):=(hc33 _ _ (by omega)).trans t32_3_2
 have l33_4:w9.heap.size<w33.heap.size:=by omega
 have t33_4_0:w33.cell? ⟨w9.heap.size,0,none⟩=some (.slice A_n_signals9 (n.signals).length (n.signals).length):=(hc33 _ _ (by omega)).trans t32_4_0
 have t33_4_1:w33.cell? ⟨w9.heap.size,1,none⟩=some (.slice A_n_wires9 (n.wires).length (n.wires).length):=(hc33 _ _ (by omega)).trans t32_4_1
 clear t32_0_0
 clear t32_0_1
 clear t32_0_2
 clear t32_1_0
 clear t32_1_1
 clear t32_2_0
 clear t32_2_1
 clear t32_3_0
 clear t32_3_1
 clear t32_3_2
 clear t32_4_0
 clear t32_4_1
 have aG_12_0_33:=RA.to aG_12_0_32 hs33
 clear aG_12_0_32
 have aG_12_1_33:=RA.to aG_12_1_32 hs33
 clear aG_12_1_32
 have aA_c_signals27_33:=RA.to aA_c_signals27_32 hs33
 clear aA_c_signals27_32
 have aA_c_codes27_33:=RA.to aA_c_codes27_32 hs33
 clear aA_c_codes27_32
 have aA_c_arcs27_33:=RA.to aA_c_arcs27_32 hs33
 clear aA_c_arcs27_32
 have aA_n_signals28_33:=RA.to aA_n_signals28_32 hs33
 clear aA_n_signals28_32
 have aA_n_wires28_33:=RA.to aA_n_wires28_32 hs33
 clear aA_n_wires28_32
 have ho7_0_33:=Own.to ho7_0_32 hs33
 clear ho7_0_32
 have ho7_1_33:=Own.to ho7_1_32 hs33
 clear ho7_1_32
 have ho30_0_33:=Own.to ho30_0_32 hs33
 clear ho30_0_32
 have ho30_1_33:=Own.to ho30_1_32 hs33
 clear ho30_1_32
 clear hc33
 go_wp2_with fail
 refine (heldIntS A12_1 c12_1 R.1.2 (1+2 * (R.1.1.length:Int)) _ (by omega) (RA.to aG_12_1_33 (Below.refl _ _)) (by omega) (by omega)).mono ?_
 rintro e w34 ⟨rfl,hb34⟩
 have hs34:Below w33.heap.size w33 w34:=hb34
 have HW34:Hid (Below w.heap.size w w34):=Zj (HW33.out.trans (hs34.mono HW33.out.size))
 obtain ⟨hc34,_⟩:=Z4 hb34
 have hz34:=hb34.size
 repeat rw[World.size_alloc] at hz34
 have l34_0:w.heap.size<w34.heap.size:=by omega
 have t34_0_0:w34.cell? ⟨w.heap.size,0,none⟩=some (.slice A_c_signals (c.signals).length c_c_signals):=(hc34 _ _ (by omega)).trans t33_0_0
 have t34_0_1:w34.cell? ⟨w.heap.size,1,none⟩=some (.slice A_c_codes (c.codes).length c_c_codes):=(hc34 _ _ (by omega)).trans t33_0_1
 have t34_0_2:w34.cell? ⟨w.heap.size,2,none⟩=some (.slice A_c_arcs (c.arcs).length c_c_arcs):=(hc34 _ _ (by omega)).trans t33_0_2
 have l34_1:w.heap.size+1<w34.heap.size:=by omega
 have t34_1_0:w34.cell? ⟨w.heap.size+1,0,none⟩=some (.slice A_n_signals (n.signals).length c_n_signals):=(hc34 _ _ (by omega)).trans t33_1_0
 have t34_1_1:w34.cell? ⟨w.heap.size+1,1,none⟩=some (.slice A_n_wires (n.wires).length c_n_wires):=(hc34 _ _ (by omega)).trans t33_1_1
 have l34_2:w.heap.size+1+1<w34.heap.size:=by omega
 have t34_2_0:w34.cell? ⟨w.heap.size+1+1,0,none⟩=some (.int .i64 b.state):=(hc34 _ _ (by omega)).trans t33_2_0
 have t34_2_1:w34.cell? ⟨w.heap.size+1+1,1,none⟩=some (.string ⟨(b.values).toArray⟩):=(hc34 _ _ (by omega)).trans t33_2_1
 have l34_3:w8.heap.size<w34.heap.size:=by omega
 have t34_3_0:w34.cell? ⟨w8.heap.size,0,none⟩=some (.slice A_c_signals8 (c.signals).length (c.signals).length):=(hc34 _ _ (by omega)).trans t33_3_0
 have t34_3_1:w34.cell? ⟨w8.heap.size,1,none⟩=some (.slice A_c_codes8 (c.codes).length (c.codes).length):=(hc34 _ _ (by omega)).trans t33_3_1
 have t34_3_2:w34.cell? ⟨w8.heap.size,2,none⟩=some (.slice A_c_arcs8 (c.arcs).length (c.arcs).length):=(hc34 _ _ (by omega)).trans t33_3_2
 have l34_4:w9.heap.size<w34.heap.size:=by omega
 have t34_4_0:w34.cell? ⟨w9.heap.size,0,none⟩=some (.slice A_n_signals9 (n.signals).length (n.signals).length):=(hc34 _ _ (by omega)).trans t33_4_0
 have t34_4_1:w34.cell? ⟨w9.heap.size,1,none⟩=some (.slice A_n_wires9 (n.wires).length (n.wires).length):=(hc34 _ _ (by omega)).trans t33_4_1
 clear t33_0_0
 clear t33_0_1
 clear t33_0_2
 clear t33_1_0
 clear t33_1_1
 clear t33_2_0
 clear t33_2_1
 clear t33_3_0
 clear t33_3_1
 clear t33_3_2
 clear t33_4_0
 clear t33_4_1
 have aG_12_0_34:=RA.to aG_12_0_33 hs34
 clear aG_12_0_33
 have aG_12_1_34:=RA.to aG_12_1_33 hs34
 clear aG_12_1_33
 have aA_c_signals27_34:=RA.to aA_c_signals27_33 hs34
 clear aA_c_signals27_33
 have aA_c_codes27_34:=RA.to aA_c_codes27_33 hs34
 clear aA_c_codes27_33
 have aA_c_arcs27_34:=RA.to aA_c_arcs27_33 hs34
 clear aA_c_arcs27_33
 have aA_n_signals28_34:=RA.to aA_n_signals28_33 hs34
 clear aA_n_signals28_33
 have aA_n_wires28_34:=RA.to aA_n_wires28_33 hs34
 clear aA_n_wires28_33
 have ho7_0_34:=Own.to ho7_0_33 hs34
 clear ho7_0_33
 have ho7_1_34:=Own.to ho7_1_33 hs34
 clear ho7_1_33
 have ho30_0_34:=Own.to ho30_0_33 hs34
 clear ho30_0_33
 have ho30_1_34:=Own.to ho30_1_33 hs34
 clear ho30_1_33
 clear hc34
 go_wp2_with fail
 go_ret
 exact ⟨rfl,HW34.out⟩
end Go.Proofs.YtmfplddmccggkaaGreat.Lw
