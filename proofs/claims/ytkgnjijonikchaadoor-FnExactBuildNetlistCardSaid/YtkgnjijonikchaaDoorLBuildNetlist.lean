import Derived.Test.YtkgnjijonikchaaDoorRows
import Derived.Test.YtkgnjijonikchaaDoorBuildNetlistC
import Derived.Test.YtkgnjijonikchaaDoorLawCr
import Derived.Test.YtkgnjijonikchaaDoorMarkWn
namespace Go.Proofs.YtkgnjijonikchaaDoor.Lw
open Go.RowKit
set_option linter.unusedVariables false
set_option maxHeartbeats 4000000 in
set_option maxRecDepth 20000 in
theorem law_BuildNetlist (c:Crc) (A_c_signals:Option Addr) (c_c_signals:Nat) (A_c_gates:Option Addr) (c_c_gates:Nat) (w:World) (g0:(c.signals).length≤c_c_signals) (g1:c_c_signals≤9223372036854775807) (g2:RA Zo2 w A_c_signals c.signals) (g3:(c.gates).length≤c_c_gates) (g4:c_c_gates≤9223372036854775807) (g5:RA Zpc w A_c_gates c.gates) (hg:GOk w fun b=>b<w.heap.size):
 Calls Tryd.prog 3 #[.agg #[.slice A_c_signals (c.signals).length c_c_signals,.slice A_c_gates (c.gates).length c_c_gates]] w fun e w'=>e=.returned (.bool true)∧Below w.heap.size w w':=by
 obtain ⟨R,hR⟩:∃R,bnA c=R:=⟨_,rfl⟩
 have hRb:=bnA_bound c
 rw[hR] at hRb
 have HR:=ZE hR;clear hR
 go_enter Tryd.func3,Tryd.ntmps3
 go_wp2_with fail
 refine (szCircuit c A_c_signals c_c_signals A_c_gates c_c_gates (1048576) _ g0 g1 (RA.to g2 gG) g3 g4 (RA.to g5 gG) (by omega) (by omega)).mono ?_
 rintro e w1 ⟨rfl,hb1⟩
 have HW1:Hid (Below w.heap.size w w1):=ZE gG
 obtain ⟨hc1,_⟩:=Zah hb1
 have hz1:=hb1.size
 repeat rw[World.size_alloc] at hz1
 have l1_0:w.heap.size<w1.heap.size:=by omega
 have t1_0_0:w1.cell? ⟨w.heap.size,0,none⟩=some (.slice A_c_signals (c.signals).length c_c_signals):=by rw[hc1 _ _ (by first|omega|(repeat rw[World.size_alloc]);omega)];simp[go_sem]
 have t1_0_1:w1.cell? ⟨w.heap.size,1,none⟩=some (.slice A_c_gates (c.gates).length c_c_gates):=by rw[hc1 _ _ (by first|omega|(repeat rw[World.size_alloc]);omega)];simp[go_sem]
 clear hc1
 by_cases q_c:(1048576:Int)<((wtCrc c):Nat)
 ·rw[ZcD q_c]
  go_wp2_with fail
  go_ret
  exact ⟨rfl,HW1.out⟩
 rw[ZcE q_c]
 have qq_c:((wtCrc c):Nat)≤1048576:=by omega
 have qs_c:=qq_c
 unfold wtCrc at qs_c
 go_wp2_with fail
 refine (toCircuit c A_c_signals c_c_signals A_c_gates c_c_gates _ g0 g1 (RA.to g2 HW1.out) g3 g4 (RA.to g5 HW1.out) qq_c).mono ?_
 rintro e w2 ⟨A_c_signals2,A_c_gates2,rfl,rA_c_signals2,rA_c_gates2,hb2,fz2⟩
 have hs2:Below w1.heap.size w1 w2:=hb2
 have HW2:Hid (Below w.heap.size w w2):=ZE (HW1.out.trans (hs2.mono HW1.out.size))
 obtain ⟨hc2,_⟩:=Zah hb2
 have hz2:=hb2.size
 repeat rw[World.size_alloc] at hz2
 have l2_0:w.heap.size<w2.heap.size:=by omega
 have t2_0_0:w2.cell? ⟨w.heap.size,0,none⟩=some (.slice A_c_signals (c.signals).length c_c_signals):=(hc2 _ _ (by omega)).trans t1_0_0
 have t2_0_1:w2.cell? ⟨w.heap.size,1,none⟩=some (.slice A_c_gates (c.gates).length c_c_gates):=(hc2 _ _ (by omega)).trans t1_0_1
 clear t1_0_0
 clear t1_0_1
 clear hc2
 have aA_c_signals2:RA Zo2 w2 A_c_signals2 c.signals:=(rA_c_signals2).mono fun b hb=>hb.2
 have aA_c_gates2:RA Zpc w2 A_c_gates2 c.gates:=(rA_c_gates2).mono fun b hb=>hb.2
 go_wp2_with fail
 refine (spec_BuildNetlist c A_c_signals2 (c.signals).length A_c_gates2 (c.gates).length _ (Nat.le_refl _) (by omega) (RA.to aA_c_signals2 (Below.refl _ _)) (Nat.le_refl _) (by omega) (RA.to aA_c_gates2 (Below.refl _ _)) (gok_to hg HW2.out)).mono ?_
 rintro e w3 ⟨A3_0,c3_0,A3_1,c3_1,rfl,ho3_0,ho3_1,hb3⟩
 have hs3:Below w2.heap.size w2 w3:=hb3
 have HW3:Hid (Below w.heap.size w w3):=ZE (HW2.out.trans (hs3.mono HW2.out.size))
 obtain ⟨hc3,_⟩:=Zah hb3
 have hz3:=hb3.size
 repeat rw[World.size_alloc] at hz3
 have l3_0:w.heap.size<w3.heap.size:=by omega
 have t3_0_0:w3.cell? ⟨w.heap.size,0,none⟩=some (.slice A_c_signals (c.signals).length c_c_signals):=(hc3 _ _ (by omega)).trans t2_0_0
 have t3_0_1:w3.cell? ⟨w.heap.size,1,none⟩=some (.slice A_c_gates (c.gates).length c_c_gates):=(hc3 _ _ (by omega)).trans t2_0_1
 clear t2_0_0
 clear t2_0_1
 have aA_c_signals2_3:=RA.to aA_c_signals2 hs3
 clear aA_c_signals2
 have aA_c_gates2_3:=RA.to aA_c_gates2 hs3
 clear aA_c_gates2
 clear hc3
 rw[HR.out] at ho3_0
 have hlt3_0:=fun (q:Nat) (h:q<w3.heap.size)=>h
 rw[HR.out] at ho3_1
 have hlt3_1:=fun (q:Nat) (h:q<w3.heap.size)=>h
 rw[HR.out]
 go_wp2_with fail
 refine (toCircuit c A_c_signals c_c_signals A_c_gates c_c_gates _ g0 g1 (RA.to g2 (HW3.out.alloc HW3.out.size _)) g3 g4 (RA.to g5 (HW3.out.alloc HW3.out.size _)) qq_c).mono ?_
 rintro e w4 ⟨A_c_signals4,A_c_gates4,rfl,rA_c_signals4,rA_c_gates4,hb4,fz4⟩
 have hs4:Below w3.heap.size w3 w4:=((Below.refl _ _).alloc (Nat.le_refl _) _).trans (hb4.mono (by rw[World.size_alloc];omega))
 have HW4:Hid (Below w.heap.size w w4):=ZE (HW3.out.trans (hs4.mono HW3.out.size))
 obtain ⟨hc4,_⟩:=Zah hb4
 have hz4:=hb4.size
 repeat rw[World.size_alloc] at hz4
 have l4_0:w.heap.size<w4.heap.size:=by omega
 have t4_0_0:w4.cell? ⟨w.heap.size,0,none⟩=some (.slice A_c_signals (c.signals).length c_c_signals):=(hc4 _ _ (by rw[World.size_alloc];omega)).trans (by rw[World.cell?_alloc_past _ _ _ (by omega)];exact t3_0_0)
 have t4_0_1:w4.cell? ⟨w.heap.size,1,none⟩=some (.slice A_c_gates (c.gates).length c_c_gates):=(hc4 _ _ (by rw[World.size_alloc];omega)).trans (by rw[World.cell?_alloc_past _ _ _ (by omega)];exact t3_0_1)
 have l4_1:w3.heap.size<w4.heap.size:=by omega
 have t4_1_0:w4.cell? ⟨w3.heap.size,0,none⟩=some (.slice A3_0 (R.1.signals).length c3_0):=by rw[hc4 _ _ (by first|omega|(repeat rw[World.size_alloc]);omega)];simp[go_sem]
 have t4_1_1:w4.cell? ⟨w3.heap.size,1,none⟩=some (.slice A3_1 (R.1.wires).length c3_1):=by rw[hc4 _ _ (by first|omega|(repeat rw[World.size_alloc]);omega)];simp[go_sem]
 clear t3_0_0
 clear t3_0_1
 have ho3_0_4:=Seen.to ho3_0 hs4
 clear ho3_0
 have ho3_1_4:=Seen.to ho3_1 hs4
 clear ho3_1
 clear hc4
 have aA_c_signals4:RA Zo2 w4 A_c_signals4 c.signals:=(rA_c_signals4).mono fun b hb=>hb.2
 have aA_c_gates4:RA Zpc w4 A_c_gates4 c.gates:=(rA_c_gates4).mono fun b hb=>hb.2
 have hlo_c:w.heap.size≤w3.heap.size:=HW3.out.size
 go_wp2_with fail
 refine (impl_BuildNetlist c A_c_signals4 (c.signals).length A_c_gates4 (c.gates).length _ (Nat.le_refl _) (by omega) (RA.to aA_c_signals4 ((Below.refl _ _).alloc (Nat.le_refl _) _)) (Nat.le_refl _) (by omega) (RA.to aA_c_gates4 ((Below.refl _ _).alloc (Nat.le_refl _) _)) qq_c (gok_to hg (HW4.out.alloc HW4.out.size _))).mono ?_
 rintro e w5 ⟨A5_0,c5_0,A5_1,c5_1,hs_5,rfl,ho5_0,ho5_1,dj5,hb5⟩
 have hs5:Below w4.heap.size w4 w5:=((Below.refl _ _).alloc (Nat.le_refl _) _).trans (hb5.mono (by rw[World.size_alloc];omega))
 have HW5:Hid (Below w.heap.size w w5):=ZE (HW4.out.trans (hs5.mono HW4.out.size))
 obtain ⟨hc5,_⟩:=Zah hb5
 have hz5:=hb5.size
 repeat rw[World.size_alloc] at hz5
 have l5_0:w.heap.size<w5.heap.size:=by omega
 have t5_0_0:w5.cell? ⟨w.heap.size,0,none⟩=some (.slice A_c_signals (c.signals).length c_c_signals):=(hc5 _ _ (by rw[World.size_alloc];omega)).trans (by rw[World.cell?_alloc_past _ _ _ (by omega)];exact t4_0_0)
 have t5_0_1:w5.cell? ⟨w.heap.size,1,none⟩=some (.slice A_c_gates (c.gates).length c_c_gates):=(hc5 _ _ (by rw[World.size_alloc];omega)).trans (by rw[World.cell?_alloc_past _ _ _ (by omega)];exact t4_0_1)
 have l5_1:w3.heap.size<w5.heap.size:=by omega
 have t5_1_0:w5.cell? ⟨w3.heap.size,0,none⟩=some (.slice A3_0 (R.1.signals).length c3_0):=(hc5 _ _ (by rw[World.size_alloc];omega)).trans (by rw[World.cell?_alloc_past _ _ _ (by omega)];exact t4_1_0)
 have t5_1_1:w5.cell? ⟨w3.heap.size,1,none⟩=some (.slice A3_1 (R.1.wires).length c3_1):=(hc5 _ _ (by rw[World.size_alloc];omega)).trans (by rw[World.cell?_alloc_past _ _ _ (by omega)];exact t4_1_1)
 have l5_2:w4.heap.size<w5.heap.size:=by omega
 have t5_2_0:w5.cell? ⟨w4.heap.size,0,none⟩=some (.slice A_c_signals4 (c.signals).length (c.signals).length):=by rw[hc5 _ _ (by first|omega|(repeat rw[World.size_alloc]);omega)];simp[go_sem]
 have t5_2_1:w5.cell? ⟨w4.heap.size,1,none⟩=some (.slice A_c_gates4 (c.gates).length (c.gates).length):=by rw[hc5 _ _ (by first|omega|(repeat rw[World.size_alloc]);omega)];simp[go_sem]
 clear t4_0_0
 clear t4_0_1
 clear t4_1_0
 clear t4_1_1
 have aA_c_signals4_5:=RA.to aA_c_signals4 hs5
 clear aA_c_signals4
 have aA_c_gates4_5:=RA.to aA_c_gates4 hs5
 clear aA_c_gates4
 have HXc_5:Hid (Below w4.heap.size w4 w5):=ZE hs5
 have ho3_0_5:=Seen.to ho3_0_4 hs5
 clear ho3_0_4
 have ho3_1_5:=Seen.to ho3_1_4 hs5
 clear ho3_1_4
 clear hc5
 rw[HR.out] at ho5_0
 have hlt5_0:=ho5_0.lt
 simp only[World.size_alloc] at hlt5_0
 rw[HR.out] at ho5_1
 have hlt5_1:=ho5_1.lts
 simp only[World.size_alloc] at hlt5_1
 rw[HR.out]
 go_wp2_with fail
 refine (eqNetlist (R.1) A5_0 c5_0 A5_1 c5_1 A3_0 c3_0 A3_1 c3_1 _ ho5_0.cap.1 ho5_0.cap.2 (RA.to ho5_0.ra ((Below.refl _ _).alloc (Nat.le_refl _) _)) ho5_1.cap.1 ho5_1.cap.2 (RA.to ho5_1.ra ((Below.refl _ _).alloc (Nat.le_refl _) _)) ho3_0_5.cap.1 ho3_0_5.cap.2 (RA.to ho3_0_5.ra ((Below.refl _ _).alloc (Nat.le_refl _) _)) ho3_1_5.cap.1 ho3_1_5.cap.2 (RA.to ho3_1_5.ra ((Below.refl _ _).alloc (Nat.le_refl _) _))).mono ?_
 rintro e w6 ⟨rfl,hb6⟩
 have hs6:Below w5.heap.size w5 w6:=((Below.refl _ _).alloc (Nat.le_refl _) _).trans (hb6.mono (by rw[World.size_alloc];omega))
 have HW6:Hid (Below w.heap.size w w6):=ZE (HW5.out.trans (hs6.mono HW5.out.size))
 obtain ⟨hc6,_⟩:=Zah hb6
 have hz6:=hb6.size
 repeat rw[World.size_alloc] at hz6
 have l6_0:w.heap.size<w6.heap.size:=by omega
 have t6_0_0:w6.cell? ⟨w.heap.size,0,none⟩=some (.slice A_c_signals (c.signals).length c_c_signals):=(hc6 _ _ (by rw[World.size_alloc];omega)).trans (by rw[World.cell?_alloc_past _ _ _ (by omega)];exact t5_0_0)
 have t6_0_1:w6.cell? ⟨w.heap.size,1,none⟩=some (.slice A_c_gates (c.gates).length c_c_gates):=(hc6 _ _ (by rw[World.size_alloc];omega)).trans (by rw[World.cell?_alloc_past _ _ _ (by omega)];exact t5_0_1)
 have l6_1:w3.heap.size<w6.heap.size:=by omega
 have t6_1_0:w6.cell? ⟨w3.heap.size,0,none⟩=some (.slice A3_0 (R.1.signals).length c3_0):=(hc6 _ _ (by rw[World.size_alloc];omega)).trans (by rw[World.cell?_alloc_past _ _ _ (by omega)];exact t5_1_0)
 have t6_1_1:w6.cell? ⟨w3.heap.size,1,none⟩=some (.slice A3_1 (R.1.wires).length c3_1):=(hc6 _ _ (by rw[World.size_alloc];omega)).trans (by rw[World.cell?_alloc_past _ _ _ (by omega)];exact t5_1_1)
 have l6_2:w4.heap.size<w6.heap.size:=by omega
 have t6_2_0:w6.cell? ⟨w4.heap.size,0,none⟩=some (.slice A_c_signals4 (c.signals).length (c.signals).length):=(hc6 _ _ (by rw[World.size_alloc];omega)).trans (by rw[World.cell?_alloc_past _ _ _ (by omega)];exact t5_2_0)
 have t6_2_1:w6.cell? ⟨w4.heap.size,1,none⟩=some (.slice A_c_gates4 (c.gates).length (c.gates).length):=(hc6 _ _ (by rw[World.size_alloc];omega)).trans (by rw[World.cell?_alloc_past _ _ _ (by omega)];exact t5_2_1)
 have l6_3:w5.heap.size<w6.heap.size:=by omega
 have t6_3_0:w6.cell? ⟨w5.heap.size,0,none⟩=some (.slice A5_0 (R.1.signals).length c5_0):=by rw[hc6 _ _ (by first|omega|(repeat rw[World.size_alloc]);omega)];simp[go_sem]
 have t6_3_1:w6.cell? ⟨w5.heap.size,1,none⟩=some (.slice A5_1 (R.1.wires).length c5_1):=by rw[hc6 _ _ (by first|omega|(repeat rw[World.size_alloc]);omega)];simp[go_sem]
 clear t5_0_0
 clear t5_0_1
 clear t5_1_0
 clear t5_1_1
 clear t5_2_0
 clear t5_2_1
 have aA_c_signals4_6:=RA.to aA_c_signals4_5 hs6
 clear aA_c_signals4_5
 have aA_c_gates4_6:=RA.to aA_c_gates4_5 hs6
 clear aA_c_gates4_5
 have HXc_6:Hid (Below w4.heap.size w4 w6):=ZE (HXc_5.out.trans (hs6.mono HXc_5.out.size))
 clear HXc_5
 have ho3_0_6:=Seen.to ho3_0_5 hs6
 clear ho3_0_5
 have ho3_1_6:=Seen.to ho3_1_5 hs6
 clear ho3_1_5
 have ho5_0_6:=Own.to ho5_0 hs6
 clear ho5_0
 have ho5_1_6:=OwnW.to ho5_1 hs6
 clear ho5_1
 clear hc6
 go_wp2_with fail
 go_region_held3 (fun W=>W.cell? ⟨w4.heap.size,0,none⟩=some (.slice A_c_signals4 (c.signals).length (c.signals).length)∧W.cell? ⟨w4.heap.size,1,none⟩=some (.slice A_c_gates4 (c.gates).length (c.gates).length)∧W.cell? ⟨w.heap.size,0,none⟩=some (.slice A_c_signals (c.signals).length c_c_signals)∧W.cell? ⟨w.heap.size,1,none⟩=some (.slice A_c_gates (c.gates).length c_c_gates)) (first|exact ⟨t6_2_0,t6_2_1,t6_0_0,t6_0_1⟩|exact ⟨(cell_later hb7 t6_2_0),(cell_later hb7 t6_2_1),(cell_later hb7 t6_0_0),(cell_later hb7 t6_0_1)⟩|exact ⟨(cell_later hb8 (cell_later hb7 t6_2_0)),(cell_later hb8 (cell_later hb7 t6_2_1)),(cell_later hb8 (cell_later hb7 t6_0_0)),(cell_later hb8 (cell_later hb7 t6_0_1))⟩) (first|(go_at_call 7;refine (toCircuit c A_c_signals c_c_signals A_c_gates c_c_gates _ g0 g1 (RA.to g2 HW6.out.drew) g3 g4 (RA.to g5 HW6.out.drew) qq_c).mono ?_;rintro e w7 ⟨A_c_signals7,A_c_gates7,rfl,rA_c_signals7,rA_c_gates7,hb7,fz7⟩)|(go_at_call 10;refine (eqCircuit c A_c_signals4 (c.signals).length A_c_gates4 (c.gates).length A_c_signals7 (c.signals).length A_c_gates7 (c.gates).length _ (Nat.le_refl _) (by omega) (RA.to aA_c_signals4_6 (Below.trans (Below.drew (Below.refl _ _)) hb7)) (Nat.le_refl _) (by omega) (RA.to aA_c_gates4_6 (Below.trans (Below.drew (Below.refl _ _)) hb7)) (Nat.le_refl _) (by omega) ((rA_c_signals7).mono fun b hb=>hb.2) (Nat.le_refl _) (by omega) ((rA_c_gates7).mono fun b hb=>hb.2)).mono ?_;rintro e w8 ⟨rfl,hb8⟩))
 have hs8:Below w6.heap.size w6 w8:=(Below.drew (Below.refl _ _)).trans (hb7.trans (hb8.mono hb7.size))
 have HW8:Hid (Below w.heap.size w w8):=ZE (HW6.out.trans (hs8.mono HW6.out.size))
 have hz8:w6.heap.size≤w8.heap.size:=Nat.le_trans hb7.size hb8.size
 have l8_0:w.heap.size<w8.heap.size:=by omega
 have t8_0_0:w8.cell? ⟨w.heap.size,0,none⟩=some (.slice A_c_signals (c.signals).length c_c_signals):=cell_later hb8 (cell_later hb7 t6_0_0)
 clear t6_0_0
 have t8_0_1:w8.cell? ⟨w.heap.size,1,none⟩=some (.slice A_c_gates (c.gates).length c_c_gates):=cell_later hb8 (cell_later hb7 t6_0_1)
 clear t6_0_1
 have l8_1:w3.heap.size<w8.heap.size:=by omega
 have t8_1_0:w8.cell? ⟨w3.heap.size,0,none⟩=some (.slice A3_0 (R.1.signals).length c3_0):=cell_later hb8 (cell_later hb7 t6_1_0)
 clear t6_1_0
 have t8_1_1:w8.cell? ⟨w3.heap.size,1,none⟩=some (.slice A3_1 (R.1.wires).length c3_1):=cell_later hb8 (cell_later hb7 t6_1_1)
 clear t6_1_1
 have l8_2:w4.heap.size<w8.heap.size:=by omega
 have t8_2_0:w8.cell? ⟨w4.heap.size,0,none⟩=some (.slice A_c_signals4 (c.signals).length (c.signals).length):=cell_later hb8 (cell_later hb7 t6_2_0)
 clear t6_2_0
 have t8_2_1:w8.cell? ⟨w4.heap.size,1,none⟩=some (.slice A_c_gates4 (c.gates).length (c.gates).length):=cell_later hb8 (cell_later hb7 t6_2_1)
 clear t6_2_1
 have l8_3:w5.heap.size<w8.heap.size:=by omega
 have t8_3_0:w8.cell? ⟨w5.heap.size,0,none⟩=some (.slice A5_0 (R.1.signals).length c5_0):=cell_later hb8 (cell_later hb7 t6_3_0)
 clear t6_3_0
 have t8_3_1:w8.cell? ⟨w5.heap.size,1,none⟩=some (.slice A5_1 (R.1.wires).length c5_1):=cell_later hb8 (cell_later hb7 t6_3_1)
 clear t6_3_1
 have aA_c_signals4_8:=RA.to aA_c_signals4_6 hs8
 clear aA_c_signals4_6
 have aA_c_gates4_8:=RA.to aA_c_gates4_6 hs8
 clear aA_c_gates4_6
 have HXc_8:Hid (Below w4.heap.size w4 w8):=ZE (HXc_6.out.trans (hs8.mono HXc_6.out.size))
 clear HXc_6
 have ho3_0_8:=Seen.to ho3_0_6 hs8
 clear ho3_0_6
 have ho3_1_8:=Seen.to ho3_1_6 hs8
 clear ho3_1_6
 have ho5_0_8:=Own.to ho5_0_6 hs8
 clear ho5_0_6
 have ho5_1_8:=OwnW.to ho5_1_6 hs8
 clear ho5_1_6
 have hD:∀b,(fun b=>ZdD (w3.alloc (.cells #[.slice A3_0 (R.1.signals).length c3_0,.slice A3_1 (R.1.wires).length c3_1] 30)) w4 b) b→b<w8.heap.size:=fun b hd=>by
  exact Nat.lt_of_lt_of_le hd.2 HXc_8.out.size
 have hnf:∀b o,(fun b=>ZdD (w3.alloc (.cells #[.slice A3_0 (R.1.signals).length c3_0,.slice A3_1 (R.1.wires).length c3_1] 30)) w4 b) b→w8.frozen? ⟨b,o,none⟩=false:=fun b o hd=>by
  exact (HXc_8.out.frozen (p:=⟨b,o,none⟩) hd.2).trans (fz4.fresh hd.1)
 have mrA_c_signals4:RSl Zo2 w8 (fun b=>ZdD (w3.alloc (.cells #[.slice A3_0 (R.1.signals).length c3_0,.slice A3_1 (R.1.wires).length c3_1] 30)) w4 b) A_c_signals4 c.signals:=(rA_c_signals4.below HXc_8.out (fun b hd=>hd.2)).mono (fun b hd=>hd)
 have mrA_c_gates4:RSl Zpc w8 (fun b=>ZdD (w3.alloc (.cells #[.slice A3_0 (R.1.signals).length c3_0,.slice A3_1 (R.1.wires).length c3_1] 30)) w4 b) A_c_gates4 c.gates:=(rA_c_gates4.below HXc_8.out (fun b hd=>hd.2)).mono (fun b hd=>hd)
 have hM0:=Marked.refl (fun b=>ZdD (w3.alloc (.cells #[.slice A3_0 (R.1.signals).length c3_0,.slice A3_1 (R.1.wires).length c3_1] 30)) w4 b) w8
 go_wp2_with fail
 refine (markCircuit_arg w8 (fun b=>ZdD (w3.alloc (.cells #[.slice A3_0 (R.1.signals).length c3_0,.slice A3_1 (R.1.wires).length c3_1] 30)) w4 b) hD hnf c A_c_signals4 (c.signals).length A_c_gates4 (c.gates).length (Nat.le_refl _) (by omega) mrA_c_signals4 (Nat.le_refl _) (by omega) mrA_c_gates4 1 _ hM0 (by omega) (by omega)).mono ?_
 rintro e w9 ⟨n9,rfl,hp9,hq9,hM9,hT9⟩
 have hz9:=hT9.size
 have HW9:Hid (Below w.heap.size w w9):=ZE (HW8.out.trans (hT9.below (fun q hd=>by have h1:=hd.1;(try rw[World.size_alloc] at h1);have h2:=hd.2;omega) HW8.out.size))
 have l9_0:w.heap.size<w9.heap.size:=by omega
 have t9_0_0:w9.cell? ⟨w.heap.size,0,none⟩=some (.slice A_c_signals (c.signals).length c_c_signals):=(hT9.cell (by omega) (fun hd=>by have h1:=hd.1;(try rw[World.size_alloc] at h1);have h2:=hd.2;omega)).trans t8_0_0
 clear t8_0_0
 have t9_0_1:w9.cell? ⟨w.heap.size,1,none⟩=some (.slice A_c_gates (c.gates).length c_c_gates):=(hT9.cell (by omega) (fun hd=>by have h1:=hd.1;(try rw[World.size_alloc] at h1);have h2:=hd.2;omega)).trans t8_0_1
 clear t8_0_1
 have l9_1:w3.heap.size<w9.heap.size:=by omega
 have t9_1_0:w9.cell? ⟨w3.heap.size,0,none⟩=some (.slice A3_0 (R.1.signals).length c3_0):=(hT9.cell (by omega) (fun hd=>by have h1:=hd.1;(try rw[World.size_alloc] at h1);have h2:=hd.2;omega)).trans t8_1_0
 clear t8_1_0
 have t9_1_1:w9.cell? ⟨w3.heap.size,1,none⟩=some (.slice A3_1 (R.1.wires).length c3_1):=(hT9.cell (by omega) (fun hd=>by have h1:=hd.1;(try rw[World.size_alloc] at h1);have h2:=hd.2;omega)).trans t8_1_1
 clear t8_1_1
 have l9_2:w4.heap.size<w9.heap.size:=by omega
 have t9_2_0:w9.cell? ⟨w4.heap.size,0,none⟩=some (.slice A_c_signals4 (c.signals).length (c.signals).length):=(hT9.cell (by omega) (fun hd=>by have h1:=hd.1;(try rw[World.size_alloc] at h1);have h2:=hd.2;omega)).trans t8_2_0
 clear t8_2_0
 have t9_2_1:w9.cell? ⟨w4.heap.size,1,none⟩=some (.slice A_c_gates4 (c.gates).length (c.gates).length):=(hT9.cell (by omega) (fun hd=>by have h1:=hd.1;(try rw[World.size_alloc] at h1);have h2:=hd.2;omega)).trans t8_2_1
 clear t8_2_1
 have l9_3:w5.heap.size<w9.heap.size:=by omega
 have t9_3_0:w9.cell? ⟨w5.heap.size,0,none⟩=some (.slice A5_0 (R.1.signals).length c5_0):=(hT9.cell (by omega) (fun hd=>by have h1:=hd.1;(try rw[World.size_alloc] at h1);have h2:=hd.2;omega)).trans t8_3_0
 clear t8_3_0
 have t9_3_1:w9.cell? ⟨w5.heap.size,1,none⟩=some (.slice A5_1 (R.1.wires).length c5_1):=(hT9.cell (by omega) (fun hd=>by have h1:=hd.1;(try rw[World.size_alloc] at h1);have h2:=hd.2;omega)).trans t8_3_1
 clear t8_3_1
 have ho3_0_9:=Touch.seen hT9 ho3_0_8 (fun q hq hd=>by have h1:=hd.1;(try rw[World.size_alloc] at h1);have h2:=hd.2;have h3:=hlt3_0 q hq;omega)
 clear ho3_0_8
 have ho3_1_9:=Touch.seen hT9 ho3_1_8 (fun q hq hd=>by have h1:=hd.1;(try rw[World.size_alloc] at h1);have h2:=hd.2;have h3:=hlt3_1 q hq;omega)
 clear ho3_1_8
 have ho5_0_9:=Touch.own hT9 ho5_0_8 (fun q hq hd=>by have h1:=hd.1;(try rw[World.size_alloc] at h1);have h2:=hd.2;have h3:=hlt5_0 q hq;omega)
 clear ho5_0_8
 have ho5_1_9:=Touch.ownW hT9 ho5_1_8 (fun q hq hd=>by have h1:=hd.1;(try rw[World.size_alloc] at h1);have h2:=hd.2;have h3:=hlt5_1 q hq;omega)
 clear ho5_1_8
 clear HXc_8
 have qn:decide (n9<0)=false:=by simp;omega
 go_wp2_with fail
 refine (eqNetlist (R.1) A5_0 c5_0 A5_1 c5_1 A3_0 c3_0 A3_1 c3_1 _ ho5_0_9.cap.1 ho5_0_9.cap.2 (RA.to ho5_0_9.ra (Below.refl _ _)) ho5_1_9.cap.1 ho5_1_9.cap.2 (RA.to ho5_1_9.ra (Below.refl _ _)) ho3_0_9.cap.1 ho3_0_9.cap.2 (RA.to ho3_0_9.ra (Below.refl _ _)) ho3_1_9.cap.1 ho3_1_9.cap.2 (RA.to ho3_1_9.ra (Below.refl _ _))).mono ?_
 rintro e w10 ⟨rfl,hb10⟩
 have hs10:Below w9.heap.size w9 w10:=hb10
 have HW10:Hid (Below w.heap.size w w10):=ZE (HW9.out.trans (hs10.mono HW9.out.size))
 obtain ⟨hc10,_⟩:=Zah hb10
 have hz10:=hb10.size
 repeat rw[World.size_alloc] at hz10
 have l10_0:w.heap.size<w10.heap.size:=by omega
 have t10_0_0:w10.cell? ⟨w.heap.size,0,none⟩=some (.slice A_c_signals (c.signals).length c_c_signals):=(hc10 _ _ (by omega)).trans t9_0_0
 have t10_0_1:w10.cell? ⟨w.heap.size,1,none⟩=some (.slice A_c_gates (c.gates).length c_c_gates):=(hc10 _ _ (by omega)).trans t9_0_1
 have l10_1:w3.heap.size<w10.heap.size:=by omega
 have t10_1_0:w10.cell? ⟨w3.heap.size,0,none⟩=some (.slice A3_0 (R.1.signals).length c3_0):=(hc10 _ _ (by omega)).trans t9_1_0
 have t10_1_1:w10.cell? ⟨w3.heap.size,1,none⟩=some (.slice A3_1 (R.1.wires).length c3_1):=(hc10 _ _ (by omega)).trans t9_1_1
 have l10_2:w4.heap.size<w10.heap.size:=by omega
 have t10_2_0:w10.cell? ⟨w4.heap.size,0,none⟩=some (.slice A_c_signals4 (c.signals).length (c.signals).length):=(hc10 _ _ (by omega)).trans t9_2_0
 have t10_2_1:w10.cell? ⟨w4.heap.size,1,none⟩=some (.slice A_c_gates4 (c.gates).length (c.gates).length):=(hc10 _ _ (by omega)).trans t9_2_1
 have l10_3:w5.heap.size<w10.heap.size:=by omega
 have t10_3_0:w10.cell? ⟨w5.heap.size,0,none⟩=some (.slice A5_0 (R.1.signals).length c5_0):=(hc10 _ _ (by omega)).trans t9_3_0
 have t10_3_1:w10.cell? ⟨w5.heap.size,1,none⟩=some (.slice A5_1 (R.1.wires).length c5_1):=(hc10 _ _ (by omega)).trans t9_3_1
 clear t9_0_0
 clear t9_0_1
 clear t9_1_0
 clear t9_1_1
 clear t9_2_0
 clear t9_2_1
 clear t9_3_0
 clear t9_3_1
 have ho3_0_10:=Seen.to ho3_0_9 hs10
 clear ho3_0_9
 have ho3_1_10:=Seen.to ho3_1_9 hs10
 clear ho3_1_9
 have ho5_0_10:=Own.to ho5_0_9 hs10
 clear ho5_0_9
 have ho5_1_10:=OwnW.to ho5_1_9 hs10
 clear ho5_1_9
 clear hc10
 go_wp2_with fail
 refine (markNetlist_own _ _ _ _ (R.1) A5_0 c5_0 A5_1 c5_1 hs_5 1 _ ho5_0_10 ho5_1_10 dj5 (by omega) (by omega)).mono ?_
 rintro e w11 ⟨rfl,hr11_0,hr11_1,hT11⟩
 have hz11:=hT11.size
 have HW11:Hid (Below w.heap.size w w11):=ZE (HW10.out.trans (hT11.below (fun q hd=>by rcases hd with hd|hd<;>first|(have h4:=hlt5_0 _ hd;omega)|(have h4:=hlt5_1 _ hd;omega)) HW10.out.size))
 have l11_0:w.heap.size<w11.heap.size:=by omega
 have t11_0_0:w11.cell? ⟨w.heap.size,0,none⟩=some (.slice A_c_signals (c.signals).length c_c_signals):=(hT11.cell (by omega) (fun hd=>by rcases hd with hd|hd<;>first|(have h4:=hlt5_0 _ hd;omega)|(have h4:=hlt5_1 _ hd;omega))).trans t10_0_0
 clear t10_0_0
 have t11_0_1:w11.cell? ⟨w.heap.size,1,none⟩=some (.slice A_c_gates (c.gates).length c_c_gates):=(hT11.cell (by omega) (fun hd=>by rcases hd with hd|hd<;>first|(have h4:=hlt5_0 _ hd;omega)|(have h4:=hlt5_1 _ hd;omega))).trans t10_0_1
 clear t10_0_1
 have l11_1:w3.heap.size<w11.heap.size:=by omega
 have t11_1_0:w11.cell? ⟨w3.heap.size,0,none⟩=some (.slice A3_0 (R.1.signals).length c3_0):=(hT11.cell (by omega) (fun hd=>by rcases hd with hd|hd<;>first|(have h4:=hlt5_0 _ hd;omega)|(have h4:=hlt5_1 _ hd;omega))).trans t10_1_0
 clear t10_1_0
 have t11_1_1:w11.cell? ⟨w3.heap.size,1,none⟩=some (.slice A3_1 (R.1.wires).length c3_1):=(hT11.cell (by omega) (fun hd=>by rcases hd with hd|hd<;>first|(have h4:=hlt5_0 _ hd;omega)|(have h4:=hlt5_1 _ hd;omega))).trans t10_1_1
 clear t10_1_1
 have l11_2:w4.heap.size<w11.heap.size:=by omega
 have t11_2_0:w11.cell? ⟨w4.heap.size,0,none⟩=some (.slice A_c_signals4 (c.signals).length (c.signals).length):=(hT11.cell (by omega) (fun hd=>by rcases hd with hd|hd<;>first|(have h4:=hlt5_0 _ hd;omega)|(have h4:=hlt5_1 _ hd;omega))).trans t10_2_0
 clear t10_2_0
 have t11_2_1:w11.cell? ⟨w4.heap.size,1,none⟩=some (.slice A_c_gates4 (c.gates).length (c.gates).length):=(hT11.cell (by omega) (fun hd=>by rcases hd with hd|hd<;>first|(have h4:=hlt5_0 _ hd;omega)|(have h4:=hlt5_1 _ hd;omega))).trans t10_2_1
 clear t10_2_1
 have l11_3:w5.heap.size<w11.heap.size:=by omega
 have t11_3_0:w11.cell? ⟨w5.heap.size,0,none⟩=some (.slice A5_0 (R.1.signals).length c5_0):=(hT11.cell (by omega) (fun hd=>by rcases hd with hd|hd<;>first|(have h4:=hlt5_0 _ hd;omega)|(have h4:=hlt5_1 _ hd;omega))).trans t10_3_0
 clear t10_3_0
 have t11_3_1:w11.cell? ⟨w5.heap.size,1,none⟩=some (.slice A5_1 (R.1.wires).length c5_1):=(hT11.cell (by omega) (fun hd=>by rcases hd with hd|hd<;>first|(have h4:=hlt5_0 _ hd;omega)|(have h4:=hlt5_1 _ hd;omega))).trans t10_3_1
 clear t10_3_1
 have ho3_0_11:=Touch.seen hT11 ho3_0_10 (fun q hq hd=>by rcases hd with hd|hd<;>first|(have h4:=hlt5_0 _ hd;have h3:=hlt3_0 q hq;omega)|(have h4:=hlt5_1 _ hd;have h3:=hlt3_0 q hq;omega))
 clear ho3_0_10
 have ho3_1_11:=Touch.seen hT11 ho3_1_10 (fun q hq hd=>by rcases hd with hd|hd<;>first|(have h4:=hlt5_0 _ hd;have h3:=hlt3_1 q hq;omega)|(have h4:=hlt5_1 _ hd;have h3:=hlt3_1 q hq;omega))
 clear ho3_1_10
 have aG_5_0:RA Zo2 w11 A5_0 (Zar mkSig 2 (1) R.1.signals):=hr11_0.mono (fun b hb=>by have h3:=hlt5_0 b hb;omega)
 have aG_5_1:RA Zo4 w11 A5_1 (mkWs (1+2 * (R.1.signals.length:Int)) R.1.wires):=hr11_1.mono (fun b hb=>by have h3:=hlt5_1 b hb;omega)
 have qh:decide (1+2 * (R.1.signals.length:Int)+((wcosts R.1.wires:Nat):Int)<0)=false:=by simp;omega
 go_wp2_with fail
 refine (heldNetlist (R.1) A5_0 c5_0 A5_1 c5_1 1 _ (by omega) (RA.to aG_5_0 (Below.refl _ _)) (by omega) (RA.to aG_5_1 (Below.refl _ _)) (by omega) (by omega)).mono ?_
 rintro e w12 ⟨rfl,hb12⟩
 have hs12:Below w11.heap.size w11 w12:=hb12
 have HW12:Hid (Below w.heap.size w w12):=ZE (HW11.out.trans (hs12.mono HW11.out.size))
 obtain ⟨hc12,_⟩:=Zah hb12
 have hz12:=hb12.size
 repeat rw[World.size_alloc] at hz12
 have l12_0:w.heap.size<w12.heap.size:=by omega
 have t12_0_0:w12.cell? ⟨w.heap.size,0,none⟩=some (.slice A_c_signals (c.signals).length c_c_signals):=(hc12 _ _ (by omega)).trans t11_0_0
 have t12_0_1:w12.cell? ⟨w.heap.size,1,none⟩=some (.slice A_c_gates (c.gates).length c_c_gates):=(hc12 _ _ (by omega)).trans t11_0_1
 have l12_1:w3.heap.size<w12.heap.size:=by omega
 have t12_1_0:w12.cell? ⟨w3.heap.size,0,none⟩=some (.slice A3_0 (R.1.signals).length c3_0):=(hc12 _ _ (by omega)).trans t11_1_0
 have t12_1_1:w12.cell? ⟨w3.heap.size,1,none⟩=some (.slice A3_1 (R.1.wires).length c3_1):=(hc12 _ _ (by omega)).trans t11_1_1
 have l12_2:w4.heap.size<w12.heap.size:=by omega
 have t12_2_0:w12.cell? ⟨w4.heap.size,0,none⟩=some (.slice A_c_signals4 (c.signals).length (c.signals).length):=(hc12 _ _ (by omega)).trans t11_2_0
 have t12_2_1:w12.cell? ⟨w4.heap.size,1,none⟩=some (.slice A_c_gates4 (c.gates).length (c.gates).length):=(hc12 _ _ (by omega)).trans t11_2_1
 have l12_3:w5.heap.size<w12.heap.size:=by omega
 have t12_3_0:w12.cell? ⟨w5.heap.size,0,none⟩=some (.slice A5_0 (R.1.signals).length c5_0):=(hc12 _ _ (by omega)).trans t11_3_0
 have t12_3_1:w12.cell? ⟨w5.heap.size,1,none⟩=some (.slice A5_1 (R.1.wires).length c5_1):=(hc12 _ _ (by omega)).trans t11_3_1
 clear t11_0_0
 clear t11_0_1
 clear t11_1_0
 clear t11_1_1
 clear t11_2_0
 clear t11_2_1
 clear t11_3_0
 clear t11_3_1
 have aG_5_0_12:=RA.to aG_5_0 hs12
 clear aG_5_0
 have aG_5_1_12:=RA.to aG_5_1 hs12
 clear aG_5_1
 have ho3_0_12:=Seen.to ho3_0_11 hs12
 clear ho3_0_11
 have ho3_1_12:=Seen.to ho3_1_11 hs12
 clear ho3_1_11
 clear hc12
 go_wp2_with fail
 refine (toCircuit c A_c_signals c_c_signals A_c_gates c_c_gates _ g0 g1 (RA.to g2 HW12.out) g3 g4 (RA.to g5 HW12.out) qq_c).mono ?_
 rintro e w13 ⟨A_c_signals13,A_c_gates13,rfl,rA_c_signals13,rA_c_gates13,hb13,fz13⟩
 have hs13:Below w12.heap.size w12 w13:=hb13
 have HW13:Hid (Below w.heap.size w w13):=ZE (HW12.out.trans (hs13.mono HW12.out.size))
 obtain ⟨hc13,_⟩:=Zah hb13
 have hz13:=hb13.size
 repeat rw[World.size_alloc] at hz13
 have l13_0:w.heap.size<w13.heap.size:=by omega
 have t13_0_0:w13.cell? ⟨w.heap.size,0,none⟩=some (.slice A_c_signals (c.signals).length c_c_signals):=(hc13 _ _ (by omega)).trans t12_0_0
 have t13_0_1:w13.cell? ⟨w.heap.size,1,none⟩=some (.slice A_c_gates (c.gates).length c_c_gates):=(hc13 _ _ (by omega)).trans t12_0_1
 have l13_1:w3.heap.size<w13.heap.size:=by omega
 have t13_1_0:w13.cell? ⟨w3.heap.size,0,none⟩=some (.slice A3_0 (R.1.signals).length c3_0):=(hc13 _ _ (by omega)).trans t12_1_0
 have t13_1_1:w13.cell? ⟨w3.heap.size,1,none⟩=some (.slice A3_1 (R.1.wires).length c3_1):=(hc13 _ _ (by omega)).trans t12_1_1
 have l13_2:w4.heap.size<w13.heap.size:=by omega
 have t13_2_0:w13.cell? ⟨w4.heap.size,0,none⟩=some (.slice A_c_signals4 (c.signals).length (c.signals).length):=(hc13 _ _ (by omega)).trans t12_2_0
 have t13_2_1:w13.cell? ⟨w4.heap.size,1,none⟩=some (.slice A_c_gates4 (c.gates).length (c.gates).length):=(hc13 _ _ (by omega)).trans t12_2_1
 have l13_3:w5.heap.size<w13.heap.size:=by omega
 have t13_3_0:w13.cell? ⟨w5.heap.size,0,none⟩=some (.slice A5_0 (R.1.signals).length c5_0):=(hc13 _ _ (by omega)).trans t12_3_0
 have t13_3_1:w13.cell? ⟨w5.heap.size,1,none⟩=some (.slice A5_1 (R.1.wires).length c5_1):=(hc13 _ _ (by omega)).trans t12_3_1
 clear t12_0_0
 clear t12_0_1
 clear t12_1_0
 clear t12_1_1
 clear t12_2_0
 clear t12_2_1
 clear t12_3_0
 clear t12_3_1
 have aG_5_0_13:=RA.to aG_5_0_12 hs13
 clear aG_5_0_12
 have aG_5_1_13:=RA.to aG_5_1_12 hs13
 clear aG_5_1_12
 have ho3_0_13:=Seen.to ho3_0_12 hs13
 clear ho3_0_12
 have ho3_1_13:=Seen.to ho3_1_12 hs13
 clear ho3_1_12
 clear hc13
 have aA_c_signals13:RA Zo2 w13 A_c_signals13 c.signals:=(rA_c_signals13).mono fun b hb=>hb.2
 have aA_c_gates13:RA Zpc w13 A_c_gates13 c.gates:=(rA_c_gates13).mono fun b hb=>hb.2
 go_wp2_with fail
 refine (impl_BuildNetlist c A_c_signals13 (c.signals).length A_c_gates13 (c.gates).length _ (Nat.le_refl _) (by omega) (RA.to aA_c_signals13 (Below.refl _ _)) (Nat.le_refl _) (by omega) (RA.to aA_c_gates13 (Below.refl _ _)) qq_c (gok_to hg HW13.out)).mono ?_
 rintro e w14 ⟨A14_0,c14_0,A14_1,c14_1,hs_14,rfl,ho14_0,ho14_1,dj14,hb14⟩
 have hs14:Below w13.heap.size w13 w14:=hb14
 have HW14:Hid (Below w.heap.size w w14):=ZE (HW13.out.trans (hs14.mono HW13.out.size))
 obtain ⟨hc14,_⟩:=Zah hb14
 have hz14:=hb14.size
 repeat rw[World.size_alloc] at hz14
 have l14_0:w.heap.size<w14.heap.size:=by omega
 have t14_0_0:w14.cell? ⟨w.heap.size,0,none⟩=some (.slice A_c_signals (c.signals).length c_c_signals):=(hc14 _ _ (by omega)).trans t13_0_0
 have t14_0_1:w14.cell? ⟨w.heap.size,1,none⟩=some (.slice A_c_gates (c.gates).length c_c_gates):=(hc14 _ _ (by omega)).trans t13_0_1
 have l14_1:w3.heap.size<w14.heap.size:=by omega
 have t14_1_0:w14.cell? ⟨w3.heap.size,0,none⟩=some (.slice A3_0 (R.1.signals).length c3_0):=(hc14 _ _ (by omega)).trans t13_1_0
 have t14_1_1:w14.cell? ⟨w3.heap.size,1,none⟩=some (.slice A3_1 (R.1.wires).length c3_1):=(hc14 _ _ (by omega)).trans t13_1_1
 have l14_2:w4.heap.size<w14.heap.size:=by omega
 have t14_2_0:w14.cell? ⟨w4.heap.size,0,none⟩=some (.slice A_c_signals4 (c.signals).length (c.signals).length):=(hc14 _ _ (by omega)).trans t13_2_0
 have t14_2_1:w14.cell? ⟨w4.heap.size,1,none⟩=some (.slice A_c_gates4 (c.gates).length (c.gates).length):=(hc14 _ _ (by omega)).trans t13_2_1
 have l14_3:w5.heap.size<w14.heap.size:=by omega
 have t14_3_0:w14.cell? ⟨w5.heap.size,0,none⟩=some (.slice A5_0 (R.1.signals).length c5_0):=(hc14 _ _ (by omega)).trans t13_3_0
 have t14_3_1:w14.cell? ⟨w5.heap.size,1,none⟩=some (.slice A5_1 (R.1.wires).length c5_1):=(hc14 _ _ (by omega)).trans t13_3_1
 clear t13_0_0
 clear t13_0_1
 clear t13_1_0
 clear t13_1_1
 clear t13_2_0
 clear t13_2_1
 clear t13_3_0
 clear t13_3_1
 have aG_5_0_14:=RA.to aG_5_0_13 hs14
 clear aG_5_0_13
 have aG_5_1_14:=RA.to aG_5_1_13 hs14
 clear aG_5_1_13
 have aA_c_signals13_14:=RA.to aA_c_signals13 hs14
 clear aA_c_signals13
 have aA_c_gates13_14:=RA.to aA_c_gates13 hs14
 clear aA_c_gates13
 have ho3_0_14:=Seen.to ho3_0_13 hs14
 clear ho3_0_13
 have ho3_1_14:=Seen.to ho3_1_13 hs14
 clear ho3_1_13
 clear hc14
 rw[HR.out] at ho14_0
 have hlt14_0:=ho14_0.lt
 rw[HR.out] at ho14_1
 have hlt14_1:=ho14_1.lts
 rw[HR.out]
 go_wp2_with fail
 refine (eqNetlist (R.1) A14_0 c14_0 A14_1 c14_1 A3_0 c3_0 A3_1 c3_1 _ ho14_0.cap.1 ho14_0.cap.2 (RA.to ho14_0.ra ((Below.refl _ _).alloc (Nat.le_refl _) _)) ho14_1.cap.1 ho14_1.cap.2 (RA.to ho14_1.ra ((Below.refl _ _).alloc (Nat.le_refl _) _)) ho3_0_14.cap.1 ho3_0_14.cap.2 (RA.to ho3_0_14.ra ((Below.refl _ _).alloc (Nat.le_refl _) _)) ho3_1_14.cap.1 ho3_1_14.cap.2 (RA.to ho3_1_14.ra ((Below.refl _ _).alloc (Nat.le_refl _) _))).mono ?_
 rintro e w15 ⟨rfl,hb15⟩
 have hs15:Below w14.heap.size w14 w15:=((Below.refl _ _).alloc (Nat.le_refl _) _).trans (hb15.mono (by rw[World.size_alloc];omega))
 have HW15:Hid (Below w.heap.size w w15):=ZE (HW14.out.trans (hs15.mono HW14.out.size))
 obtain ⟨hc15,_⟩:=Zah hb15
 have hz15:=hb15.size
 repeat rw[World.size_alloc] at hz15
 have l15_0:w.heap.size<w15.heap.size:=by omega
 have t15_0_0:w15.cell? ⟨w.heap.size,0,none⟩=some (.slice A_c_signals (c.signals).length c_c_signals):=(hc15 _ _ (by rw[World.size_alloc];omega)).trans (by rw[World.cell?_alloc_past _ _ _ (by omega)];exact t14_0_0)
 have t15_0_1:w15.cell? ⟨w.heap.size,1,none⟩=some (.slice A_c_gates (c.gates).length c_c_gates):=(hc15 _ _ (by rw[World.size_alloc];omega)).trans (by rw[World.cell?_alloc_past _ _ _ (by omega)];exact t14_0_1)
 have l15_1:w3.heap.size<w15.heap.size:=by omega
 have t15_1_0:w15.cell? ⟨w3.heap.size,0,none⟩=some (.slice A3_0 (R.1.signals).length c3_0):=(hc15 _ _ (by rw[World.size_alloc];omega)).trans (by rw[World.cell?_alloc_past _ _ _ (by omega)];exact t14_1_0)
 have t15_1_1:w15.cell? ⟨w3.heap.size,1,none⟩=some (.slice A3_1 (R.1.wires).length c3_1):=(hc15 _ _ (by rw[World.size_alloc];omega)).trans (by rw[World.cell?_alloc_past _ _ _ (by omega)];exact t14_1_1)
 have l15_2:w4.heap.size<w15.heap.size:=by omega
 have t15_2_0:w15.cell? ⟨w4.heap.size,0,none⟩=some (.slice A_c_signals4 (c.signals).length (c.signals).length):=(hc15 _ _ (by rw[World.size_alloc];omega)).trans (by rw[World.cell?_alloc_past _ _ _ (by omega)];exact t14_2_0)
 have t15_2_1:w15.cell? ⟨w4.heap.size,1,none⟩=some (.slice A_c_gates4 (c.gates).length (c.gates).length):=(hc15 _ _ (by rw[World.size_alloc];omega)).trans (by rw[World.cell?_alloc_past _ _ _ (by omega)];exact t14_2_1)
 have l15_3:w5.heap.size<w15.heap.size:=by omega
 have t15_3_0:w15.cell? ⟨w5.heap.size,0,none⟩=some (.slice A5_0 (R.1.signals).length c5_0):=(hc15 _ _ (by rw[World.size_alloc];omega)).trans (by rw[World.cell?_alloc_past _ _ _ (by omega)];exact t14_3_0)
 have t15_3_1:w15.cell? ⟨w5.heap.size,1,none⟩=some (.slice A5_1 (R.1.wires).length c5_1):=(hc15 _ _ (by rw[World.size_alloc];omega)).trans (by rw[World.cell?_alloc_past _ _ _ (by omega)];exact t14_3_1)
 have l15_4:w14.heap.size<w15.heap.size:=by omega
 have t15_4_0:w15.cell? ⟨w14.heap.size,0,none⟩=some (.slice A14_0 (R.1.signals).length c14_0):=by rw[hc15 _ _ (by first|omega|(repeat rw[World.size_alloc]);omega)];simp[go_sem]
 have t15_4_1:w15.cell? ⟨w14.heap.size,1,none⟩=some (.slice A14_1 (R.1.wires).length c14_1):=by rw[hc15 _ _ (by first|omega|(repeat rw[World.size_alloc]);omega)];simp[go_sem]
 clear t14_0_0
 clear t14_0_1
 clear t14_1_0
 clear t14_1_1
 clear t14_2_0
 clear t14_2_1
 clear t14_3_0
 clear t14_3_1
 have aG_5_0_15:=RA.to aG_5_0_14 hs15
 clear aG_5_0_14
 have aG_5_1_15:=RA.to aG_5_1_14 hs15
 clear aG_5_1_14
 have aA_c_signals13_15:=RA.to aA_c_signals13_14 hs15
 clear aA_c_signals13_14
 have aA_c_gates13_15:=RA.to aA_c_gates13_14 hs15
 clear aA_c_gates13_14
 have ho3_0_15:=Seen.to ho3_0_14 hs15
 clear ho3_0_14
 have ho3_1_15:=Seen.to ho3_1_14 hs15
 clear ho3_1_14
 have ho14_0_15:=Own.to ho14_0 hs15
 clear ho14_0
 have ho14_1_15:=OwnW.to ho14_1 hs15
 clear ho14_1
 clear hc15
 go_wp2_with fail
 refine (heldNetlist (R.1) A5_0 c5_0 A5_1 c5_1 1 _ (by omega) (RA.to aG_5_0_15 (Below.refl _ _)) (by omega) (RA.to aG_5_1_15 (Below.refl _ _)) (by omega) (by omega)).mono ?_
 rintro e w16 ⟨rfl,hb16⟩
 have hs16:Below w15.heap.size w15 w16:=hb16
 have HW16:Hid (Below w.heap.size w w16):=ZE (HW15.out.trans (hs16.mono HW15.out.size))
 obtain ⟨hc16,_⟩:=Zah hb16
 have hz16:=hb16.size
 repeat rw[World.size_alloc] at hz16
 have l16_0:w.heap.size<w16.heap.size:=by omega
 have t16_0_0:w16.cell? ⟨w.heap.size,0,none⟩=some (.slice A_c_signals (c.signals).length c_c_signals):=(hc16 _ _ (by omega)).trans t15_0_0
 have t16_0_1:w16.cell? ⟨w.heap.size,1,none⟩=some (.slice A_c_gates (c.gates).length c_c_gates):=(hc16 _ _ (by omega)).trans t15_0_1
 have l16_1:w3.heap.size<w16.heap.size:=by omega
 have t16_1_0:w16.cell? ⟨w3.heap.size,0,none⟩=some (.slice A3_0 (R.1.signals).length c3_0):=(hc16 _ _ (by omega)).trans t15_1_0
 have t16_1_1:w16.cell? ⟨w3.heap.size,1,none⟩=some (.slice A3_1 (R.1.wires).length c3_1):=(hc16 _ _ (by omega)).trans t15_1_1
 have l16_2:w4.heap.size<w16.heap.size:=by omega
 have t16_2_0:w16.cell? ⟨w4.heap.size,0,none⟩=some (.slice A_c_signals4 (c.signals).length (c.signals).length):=(hc16 _ _ (by omega)).trans t15_2_0
 have t16_2_1:w16.cell? ⟨w4.heap.size,1,none⟩=some (.slice A_c_gates4 (c.gates).length (c.gates).length):=(hc16 _ _ (by omega)).trans t15_2_1
 have l16_3:w5.heap.size<w16.heap.size:=by omega
 have t16_3_0:w16.cell? ⟨w5.heap.size,0,none⟩=some (.slice A5_0 (R.1.signals).length c5_0):=(hc16 _ _ (by omega)).trans t15_3_0
 have t16_3_1:w16.cell? ⟨w5.heap.size,1,none⟩=some (.slice A5_1 (R.1.wires).length c5_1):=(hc16 _ _ (by omega)).trans t15_3_1
 have l16_4:w14.heap.size<w16.heap.size:=by omega
 have t16_4_0:w16.cell? ⟨w14.heap.size,0,none⟩=some (.slice A14_0 (R.1.signals).length c14_0):=(hc16 _ _ (by omega)).trans t15_4_0
 have t16_4_1:w16.cell? ⟨w14.heap.size,1,none⟩=some (.slice A14_1 (R.1.wires).length c14_1):=(hc16 _ _ (by omega)).trans t15_4_1
 clear t15_0_0
 clear t15_0_1
 clear t15_1_0
 clear t15_1_1
 clear t15_2_0
 clear t15_2_1
 clear t15_3_0
 clear t15_3_1
 clear t15_4_0
 clear t15_4_1
 have aG_5_0_16:=RA.to aG_5_0_15 hs16
 clear aG_5_0_15
 have aG_5_1_16:=RA.to aG_5_1_15 hs16
 clear aG_5_1_15
 have aA_c_signals13_16:=RA.to aA_c_signals13_15 hs16
 clear aA_c_signals13_15
 have aA_c_gates13_16:=RA.to aA_c_gates13_15 hs16
 clear aA_c_gates13_15
 have ho3_0_16:=Seen.to ho3_0_15 hs16
 clear ho3_0_15
 have ho3_1_16:=Seen.to ho3_1_15 hs16
 clear ho3_1_15
 have ho14_0_16:=Own.to ho14_0_15 hs16
 clear ho14_0_15
 have ho14_1_16:=OwnW.to ho14_1_15 hs16
 clear ho14_1_15
 clear hc16
 go_wp2_with fail
 go_ret
 exact ⟨rfl,HW16.out⟩
end Go.Proofs.YtkgnjijonikchaaDoor.Lw
