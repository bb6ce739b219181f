import Derived.Test.YtenddofcogldfaaGreatDoorRows
import Derived.Test.YtenddofcogldfaaGreatDoorSplitGateC
import Derived.Test.YtenddofcogldfaaGreatDoorLawNi
import Derived.Test.YtenddofcogldfaaGreatDoorMarkWi
namespace Go.Proofs.YtenddofcogldfaaGreatDoor.Lw
open Go.RowKit
set_option linter.unusedVariables false
set_option maxHeartbeats 4000000 in
set_option maxRecDepth 20000 in
theorem law_SplitGate (n:Nl) (k:Int) (l:List (Int)) (A_n_signals:Option Addr) (c_n_signals:Nat) (A_n_wires:Option Addr) (c_n_wires:Nat) (A_l:Option Addr) (c_l:Nat) (w:World) (g0:(n.signals).length≤c_n_signals) (g1:c_n_signals≤9223372036854775807) (g2:RA Zm w A_n_signals n.signals) (g3:(n.wires).length≤c_n_wires) (g4:c_n_wires≤9223372036854775807) (g5:RA Zx w A_n_wires n.wires) (g6:InI k) (g7:(l).length≤c_l) (g8:c_l≤9223372036854775807) (g9:RA ZB w A_l l) (hg:GOk w fun b=>b<w.heap.size):
 Calls Tryz.prog 3 #[.agg #[.slice A_n_signals (n.signals).length c_n_signals,.slice A_n_wires (n.wires).length c_n_wires],.int .i64 k,.slice A_l (l).length c_l] w fun e w'=>e=.returned (.bool true)∧Below w.heap.size w w':=by
 obtain ⟨R,hR⟩:∃R,sgA n k l=R:=⟨_,rfl⟩
 have hRb:=sgA_bound n k l
 rw[hR] at hRb
 have HR:=Ze hR;clear hR
 go_enter Tryz.func3,Tryz.ntmps3
 by_cases q_l:(1048576:Int)<(l).length
 ·go_wp2_with fail
  go_ret
  exact ⟨rfl,gG⟩
 have q_l':decide ((1048576:Int)<(l).length)=false:=by simpa using q_l
 go_wp2_with fail
 refine (szNetlist n A_n_signals c_n_signals A_n_wires c_n_wires (1048576) _ g0 g1 (RA.to g2 gG) g3 g4 (RA.to g5 gG) (by omega) (by omega)).mono ?_
 rintro e w1 ⟨rfl,hb1⟩
 have HW1:Hid (Below w.heap.size w w1):=Ze gG
 obtain ⟨hc1,_⟩:=Zai hb1
 have hz1:=hb1.size
 repeat rw[World.size_alloc] at hz1
 have l1_0:w.heap.size<w1.heap.size:=by omega
 have t1_0_0:w1.cell? ⟨w.heap.size,0,none⟩=some (.slice A_n_signals (n.signals).length c_n_signals):=by rw[hc1 _ _ (by first|omega|(repeat rw[World.size_alloc]);omega)];simp[go_sem]
 have t1_0_1:w1.cell? ⟨w.heap.size,1,none⟩=some (.slice A_n_wires (n.wires).length c_n_wires):=by rw[hc1 _ _ (by first|omega|(repeat rw[World.size_alloc]);omega)];simp[go_sem]
 clear hc1
 by_cases q_n:(1048576:Int)<((wtNl n):Nat)
 ·rw[Zcr q_n]
  go_wp2_with fail
  go_ret
  exact ⟨rfl,HW1.out⟩
 rw[Zcs q_n]
 have qq_n:((wtNl n):Nat)≤1048576:=by omega
 have qs_n:=qq_n
 unfold wtNl at qs_n
 go_wp2_with fail
 refine (toNetlist n A_n_signals c_n_signals A_n_wires c_n_wires _ g0 g1 (RA.to g2 HW1.out) g3 g4 (RA.to g5 HW1.out) qq_n).mono ?_
 rintro e w2 ⟨A_n_signals2,A_n_wires2,rfl,rA_n_signals2,rA_n_wires2,hb2,fz2⟩
 have hs2:Below w1.heap.size w1 w2:=hb2
 have HW2:Hid (Below w.heap.size w w2):=Ze (HW1.out.trans (hs2.mono HW1.out.size))
 obtain ⟨hc2,_⟩:=Zai hb2
 have hz2:=hb2.size
 repeat rw[World.size_alloc] at hz2
 have l2_0:w.heap.size<w2.heap.size:=by omega
 have t2_0_0:w2.cell? ⟨w.heap.size,0,none⟩=some (.slice A_n_signals (n.signals).length c_n_signals):=(hc2 _ _ (by omega)).trans t1_0_0
 have t2_0_1:w2.cell? ⟨w.heap.size,1,none⟩=some (.slice A_n_wires (n.wires).length c_n_wires):=(hc2 _ _ (by omega)).trans t1_0_1
 clear t1_0_0
 clear t1_0_1
 clear hc2
 have aA_n_signals2:RA Zm w2 A_n_signals2 n.signals:=(rA_n_signals2).mono fun b hb=>hb.2
 have aA_n_wires2:RA Zx w2 A_n_wires2 n.wires:=(rA_n_wires2).mono fun b hb=>hb.2
 go_wp2_with fail
 refine (toIntS A_l c_l l _ (by omega) (RA.to g9 HW2.out)).mono ?_
 rintro e w3 ⟨A_l3,rfl,rA_l3,hb3,fz3⟩
 have hs3:Below w2.heap.size w2 w3:=hb3
 have HW3:Hid (Below w.heap.size w w3):=Ze (HW2.out.trans (hs3.mono HW2.out.size))
 obtain ⟨hc3,_⟩:=Zai hb3
 have hz3:=hb3.size
 repeat rw[World.size_alloc] at hz3
 have l3_0:w.heap.size<w3.heap.size:=by omega
 have t3_0_0:w3.cell? ⟨w.heap.size,0,none⟩=some (.slice A_n_signals (n.signals).length c_n_signals):=(hc3 _ _ (by omega)).trans t2_0_0
 have t3_0_1:w3.cell? ⟨w.heap.size,1,none⟩=some (.slice A_n_wires (n.wires).length c_n_wires):=(hc3 _ _ (by omega)).trans t2_0_1
 clear t2_0_0
 clear t2_0_1
 have aA_n_signals2_3:=RA.to aA_n_signals2 hs3
 clear aA_n_signals2
 have aA_n_wires2_3:=RA.to aA_n_wires2 hs3
 clear aA_n_wires2
 clear hc3
 have aA_l3:RA ZB w3 A_l3 l:=(rA_l3).mono fun b hb=>hb.2
 go_wp2_with fail
 refine (spec_SplitGate n k l A_n_signals2 (n.signals).length A_n_wires2 (n.wires).length A_l3 (l).length _ (Nat.le_refl _) (by omega) (RA.to aA_n_signals2_3 (Below.refl _ _)) (Nat.le_refl _) (by omega) (RA.to aA_n_wires2_3 (Below.refl _ _)) (Nat.le_refl _) (by omega) (RA.to aA_l3 (Below.refl _ _)) (gok_to hg HW3.out)).mono ?_
 rintro e w4 ⟨A4_0,c4_0,A4_1,c4_1,rfl,ho4_0,ho4_1,hb4⟩
 have hs4:Below w3.heap.size w3 w4:=hb4
 have HW4:Hid (Below w.heap.size w w4):=Ze (HW3.out.trans (hs4.mono HW3.out.size))
 obtain ⟨hc4,_⟩:=Zai hb4
 have hz4:=hb4.size
 repeat rw[World.size_alloc] at hz4
 have l4_0:w.heap.size<w4.heap.size:=by omega
 have t4_0_0:w4.cell? ⟨w.heap.size,0,none⟩=some (.slice A_n_signals (n.signals).length c_n_signals):=(hc4 _ _ (by omega)).trans t3_0_0
 have t4_0_1:w4.cell? ⟨w.heap.size,1,none⟩=some (.slice A_n_wires (n.wires).length c_n_wires):=(hc4 _ _ (by omega)).trans t3_0_1
 clear t3_0_0
 clear t3_0_1
 have aA_n_signals2_4:=RA.to aA_n_signals2_3 hs4
 clear aA_n_signals2_3
 have aA_n_wires2_4:=RA.to aA_n_wires2_3 hs4
 clear aA_n_wires2_3
 have aA_l3_4:=RA.to aA_l3 hs4
 clear aA_l3
 clear hc4
 rw[HR.out] at ho4_0
 have hlt4_0:=fun (q:Nat) (h:q<w4.heap.size)=>h
 rw[HR.out] at ho4_1
 have hlt4_1:=fun (q:Nat) (h:q<w4.heap.size)=>h
 rw[HR.out]
 go_wp2_with fail
 refine (toNetlist n A_n_signals c_n_signals A_n_wires c_n_wires _ g0 g1 (RA.to g2 (HW4.out.alloc HW4.out.size _)) g3 g4 (RA.to g5 (HW4.out.alloc HW4.out.size _)) qq_n).mono ?_
 rintro e w5 ⟨A_n_signals5,A_n_wires5,rfl,rA_n_signals5,rA_n_wires5,hb5,fz5⟩
 have hs5:Below w4.heap.size w4 w5:=((Below.refl _ _).alloc (Nat.le_refl _) _).trans (hb5.mono (by rw[World.size_alloc];omega))
 have HW5:Hid (Below w.heap.size w w5):=Ze (HW4.out.trans (hs5.mono HW4.out.size))
 obtain ⟨hc5,_⟩:=Zai hb5
 have hz5:=hb5.size
 repeat rw[World.size_alloc] at hz5
 have l5_0:w.heap.size<w5.heap.size:=by omega
 have t5_0_0:w5.cell? ⟨w.heap.size,0,none⟩=some (.slice A_n_signals (n.signals).length c_n_signals):=(hc5 _ _ (by rw[World.size_alloc];omega)).trans (by rw[World.cell?_alloc_past _ _ _ (by omega)];exact t4_0_0)
 have t5_0_1:w5.cell? ⟨w.heap.size,1,none⟩=some (.slice A_n_wires (n.wires).length c_n_wires):=(hc5 _ _ (by rw[World.size_alloc];omega)).trans (by rw[World.cell?_alloc_past _ _ _ (by omega)];exact t4_0_1)
 have l5_1:w4.heap.size<w5.heap.size:=by omega
 have t5_1_0:w5.cell? ⟨w4.heap.size,0,none⟩=some (.slice A4_0 (R.1.signals).length c4_0):=by rw[hc5 _ _ (by first|omega|(repeat rw[World.size_alloc]);omega)];simp[go_sem]
 have t5_1_1:w5.cell? ⟨w4.heap.size,1,none⟩=some (.slice A4_1 (R.1.wires).length c4_1):=by rw[hc5 _ _ (by first|omega|(repeat rw[World.size_alloc]);omega)];simp[go_sem]
 clear t4_0_0
 clear t4_0_1
 have ho4_0_5:=Seen.to ho4_0 hs5
 clear ho4_0
 have ho4_1_5:=Seen.to ho4_1 hs5
 clear ho4_1
 clear hc5
 have aA_n_signals5:RA Zm w5 A_n_signals5 n.signals:=(rA_n_signals5).mono fun b hb=>hb.2
 have aA_n_wires5:RA Zx w5 A_n_wires5 n.wires:=(rA_n_wires5).mono fun b hb=>hb.2
 have hlo_n:w.heap.size≤w4.heap.size:=HW4.out.size
 go_wp2_with fail
 refine (toIntS A_l c_l l _ (by omega) (RA.to g9 (HW5.out.alloc HW5.out.size _))).mono ?_
 rintro e w6 ⟨A_l6,rfl,rA_l6,hb6,fz6⟩
 have hs6:Below w5.heap.size w5 w6:=((Below.refl _ _).alloc (Nat.le_refl _) _).trans (hb6.mono (by rw[World.size_alloc];omega))
 have HW6:Hid (Below w.heap.size w w6):=Ze (HW5.out.trans (hs6.mono HW5.out.size))
 obtain ⟨hc6,_⟩:=Zai hb6
 have hz6:=hb6.size
 repeat rw[World.size_alloc] at hz6
 have l6_0:w.heap.size<w6.heap.size:=by omega
 have t6_0_0:w6.cell? ⟨w.heap.size,0,none⟩=some (.slice A_n_signals (n.signals).length c_n_signals):=(hc6 _ _ (by rw[World.size_alloc];omega)).trans (by rw[World.cell?_alloc_past _ _ _ (by omega)];exact t5_0_0)
 have t6_0_1:w6.cell? ⟨w.heap.size,1,none⟩=some (.slice A_n_wires (n.wires).length c_n_wires):=(hc6 _ _ (by rw[World.size_alloc];omega)).trans (by rw[World.cell?_alloc_past _ _ _ (by omega)];exact t5_0_1)
 have l6_1:w4.heap.size<w6.heap.size:=by omega
 have t6_1_0:w6.cell? ⟨w4.heap.size,0,none⟩=some (.slice A4_0 (R.1.signals).length c4_0):=(hc6 _ _ (by rw[World.size_alloc];omega)).trans (by rw[World.cell?_alloc_past _ _ _ (by omega)];exact t5_1_0)
 have t6_1_1:w6.cell? ⟨w4.heap.size,1,none⟩=some (.slice A4_1 (R.1.wires).length c4_1):=(hc6 _ _ (by rw[World.size_alloc];omega)).trans (by rw[World.cell?_alloc_past _ _ _ (by omega)];exact t5_1_1)
 have l6_2:w5.heap.size<w6.heap.size:=by omega
 have t6_2_0:w6.cell? ⟨w5.heap.size,0,none⟩=some (.slice A_n_signals5 (n.signals).length (n.signals).length):=by rw[hc6 _ _ (by first|omega|(repeat rw[World.size_alloc]);omega)];simp[go_sem]
 have t6_2_1:w6.cell? ⟨w5.heap.size,1,none⟩=some (.slice A_n_wires5 (n.wires).length (n.wires).length):=by rw[hc6 _ _ (by first|omega|(repeat rw[World.size_alloc]);omega)];simp[go_sem]
 clear t5_0_0
 clear t5_0_1
 clear t5_1_0
 clear t5_1_1
 have aA_n_signals5_6:=RA.to aA_n_signals5 hs6
 clear aA_n_signals5
 have aA_n_wires5_6:=RA.to aA_n_wires5 hs6
 clear aA_n_wires5
 have HXn_6:Hid (Below w5.heap.size w5 w6):=Ze hs6
 have ho4_0_6:=Seen.to ho4_0_5 hs6
 clear ho4_0_5
 have ho4_1_6:=Seen.to ho4_1_5 hs6
 clear ho4_1_5
 clear hc6
 have aA_l6:RA ZB w6 A_l6 l:=(rA_l6).mono fun b hb=>hb.2
 have hlo_l:w.heap.size≤w5.heap.size:=HW5.out.size
 go_wp2_with fail
 refine (impl_SplitGate n k l A_n_signals5 (n.signals).length A_n_wires5 (n.wires).length A_l6 (l).length _ (Nat.le_refl _) (by omega) (RA.to aA_n_signals5_6 (Below.refl _ _)) (Nat.le_refl _) (by omega) (RA.to aA_n_wires5_6 (Below.refl _ _)) (Nat.le_refl _) (by omega) (RA.to aA_l6 (Below.refl _ _)) (gok_to hg HW6.out)).mono ?_
 rintro e w7 ⟨A7_0,c7_0,A7_1,c7_1,hs_7,rfl,ho7_0,ho7_1,dj7,hb7⟩
 have hs7:Below w6.heap.size w6 w7:=hb7
 have HW7:Hid (Below w.heap.size w w7):=Ze (HW6.out.trans (hs7.mono HW6.out.size))
 obtain ⟨hc7,_⟩:=Zai hb7
 have hz7:=hb7.size
 repeat rw[World.size_alloc] at hz7
 have l7_0:w.heap.size<w7.heap.size:=by omega
 have t7_0_0:w7.cell? ⟨w.heap.size,0,none⟩=some (.slice A_n_signals (n.signals).length c_n_signals):=(hc7 _ _ (by omega)).trans t6_0_0
 have t7_0_1:w7.cell? ⟨w.heap.size,1,none⟩=some (.slice A_n_wires (n.wires).length c_n_wires):=(hc7 _ _ (by omega)).trans t6_0_1
 have l7_1:w4.heap.size<w7.heap.size:=by omega
 have t7_1_0:w7.cell? ⟨w4.heap.size,0,none⟩=some (.slice A4_0 (R.1.signals).length c4_0):=(hc7 _ _ (by omega)).trans t6_1_0
 have t7_1_1:w7.cell? ⟨w4.heap.size,1,none⟩=some (.slice A4_1 (R.1.wires).length c4_1):=(hc7 _ _ (by omega)).trans t6_1_1
 have l7_2:w5.heap.size<w7.heap.size:=by omega
 have t7_2_0:w7.cell? ⟨w5.heap.size,0,none⟩=some (.slice A_n_signals5 (n.signals).length (n.signals).length):=(hc7 _ _ (by omega)).trans t6_2_0
 have t7_2_1:w7.cell? ⟨w5.heap.size,1,none⟩=some (.slice A_n_wires5 (n.wires).length (n.wires).length):=(hc7 _ _ (by omega)).trans t6_2_1
 clear t6_0_0
 clear t6_0_1
 clear t6_1_0
 clear t6_1_1
 clear t6_2_0
 clear t6_2_1
 have aA_n_signals5_7:=RA.to aA_n_signals5_6 hs7
 clear aA_n_signals5_6
 have aA_n_wires5_7:=RA.to aA_n_wires5_6 hs7
 clear aA_n_wires5_6
 have aA_l6_7:=RA.to aA_l6 hs7
 clear aA_l6
 have HXn_7:Hid (Below w5.heap.size w5 w7):=Ze (HXn_6.out.trans (hs7.mono HXn_6.out.size))
 clear HXn_6
 have HXl_7:Hid (Below w6.heap.size w6 w7):=Ze hs7
 have ho4_0_7:=Seen.to ho4_0_6 hs7
 clear ho4_0_6
 have ho4_1_7:=Seen.to ho4_1_6 hs7
 clear ho4_1_6
 clear hc7
 rw[HR.out] at ho7_0
 have hlt7_0:=ho7_0.lt
 rw[HR.out] at ho7_1
 have hlt7_1:=ho7_1.lts
 rw[HR.out]
 go_wp2_with fail
 refine (eqNetlist (R.1) A7_0 c7_0 A7_1 c7_1 A4_0 c4_0 A4_1 c4_1 _ ho7_0.cap.1 ho7_0.cap.2 (RA.to ho7_0.ra ((Below.refl _ _).alloc (Nat.le_refl _) _)) ho7_1.cap.1 ho7_1.cap.2 (RA.to ho7_1.ra ((Below.refl _ _).alloc (Nat.le_refl _) _)) ho4_0_7.cap.1 ho4_0_7.cap.2 (RA.to ho4_0_7.ra ((Below.refl _ _).alloc (Nat.le_refl _) _)) ho4_1_7.cap.1 ho4_1_7.cap.2 (RA.to ho4_1_7.ra ((Below.refl _ _).alloc (Nat.le_refl _) _))).mono ?_
 rintro e w8 ⟨rfl,hb8⟩
 have hs8:Below w7.heap.size w7 w8:=((Below.refl _ _).alloc (Nat.le_refl _) _).trans (hb8.mono (by rw[World.size_alloc];omega))
 have HW8:Hid (Below w.heap.size w w8):=Ze (HW7.out.trans (hs8.mono HW7.out.size))
 obtain ⟨hc8,_⟩:=Zai hb8
 have hz8:=hb8.size
 repeat rw[World.size_alloc] at hz8
 have l8_0:w.heap.size<w8.heap.size:=by omega
 have t8_0_0:w8.cell? ⟨w.heap.size,0,none⟩=some (.slice A_n_signals (n.signals).length c_n_signals):=(hc8 _ _ (by rw[World.size_alloc];omega)).trans (by rw[World.cell?_alloc_past _ _ _ (by omega)];exact t7_0_0)
 have t8_0_1:w8.cell? ⟨w.heap.size,1,none⟩=some (.slice A_n_wires (n.wires).length c_n_wires):=(hc8 _ _ (by rw[World.size_alloc];omega)).trans (by rw[World.cell?_alloc_past _ _ _ (by omega)];exact t7_0_1)
 have l8_1:w4.heap.size<w8.heap.size:=by omega
 have t8_1_0:w8.cell? ⟨w4.heap.size,0,none⟩=some (.slice A4_0 (R.1.signals).length c4_0):=(hc8 _ _ (by rw[World.size_alloc];omega)).trans (by rw[World.cell?_alloc_past _ _ _ (by omega)];exact t7_1_0)
 have t8_1_1:w8.cell? ⟨w4.heap.size,1,none⟩=some (.slice A4_1 (R.1.wires).length c4_1):=(hc8 _ _ (by rw[World.size_alloc];omega)).trans (by rw[World.cell?_alloc_past _ _ _ (by omega)];exact t7_1_1)
 have l8_2:w5.heap.size<w8.heap.size:=by omega
 have t8_2_0:w8.cell? ⟨w5.heap.size,0,none⟩=some (.slice A_n_signals5 (n.signals).length (n.signals).length):=(hc8 _ _ (by rw[World.size_alloc];omega)).trans (by rw[World.cell?_alloc_past _ _ _ (by omega)];exact t7_2_0)
 have t8_2_1:w8.cell? ⟨w5.heap.size,1,none⟩=some (.slice A_n_wires5 (n.wires).length (n.wires).length):=(hc8 _ _ (by rw[World.size_alloc];omega)).trans (by rw[World.cell?_alloc_past _ _ _ (by omega)];exact t7_2_1)
 have l8_3:w7.heap.size<w8.heap.size:=by omega
 have t8_3_0:w8.cell? ⟨w7.heap.size,0,none⟩=some (.slice A7_0 (R.1.signals).length c7_0):=by rw[hc8 _ _ (by first|omega|(repeat rw[World.size_alloc]);omega)];simp[go_sem]
 have t8_3_1:w8.cell? ⟨w7.heap.size,1,none⟩=some (.slice A7_1 (R.1.wires).length c7_1):=by rw[hc8 _ _ (by first|omega|(repeat rw[World.size_alloc]);omega)];simp[go_sem]
 clear t7_0_0
 clear t7_0_1
 clear t7_1_0
 clear t7_1_1
 clear t7_2_0
 clear t7_2_1
 have aA_n_signals5_8:=RA.to aA_n_signals5_7 hs8
 clear aA_n_signals5_7
 have aA_n_wires5_8:=RA.to aA_n_wires5_7 hs8
 clear aA_n_wires5_7
 have aA_l6_8:=RA.to aA_l6_7 hs8
 clear aA_l6_7
 have HXn_8:Hid (Below w5.heap.size w5 w8):=Ze (HXn_7.out.trans (hs8.mono HXn_7.out.size))
 clear HXn_7
 have HXl_8:Hid (Below w6.heap.size w6 w8):=Ze (HXl_7.out.trans (hs8.mono HXl_7.out.size))
 clear HXl_7
 have ho4_0_8:=Seen.to ho4_0_7 hs8
 clear ho4_0_7
 have ho4_1_8:=Seen.to ho4_1_7 hs8
 clear ho4_1_7
 have ho7_0_8:=Own.to ho7_0 hs8
 clear ho7_0
 have ho7_1_8:=OwnW.to ho7_1 hs8
 clear ho7_1
 clear hc8
 go_wp2_with fail
 go_region_held3 (fun W=>W.cell? ⟨w5.heap.size,0,none⟩=some (.slice A_n_signals5 (n.signals).length (n.signals).length)∧W.cell? ⟨w5.heap.size,1,none⟩=some (.slice A_n_wires5 (n.wires).length (n.wires).length)∧W.cell? ⟨w.heap.size,0,none⟩=some (.slice A_n_signals (n.signals).length c_n_signals)∧W.cell? ⟨w.heap.size,1,none⟩=some (.slice A_n_wires (n.wires).length c_n_wires)) (first|exact ⟨t8_2_0,t8_2_1,t8_0_0,t8_0_1⟩|exact ⟨(cell_later hb9 t8_2_0),(cell_later hb9 t8_2_1),(cell_later hb9 t8_0_0),(cell_later hb9 t8_0_1)⟩|exact ⟨(cell_later hb10 (cell_later hb9 t8_2_0)),(cell_later hb10 (cell_later hb9 t8_2_1)),(cell_later hb10 (cell_later hb9 t8_0_0)),(cell_later hb10 (cell_later hb9 t8_0_1))⟩) (first|(go_at_call 6;refine (toNetlist n A_n_signals c_n_signals A_n_wires c_n_wires _ g0 g1 (RA.to g2 HW8.out.drew) g3 g4 (RA.to g5 HW8.out.drew) qq_n).mono ?_;rintro e w9 ⟨A_n_signals9,A_n_wires9,rfl,rA_n_signals9,rA_n_wires9,hb9,fz9⟩)|(go_at_call 9;refine (eqNetlist n A_n_signals5 (n.signals).length A_n_wires5 (n.wires).length A_n_signals9 (n.signals).length A_n_wires9 (n.wires).length _ (Nat.le_refl _) (by omega) (RA.to aA_n_signals5_8 (Below.trans (Below.drew (Below.refl _ _)) hb9)) (Nat.le_refl _) (by omega) (RA.to aA_n_wires5_8 (Below.trans (Below.drew (Below.refl _ _)) hb9)) (Nat.le_refl _) (by omega) ((rA_n_signals9).mono fun b hb=>hb.2) (Nat.le_refl _) (by omega) ((rA_n_wires9).mono fun b hb=>hb.2)).mono ?_;rintro e w10 ⟨rfl,hb10⟩))
 have hs10:Below w8.heap.size w8 w10:=(Below.drew (Below.refl _ _)).trans (hb9.trans (hb10.mono hb9.size))
 have HW10:Hid (Below w.heap.size w w10):=Ze (HW8.out.trans (hs10.mono HW8.out.size))
 have hz10:w8.heap.size≤w10.heap.size:=Nat.le_trans hb9.size hb10.size
 have l10_0:w.heap.size<w10.heap.size:=by omega
 have t10_0_0:w10.cell? ⟨w.heap.size,0,none⟩=some (.slice A_n_signals (n.signals).length c_n_signals):=cell_later hb10 (cell_later hb9 t8_0_0)
 clear t8_0_0
 have t10_0_1:w10.cell? ⟨w.heap.size,1,none⟩=some (.slice A_n_wires (n.wires).length c_n_wires):=cell_later hb10 (cell_later hb9 t8_0_1)
 clear t8_0_1
 have l10_1:w4.heap.size<w10.heap.size:=by omega
 have t10_1_0:w10.cell? ⟨w4.heap.size,0,none⟩=some (.slice A4_0 (R.1.signals).length c4_0):=cell_later hb10 (cell_later hb9 t8_1_0)
 clear t8_1_0
 have t10_1_1:w10.cell? ⟨w4.heap.size,1,none⟩=some (.slice A4_1 (R.1.wires).length c4_1):=cell_later hb10 (cell_later hb9 t8_1_1)
 clear t8_1_1
 have l10_2:w5.heap.size<w10.heap.size:=by omega
 have t10_2_0:w10.cell? ⟨w5.heap.size,0,none⟩=some (.slice A_n_signals5 (n.signals).length (n.signals).length):=cell_later hb10 (cell_later hb9 t8_2_0)
 clear t8_2_0
 have t10_2_1:w10.cell? ⟨w5.heap.size,1,none⟩=some (.slice A_n_wires5 (n.wires).length (n.wires).length):=cell_later hb10 (cell_later hb9 t8_2_1)
 clear t8_2_1
 have l10_3:w7.heap.size<w10.heap.size:=by omega
 have t10_3_0:w10.cell? ⟨w7.heap.size,0,none⟩=some (.slice A7_0 (R.1.signals).length c7_0):=cell_later hb10 (cell_later hb9 t8_3_0)
 clear t8_3_0
 have t10_3_1:w10.cell? ⟨w7.heap.size,1,none⟩=some (.slice A7_1 (R.1.wires).length c7_1):=cell_later hb10 (cell_later hb9 t8_3_1)
 clear t8_3_1
 have aA_n_signals5_10:=RA.to aA_n_signals5_8 hs10
 clear aA_n_signals5_8
 have aA_n_wires5_10:=RA.to aA_n_wires5_8 hs10
 clear aA_n_wires5_8
 have aA_l6_10:=RA.to aA_l6_8 hs10
 clear aA_l6_8
 have HXn_10:Hid (Below w5.heap.size w5 w10):=Ze (HXn_8.out.trans (hs10.mono HXn_8.out.size))
 clear HXn_8
 have HXl_10:Hid (Below w6.heap.size w6 w10):=Ze (HXl_8.out.trans (hs10.mono HXl_8.out.size))
 clear HXl_8
 have ho4_0_10:=Seen.to ho4_0_8 hs10
 clear ho4_0_8
 have ho4_1_10:=Seen.to ho4_1_8 hs10
 clear ho4_1_8
 have ho7_0_10:=Own.to ho7_0_8 hs10
 clear ho7_0_8
 have ho7_1_10:=OwnW.to ho7_1_8 hs10
 clear ho7_1_8
 go_wp2_with fail
 refine (toIntS A_l c_l l _ (by omega) (RA.to g9 HW10.out)).mono ?_
 rintro e w11 ⟨A_l11,rfl,rA_l11,hb11,fz11⟩
 have hs11:Below w10.heap.size w10 w11:=hb11
 have HW11:Hid (Below w.heap.size w w11):=Ze (HW10.out.trans (hs11.mono HW10.out.size))
 obtain ⟨hc11,_⟩:=Zai hb11
 have hz11:=hb11.size
 repeat rw[World.size_alloc] at hz11
 have l11_0:w.heap.size<w11.heap.size:=by omega
 have t11_0_0:w11.cell? ⟨w.heap.size,0,none⟩=some (.slice A_n_signals (n.signals).length c_n_signals):=(hc11 _ _ (by omega)).trans t10_0_0
 have t11_0_1:w11.cell? ⟨w.heap.size,1,none⟩=some (.slice A_n_wires (n.wires).length c_n_wires):=(hc11 _ _ (by omega)).trans t10_0_1
 have l11_1:w4.heap.size<w11.heap.size:=by omega
 have t11_1_0:w11.cell? ⟨w4.heap.size,0,none⟩=some (.slice A4_0 (R.1.signals).length c4_0):=(hc11 _ _ (by omega)).trans t10_1_0
 have t11_1_1:w11.cell? ⟨w4.heap.size,1,none⟩=some (.slice A4_1 (R.1.wires).length c4_1):=(hc11 _ _ (by omega)).trans t10_1_1
 have l11_2:w5.heap.size<w11.heap.size:=by omega
 have t11_2_0:w11.cell? ⟨w5.heap.size,0,none⟩=some (.slice A_n_signals5 (n.signals).length (n.signals).length):=(hc11 _ _ (by omega)).trans t10_2_0
 have t11_2_1:w11.cell? ⟨w5.heap.size,1,none⟩=some (.slice A_n_wires5 (n.wires).length (n.wires).length):=(hc11 _ _ (by omega)).trans t10_2_1
 have l11_3:w7.heap.size<w11.heap.size:=by omega
 have t11_3_0:w11.cell? ⟨w7.heap.size,0,none⟩=some (.slice A7_0 (R.1.signals).length c7_0):=(hc11 _ _ (by omega)).trans t10_3_0
 have t11_3_1:w11.cell? ⟨w7.heap.size,1,none⟩=some (.slice A7_1 (R.1.wires).length c7_1):=(hc11 _ _ (by omega)).trans t10_3_1
 clear t10_0_0
 clear t10_0_1
 clear t10_1_0
 clear t10_1_1
 clear t10_2_0
 clear t10_2_1
 clear t10_3_0
 clear t10_3_1
 have aA_n_signals5_11:=RA.to aA_n_signals5_10 hs11
 clear aA_n_signals5_10
 have aA_n_wires5_11:=RA.to aA_n_wires5_10 hs11
 clear aA_n_wires5_10
 have aA_l6_11:=RA.to aA_l6_10 hs11
 clear aA_l6_10
 have HXn_11:Hid (Below w5.heap.size w5 w11):=Ze (HXn_10.out.trans (hs11.mono HXn_10.out.size))
 clear HXn_10
 have HXl_11:Hid (Below w6.heap.size w6 w11):=Ze (HXl_10.out.trans (hs11.mono HXl_10.out.size))
 clear HXl_10
 have ho4_0_11:=Seen.to ho4_0_10 hs11
 clear ho4_0_10
 have ho4_1_11:=Seen.to ho4_1_10 hs11
 clear ho4_1_10
 have ho7_0_11:=Own.to ho7_0_10 hs11
 clear ho7_0_10
 have ho7_1_11:=OwnW.to ho7_1_10 hs11
 clear ho7_1_10
 clear hc11
 have aA_l11:RA ZB w11 A_l11 l:=(rA_l11).mono fun b hb=>hb.2
 go_wp2_with fail
 refine (eqIntS A_l6 A_l11 (l).length (l).length l _ (by omega) (RA.to aA_l6_11 (Below.refl _ _)) (RA.to aA_l11 (Below.refl _ _))).mono ?_
 rintro e w12 ⟨rfl,hb12⟩
 have hs12:Below w11.heap.size w11 w12:=hb12
 have HW12:Hid (Below w.heap.size w w12):=Ze (HW11.out.trans (hs12.mono HW11.out.size))
 obtain ⟨hc12,_⟩:=Zai hb12
 have hz12:=hb12.size
 repeat rw[World.size_alloc] at hz12
 have l12_0:w.heap.size<w12.heap.size:=by omega
 have t12_0_0:w12.cell? ⟨w.heap.size,0,none⟩=some (.slice A_n_signals (n.signals).length c_n_signals):=(hc12 _ _ (by omega)).trans t11_0_0
 have t12_0_1:w12.cell? ⟨w.heap.size,1,none⟩=some (.slice A_n_wires (n.wires).length c_n_wires):=(hc12 _ _ (by omega)).trans t11_0_1
 have l12_1:w4.heap.size<w12.heap.size:=by omega
 have t12_1_0:w12.cell? ⟨w4.heap.size,0,none⟩=some (.slice A4_0 (R.1.signals).length c4_0):=(hc12 _ _ (by omega)).trans t11_1_0
 have t12_1_1:w12.cell? ⟨w4.heap.size,1,none⟩=some (.slice A4_1 (R.1.wires).length c4_1):=(hc12 _ _ (by omega)).trans t11_1_1
 have l12_2:w5.heap.size<w12.heap.size:=by omega
 have t12_2_0:w12.cell? ⟨w5.heap.size,0,none⟩=some (.slice A_n_signals5 (n.signals).length (n.signals).length):=(hc12 _ _ (by omega)).trans t11_2_0
 have t12_2_1:w12.cell? ⟨w5.heap.size,1,none⟩=some (.slice A_n_wires5 (n.wires).length (n.wires).length):=(hc12 _ _ (by omega)).trans t11_2_1
 have l12_3:w7.heap.size<w12.heap.size:=by omega
 have t12_3_0:w12.cell? ⟨w7.heap.size,0,none⟩=some (.slice A7_0 (R.1.signals).length c7_0):=(hc12 _ _ (by omega)).trans t11_3_0
 have t12_3_1:w12.cell? ⟨w7.heap.size,1,none⟩=some (.slice A7_1 (R.1.wires).length c7_1):=(hc12 _ _ (by omega)).trans t11_3_1
 clear t11_0_0
 clear t11_0_1
 clear t11_1_0
 clear t11_1_1
 clear t11_2_0
 clear t11_2_1
 clear t11_3_0
 clear t11_3_1
 have aA_n_signals5_12:=RA.to aA_n_signals5_11 hs12
 clear aA_n_signals5_11
 have aA_n_wires5_12:=RA.to aA_n_wires5_11 hs12
 clear aA_n_wires5_11
 have aA_l6_12:=RA.to aA_l6_11 hs12
 clear aA_l6_11
 have aA_l11_12:=RA.to aA_l11 hs12
 clear aA_l11
 have HXn_12:Hid (Below w5.heap.size w5 w12):=Ze (HXn_11.out.trans (hs12.mono HXn_11.out.size))
 clear HXn_11
 have HXl_12:Hid (Below w6.heap.size w6 w12):=Ze (HXl_11.out.trans (hs12.mono HXl_11.out.size))
 clear HXl_11
 have ho4_0_12:=Seen.to ho4_0_11 hs12
 clear ho4_0_11
 have ho4_1_12:=Seen.to ho4_1_11 hs12
 clear ho4_1_11
 have ho7_0_12:=Own.to ho7_0_11 hs12
 clear ho7_0_11
 have ho7_1_12:=OwnW.to ho7_1_11 hs12
 clear ho7_1_11
 clear hc12
 have hD:∀b,(fun b=>Za2 (w4.alloc (.cells #[.slice A4_0 (R.1.signals).length c4_0,.slice A4_1 (R.1.wires).length c4_1] 31)) w5 b∨Za2 (w5.alloc (.cells #[.slice A_n_signals5 (n.signals).length (n.signals).length,.slice A_n_wires5 (n.wires).length (n.wires).length] 31)) w6 b) b→b<w12.heap.size:=fun b hd=>by
  rcases hd with hd|hd
  ·exact Nat.lt_of_lt_of_le hd.2 HXn_12.out.size
  ·exact Nat.lt_of_lt_of_le hd.2 HXl_12.out.size
 have hnf:∀b o,(fun b=>Za2 (w4.alloc (.cells #[.slice A4_0 (R.1.signals).length c4_0,.slice A4_1 (R.1.wires).length c4_1] 31)) w5 b∨Za2 (w5.alloc (.cells #[.slice A_n_signals5 (n.signals).length (n.signals).length,.slice A_n_wires5 (n.wires).length (n.wires).length] 31)) w6 b) b→w12.frozen? ⟨b,o,none⟩=false:=fun b o hd=>by
  rcases hd with hd|hd
  ·exact (HXn_12.out.frozen (p:=⟨b,o,none⟩) hd.2).trans (fz5.fresh hd.1)
  ·exact (HXl_12.out.frozen (p:=⟨b,o,none⟩) hd.2).trans (fz6.fresh hd.1)
 have mrA_n_signals5:RSl Zm w12 (fun b=>Za2 (w4.alloc (.cells #[.slice A4_0 (R.1.signals).length c4_0,.slice A4_1 (R.1.wires).length c4_1] 31)) w5 b∨Za2 (w5.alloc (.cells #[.slice A_n_signals5 (n.signals).length (n.signals).length,.slice A_n_wires5 (n.wires).length (n.wires).length] 31)) w6 b) A_n_signals5 n.signals:=(rA_n_signals5.below HXn_12.out (fun b hd=>hd.2)).mono (fun b hd=>.inl hd)
 have mrA_n_wires5:RSl Zx w12 (fun b=>Za2 (w4.alloc (.cells #[.slice A4_0 (R.1.signals).length c4_0,.slice A4_1 (R.1.wires).length c4_1] 31)) w5 b∨Za2 (w5.alloc (.cells #[.slice A_n_signals5 (n.signals).length (n.signals).length,.slice A_n_wires5 (n.wires).length (n.wires).length] 31)) w6 b) A_n_wires5 n.wires:=(rA_n_wires5.below HXn_12.out (fun b hd=>hd.2)).mono (fun b hd=>.inl hd)
 have mrA_l6:RSl ZB w12 (fun b=>Za2 (w4.alloc (.cells #[.slice A4_0 (R.1.signals).length c4_0,.slice A4_1 (R.1.wires).length c4_1] 31)) w5 b∨Za2 (w5.alloc (.cells #[.slice A_n_signals5 (n.signals).length (n.signals).length,.slice A_n_wires5 (n.wires).length (n.wires).length] 31)) w6 b) A_l6 l:=(rA_l6.below HXl_12.out (fun b hd=>hd.2)).mono (fun b hd=>.inr (hd))
 have hM0:=Marked.refl (fun b=>Za2 (w4.alloc (.cells #[.slice A4_0 (R.1.signals).length c4_0,.slice A4_1 (R.1.wires).length c4_1] 31)) w5 b∨Za2 (w5.alloc (.cells #[.slice A_n_signals5 (n.signals).length (n.signals).length,.slice A_n_wires5 (n.wires).length (n.wires).length] 31)) w6 b) w12
 go_wp2_with fail
 refine (markNetlist_arg w12 (fun b=>Za2 (w4.alloc (.cells #[.slice A4_0 (R.1.signals).length c4_0,.slice A4_1 (R.1.wires).length c4_1] 31)) w5 b∨Za2 (w5.alloc (.cells #[.slice A_n_signals5 (n.signals).length (n.signals).length,.slice A_n_wires5 (n.wires).length (n.wires).length] 31)) w6 b) hD hnf n A_n_signals5 (n.signals).length A_n_wires5 (n.wires).length (Nat.le_refl _) (by omega) mrA_n_signals5 (Nat.le_refl _) (by omega) mrA_n_wires5 1 _ hM0 (by omega) (by omega)).mono ?_
 rintro e w13 ⟨n13,rfl,hp13,hq13,hM13,hT13⟩
 have hz13:=hT13.size
 have HW13:Hid (Below w.heap.size w w13):=Ze (HW12.out.trans (hT13.below (fun q hd=>by rcases hd with hd|hd<;>(have h1:=hd.1;(try rw[World.size_alloc] at h1);have h2:=hd.2;omega)) HW12.out.size))
 have l13_0:w.heap.size<w13.heap.size:=by omega
 have t13_0_0:w13.cell? ⟨w.heap.size,0,none⟩=some (.slice A_n_signals (n.signals).length c_n_signals):=(hT13.cell (by omega) (fun hd=>by rcases hd with hd|hd<;>(have h1:=hd.1;(try rw[World.size_alloc] at h1);have h2:=hd.2;omega))).trans t12_0_0
 clear t12_0_0
 have t13_0_1:w13.cell? ⟨w.heap.size,1,none⟩=some (.slice A_n_wires (n.wires).length c_n_wires):=(hT13.cell (by omega) (fun hd=>by rcases hd with hd|hd<;>(have h1:=hd.1;(try rw[World.size_alloc] at h1);have h2:=hd.2;omega))).trans t12_0_1
 clear t12_0_1
 have l13_1:w4.heap.size<w13.heap.size:=by omega
 have t13_1_0:w13.cell? ⟨w4.heap.size,0,none⟩=some (.slice A4_0 (R.1.signals).length c4_0):=(hT13.cell (by omega) (fun hd=>by rcases hd with hd|hd<;>(have h1:=hd.1;(try rw[World.size_alloc] at h1);have h2:=hd.2;omega))).trans t12_1_0
 clear t12_1_0
 have t13_1_1:w13.cell? ⟨w4.heap.size,1,none⟩=some (.slice A4_1 (R.1.wires).length c4_1):=(hT13.cell (by omega) (fun hd=>by rcases hd with hd|hd<;>(have h1:=hd.1;(try rw[World.size_alloc] at h1);have h2:=hd.2;omega))).trans t12_1_1
 clear t12_1_1
 have l13_2:w5.heap.size<w13.heap.size:=by omega
 have t13_2_0:w13.cell? ⟨w5.heap.size,0,none⟩=some (.slice A_n_signals5 (n.signals).length (n.signals).length):=(hT13.cell (by omega) (fun hd=>by rcases hd with hd|hd<;>(have h1:=hd.1;(try rw[World.size_alloc] at h1);have h2:=hd.2;omega))).trans t12_2_0
 clear t12_2_0
 have t13_2_1:w13.cell? ⟨w5.heap.size,1,none⟩=some (.slice A_n_wires5 (n.wires).length (n.wires).length):=(hT13.cell (by omega) (fun hd=>by rcases hd with hd|hd<;>(have h1:=hd.1;(try rw[World.size_alloc] at h1);have h2:=hd.2;omega))).trans t12_2_1
 clear t12_2_1
 have l13_3:w7.heap.size<w13.heap.size:=by omega
 have t13_3_0:w13.cell? ⟨w7.heap.size,0,none⟩=some (.slice A7_0 (R.1.signals).length c7_0):=(hT13.cell (by omega) (fun hd=>by rcases hd with hd|hd<;>(have h1:=hd.1;(try rw[World.size_alloc] at h1);have h2:=hd.2;omega))).trans t12_3_0
 clear t12_3_0
 have t13_3_1:w13.cell? ⟨w7.heap.size,1,none⟩=some (.slice A7_1 (R.1.wires).length c7_1):=(hT13.cell (by omega) (fun hd=>by rcases hd with hd|hd<;>(have h1:=hd.1;(try rw[World.size_alloc] at h1);have h2:=hd.2;omega))).trans t12_3_1
 clear t12_3_1
 have ho4_0_13:=Touch.seen hT13 ho4_0_12 (fun q hq hd=>by rcases hd with hd|hd<;>(have h1:=hd.1;(try rw[World.size_alloc] at h1);have h2:=hd.2;have h3:=hlt4_0 q hq;omega))
 clear ho4_0_12
 have ho4_1_13:=Touch.seen hT13 ho4_1_12 (fun q hq hd=>by rcases hd with hd|hd<;>(have h1:=hd.1;(try rw[World.size_alloc] at h1);have h2:=hd.2;have h3:=hlt4_1 q hq;omega))
 clear ho4_1_12
 have ho7_0_13:=Touch.own hT13 ho7_0_12 (fun q hq hd=>by rcases hd with hd|hd<;>(have h1:=hd.1;(try rw[World.size_alloc] at h1);have h2:=hd.2;have h3:=hlt7_0 q hq;omega))
 clear ho7_0_12
 have ho7_1_13:=Touch.ownW hT13 ho7_1_12 (fun q hq hd=>by rcases hd with hd|hd<;>(have h1:=hd.1;(try rw[World.size_alloc] at h1);have h2:=hd.2;have h3:=hlt7_1 q hq;omega))
 clear ho7_1_12
 go_wp2_with fail
 refine (markIntS_arg w12 (fun b=>Za2 (w4.alloc (.cells #[.slice A4_0 (R.1.signals).length c4_0,.slice A4_1 (R.1.wires).length c4_1] 31)) w5 b∨Za2 (w5.alloc (.cells #[.slice A_n_signals5 (n.signals).length (n.signals).length,.slice A_n_wires5 (n.wires).length (n.wires).length] 31)) w6 b) hD hnf A_l6 (l).length l mrA_l6 (by omega) n13 _ hM13 (by omega) (by omega)).mono ?_
 rintro e w14 ⟨n14,rfl,hp14,hq14,hM14,hT14⟩
 have hz14:=hT14.size
 have HW14:Hid (Below w.heap.size w w14):=Ze (HW13.out.trans (hT14.below (fun q hd=>by rcases hd with hd|hd<;>(have h1:=hd.1;(try rw[World.size_alloc] at h1);have h2:=hd.2;omega)) HW13.out.size))
 have l14_0:w.heap.size<w14.heap.size:=by omega
 have t14_0_0:w14.cell? ⟨w.heap.size,0,none⟩=some (.slice A_n_signals (n.signals).length c_n_signals):=(hT14.cell (by omega) (fun hd=>by rcases hd with hd|hd<;>(have h1:=hd.1;(try rw[World.size_alloc] at h1);have h2:=hd.2;omega))).trans t13_0_0
 clear t13_0_0
 have t14_0_1:w14.cell? ⟨w.heap.size,1,none⟩=some (.slice A_n_wires (n.wires).length c_n_wires):=(hT14.cell (by omega) (fun hd=>by rcases hd with hd|hd<;>(have h1:=hd.1;(try rw[World.size_alloc] at h1);have h2:=hd.2;omega))).trans t13_0_1
 clear t13_0_1
 have l14_1:w4.heap.size<w14.heap.size:=by omega
 have t14_1_0:w14.cell? ⟨w4.heap.size,0,none⟩=some (.slice A4_0 (R.1.signals).length c4_0):=(hT14.cell (by omega) (fun hd=>by rcases hd with hd|hd<;>(have h1:=hd.1;(try rw[World.size_alloc] at h1);have h2:=hd.2;omega))).trans t13_1_0
 clear t13_1_0
 have t14_1_1:w14.cell? ⟨w4.heap.size,1,none⟩=some (.slice A4_1 (R.1.wires).length c4_1):=(hT14.cell (by omega) (fun hd=>by rcases hd with hd|hd<;>(have h1:=hd.1;(try rw[World.size_alloc] at h1);have h2:=hd.2;omega))).trans t13_1_1
 clear t13_1_1
 have l14_2:w5.heap.size<w14.heap.size:=by omega
 have t14_2_0:w14.cell? ⟨w5.heap.size,0,none⟩=some (.slice A_n_signals5 (n.signals).length (n.signals).length):=(hT14.cell (by omega) (fun hd=>by rcases hd with hd|hd<;>(have h1:=hd.1;(try rw[World.size_alloc] at h1);have h2:=hd.2;omega))).trans t13_2_0
 clear t13_2_0
 have t14_2_1:w14.cell? ⟨w5.heap.size,1,none⟩=some (.slice A_n_wires5 (n.wires).length (n.wires).length):=(hT14.cell (by omega) (fun hd=>by rcases hd with hd|hd<;>(have h1:=hd.1;(try rw[World.size_alloc] at h1);have h2:=hd.2;omega))).trans t13_2_1
 clear t13_2_1
 have l14_3:w7.heap.size<w14.heap.size:=by omega
 have t14_3_0:w14.cell? ⟨w7.heap.size,0,none⟩=some (.slice A7_0 (R.1.signals).length c7_0):=(hT14.cell (by omega) (fun hd=>by rcases hd with hd|hd<;>(have h1:=hd.1;(try rw[World.size_alloc] at h1);have h2:=hd.2;omega))).trans t13_3_0
 clear t13_3_0
 have t14_3_1:w14.cell? ⟨w7.heap.size,1,none⟩=some (.slice A7_1 (R.1.wires).length c7_1):=(hT14.cell (by omega) (fun hd=>by rcases hd with hd|hd<;>(have h1:=hd.1;(try rw[World.size_alloc] at h1);have h2:=hd.2;omega))).trans t13_3_1
 clear t13_3_1
 have ho4_0_14:=Touch.seen hT14 ho4_0_13 (fun q hq hd=>by rcases hd with hd|hd<;>(have h1:=hd.1;(try rw[World.size_alloc] at h1);have h2:=hd.2;have h3:=hlt4_0 q hq;omega))
 clear ho4_0_13
 have ho4_1_14:=Touch.seen hT14 ho4_1_13 (fun q hq hd=>by rcases hd with hd|hd<;>(have h1:=hd.1;(try rw[World.size_alloc] at h1);have h2:=hd.2;have h3:=hlt4_1 q hq;omega))
 clear ho4_1_13
 have ho7_0_14:=Touch.own hT14 ho7_0_13 (fun q hq hd=>by rcases hd with hd|hd<;>(have h1:=hd.1;(try rw[World.size_alloc] at h1);have h2:=hd.2;have h3:=hlt7_0 q hq;omega))
 clear ho7_0_13
 have ho7_1_14:=Touch.ownW hT14 ho7_1_13 (fun q hq hd=>by rcases hd with hd|hd<;>(have h1:=hd.1;(try rw[World.size_alloc] at h1);have h2:=hd.2;have h3:=hlt7_1 q hq;omega))
 clear ho7_1_13
 clear HXn_12
 clear HXl_12
 have qn:decide (n14<0)=false:=by simp;omega
 go_wp2_with fail
 refine (eqNetlist (R.1) A7_0 c7_0 A7_1 c7_1 A4_0 c4_0 A4_1 c4_1 _ ho7_0_14.cap.1 ho7_0_14.cap.2 (RA.to ho7_0_14.ra (Below.refl _ _)) ho7_1_14.cap.1 ho7_1_14.cap.2 (RA.to ho7_1_14.ra (Below.refl _ _)) ho4_0_14.cap.1 ho4_0_14.cap.2 (RA.to ho4_0_14.ra (Below.refl _ _)) ho4_1_14.cap.1 ho4_1_14.cap.2 (RA.to ho4_1_14.ra (Below.refl _ _))).mono ?_
 rintro e w15 ⟨rfl,hb15⟩
 have hs15:Below w14.heap.size w14 w15:=hb15
 have HW15:Hid (Below w.heap.size w w15):=Ze (HW14.out.trans (hs15.mono HW14.out.size))
 obtain ⟨hc15,_⟩:=Zai hb15
 have hz15:=hb15.size
 repeat rw[World.size_alloc] at hz15
 have l15_0:w.heap.size<w15.heap.size:=by omega
 have t15_0_0:w15.cell? ⟨w.heap.size,0,none⟩=some (.slice A_n_signals (n.signals).length c_n_signals):=(hc15 _ _ (by omega)).trans t14_0_0
 have t15_0_1:w15.cell? ⟨w.heap.size,1,none⟩=some (.slice A_n_wires (n.wires).length c_n_wires):=(hc15 _ _ (by omega)).trans t14_0_1
 have l15_1:w4.heap.size<w15.heap.size:=by omega
 have t15_1_0:w15.cell? ⟨w4.heap.size,0,none⟩=some (.slice A4_0 (R.1.signals).length c4_0):=(hc15 _ _ (by omega)).trans t14_1_0
 have t15_1_1:w15.cell? ⟨w4.heap.size,1,none⟩=some (.slice A4_1 (R.1.wires).length c4_1):=(hc15 _ _ (by omega)).trans t14_1_1
 have l15_2:w5.heap.size<w15.heap.size:=by omega
 have t15_2_0:w15.cell? ⟨w5.heap.size,0,none⟩=some (.slice A_n_signals5 (n.signals).length (n.signals).length):=(hc15 _ _ (by omega)).trans t14_2_0
 have t15_2_1:w15.cell? ⟨w5.heap.size,1,none⟩=some (.slice A_n_wires5 (n.wires).length (n.wires).length):=(hc15 _ _ (by omega)).trans t14_2_1
 have l15_3:w7.heap.size<w15.heap.size:=by omega
 have t15_3_0:w15.cell? ⟨w7.heap.size,0,none⟩=some (.slice A7_0 (R.1.signals).length c7_0):=(hc15 _ _ (by omega)).trans t14_3_0
 have t15_3_1:w15.cell? ⟨w7.heap.size,1,none⟩=some (.slice A7_1 (R.1.wires).length c7_1):=(hc15 _ _ (by omega)).trans t14_3_1
 clear t14_0_0
 clear t14_0_1
 clear t14_1_0
 clear t14_1_1
 clear t14_2_0
 clear t14_2_1
 clear t14_3_0
 clear t14_3_1
 have ho4_0_15:=Seen.to ho4_0_14 hs15
 clear ho4_0_14
 have ho4_1_15:=Seen.to ho4_1_14 hs15
 clear ho4_1_14
 have ho7_0_15:=Own.to ho7_0_14 hs15
 clear ho7_0_14
 have ho7_1_15:=OwnW.to ho7_1_14 hs15
 clear ho7_1_14
 clear hc15
 go_wp2_with fail
 refine (markNetlist_own _ _ _ _ (R.1) A7_0 c7_0 A7_1 c7_1 hs_7 1 _ ho7_0_15 ho7_1_15 dj7 (by omega) (by omega)).mono ?_
 rintro e w16 ⟨rfl,hr16_0,hr16_1,hT16⟩
 have hz16:=hT16.size
 have HW16:Hid (Below w.heap.size w w16):=Ze (HW15.out.trans (hT16.below (fun q hd=>by rcases hd with hd|hd<;>first|(have h4:=hlt7_0 _ hd;omega)|(have h4:=hlt7_1 _ hd;omega)) HW15.out.size))
 have l16_0:w.heap.size<w16.heap.size:=by omega
 have t16_0_0:w16.cell? ⟨w.heap.size,0,none⟩=some (.slice A_n_signals (n.signals).length c_n_signals):=(hT16.cell (by omega) (fun hd=>by rcases hd with hd|hd<;>first|(have h4:=hlt7_0 _ hd;omega)|(have h4:=hlt7_1 _ hd;omega))).trans t15_0_0
 clear t15_0_0
 have t16_0_1:w16.cell? ⟨w.heap.size,1,none⟩=some (.slice A_n_wires (n.wires).length c_n_wires):=(hT16.cell (by omega) (fun hd=>by rcases hd with hd|hd<;>first|(have h4:=hlt7_0 _ hd;omega)|(have h4:=hlt7_1 _ hd;omega))).trans t15_0_1
 clear t15_0_1
 have l16_1:w4.heap.size<w16.heap.size:=by omega
 have t16_1_0:w16.cell? ⟨w4.heap.size,0,none⟩=some (.slice A4_0 (R.1.signals).length c4_0):=(hT16.cell (by omega) (fun hd=>by rcases hd with hd|hd<;>first|(have h4:=hlt7_0 _ hd;omega)|(have h4:=hlt7_1 _ hd;omega))).trans t15_1_0
 clear t15_1_0
 have t16_1_1:w16.cell? ⟨w4.heap.size,1,none⟩=some (.slice A4_1 (R.1.wires).length c4_1):=(hT16.cell (by omega) (fun hd=>by rcases hd with hd|hd<;>first|(have h4:=hlt7_0 _ hd;omega)|(have h4:=hlt7_1 _ hd;omega))).trans t15_1_1
 clear t15_1_1
 have l16_2:w5.heap.size<w16.heap.size:=by omega
 have t16_2_0:w16.cell? ⟨w5.heap.size,0,none⟩=some (.slice A_n_signals5 (n.signals).length (n.signals).length):=(hT16.cell (by omega) (fun hd=>by rcases hd with hd|hd<;>first|(have h4:=hlt7_0 _ hd;omega)|(have h4:=hlt7_1 _ hd;omega))).trans t15_2_0
 clear t15_2_0
 have t16_2_1:w16.cell? ⟨w5.heap.size,1,none⟩=some (.slice A_n_wires5 (n.wires).length (n.wires).length):=(hT16.cell (by omega) (fun hd=>by rcases hd with hd|hd<;>first|(have h4:=hlt7_0 _ hd;omega)|(have h4:=hlt7_1 _ hd;omega))).trans t15_2_1
 clear t15_2_1
 have l16_3:w7.heap.size<w16.heap.size:=by omega
 have t16_3_0:w16.cell? ⟨w7.heap.size,0,none⟩=some (.slice A7_0 (R.1.signals).length c7_0):=(hT16.cell (by omega) (fun hd=>by rcases hd with hd|hd<;>first|(have h4:=hlt7_0 _ hd;omega)|(have h4:=hlt7_1 _ hd;omega))).trans t15_3_0
 clear t15_3_0
 have t16_3_1:w16.cell? ⟨w7.heap.size,1,none⟩=some (.slice A7_1 (R.1.wires).length c7_1):=(hT16.cell (by omega) (fun hd=>by rcases hd with hd|hd<;>first|(have h4:=hlt7_0 _ hd;omega)|(have h4:=hlt7_1 _ hd;omega))).trans t15_3_1
 clear t15_3_1
 have ho4_0_16:=Touch.seen hT16 ho4_0_15 (fun q hq hd=>by rcases hd with hd|hd<;>first|(have h4:=hlt7_0 _ hd;have h3:=hlt4_0 q hq;omega)|(have h4:=hlt7_1 _ hd;have h3:=hlt4_0 q hq;omega))
 clear ho4_0_15
 have ho4_1_16:=Touch.seen hT16 ho4_1_15 (fun q hq hd=>by rcases hd with hd|hd<;>first|(have h4:=hlt7_0 _ hd;have h3:=hlt4_1 q hq;omega)|(have h4:=hlt7_1 _ hd;have h3:=hlt4_1 q hq;omega))
 clear ho4_1_15
 have aG_7_0:RA Zm w16 A7_0 (Zau mkSig 2 (1) R.1.signals):=hr16_0.mono (fun b hb=>by have h3:=hlt7_0 b hb;omega)
 have aG_7_1:RA Zx w16 A7_1 (mkWs (1+2 * (R.1.signals.length:Int)) R.1.wires):=hr16_1.mono (fun b hb=>by have h3:=hlt7_1 b hb;omega)
 have qh:decide (1+2 * (R.1.signals.length:Int)+((wcosts R.1.wires:Nat):Int)<0)=false:=by simp;omega
 go_wp2_with fail
 refine (heldNetlist (R.1) A7_0 c7_0 A7_1 c7_1 1 _ (by omega) (RA.to aG_7_0 (Below.refl _ _)) (by omega) (RA.to aG_7_1 (Below.refl _ _)) (by omega) (by omega)).mono ?_
 rintro e w17 ⟨rfl,hb17⟩
 have hs17:Below w16.heap.size w16 w17:=hb17
 have HW17:Hid (Below w.heap.size w w17):=Ze (HW16.out.trans (hs17.mono HW16.out.size))
 obtain ⟨hc17,_⟩:=Zai hb17
 have hz17:=hb17.size
 repeat rw[World.size_alloc] at hz17
 have l17_0:w.heap.size<w17.heap.size:=by omega
 have t17_0_0:w17.cell? ⟨w.heap.size,0,none⟩=some (.slice A_n_signals (n.signals).length c_n_signals):=(hc17 _ _ (by omega)).trans t16_0_0
 have t17_0_1:w17.cell? ⟨w.heap.size,1,none⟩=some (.slice A_n_wires (n.wires).length c_n_wires):=(hc17 _ _ (by omega)).trans t16_0_1
 have l17_1:w4.heap.size<w17.heap.size:=by omega
 have t17_1_0:w17.cell? ⟨w4.heap.size,0,none⟩=some (.slice A4_0 (R.1.signals).length c4_0):=(hc17 _ _ (by omega)).trans t16_1_0
 have t17_1_1:w17.cell? ⟨w4.heap.size,1,none⟩=some (.slice A4_1 (R.1.wires).length c4_1):=(hc17 _ _ (by omega)).trans t16_1_1
 have l17_2:w5.heap.size<w17.heap.size:=by omega
 have t17_2_0:w17.cell? ⟨w5.heap.size,0,none⟩=some (.slice A_n_signals5 (n.signals).length (n.signals).length):=(hc17 _ _ (by omega)).trans t16_2_0
 have t17_2_1:w17.cell? ⟨w5.heap.size,1,none⟩=some (.slice A_n_wires5 (n.wires).length (n.wires).length):=(hc17 _ _ (by omega)).trans t16_2_1
 have l17_3:w7.heap.size<w17.heap.size:=by omega
 have t17_3_0:w17.cell? ⟨w7.heap.size,0,none⟩=some (.slice A7_0 (R.1.signals).length c7_0):=(hc17 _ _ (by omega)).trans t16_3_0
 have t17_3_1:w17.cell? ⟨w7.heap.size,1,none⟩=some (.slice A7_1 (R.1.wires).length c7_1):=(hc17 _ _ (by omega)).trans t16_3_1
 clear t16_0_0
 clear t16_0_1
 clear t16_1_0
 clear t16_1_1
 clear t16_2_0
 clear t16_2_1
 clear t16_3_0
 clear t16_3_1
 have aG_7_0_17:=RA.to aG_7_0 hs17
 clear aG_7_0
 have aG_7_1_17:=RA.to aG_7_1 hs17
 clear aG_7_1
 have ho4_0_17:=Seen.to ho4_0_16 hs17
 clear ho4_0_16
 have ho4_1_17:=Seen.to ho4_1_16 hs17
 clear ho4_1_16
 clear hc17
 go_wp2_with fail
 refine (toNetlist n A_n_signals c_n_signals A_n_wires c_n_wires _ g0 g1 (RA.to g2 HW17.out) g3 g4 (RA.to g5 HW17.out) qq_n).mono ?_
 rintro e w18 ⟨A_n_signals18,A_n_wires18,rfl,rA_n_signals18,rA_n_wires18,hb18,fz18⟩
 have hs18:Below w17.heap.size w17 w18:=hb18
 have HW18:Hid (Below w.heap.size w w18):=Ze (HW17.out.trans (hs18.mono HW17.out.size))
 obtain ⟨hc18,_⟩:=Zai hb18
 have hz18:=hb18.size
 repeat rw[World.size_alloc] at hz18
 have l18_0:w.heap.size<w18.heap.size:=by omega
 have t18_0_0:w18.cell? ⟨w.heap.size,0,none⟩=some (.slice A_n_signals (n.signals).length c_n_signals):=(hc18 _ _ (by omega)).trans t17_0_0
 have t18_0_1:w18.cell? ⟨w.heap.size,1,none⟩=some (.slice A_n_wires (n.wires).length c_n_wires):=(hc18 _ _ (by omega)).trans t17_0_1
 have l18_1:w4.heap.size<w18.heap.size:=by omega
 have t18_1_0:w18.cell? ⟨w4.heap.size,0,none⟩=some (.slice A4_0 (R.1.signals).length c4_0):=(hc18 _ _ (by omega)).trans t17_1_0
 have t18_1_1:w18.cell? ⟨w4.heap.size,1,none⟩=some (.slice A4_1 (R.1.wires).length c4_1):=(hc18 _ _ (by omega)).trans t17_1_1
 have l18_2:w5.heap.size<w18.heap.size:=by omega
 have t18_2_0:w18.cell? ⟨w5.heap.size,0,none⟩=some (.slice A_n_signals5 (n.signals).length (n.signals).length):=(hc18 _ _ (by omega)).trans t17_2_0
 have t18_2_1:w18.cell? ⟨w5.heap.size,1,none⟩=some (.slice A_n_wires5 (n.wires).length (n.wires).length):=(hc18 _ _ (by omega)).trans t17_2_1
 have l18_3:w7.heap.size<w18.heap.size:=by omega
 have t18_3_0:w18.cell? ⟨w7.heap.size,0,none⟩=some (.slice A7_0 (R.1.signals).length c7_0):=(hc18 _ _ (by omega)).trans t17_3_0
 have t18_3_1:w18.cell? ⟨w7.heap.size,1,none⟩=some (.slice A7_1 (R.1.wires).length c7_1):=(hc18 _ _ (by omega)).trans t17_3_1
 clear t17_0_0
 clear t17_0_1
 clear t17_1_0
 clear t17_1_1
 clear t17_2_0
 clear t17_2_1
 clear t17_3_0
 clear t17_3_1
 have aG_7_0_18:=RA.to aG_7_0_17 hs18
 clear aG_7_0_17
 have aG_7_1_18:=RA.to aG_7_1_17 hs18
 clear aG_7_1_17
 have ho4_0_18:=Seen.to ho4_0_17 hs18
 clear ho4_0_17
 have ho4_1_18:=Seen.to ho4_1_17 hs18
 clear ho4_1_17
 clear hc18
 have aA_n_signals18:RA Zm w18 A_n_signals18 n.signals:=(rA_n_signals18).mono fun b hb=>hb.2
 have aA_n_wires18:RA Zx w18 A_n_wires18 n.wires:=(rA_n_wires18).mono fun b hb=>hb.2
 go_wp2_with fail
 refine (toIntS A_l c_l l _ (by omega) (RA.to g9 HW18.out)).mono ?_
 rintro e w19 ⟨A_l19,rfl,rA_l19,hb19,fz19⟩
 have hs19:Below w18.heap.size w18 w19:=hb19
 have HW19:Hid (Below w.heap.size w w19):=Ze (HW18.out.trans (hs19.mono HW18.out.size))
 obtain ⟨hc19,_⟩:=Zai hb19
 have hz19:=hb19.size
 repeat rw[World.size_alloc] at hz19
 have l19_0:w.heap.size<w19.heap.size:=by omega
 have t19_0_0:w19.cell? ⟨w.heap.size,0,none⟩=some (.slice A_n_signals (n.signals).length c_n_signals):=(hc19 _ _ (by omega)).trans t18_0_0
 have t19_0_1:w19.cell? ⟨w.heap.size,1,none⟩=some (.slice A_n_wires (n.wires).length c_n_wires):=(hc19 _ _ (by omega)).trans t18_0_1
 have l19_1:w4.heap.size<w19.heap.size:=by omega
 have t19_1_0:w19.cell? ⟨w4.heap.size,0,none⟩=some (.slice A4_0 (R.1.signals).length c4_0):=(hc19 _ _ (by omega)).trans t18_1_0
 have t19_1_1:w19.cell? ⟨w4.heap.size,1,none⟩=some (.slice A4_1 (R.1.wires).length c4_1):=(hc19 _ _ (by omega)).trans t18_1_1
 have l19_2:w5.heap.size<w19.heap.size:=by omega
 have t19_2_0:w19.cell? ⟨w5.heap.size,0,none⟩=some (.slice A_n_signals5 (n.signals).length (n.signals).length):=(hc19 _ _ (by omega)).trans t18_2_0
 have t19_2_1:w19.cell? ⟨w5.heap.size,1,none⟩=some (.slice A_n_wires5 (n.wires).length (n.wires).length):=(hc19 _ _ (by omega)).trans t18_2_1
 have l19_3:w7.heap.size<w19.heap.size:=by omega
 have t19_3_0:w19.cell? ⟨w7.heap.size,0,none⟩=some (.slice A7_0 (R.1.signals).length c7_0):=(hc19 _ _ (by omega)).trans t18_3_0
 have t19_3_1:w19.cell? ⟨w7.heap.size,1,none⟩=some (.slice A7_1 (R.1.wires).length c7_1):=(hc19 _ _ (by omega)).trans t18_3_1
 clear t18_0_0
 clear t18_0_1
 clear t18_1_0
 clear t18_1_1
 clear t18_2_0
 clear t18_2_1
 clear t18_3_0
 clear t18_3_1
 have aG_7_0_19:=RA.to aG_7_0_18 hs19
 clear aG_7_0_18
 have aG_7_1_19:=RA.to aG_7_1_18 hs19
 clear aG_7_1_18
 have aA_n_signals18_19:=RA.to aA_n_signals18 hs19
 clear aA_n_signals18
 have aA_n_wires18_19:=RA.to aA_n_wires18 hs19
 clear aA_n_wires18
 have ho4_0_19:=Seen.to ho4_0_18 hs19
 clear ho4_0_18
 have ho4_1_19:=Seen.to ho4_1_18 hs19
 clear ho4_1_18
 clear hc19
 have aA_l19:RA ZB w19 A_l19 l:=(rA_l19).mono fun b hb=>hb.2
 go_wp2_with fail
 refine (impl_SplitGate n k l A_n_signals18 (n.signals).length A_n_wires18 (n.wires).length A_l19 (l).length _ (Nat.le_refl _) (by omega) (RA.to aA_n_signals18_19 (Below.refl _ _)) (Nat.le_refl _) (by omega) (RA.to aA_n_wires18_19 (Below.refl _ _)) (Nat.le_refl _) (by omega) (RA.to aA_l19 (Below.refl _ _)) (gok_to hg HW19.out)).mono ?_
 rintro e w20 ⟨A20_0,c20_0,A20_1,c20_1,hs_20,rfl,ho20_0,ho20_1,dj20,hb20⟩
 have hs20:Below w19.heap.size w19 w20:=hb20
 have HW20:Hid (Below w.heap.size w w20):=Ze (HW19.out.trans (hs20.mono HW19.out.size))
 obtain ⟨hc20,_⟩:=Zai hb20
 have hz20:=hb20.size
 repeat rw[World.size_alloc] at hz20
 have l20_0:w.heap.size<w20.heap.size:=by omega
 have t20_0_0:w20.cell? ⟨w.heap.size,0,none⟩=some (.slice A_n_signals (n.signals).length c_n_signals):=(hc20 _ _ (by omega)).trans t19_0_0
 have t20_0_1:w20.cell? ⟨w.heap.size,1,none⟩=some (.slice A_n_wires (n.wires).length c_n_wires):=(hc20 _ _ (by omega)).trans t19_0_1
 have l20_1:w4.heap.size<w20.heap.size:=by omega
 have t20_1_0:w20.cell? ⟨w4.heap.size,0,none⟩=some (.slice A4_0 (R.1.signals).length c4_0):=(hc20 _ _ (by omega)).trans t19_1_0
 have t20_1_1:w20.cell? ⟨w4.heap.size,1,none⟩=some (.slice A4_1 (R.1.wires).length c4_1):=(hc20 _ _ (by omega)).trans t19_1_1
 have l20_2:w5.heap.size<w20.heap.size:=by omega
 have t20_2_0:w20.cell? ⟨w5.heap.size,0,none⟩=some (.slice A_n_signals5 (n.signals).length (n.signals).length):=(hc20 _ _ (by omega)).trans t19_2_0
 have t20_2_1:w20.cell? ⟨w5.heap.size,1,none⟩=some (.slice A_n_wires5 (n.wires).length (n.wires).length):=(hc20 _ _ (by omega)).trans t19_2_1
 have l20_3:w7.heap.size<w20.heap.size:=by omega
 have t20_3_0:w20.cell? ⟨w7.heap.size,0,none⟩=some (.slice A7_0 (R.1.signals).length c7_0):=(hc20 _ _ (by omega)).trans t19_3_0
 have t20_3_1:w20.cell? ⟨w7.heap.size,1,none⟩=some (.slice A7_1 (R.1.wires).length c7_1):=(hc20 _ _ (by omega)).trans t19_3_1
 clear t19_0_0
 clear t19_0_1
 clear t19_1_0
 clear t19_1_1
 clear t19_2_0
 clear t19_2_1
 clear t19_3_0
 clear t19_3_1
 have aG_7_0_20:=RA.to aG_7_0_19 hs20
 clear aG_7_0_19
 have aG_7_1_20:=RA.to aG_7_1_19 hs20
 clear aG_7_1_19
 have aA_n_signals18_20:=RA.to aA_n_signals18_19 hs20
 clear aA_n_signals18_19
 have aA_n_wires18_20:=RA.to aA_n_wires18_19 hs20
 clear aA_n_wires18_19
 have aA_l19_20:=RA.to aA_l19 hs20
 clear aA_l19
 have ho4_0_20:=Seen.to ho4_0_19 hs20
 clear ho4_0_19
 have ho4_1_20:=Seen.to ho4_1_19 hs20
 clear ho4_1_19
 clear hc20
 rw[HR.out] at ho20_0
 have hlt20_0:=ho20_0.lt
 rw[HR.out] at ho20_1
 have hlt20_1:=ho20_1.lts
 rw[HR.out]
 go_wp2_with fail
 refine (eqNetlist (R.1) A20_0 c20_0 A20_1 c20_1 A4_0 c4_0 A4_1 c4_1 _ ho20_0.cap.1 ho20_0.cap.2 (RA.to ho20_0.ra ((Below.refl _ _).alloc (Nat.le_refl _) _)) ho20_1.cap.1 ho20_1.cap.2 (RA.to ho20_1.ra ((Below.refl _ _).alloc (Nat.le_refl _) _)) ho4_0_20.cap.1 ho4_0_20.cap.2 (RA.to ho4_0_20.ra ((Below.refl _ _).alloc (Nat.le_refl _) _)) ho4_1_20.cap.1 ho4_1_20.cap.2 (RA.to ho4_1_20.ra ((Below.refl _ _).alloc (Nat.le_refl _) _))).mono ?_
 rintro e w21 ⟨rfl,hb21⟩
 have hs21:Below w20.heap.size w20 w21:=((Below.refl _ _).alloc (Nat.le_refl _) _).trans (hb21.mono (by rw[World.size_alloc];omega))
 have HW21:Hid (Below w.heap.size w w21):=Ze (HW20.out.trans (hs21.mono HW20.out.size))
 obtain ⟨hc21,_⟩:=Zai hb21
 have hz21:=hb21.size
 repeat rw[World.size_alloc] at hz21
 have l21_0:w.heap.size<w21.heap.size:=by omega
 have t21_0_0:w21.cell? ⟨w.heap.size,0,none⟩=some (.slice A_n_signals (n.signals).length c_n_signals):=(hc21 _ _ (by rw[World.size_alloc];omega)).trans (by rw[World.cell?_alloc_past _ _ _ (by omega)];exact t20_0_0)
 have t21_0_1:w21.cell? ⟨w.heap.size,1,none⟩=some (.slice A_n_wires (n.wires).length c_n_wires):=(hc21 _ _ (by rw[World.size_alloc];omega)).trans (by rw[World.cell?_alloc_past _ _ _ (by omega)];exact t20_0_1)
 have l21_1:w4.heap.size<w21.heap.size:=by omega
 have t21_1_0:w21.cell? ⟨w4.heap.size,0,none⟩=some (.slice A4_0 (R.1.signals).length c4_0):=(hc21 _ _ (by rw[World.size_alloc];omega)).trans (by rw[World.cell?_alloc_past _ _ _ (by omega)];exact t20_1_0)
 have t21_1_1:w21.cell? ⟨w4.heap.size,1,none⟩=some (.slice A4_1 (R.1.wires).length c4_1):=(hc21 _ _ (by rw[World.size_alloc];omega)).trans (by rw[World.cell?_alloc_past _ _ _ (by omega)];exact t20_1_1)
 have l21_2:w5.heap.size<w21.heap.size:=by omega
 have t21_2_0:w21.cell? ⟨w5.heap.size,0,none⟩=some (.slice A_n_signals5 (n.signals).length (n.signals).length):=(hc21 _ _ (by rw[World.size_alloc];omega)).trans (by rw[World.cell?_alloc_past _ _ _ (by omega)];exact t20_2_0)
 have t21_2_1:w21.cell? ⟨w5.heap.size,1,none⟩=some (.slice A_n_wires5 (n.wires).length (n.wires).length):=(hc21 _ _ (by rw[World.size_alloc];omega)).trans (by rw[World.cell?_alloc_past _ _ _ (by omega)];exact t20_2_1)
 have l21_3:w7.heap.size<w21.heap.size:=by omega
 have t21_3_0:w21.cell? ⟨w7.heap.size,0,none⟩=some (.slice A7_0 (R.1.signals).length c7_0):=(hc21 _ _ (by rw[World.size_alloc];omega)).trans (by rw[World.cell?_alloc_past _ _ _ (by omega)];exact t20_3_0)
 have t21_3_1:w21.cell? ⟨w7.heap.size,1,none⟩=some (.slice A7_1 (R.1.wires).length c7_1):=(hc21 _ _ (by rw[World.size_alloc];omega)).trans (by rw[World.cell?_alloc_past _ _ _ (by omega)];exact t20_3_1)
 have l21_4:w20.heap.size<w21.heap.size:=by omega
 have t21_4_0:w21.cell? ⟨w20.heap.size,0,none⟩=some (.slice A20_0 (R.1.signals).length c20_0):=by rw[hc21 _ _ (by first|omega|(repeat rw[World.size_alloc]);omega)];simp[go_sem]
 have t21_4_1:w21.cell? ⟨w20.heap.size,1,none⟩=some (.slice A20_1 (R.1.wires).length c20_1):=by rw[hc21 _ _ (by first|omega|(repeat rw[World.size_alloc]);omega)];simp[go_sem]
 clear t20_0_0
 clear t20_0_1
 clear t20_1_0
 clear t20_1_1
 clear t20_2_0
 clear t20_2_1
 clear t20_3_0
 clear t20_3_1
 have aG_7_0_21:=RA.to aG_7_0_20 hs21
 clear aG_7_0_20
 have aG_7_1_21:=RA.to aG_7_1_20 hs21
 clear aG_7_1_20
 have aA_n_signals18_21:=RA.to aA_n_signals18_20 hs21
 clear aA_n_signals18_20
 have aA_n_wires18_21:=RA.to aA_n_wires18_20 hs21
 clear aA_n_wires18_20
 have aA_l19_21:=RA.to aA_l19_20 hs21
 clear aA_l19_20
 have ho4_0_21:=Seen.to ho4_0_20 hs21
 clear ho4_0_20
 have ho4_1_21:=Seen.to ho4_1_20 hs21
 clear ho4_1_20
 have ho20_0_21:=Own.to ho20_0 hs21
 clear ho20_0
 have ho20_1_21:=OwnW.to ho20_1 hs21
 clear ho20_1
 clear hc21
 go_wp2_with fail
 refine (heldNetlist (R.1) A7_0 c7_0 A7_1 c7_1 1 _ (by omega) (RA.to aG_7_0_21 (Below.refl _ _)) (by omega) (RA.to aG_7_1_21 (Below.refl _ _)) (by omega) (by omega)).mono ?_
 rintro e w22 ⟨rfl,hb22⟩
 have hs22:Below w21.heap.size w21 w22:=hb22
 have HW22:Hid (Below w.heap.size w w22):=Ze (HW21.out.trans (hs22.mono HW21.out.size))
 obtain ⟨hc22,_⟩:=Zai hb22
 have hz22:=hb22.size
 repeat rw[World.size_alloc] at hz22
 have l22_0:w.heap.size<w22.heap.size:=by omega
 have t22_0_0:w22.cell? ⟨w.heap.size,0,none⟩=some (.slice A_n_signals (n.signals).length c_n_signals):=(hc22 _ _ (by omega)).trans t21_0_0
 have t22_0_1:w22.cell? ⟨w.heap.size,1,none⟩=some (.slice A_n_wires (n.wires).length c_n_wires):=(hc22 _ _ (by omega)).trans t21_0_1
 have l22_1:w4.heap.size<w22.heap.size:=by omega
 have t22_1_0:w22.cell? ⟨w4.heap.size,0,none⟩=some (.slice A4_0 (R.1.signals).length c4_0):=(hc22 _ _ (by omega)).trans t21_1_0
 have t22_1_1:w22.cell? ⟨w4.heap.size,1,none⟩=some (.slice A4_1 (R.1.wires).length c4_1):=(hc22 _ _ (by omega)).trans t21_1_1
 have l22_2:w5.heap.size<w22.heap.size:=by omega
 have t22_2_0:w22.cell? ⟨w5.heap.size,0,none⟩=some (.slice A_n_signals5 (n.signals).length (n.signals).length):=(hc22 _ _ (by omega)).trans t21_2_0
 have t22_2_1:w22.cell? ⟨w5.heap.size,1,none⟩=some (.slice A_n_wires5 (n.wires).length (n.wires).length):=(hc22 _ _ (by omega)).trans t21_2_1
 have l22_3:w7.heap.size<w22.heap.size:=by omega
 have t22_3_0:w22.cell? ⟨w7.heap.size,0,none⟩=some (.slice A7_0 (R.1.signals).length c7_0):=(hc22 _ _ (by omega)).trans t21_3_0
 have t22_3_1:w22.cell? ⟨w7.heap.size,1,none⟩=some (.slice A7_1 (R.1.wires).length c7_1):=(hc22 _ _ (by omega)).trans t21_3_1
 have l22_4:w20.heap.size<w22.heap.size:=by omega
 have t22_4_0:w22.cell? ⟨w20.heap.size,0,none⟩=some (.slice A20_0 (R.1.signals).length c20_0):=(hc22 _ _ (by omega)).trans t21_4_0
 have t22_4_1:w22.cell? ⟨w20.heap.size,1,none⟩=some (.slice A20_1 (R.1.wires).length c20_1):=(hc22 _ _ (by omega)).trans t21_4_1
 clear t21_0_0
 clear t21_0_1
 clear t21_1_0
 clear t21_1_1
 clear t21_2_0
 clear t21_2_1
 clear t21_3_0
 clear t21_3_1
 clear t21_4_0
 clear t21_4_1
 have aG_7_0_22:=RA.to aG_7_0_21 hs22
 clear aG_7_0_21
 have aG_7_1_22:=RA.to aG_7_1_21 hs22
 clear aG_7_1_21
 have aA_n_signals18_22:=RA.to aA_n_signals18_21 hs22
 clear aA_n_signals18_21
 have aA_n_wires18_22:=RA.to aA_n_wires18_21 hs22
 clear aA_n_wires18_21
 have aA_l19_22:=RA.to aA_l19_21 hs22
 clear aA_l19_21
 have ho4_0_22:=Seen.to ho4_0_21 hs22
 clear ho4_0_21
 have ho4_1_22:=Seen.to ho4_1_21 hs22
 clear ho4_1_21
 have ho20_0_22:=Own.to ho20_0_21 hs22
 clear ho20_0_21
 have ho20_1_22:=OwnW.to ho20_1_21 hs22
 clear ho20_1_21
 clear hc22
 go_wp2_with fail
 go_ret
 exact ⟨rfl,HW22.out⟩
end Go.Proofs.YtenddofcogldfaaGreatDoor.Lw
