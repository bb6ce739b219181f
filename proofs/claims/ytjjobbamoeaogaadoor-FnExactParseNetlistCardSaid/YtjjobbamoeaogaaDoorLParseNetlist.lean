import Derived.Test.YtjjobbamoeaogaaDoorRows
import Derived.Test.YtjjobbamoeaogaaDoorParseNetlistC
import Derived.Test.YtjjobbamoeaogaaDoorLawNp
import Derived.Test.YtjjobbamoeaogaaDoorMarkWp
namespace Go.Proofs.YtjjobbamoeaogaaDoor.Lw
open Go.RowKit
set_option linter.unusedVariables false
set_option maxHeartbeats 4000000 in
set_option maxRecDepth 20000 in
theorem law_ParseNetlist (s:List UInt8)  (w:World) (g0:(s).length≤9223372036854775807) (hg:GOk w fun b=>b<w.heap.size):
 Calls Tryd.prog 3 #[.string ⟨(s).toArray⟩] w fun e w'=>e=.returned (.bool true)∧Below w.heap.size w w':=by
 obtain ⟨R,hR⟩:∃R,pnA s=R:=⟨_,rfl⟩
 have hRb:=pnA_bound s
 rw[hR] at hRb
 have HR:=Za2 hR;clear hR
 go_enter Tryd.func3,Tryd.ntmps3
 by_cases q_s:(1048576:Int)<(s).length
 ·go_wp2_with fail
  go_ret
  exact ⟨rfl,gG⟩
 have q_s':decide ((1048576:Int)<(s).length)=false:=by simpa using q_s
 go_wp2_with fail
 refine (spec_ParseNetlist s _ (by omega) (gok_to hg gG)).mono ?_
 rintro e w1 ⟨A1_0,c1_0,A1_1,c1_1,rfl,ho1_0,ho1_1,hb1⟩
 have HW1:Hid (Below w.heap.size w w1):=Za2 gG
 obtain ⟨hc1,_⟩:=Zdu hb1
 have hz1:=hb1.size
 repeat rw[World.size_alloc] at hz1
 clear hc1
 rw[HR.out] at ho1_0
 have hlt1_0:=fun (q:Nat) (h:q<w1.heap.size)=>h
 rw[HR.out] at ho1_1
 have hlt1_1:=fun (q:Nat) (h:q<w1.heap.size)=>h
 rw[HR.out]
 go_wp2_with fail
 refine (impl_ParseNetlist s _ (by omega) (gok_to hg (HW1.out.alloc HW1.out.size _))).mono ?_
 rintro e w2 ⟨A2_0,c2_0,A2_1,c2_1,hs_2,rfl,ho2_0,ho2_1,dj2,hb2⟩
 have hs2:Below w1.heap.size w1 w2:=((Below.refl _ _).alloc (Nat.le_refl _) _).trans (hb2.mono (by rw[World.size_alloc];omega))
 have HW2:Hid (Below w.heap.size w w2):=Za2 (HW1.out.trans (hs2.mono HW1.out.size))
 obtain ⟨hc2,_⟩:=Zdu hb2
 have hz2:=hb2.size
 repeat rw[World.size_alloc] at hz2
 have l2_0:w1.heap.size<w2.heap.size:=by omega
 have t2_0_0:w2.cell? ⟨w1.heap.size,0,none⟩=some (.slice A1_0 (R.1.signals).length c1_0):=by rw[hc2 _ _ (by first|omega|(repeat rw[World.size_alloc]);omega)];simp[go_sem]
 have t2_0_1:w2.cell? ⟨w1.heap.size,1,none⟩=some (.slice A1_1 (R.1.wires).length c1_1):=by rw[hc2 _ _ (by first|omega|(repeat rw[World.size_alloc]);omega)];simp[go_sem]
 have ho1_0_2:=Seen.to ho1_0 hs2
 clear ho1_0
 have ho1_1_2:=Seen.to ho1_1 hs2
 clear ho1_1
 clear hc2
 rw[HR.out] at ho2_0
 have hlt2_0:=ho2_0.lt
 simp only[World.size_alloc] at hlt2_0
 rw[HR.out] at ho2_1
 have hlt2_1:=ho2_1.lts
 simp only[World.size_alloc] at hlt2_1
 rw[HR.out]
 go_wp2_with fail
 refine (eqNetlist (R.1) A2_0 c2_0 A2_1 c2_1 A1_0 c1_0 A1_1 c1_1 _ ho2_0.cap.1 ho2_0.cap.2 (RA.to ho2_0.ra ((Below.refl _ _).alloc (Nat.le_refl _) _)) ho2_1.cap.1 ho2_1.cap.2 (RA.to ho2_1.ra ((Below.refl _ _).alloc (Nat.le_refl _) _)) ho1_0_2.cap.1 ho1_0_2.cap.2 (RA.to ho1_0_2.ra ((Below.refl _ _).alloc (Nat.le_refl _) _)) ho1_1_2.cap.1 ho1_1_2.cap.2 (RA.to ho1_1_2.ra ((Below.refl _ _).alloc (Nat.le_refl _) _))).mono ?_
 rintro e w3 ⟨rfl,hb3⟩
 have hs3:Below w2.heap.size w2 w3:=((Below.refl _ _).alloc (Nat.le_refl _) _).trans (hb3.mono (by rw[World.size_alloc];omega))
 have HW3:Hid (Below w.heap.size w w3):=Za2 (HW2.out.trans (hs3.mono HW2.out.size))
 obtain ⟨hc3,_⟩:=Zdu hb3
 have hz3:=hb3.size
 repeat rw[World.size_alloc] at hz3
 have l3_0:w1.heap.size<w3.heap.size:=by omega
 have t3_0_0:w3.cell? ⟨w1.heap.size,0,none⟩=some (.slice A1_0 (R.1.signals).length c1_0):=(hc3 _ _ (by rw[World.size_alloc];omega)).trans (by rw[World.cell?_alloc_past _ _ _ (by omega)];exact t2_0_0)
 have t3_0_1:w3.cell? ⟨w1.heap.size,1,none⟩=some (.slice A1_1 (R.1.wires).length c1_1):=(hc3 _ _ (by rw[World.size_alloc];omega)).trans (by rw[World.cell?_alloc_past _ _ _ (by omega)];exact t2_0_1)
 have l3_1:w2.heap.size<w3.heap.size:=by omega
 have t3_1_0:w3.cell? ⟨w2.heap.size,0,none⟩=some (.slice A2_0 (R.1.signals).length c2_0):=by rw[hc3 _ _ (by first|omega|(repeat rw[World.size_alloc]);omega)];simp[go_sem]
 have t3_1_1:w3.cell? ⟨w2.heap.size,1,none⟩=some (.slice A2_1 (R.1.wires).length c2_1):=by rw[hc3 _ _ (by first|omega|(repeat rw[World.size_alloc]);omega)];simp[go_sem]
 clear t2_0_0
 clear t2_0_1
 have ho1_0_3:=Seen.to ho1_0_2 hs3
 clear ho1_0_2
 have ho1_1_3:=Seen.to ho1_1_2 hs3
 clear ho1_1_2
 have ho2_0_3:=Own.to ho2_0 hs3
 clear ho2_0
 have ho2_1_3:=OwnW.to ho2_1 hs3
 clear ho2_1
 clear hc3
 go_wp2_with fail
 refine (markNetlist_own _ _ _ _ (R.1) A2_0 c2_0 A2_1 c2_1 hs_2 1 _ ho2_0_3 ho2_1_3 dj2 (by omega) (by omega)).mono ?_
 rintro e w4 ⟨rfl,hr4_0,hr4_1,hT4⟩
 have hz4:=hT4.size
 have HW4:Hid (Below w.heap.size w w4):=Za2 (HW3.out.trans (hT4.below (fun q hd=>by rcases hd with hd|hd<;>first|(have h4:=hlt2_0 _ hd;omega)|(have h4:=hlt2_1 _ hd;omega)) HW3.out.size))
 have l4_0:w1.heap.size<w4.heap.size:=by omega
 have t4_0_0:w4.cell? ⟨w1.heap.size,0,none⟩=some (.slice A1_0 (R.1.signals).length c1_0):=(hT4.cell (by omega) (fun hd=>by rcases hd with hd|hd<;>first|(have h4:=hlt2_0 _ hd;omega)|(have h4:=hlt2_1 _ hd;omega))).trans t3_0_0
 clear t3_0_0
 have t4_0_1:w4.cell? ⟨w1.heap.size,1,none⟩=some (.slice A1_1 (R.1.wires).length c1_1):=(hT4.cell (by omega) (fun hd=>by rcases hd with hd|hd<;>first|(have h4:=hlt2_0 _ hd;omega)|(have h4:=hlt2_1 _ hd;omega))).trans t3_0_1
 clear t3_0_1
 have l4_1:w2.heap.size<w4.heap.size:=by omega
 have t4_1_0:w4.cell? ⟨w2.heap.size,0,none⟩=some (.slice A2_0 (R.1.signals).length c2_0):=(hT4.cell (by omega) (fun hd=>by rcases hd with hd|hd<;>first|(have h4:=hlt2_0 _ hd;omega)|(have h4:=hlt2_1 _ hd;omega))).trans t3_1_0
 clear t3_1_0
 have t4_1_1:w4.cell? ⟨w2.heap.size,1,none⟩=some (.slice A2_1 (R.1.wires).length c2_1):=(hT4.cell (by omega) (fun hd=>by rcases hd with hd|hd<;>first|(have h4:=hlt2_0 _ hd;omega)|(have h4:=hlt2_1 _ hd;omega))).trans t3_1_1
 clear t3_1_1
 have ho1_0_4:=Touch.seen hT4 ho1_0_3 (fun q hq hd=>by rcases hd with hd|hd<;>first|(have h4:=hlt2_0 _ hd;have h3:=hlt1_0 q hq;omega)|(have h4:=hlt2_1 _ hd;have h3:=hlt1_0 q hq;omega))
 clear ho1_0_3
 have ho1_1_4:=Touch.seen hT4 ho1_1_3 (fun q hq hd=>by rcases hd with hd|hd<;>first|(have h4:=hlt2_0 _ hd;have h3:=hlt1_1 q hq;omega)|(have h4:=hlt2_1 _ hd;have h3:=hlt1_1 q hq;omega))
 clear ho1_1_3
 have aG_2_0:RA Z1 w4 A2_0 (Zaw mkSig 2 (1) R.1.signals):=hr4_0.mono (fun b hb=>by have h3:=hlt2_0 b hb;omega)
 have aG_2_1:RA Zau w4 A2_1 (mkWs (1+2 * (R.1.signals.length:Int)) R.1.wires):=hr4_1.mono (fun b hb=>by have h3:=hlt2_1 b hb;omega)
 have qh:decide (1+2 * (R.1.signals.length:Int)+((wcosts R.1.wires:Nat):Int)<0)=false:=by simp;omega
 go_wp2_with fail
 refine (heldNetlist (R.1) A2_0 c2_0 A2_1 c2_1 1 _ (by omega) (RA.to aG_2_0 (Below.refl _ _)) (by omega) (RA.to aG_2_1 (Below.refl _ _)) (by omega) (by omega)).mono ?_
 rintro e w5 ⟨rfl,hb5⟩
 have hs5:Below w4.heap.size w4 w5:=hb5
 have HW5:Hid (Below w.heap.size w w5):=Za2 (HW4.out.trans (hs5.mono HW4.out.size))
 obtain ⟨hc5,_⟩:=Zdu hb5
 have hz5:=hb5.size
 repeat rw[World.size_alloc] at hz5
 have l5_0:w1.heap.size<w5.heap.size:=by omega
 have t5_0_0:w5.cell? ⟨w1.heap.size,0,none⟩=some (.slice A1_0 (R.1.signals).length c1_0):=(hc5 _ _ (by omega)).trans t4_0_0
 have t5_0_1:w5.cell? ⟨w1.heap.size,1,none⟩=some (.slice A1_1 (R.1.wires).length c1_1):=(hc5 _ _ (by omega)).trans t4_0_1
 have l5_1:w2.heap.size<w5.heap.size:=by omega
 have t5_1_0:w5.cell? ⟨w2.heap.size,0,none⟩=some (.slice A2_0 (R.1.signals).length c2_0):=(hc5 _ _ (by omega)).trans t4_1_0
 have t5_1_1:w5.cell? ⟨w2.heap.size,1,none⟩=some (.slice A2_1 (R.1.wires).length c2_1):=(hc5 _ _ (by omega)).trans t4_1_1
 clear t4_0_0
 clear t4_0_1
 clear t4_1_0
 clear t4_1_1
 have aG_2_0_5:=RA.to aG_2_0 hs5
 clear aG_2_0
 have aG_2_1_5:=RA.to aG_2_1 hs5
 clear aG_2_1
 have ho1_0_5:=Seen.to ho1_0_4 hs5
 clear ho1_0_4
 have ho1_1_5:=Seen.to ho1_1_4 hs5
 clear ho1_1_4
 clear hc5
 go_wp2_with fail
 refine (impl_ParseNetlist s _ (by omega) (gok_to hg HW5.out)).mono ?_
 rintro e w6 ⟨A6_0,c6_0,A6_1,c6_1,hs_6,rfl,ho6_0,ho6_1,dj6,hb6⟩
 have hs6:Below w5.heap.size w5 w6:=hb6
 have HW6:Hid (Below w.heap.size w w6):=Za2 (HW5.out.trans (hs6.mono HW5.out.size))
 obtain ⟨hc6,_⟩:=Zdu hb6
 have hz6:=hb6.size
 repeat rw[World.size_alloc] at hz6
 have l6_0:w1.heap.size<w6.heap.size:=by omega
 have t6_0_0:w6.cell? ⟨w1.heap.size,0,none⟩=some (.slice A1_0 (R.1.signals).length c1_0):=(hc6 _ _ (by omega)).trans t5_0_0
 have t6_0_1:w6.cell? ⟨w1.heap.size,1,none⟩=some (.slice A1_1 (R.1.wires).length c1_1):=(hc6 _ _ (by omega)).trans t5_0_1
 have l6_1:w2.heap.size<w6.heap.size:=by omega
 have t6_1_0:w6.cell? ⟨w2.heap.size,0,none⟩=some (.slice A2_0 (R.1.signals).length c2_0):=(hc6 _ _ (by omega)).trans t5_1_0
 have t6_1_1:w6.cell? ⟨w2.heap.size,1,none⟩=some (.slice A2_1 (R.1.wires).length c2_1):=(hc6 _ _ (by omega)).trans t5_1_1
 clear t5_0_0
 clear t5_0_1
 clear t5_1_0
 clear t5_1_1
 have aG_2_0_6:=RA.to aG_2_0_5 hs6
 clear aG_2_0_5
 have aG_2_1_6:=RA.to aG_2_1_5 hs6
 clear aG_2_1_5
 have ho1_0_6:=Seen.to ho1_0_5 hs6
 clear ho1_0_5
 have ho1_1_6:=Seen.to ho1_1_5 hs6
 clear ho1_1_5
 clear hc6
 rw[HR.out] at ho6_0
 have hlt6_0:=ho6_0.lt
 rw[HR.out] at ho6_1
 have hlt6_1:=ho6_1.lts
 rw[HR.out]
 go_wp2_with fail
 refine (eqNetlist (R.1) A6_0 c6_0 A6_1 c6_1 A1_0 c1_0 A1_1 c1_1 _ ho6_0.cap.1 ho6_0.cap.2 (RA.to ho6_0.ra ((Below.refl _ _).alloc (Nat.le_refl _) _)) ho6_1.cap.1 ho6_1.cap.2 (RA.to ho6_1.ra ((Below.refl _ _).alloc (Nat.le_refl _) _)) ho1_0_6.cap.1 ho1_0_6.cap.2 (RA.to ho1_0_6.ra ((Below.refl _ _).alloc (Nat.le_refl _) _)) ho1_1_6.cap.1 ho1_1_6.cap.2 (RA.to ho1_1_6.ra ((Below.refl _ _).alloc (Nat.le_refl _) _))).mono ?_
 rintro e w7 ⟨rfl,hb7⟩
 have hs7:Below w6.heap.size w6 w7:=((Below.refl _ _).alloc (Nat.le_refl _) _).trans (hb7.mono (by rw[World.size_alloc];omega))
 have HW7:Hid (Below w.heap.size w w7):=Za2 (HW6.out.trans (hs7.mono HW6.out.size))
 obtain ⟨hc7,_⟩:=Zdu hb7
 have hz7:=hb7.size
 repeat rw[World.size_alloc] at hz7
 have l7_0:w1.heap.size<w7.heap.size:=by omega
 have t7_0_0:w7.cell? ⟨w1.heap.size,0,none⟩=some (.slice A1_0 (R.1.signals).length c1_0):=(hc7 _ _ (by rw[World.size_alloc];omega)).trans (by rw[World.cell?_alloc_past _ _ _ (by omega)];exact t6_0_0)
 have t7_0_1:w7.cell? ⟨w1.heap.size,1,none⟩=some (.slice A1_1 (R.1.wires).length c1_1):=(hc7 _ _ (by rw[World.size_alloc];omega)).trans (by rw[World.cell?_alloc_past _ _ _ (by omega)];exact t6_0_1)
 have l7_1:w2.heap.size<w7.heap.size:=by omega
 have t7_1_0:w7.cell? ⟨w2.heap.size,0,none⟩=some (.slice A2_0 (R.1.signals).length c2_0):=(hc7 _ _ (by rw[World.size_alloc];omega)).trans (by rw[World.cell?_alloc_past _ _ _ (by omega)];exact t6_1_0)
 have t7_1_1:w7.cell? ⟨w2.heap.size,1,none⟩=some (.slice A2_1 (R.1.wires).length c2_1):=(hc7 _ _ (by rw[World.size_alloc];omega)).trans (by rw[World.cell?_alloc_past _ _ _ (by omega)];exact t6_1_1)
 have l7_2:w6.heap.size<w7.heap.size:=by omega
 have t7_2_0:w7.cell? ⟨w6.heap.size,0,none⟩=some (.slice A6_0 (R.1.signals).length c6_0):=by rw[hc7 _ _ (by first|omega|(repeat rw[World.size_alloc]);omega)];simp[go_sem]
 have t7_2_1:w7.cell? ⟨w6.heap.size,1,none⟩=some (.slice A6_1 (R.1.wires).length c6_1):=by rw[hc7 _ _ (by first|omega|(repeat rw[World.size_alloc]);omega)];simp[go_sem]
 clear t6_0_0
 clear t6_0_1
 clear t6_1_0
 clear t6_1_1
 have aG_2_0_7:=RA.to aG_2_0_6 hs7
 clear aG_2_0_6
 have aG_2_1_7:=RA.to aG_2_1_6 hs7
 clear aG_2_1_6
 have ho1_0_7:=Seen.to ho1_0_6 hs7
 clear ho1_0_6
 have ho1_1_7:=Seen.to ho1_1_6 hs7
 clear ho1_1_6
 have ho6_0_7:=Own.to ho6_0 hs7
 clear ho6_0
 have ho6_1_7:=OwnW.to ho6_1 hs7
 clear ho6_1
 clear hc7
 go_wp2_with fail
 refine (heldNetlist (R.1) A2_0 c2_0 A2_1 c2_1 1 _ (by omega) (RA.to aG_2_0_7 (Below.refl _ _)) (by omega) (RA.to aG_2_1_7 (Below.refl _ _)) (by omega) (by omega)).mono ?_
 rintro e w8 ⟨rfl,hb8⟩
 have hs8:Below w7.heap.size w7 w8:=hb8
 have HW8:Hid (Below w.heap.size w w8):=Za2 (HW7.out.trans (hs8.mono HW7.out.size))
 obtain ⟨hc8,_⟩:=Zdu hb8
 have hz8:=hb8.size
 repeat rw[World.size_alloc] at hz8
 have l8_0:w1.heap.size<w8.heap.size:=by omega
 have t8_0_0:w8.cell? ⟨w1.heap.size,0,none⟩=some (.slice A1_0 (R.1.signals).length c1_0):=(hc8 _ _ (by omega)).trans t7_0_0
 have t8_0_1:w8.cell? ⟨w1.heap.size,1,none⟩=some (.slice A1_1 (R.1.wires).length c1_1):=(hc8 _ _ (by omega)).trans t7_0_1
 have l8_1:w2.heap.size<w8.heap.size:=by omega
 have t8_1_0:w8.cell? ⟨w2.heap.size,0,none⟩=some (.slice A2_0 (R.1.signals).length c2_0):=(hc8 _ _ (by omega)).trans t7_1_0
 have t8_1_1:w8.cell? ⟨w2.heap.size,1,none⟩=some (.slice A2_1 (R.1.wires).length c2_1):=(hc8 _ _ (by omega)).trans t7_1_1
 have l8_2:w6.heap.size<w8.heap.size:=by omega
 have t8_2_0:w8.cell? ⟨w6.heap.size,0,none⟩=some (.slice A6_0 (R.1.signals).length c6_0):=(hc8 _ _ (by omega)).trans t7_2_0
 have t8_2_1:w8.cell? ⟨w6.heap.size,1,none⟩=some (.slice A6_1 (R.1.wires).length c6_1):=(hc8 _ _ (by omega)).trans t7_2_1
 clear t7_0_0
 clear t7_0_1
 clear t7_1_0
 clear t7_1_1
 clear t7_2_0
 clear t7_2_1
 have aG_2_0_8:=RA.to aG_2_0_7 hs8
 clear aG_2_0_7
 have aG_2_1_8:=RA.to aG_2_1_7 hs8
 clear aG_2_1_7
 have ho1_0_8:=Seen.to ho1_0_7 hs8
 clear ho1_0_7
 have ho1_1_8:=Seen.to ho1_1_7 hs8
 clear ho1_1_7
 have ho6_0_8:=Own.to ho6_0_7 hs8
 clear ho6_0_7
 have ho6_1_8:=OwnW.to ho6_1_7 hs8
 clear ho6_1_7
 clear hc8
 go_wp2_with fail
 go_ret
 exact ⟨rfl,HW8.out⟩
end Go.Proofs.YtjjobbamoeaogaaDoor.Lw
