import Derived.Test.YtkgnjijonikchaaGreatRows
import Derived.Test.YtkgnjijonikchaaGreatComposeC
import Derived.Test.YtkgnjijonikchaaGreatLawPd
import Derived.Test.YtkgnjijonikchaaGreatMarkPd
import Derived.Test.YtkgnjijonikchaaGreatZb
import Derived.Deep.DeepCutAuto
namespace Go.Proofs.YtkgnjijonikchaaGreat.Lw
open Go.RowKit
set_option linter.unusedVariables false
set_option maxHeartbeats 40000000 in
set_option maxRecDepth 20000 in
theorem law_Compose (c:SGr) (n:Nl) (A_c_signals:Option Addr) (c_c_signals:Nat) (A_c_codes:Option Addr) (c_c_codes:Nat) (A_c_arcs:Option Addr) (c_c_arcs:Nat) (A_n_signals:Option Addr) (c_n_signals:Nat) (A_n_wires:Option Addr) (c_n_wires:Nat) (w:World) (g0:(c.signals).length≤c_c_signals) (g1:c_c_signals≤9223372036854775807) (g2:RA Zah w A_c_signals c.signals) (g3:(c.codes).length≤c_c_codes) (g4:c_c_codes≤9223372036854775807) (g5:RA Zag w A_c_codes c.codes) (g6:(c.arcs).length≤c_c_arcs) (g7:c_c_arcs≤9223372036854775807) (g8:RA Zdg w A_c_arcs c.arcs) (g9:(n.signals).length≤c_n_signals) (g10:c_n_signals≤9223372036854775807) (g11:RA Zah w A_n_signals n.signals) (g12:(n.wires).length≤c_n_wires) (g13:c_n_wires≤9223372036854775807) (g14:RA Zam w A_n_wires n.wires):
 Calls Tryz.prog 4 #[.agg #[.slice A_c_signals (c.signals).length c_c_signals,.slice A_c_codes (c.codes).length c_c_codes,.slice A_c_arcs (c.arcs).length c_c_arcs],.agg #[.slice A_n_signals (n.signals).length c_n_signals,.slice A_n_wires (n.wires).length c_n_wires]] w fun e w'=>e=.returned (.bool true)∧Below w.heap.size w w':=by
 obtain ⟨R,hR⟩:∃R,cpA c n=R:=⟨_,rfl⟩
 have hRb:=cp_bound c n A_c_signals c_c_signals A_c_codes c_c_codes A_c_arcs c_c_arcs A_n_signals c_n_signals A_n_wires c_n_wires w g0 g1 g2 g3 g4 g5 g6 g7 g8 g9 g10 g11 g12 g13 g14
 rw[hR] at hRb
 have HR:=Zl hR;clear hR
 go_enter Tryz.func4,Tryz.ntmps4
 go_wp2_with fail
 refine (szStateGraph c A_c_signals c_c_signals A_c_codes c_c_codes A_c_arcs c_c_arcs (1048576) _ g0 g1 (RA.to g2 gG) g3 g4 (RA.to g5 gG) g6 g7 (RA.to g8 gG) (by omega) (by omega)).mono ?_
 rintro e w1 ⟨rfl,hb1⟩
 have HW1:Hid (Below w.heap.size w w1):=Zl gG
 obtain ⟨hc1,_⟩:=Zap hb1
 have hz1:=hb1.size
 repeat rw[World.size_alloc] at hz1
 have l1_0:w.heap.size<w1.heap.size:=by omega
 have t1_0_0:w1.cell? ⟨w.heap.size,0,none⟩=some (.slice A_c_signals (c.signals).length c_c_signals):=by rw[hc1 _ _ (by first|omega|(repeat rw[World.size_alloc]);omega)];simp[go_sem]
 have t1_0_1:w1.cell? ⟨w.heap.size,1,none⟩=some (.slice A_c_codes (c.codes).length c_c_codes):=by rw[hc1 _ _ (by first|omega|(repeat rw[World.size_alloc]);omega)];simp[go_sem]
 have t1_0_2:w1.cell? ⟨w.heap.size,2,none⟩=some (.slice A_c_arcs (c.arcs).length c_c_arcs):=by rw[hc1 _ _ (by first|omega|(repeat rw[World.size_alloc]);omega)];simp[go_sem]
 have l1_1:w.heap.size+1<w1.heap.size:=by omega
 have t1_1_0:w1.cell? ⟨w.heap.size+1,0,none⟩=some (.slice A_n_signals (n.signals).length c_n_signals):=by rw[hc1 _ _ (by first|omega|(repeat rw[World.size_alloc]);omega)];simp[go_sem]
 have t1_1_1:w1.cell? ⟨w.heap.size+1,1,none⟩=some (.slice A_n_wires (n.wires).length c_n_wires):=by rw[hc1 _ _ (by first|omega|(repeat rw[World.size_alloc]);omega)];simp[go_sem]
 clear hc1
 by_cases q_c:(1048576:Int)<((wtSGr c):Nat)
 ·rw[Zbm q_c]
  go_wp2_with fail
  go_ret
  exact ⟨rfl,HW1.out⟩
 rw[Zbn q_c]
 have qq_c:((wtSGr c):Nat)≤1048576:=by omega
 go_wp2_with fail
 refine (szNetlist n A_n_signals c_n_signals A_n_wires c_n_wires (1048576 - ((wtSGr c):Nat)) _ g9 g10 (RA.to g11 HW1.out) g12 g13 (RA.to g14 HW1.out) (by omega) (by omega)).mono ?_
 rintro e w2 ⟨rfl,hb2⟩
 have hs2:Below w1.heap.size w1 w2:=hb2
 have HW2:Hid (Below w.heap.size w w2):=Zl (HW1.out.trans (hs2.mono HW1.out.size))
 obtain ⟨hc2,_⟩:=Zap hb2
 have hz2:=hb2.size
 repeat rw[World.size_alloc] at hz2
 have l2_0:w.heap.size<w2.heap.size:=by omega
 have t2_0_0:w2.cell? ⟨w.heap.size,0,none⟩=some (.slice A_c_signals (c.signals).length c_c_signals):=(hc2 _ _ (by omega)).trans t1_0_0
 have t2_0_1:w2.cell? ⟨w.heap.size,1,none⟩=some (.slice A_c_codes (c.codes).length c_c_codes):=(hc2 _ _ (by omega)).trans t1_0_1
 have t2_0_2:w2.cell? ⟨w.heap.size,2,none⟩=some (.slice A_c_arcs (c.arcs).length c_c_arcs):=(hc2 _ _ (by omega)).trans t1_0_2
 have l2_1:w.heap.size+1<w2.heap.size:=by omega
 have t2_1_0:w2.cell? ⟨w.heap.size+1,0,none⟩=some (.slice A_n_signals (n.signals).length c_n_signals):=(hc2 _ _ (by omega)).trans t1_1_0
 have t2_1_1:w2.cell? ⟨w.heap.size+1,1,none⟩=some (.slice A_n_wires (n.wires).length c_n_wires):=(hc2 _ _ (by omega)).trans t1_1_1
 clear t1_0_0
 clear t1_0_1
 clear t1_0_2
 clear t1_1_0
 clear t1_1_1
 clear hc2
 by_cases q_n:(1048576 - ((wtSGr c):Nat):Int)<((wtNl n):Nat)
 ·rw[Zbm q_n]
  go_wp2_with fail
  go_ret
  exact ⟨rfl,HW2.out⟩
 rw[Zbn q_n]
 have qq_n:((wtNl n):Nat)≤1048576:=by omega
 have qs_c:=qq_c
 unfold wtSGr at qs_c
 have qs_n:=qq_n
 unfold wtNl at qs_n
 have HB2:=HW2.out
 go_upto_region 8 with fail
 go_cut [6,7] (fun s6 s7 wx=>∃(bq:Nat) (A5_0:Option Addr) (c5_0:Nat) (A5_1:Option Addr) (c5_1:Nat) (A5_2:Option Addr) (c5_2:Nat),s6=.pointer (some ⟨bq,0,none⟩)∧s7=.bool R.2∧Below w2.heap.size w2 wx∧w2.heap.size≤bq∧bq<wx.heap.size∧wx.cell? ⟨bq,0,none⟩=some (.slice A5_0 (R.1.states).length c5_0)∧wx.cell? ⟨bq,1,none⟩=some (.slice A5_1 (R.1.flips).length c5_1)∧wx.cell? ⟨bq,2,none⟩=some (.slice A5_2 (R.1.extra).length c5_2)∧Seen ZbF wx wx.heap.size A5_0 c5_0 R.1.states∧Seen ZZ wx wx.heap.size A5_1 c5_1 R.1.flips∧Seen ZZ wx wx.heap.size A5_2 c5_2 R.1.extra)
 case first=>
  go_region_held3 (fun W=>W.cell? ⟨w.heap.size,0,none⟩=some (.slice A_c_signals (c.signals).length c_c_signals)∧W.cell? ⟨w.heap.size,1,none⟩=some (.slice A_c_codes (c.codes).length c_c_codes)∧W.cell? ⟨w.heap.size,2,none⟩=some (.slice A_c_arcs (c.arcs).length c_c_arcs)∧W.cell? ⟨w.heap.size+1,0,none⟩=some (.slice A_n_signals (n.signals).length c_n_signals)∧W.cell? ⟨w.heap.size+1,1,none⟩=some (.slice A_n_wires (n.wires).length c_n_wires)) (exact ⟨cell_later gG t2_0_0,cell_later gG t2_0_1,cell_later gG t2_0_2,cell_later gG t2_1_0,cell_later gG t2_1_1⟩) (first
   | (go_at_call 8
      refine (toStateGraph c A_c_signals c_c_signals A_c_codes c_c_codes A_c_arcs c_c_arcs _ g0 g1 (RA.to g2 gG) g3 g4 (RA.to g5 gG) g6 g7 (RA.to g8 gG) qq_c).mono ?_
      rintro e w3 ⟨A_c_signals3,A_c_codes3,A_c_arcs3,rfl,rA_c_signals3,rA_c_codes3,rA_c_arcs3,hb3,fz3⟩
      have hs3:Below w2.heap.size w2 w3:=gG
      have hz3:=hs3.size
      try have zA:ZB w3 w2.heap.size 3:=ZB.to (ZB.new3 w2.drew _) hb3)
   | (go_at_call 9
      refine (toNetlist n A_n_signals c_n_signals A_n_wires c_n_wires _ g9 g10 (RA.to g11 gG) g12 g13 (RA.to g14 gG) qq_n).mono ?_
      rintro e w4 ⟨A_n_signals4,A_n_wires4,rfl,rA_n_signals4,rA_n_wires4,hb4,fz4⟩
      have hs4:Below w3.heap.size w3 w4:=gG
      have hz4:=hs4.size
      first|have zA:=ZB.to zA hs4|have zA:ZB w4 w3.heap.size 3:=(ZB.new3 _ _).to hb4|skip)
   | (go_at_call 18
      refine (spec_Compose c n A_c_signals3 (c.signals).length A_c_codes3 (c.codes).length A_c_arcs3 (c.arcs).length A_n_signals4 (n.signals).length A_n_wires4 (n.wires).length _ (Nat.le_refl _) (by omega) (RA.to (w:=w3) (rA_c_signals3.mono fun b hb=>hb.2) gG) (Nat.le_refl _) (by omega) (RA.to (w:=w3) (rA_c_codes3.mono fun b hb=>hb.2) gG) (Nat.le_refl _) (by omega) (RA.to (w:=w3) (rA_c_arcs3.mono fun b hb=>hb.2) gG) (Nat.le_refl _) (by omega) (RA.to (w:=w4) (rA_n_signals4.mono fun b hb=>hb.2) gG) (Nat.le_refl _) (by omega) (RA.to (w:=w4) (rA_n_wires4.mono fun b hb=>hb.2) gG)).mono ?_
      rintro e w5 ⟨A5_0,c5_0,A5_1,c5_1,A5_2,c5_2,rfl,ho5_0,ho5_1,ho5_2,hb5⟩
      have hs5:Below w4.heap.size w4 w5:=gG
      have hz5:=hs5.size
      first|have zA:=ZB.to zA hs5|have zA:ZB w5 w4.heap.size 3:=(ZB.new3 _ _).to hb5|skip
      rw[HR.out] at ho5_0
      rw[HR.out] at ho5_1
      rw[HR.out] at ho5_2
      rw[HR.out]
      try (have z0:=zA.cell 0 (by decide);have y0:=zA.frz 0;have z1:=zA.cell 1 (by decide);have y1:=zA.frz 1;have z2:=zA.cell 2 (by decide);have y2:=zA.frz 2)))
  all_goals (go_wp2_with fail;go_meet)
  all_goals first
   |(refine ⟨w5.heap.size,A5_0,c5_0,A5_1,c5_1,A5_2,c5_2,rfl,rfl, ?_⟩;exact ⟨gG,by omega,by rw[World.size_alloc];omega,by simp[go_sem],by simp[go_sem],by simp[go_sem],ZsZ ho5_0 gG,ZsZ ho5_1 gG,ZsZ ho5_2 gG⟩)
   |(refine ⟨w4.heap.size,A5_0,c5_0,A5_1,c5_1,A5_2,c5_2,rfl,rfl, ?_⟩;have hz0:w4.heap.size+1≤w5.heap.size:=Nat.le_trans (Nat.le_of_eq (World.size_alloc w4 _).symm) hb5.size;exact ⟨gG,by omega,by have:=zA.lt;simp only[World.size_setCell];omega,(zA.set3 _ _ _).1,(zA.set3 _ _ _).2.1,(zA.set3 _ _ _).2.2,Zj3 (ZgQ (Zem ZgP)) (ZgR (ZbT Zbg ZsY)) zA (Zca _ _ _ _ _) ho5_0,Zj3 (ZgQ (Zem ZgP)) (ZgR (ZbT Zbg (ZbT Zbg Zbg))) zA (Zca _ _ _ _ _) ho5_1,Zj3 (ZgQ (Zem ZgP)) (ZgR (ZbT Zbg (ZbT Zbg Zbg))) zA (Zca _ _ _ _ _) ho5_2⟩)
   |(refine ⟨w3.heap.size,A5_0,c5_0,A5_1,c5_1,A5_2,c5_2,rfl,rfl, ?_⟩;have hz0:w3.heap.size+1≤w4.heap.size:=Nat.le_trans (Nat.le_of_eq (World.size_alloc w3 _).symm) hb4.size;exact ⟨gG,by omega,by have:=zA.lt;simp only[World.size_setCell];omega,(zA.set3 _ _ _).1,(zA.set3 _ _ _).2.1,(zA.set3 _ _ _).2.2,Zj3 (ZgQ (Zem ZgP)) (ZgR (ZbT Zbg ZsY)) zA (Zca _ _ _ _ _) ho5_0,Zj3 (ZgQ (Zem ZgP)) (ZgR (ZbT Zbg (ZbT Zbg Zbg))) zA (Zca _ _ _ _ _) ho5_1,Zj3 (ZgQ (Zem ZgP)) (ZgR (ZbT Zbg (ZbT Zbg Zbg))) zA (Zca _ _ _ _ _) ho5_2⟩)
   |(refine ⟨w2.heap.size,A5_0,c5_0,A5_1,c5_1,A5_2,c5_2,rfl,rfl, ?_⟩;have hz0:w2.heap.size+1≤w3.heap.size:=Nat.le_trans (Nat.le_of_eq (World.size_alloc w2.drew _).symm) hb3.size;exact ⟨gG,by omega,by have:=zA.lt;simp only[World.size_setCell];omega,(zA.set3 _ _ _).1,(zA.set3 _ _ _).2.1,(zA.set3 _ _ _).2.2,Zj3 (ZgQ (Zem ZgP)) (ZgR (ZbT Zbg ZsY)) zA (Zca _ _ _ _ _) ho5_0,Zj3 (ZgQ (Zem ZgP)) (ZgR (ZbT Zbg (ZbT Zbg Zbg))) zA (Zca _ _ _ _ _) ho5_1,Zj3 (ZgQ (Zem ZgP)) (ZgR (ZbT Zbg (ZbT Zbg Zbg))) zA (Zca _ _ _ _ _) ho5_2⟩)
 case rest=>
  obtain ⟨bq5,A5_0,c5_0,A5_1,c5_1,A5_2,c5_2,rfl,rfl,hb5,hlb5,hub5,t5_b_0,t5_b_1,t5_b_2,ho5_0,ho5_1,ho5_2⟩:=hcut
  obtain ⟨w5,hw5⟩:∃x,x=wc:=⟨_,rfl⟩
  subst hw5
  have hs5:Below w2.heap.size w2 w5:=hb5
  have HW5:Hid (Below w.heap.size w w5):=Zl (HW2.out.trans (hs5.mono HW2.out.size))
  have hz5:=hs5.size
  have l5_0:w.heap.size<w5.heap.size:=by omega
  have t5_0_0:w5.cell? ⟨w.heap.size,0,none⟩=some (.slice A_c_signals (c.signals).length c_c_signals):=cell_later hs5 t2_0_0
  clear t2_0_0
  have t5_0_1:w5.cell? ⟨w.heap.size,1,none⟩=some (.slice A_c_codes (c.codes).length c_c_codes):=cell_later hs5 t2_0_1
  clear t2_0_1
  have t5_0_2:w5.cell? ⟨w.heap.size,2,none⟩=some (.slice A_c_arcs (c.arcs).length c_c_arcs):=cell_later hs5 t2_0_2
  clear t2_0_2
  have l5_1:w.heap.size+1<w5.heap.size:=by omega
  have t5_1_0:w5.cell? ⟨w.heap.size+1,0,none⟩=some (.slice A_n_signals (n.signals).length c_n_signals):=cell_later hs5 t2_1_0
  clear t2_1_0
  have t5_1_1:w5.cell? ⟨w.heap.size+1,1,none⟩=some (.slice A_n_wires (n.wires).length c_n_wires):=cell_later hs5 t2_1_1
  clear t2_1_1
  clear HB2
  have hlt5_0:=fun (q:Nat) (h:q<w5.heap.size)=>h
  have hlt5_1:=fun (q:Nat) (h:q<w5.heap.size)=>h
  have hlt5_2:=fun (q:Nat) (h:q<w5.heap.size)=>h
  go_wp2_with fail
  refine (toStateGraph c A_c_signals c_c_signals A_c_codes c_c_codes A_c_arcs c_c_arcs _ g0 g1 (RA.to g2 HW5.out) g3 g4 (RA.to g5 HW5.out) g6 g7 (RA.to g8 HW5.out) qq_c).mono ?_
  rintro e w6 ⟨A_c_signals6,A_c_codes6,A_c_arcs6,rfl,rA_c_signals6,rA_c_codes6,rA_c_arcs6,hb6,fz6⟩
  have hs6:Below w5.heap.size w5 w6:=hb6
  have HW6:Hid (Below w.heap.size w w6):=Zl (HW5.out.trans (hs6.mono HW5.out.size))
  obtain ⟨hc6,_⟩:=Zap hb6
  have hz6:=hb6.size
  repeat rw[World.size_alloc] at hz6
  have l6_0:w.heap.size<w6.heap.size:=by omega
  have t6_0_0:w6.cell? ⟨w.heap.size,0,none⟩=some (.slice A_c_signals (c.signals).length c_c_signals):=(hc6 _ _ (by omega)).trans t5_0_0
  have t6_0_1:w6.cell? ⟨w.heap.size,1,none⟩=some (.slice A_c_codes (c.codes).length c_c_codes):=(hc6 _ _ (by omega)).trans t5_0_1
  have t6_0_2:w6.cell? ⟨w.heap.size,2,none⟩=some (.slice A_c_arcs (c.arcs).length c_c_arcs):=(hc6 _ _ (by omega)).trans t5_0_2
  have l6_1:w.heap.size+1<w6.heap.size:=by omega
  have t6_1_0:w6.cell? ⟨w.heap.size+1,0,none⟩=some (.slice A_n_signals (n.signals).length c_n_signals):=(hc6 _ _ (by omega)).trans t5_1_0
  have t6_1_1:w6.cell? ⟨w.heap.size+1,1,none⟩=some (.slice A_n_wires (n.wires).length c_n_wires):=(hc6 _ _ (by omega)).trans t5_1_1
  have l6_2:bq5<w6.heap.size:=by omega
  have t6_2_0:w6.cell? ⟨bq5,0,none⟩=some (.slice A5_0 (R.1.states).length c5_0):=(hc6 _ _ (by omega)).trans t5_b_0
  have t6_2_1:w6.cell? ⟨bq5,1,none⟩=some (.slice A5_1 (R.1.flips).length c5_1):=(hc6 _ _ (by omega)).trans t5_b_1
  have t6_2_2:w6.cell? ⟨bq5,2,none⟩=some (.slice A5_2 (R.1.extra).length c5_2):=(hc6 _ _ (by omega)).trans t5_b_2
  clear t5_0_0
  clear t5_0_1
  clear t5_0_2
  clear t5_1_0
  clear t5_1_1
  clear t5_b_0
  clear t5_b_1
  clear t5_b_2
  have ho5_0_6:=Seen.to ho5_0 hs6
  clear ho5_0
  have ho5_1_6:=Seen.to ho5_1 hs6
  clear ho5_1
  have ho5_2_6:=Seen.to ho5_2 hs6
  clear ho5_2
  clear hc6
  have aA_c_signals6:RA Zah w6 A_c_signals6 c.signals:=(rA_c_signals6).mono fun b hb=>hb.2
  have aA_c_codes6:RA Zag w6 A_c_codes6 c.codes:=(rA_c_codes6).mono fun b hb=>hb.2
  have aA_c_arcs6:RA Zdg w6 A_c_arcs6 c.arcs:=(rA_c_arcs6).mono fun b hb=>hb.2
  have hlo_c:w.heap.size≤w5.heap.size:=HW5.out.size
  go_wp2_with fail
  refine (toNetlist n A_n_signals c_n_signals A_n_wires c_n_wires _ g9 g10 (RA.to g11 (HW6.out.alloc HW6.out.size _)) g12 g13 (RA.to g14 (HW6.out.alloc HW6.out.size _)) qq_n).mono ?_
  rintro e w7 ⟨A_n_signals7,A_n_wires7,rfl,rA_n_signals7,rA_n_wires7,hb7,fz7⟩
  have hs7:Below w6.heap.size w6 w7:=((Below.refl _ _).alloc (Nat.le_refl _) _).trans (hb7.mono (by rw[World.size_alloc];omega))
  have HW7:Hid (Below w.heap.size w w7):=Zl (HW6.out.trans (hs7.mono HW6.out.size))
  obtain ⟨hc7,_⟩:=Zap hb7
  have hz7:=hb7.size
  repeat rw[World.size_alloc] at hz7
  have l7_0:w.heap.size<w7.heap.size:=by omega
  have t7_0_0:w7.cell? ⟨w.heap.size,0,none⟩=some (.slice A_c_signals (c.signals).length c_c_signals):=(hc7 _ _ (by rw[World.size_alloc];omega)).trans (by rw[World.cell?_alloc_past _ _ _ (by omega)];exact t6_0_0)
  have t7_0_1:w7.cell? ⟨w.heap.size,1,none⟩=some (.slice A_c_codes (c.codes).length c_c_codes):=(hc7 _ _ (by rw[World.size_alloc];omega)).trans (by rw[World.cell?_alloc_past _ _ _ (by omega)];exact t6_0_1)
  have t7_0_2:w7.cell? ⟨w.heap.size,2,none⟩=some (.slice A_c_arcs (c.arcs).length c_c_arcs):=(hc7 _ _ (by rw[World.size_alloc];omega)).trans (by rw[World.cell?_alloc_past _ _ _ (by omega)];exact t6_0_2)
  have l7_1:w.heap.size+1<w7.heap.size:=by omega
  have t7_1_0:w7.cell? ⟨w.heap.size+1,0,none⟩=some (.slice A_n_signals (n.signals).length c_n_signals):=(hc7 _ _ (by rw[World.size_alloc];omega)).trans (by rw[World.cell?_alloc_past _ _ _ (by omega)];exact t6_1_0)
  have t7_1_1:w7.cell? ⟨w.heap.size+1,1,none⟩=some (.slice A_n_wires (n.wires).length c_n_wires):=(hc7 _ _ (by rw[World.size_alloc];omega)).trans (by rw[World.cell?_alloc_past _ _ _ (by omega)];exact t6_1_1)
  have l7_2:bq5<w7.heap.size:=by omega
  have t7_2_0:w7.cell? ⟨bq5,0,none⟩=some (.slice A5_0 (R.1.states).length c5_0):=(hc7 _ _ (by rw[World.size_alloc];omega)).trans (by rw[World.cell?_alloc_past _ _ _ (by omega)];exact t6_2_0)
  have t7_2_1:w7.cell? ⟨bq5,1,none⟩=some (.slice A5_1 (R.1.flips).length c5_1):=(hc7 _ _ (by rw[World.size_alloc];omega)).trans (by rw[World.cell?_alloc_past _ _ _ (by omega)];exact t6_2_1)
  have t7_2_2:w7.cell? ⟨bq5,2,none⟩=some (.slice A5_2 (R.1.extra).length c5_2):=(hc7 _ _ (by rw[World.size_alloc];omega)).trans (by rw[World.cell?_alloc_past _ _ _ (by omega)];exact t6_2_2)
  have l7_3:w6.heap.size<w7.heap.size:=by omega
  have t7_3_0:w7.cell? ⟨w6.heap.size,0,none⟩=some (.slice A_c_signals6 (c.signals).length (c.signals).length):=by rw[hc7 _ _ (by first|omega|(repeat rw[World.size_alloc]);omega)];simp[go_sem]
  have t7_3_1:w7.cell? ⟨w6.heap.size,1,none⟩=some (.slice A_c_codes6 (c.codes).length (c.codes).length):=by rw[hc7 _ _ (by first|omega|(repeat rw[World.size_alloc]);omega)];simp[go_sem]
  have t7_3_2:w7.cell? ⟨w6.heap.size,2,none⟩=some (.slice A_c_arcs6 (c.arcs).length (c.arcs).length):=by rw[hc7 _ _ (by first|omega|(repeat rw[World.size_alloc]);omega)];simp[go_sem]
  clear t6_0_0
  clear t6_0_1
  clear t6_0_2
  clear t6_1_0
  clear t6_1_1
  clear t6_2_0
  clear t6_2_1
  clear t6_2_2
  have aA_c_signals6_7:=RA.to aA_c_signals6 hs7
  clear aA_c_signals6
  have aA_c_codes6_7:=RA.to aA_c_codes6 hs7
  clear aA_c_codes6
  have aA_c_arcs6_7:=RA.to aA_c_arcs6 hs7
  clear aA_c_arcs6
  have HXc_7:Hid (Below w6.heap.size w6 w7):=Zl hs7
  have ho5_0_7:=Seen.to ho5_0_6 hs7
  clear ho5_0_6
  have ho5_1_7:=Seen.to ho5_1_6 hs7
  clear ho5_1_6
  have ho5_2_7:=Seen.to ho5_2_6 hs7
  clear ho5_2_6
  clear hc7
  have aA_n_signals7:RA Zah w7 A_n_signals7 n.signals:=(rA_n_signals7).mono fun b hb=>hb.2
  have aA_n_wires7:RA Zam w7 A_n_wires7 n.wires:=(rA_n_wires7).mono fun b hb=>hb.2
  have hlo_n:w.heap.size≤w6.heap.size:=HW6.out.size
  go_wp2_with fail
  obtain ⟨w8,hw8⟩:∃x,w7.alloc (.cells #[.slice A_n_signals7 (n.signals).length (n.signals).length,.slice A_n_wires7 (n.wires).length (n.wires).length] 42)=x:=⟨_,rfl⟩
  have hs8:Below w7.heap.size w7 w8:=by rw[←hw8];exact (Below.refl _ _).alloc (Nat.le_refl _) _
  have HW8:Hid (Below w.heap.size w w8):=Zl (HW7.out.trans (hs8.mono HW7.out.size))
  have hz8:w8.heap.size=w7.heap.size+1:=by rw[←hw8];simp
  have l8_0:w.heap.size<w8.heap.size:=by omega
  have t8_0_0:w8.cell? ⟨w.heap.size,0,none⟩=some (.slice A_c_signals (c.signals).length c_c_signals):=cell_later hs8 t7_0_0
  clear t7_0_0
  have t8_0_1:w8.cell? ⟨w.heap.size,1,none⟩=some (.slice A_c_codes (c.codes).length c_c_codes):=cell_later hs8 t7_0_1
  clear t7_0_1
  have t8_0_2:w8.cell? ⟨w.heap.size,2,none⟩=some (.slice A_c_arcs (c.arcs).length c_c_arcs):=cell_later hs8 t7_0_2
  clear t7_0_2
  have l8_1:w.heap.size+1<w8.heap.size:=by omega
  have t8_1_0:w8.cell? ⟨w.heap.size+1,0,none⟩=some (.slice A_n_signals (n.signals).length c_n_signals):=cell_later hs8 t7_1_0
  clear t7_1_0
  have t8_1_1:w8.cell? ⟨w.heap.size+1,1,none⟩=some (.slice A_n_wires (n.wires).length c_n_wires):=cell_later hs8 t7_1_1
  clear t7_1_1
  have l8_2:bq5<w8.heap.size:=by omega
  have t8_2_0:w8.cell? ⟨bq5,0,none⟩=some (.slice A5_0 (R.1.states).length c5_0):=cell_later hs8 t7_2_0
  clear t7_2_0
  have t8_2_1:w8.cell? ⟨bq5,1,none⟩=some (.slice A5_1 (R.1.flips).length c5_1):=cell_later hs8 t7_2_1
  clear t7_2_1
  have t8_2_2:w8.cell? ⟨bq5,2,none⟩=some (.slice A5_2 (R.1.extra).length c5_2):=cell_later hs8 t7_2_2
  clear t7_2_2
  have l8_3:w6.heap.size<w8.heap.size:=by omega
  have t8_3_0:w8.cell? ⟨w6.heap.size,0,none⟩=some (.slice A_c_signals6 (c.signals).length (c.signals).length):=cell_later hs8 t7_3_0
  clear t7_3_0
  have t8_3_1:w8.cell? ⟨w6.heap.size,1,none⟩=some (.slice A_c_codes6 (c.codes).length (c.codes).length):=cell_later hs8 t7_3_1
  clear t7_3_1
  have t8_3_2:w8.cell? ⟨w6.heap.size,2,none⟩=some (.slice A_c_arcs6 (c.arcs).length (c.arcs).length):=cell_later hs8 t7_3_2
  clear t7_3_2
  have l8_4:w7.heap.size<w8.heap.size:=by omega
  have t8_4_0:w8.cell? ⟨w7.heap.size,0,none⟩=some (.slice A_n_signals7 (n.signals).length (n.signals).length):=by rw[←hw8];simp[go_sem]
  have t8_4_1:w8.cell? ⟨w7.heap.size,1,none⟩=some (.slice A_n_wires7 (n.wires).length (n.wires).length):=by rw[←hw8];simp[go_sem]
  rw[hw8]
  clear hw8
  have aA_c_signals6_8:=RA.to aA_c_signals6_7 hs8
  clear aA_c_signals6_7
  have aA_c_codes6_8:=RA.to aA_c_codes6_7 hs8
  clear aA_c_codes6_7
  have aA_c_arcs6_8:=RA.to aA_c_arcs6_7 hs8
  clear aA_c_arcs6_7
  have aA_n_signals7_8:=RA.to aA_n_signals7 hs8
  clear aA_n_signals7
  have aA_n_wires7_8:=RA.to aA_n_wires7 hs8
  clear aA_n_wires7
  have HXc_8:Hid (Below w6.heap.size w6 w8):=Zl (HXc_7.out.trans (hs8.mono HXc_7.out.size))
  clear HXc_7
  have HXn_8:Hid (Below w7.heap.size w7 w8):=Zl hs8
  have ho5_0_8:=Seen.to ho5_0_7 hs8
  clear ho5_0_7
  have ho5_1_8:=Seen.to ho5_1_7 hs8
  clear ho5_1_7
  have ho5_2_8:=Seen.to ho5_2_7 hs8
  clear ho5_2_7
  go_wp2_with fail
  refine (impl_Compose c n A_c_signals6 (c.signals).length A_c_codes6 (c.codes).length A_c_arcs6 (c.arcs).length A_n_signals7 (n.signals).length A_n_wires7 (n.wires).length _ (Nat.le_refl _) (by omega) (RA.to aA_c_signals6_8 (Below.refl _ _)) (Nat.le_refl _) (by omega) (RA.to aA_c_codes6_8 (Below.refl _ _)) (Nat.le_refl _) (by omega) (RA.to aA_c_arcs6_8 (Below.refl _ _)) (Nat.le_refl _) (by omega) (RA.to aA_n_signals7_8 (Below.refl _ _)) (Nat.le_refl _) (by omega) (RA.to aA_n_wires7_8 (Below.refl _ _))).mono ?_
  rintro e w9 ⟨A9_0,c9_0,A9_1,c9_1,A9_2,c9_2,rfl,ho9_0,ho9_1,ho9_2,dj9_0_1,dj9_0_2,dj9_1_2,hb9⟩
  have hs9:Below w8.heap.size w8 w9:=hb9
  have HW9:Hid (Below w.heap.size w w9):=Zl (HW8.out.trans (hs9.mono HW8.out.size))
  obtain ⟨hc9,_⟩:=Zap hb9
  have hz9:=hb9.size
  repeat rw[World.size_alloc] at hz9
  have l9_0:w.heap.size<w9.heap.size:=by omega
  have t9_0_0:w9.cell? ⟨w.heap.size,0,none⟩=some (.slice A_c_signals (c.signals).length c_c_signals):=(hc9 _ _ (by omega)).trans t8_0_0
  have t9_0_1:w9.cell? ⟨w.heap.size,1,none⟩=some (.slice A_c_codes (c.codes).length c_c_codes):=(hc9 _ _ (by omega)).trans t8_0_1
  have t9_0_2:w9.cell? ⟨w.heap.size,2,none⟩=some (.slice A_c_arcs (c.arcs).length c_c_arcs):=(hc9 _ _ (by omega)).trans t8_0_2
  have l9_1:w.heap.size+1<w9.heap.size:=by omega
  have t9_1_0:w9.cell? ⟨w.heap.size+1,0,none⟩=some (.slice A_n_signals (n.signals).length c_n_signals):=(hc9 _ _ (by omega)).trans t8_1_0
  have t9_1_1:w9.cell? ⟨w.heap.size+1,1,none⟩=some (.slice A_n_wires (n.wires).length c_n_wires):=(hc9 _ _ (by omega)).trans t8_1_1
  have l9_2:bq5<w9.heap.size:=by omega
  have t9_2_0:w9.cell? ⟨bq5,0,none⟩=some (.slice A5_0 (R.1.states).length c5_0):=(hc9 _ _ (by omega)).trans t8_2_0
  have t9_2_1:w9.cell? ⟨bq5,1,none⟩=some (.slice A5_1 (R.1.flips).length c5_1):=(hc9 _ _ (by omega)).trans t8_2_1
  have t9_2_2:w9.cell? ⟨bq5,2,none⟩=some (.slice A5_2 (R.1.extra).length c5_2):=(hc9 _ _ (by omega)).trans t8_2_2
  have l9_3:w6.heap.size<w9.heap.size:=by omega
  have t9_3_0:w9.cell? ⟨w6.heap.size,0,none⟩=some (.slice A_c_signals6 (c.signals).length (c.signals).length):=(hc9 _ _ (by omega)).trans t8_3_0
  have t9_3_1:w9.cell? ⟨w6.heap.size,1,none⟩=some (.slice A_c_codes6 (c.codes).length (c.codes).length):=(hc9 _ _ (by omega)).trans t8_3_1
  have t9_3_2:w9.cell? ⟨w6.heap.size,2,none⟩=some (.slice A_c_arcs6 (c.arcs).length (c.arcs).length):=(hc9 _ _ (by omega)).trans t8_3_2
  have l9_4:w7.heap.size<w9.heap.size:=by omega
  have t9_4_0:w9.cell? ⟨w7.heap.size,0,none⟩=some (.slice A_n_signals7 (n.signals).length (n.signals).length):=(hc9 _ _ (by omega)).trans t8_4_0
  have t9_4_1:w9.cell? ⟨w7.heap.size,1,none⟩=some (.slice A_n_wires7 (n.wires).length (n.wires).length):=(hc9 _ _ (by omega)).trans t8_4_1
  clear t8_0_0
  clear t8_0_1
  clear t8_0_2
  clear t8_1_0
  clear t8_1_1
  clear t8_2_0
  clear t8_2_1
  clear t8_2_2
  clear t8_3_0
  clear t8_3_1
  clear t8_3_2
  clear t8_4_0
  clear t8_4_1
  have aA_c_signals6_9:=RA.to aA_c_signals6_8 hs9
  clear aA_c_signals6_8
  have aA_c_codes6_9:=RA.to aA_c_codes6_8 hs9
  clear aA_c_codes6_8
  have aA_c_arcs6_9:=RA.to aA_c_arcs6_8 hs9
  clear aA_c_arcs6_8
  have aA_n_signals7_9:=RA.to aA_n_signals7_8 hs9
  clear aA_n_signals7_8
  have aA_n_wires7_9:=RA.to aA_n_wires7_8 hs9
  clear aA_n_wires7_8
  have HXc_9:Hid (Below w6.heap.size w6 w9):=Zl (HXc_8.out.trans (hs9.mono HXc_8.out.size))
  clear HXc_8
  have HXn_9:Hid (Below w7.heap.size w7 w9):=Zl (HXn_8.out.trans (hs9.mono HXn_8.out.size))
  clear HXn_8
  have ho5_0_9:=Seen.to ho5_0_8 hs9
  clear ho5_0_8
  have ho5_1_9:=Seen.to ho5_1_8 hs9
  clear ho5_1_8
  have ho5_2_9:=Seen.to ho5_2_8 hs9
  clear ho5_2_8
  clear hc9
  rw[HR.out] at ho9_0
  have hlt9_0:=ho9_0.lt
  rw[HR.out] at ho9_1
  have hlt9_1:=ho9_1.lt
  rw[HR.out] at ho9_2
  have hlt9_2:=ho9_2.lt
  rw[HR.out]
  go_wp2_with fail
  refine (eqProduct (R.1) A9_0 c9_0 A9_1 c9_1 A9_2 c9_2 A5_0 c5_0 A5_1 c5_1 A5_2 c5_2 _ ho9_0.cap.1 ho9_0.cap.2 (RA.to ho9_0.ra ((Below.refl _ _).alloc (Nat.le_refl _) _)) ho9_1.cap.1 ho9_1.cap.2 (RA.to ho9_1.ra ((Below.refl _ _).alloc (Nat.le_refl _) _)) ho9_2.cap.1 ho9_2.cap.2 (RA.to ho9_2.ra ((Below.refl _ _).alloc (Nat.le_refl _) _)) ho5_0_9.cap.1 ho5_0_9.cap.2 (RA.to ho5_0_9.ra ((Below.refl _ _).alloc (Nat.le_refl _) _)) ho5_1_9.cap.1 ho5_1_9.cap.2 (RA.to ho5_1_9.ra ((Below.refl _ _).alloc (Nat.le_refl _) _)) ho5_2_9.cap.1 ho5_2_9.cap.2 (RA.to ho5_2_9.ra ((Below.refl _ _).alloc (Nat.le_refl _) _))).mono ?_
  rintro e w10 ⟨rfl,hb10⟩
  have hs10:Below w9.heap.size w9 w10:=((Below.refl _ _).alloc (Nat.le_refl _) _).trans (hb10.mono (by rw[World.size_alloc];omega))
  have HW10:Hid (Below w.heap.size w w10):=Zl (HW9.out.trans (hs10.mono HW9.out.size))
  obtain ⟨hc10,_⟩:=Zap hb10
  have hz10:=hb10.size
  repeat rw[World.size_alloc] at hz10
  have l10_0:w.heap.size<w10.heap.size:=by omega
  have t10_0_0:w10.cell? ⟨w.heap.size,0,none⟩=some (.slice A_c_signals (c.signals).length c_c_signals):=(hc10 _ _ (by rw[World.size_alloc];omega)).trans (by rw[World.cell?_alloc_past _ _ _ (by omega)];exact t9_0_0)
  have t10_0_1:w10.cell? ⟨w.heap.size,1,none⟩=some (.slice A_c_codes (c.codes).length c_c_codes):=(hc10 _ _ (by rw[World.size_alloc];omega)).trans (by rw[World.cell?_alloc_past _ _ _ (by omega)];exact t9_0_1)
  have t10_0_2:w10.cell? ⟨w.heap.size,2,none⟩=some (.slice A_c_arcs (c.arcs).length c_c_arcs):=(hc10 _ _ (by rw[World.size_alloc];omega)).trans (by rw[World.cell?_alloc_past _ _ _ (by omega)];exact t9_0_2)
  have l10_1:w.heap.size+1<w10.heap.size:=by omega
  have t10_1_0:w10.cell? ⟨w.heap.size+1,0,none⟩=some (.slice A_n_signals (n.signals).length c_n_signals):=(hc10 _ _ (by rw[World.size_alloc];omega)).trans (by rw[World.cell?_alloc_past _ _ _ (by omega)];exact t9_1_0)
  have t10_1_1:w10.cell? ⟨w.heap.size+1,1,none⟩=some (.slice A_n_wires (n.wires).length c_n_wires):=(hc10 _ _ (by rw[World.size_alloc];omega)).trans (by rw[World.cell?_alloc_past _ _ _ (by omega)];exact t9_1_1)
  have l10_2:bq5<w10.heap.size:=by omega
  have t10_2_0:w10.cell? ⟨bq5,0,none⟩=some (.slice A5_0 (R.1.states).length c5_0):=(hc10 _ _ (by rw[World.size_alloc];omega)).trans (by rw[World.cell?_alloc_past _ _ _ (by omega)];exact t9_2_0)
  have t10_2_1:w10.cell? ⟨bq5,1,none⟩=some (.slice A5_1 (R.1.flips).length c5_1):=(hc10 _ _ (by rw[World.size_alloc];omega)).trans (by rw[World.cell?_alloc_past _ _ _ (by omega)];exact t9_2_1)
  have t10_2_2:w10.cell? ⟨bq5,2,none⟩=some (.slice A5_2 (R.1.extra).length c5_2):=(hc10 _ _ (by rw[World.size_alloc];omega)).trans (by rw[World.cell?_alloc_past _ _ _ (by omega)];exact t9_2_2)
  have l10_3:w6.heap.size<w10.heap.size:=by omega
  have t10_3_0:w10.cell? ⟨w6.heap.size,0,none⟩=some (.slice A_c_signals6 (c.signals).length (c.signals).length):=(hc10 _ _ (by rw[World.size_alloc];omega)).trans (by rw[World.cell?_alloc_past _ _ _ (by omega)];exact t9_3_0)
  have t10_3_1:w10.cell? ⟨w6.heap.size,1,none⟩=some (.slice A_c_codes6 (c.codes).length (c.codes).length):=(hc10 _ _ (by rw[World.size_alloc];omega)).trans (by rw[World.cell?_alloc_past _ _ _ (by omega)];exact t9_3_1)
  have t10_3_2:w10.cell? ⟨w6.heap.size,2,none⟩=some (.slice A_c_arcs6 (c.arcs).length (c.arcs).length):=(hc10 _ _ (by rw[World.size_alloc];omega)).trans (by rw[World.cell?_alloc_past _ _ _ (by omega)];exact t9_3_2)
  have l10_4:w7.heap.size<w10.heap.size:=by omega
  have t10_4_0:w10.cell? ⟨w7.heap.size,0,none⟩=some (.slice A_n_signals7 (n.signals).length (n.signals).length):=(hc10 _ _ (by rw[World.size_alloc];omega)).trans (by rw[World.cell?_alloc_past _ _ _ (by omega)];exact t9_4_0)
  have t10_4_1:w10.cell? ⟨w7.heap.size,1,none⟩=some (.slice A_n_wires7 (n.wires).length (n.wires).length):=(hc10 _ _ (by rw[World.size_alloc];omega)).trans (by rw[World.cell?_alloc_past _ _ _ (by omega)];exact t9_4_1)
  have l10_5:w9.heap.size<w10.heap.size:=by omega
  have t10_5_0:w10.cell? ⟨w9.heap.size,0,none⟩=some (.slice A9_0 (R.1.states).length c9_0):=by rw[hc10 _ _ (by first|omega|(repeat rw[World.size_alloc]);omega)];simp[go_sem]
  have t10_5_1:w10.cell? ⟨w9.heap.size,1,none⟩=some (.slice A9_1 (R.1.flips).length c9_1):=by rw[hc10 _ _ (by first|omega|(repeat rw[World.size_alloc]);omega)];simp[go_sem]
  have t10_5_2:w10.cell? ⟨w9.heap.size,2,none⟩=some (.slice A9_2 (R.1.extra).length c9_2):=by rw[hc10 _ _ (by first|omega|(repeat rw[World.size_alloc]);omega)];simp[go_sem]
  clear t9_0_0
  clear t9_0_1
  clear t9_0_2
  clear t9_1_0
  clear t9_1_1
  clear t9_2_0
  clear t9_2_1
  clear t9_2_2
  clear t9_3_0
  clear t9_3_1
  clear t9_3_2
  clear t9_4_0
  clear t9_4_1
  have aA_c_signals6_10:=RA.to aA_c_signals6_9 hs10
  clear aA_c_signals6_9
  have aA_c_codes6_10:=RA.to aA_c_codes6_9 hs10
  clear aA_c_codes6_9
  have aA_c_arcs6_10:=RA.to aA_c_arcs6_9 hs10
  clear aA_c_arcs6_9
  have aA_n_signals7_10:=RA.to aA_n_signals7_9 hs10
  clear aA_n_signals7_9
  have aA_n_wires7_10:=RA.to aA_n_wires7_9 hs10
  clear aA_n_wires7_9
  have HXc_10:Hid (Below w6.heap.size w6 w10):=Zl (HXc_9.out.trans (hs10.mono HXc_9.out.size))
  clear HXc_9
  have HXn_10:Hid (Below w7.heap.size w7 w10):=Zl (HXn_9.out.trans (hs10.mono HXn_9.out.size))
  clear HXn_9
  have ho5_0_10:=Seen.to ho5_0_9 hs10
  clear ho5_0_9
  have ho5_1_10:=Seen.to ho5_1_9 hs10
  clear ho5_1_9
  have ho5_2_10:=Seen.to ho5_2_9 hs10
  clear ho5_2_9
  have ho9_0_10:=Own.to ho9_0 hs10
  clear ho9_0
  have ho9_1_10:=Own.to ho9_1 hs10
  clear ho9_1
  have ho9_2_10:=Own.to ho9_2 hs10
  clear ho9_2
  clear hc10
  go_wp2_with fail
  go_region_held3 (fun W=>W.cell? ⟨w6.heap.size,0,none⟩=some (.slice A_c_signals6 (c.signals).length (c.signals).length)∧W.cell? ⟨w6.heap.size,1,none⟩=some (.slice A_c_codes6 (c.codes).length (c.codes).length)∧W.cell? ⟨w6.heap.size,2,none⟩=some (.slice A_c_arcs6 (c.arcs).length (c.arcs).length)∧W.cell? ⟨w.heap.size,0,none⟩=some (.slice A_c_signals (c.signals).length c_c_signals)∧W.cell? ⟨w.heap.size,1,none⟩=some (.slice A_c_codes (c.codes).length c_c_codes)∧W.cell? ⟨w.heap.size,2,none⟩=some (.slice A_c_arcs (c.arcs).length c_c_arcs)) (first|exact ⟨t10_3_0,t10_3_1,t10_3_2,t10_0_0,t10_0_1,t10_0_2⟩|exact ⟨(cell_later hb11 t10_3_0),(cell_later hb11 t10_3_1),(cell_later hb11 t10_3_2),(cell_later hb11 t10_0_0),(cell_later hb11 t10_0_1),(cell_later hb11 t10_0_2)⟩|exact ⟨(cell_later hb12 (cell_later hb11 t10_3_0)),(cell_later hb12 (cell_later hb11 t10_3_1)),(cell_later hb12 (cell_later hb11 t10_3_2)),(cell_later hb12 (cell_later hb11 t10_0_0)),(cell_later hb12 (cell_later hb11 t10_0_1)),(cell_later hb12 (cell_later hb11 t10_0_2))⟩) (first|(go_at_call 8;refine (toStateGraph c A_c_signals c_c_signals A_c_codes c_c_codes A_c_arcs c_c_arcs _ g0 g1 (RA.to g2 HW10.out.drew) g3 g4 (RA.to g5 HW10.out.drew) g6 g7 (RA.to g8 HW10.out.drew) qq_c).mono ?_;rintro e w11 ⟨A_c_signals11,A_c_codes11,A_c_arcs11,rfl,rA_c_signals11,rA_c_codes11,rA_c_arcs11,hb11,fz11⟩)|(go_at_call 12;refine (eqStateGraph c A_c_signals6 (c.signals).length A_c_codes6 (c.codes).length A_c_arcs6 (c.arcs).length A_c_signals11 (c.signals).length A_c_codes11 (c.codes).length A_c_arcs11 (c.arcs).length _ (Nat.le_refl _) (by omega) (RA.to aA_c_signals6_10 (Below.trans (Below.drew (Below.refl _ _)) hb11)) (Nat.le_refl _) (by omega) (RA.to aA_c_codes6_10 (Below.trans (Below.drew (Below.refl _ _)) hb11)) (Nat.le_refl _) (by omega) (RA.to aA_c_arcs6_10 (Below.trans (Below.drew (Below.refl _ _)) hb11)) (Nat.le_refl _) (by omega) ((rA_c_signals11).mono fun b hb=>hb.2) (Nat.le_refl _) (by omega) ((rA_c_codes11).mono fun b hb=>hb.2) (Nat.le_refl _) (by omega) ((rA_c_arcs11).mono fun b hb=>hb.2)).mono ?_;rintro e w12 ⟨rfl,hb12⟩))
  have hs12:Below w10.heap.size w10 w12:=(Below.drew (Below.refl _ _)).trans (hb11.trans (hb12.mono hb11.size))
  have HW12:Hid (Below w.heap.size w w12):=Zl (HW10.out.trans (hs12.mono HW10.out.size))
  have hz12:w10.heap.size≤w12.heap.size:=Nat.le_trans hb11.size hb12.size
  have l12_0:w.heap.size<w12.heap.size:=by omega
  have t12_0_0:w12.cell? ⟨w.heap.size,0,none⟩=some (.slice A_c_signals (c.signals).length c_c_signals):=cell_later hb12 (cell_later hb11 t10_0_0)
  clear t10_0_0
  have t12_0_1:w12.cell? ⟨w.heap.size,1,none⟩=some (.slice A_c_codes (c.codes).length c_c_codes):=cell_later hb12 (cell_later hb11 t10_0_1)
  clear t10_0_1
  have t12_0_2:w12.cell? ⟨w.heap.size,2,none⟩=some (.slice A_c_arcs (c.arcs).length c_c_arcs):=cell_later hb12 (cell_later hb11 t10_0_2)
  clear t10_0_2
  have l12_1:w.heap.size+1<w12.heap.size:=by omega
  have t12_1_0:w12.cell? ⟨w.heap.size+1,0,none⟩=some (.slice A_n_signals (n.signals).length c_n_signals):=cell_later hb12 (cell_later hb11 t10_1_0)
  clear t10_1_0
  have t12_1_1:w12.cell? ⟨w.heap.size+1,1,none⟩=some (.slice A_n_wires (n.wires).length c_n_wires):=cell_later hb12 (cell_later hb11 t10_1_1)
  clear t10_1_1
  have l12_2:bq5<w12.heap.size:=by omega
  have t12_2_0:w12.cell? ⟨bq5,0,none⟩=some (.slice A5_0 (R.1.states).length c5_0):=cell_later hb12 (cell_later hb11 t10_2_0)
  clear t10_2_0
  have t12_2_1:w12.cell? ⟨bq5,1,none⟩=some (.slice A5_1 (R.1.flips).length c5_1):=cell_later hb12 (cell_later hb11 t10_2_1)
  clear t10_2_1
  have t12_2_2:w12.cell? ⟨bq5,2,none⟩=some (.slice A5_2 (R.1.extra).length c5_2):=cell_later hb12 (cell_later hb11 t10_2_2)
  clear t10_2_2
  have l12_3:w6.heap.size<w12.heap.size:=by omega
  have t12_3_0:w12.cell? ⟨w6.heap.size,0,none⟩=some (.slice A_c_signals6 (c.signals).length (c.signals).length):=cell_later hb12 (cell_later hb11 t10_3_0)
  clear t10_3_0
  have t12_3_1:w12.cell? ⟨w6.heap.size,1,none⟩=some (.slice A_c_codes6 (c.codes).length (c.codes).length):=cell_later hb12 (cell_later hb11 t10_3_1)
  clear t10_3_1
  have t12_3_2:w12.cell? ⟨w6.heap.size,2,none⟩=some (.slice A_c_arcs6 (c.arcs).length (c.arcs).length):=cell_later hb12 (cell_later hb11 t10_3_2)
  clear t10_3_2
  have l12_4:w7.heap.size<w12.heap.size:=by omega
  have t12_4_0:w12.cell? ⟨w7.heap.size,0,none⟩=some (.slice A_n_signals7 (n.signals).length (n.signals).length):=cell_later hb12 (cell_later hb11 t10_4_0)
  clear t10_4_0
  have t12_4_1:w12.cell? ⟨w7.heap.size,1,none⟩=some (.slice A_n_wires7 (n.wires).length (n.wires).length):=cell_later hb12 (cell_later hb11 t10_4_1)
  clear t10_4_1
  have l12_5:w9.heap.size<w12.heap.size:=by omega
  have t12_5_0:w12.cell? ⟨w9.heap.size,0,none⟩=some (.slice A9_0 (R.1.states).length c9_0):=cell_later hb12 (cell_later hb11 t10_5_0)
  clear t10_5_0
  have t12_5_1:w12.cell? ⟨w9.heap.size,1,none⟩=some (.slice A9_1 (R.1.flips).length c9_1):=cell_later hb12 (cell_later hb11 t10_5_1)
  clear t10_5_1
  have t12_5_2:w12.cell? ⟨w9.heap.size,2,none⟩=some (.slice A9_2 (R.1.extra).length c9_2):=cell_later hb12 (cell_later hb11 t10_5_2)
  clear t10_5_2
  have aA_c_signals6_12:=RA.to aA_c_signals6_10 hs12
  clear aA_c_signals6_10
  have aA_c_codes6_12:=RA.to aA_c_codes6_10 hs12
  clear aA_c_codes6_10
  have aA_c_arcs6_12:=RA.to aA_c_arcs6_10 hs12
  clear aA_c_arcs6_10
  have aA_n_signals7_12:=RA.to aA_n_signals7_10 hs12
  clear aA_n_signals7_10
  have aA_n_wires7_12:=RA.to aA_n_wires7_10 hs12
  clear aA_n_wires7_10
  have HXc_12:Hid (Below w6.heap.size w6 w12):=Zl (HXc_10.out.trans (hs12.mono HXc_10.out.size))
  clear HXc_10
  have HXn_12:Hid (Below w7.heap.size w7 w12):=Zl (HXn_10.out.trans (hs12.mono HXn_10.out.size))
  clear HXn_10
  have ho5_0_12:=Seen.to ho5_0_10 hs12
  clear ho5_0_10
  have ho5_1_12:=Seen.to ho5_1_10 hs12
  clear ho5_1_10
  have ho5_2_12:=Seen.to ho5_2_10 hs12
  clear ho5_2_10
  have ho9_0_12:=Own.to ho9_0_10 hs12
  clear ho9_0_10
  have ho9_1_12:=Own.to ho9_1_10 hs12
  clear ho9_1_10
  have ho9_2_12:=Own.to ho9_2_10 hs12
  clear ho9_2_10
  go_wp2_with fail
  go_region_held3 (fun W=>W.cell? ⟨w7.heap.size,0,none⟩=some (.slice A_n_signals7 (n.signals).length (n.signals).length)∧W.cell? ⟨w7.heap.size,1,none⟩=some (.slice A_n_wires7 (n.wires).length (n.wires).length)∧W.cell? ⟨w.heap.size+1,0,none⟩=some (.slice A_n_signals (n.signals).length c_n_signals)∧W.cell? ⟨w.heap.size+1,1,none⟩=some (.slice A_n_wires (n.wires).length c_n_wires)) (first|exact ⟨t12_4_0,t12_4_1,t12_1_0,t12_1_1⟩|exact ⟨(cell_later hb13 t12_4_0),(cell_later hb13 t12_4_1),(cell_later hb13 t12_1_0),(cell_later hb13 t12_1_1)⟩|exact ⟨(cell_later hb14 (cell_later hb13 t12_4_0)),(cell_later hb14 (cell_later hb13 t12_4_1)),(cell_later hb14 (cell_later hb13 t12_1_0)),(cell_later hb14 (cell_later hb13 t12_1_1))⟩) (first|(go_at_call 9;refine (toNetlist n A_n_signals c_n_signals A_n_wires c_n_wires _ g9 g10 (RA.to g11 HW12.out.drew) g12 g13 (RA.to g14 HW12.out.drew) qq_n).mono ?_;rintro e w13 ⟨A_n_signals13,A_n_wires13,rfl,rA_n_signals13,rA_n_wires13,hb13,fz13⟩)|(go_at_call 13;refine (eqNetlist n A_n_signals7 (n.signals).length A_n_wires7 (n.wires).length A_n_signals13 (n.signals).length A_n_wires13 (n.wires).length _ (Nat.le_refl _) (by omega) (RA.to aA_n_signals7_12 (Below.trans (Below.drew (Below.refl _ _)) hb13)) (Nat.le_refl _) (by omega) (RA.to aA_n_wires7_12 (Below.trans (Below.drew (Below.refl _ _)) hb13)) (Nat.le_refl _) (by omega) ((rA_n_signals13).mono fun b hb=>hb.2) (Nat.le_refl _) (by omega) ((rA_n_wires13).mono fun b hb=>hb.2)).mono ?_;rintro e w14 ⟨rfl,hb14⟩))
  have hs14:Below w12.heap.size w12 w14:=(Below.drew (Below.refl _ _)).trans (hb13.trans (hb14.mono hb13.size))
  have HW14:Hid (Below w.heap.size w w14):=Zl (HW12.out.trans (hs14.mono HW12.out.size))
  have hz14:w12.heap.size≤w14.heap.size:=Nat.le_trans hb13.size hb14.size
  have l14_0:w.heap.size<w14.heap.size:=by omega
  have t14_0_0:w14.cell? ⟨w.heap.size,0,none⟩=some (.slice A_c_signals (c.signals).length c_c_signals):=cell_later hb14 (cell_later hb13 t12_0_0)
  clear t12_0_0
  have t14_0_1:w14.cell? ⟨w.heap.size,1,none⟩=some (.slice A_c_codes (c.codes).length c_c_codes):=cell_later hb14 (cell_later hb13 t12_0_1)
  clear t12_0_1
  have t14_0_2:w14.cell? ⟨w.heap.size,2,none⟩=some (.slice A_c_arcs (c.arcs).length c_c_arcs):=cell_later hb14 (cell_later hb13 t12_0_2)
  clear t12_0_2
  have l14_1:w.heap.size+1<w14.heap.size:=by omega
  have t14_1_0:w14.cell? ⟨w.heap.size+1,0,none⟩=some (.slice A_n_signals (n.signals).length c_n_signals):=cell_later hb14 (cell_later hb13 t12_1_0)
  clear t12_1_0
  have t14_1_1:w14.cell? ⟨w.heap.size+1,1,none⟩=some (.slice A_n_wires (n.wires).length c_n_wires):=cell_later hb14 (cell_later hb13 t12_1_1)
  clear t12_1_1
  have l14_2:bq5<w14.heap.size:=by omega
  have t14_2_0:w14.cell? ⟨bq5,0,none⟩=some (.slice A5_0 (R.1.states).length c5_0):=cell_later hb14 (cell_later hb13 t12_2_0)
  clear t12_2_0
  have t14_2_1:w14.cell? ⟨bq5,1,none⟩=some (.slice A5_1 (R.1.flips).length c5_1):=cell_later hb14 (cell_later hb13 t12_2_1)
  clear t12_2_1
  have t14_2_2:w14.cell? ⟨bq5,2,none⟩=some (.slice A5_2 (R.1.extra).length c5_2):=cell_later hb14 (cell_later hb13 t12_2_2)
  clear t12_2_2
  have l14_3:w6.heap.size<w14.heap.size:=by omega
  have t14_3_0:w14.cell? ⟨w6.heap.size,0,none⟩=some (.slice A_c_signals6 (c.signals).length (c.signals).length):=cell_later hb14 (cell_later hb13 t12_3_0)
  clear t12_3_0
  have t14_3_1:w14.cell? ⟨w6.heap.size,1,none⟩=some (.slice A_c_codes6 (c.codes).length (c.codes).length):=cell_later hb14 (cell_later hb13 t12_3_1)
  clear t12_3_1
  have t14_3_2:w14.cell? ⟨w6.heap.size,2,none⟩=some (.slice A_c_arcs6 (c.arcs).length (c.arcs).length):=cell_later hb14 (cell_later hb13 t12_3_2)
  clear t12_3_2
  have l14_4:w7.heap.size<w14.heap.size:=by omega
  have t14_4_0:w14.cell? ⟨w7.heap.size,0,none⟩=some (.slice A_n_signals7 (n.signals).length (n.signals).length):=cell_later hb14 (cell_later hb13 t12_4_0)
  clear t12_4_0
  have t14_4_1:w14.cell? ⟨w7.heap.size,1,none⟩=some (.slice A_n_wires7 (n.wires).length (n.wires).length):=cell_later hb14 (cell_later hb13 t12_4_1)
  clear t12_4_1
  have l14_5:w9.heap.size<w14.heap.size:=by omega
  have t14_5_0:w14.cell? ⟨w9.heap.size,0,none⟩=some (.slice A9_0 (R.1.states).length c9_0):=cell_later hb14 (cell_later hb13 t12_5_0)
  clear t12_5_0
  have t14_5_1:w14.cell? ⟨w9.heap.size,1,none⟩=some (.slice A9_1 (R.1.flips).length c9_1):=cell_later hb14 (cell_later hb13 t12_5_1)
  clear t12_5_1
  have t14_5_2:w14.cell? ⟨w9.heap.size,2,none⟩=some (.slice A9_2 (R.1.extra).length c9_2):=cell_later hb14 (cell_later hb13 t12_5_2)
  clear t12_5_2
  have aA_c_signals6_14:=RA.to aA_c_signals6_12 hs14
  clear aA_c_signals6_12
  have aA_c_codes6_14:=RA.to aA_c_codes6_12 hs14
  clear aA_c_codes6_12
  have aA_c_arcs6_14:=RA.to aA_c_arcs6_12 hs14
  clear aA_c_arcs6_12
  have aA_n_signals7_14:=RA.to aA_n_signals7_12 hs14
  clear aA_n_signals7_12
  have aA_n_wires7_14:=RA.to aA_n_wires7_12 hs14
  clear aA_n_wires7_12
  have HXc_14:Hid (Below w6.heap.size w6 w14):=Zl (HXc_12.out.trans (hs14.mono HXc_12.out.size))
  clear HXc_12
  have HXn_14:Hid (Below w7.heap.size w7 w14):=Zl (HXn_12.out.trans (hs14.mono HXn_12.out.size))
  clear HXn_12
  have ho5_0_14:=Seen.to ho5_0_12 hs14
  clear ho5_0_12
  have ho5_1_14:=Seen.to ho5_1_12 hs14
  clear ho5_1_12
  have ho5_2_14:=Seen.to ho5_2_12 hs14
  clear ho5_2_12
  have ho9_0_14:=Own.to ho9_0_12 hs14
  clear ho9_0_12
  have ho9_1_14:=Own.to ho9_1_12 hs14
  clear ho9_1_12
  have ho9_2_14:=Own.to ho9_2_12 hs14
  clear ho9_2_12
  have hD:∀b,(fun b=>ZaE w5 w6 b∨ZaE (w6.alloc (.cells #[.slice A_c_signals6 (c.signals).length (c.signals).length,.slice A_c_codes6 (c.codes).length (c.codes).length,.slice A_c_arcs6 (c.arcs).length (c.arcs).length] 38)) w7 b) b→b<w14.heap.size:=fun b hd=>by
   rcases hd with hd|hd
   ·exact Nat.lt_of_lt_of_le hd.2 HXc_14.out.size
   ·exact Nat.lt_of_lt_of_le hd.2 HXn_14.out.size
  have hnf:∀b o,(fun b=>ZaE w5 w6 b∨ZaE (w6.alloc (.cells #[.slice A_c_signals6 (c.signals).length (c.signals).length,.slice A_c_codes6 (c.codes).length (c.codes).length,.slice A_c_arcs6 (c.arcs).length (c.arcs).length] 38)) w7 b) b→w14.frozen? ⟨b,o,none⟩=false:=fun b o hd=>by
   rcases hd with hd|hd
   ·exact (HXc_14.out.frozen (p:=⟨b,o,none⟩) hd.2).trans (fz6.fresh hd.1)
   ·exact (HXn_14.out.frozen (p:=⟨b,o,none⟩) hd.2).trans (fz7.fresh hd.1)
  have mrA_c_signals6:RSl Zah w14 (fun b=>ZaE w5 w6 b∨ZaE (w6.alloc (.cells #[.slice A_c_signals6 (c.signals).length (c.signals).length,.slice A_c_codes6 (c.codes).length (c.codes).length,.slice A_c_arcs6 (c.arcs).length (c.arcs).length] 38)) w7 b) A_c_signals6 c.signals:=(rA_c_signals6.below HXc_14.out (fun b hd=>hd.2)).mono (fun b hd=>.inl hd)
  have mrA_c_codes6:RSl Zag w14 (fun b=>ZaE w5 w6 b∨ZaE (w6.alloc (.cells #[.slice A_c_signals6 (c.signals).length (c.signals).length,.slice A_c_codes6 (c.codes).length (c.codes).length,.slice A_c_arcs6 (c.arcs).length (c.arcs).length] 38)) w7 b) A_c_codes6 c.codes:=(rA_c_codes6.below HXc_14.out (fun b hd=>hd.2)).mono (fun b hd=>.inl hd)
  have mrA_c_arcs6:RSl Zdg w14 (fun b=>ZaE w5 w6 b∨ZaE (w6.alloc (.cells #[.slice A_c_signals6 (c.signals).length (c.signals).length,.slice A_c_codes6 (c.codes).length (c.codes).length,.slice A_c_arcs6 (c.arcs).length (c.arcs).length] 38)) w7 b) A_c_arcs6 c.arcs:=(rA_c_arcs6.below HXc_14.out (fun b hd=>hd.2)).mono (fun b hd=>.inl hd)
  have mrA_n_signals7:RSl Zah w14 (fun b=>ZaE w5 w6 b∨ZaE (w6.alloc (.cells #[.slice A_c_signals6 (c.signals).length (c.signals).length,.slice A_c_codes6 (c.codes).length (c.codes).length,.slice A_c_arcs6 (c.arcs).length (c.arcs).length] 38)) w7 b) A_n_signals7 n.signals:=(rA_n_signals7.below HXn_14.out (fun b hd=>hd.2)).mono (fun b hd=>.inr (hd))
  have mrA_n_wires7:RSl Zam w14 (fun b=>ZaE w5 w6 b∨ZaE (w6.alloc (.cells #[.slice A_c_signals6 (c.signals).length (c.signals).length,.slice A_c_codes6 (c.codes).length (c.codes).length,.slice A_c_arcs6 (c.arcs).length (c.arcs).length] 38)) w7 b) A_n_wires7 n.wires:=(rA_n_wires7.below HXn_14.out (fun b hd=>hd.2)).mono (fun b hd=>.inr (hd))
  have hM0:=Marked.refl (fun b=>ZaE w5 w6 b∨ZaE (w6.alloc (.cells #[.slice A_c_signals6 (c.signals).length (c.signals).length,.slice A_c_codes6 (c.codes).length (c.codes).length,.slice A_c_arcs6 (c.arcs).length (c.arcs).length] 38)) w7 b) w14
  go_wp2_with fail
  refine (markStateGraph_arg w14 (fun b=>ZaE w5 w6 b∨ZaE (w6.alloc (.cells #[.slice A_c_signals6 (c.signals).length (c.signals).length,.slice A_c_codes6 (c.codes).length (c.codes).length,.slice A_c_arcs6 (c.arcs).length (c.arcs).length] 38)) w7 b) hD hnf c A_c_signals6 (c.signals).length A_c_codes6 (c.codes).length A_c_arcs6 (c.arcs).length (Nat.le_refl _) (by omega) mrA_c_signals6 (Nat.le_refl _) (by omega) mrA_c_codes6 (Nat.le_refl _) (by omega) mrA_c_arcs6 1 _ hM0 (by omega) (by omega)).mono ?_
  rintro e w15 ⟨n15,rfl,hp15,hq15,hM15,hT15⟩
  have hz15:=hT15.size
  have HW15:Hid (Below w.heap.size w w15):=Zl (HW14.out.trans (hT15.below (fun q hd=>by rcases hd with hd|hd<;>(have h1:=hd.1;(try rw[World.size_alloc] at h1);have h2:=hd.2;omega)) HW14.out.size))
  have l15_0:w.heap.size<w15.heap.size:=by omega
  have t15_0_0:w15.cell? ⟨w.heap.size,0,none⟩=some (.slice A_c_signals (c.signals).length c_c_signals):=(hT15.cell (by omega) (fun hd=>by rcases hd with hd|hd<;>(have h1:=hd.1;(try rw[World.size_alloc] at h1);have h2:=hd.2;omega))).trans t14_0_0
  clear t14_0_0
  have t15_0_1:w15.cell? ⟨w.heap.size,1,none⟩=some (.slice A_c_codes (c.codes).length c_c_codes):=(hT15.cell (by omega) (fun hd=>by rcases hd with hd|hd<;>(have h1:=hd.1;(try rw[World.size_alloc] at h1);have h2:=hd.2;omega))).trans t14_0_1
  clear t14_0_1
  have t15_0_2:w15.cell? ⟨w.heap.size,2,none⟩=some (.slice A_c_arcs (c.arcs).length c_c_arcs):=(hT15.cell (by omega) (fun hd=>by rcases hd with hd|hd<;>(have h1:=hd.1;(try rw[World.size_alloc] at h1);have h2:=hd.2;omega))).trans t14_0_2
  clear t14_0_2
  have l15_1:w.heap.size+1<w15.heap.size:=by omega
  have t15_1_0:w15.cell? ⟨w.heap.size+1,0,none⟩=some (.slice A_n_signals (n.signals).length c_n_signals):=(hT15.cell (by omega) (fun hd=>by rcases hd with hd|hd<;>(have h1:=hd.1;(try rw[World.size_alloc] at h1);have h2:=hd.2;omega))).trans t14_1_0
  clear t14_1_0
  have t15_1_1:w15.cell? ⟨w.heap.size+1,1,none⟩=some (.slice A_n_wires (n.wires).length c_n_wires):=(hT15.cell (by omega) (fun hd=>by rcases hd with hd|hd<;>(have h1:=hd.1;(try rw[World.size_alloc] at h1);have h2:=hd.2;omega))).trans t14_1_1
  clear t14_1_1
  have l15_2:bq5<w15.heap.size:=by omega
  have t15_2_0:w15.cell? ⟨bq5,0,none⟩=some (.slice A5_0 (R.1.states).length c5_0):=(hT15.cell (by omega) (fun hd=>by rcases hd with hd|hd<;>(have h1:=hd.1;(try rw[World.size_alloc] at h1);have h2:=hd.2;omega))).trans t14_2_0
  clear t14_2_0
  have t15_2_1:w15.cell? ⟨bq5,1,none⟩=some (.slice A5_1 (R.1.flips).length c5_1):=(hT15.cell (by omega) (fun hd=>by rcases hd with hd|hd<;>(have h1:=hd.1;(try rw[World.size_alloc] at h1);have h2:=hd.2;omega))).trans t14_2_1
  clear t14_2_1
  have t15_2_2:w15.cell? ⟨bq5,2,none⟩=some (.slice A5_2 (R.1.extra).length c5_2):=(hT15.cell (by omega) (fun hd=>by rcases hd with hd|hd<;>(have h1:=hd.1;(try rw[World.size_alloc] at h1);have h2:=hd.2;omega))).trans t14_2_2
  clear t14_2_2
  have l15_3:w6.heap.size<w15.heap.size:=by omega
  have t15_3_0:w15.cell? ⟨w6.heap.size,0,none⟩=some (.slice A_c_signals6 (c.signals).length (c.signals).length):=(hT15.cell (by omega) (fun hd=>by rcases hd with hd|hd<;>(have h1:=hd.1;(try rw[World.size_alloc] at h1);have h2:=hd.2;omega))).trans t14_3_0
  clear t14_3_0
  have t15_3_1:w15.cell? ⟨w6.heap.size,1,none⟩=some (.slice A_c_codes6 (c.codes).length (c.codes).length):=(hT15.cell (by omega) (fun hd=>by rcases hd with hd|hd<;>(have h1:=hd.1;(try rw[World.size_alloc] at h1);have h2:=hd.2;omega))).trans t14_3_1
  clear t14_3_1
  have t15_3_2:w15.cell? ⟨w6.heap.size,2,none⟩=some (.slice A_c_arcs6 (c.arcs).length (c.arcs).length):=(hT15.cell (by omega) (fun hd=>by rcases hd with hd|hd<;>(have h1:=hd.1;(try rw[World.size_alloc] at h1);have h2:=hd.2;omega))).trans t14_3_2
  clear t14_3_2
  have l15_4:w7.heap.size<w15.heap.size:=by omega
  have t15_4_0:w15.cell? ⟨w7.heap.size,0,none⟩=some (.slice A_n_signals7 (n.signals).length (n.signals).length):=(hT15.cell (by omega) (fun hd=>by rcases hd with hd|hd<;>(have h1:=hd.1;(try rw[World.size_alloc] at h1);have h2:=hd.2;omega))).trans t14_4_0
  clear t14_4_0
  have t15_4_1:w15.cell? ⟨w7.heap.size,1,none⟩=some (.slice A_n_wires7 (n.wires).length (n.wires).length):=(hT15.cell (by omega) (fun hd=>by rcases hd with hd|hd<;>(have h1:=hd.1;(try rw[World.size_alloc] at h1);have h2:=hd.2;omega))).trans t14_4_1
  clear t14_4_1
  have l15_5:w9.heap.size<w15.heap.size:=by omega
  have t15_5_0:w15.cell? ⟨w9.heap.size,0,none⟩=some (.slice A9_0 (R.1.states).length c9_0):=(hT15.cell (by omega) (fun hd=>by rcases hd with hd|hd<;>(have h1:=hd.1;(try rw[World.size_alloc] at h1);have h2:=hd.2;omega))).trans t14_5_0
  clear t14_5_0
  have t15_5_1:w15.cell? ⟨w9.heap.size,1,none⟩=some (.slice A9_1 (R.1.flips).length c9_1):=(hT15.cell (by omega) (fun hd=>by rcases hd with hd|hd<;>(have h1:=hd.1;(try rw[World.size_alloc] at h1);have h2:=hd.2;omega))).trans t14_5_1
  clear t14_5_1
  have t15_5_2:w15.cell? ⟨w9.heap.size,2,none⟩=some (.slice A9_2 (R.1.extra).length c9_2):=(hT15.cell (by omega) (fun hd=>by rcases hd with hd|hd<;>(have h1:=hd.1;(try rw[World.size_alloc] at h1);have h2:=hd.2;omega))).trans t14_5_2
  clear t14_5_2
  have ho5_0_15:=Touch.seen hT15 ho5_0_14 (fun q hq hd=>by rcases hd with hd|hd<;>(have h1:=hd.1;(try rw[World.size_alloc] at h1);have h2:=hd.2;have h3:=hlt5_0 q hq;omega))
  clear ho5_0_14
  have ho5_1_15:=Touch.seen hT15 ho5_1_14 (fun q hq hd=>by rcases hd with hd|hd<;>(have h1:=hd.1;(try rw[World.size_alloc] at h1);have h2:=hd.2;have h3:=hlt5_1 q hq;omega))
  clear ho5_1_14
  have ho5_2_15:=Touch.seen hT15 ho5_2_14 (fun q hq hd=>by rcases hd with hd|hd<;>(have h1:=hd.1;(try rw[World.size_alloc] at h1);have h2:=hd.2;have h3:=hlt5_2 q hq;omega))
  clear ho5_2_14
  have ho9_0_15:=Touch.own hT15 ho9_0_14 (fun q hq hd=>by rcases hd with hd|hd<;>(have h1:=hd.1;(try rw[World.size_alloc] at h1);have h2:=hd.2;have h3:=hlt9_0 q hq;omega))
  clear ho9_0_14
  have ho9_1_15:=Touch.own hT15 ho9_1_14 (fun q hq hd=>by rcases hd with hd|hd<;>(have h1:=hd.1;(try rw[World.size_alloc] at h1);have h2:=hd.2;have h3:=hlt9_1 q hq;omega))
  clear ho9_1_14
  have ho9_2_15:=Touch.own hT15 ho9_2_14 (fun q hq hd=>by rcases hd with hd|hd<;>(have h1:=hd.1;(try rw[World.size_alloc] at h1);have h2:=hd.2;have h3:=hlt9_2 q hq;omega))
  clear ho9_2_14
  go_wp2_with fail
  refine (markNetlist_arg w14 (fun b=>ZaE w5 w6 b∨ZaE (w6.alloc (.cells #[.slice A_c_signals6 (c.signals).length (c.signals).length,.slice A_c_codes6 (c.codes).length (c.codes).length,.slice A_c_arcs6 (c.arcs).length (c.arcs).length] 38)) w7 b) hD hnf n A_n_signals7 (n.signals).length A_n_wires7 (n.wires).length (Nat.le_refl _) (by omega) mrA_n_signals7 (Nat.le_refl _) (by omega) mrA_n_wires7 n15 _ hM15 (by omega) (by omega)).mono ?_
  rintro e w16 ⟨n16,rfl,hp16,hq16,hM16,hT16⟩
  have hz16:=hT16.size
  have HW16:Hid (Below w.heap.size w w16):=Zl (HW15.out.trans (hT16.below (fun q hd=>by rcases hd with hd|hd<;>(have h1:=hd.1;(try rw[World.size_alloc] at h1);have h2:=hd.2;omega)) HW15.out.size))
  have l16_0:w.heap.size<w16.heap.size:=by omega
  have t16_0_0:w16.cell? ⟨w.heap.size,0,none⟩=some (.slice A_c_signals (c.signals).length c_c_signals):=(hT16.cell (by omega) (fun hd=>by rcases hd with hd|hd<;>(have h1:=hd.1;(try rw[World.size_alloc] at h1);have h2:=hd.2;omega))).trans t15_0_0
  clear t15_0_0
  have t16_0_1:w16.cell? ⟨w.heap.size,1,none⟩=some (.slice A_c_codes (c.codes).length c_c_codes):=(hT16.cell (by omega) (fun hd=>by rcases hd with hd|hd<;>(have h1:=hd.1;(try rw[World.size_alloc] at h1);have h2:=hd.2;omega))).trans t15_0_1
  clear t15_0_1
  have t16_0_2:w16.cell? ⟨w.heap.size,2,none⟩=some (.slice A_c_arcs (c.arcs).length c_c_arcs):=(hT16.cell (by omega) (fun hd=>by rcases hd with hd|hd<;>(have h1:=hd.1;(try rw[World.size_alloc] at h1);have h2:=hd.2;omega))).trans t15_0_2
  clear t15_0_2
  have l16_1:w.heap.size+1<w16.heap.size:=by omega
  have t16_1_0:w16.cell? ⟨w.heap.size+1,0,none⟩=some (.slice A_n_signals (n.signals).length c_n_signals):=(hT16.cell (by omega) (fun hd=>by rcases hd with hd|hd<;>(have h1:=hd.1;(try rw[World.size_alloc] at h1);have h2:=hd.2;omega))).trans t15_1_0
  clear t15_1_0
  have t16_1_1:w16.cell? ⟨w.heap.size+1,1,none⟩=some (.slice A_n_wires (n.wires).length c_n_wires):=(hT16.cell (by omega) (fun hd=>by rcases hd with hd|hd<;>(have h1:=hd.1;(try rw[World.size_alloc] at h1);have h2:=hd.2;omega))).trans t15_1_1
  clear t15_1_1
  have l16_2:bq5<w16.heap.size:=by omega
  have t16_2_0:w16.cell? ⟨bq5,0,none⟩=some (.slice A5_0 (R.1.states).length c5_0):=(hT16.cell (by omega) (fun hd=>by rcases hd with hd|hd<;>(have h1:=hd.1;(try rw[World.size_alloc] at h1);have h2:=hd.2;omega))).trans t15_2_0
  clear t15_2_0
  have t16_2_1:w16.cell? ⟨bq5,1,none⟩=some (.slice A5_1 (R.1.flips).length c5_1):=(hT16.cell (by omega) (fun hd=>by rcases hd with hd|hd<;>(have h1:=hd.1;(try rw[World.size_alloc] at h1);have h2:=hd.2;omega))).trans t15_2_1
  clear t15_2_1
  have t16_2_2:w16.cell? ⟨bq5,2,none⟩=some (.slice A5_2 (R.1.extra).length c5_2):=(hT16.cell (by omega) (fun hd=>by rcases hd with hd|hd<;>(have h1:=hd.1;(try rw[World.size_alloc] at h1);have h2:=hd.2;omega))).trans t15_2_2
  clear t15_2_2
  have l16_3:w6.heap.size<w16.heap.size:=by omega
  have t16_3_0:w16.cell? ⟨w6.heap.size,0,none⟩=some (.slice A_c_signals6 (c.signals).length (c.signals).length):=(hT16.cell (by omega) (fun hd=>by rcases hd with hd|hd<;>(have h1:=hd.1;(try rw[World.size_alloc] at h1);have h2:=hd.2;omega))).trans t15_3_0
  clear t15_3_0
  have t16_3_1:w16.cell? ⟨w6.heap.size,1,none⟩=some (.slice A_c_codes6 (c.codes).length (c.codes).length):=(hT16.cell (by omega) (fun hd=>by rcases hd with hd|hd<;>(have h1:=hd.1;(try rw[World.size_alloc] at h1);have h2:=hd.2;omega))).trans t15_3_1
  clear t15_3_1
  have t16_3_2:w16.cell? ⟨w6.heap.size,2,none⟩=some (.slice A_c_arcs6 (c.arcs).length (c.arcs).length):=(hT16.cell (by omega) (fun hd=>by rcases hd with hd|hd<;>(have h1:=hd.1;(try rw[World.size_alloc] at h1);have h2:=hd.2;omega))).trans t15_3_2
  clear t15_3_2
  have l16_4:w7.heap.size<w16.heap.size:=by omega
  have t16_4_0:w16.cell? ⟨w7.heap.size,0,none⟩=some (.slice A_n_signals7 (n.signals).length (n.signals).length):=(hT16.cell (by omega) (fun hd=>by rcases hd with hd|hd<;>(have h1:=hd.1;(try rw[World.size_alloc] at h1);have h2:=hd.2;omega))).trans t15_4_0
  clear t15_4_0
  have t16_4_1:w16.cell? ⟨w7.heap.size,1,none⟩=some (.slice A_n_wires7 (n.wires).length (n.wires).length):=(hT16.cell (by omega) (fun hd=>by rcases hd with hd|hd<;>(have h1:=hd.1;(try rw[World.size_alloc] at h1);have h2:=hd.2;omega))).trans t15_4_1
  clear t15_4_1
  have l16_5:w9.heap.size<w16.heap.size:=by omega
  have t16_5_0:w16.cell? ⟨w9.heap.size,0,none⟩=some (.slice A9_0 (R.1.states).length c9_0):=(hT16.cell (by omega) (fun hd=>by rcases hd with hd|hd<;>(have h1:=hd.1;(try rw[World.size_alloc] at h1);have h2:=hd.2;omega))).trans t15_5_0
  clear t15_5_0
  have t16_5_1:w16.cell? ⟨w9.heap.size,1,none⟩=some (.slice A9_1 (R.1.flips).length c9_1):=(hT16.cell (by omega) (fun hd=>by rcases hd with hd|hd<;>(have h1:=hd.1;(try rw[World.size_alloc] at h1);have h2:=hd.2;omega))).trans t15_5_1
  clear t15_5_1
  have t16_5_2:w16.cell? ⟨w9.heap.size,2,none⟩=some (.slice A9_2 (R.1.extra).length c9_2):=(hT16.cell (by omega) (fun hd=>by rcases hd with hd|hd<;>(have h1:=hd.1;(try rw[World.size_alloc] at h1);have h2:=hd.2;omega))).trans t15_5_2
  clear t15_5_2
  have ho5_0_16:=Touch.seen hT16 ho5_0_15 (fun q hq hd=>by rcases hd with hd|hd<;>(have h1:=hd.1;(try rw[World.size_alloc] at h1);have h2:=hd.2;have h3:=hlt5_0 q hq;omega))
  clear ho5_0_15
  have ho5_1_16:=Touch.seen hT16 ho5_1_15 (fun q hq hd=>by rcases hd with hd|hd<;>(have h1:=hd.1;(try rw[World.size_alloc] at h1);have h2:=hd.2;have h3:=hlt5_1 q hq;omega))
  clear ho5_1_15
  have ho5_2_16:=Touch.seen hT16 ho5_2_15 (fun q hq hd=>by rcases hd with hd|hd<;>(have h1:=hd.1;(try rw[World.size_alloc] at h1);have h2:=hd.2;have h3:=hlt5_2 q hq;omega))
  clear ho5_2_15
  have ho9_0_16:=Touch.own hT16 ho9_0_15 (fun q hq hd=>by rcases hd with hd|hd<;>(have h1:=hd.1;(try rw[World.size_alloc] at h1);have h2:=hd.2;have h3:=hlt9_0 q hq;omega))
  clear ho9_0_15
  have ho9_1_16:=Touch.own hT16 ho9_1_15 (fun q hq hd=>by rcases hd with hd|hd<;>(have h1:=hd.1;(try rw[World.size_alloc] at h1);have h2:=hd.2;have h3:=hlt9_1 q hq;omega))
  clear ho9_1_15
  have ho9_2_16:=Touch.own hT16 ho9_2_15 (fun q hq hd=>by rcases hd with hd|hd<;>(have h1:=hd.1;(try rw[World.size_alloc] at h1);have h2:=hd.2;have h3:=hlt9_2 q hq;omega))
  clear ho9_2_15
  clear HXc_14
  clear HXn_14
  have qn:decide (n16<0)=false:=by simp;omega
  go_wp2_with fail
  refine (eqProduct (R.1) A9_0 c9_0 A9_1 c9_1 A9_2 c9_2 A5_0 c5_0 A5_1 c5_1 A5_2 c5_2 _ ho9_0_16.cap.1 ho9_0_16.cap.2 (RA.to ho9_0_16.ra (Below.refl _ _)) ho9_1_16.cap.1 ho9_1_16.cap.2 (RA.to ho9_1_16.ra (Below.refl _ _)) ho9_2_16.cap.1 ho9_2_16.cap.2 (RA.to ho9_2_16.ra (Below.refl _ _)) ho5_0_16.cap.1 ho5_0_16.cap.2 (RA.to ho5_0_16.ra (Below.refl _ _)) ho5_1_16.cap.1 ho5_1_16.cap.2 (RA.to ho5_1_16.ra (Below.refl _ _)) ho5_2_16.cap.1 ho5_2_16.cap.2 (RA.to ho5_2_16.ra (Below.refl _ _))).mono ?_
  rintro e w17 ⟨rfl,hb17⟩
  have hs17:Below w16.heap.size w16 w17:=hb17
  have HW17:Hid (Below w.heap.size w w17):=Zl (HW16.out.trans (hs17.mono HW16.out.size))
  obtain ⟨hc17,_⟩:=Zap hb17
  have hz17:=hb17.size
  repeat rw[World.size_alloc] at hz17
  have l17_0:w.heap.size<w17.heap.size:=by omega
  have t17_0_0:w17.cell? ⟨w.heap.size,0,none⟩=some (.slice A_c_signals (c.signals).length c_c_signals):=(hc17 _ _ (by omega)).trans t16_0_0
  have t17_0_1:w17.cell? ⟨w.heap.size,1,none⟩=some (.slice A_c_codes (c.codes).length c_c_codes):=(hc17 _ _ (by omega)).trans t16_0_1
  have t17_0_2:w17.cell? ⟨w.heap.size,2,none⟩=some (.slice A_c_arcs (c.arcs).length c_c_arcs):=(hc17 _ _ (by omega)).trans t16_0_2
  have l17_1:w.heap.size+1<w17.heap.size:=by omega
  have t17_1_0:w17.cell? ⟨w.heap.size+1,0,none⟩=some (.slice A_n_signals (n.signals).length c_n_signals):=(hc17 _ _ (by omega)).trans t16_1_0
  have t17_1_1:w17.cell? ⟨w.heap.size+1,1,none⟩=some (.slice A_n_wires (n.wires).length c_n_wires):=(hc17 _ _ (by omega)).trans t16_1_1
  have l17_2:bq5<w17.heap.size:=by omega
  have t17_2_0:w17.cell? ⟨bq5,0,none⟩=some (.slice A5_0 (R.1.states).length c5_0):=(hc17 _ _ (by omega)).trans t16_2_0
  have t17_2_1:w17.cell? ⟨bq5,1,none⟩=some (.slice A5_1 (R.1.flips).length c5_1):=(hc17 _ _ (by omega)).trans t16_2_1
  have t17_2_2:w17.cell? ⟨bq5,2,none⟩=some (.slice A5_2 (R.1.extra).length c5_2):=(hc17 _ _ (by omega)).trans t16_2_2
  have l17_3:w6.heap.size<w17.heap.size:=by omega
  have t17_3_0:w17.cell? ⟨w6.heap.size,0,none⟩=some (.slice A_c_signals6 (c.signals).length (c.signals).length):=(hc17 _ _ (by omega)).trans t16_3_0
  have t17_3_1:w17.cell? ⟨w6.heap.size,1,none⟩=some (.slice A_c_codes6 (c.codes).length (c.codes).length):=(hc17 _ _ (by omega)).trans t16_3_1
  have t17_3_2:w17.cell? ⟨w6.heap.size,2,none⟩=some (.slice A_c_arcs6 (c.arcs).length (c.arcs).length):=(hc17 _ _ (by omega)).trans t16_3_2
  have l17_4:w7.heap.size<w17.heap.size:=by omega
  have t17_4_0:w17.cell? ⟨w7.heap.size,0,none⟩=some (.slice A_n_signals7 (n.signals).length (n.signals).length):=(hc17 _ _ (by omega)).trans t16_4_0
  have t17_4_1:w17.cell? ⟨w7.heap.size,1,none⟩=some (.slice A_n_wires7 (n.wires).length (n.wires).length):=(hc17 _ _ (by omega)).trans t16_4_1
  have l17_5:w9.heap.size<w17.heap.size:=by omega
  have t17_5_0:w17.cell? ⟨w9.heap.size,0,none⟩=some (.slice A9_0 (R.1.states).length c9_0):=(hc17 _ _ (by omega)).trans t16_5_0
  have t17_5_1:w17.cell? ⟨w9.heap.size,1,none⟩=some (.slice A9_1 (R.1.flips).length c9_1):=(hc17 _ _ (by omega)).trans t16_5_1
  have t17_5_2:w17.cell? ⟨w9.heap.size,2,none⟩=some (.slice A9_2 (R.1.extra).length c9_2):=(hc17 _ _ (by omega)).trans t16_5_2
  clear t16_0_0
  clear t16_0_1
  clear t16_0_2
  clear t16_1_0
  clear t16_1_1
  clear t16_2_0
  clear t16_2_1
  clear t16_2_2
  clear t16_3_0
  clear t16_3_1
  clear t16_3_2
  clear t16_4_0
  clear t16_4_1
  clear t16_5_0
  clear t16_5_1
  clear t16_5_2
  have ho5_0_17:=Seen.to ho5_0_16 hs17
  clear ho5_0_16
  have ho5_1_17:=Seen.to ho5_1_16 hs17
  clear ho5_1_16
  have ho5_2_17:=Seen.to ho5_2_16 hs17
  clear ho5_2_16
  have ho9_0_17:=Own.to ho9_0_16 hs17
  clear ho9_0_16
  have ho9_1_17:=Own.to ho9_1_16 hs17
  clear ho9_1_16
  have ho9_2_17:=Own.to ho9_2_16 hs17
  clear ho9_2_16
  clear hc17
  go_wp2_with fail
  refine (markProduct_own _ _ _ _ (R.1) A9_0 c9_0 A9_1 c9_1 A9_2 c9_2 1 _ ho9_0_17 ho9_1_17 ho9_2_17 dj9_0_1 dj9_0_2 dj9_1_2 (by omega) (by omega)).mono ?_
  rintro e w18 ⟨rfl,hr18_0,hr18_1,hr18_2,hT18⟩
  have hz18:=hT18.size
  have HW18:Hid (Below w.heap.size w w18):=Zl (HW17.out.trans (hT18.below (fun q hd=>by rcases hd with hd|hd|hd<;>first|(have h4:=hlt9_0 _ hd;omega)|(have h4:=hlt9_1 _ hd;omega)|(have h4:=hlt9_2 _ hd;omega)) HW17.out.size))
  have l18_0:w.heap.size<w18.heap.size:=by omega
  have t18_0_0:w18.cell? ⟨w.heap.size,0,none⟩=some (.slice A_c_signals (c.signals).length c_c_signals):=(hT18.cell (by omega) (fun hd=>by rcases hd with hd|hd|hd<;>first|(have h4:=hlt9_0 _ hd;omega)|(have h4:=hlt9_1 _ hd;omega)|(have h4:=hlt9_2 _ hd;omega))).trans t17_0_0
  clear t17_0_0
  have t18_0_1:w18.cell? ⟨w.heap.size,1,none⟩=some (.slice A_c_codes (c.codes).length c_c_codes):=(hT18.cell (by omega) (fun hd=>by rcases hd with hd|hd|hd<;>first|(have h4:=hlt9_0 _ hd;omega)|(have h4:=hlt9_1 _ hd;omega)|(have h4:=hlt9_2 _ hd;omega))).trans t17_0_1
  clear t17_0_1
  have t18_0_2:w18.cell? ⟨w.heap.size,2,none⟩=some (.slice A_c_arcs (c.arcs).length c_c_arcs):=(hT18.cell (by omega) (fun hd=>by rcases hd with hd|hd|hd<;>first|(have h4:=hlt9_0 _ hd;omega)|(have h4:=hlt9_1 _ hd;omega)|(have h4:=hlt9_2 _ hd;omega))).trans t17_0_2
  clear t17_0_2
  have l18_1:w.heap.size+1<w18.heap.size:=by omega
  have t18_1_0:w18.cell? ⟨w.heap.size+1,0,none⟩=some (.slice A_n_signals (n.signals).length c_n_signals):=(hT18.cell (by omega) (fun hd=>by rcases hd with hd|hd|hd<;>first|(have h4:=hlt9_0 _ hd;omega)|(have h4:=hlt9_1 _ hd;omega)|(have h4:=hlt9_2 _ hd;omega))).trans t17_1_0
  clear t17_1_0
  have t18_1_1:w18.cell? ⟨w.heap.size+1,1,none⟩=some (.slice A_n_wires (n.wires).length c_n_wires):=(hT18.cell (by omega) (fun hd=>by rcases hd with hd|hd|hd<;>first|(have h4:=hlt9_0 _ hd;omega)|(have h4:=hlt9_1 _ hd;omega)|(have h4:=hlt9_2 _ hd;omega))).trans t17_1_1
  clear t17_1_1
  have l18_2:bq5<w18.heap.size:=by omega
  have t18_2_0:w18.cell? ⟨bq5,0,none⟩=some (.slice A5_0 (R.1.states).length c5_0):=(hT18.cell (by omega) (fun hd=>by rcases hd with hd|hd|hd<;>first|(have h4:=hlt9_0 _ hd;omega)|(have h4:=hlt9_1 _ hd;omega)|(have h4:=hlt9_2 _ hd;omega))).trans t17_2_0
  clear t17_2_0
  have t18_2_1:w18.cell? ⟨bq5,1,none⟩=some (.slice A5_1 (R.1.flips).length c5_1):=(hT18.cell (by omega) (fun hd=>by rcases hd with hd|hd|hd<;>first|(have h4:=hlt9_0 _ hd;omega)|(have h4:=hlt9_1 _ hd;omega)|(have h4:=hlt9_2 _ hd;omega))).trans t17_2_1
  clear t17_2_1
  have t18_2_2:w18.cell? ⟨bq5,2,none⟩=some (.slice A5_2 (R.1.extra).length c5_2):=(hT18.cell (by omega) (fun hd=>by rcases hd with hd|hd|hd<;>first|(have h4:=hlt9_0 _ hd;omega)|(have h4:=hlt9_1 _ hd;omega)|(have h4:=hlt9_2 _ hd;omega))).trans t17_2_2
  clear t17_2_2
  have l18_3:w6.heap.size<w18.heap.size:=by omega
  have t18_3_0:w18.cell? ⟨w6.heap.size,0,none⟩=some (.slice A_c_signals6 (c.signals).length (c.signals).length):=(hT18.cell (by omega) (fun hd=>by rcases hd with hd|hd|hd<;>first|(have h4:=hlt9_0 _ hd;omega)|(have h4:=hlt9_1 _ hd;omega)|(have h4:=hlt9_2 _ hd;omega))).trans t17_3_0
  clear t17_3_0
  have t18_3_1:w18.cell? ⟨w6.heap.size,1,none⟩=some (.slice A_c_codes6 (c.codes).length (c.codes).length):=(hT18.cell (by omega) (fun hd=>by rcases hd with hd|hd|hd<;>first|(have h4:=hlt9_0 _ hd;omega)|(have h4:=hlt9_1 _ hd;omega)|(have h4:=hlt9_2 _ hd;omega))).trans t17_3_1
  clear t17_3_1
  have t18_3_2:w18.cell? ⟨w6.heap.size,2,none⟩=some (.slice A_c_arcs6 (c.arcs).length (c.arcs).length):=(hT18.cell (by omega) (fun hd=>by rcases hd with hd|hd|hd<;>first|(have h4:=hlt9_0 _ hd;omega)|(have h4:=hlt9_1 _ hd;omega)|(have h4:=hlt9_2 _ hd;omega))).trans t17_3_2
  clear t17_3_2
  have l18_4:w7.heap.size<w18.heap.size:=by omega
  have t18_4_0:w18.cell? ⟨w7.heap.size,0,none⟩=some (.slice A_n_signals7 (n.signals).length (n.signals).length):=(hT18.cell (by omega) (fun hd=>by rcases hd with hd|hd|hd<;>first|(have h4:=hlt9_0 _ hd;omega)|(have h4:=hlt9_1 _ hd;omega)|(have h4:=hlt9_2 _ hd;omega))).trans t17_4_0
  clear t17_4_0
  have t18_4_1:w18.cell? ⟨w7.heap.size,1,none⟩=some (.slice A_n_wires7 (n.wires).length (n.wires).length):=(hT18.cell (by omega) (fun hd=>by rcases hd with hd|hd|hd<;>first|(have h4:=hlt9_0 _ hd;omega)|(have h4:=hlt9_1 _ hd;omega)|(have h4:=hlt9_2 _ hd;omega))).trans t17_4_1
  clear t17_4_1
  have l18_5:w9.heap.size<w18.heap.size:=by omega
  have t18_5_0:w18.cell? ⟨w9.heap.size,0,none⟩=some (.slice A9_0 (R.1.states).length c9_0):=(hT18.cell (by omega) (fun hd=>by rcases hd with hd|hd|hd<;>first|(have h4:=hlt9_0 _ hd;omega)|(have h4:=hlt9_1 _ hd;omega)|(have h4:=hlt9_2 _ hd;omega))).trans t17_5_0
  clear t17_5_0
  have t18_5_1:w18.cell? ⟨w9.heap.size,1,none⟩=some (.slice A9_1 (R.1.flips).length c9_1):=(hT18.cell (by omega) (fun hd=>by rcases hd with hd|hd|hd<;>first|(have h4:=hlt9_0 _ hd;omega)|(have h4:=hlt9_1 _ hd;omega)|(have h4:=hlt9_2 _ hd;omega))).trans t17_5_1
  clear t17_5_1
  have t18_5_2:w18.cell? ⟨w9.heap.size,2,none⟩=some (.slice A9_2 (R.1.extra).length c9_2):=(hT18.cell (by omega) (fun hd=>by rcases hd with hd|hd|hd<;>first|(have h4:=hlt9_0 _ hd;omega)|(have h4:=hlt9_1 _ hd;omega)|(have h4:=hlt9_2 _ hd;omega))).trans t17_5_2
  clear t17_5_2
  have ho5_0_18:=Touch.seen hT18 ho5_0_17 (fun q hq hd=>by rcases hd with hd|hd|hd<;>first|(have h4:=hlt9_0 _ hd;have h3:=hlt5_0 q hq;omega)|(have h4:=hlt9_1 _ hd;have h3:=hlt5_0 q hq;omega)|(have h4:=hlt9_2 _ hd;have h3:=hlt5_0 q hq;omega))
  clear ho5_0_17
  have ho5_1_18:=Touch.seen hT18 ho5_1_17 (fun q hq hd=>by rcases hd with hd|hd|hd<;>first|(have h4:=hlt9_0 _ hd;have h3:=hlt5_1 q hq;omega)|(have h4:=hlt9_1 _ hd;have h3:=hlt5_1 q hq;omega)|(have h4:=hlt9_2 _ hd;have h3:=hlt5_1 q hq;omega))
  clear ho5_1_17
  have ho5_2_18:=Touch.seen hT18 ho5_2_17 (fun q hq hd=>by rcases hd with hd|hd|hd<;>first|(have h4:=hlt9_0 _ hd;have h3:=hlt5_2 q hq;omega)|(have h4:=hlt9_1 _ hd;have h3:=hlt5_2 q hq;omega)|(have h4:=hlt9_2 _ hd;have h3:=hlt5_2 q hq;omega))
  clear ho5_2_17
  have aG_9_0:RA ZbF w18 A9_0 (ZaO mkPSt 2 (1) R.1.states):=hr18_0.mono (fun b hb=>by have h3:=hlt9_0 b hb;omega)
  have aG_9_1:RA ZZ w18 A9_1 (ZaO mkFlip 3 (1+2 * (R.1.states.length:Int)) R.1.flips):=hr18_1.mono (fun b hb=>by have h3:=hlt9_1 b hb;omega)
  have aG_9_2:RA ZZ w18 A9_2 (ZaO mkFlip 3 (1+2 * (R.1.states.length:Int)+3 * (R.1.flips.length:Int)) R.1.extra):=hr18_2.mono (fun b hb=>by have h3:=hlt9_2 b hb;omega)
  have qh:decide (1+2 * (R.1.states.length:Int)+3 * (R.1.flips.length:Int)+3 * (R.1.extra.length:Int)<0)=false:=by simp;omega
  go_wp2_with fail
  refine (heldProduct (R.1) A9_0 c9_0 A9_1 c9_1 A9_2 c9_2 1 _ (by omega) (RA.to aG_9_0 (Below.refl _ _)) (by omega) (RA.to aG_9_1 (Below.refl _ _)) (by omega) (RA.to aG_9_2 (Below.refl _ _)) (by omega) (by omega)).mono ?_
  rintro e w19 ⟨rfl,hb19⟩
  have hs19:Below w18.heap.size w18 w19:=hb19
  have HW19:Hid (Below w.heap.size w w19):=Zl (HW18.out.trans (hs19.mono HW18.out.size))
  obtain ⟨hc19,_⟩:=Zap hb19
  have hz19:=hb19.size
  repeat rw[World.size_alloc] at hz19
  have l19_0:w.heap.size<w19.heap.size:=by omega
  have t19_0_0:w19.cell? ⟨w.heap.size,0,none⟩=some (.slice A_c_signals (c.signals).length c_c_signals):=(hc19 _ _ (by omega)).trans t18_0_0
  have t19_0_1:w19.cell? ⟨w.heap.size,1,none⟩=some (.slice A_c_codes (c.codes).length c_c_codes):=(hc19 _ _ (by omega)).trans t18_0_1
  have t19_0_2:w19.cell? ⟨w.heap.size,2,none⟩=some (.slice A_c_arcs (c.arcs).length c_c_arcs):=(hc19 _ _ (by omega)).trans t18_0_2
  have l19_1:w.heap.size+1<w19.heap.size:=by omega
  have t19_1_0:w19.cell? ⟨w.heap.size+1,0,none⟩=some (.slice A_n_signals (n.signals).length c_n_signals):=(hc19 _ _ (by omega)).trans t18_1_0
  have t19_1_1:w19.cell? ⟨w.heap.size+1,1,none⟩=some (.slice A_n_wires (n.wires).length c_n_wires):=(hc19 _ _ (by omega)).trans t18_1_1
  have l19_2:bq5<w19.heap.size:=by omega
  have t19_2_0:w19.cell? ⟨bq5,0,none⟩=some (.slice A5_0 (R.1.states).length c5_0):=(hc19 _ _ (by omega)).trans t18_2_0
  have t19_2_1:w19.cell? ⟨bq5,1,none⟩=some (.slice A5_1 (R.1.flips).length c5_1):=(hc19 _ _ (by omega)).trans t18_2_1
  have t19_2_2:w19.cell? ⟨bq5,2,none⟩=some (.slice A5_2 (R.1.extra).length c5_2):=(hc19 _ _ (by omega)).trans t18_2_2
  have l19_3:w6.heap.size<w19.heap.size:=by omega
  have t19_3_0:w19.cell? ⟨w6.heap.size,0,none⟩=some (.slice A_c_signals6 (c.signals).length (c.signals).length):=(hc19 _ _ (by omega)).trans t18_3_0
  have t19_3_1:w19.cell? ⟨w6.heap.size,1,none⟩=some (.slice A_c_codes6 (c.codes).length (c.codes).length):=(hc19 _ _ (by omega)).trans t18_3_1
  have t19_3_2:w19.cell? ⟨w6.heap.size,2,none⟩=some (.slice A_c_arcs6 (c.arcs).length (c.arcs).length):=(hc19 _ _ (by omega)).trans t18_3_2
  have l19_4:w7.heap.size<w19.heap.size:=by omega
  have t19_4_0:w19.cell? ⟨w7.heap.size,0,none⟩=some (.slice A_n_signals7 (n.signals).length (n.signals).length):=(hc19 _ _ (by omega)).trans t18_4_0
  have t19_4_1:w19.cell? ⟨w7.heap.size,1,none⟩=some (.slice A_n_wires7 (n.wires).length (n.wires).length):=(hc19 _ _ (by omega)).trans t18_4_1
  have l19_5:w9.heap.size<w19.heap.size:=by omega
  have t19_5_0:w19.cell? ⟨w9.heap.size,0,none⟩=some (.slice A9_0 (R.1.states).length c9_0):=(hc19 _ _ (by omega)).trans t18_5_0
  have t19_5_1:w19.cell? ⟨w9.heap.size,1,none⟩=some (.slice A9_1 (R.1.flips).length c9_1):=(hc19 _ _ (by omega)).trans t18_5_1
  have t19_5_2:w19.cell? ⟨w9.heap.size,2,none⟩=some (.slice A9_2 (R.1.extra).length c9_2):=(hc19 _ _ (by omega)).trans t18_5_2
  clear t18_0_0
  clear t18_0_1
  clear t18_0_2
  clear t18_1_0
  clear t18_1_1
  clear t18_2_0
  clear t18_2_1
  clear t18_2_2
  clear t18_3_0
  clear t18_3_1
  clear t18_3_2
  clear t18_4_0
  clear t18_4_1
  clear t18_5_0
  clear t18_5_1
  clear t18_5_2
  have aG_9_0_19:=RA.to aG_9_0 hs19
  clear aG_9_0
  have aG_9_1_19:=RA.to aG_9_1 hs19
  clear aG_9_1
  have aG_9_2_19:=RA.to aG_9_2 hs19
  clear aG_9_2
  have ho5_0_19:=Seen.to ho5_0_18 hs19
  clear ho5_0_18
  have ho5_1_19:=Seen.to ho5_1_18 hs19
  clear ho5_1_18
  have ho5_2_19:=Seen.to ho5_2_18 hs19
  clear ho5_2_18
  clear hc19
  have HB19:=HW19.out
  go_upto_region 31 with fail
  go_cut [15,16] (fun s15 s16 wx=>∃(bq:Nat) (A22_0:Option Addr) (c22_0:Nat) (A22_1:Option Addr) (c22_1:Nat) (A22_2:Option Addr) (c22_2:Nat),s15=.pointer (some ⟨bq,0,none⟩)∧s16=.bool R.2∧Below w19.heap.size w19 wx∧w19.heap.size≤bq∧bq<wx.heap.size∧wx.cell? ⟨bq,0,none⟩=some (.slice A22_0 (R.1.states).length c22_0)∧wx.cell? ⟨bq,1,none⟩=some (.slice A22_1 (R.1.flips).length c22_1)∧wx.cell? ⟨bq,2,none⟩=some (.slice A22_2 (R.1.extra).length c22_2)∧Own ZbF wx w19.heap.size 66 A22_0 c22_0 R.1.states∧Own ZZ wx w19.heap.size 132 A22_1 c22_1 R.1.flips∧Own ZZ wx w19.heap.size 132 A22_2 c22_2 R.1.extra∧(∀q,blk A22_0=some q→blk A22_1=some q→False)∧(∀q,blk A22_0=some q→blk A22_2=some q→False)∧(∀q,blk A22_1=some q→blk A22_2=some q→False))
  case first=>
   go_region_held3 (fun W=>W.cell? ⟨w.heap.size,0,none⟩=some (.slice A_c_signals (c.signals).length c_c_signals)∧W.cell? ⟨w.heap.size,1,none⟩=some (.slice A_c_codes (c.codes).length c_c_codes)∧W.cell? ⟨w.heap.size,2,none⟩=some (.slice A_c_arcs (c.arcs).length c_c_arcs)∧W.cell? ⟨w.heap.size+1,0,none⟩=some (.slice A_n_signals (n.signals).length c_n_signals)∧W.cell? ⟨w.heap.size+1,1,none⟩=some (.slice A_n_wires (n.wires).length c_n_wires)) (exact ⟨cell_later gG t19_0_0,cell_later gG t19_0_1,cell_later gG t19_0_2,cell_later gG t19_1_0,cell_later gG t19_1_1⟩) (first
    | (go_at_call 8
       refine (toStateGraph c A_c_signals c_c_signals A_c_codes c_c_codes A_c_arcs c_c_arcs _ g0 g1 (RA.to g2 gG) g3 g4 (RA.to g5 gG) g6 g7 (RA.to g8 gG) qq_c).mono ?_
       rintro e w20 ⟨A_c_signals20,A_c_codes20,A_c_arcs20,rfl,rA_c_signals20,rA_c_codes20,rA_c_arcs20,hb20,fz20⟩
       have hs20:Below w19.heap.size w19 w20:=gG
       have hz20:=hs20.size
       try have zA:ZB w20 w19.heap.size 3:=ZB.to (ZB.new3 w19.drew _) hb20)
    | (go_at_call 9
       refine (toNetlist n A_n_signals c_n_signals A_n_wires c_n_wires _ g9 g10 (RA.to g11 gG) g12 g13 (RA.to g14 gG) qq_n).mono ?_
       rintro e w21 ⟨A_n_signals21,A_n_wires21,rfl,rA_n_signals21,rA_n_wires21,hb21,fz21⟩
       have hs21:Below w20.heap.size w20 w21:=gG
       have hz21:=hs21.size
       first|have zA:=ZB.to zA hs21|have zA:ZB w21 w20.heap.size 3:=(ZB.new3 _ _).to hb21|skip)
    | (go_at_call 19
       refine (impl_Compose c n A_c_signals20 (c.signals).length A_c_codes20 (c.codes).length A_c_arcs20 (c.arcs).length A_n_signals21 (n.signals).length A_n_wires21 (n.wires).length _ (Nat.le_refl _) (by omega) (RA.to (w:=w20) (rA_c_signals20.mono fun b hb=>hb.2) gG) (Nat.le_refl _) (by omega) (RA.to (w:=w20) (rA_c_codes20.mono fun b hb=>hb.2) gG) (Nat.le_refl _) (by omega) (RA.to (w:=w20) (rA_c_arcs20.mono fun b hb=>hb.2) gG) (Nat.le_refl _) (by omega) (RA.to (w:=w21) (rA_n_signals21.mono fun b hb=>hb.2) gG) (Nat.le_refl _) (by omega) (RA.to (w:=w21) (rA_n_wires21.mono fun b hb=>hb.2) gG)).mono ?_
       rintro e w22 ⟨A22_0,c22_0,A22_1,c22_1,A22_2,c22_2,rfl,ho22_0,ho22_1,ho22_2,dj22_0_1,dj22_0_2,dj22_1_2,hb22⟩
       have hs22:Below w21.heap.size w21 w22:=gG
       have hz22:=hs22.size
       first|have zA:=ZB.to zA hs22|have zA:ZB w22 w21.heap.size 3:=(ZB.new3 _ _).to hb22|skip
       rw[HR.out] at ho22_0
       rw[HR.out] at ho22_1
       rw[HR.out] at ho22_2
       rw[HR.out]
       try (have z0:=zA.cell 0 (by decide);have y0:=zA.frz 0;have z1:=zA.cell 1 (by decide);have y1:=zA.frz 1;have z2:=zA.cell 2 (by decide);have y2:=zA.frz 2)))
   all_goals (go_wp2_with fail;go_meet)
   all_goals first
    |(refine ⟨w22.heap.size,A22_0,c22_0,A22_1,c22_1,A22_2,c22_2,rfl,rfl, ?_⟩;exact ⟨gG,by omega,by rw[World.size_alloc];omega,by simp[go_sem],by simp[go_sem],by simp[go_sem],(Own.to ho22_0 gG).lower (by first|omega|(simp only[World.size_alloc];omega)),(Own.to ho22_1 gG).lower (by first|omega|(simp only[World.size_alloc];omega)),(Own.to ho22_2 gG).lower (by first|omega|(simp only[World.size_alloc];omega)),dj22_0_1,dj22_0_2,dj22_1_2⟩)
    |(refine ⟨w21.heap.size,A22_0,c22_0,A22_1,c22_1,A22_2,c22_2,rfl,rfl, ?_⟩;have hz0:w21.heap.size+1≤w22.heap.size:=Nat.le_trans (Nat.le_of_eq (World.size_alloc w21 _).symm) hb22.size;exact ⟨gG,by omega,by have:=zA.lt;simp only[World.size_setCell];omega,(zA.set3 _ _ _).1,(zA.set3 _ _ _).2.1,(zA.set3 _ _ _).2.2,(Touch.own (Zca _ _ _ _ _) ho22_0 (fun q hq hd=>by have h1:=(ho22_0.lt q hq).1;have h2:q=w21.heap.size:=hd;(try simp only[World.size_alloc] at h1);omega)).lower (by first|omega|(simp only[World.size_alloc];omega)),(Touch.own (Zca _ _ _ _ _) ho22_1 (fun q hq hd=>by have h1:=(ho22_1.lt q hq).1;have h2:q=w21.heap.size:=hd;(try simp only[World.size_alloc] at h1);omega)).lower (by first|omega|(simp only[World.size_alloc];omega)),(Touch.own (Zca _ _ _ _ _) ho22_2 (fun q hq hd=>by have h1:=(ho22_2.lt q hq).1;have h2:q=w21.heap.size:=hd;(try simp only[World.size_alloc] at h1);omega)).lower (by first|omega|(simp only[World.size_alloc];omega)),dj22_0_1,dj22_0_2,dj22_1_2⟩)
    |(refine ⟨w20.heap.size,A22_0,c22_0,A22_1,c22_1,A22_2,c22_2,rfl,rfl, ?_⟩;have hz0:w20.heap.size+1≤w21.heap.size:=Nat.le_trans (Nat.le_of_eq (World.size_alloc w20 _).symm) hb21.size;exact ⟨gG,by omega,by have:=zA.lt;simp only[World.size_setCell];omega,(zA.set3 _ _ _).1,(zA.set3 _ _ _).2.1,(zA.set3 _ _ _).2.2,(Touch.own (Zca _ _ _ _ _) ho22_0 (fun q hq hd=>by have h1:=(ho22_0.lt q hq).1;have h2:q=w20.heap.size:=hd;(try simp only[World.size_alloc] at h1);omega)).lower (by first|omega|(simp only[World.size_alloc];omega)),(Touch.own (Zca _ _ _ _ _) ho22_1 (fun q hq hd=>by have h1:=(ho22_1.lt q hq).1;have h2:q=w20.heap.size:=hd;(try simp only[World.size_alloc] at h1);omega)).lower (by first|omega|(simp only[World.size_alloc];omega)),(Touch.own (Zca _ _ _ _ _) ho22_2 (fun q hq hd=>by have h1:=(ho22_2.lt q hq).1;have h2:q=w20.heap.size:=hd;(try simp only[World.size_alloc] at h1);omega)).lower (by first|omega|(simp only[World.size_alloc];omega)),dj22_0_1,dj22_0_2,dj22_1_2⟩)
    |(refine ⟨w19.heap.size,A22_0,c22_0,A22_1,c22_1,A22_2,c22_2,rfl,rfl, ?_⟩;have hz0:w19.heap.size+1≤w20.heap.size:=Nat.le_trans (Nat.le_of_eq (World.size_alloc w19.drew _).symm) hb20.size;exact ⟨gG,by omega,by have:=zA.lt;simp only[World.size_setCell];omega,(zA.set3 _ _ _).1,(zA.set3 _ _ _).2.1,(zA.set3 _ _ _).2.2,(Touch.own (Zca _ _ _ _ _) ho22_0 (fun q hq hd=>by have h1:=(ho22_0.lt q hq).1;have h2:q=w19.heap.size:=hd;(try simp only[World.size_alloc] at h1);omega)).lower (by first|omega|(simp only[World.size_alloc];omega)),(Touch.own (Zca _ _ _ _ _) ho22_1 (fun q hq hd=>by have h1:=(ho22_1.lt q hq).1;have h2:q=w19.heap.size:=hd;(try simp only[World.size_alloc] at h1);omega)).lower (by first|omega|(simp only[World.size_alloc];omega)),(Touch.own (Zca _ _ _ _ _) ho22_2 (fun q hq hd=>by have h1:=(ho22_2.lt q hq).1;have h2:q=w19.heap.size:=hd;(try simp only[World.size_alloc] at h1);omega)).lower (by first|omega|(simp only[World.size_alloc];omega)),dj22_0_1,dj22_0_2,dj22_1_2⟩)
  case rest=>
   obtain ⟨bq22,A22_0,c22_0,A22_1,c22_1,A22_2,c22_2,rfl,rfl,hb22,hlb22,hub22,t22_b_0,t22_b_1,t22_b_2,ho22_0,ho22_1,ho22_2,dj22_0_1,dj22_0_2,dj22_1_2⟩:=hcut
   obtain ⟨w22,hw22⟩:∃x,x=wc:=⟨_,rfl⟩
   subst hw22
   have hs22:Below w19.heap.size w19 w22:=hb22
   have HW22:Hid (Below w.heap.size w w22):=Zl (HW19.out.trans (hs22.mono HW19.out.size))
   have hz22:=hs22.size
   have l22_0:w.heap.size<w22.heap.size:=by omega
   have t22_0_0:w22.cell? ⟨w.heap.size,0,none⟩=some (.slice A_c_signals (c.signals).length c_c_signals):=cell_later hs22 t19_0_0
   clear t19_0_0
   have t22_0_1:w22.cell? ⟨w.heap.size,1,none⟩=some (.slice A_c_codes (c.codes).length c_c_codes):=cell_later hs22 t19_0_1
   clear t19_0_1
   have t22_0_2:w22.cell? ⟨w.heap.size,2,none⟩=some (.slice A_c_arcs (c.arcs).length c_c_arcs):=cell_later hs22 t19_0_2
   clear t19_0_2
   have l22_1:w.heap.size+1<w22.heap.size:=by omega
   have t22_1_0:w22.cell? ⟨w.heap.size+1,0,none⟩=some (.slice A_n_signals (n.signals).length c_n_signals):=cell_later hs22 t19_1_0
   clear t19_1_0
   have t22_1_1:w22.cell? ⟨w.heap.size+1,1,none⟩=some (.slice A_n_wires (n.wires).length c_n_wires):=cell_later hs22 t19_1_1
   clear t19_1_1
   have l22_2:bq5<w22.heap.size:=by omega
   have t22_2_0:w22.cell? ⟨bq5,0,none⟩=some (.slice A5_0 (R.1.states).length c5_0):=cell_later hs22 t19_2_0
   clear t19_2_0
   have t22_2_1:w22.cell? ⟨bq5,1,none⟩=some (.slice A5_1 (R.1.flips).length c5_1):=cell_later hs22 t19_2_1
   clear t19_2_1
   have t22_2_2:w22.cell? ⟨bq5,2,none⟩=some (.slice A5_2 (R.1.extra).length c5_2):=cell_later hs22 t19_2_2
   clear t19_2_2
   have l22_3:w6.heap.size<w22.heap.size:=by omega
   have t22_3_0:w22.cell? ⟨w6.heap.size,0,none⟩=some (.slice A_c_signals6 (c.signals).length (c.signals).length):=cell_later hs22 t19_3_0
   clear t19_3_0
   have t22_3_1:w22.cell? ⟨w6.heap.size,1,none⟩=some (.slice A_c_codes6 (c.codes).length (c.codes).length):=cell_later hs22 t19_3_1
   clear t19_3_1
   have t22_3_2:w22.cell? ⟨w6.heap.size,2,none⟩=some (.slice A_c_arcs6 (c.arcs).length (c.arcs).length):=cell_later hs22 t19_3_2
   clear t19_3_2
   have l22_4:w7.heap.size<w22.heap.size:=by omega
   have t22_4_0:w22.cell? ⟨w7.heap.size,0,none⟩=some (.slice A_n_signals7 (n.signals).length (n.signals).length):=cell_later hs22 t19_4_0
   clear t19_4_0
   have t22_4_1:w22.cell? ⟨w7.heap.size,1,none⟩=some (.slice A_n_wires7 (n.wires).length (n.wires).length):=cell_later hs22 t19_4_1
   clear t19_4_1
   have l22_5:w9.heap.size<w22.heap.size:=by omega
   have t22_5_0:w22.cell? ⟨w9.heap.size,0,none⟩=some (.slice A9_0 (R.1.states).length c9_0):=cell_later hs22 t19_5_0
   clear t19_5_0
   have t22_5_1:w22.cell? ⟨w9.heap.size,1,none⟩=some (.slice A9_1 (R.1.flips).length c9_1):=cell_later hs22 t19_5_1
   clear t19_5_1
   have t22_5_2:w22.cell? ⟨w9.heap.size,2,none⟩=some (.slice A9_2 (R.1.extra).length c9_2):=cell_later hs22 t19_5_2
   clear t19_5_2
   have aG_9_0_22:=RA.to aG_9_0_19 hs22
   clear aG_9_0_19
   have aG_9_1_22:=RA.to aG_9_1_19 hs22
   clear aG_9_1_19
   have aG_9_2_22:=RA.to aG_9_2_19 hs22
   clear aG_9_2_19
   have ho5_0_22:=Seen.to ho5_0_19 hs22
   clear ho5_0_19
   have ho5_1_22:=Seen.to ho5_1_19 hs22
   clear ho5_1_19
   have ho5_2_22:=Seen.to ho5_2_19 hs22
   clear ho5_2_19
   clear HB19
   have hlt22_0:=ho22_0.lt
   have hlt22_1:=ho22_1.lt
   have hlt22_2:=ho22_2.lt
   go_wp2_with fail
   refine (eqProduct (R.1) A22_0 c22_0 A22_1 c22_1 A22_2 c22_2 A5_0 c5_0 A5_1 c5_1 A5_2 c5_2 _ ho22_0.cap.1 ho22_0.cap.2 (RA.to ho22_0.ra (Below.refl _ _)) ho22_1.cap.1 ho22_1.cap.2 (RA.to ho22_1.ra (Below.refl _ _)) ho22_2.cap.1 ho22_2.cap.2 (RA.to ho22_2.ra (Below.refl _ _)) ho5_0_22.cap.1 ho5_0_22.cap.2 (RA.to ho5_0_22.ra (Below.refl _ _)) ho5_1_22.cap.1 ho5_1_22.cap.2 (RA.to ho5_1_22.ra (Below.refl _ _)) ho5_2_22.cap.1 ho5_2_22.cap.2 (RA.to ho5_2_22.ra (Below.refl _ _))).mono ?_
   rintro e w23 ⟨rfl,hb23⟩
   have hs23:Below w22.heap.size w22 w23:=hb23
   have HW23:Hid (Below w.heap.size w w23):=Zl (HW22.out.trans (hs23.mono HW22.out.size))
   obtain ⟨hc23,_⟩:=Zap hb23
   have hz23:=hb23.size
   repeat rw[World.size_alloc] at hz23
   have l23_0:w.heap.size<w23.heap.size:=by omega
   have t23_0_0:w23.cell? ⟨w.heap.size,0,none⟩=some (.slice A_c_signals (c.signals).length c_c_signals):=(hc23 _ _ (by omega)).trans t22_0_0
   have t23_0_1:w23.cell? ⟨w.heap.size,1,none⟩=some (.slice A_c_codes (c.codes).length c_c_codes):=(hc23 _ _ (by omega)).trans t22_0_1
   have t23_0_2:w23.cell? ⟨w.heap.size,2,none⟩=some (.slice A_c_arcs (c.arcs).length c_c_arcs):=(hc23 _ _ (by omega)).trans t22_0_2
   have l23_1:w.heap.size+1<w23.heap.size:=by omega
   have t23_1_0:w23.cell? ⟨w.heap.size+1,0,none⟩=some (.slice A_n_signals (n.signals).length c_n_signals):=(hc23 _ _ (by omega)).trans t22_1_0
   have t23_1_1:w23.cell? ⟨w.heap.size+1,1,none⟩=some (.slice A_n_wires (n.wires).length c_n_wires):=(hc23 _ _ (by omega)).trans t22_1_1
   have l23_2:bq5<w23.heap.size:=by omega
   have t23_2_0:w23.cell? ⟨bq5,0,none⟩=some (.slice A5_0 (R.1.states).length c5_0):=(hc23 _ _ (by omega)).trans t22_2_0
   have t23_2_1:w23.cell? ⟨bq5,1,none⟩=some (.slice A5_1 (R.1.flips).length c5_1):=(hc23 _ _ (by omega)).trans t22_2_1
   have t23_2_2:w23.cell? ⟨bq5,2,none⟩=some (.slice A5_2 (R.1.extra).length c5_2):=(hc23 _ _ (by omega)).trans t22_2_2
   have l23_3:w6.heap.size<w23.heap.size:=by omega
   have t23_3_0:w23.cell? ⟨w6.heap.size,0,none⟩=some (.slice A_c_signals6 (c.signals).length (c.signals).length):=(hc23 _ _ (by omega)).trans t22_3_0
   have t23_3_1:w23.cell? ⟨w6.heap.size,1,none⟩=some (.slice A_c_codes6 (c.codes).length (c.codes).length):=(hc23 _ _ (by omega)).trans t22_3_1
   have t23_3_2:w23.cell? ⟨w6.heap.size,2,none⟩=some (.slice A_c_arcs6 (c.arcs).length (c.arcs).length):=(hc23 _ _ (by omega)).trans t22_3_2
   have l23_4:w7.heap.size<w23.heap.size:=by omega
   have t23_4_0:w23.cell? ⟨w7.heap.size,0,none⟩=some (.slice A_n_signals7 (n.signals).length (n.signals).length):=(hc23 _ _ (by omega)).trans t22_4_0
   have t23_4_1:w23.cell? ⟨w7.heap.size,1,none⟩=some (.slice A_n_wires7 (n.wires).length (n.wires).length):=(hc23 _ _ (by omega)).trans t22_4_1
   have l23_5:w9.heap.size<w23.heap.size:=by omega
   have t23_5_0:w23.cell? ⟨w9.heap.size,0,none⟩=some (.slice A9_0 (R.1.states).length c9_0):=(hc23 _ _ (by omega)).trans t22_5_0
   have t23_5_1:w23.cell? ⟨w9.heap.size,1,none⟩=some (.slice A9_1 (R.1.flips).length c9_1):=(hc23 _ _ (by omega)).trans t22_5_1
   have t23_5_2:w23.cell? ⟨w9.heap.size,2,none⟩=some (.slice A9_2 (R.1.extra).length c9_2):=(hc23 _ _ (by omega)).trans t22_5_2
   have l23_6:bq22<w23.heap.size:=by omega
   have t23_6_0:w23.cell? ⟨bq22,0,none⟩=some (.slice A22_0 (R.1.states).length c22_0):=(hc23 _ _ (by omega)).trans t22_b_0
   have t23_6_1:w23.cell? ⟨bq22,1,none⟩=some (.slice A22_1 (R.1.flips).length c22_1):=(hc23 _ _ (by omega)).trans t22_b_1
   have t23_6_2:w23.cell? ⟨bq22,2,none⟩=some (.slice A22_2 (R.1.extra).length c22_2):=(hc23 _ _ (by omega)).trans t22_b_2
   clear t22_0_0
   clear t22_0_1
   clear t22_0_2
   clear t22_1_0
   clear t22_1_1
   clear t22_2_0
   clear t22_2_1
   clear t22_2_2
   clear t22_3_0
   clear t22_3_1
   clear t22_3_2
   clear t22_4_0
   clear t22_4_1
   clear t22_5_0
   clear t22_5_1
   clear t22_5_2
   clear t22_b_0
   clear t22_b_1
   clear t22_b_2
   have aG_9_0_23:=RA.to aG_9_0_22 hs23
   clear aG_9_0_22
   have aG_9_1_23:=RA.to aG_9_1_22 hs23
   clear aG_9_1_22
   have aG_9_2_23:=RA.to aG_9_2_22 hs23
   clear aG_9_2_22
   have ho5_0_23:=Seen.to ho5_0_22 hs23
   clear ho5_0_22
   have ho5_1_23:=Seen.to ho5_1_22 hs23
   clear ho5_1_22
   have ho5_2_23:=Seen.to ho5_2_22 hs23
   clear ho5_2_22
   have ho22_0_23:=Own.to ho22_0 hs23
   clear ho22_0
   have ho22_1_23:=Own.to ho22_1 hs23
   clear ho22_1
   have ho22_2_23:=Own.to ho22_2 hs23
   clear ho22_2
   clear hc23
   go_wp2_with fail
   refine (heldProduct (R.1) A9_0 c9_0 A9_1 c9_1 A9_2 c9_2 1 _ (by omega) (RA.to aG_9_0_23 (Below.refl _ _)) (by omega) (RA.to aG_9_1_23 (Below.refl _ _)) (by omega) (RA.to aG_9_2_23 (Below.refl _ _)) (by omega) (by omega)).mono ?_
   rintro e w24 ⟨rfl,hb24⟩
   have hs24:Below w23.heap.size w23 w24:=hb24
   have HW24:Hid (Below w.heap.size w w24):=Zl (HW23.out.trans (hs24.mono HW23.out.size))
   obtain ⟨hc24,_⟩:=Zap hb24
   have hz24:=hb24.size
   repeat rw[World.size_alloc] at hz24
   have l24_0:w.heap.size<w24.heap.size:=by omega
   have t24_0_0:w24.cell? ⟨w.heap.size,0,none⟩=some (.slice A_c_signals (c.signals).length c_c_signals):=(hc24 _ _ (by omega)).trans t23_0_0
   have t24_0_1:w24.cell? ⟨w.heap.size,1,none⟩=some (.slice A_c_codes (c.codes).length c_c_codes):=(hc24 _ _ (by omega)).trans t23_0_1
   have t24_0_2:w24.cell? ⟨w.heap.size,2,none⟩=some (.slice A_c_arcs (c.arcs).length c_c_arcs):=(hc24 _ _ (by omega)).trans t23_0_2
   have l24_1:w.heap.size+1<w24.heap.size:=by omega
   have t24_1_0:w24.cell? ⟨w.heap.size+1,0,none⟩=some (.slice A_n_signals (n.signals).length c_n_signals):=(hc24 _ _ (by omega)).trans t23_1_0
   have t24_1_1:w24.cell? ⟨w.heap.size+1,1,none⟩=some (.slice A_n_wires (n.wires).length c_n_wires):=(hc24 _ _ (by omega)).trans t23_1_1
   have l24_2:bq5<w24.heap.size:=by omega
   have t24_2_0:w24.cell? ⟨bq5,0,none⟩=some (.slice A5_0 (R.1.states).length c5_0):=(hc24 _ _ (by omega)).trans t23_2_0
   have t24_2_1:w24.cell? ⟨bq5,1,none⟩=some (.slice A5_1 (R.1.flips).length c5_1):=(hc24 _ _ (by omega)).trans t23_2_1
   have t24_2_2:w24.cell? ⟨bq5,2,none⟩=some (.slice A5_2 (R.1.extra).length c5_2):=(hc24 _ _ (by omega)).trans t23_2_2
   have l24_3:w6.heap.size<w24.heap.size:=by omega
   have t24_3_0:w24.cell? ⟨w6.heap.size,0,none⟩=some (.slice A_c_signals6 (c.signals).length (c.signals).length):=(hc24 _ _ (by omega)).trans t23_3_0
   have t24_3_1:w24.cell? ⟨w6.heap.size,1,none⟩=some (.slice A_c_codes6 (c.codes).length (c.codes).length):=(hc24 _ _ (by omega)).trans t23_3_1
   have t24_3_2:w24.cell? ⟨w6.heap.size,2,none⟩=some (.slice A_c_arcs6 (c.arcs).length (c.arcs).length):=(hc24 _ _ (by omega)).trans t23_3_2
   have l24_4:w7.heap.size<w24.heap.size:=by omega
   have t24_4_0:w24.cell? ⟨w7.heap.size,0,none⟩=some (.slice A_n_signals7 (n.signals).length (n.signals).length):=(hc24 _ _ (by omega)).trans t23_4_0
   have t24_4_1:w24.cell? ⟨w7.heap.size,1,none⟩=some (.slice A_n_wires7 (n.wires).length (n.wires).length):=(hc24 _ _ (by omega)).trans t23_4_1
   have l24_5:w9.heap.size<w24.heap.size:=by omega
   have t24_5_0:w24.cell? ⟨w9.heap.size,0,none⟩=some (.slice A9_0 (R.1.states).length c9_0):=(hc24 _ _ (by omega)).trans t23_5_0
   have t24_5_1:w24.cell? ⟨w9.heap.size,1,none⟩=some (.slice A9_1 (R.1.flips).length c9_1):=(hc24 _ _ (by omega)).trans t23_5_1
   have t24_5_2:w24.cell? ⟨w9.heap.size,2,none⟩=some (.slice A9_2 (R.1.extra).length c9_2):=(hc24 _ _ (by omega)).trans t23_5_2
   have l24_6:bq22<w24.heap.size:=by omega
   have t24_6_0:w24.cell? ⟨bq22,0,none⟩=some (.slice A22_0 (R.1.states).length c22_0):=(hc24 _ _ (by omega)).trans t23_6_0
   have t24_6_1:w24.cell? ⟨bq22,1,none⟩=some (.slice A22_1 (R.1.flips).length c22_1):=(hc24 _ _ (by omega)).trans t23_6_1
   have t24_6_2:w24.cell? ⟨bq22,2,none⟩=some (.slice A22_2 (R.1.extra).length c22_2):=(hc24 _ _ (by omega)).trans t23_6_2
   clear t23_0_0
   clear t23_0_1
   clear t23_0_2
   clear t23_1_0
   clear t23_1_1
   clear t23_2_0
   clear t23_2_1
   clear t23_2_2
   clear t23_3_0
   clear t23_3_1
   clear t23_3_2
   clear t23_4_0
   clear t23_4_1
   clear t23_5_0
   clear t23_5_1
   clear t23_5_2
   clear t23_6_0
   clear t23_6_1
   clear t23_6_2
   have aG_9_0_24:=RA.to aG_9_0_23 hs24
   clear aG_9_0_23
   have aG_9_1_24:=RA.to aG_9_1_23 hs24
   clear aG_9_1_23
   have aG_9_2_24:=RA.to aG_9_2_23 hs24
   clear aG_9_2_23
   have ho5_0_24:=Seen.to ho5_0_23 hs24
   clear ho5_0_23
   have ho5_1_24:=Seen.to ho5_1_23 hs24
   clear ho5_1_23
   have ho5_2_24:=Seen.to ho5_2_23 hs24
   clear ho5_2_23
   have ho22_0_24:=Own.to ho22_0_23 hs24
   clear ho22_0_23
   have ho22_1_24:=Own.to ho22_1_23 hs24
   clear ho22_1_23
   have ho22_2_24:=Own.to ho22_2_23 hs24
   clear ho22_2_23
   clear hc24
   go_wp2_with fail
   go_ret
   exact ⟨rfl,HW24.out⟩
end Go.Proofs.YtkgnjijonikchaaGreat.Lw
