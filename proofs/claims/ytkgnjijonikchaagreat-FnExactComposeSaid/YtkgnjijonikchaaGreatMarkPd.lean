import Derived.Test.YtkgnjijonikchaaGreatRows
import Derived.Test.YtkgnjijonikchaaGreatMarkText
import Derived.Test.YtkgnjijonikchaaGreatLawPd
namespace Go.Proofs.YtkgnjijonikchaaGreat.Lw
open Go.RowKit
set_option linter.unusedVariables false
set_option maxHeartbeats 1000000 in
theorem markSignalS_arg (w0:World) (D:Nat→Prop) (hD:∀b,D b→b<w0.heap.size) (hnf:∀b o,D b→w0.frozen? ⟨b,o,none⟩=false) (A:Option Addr) (c:Nat) (l:List Sig) (hr:RSl Zah w0 D A l) (hl:l.length≤9223372036854775807) (k:Int) (w:World) (hm:Marked D w0 w) (h0:0≤k) (hk:k+64 * ((wtL wtSig l):Nat)≤4611686018427387904):
 Calls Tryz.prog 42 #[.slice A l.length c,.int .i64 k] w fun e w'=>∃k':Int,e=.returned (.int .i64 k')∧k≤k'∧k'≤k+64 * ((wtL wtSig l):Nat)∧Marked D w0 w'∧Touch D w w':=by
 go_enter Tryz.func42,Tryz.ntmps42
 go_wp2_with fail
 go_loopw [5,1] (fun i kv wr=>∃(j:Nat) (n:Int),j≤l.length∧i=.int .i64 j∧kv=.int .i64 n∧k≤n∧n+64 * ((wtL wtSig (l.drop j)):Nat)≤k+64 * ((wtL wtSig l):Nat)∧Hid (Marked D w0 wr)∧Hid (Touch D w wr)) (fun i _ _=>l.length - (intOf i).toNat)
 case atStart=>exact ⟨0,k,Nat.zero_le _,rfl,rfl,Int.le_refl _,by simp,hm,Touch.refl _ _⟩
 case round=>
  obtain ⟨j,n,hj,rfl,rfl,hn0,hn1,hmr,htr⟩:=hrel
  have hsr:=hmr.out.size
  by_cases hlt:j<l.length
  ·obtain ⟨x,hx⟩:=Zq hlt
   obtain ⟨b,off,rfl,hDb,d0,d1,f0,f1⟩:=hr.Sig_at hx
   have hcost:((wtL wtSig (l.drop j)):Nat)=1+wtSig x+((wtL wtSig (l.drop (j+1))):Nat):=by rw[Zc9 hx];rw[Zm9]
   rw[show wtSig x=(x.name).length from rfl] at hcost
   rw[hcost] at hn1
   clear hcost hx
   have lb:=hD b hDb
   have hk0:0≤n:=by omega
   have lbr:b<wr.heap.size:=by omega
   obtain ⟨v0_0,e0_0,_⟩:=hmr.out.cells _ _ _ hDb d0
   have z0_0:wr.frozen? ⟨b,off+j * 2,none⟩=false:=(hmr.out.froz _ _ hDb).trans (hnf _ _ hDb)
   obtain ⟨v1_0,e1_0,_⟩:=hmr.out.cells _ _ _ hDb d1
   have z1_0:wr.frozen? ⟨b,off+j * 2+1,none⟩=false:=(hmr.out.froz _ _ hDb).trans (hnf _ _ hDb)
   go_wp2_with fail
   refine (ZfQ (n) _ (by omega) (by omega)).mono ?_
   rintro e w1 ⟨rfl,hb1⟩
   obtain ⟨hc1,hf1⟩:=Zap hb1
   have hz1:=hb1.size
   repeat (first|rw[World.size_setCell] at hz1)
   have lb1:b<w1.heap.size:=by omega
   go_wp2_with fail
   go_roundw
   case rel=>exact ⟨j+1,n+1+1,by omega,by go_num,rfl,by omega,by omega,(((hmr.out.then_ (fun q hq=>by have:=hD q hq;(repeat rw[World.size_setCell]);omega) hb1).put hDb d0 (.str _ _)).put hDb d1 (.int _ _)),(((htr.out.then_ hb1).put hDb _).put hDb _)⟩
   case measure=>simp[intOf];omega
  ·go_wp2_with fail
   go_ret
   exact ⟨n,rfl,hn0,by omega,hmr.out,htr.out⟩
set_option maxHeartbeats 1000000 in
theorem markArcS_arg (w0:World) (D:Nat→Prop) (hD:∀b,D b→b<w0.heap.size) (hnf:∀b o,D b→w0.frozen? ⟨b,o,none⟩=false) (A:Option Addr) (c:Nat) (l:List Ac) (hr:RSl Zdg w0 D A l) (hl:l.length≤9223372036854775807) (k:Int) (w:World) (hm:Marked D w0 w) (h0:0≤k) (hk:k+64 * ((l).length:Nat)≤4611686018427387904):
 Calls Tryz.prog 44 #[.slice A l.length c,.int .i64 k] w fun e w'=>∃k':Int,e=.returned (.int .i64 k')∧k≤k'∧k'≤k+64 * ((l).length:Nat)∧Marked D w0 w'∧Touch D w w':=by
 go_enter Tryz.func44,Tryz.ntmps44
 go_wp2_with fail
 go_loopw [5,1] (fun i kv wr=>∃(j:Nat) (n:Int),j≤l.length∧i=.int .i64 j∧kv=.int .i64 n∧k≤n∧n+64 * (((l.drop j)).length:Nat)≤k+64 * ((l).length:Nat)∧Hid (Marked D w0 wr)∧Hid (Touch D w wr)) (fun i _ _=>l.length - (intOf i).toNat)
 case atStart=>exact ⟨0,k,Nat.zero_le _,rfl,rfl,Int.le_refl _,by simp,hm,Touch.refl _ _⟩
 case round=>
  obtain ⟨j,n,hj,rfl,rfl,hn0,hn1,hmr,htr⟩:=hrel
  have hsr:=hmr.out.size
  by_cases hlt:j<l.length
  ·obtain ⟨x,hx⟩:=Zq hlt
   obtain ⟨b,off,rfl,hDb,d0,d1,d2,d3,f0,f1,f2⟩:=hr.Ac_at hx
   have hcost:(((l.drop j)).length:Nat)=1+(((l.drop (j+1))).length:Nat):=by rw[Zc9 hx];rw[List.length_cons];omega
   rw[hcost] at hn1
   clear hcost hx
   have lb:=hD b hDb
   have hk0:0≤n:=by omega
   have lbr:b<wr.heap.size:=by omega
   obtain ⟨v0_0,e0_0,_⟩:=hmr.out.cells _ _ _ hDb d0
   have z0_0:wr.frozen? ⟨b,off+j * 4,none⟩=false:=(hmr.out.froz _ _ hDb).trans (hnf _ _ hDb)
   obtain ⟨v1_0,e1_0,_⟩:=hmr.out.cells _ _ _ hDb d1
   have z1_0:wr.frozen? ⟨b,off+j * 4+1,none⟩=false:=(hmr.out.froz _ _ hDb).trans (hnf _ _ hDb)
   obtain ⟨v2_0,e2_0,_⟩:=hmr.out.cells _ _ _ hDb d2
   have z2_0:wr.frozen? ⟨b,off+j * 4+2,none⟩=false:=(hmr.out.froz _ _ hDb).trans (hnf _ _ hDb)
   obtain ⟨v3_0,e3_0,_⟩:=hmr.out.cells _ _ _ hDb d3
   have z3_0:wr.frozen? ⟨b,off+j * 4+3,none⟩=false:=(hmr.out.froz _ _ hDb).trans (hnf _ _ hDb)
   go_wp2_with fail
   go_roundw
   case rel=>exact ⟨j+1,n+1+1+1+1,by omega,by go_num,rfl,by omega,by omega,((((hmr.out.put hDb d0 (.int _ _)).put hDb d1 (.int _ _)).put hDb d2 (.bool _ _)).put hDb d3 (.int _ _)),((((htr.out.put hDb _).put hDb _).put hDb _).put hDb _)⟩
   case measure=>simp[intOf];omega
  ·go_wp2_with fail
   go_ret
   exact ⟨n,rfl,hn0,by omega,hmr.out,htr.out⟩
set_option maxHeartbeats 1000000 in
theorem markStringS_arg (w0:World) (D:Nat→Prop) (hD:∀b,D b→b<w0.heap.size) (hnf:∀b o,D b→w0.frozen? ⟨b,o,none⟩=false) (A:Option Addr) (c:Nat) (l:List (List UInt8)) (hr:RSl Zag w0 D A l) (hl:l.length≤9223372036854775807) (k:Int) (w:World) (hm:Marked D w0 w) (h0:0≤k) (hk:k+64 * ((wtL ZbU l):Nat)≤4611686018427387904):
 Calls Tryz.prog 43 #[.slice A l.length c,.int .i64 k] w fun e w'=>∃k':Int,e=.returned (.int .i64 k')∧k≤k'∧k'≤k+64 * ((wtL ZbU l):Nat)∧Marked D w0 w'∧Touch D w w':=by
 go_enter Tryz.func43,Tryz.ntmps43
 go_wp2_with fail
 go_loopw [5,1] (fun i kv wr=>∃(j:Nat) (n:Int),j≤l.length∧i=.int .i64 j∧kv=.int .i64 n∧k≤n∧n+64 * ((wtL ZbU (l.drop j)):Nat)≤k+64 * ((wtL ZbU l):Nat)∧Hid (Marked D w0 wr)∧Hid (Touch D w wr)) (fun i _ _=>l.length - (intOf i).toNat)
 case atStart=>exact ⟨0,k,Nat.zero_le _,rfl,rfl,Int.le_refl _,by simp,hm,Touch.refl _ _⟩
 case round=>
  obtain ⟨j,n,hj,rfl,rfl,hn0,hn1,hmr,htr⟩:=hrel
  have hsr:=hmr.out.size
  by_cases hlt:j<l.length
  ·obtain ⟨x,hx⟩:=Zq hlt
   obtain ⟨b,off,rfl,hDb,d0,f0⟩:=hr.str_at hx
   have hcost:((wtL ZbU (l.drop j)):Nat)=1+ZbU x+((wtL ZbU (l.drop (j+1))):Nat):=by rw[Zc9 hx];rw[Zm9]
   rw[show ZbU x=x.length from rfl] at hcost
   rw[hcost] at hn1
   clear hcost hx
   have lb:=hD b hDb
   have hk0:0≤n:=by omega
   have lbr:b<wr.heap.size:=by omega
   obtain ⟨v0_0,e0_0,_⟩:=hmr.out.cells _ _ _ hDb d0
   have z0_0:wr.frozen? ⟨b,off+j,none⟩=false:=(hmr.out.froz _ _ hDb).trans (hnf _ _ hDb)
   go_wp2_with fail
   refine (ZfQ (n) _ (by omega) (by omega)).mono ?_
   rintro e w1 ⟨rfl,hb1⟩
   obtain ⟨hc1,hf1⟩:=Zap hb1
   have hz1:=hb1.size
   repeat (first|rw[World.size_setCell] at hz1)
   have lb1:b<w1.heap.size:=by omega
   go_wp2_with fail
   go_roundw
   case rel=>exact ⟨j+1,n+1,by omega,by go_num,rfl,by omega,by omega,((hmr.out.then_ (fun q hq=>by have:=hD q hq;(repeat rw[World.size_setCell]);omega) hb1).put hDb d0 (.str _ _)),((htr.out.then_ hb1).put hDb _)⟩
   case measure=>simp[intOf];omega
  ·go_wp2_with fail
   go_ret
   exact ⟨n,rfl,hn0,by omega,hmr.out,htr.out⟩
set_option maxHeartbeats 1000000 in
theorem markStateGraph_arg (w0:World) (D:Nat→Prop) (hD:∀b,D b→b<w0.heap.size) (hnf:∀b o,D b→w0.frozen? ⟨b,o,none⟩=false) (x:SGr) (A_signals:Option Addr) (c_signals:Nat) (A_codes:Option Addr) (c_codes:Nat) (A_arcs:Option Addr) (c_arcs:Nat) (g0:(x.signals).length≤c_signals) (g1:c_signals≤9223372036854775807) (g2:RSl Zah w0 D A_signals x.signals) (g3:(x.codes).length≤c_codes) (g4:c_codes≤9223372036854775807) (g5:RSl Zag w0 D A_codes x.codes) (g6:(x.arcs).length≤c_arcs) (g7:c_arcs≤9223372036854775807) (g8:RSl Zdg w0 D A_arcs x.arcs) (k:Int) (w:World) (hm:Marked D w0 w) (h0:0≤k) (hk:k+64 * (wtSGr x:Nat)≤4611686018427387904):
 Calls Tryz.prog 14 #[.agg #[.slice A_signals (x.signals).length c_signals,.slice A_codes (x.codes).length c_codes,.slice A_arcs (x.arcs).length c_arcs],.int .i64 k] w fun e w'=>∃k':Int,e=.returned (.int .i64 k')∧k≤k'∧k'≤k+64 * (wtSGr x:Nat)∧Marked D w0 w'∧Touch D w w':=by
 have hwt:wtSGr x=wtSGr x:=rfl
 conv at hwt=>rhs;unfold wtSGr
 rw[hwt] at hk⊢
 clear hwt
 have hs0:=hm.size
 have hbx:∀b,b=w.heap.size→¬D b:=fun b hb hd=>by have:=hD b hd;omega
 go_enter Tryz.func14,Tryz.ntmps14
 go_wp2_with fail
 have hM0:=hm.then_ (fun q hq=>by have:=hD q hq;omega) ((Below.refl w.heap.size w).alloc (Nat.le_refl _) (.cells #[.slice A_signals (x.signals).length c_signals,.slice A_codes (x.codes).length c_codes,.slice A_arcs (x.arcs).length c_arcs] 38))
 have hT0:Touch D w (w.alloc (.cells #[.slice A_signals (x.signals).length c_signals,.slice A_codes (x.codes).length c_codes,.slice A_arcs (x.arcs).length c_arcs] 38)):=(Touch.refl D w).then_ ((Below.refl w.heap.size w).alloc (Nat.le_refl _) _)
 refine (markSignalS_arg w0 D hD hnf _ _ _ g2 (by omega) k _ hM0 (by omega) (by omega)).mono ?_
 rintro e w1 ⟨n1,rfl,hp1,hq1,hM1,hT1⟩
 have hTT1:Touch D w w1:=Touch.chain hT0 hT1 hD hm.size
 have hs1:=hT1.size
 rw[World.size_alloc] at hs1
 have e1_1:w1.cell? ⟨w.heap.size,1,none⟩=some (.slice A_codes (x.codes).length c_codes):=by rw[hT1.cell (by first|omega|(rw[World.size_alloc];omega)) (hbx _ rfl)];simp[go_sem]
 have e2_1:w1.cell? ⟨w.heap.size,2,none⟩=some (.slice A_arcs (x.arcs).length c_arcs):=by rw[hT1.cell (by first|omega|(rw[World.size_alloc];omega)) (hbx _ rfl)];simp[go_sem]
 go_wp2_with fail
 refine (markStringS_arg w0 D hD hnf _ _ _ g5 (by omega) n1 _ hM1 (by omega) (by omega)).mono ?_
 rintro e w2 ⟨n2,rfl,hp2,hq2,hM2,hT2⟩
 have hTT2:Touch D w w2:=Touch.chain hTT1 hT2 hD hm.size
 have hs2:=hT2.size
 have e2_2:w2.cell? ⟨w.heap.size,2,none⟩=some (.slice A_arcs (x.arcs).length c_arcs):=by rw[hT2.cell (by first|omega|(rw[World.size_alloc];omega)) (hbx _ rfl)];exact e2_1
 go_wp2_with fail
 refine (markArcS_arg w0 D hD hnf _ _ _ g8 (by omega) n2 _ hM2 (by omega) (by omega)).mono ?_
 rintro e w3 ⟨n3,rfl,hp3,hq3,hM3,hT3⟩
 have hTT3:Touch D w w3:=Touch.chain hTT2 hT3 hD hm.size
 have hs3:=hT3.size
 go_wp2_with fail
 go_ret
 exact ⟨n3,rfl,by omega,by omega,hM3,hTT3⟩
set_option maxHeartbeats 1000000 in
theorem markPinS_arg (w0:World) (D:Nat→Prop) (hD:∀b,D b→b<w0.heap.size) (hnf:∀b o,D b→w0.frozen? ⟨b,o,none⟩=false) (A:Option Addr) (c:Nat) (l:List Pin) (hr:RSl Zcb w0 D A l) (hl:l.length≤9223372036854775807) (k:Int) (w:World) (hm:Marked D w0 w) (h0:0≤k) (hk:k+64 * ((l).length:Nat)≤4611686018427387904):
 Calls Tryz.prog 69 #[.slice A l.length c,.int .i64 k] w fun e w'=>∃k':Int,e=.returned (.int .i64 k')∧k≤k'∧k'≤k+64 * ((l).length:Nat)∧Marked D w0 w'∧Touch D w w':=by
 go_enter Tryz.func69,Tryz.ntmps69
 go_wp2_with fail
 go_loopw [5,1] (fun i kv wr=>∃(j:Nat) (n:Int),j≤l.length∧i=.int .i64 j∧kv=.int .i64 n∧k≤n∧n+64 * (((l.drop j)).length:Nat)≤k+64 * ((l).length:Nat)∧Hid (Marked D w0 wr)∧Hid (Touch D w wr)) (fun i _ _=>l.length - (intOf i).toNat)
 case atStart=>exact ⟨0,k,Nat.zero_le _,rfl,rfl,Int.le_refl _,by simp,hm,Touch.refl _ _⟩
 case round=>
  obtain ⟨j,n,hj,rfl,rfl,hn0,hn1,hmr,htr⟩:=hrel
  have hsr:=hmr.out.size
  by_cases hlt:j<l.length
  ·obtain ⟨x,hx⟩:=Zq hlt
   obtain ⟨b,off,rfl,hDb,d0,d1,f0⟩:=hr.Pin_at hx
   have hcost:(((l.drop j)).length:Nat)=1+(((l.drop (j+1))).length:Nat):=by rw[Zc9 hx];rw[List.length_cons];omega
   rw[hcost] at hn1
   clear hcost hx
   have lb:=hD b hDb
   have hk0:0≤n:=by omega
   have lbr:b<wr.heap.size:=by omega
   obtain ⟨v0_0,e0_0,_⟩:=hmr.out.cells _ _ _ hDb d0
   have z0_0:wr.frozen? ⟨b,off+j * 2,none⟩=false:=(hmr.out.froz _ _ hDb).trans (hnf _ _ hDb)
   obtain ⟨v1_0,e1_0,_⟩:=hmr.out.cells _ _ _ hDb d1
   have z1_0:wr.frozen? ⟨b,off+j * 2+1,none⟩=false:=(hmr.out.froz _ _ hDb).trans (hnf _ _ hDb)
   go_wp2_with fail
   go_roundw
   case rel=>exact ⟨j+1,n+1+1,by omega,by go_num,rfl,by omega,by omega,((hmr.out.put hDb d0 (.int _ _)).put hDb d1 (.bool _ _)),((htr.out.put hDb _).put hDb _)⟩
   case measure=>simp[intOf];omega
  ·go_wp2_with fail
   go_ret
   exact ⟨n,rfl,hn0,by omega,hmr.out,htr.out⟩
set_option maxHeartbeats 1000000 in
theorem markWireS_arg (w0:World) (D:Nat→Prop) (hD:∀b,D b→b<w0.heap.size) (hnf:∀b o,D b→w0.frozen? ⟨b,o,none⟩=false) (A:Option Addr) (c:Nat) (l:List Wire) (hr:RSl Zam w0 D A l) (hl:l.length≤9223372036854775807) (k:Int) (w:World) (hm:Marked D w0 w) (h0:0≤k) (hk:k+64 * ((wtL wtWire l):Nat)≤4611686018427387904):
 Calls Tryz.prog 45 #[.slice A l.length c,.int .i64 k] w fun e w'=>∃k':Int,e=.returned (.int .i64 k')∧k≤k'∧k'≤k+64 * ((wtL wtWire l):Nat)∧Marked D w0 w'∧Touch D w w':=by
 go_enter Tryz.func45,Tryz.ntmps45
 go_wp2_with fail
 go_loopw [5,1] (fun i kv wr=>∃(j:Nat) (n:Int),j≤l.length∧i=.int .i64 j∧kv=.int .i64 n∧k≤n∧n+64 * ((wtL wtWire (l.drop j)):Nat)≤k+64 * ((wtL wtWire l):Nat)∧Hid (Marked D w0 wr)∧Hid (Touch D w wr)) (fun i _ _=>l.length - (intOf i).toNat)
 case atStart=>exact ⟨0,k,Nat.zero_le _,rfl,rfl,Int.le_refl _,by simp,hm,Touch.refl _ _⟩
 case round=>
  obtain ⟨j,n,hj,rfl,rfl,hn0,hn1,hmr,htr⟩:=hrel
  have hsr:=hmr.out.size
  by_cases hlt:j<l.length
  ·obtain ⟨x,hx⟩:=Zq hlt
   obtain ⟨b,off,A_ins,c_ins,A_cover,c_cover,rfl,hDb,d0,d1,d2,d3,f0,f1,f2,f3,f4,f5,f6,f7⟩:=hr.Wire_at hx
   have hcost:((wtL wtWire (l.drop j)):Nat)=1+wtWire x+((wtL wtWire (l.drop (j+1))):Nat):=by rw[Zc9 hx];rw[Zm9]
   rw[show wtWire x=(x.name).length+(x.ins).length+(wtL ZbU x.cover) from rfl] at hcost
   rw[hcost] at hn1
   clear hcost hx
   have lb:=hD b hDb
   have hk0:0≤n:=by omega
   have lbr:b<wr.heap.size:=by omega
   obtain ⟨v0_0,e0_0,_⟩:=hmr.out.cells _ _ _ hDb d0
   have z0_0:wr.frozen? ⟨b,off+j * 4,none⟩=false:=(hmr.out.froz _ _ hDb).trans (hnf _ _ hDb)
   obtain ⟨v1_0,e1_0,_⟩:=hmr.out.cells _ _ _ hDb d1
   have z1_0:wr.frozen? ⟨b,off+j * 4+1,none⟩=false:=(hmr.out.froz _ _ hDb).trans (hnf _ _ hDb)
   have e2_0:wr.cell? ⟨b,off+j * 4+2,none⟩=some (.slice A_ins (x.ins).length c_ins):=by obtain ⟨v1,h1,h2⟩:=hmr.out.cells _ _ _ hDb d2;rw[h1,h2.slice]
   have e3_0:wr.cell? ⟨b,off+j * 4+3,none⟩=some (.slice A_cover (x.cover).length c_cover):=by obtain ⟨v1,h1,h2⟩:=hmr.out.cells _ _ _ hDb d3;rw[h1,h2.slice]
   go_wp2_with fail
   refine (ZfQ (n) _ (by omega) (by omega)).mono ?_
   rintro e w1 ⟨rfl,hb1⟩
   obtain ⟨hc1,hf1⟩:=Zap hb1
   have hz1:=hb1.size
   repeat (first|rw[World.size_setCell] at hz1)
   have lb1:b<w1.heap.size:=by omega
   go_wp2_with fail
   have hMc2:=(((hmr.out.then_ (fun q hq=>by have:=hD q hq;(repeat rw[World.size_setCell]);omega) hb1).put hDb d0 (.str _ ⟨(ZgX (n).toNat).toArray⟩)).put hDb d1 (.int _ (n+1)))
   have hTc2:=(Touch.put (p:=⟨b,off+j * 4+1,none⟩) (Touch.put (p:=⟨b,off+j * 4,none⟩) (htr.out.then_ hb1) hDb (.string ⟨(ZgX (n).toNat).toArray⟩)) hDb (.int .i64 (n+1)))
   refine (markPinS_arg w0 D hD hnf _ _ _ f4 (by omega) (n+1+1) _ hMc2 (by omega) (by omega)).mono ?_
   rintro e w2 ⟨n2,rfl,hp2,hq2,hM2,hT2⟩
   have hTT2:Touch D w w2:=Touch.chain hTc2 hT2 hD hm.size
   have hs2:=hM2.size
   have e3_2:w2.cell? ⟨b,off+j * 4+3,none⟩=some (.slice A_cover (x.cover).length c_cover):=by obtain ⟨v1,h1,h2⟩:=hM2.cells _ _ _ hDb d3;rw[h1,h2.slice]
   go_wp2_with fail
   have hMc3:=hM2
   have hTc3:=hTT2
   refine (markStringS_arg w0 D hD hnf _ _ _ f7 (by omega) (n2) _ hMc3 (by omega) (by omega)).mono ?_
   rintro e w3 ⟨n3,rfl,hp3,hq3,hM3,hT3⟩
   have hTT3:Touch D w w3:=Touch.chain hTc3 hT3 hD hm.size
   have hs3:=hM3.size
   go_wp2_with fail
   go_roundw
   case rel=>exact ⟨j+1,n3,by omega,by go_num,rfl,by omega,by omega,hM3,hTT3⟩
   case measure=>simp[intOf];omega
  ·go_wp2_with fail
   go_ret
   exact ⟨n,rfl,hn0,by omega,hmr.out,htr.out⟩
set_option maxHeartbeats 1000000 in
theorem markNetlist_arg (w0:World) (D:Nat→Prop) (hD:∀b,D b→b<w0.heap.size) (hnf:∀b o,D b→w0.frozen? ⟨b,o,none⟩=false) (x:Nl) (A_signals:Option Addr) (c_signals:Nat) (A_wires:Option Addr) (c_wires:Nat) (g0:(x.signals).length≤c_signals) (g1:c_signals≤9223372036854775807) (g2:RSl Zah w0 D A_signals x.signals) (g3:(x.wires).length≤c_wires) (g4:c_wires≤9223372036854775807) (g5:RSl Zam w0 D A_wires x.wires) (k:Int) (w:World) (hm:Marked D w0 w) (h0:0≤k) (hk:k+64 * (wtNl x:Nat)≤4611686018427387904):
 Calls Tryz.prog 15 #[.agg #[.slice A_signals (x.signals).length c_signals,.slice A_wires (x.wires).length c_wires],.int .i64 k] w fun e w'=>∃k':Int,e=.returned (.int .i64 k')∧k≤k'∧k'≤k+64 * (wtNl x:Nat)∧Marked D w0 w'∧Touch D w w':=by
 have hwt:wtNl x=wtNl x:=rfl
 conv at hwt=>rhs;unfold wtNl
 rw[hwt] at hk⊢
 clear hwt
 have hs0:=hm.size
 have hbx:∀b,b=w.heap.size→¬D b:=fun b hb hd=>by have:=hD b hd;omega
 go_enter Tryz.func15,Tryz.ntmps15
 go_wp2_with fail
 have hM0:=hm.then_ (fun q hq=>by have:=hD q hq;omega) ((Below.refl w.heap.size w).alloc (Nat.le_refl _) (.cells #[.slice A_signals (x.signals).length c_signals,.slice A_wires (x.wires).length c_wires] 42))
 have hT0:Touch D w (w.alloc (.cells #[.slice A_signals (x.signals).length c_signals,.slice A_wires (x.wires).length c_wires] 42)):=(Touch.refl D w).then_ ((Below.refl w.heap.size w).alloc (Nat.le_refl _) _)
 refine (markSignalS_arg w0 D hD hnf _ _ _ g2 (by omega) k _ hM0 (by omega) (by omega)).mono ?_
 rintro e w1 ⟨n1,rfl,hp1,hq1,hM1,hT1⟩
 have hTT1:Touch D w w1:=Touch.chain hT0 hT1 hD hm.size
 have hs1:=hT1.size
 rw[World.size_alloc] at hs1
 have e1_1:w1.cell? ⟨w.heap.size,1,none⟩=some (.slice A_wires (x.wires).length c_wires):=by rw[hT1.cell (by first|omega|(rw[World.size_alloc];omega)) (hbx _ rfl)];simp[go_sem]
 go_wp2_with fail
 refine (markWireS_arg w0 D hD hnf _ _ _ g5 (by omega) n1 _ hM1 (by omega) (by omega)).mono ?_
 rintro e w2 ⟨n2,rfl,hp2,hq2,hM2,hT2⟩
 have hTT2:Touch D w w2:=Touch.chain hTT1 hT2 hD hm.size
 have hs2:=hT2.size
 go_wp2_with fail
 go_ret
 exact ⟨n2,rfl,by omega,by omega,hM2,hTT2⟩
def mkPSt (n:Int) (_:PSt):PSt:=⟨n,ZgX (n+1).toNat⟩
set_option maxHeartbeats 1000000 in
theorem markProductStateS_own (base:Nat) (t:TypeId) (A:Option Addr) (c:Nat) (l:List PSt) (k:Int) (w:World) (ho:Own ZbF w base t A c l) (h0:0≤k) (hk:k+2 * l.length≤4611686018427387904):
 Calls Tryz.prog 53 #[.slice A l.length c,.int .i64 k] w fun e w'=>e=.returned (.int .i64 (k+2 * l.length))∧RSl ZbF w' (fun b=>blk A=some b) A (ZaO mkPSt 2 k l)∧Touch (fun b=>blk A=some b) w w':=by
 have hcap:=ho.cap
 have hlt0:=ho.lt
 have HM:Hid (ZeB ZbF w A t c 0 (ZaO mkPSt 2 k l)):=ho.mrow (Zf9 _ _ _ _)
 obtain ⟨ml,hml⟩:∃ml,(ZaO mkPSt 2 k l)=ml:=⟨_,rfl⟩
 have hmlen:ml.length=l.length:=by rw[←hml];exact Zf9 _ _ _ _
 rw[hml] at HM⊢
 have HML:=Zl hml;clear hml
 go_enter Tryz.func53,Tryz.ntmps53
 go_wp2_with fail
 go_loopw [5,1] (fun i kv wr=>∃(j:Nat) (n:Int),j≤l.length∧i=.int .i64 j∧kv=.int .i64 n∧Hid (n=k+2 * j)∧Hid (ZeB ZbF wr A t c j ml)∧Hid (Touch (fun b=>blk A=some b) w wr)) (fun i _ _=>l.length - (intOf i).toNat)
 case atStart=>exact ⟨0,k,Nat.zero_le _,rfl,rfl,by show _=_;omega,HM,Touch.refl _ _⟩
 case round=>
  obtain ⟨j,n,hj,rfl,rfl,hn,hmr,htr⟩:=hrel
  have hnv:=hn.out
  have hsr:=htr.out.size
  by_cases hlt:j<l.length
  ·obtain ⟨x,hx⟩:=Zq hlt
   have hmx:ml[j]?=some (mkPSt n x):=by rw[←HML.out,Zga hx,hnv];rfl
   obtain ⟨g,rfl,hroom⟩:=hmr.out.room hmx
   have lg:g<wr.heap.size:=by have:=(hlt0 g rfl).2;omega
   obtain ⟨⟨v0,r0⟩,z0⟩:=hroom 0 (by decide)
   obtain ⟨⟨v1,r1⟩,z1⟩:=hroom 1 (by decide)
   simp only[ZeC,Nat.add_zero] at r0 z0 r1 z1
   have HX:=Zl hmx;clear hmx hx hroom
   have hk0:0≤n∧n+2≤4611686018427387904:=by omega
   clear hnv
   go_wp2_with fail
   refine (ZfQ (n+1) _ (by omega) (by omega)).mono ?_
   rintro e w1 ⟨rfl,hb1⟩
   obtain ⟨hc1,hf1⟩:=Zap hb1
   have hz1:=hb1.size
   repeat (first|rw[World.size_setCell] at hz1)
   go_wp2_with fail
   go_roundw
   have hX0:=World.cell?_setCell_same wr ⟨g,j * 2,none⟩ (.int .i64 (n)) r0
   have hX1:=(hc1 g (j * 2) (by rw[World.size_setCell];exact lg)).trans hX0
   case rel=>exact ⟨j+1,n+1+1,by omega,by go_num,by go_num,by have:=hn.out;show _=_;omega,Zl (((hmr.out.over (o:=j * 2) (v:=.int .i64 (n)) (by rw[ZeC];omega)).to hb1).step [.int .i64 (n),.string ⟨(ZgX (n+1).toNat).toArray⟩] HX.out (Zv4 (x:=mkPSt n x) (by constructor<;>simp only[mkPSt]<;>omega) (ZuA _)) (by simp[Zaw,Zse hX1,ZeC])),Zl (Touch.put ((Touch.put htr.out (p:=⟨g,j * 2,none⟩) rfl _).then_ hb1) (p:=⟨g,j * 2+1,none⟩) rfl _)⟩
   case measure=>simp[intOf];omega
  ·have hjl:j=l.length:=by omega
   have HJ:=Zl hjl;clear hjl hnv
   go_wp2_with fail
   go_ret
   refine ⟨Z2 (by rw[hn.out,HJ.out]), ?_,htr.out⟩
   have h:=hmr.out
   rw[HJ.out,←hmlen] at h
   exact h.done
set_option maxHeartbeats 1000000 in
theorem heldProductStateS (A:Option Addr) (c:Nat) (l:List PSt) (k:Int) (w:World) (hl:l.length≤9223372036854775807) (hr:RA ZbF w A (ZaO mkPSt 2 k l)) (h0:0≤k) (hk:k+2 * l.length≤4611686018427387904):
 Calls Tryz.prog 55 #[.slice A l.length c,.int .i64 k] w fun e w'=>e=.returned (.int .i64 (k+2 * l.length))∧Below w.heap.size w w':=by
 go_enter Tryz.func55,Tryz.ntmps55
 go_wp2_with fail
 go_loopw [5,1] (fun i kv wr=>∃(j:Nat) (n:Int),j≤l.length∧i=.int .i64 j∧kv=.int .i64 n∧Hid (n=k+2 * j)∧Below w.heap.size w wr) (fun i _ _=>l.length - (intOf i).toNat)
 case atStart=>exact ⟨0,k,Nat.zero_le _,rfl,rfl,by show _=_;omega,Below.refl _ _⟩
 case round=>
  obtain ⟨j,n,hj,rfl,rfl,hn,hb⟩:=hrel
  have hnv:=hn.out
  have hsz:=hb.size
  by_cases hlt:j<l.length
  ·obtain ⟨x,hx⟩:=Zq hlt
   have hmx:(ZaO mkPSt 2 k l)[j]?=some (mkPSt n x):=by rw[Zga hx,hnv];rfl
   obtain ⟨b,off,rfl,hbl,d0,d1,f0,f1⟩:=hr.PSt_at hb hmx
   simp only[mkPSt] at d0 d1
   clear hmx hx
   have hk0:0≤n∧n+2≤4611686018427387904:=by omega
   clear hnv
   go_wp2_with fail
   try go_quiet (fail)
   go_wp2_with fail
   go_region_held3 (fun W=>W.cell? ⟨b,off+j * 2+1,none⟩=some (.string ⟨(ZgX (n+1).toNat).toArray⟩)) (first|exact d1|exact (cell_later hb1 d1)) (first|(go_at_call 46;refine (ZfQ (n+1) _ (by omega) (by omega)).mono ?_;rintro e w1 ⟨rfl,hb1⟩))
   have hb2:=hb.drew.trans (hb1.mono hsz)
   go_wp2_with fail
   go_roundw
   case rel=>exact ⟨j+1,n+1+1,by omega,by go_num,by go_num,by have:=hn.out;show _=_;omega,gG⟩
   case measure=>simp[intOf];omega
  ·have hjl:j=l.length:=by omega
   have HJ:=Zl hjl;clear hjl hnv
   go_wp2_with fail
   go_ret
   exact ⟨Z2 (by rw[hn.out,HJ.out]),hb⟩
def mkFlip (n:Int) (_:Flip):Flip:=⟨n,n+1,n+1+1⟩
set_option maxHeartbeats 1000000 in
theorem markWireFlipS_own (base:Nat) (t:TypeId) (A:Option Addr) (c:Nat) (l:List Flip) (k:Int) (w:World) (ho:Own ZZ w base t A c l) (h0:0≤k) (hk:k+3 * l.length≤4611686018427387904):
 Calls Tryz.prog 54 #[.slice A l.length c,.int .i64 k] w fun e w'=>e=.returned (.int .i64 (k+3 * l.length))∧RSl ZZ w' (fun b=>blk A=some b) A (ZaO mkFlip 3 k l)∧Touch (fun b=>blk A=some b) w w':=by
 have hcap:=ho.cap
 have hlt0:=ho.lt
 have HM:Hid (ZeB ZZ w A t c 0 (ZaO mkFlip 3 k l)):=ho.mrow (Zf9 _ _ _ _)
 obtain ⟨ml,hml⟩:∃ml,(ZaO mkFlip 3 k l)=ml:=⟨_,rfl⟩
 have hmlen:ml.length=l.length:=by rw[←hml];exact Zf9 _ _ _ _
 rw[hml] at HM⊢
 have HML:=Zl hml;clear hml
 go_enter Tryz.func54,Tryz.ntmps54
 go_wp2_with fail
 go_loopw [5,1] (fun i kv wr=>∃(j:Nat) (n:Int),j≤l.length∧i=.int .i64 j∧kv=.int .i64 n∧Hid (n=k+3 * j)∧Hid (ZeB ZZ wr A t c j ml)∧Hid (Touch (fun b=>blk A=some b) w wr)) (fun i _ _=>l.length - (intOf i).toNat)
 case atStart=>exact ⟨0,k,Nat.zero_le _,rfl,rfl,by show _=_;omega,HM,Touch.refl _ _⟩
 case round=>
  obtain ⟨j,n,hj,rfl,rfl,hn,hmr,htr⟩:=hrel
  have hnv:=hn.out
  have hsr:=htr.out.size
  by_cases hlt:j<l.length
  ·obtain ⟨x,hx⟩:=Zq hlt
   have hmx:ml[j]?=some (mkFlip n x):=by rw[←HML.out,Zga hx,hnv];rfl
   obtain ⟨g,rfl,hroom⟩:=hmr.out.room hmx
   have lg:g<wr.heap.size:=by have:=(hlt0 g rfl).2;omega
   obtain ⟨⟨v0,r0⟩,z0⟩:=hroom 0 (by decide)
   obtain ⟨⟨v1,r1⟩,z1⟩:=hroom 1 (by decide)
   obtain ⟨⟨v2,r2⟩,z2⟩:=hroom 2 (by decide)
   simp only[ZdY,Nat.add_zero] at r0 z0 r1 z1 r2 z2
   have HX:=Zl hmx;clear hmx hx hroom
   have hk0:0≤n∧n+3≤4611686018427387904:=by omega
   clear hnv
   go_wp2_with fail
   go_roundw
   case rel=>exact ⟨j+1,n+1+1+1,by omega,by go_num,by go_num,by have:=hn.out;show _=_;omega,Zl (hmr.out.step [.int .i64 (n),.int .i64 (n+1),.int .i64 (n+1+1)] HX.out (ZuC (x:=mkFlip n x) (by constructor<;>simp only[mkFlip]<;>omega) (by constructor<;>simp only[mkFlip]<;>omega) (by constructor<;>simp only[mkFlip]<;>omega)) (by simp[Zaw,ZdY])),Zl (Touch.put (Touch.put (Touch.put htr.out (p:=⟨g,j * 3,none⟩) rfl _) (p:=⟨g,j * 3+1,none⟩) rfl _) (p:=⟨g,j * 3+2,none⟩) rfl _)⟩
   case measure=>simp[intOf];omega
  ·have hjl:j=l.length:=by omega
   have HJ:=Zl hjl;clear hjl hnv
   go_wp2_with fail
   go_ret
   refine ⟨Z2 (by rw[hn.out,HJ.out]), ?_,htr.out⟩
   have h:=hmr.out
   rw[HJ.out,←hmlen] at h
   exact h.done
set_option maxHeartbeats 1000000 in
theorem heldWireFlipS (A:Option Addr) (c:Nat) (l:List Flip) (k:Int) (w:World) (hl:l.length≤9223372036854775807) (hr:RA ZZ w A (ZaO mkFlip 3 k l)) (h0:0≤k) (hk:k+3 * l.length≤4611686018427387904):
 Calls Tryz.prog 56 #[.slice A l.length c,.int .i64 k] w fun e w'=>e=.returned (.int .i64 (k+3 * l.length))∧Below w.heap.size w w':=by
 go_enter Tryz.func56,Tryz.ntmps56
 go_wp2_with fail
 go_loopw [5,1] (fun i kv wr=>∃(j:Nat) (n:Int),j≤l.length∧i=.int .i64 j∧kv=.int .i64 n∧Hid (n=k+3 * j)∧Below w.heap.size w wr) (fun i _ _=>l.length - (intOf i).toNat)
 case atStart=>exact ⟨0,k,Nat.zero_le _,rfl,rfl,by show _=_;omega,Below.refl _ _⟩
 case round=>
  obtain ⟨j,n,hj,rfl,rfl,hn,hb⟩:=hrel
  have hnv:=hn.out
  have hsz:=hb.size
  by_cases hlt:j<l.length
  ·obtain ⟨x,hx⟩:=Zq hlt
   have hmx:(ZaO mkFlip 3 k l)[j]?=some (mkFlip n x):=by rw[Zga hx,hnv];rfl
   obtain ⟨b,off,rfl,hbl,d0,d1,d2,f0,f1,f2⟩:=hr.Flip_at hb hmx
   simp only[mkFlip] at d0 d1 d2
   clear hmx hx
   have hk0:0≤n∧n+3≤4611686018427387904:=by omega
   clear hnv
   go_wp2_with fail
   try go_quiet (fail)
   go_wp2_with fail
   try go_quiet (fail)
   go_wp2_with fail
   try go_quiet (fail)
   go_wp2_with fail
   go_roundw
   case rel=>exact ⟨j+1,n+1+1+1,by omega,by go_num,by go_num,by have:=hn.out;show _=_;omega,gG⟩
   case measure=>simp[intOf];omega
  ·have hjl:j=l.length:=by omega
   have HJ:=Zl hjl;clear hjl hnv
   go_wp2_with fail
   go_ret
   exact ⟨Z2 (by rw[hn.out,HJ.out]),hb⟩
set_option maxHeartbeats 1000000 in
set_option maxRecDepth 20000 in
theorem markProduct_own (base:Nat) (t0 t1 t2:TypeId) (x:ProdG) (A0:Option Addr) (c0:Nat) (A1:Option Addr) (c1:Nat) (A2:Option Addr) (c2:Nat) (k:Int) (w:World) (ho0:Own ZbF w base t0 A0 c0 x.states) (ho1:Own ZZ w base t1 A1 c1 x.flips) (ho2:Own ZZ w base t2 A2 c2 x.extra) (dj0_1:∀q,blk A0=some q→blk A1=some q→False) (dj0_2:∀q,blk A0=some q→blk A2=some q→False) (dj1_2:∀q,blk A1=some q→blk A2=some q→False) (h0:0≤k) (hk:k+2 * x.states.length+3 * x.flips.length+3 * x.extra.length≤4611686018427387904):
 Calls Tryz.prog 21 #[.agg #[.slice A0 (x.states).length c0,.slice A1 (x.flips).length c1,.slice A2 (x.extra).length c2],.int .i64 k] w fun e w'=>e=.returned (.int .i64 (k+2 * x.states.length+3 * x.flips.length+3 * x.extra.length))∧RSl ZbF w' (fun b=>blk A0=some b) A0 (ZaO mkPSt 2 (k) x.states)∧RSl ZZ w' (fun b=>blk A1=some b) A1 (ZaO mkFlip 3 (k+2 * x.states.length) x.flips)∧RSl ZZ w' (fun b=>blk A2=some b) A2 (ZaO mkFlip 3 (k+2 * x.states.length+3 * x.flips.length) x.extra)∧Touch (fun b=>blk A0=some b∨blk A1=some b∨blk A2=some b) w w':=by
 have hlt0:=ho0.lt
 have hlt1:=ho1.lt
 have hlt2:=ho2.lt
 have hD:∀b,(fun b=>blk A0=some b∨blk A1=some b∨blk A2=some b) b→b<w.heap.size:=fun b hd=>by rcases hd with hd|hd|hd<;>first|exact (hlt0 b hd).2|exact (hlt1 b hd).2|exact (hlt2 b hd).2
 go_enter Tryz.func21,Tryz.ntmps21
 go_wp2_with fail
 have b0:=(Below.refl w.heap.size w).alloc (Nat.le_refl _) (.cells #[.slice A0 (x.states).length c0,.slice A1 (x.flips).length c1,.slice A2 (x.extra).length c2] 54)
 have hTT0:Touch (fun b=>blk A0=some b∨blk A1=some b∨blk A2=some b) w (w.alloc (.cells #[.slice A0 (x.states).length c0,.slice A1 (x.flips).length c1,.slice A2 (x.extra).length c2] 54)):=(Touch.refl _ w).then_ b0
 have p0_0:=ho0.to b0
 have p1_0:=ho1.to b0
 have p2_0:=ho2.to b0
 refine (markProductStateS_own base t0 A0 c0 x.states (k) _ p0_0 (by omega) (by omega)).mono ?_
 rintro e w1 ⟨rfl,hr0,hT1⟩
 have hs1:=hT1.size
 rw[World.size_alloc] at hs1
 have hTT1:Touch (fun b=>blk A0=some b∨blk A1=some b∨blk A2=some b) w w1:=Touch.chain hTT0 (hT1.mono fun b hb=>.inl hb) hD (Nat.le_refl _)
 have e1_1:w1.cell? ⟨w.heap.size,1,none⟩=some (.slice A1 (x.flips).length c1):=by rw[hT1.cell (by first|omega|(rw[World.size_alloc];omega)) (fun hd=>by have:=hlt0 _ hd;omega)];simp[go_sem]
 have p1_1:=hT1.own p1_0 (fun q h1 h2=>dj0_1 q h2 h1)
 have e2_1:w1.cell? ⟨w.heap.size,2,none⟩=some (.slice A2 (x.extra).length c2):=by rw[hT1.cell (by first|omega|(rw[World.size_alloc];omega)) (fun hd=>by have:=hlt0 _ hd;omega)];simp[go_sem]
 have p2_1:=hT1.own p2_0 (fun q h1 h2=>dj0_2 q h2 h1)
 go_wp2_with fail
 refine (markWireFlipS_own base t1 A1 c1 x.flips (k+2 * x.states.length) _ p1_1 (by omega) (by omega)).mono ?_
 rintro e w2 ⟨rfl,hr1,hT2⟩
 have hs2:=hT2.size
 have hTT2:Touch (fun b=>blk A0=some b∨blk A1=some b∨blk A2=some b) w w2:=Touch.chain hTT1 (hT2.mono fun b hb=>.inr (.inl hb)) hD (Nat.le_refl _)
 have e2_2:w2.cell? ⟨w.heap.size,2,none⟩=some (.slice A2 (x.extra).length c2):=by rw[hT2.cell (by first|omega|(rw[World.size_alloc];omega)) (fun hd=>by have:=hlt1 _ hd;omega)];exact e2_1
 have p2_2:=hT2.own p2_1 (fun q h1 h2=>dj1_2 q h2 h1)
 have hr0:=hT2.rsl hr0 (fun q hq=>⟨by have:=hlt0 q hq;omega,fun hd=>dj0_1 q hq hd⟩)
 go_wp2_with fail
 refine (markWireFlipS_own base t2 A2 c2 x.extra (k+2 * x.states.length+3 * x.flips.length) _ p2_2 (by omega) (by omega)).mono ?_
 rintro e w3 ⟨rfl,hr2,hT3⟩
 have hs3:=hT3.size
 have hTT3:Touch (fun b=>blk A0=some b∨blk A1=some b∨blk A2=some b) w w3:=Touch.chain hTT2 (hT3.mono fun b hb=>.inr (.inr hb)) hD (Nat.le_refl _)
 have hr0:=hT3.rsl hr0 (fun q hq=>⟨by have:=hlt0 q hq;omega,fun hd=>dj0_2 q hq hd⟩)
 have hr1:=hT3.rsl hr1 (fun q hq=>⟨by have:=hlt1 q hq;omega,fun hd=>dj1_2 q hq hd⟩)
 go_wp2_with fail
 go_ret
 exact ⟨rfl,hr0,hr1,hr2,hTT3⟩
set_option maxHeartbeats 1000000 in
set_option maxRecDepth 20000 in
theorem heldProduct (x:ProdG) (A0:Option Addr) (c0:Nat) (A1:Option Addr) (c1:Nat) (A2:Option Addr) (c2:Nat) (k:Int) (w:World) (g0:(x.states).length≤9223372036854775807) (r0:RA ZbF w A0 (ZaO mkPSt 2 (k) x.states)) (g1:(x.flips).length≤9223372036854775807) (r1:RA ZZ w A1 (ZaO mkFlip 3 (k+2 * x.states.length) x.flips)) (g2:(x.extra).length≤9223372036854775807) (r2:RA ZZ w A2 (ZaO mkFlip 3 (k+2 * x.states.length+3 * x.flips.length) x.extra)) (h0:0≤k) (hk:k+2 * x.states.length+3 * x.flips.length+3 * x.extra.length≤4611686018427387904):
 Calls Tryz.prog 22 #[.agg #[.slice A0 (x.states).length c0,.slice A1 (x.flips).length c1,.slice A2 (x.extra).length c2],.int .i64 k] w fun e w'=>e=.returned (.int .i64 (k+2 * x.states.length+3 * x.flips.length+3 * x.extra.length))∧Below w.heap.size w w':=by
 have q0:decide (k+2 * x.states.length<0)=false:=by simp;omega
 have q1:decide (k+2 * x.states.length+3 * x.flips.length<0)=false:=by simp;omega
 have q2:decide (k+2 * x.states.length+3 * x.flips.length+3 * x.extra.length<0)=false:=by simp;omega
 go_enter Tryz.func22,Tryz.ntmps22
 go_wp2_with fail
 have b0:Below w.heap.size w (w.alloc (.cells #[.slice A0 (x.states).length c0,.slice A1 (x.flips).length c1,.slice A2 (x.extra).length c2] 54)):=(Below.refl w.heap.size w).alloc (Nat.le_refl _) _
 refine (heldProductStateS A0 c0 x.states (k) _ g0 (RA.to r0 b0) (by omega) (by omega)).mono ?_
 rintro e w1 ⟨rfl,hb1⟩
 have b1:Below w.heap.size w w1:=b0.trans (hb1.mono b0.size)
 obtain ⟨hc1,_⟩:=Zap hb1
 have e1_1:w1.cell? ⟨w.heap.size,1,none⟩=some (.slice A1 (x.flips).length c1):=by rw[hc1 _ _ (by first|omega|(rw[World.size_alloc];omega)|(have:=b0.size;omega))];simp[go_sem]
 have e2_1:w1.cell? ⟨w.heap.size,2,none⟩=some (.slice A2 (x.extra).length c2):=by rw[hc1 _ _ (by first|omega|(rw[World.size_alloc];omega)|(have:=b0.size;omega))];simp[go_sem]
 have hl1:w.heap.size<w1.heap.size:=by have:=hb1.size;rw[World.size_alloc] at this;omega
 go_wp2_with fail
 refine (heldWireFlipS A1 c1 x.flips (k+2 * x.states.length) _ g1 (RA.to r1 b1) (by omega) (by omega)).mono ?_
 rintro e w2 ⟨rfl,hb2⟩
 have b2:Below w.heap.size w w2:=b1.trans (hb2.mono b1.size)
 obtain ⟨hc2,_⟩:=Zap hb2
 have e2_2:w2.cell? ⟨w.heap.size,2,none⟩=some (.slice A2 (x.extra).length c2):=by rw[hc2 _ _ (by first|omega|(rw[World.size_alloc];omega)|(have:=b1.size;omega))];exact e2_1
 have hl2:w.heap.size<w2.heap.size:=by have:=hb2.size;omega
 go_wp2_with fail
 refine (heldWireFlipS A2 c2 x.extra (k+2 * x.states.length+3 * x.flips.length) _ g2 (RA.to r2 b2) (by omega) (by omega)).mono ?_
 rintro e w3 ⟨rfl,hb3⟩
 have b3:Below w.heap.size w w3:=b2.trans (hb3.mono b2.size)
 obtain ⟨hc3,_⟩:=Zap hb3
 have hl3:w.heap.size<w3.heap.size:=by have:=hb3.size;omega
 go_wp2_with fail
 go_ret
 exact ⟨rfl,b3⟩
end Go.Proofs.YtkgnjijonikchaaGreat.Lw
