import Derived.Test.YtkgnjijonikchaaGreatRows
import Derived.Test.YtkgnjijonikchaaGreatMarkText
import Derived.Test.YtkgnjijonikchaaGreatLawSr
namespace Go.Proofs.YtkgnjijonikchaaGreat.Lw
open Go.RowKit
set_option linter.unusedVariables false
set_option maxHeartbeats 1000000 in
theorem markSignalS_arg (w0:World) (D:Nat→Prop) (hD:∀b,D b→b<w0.heap.size) (hnf:∀b o,D b→w0.frozen? ⟨b,o,none⟩=false) (A:Option Addr) (c:Nat) (l:List Sig) (hr:RSl Zac w0 D A l) (hl:l.length≤9223372036854775807) (k:Int) (w:World) (hm:Marked D w0 w) (h0:0≤k) (hk:k+64 * ((wtL wtSig l):Nat)≤4611686018427387904):
 Calls Tryz.prog 42 #[.slice A l.length c,.int .i64 k] w fun e w'=>∃k':Int,e=.returned (.int .i64 k')∧k≤k'∧k'≤k+64 * ((wtL wtSig l):Nat)∧Marked D w0 w'∧Touch D w w':=by
 go_enter Tryz.func42,Tryz.ntmps42
 go_wp2_with fail
 go_loopw [5,1] (fun i kv wr=>∃(j:Nat) (n:Int),j≤l.length∧i=.int .i64 j∧kv=.int .i64 n∧k≤n∧n+64 * ((wtL wtSig (l.drop j)):Nat)≤k+64 * ((wtL wtSig l):Nat)∧Hid (Marked D w0 wr)∧Hid (Touch D w wr)) (fun i _ _=>l.length - (intOf i).toNat)
 case atStart=>exact ⟨0,k,Nat.zero_le _,rfl,rfl,Int.le_refl _,by simp,hm,Touch.refl _ _⟩
 case round=>
  obtain ⟨j,n,hj,rfl,rfl,hn0,hn1,hmr,htr⟩:=hrel
  have hsr:=hmr.out.size
  by_cases hlt:j<l.length
  ·obtain ⟨x,hx⟩:=Zx hlt
   obtain ⟨b,off,rfl,hDb,d0,d1,f0,f1⟩:=hr.Sig_at hx
   have hcost:((wtL wtSig (l.drop j)):Nat)=1+wtSig x+((wtL wtSig (l.drop (j+1))):Nat):=by rw[Zdw hx];rw[Zod]
   rw[show wtSig x=(x.name).length from rfl] at hcost
   rw[hcost] at hn1
   clear hcost hx
   have lb:=hD b hDb
   have hk0:0≤n:=by omega
   have lbr:b<wr.heap.size:=by omega
   obtain ⟨v0_0,e0_0,_⟩:=hmr.out.cells _ _ _ hDb d0
   have z0_0:wr.frozen? ⟨b,off+j * 2,none⟩=false:=(hmr.out.froz _ _ hDb).trans (hnf _ _ hDb)
   obtain ⟨v1_0,e1_0,_⟩:=hmr.out.cells _ _ _ hDb d1
   have z1_0:wr.frozen? ⟨b,off+j * 2+1,none⟩=false:=(hmr.out.froz _ _ hDb).trans (hnf _ _ hDb)
   go_wp2_with fail
   refine (Zgo (n) _ (by omega) (by omega)).mono ?_
   rintro e w1 ⟨rfl,hb1⟩
   obtain ⟨hc1,hf1⟩:=Zaz hb1
   have hz1:=hb1.size
   repeat (first|rw[World.size_setCell] at hz1)
   have lb1:b<w1.heap.size:=by omega
   go_wp2_with fail
   go_roundw
   case rel=>exact ⟨j+1,n+1+1,by omega,by go_num,rfl,by omega,by omega,(((hmr.out.then_ (fun q hq=>by have:=hD q hq;(repeat rw[World.size_setCell]);omega) hb1).put hDb d0 (.str _ _)).put hDb d1 (.int _ _)),(((htr.out.then_ hb1).put hDb _).put hDb _)⟩
   case measure=>simp[intOf];omega
  ·go_wp2_with fail
   go_ret
   exact ⟨n,rfl,hn0,by omega,hmr.out,htr.out⟩
set_option maxHeartbeats 1000000 in
theorem markArcS_arg (w0:World) (D:Nat→Prop) (hD:∀b,D b→b<w0.heap.size) (hnf:∀b o,D b→w0.frozen? ⟨b,o,none⟩=false) (A:Option Addr) (c:Nat) (l:List Ac) (hr:RSl Zdi w0 D A l) (hl:l.length≤9223372036854775807) (k:Int) (w:World) (hm:Marked D w0 w) (h0:0≤k) (hk:k+64 * ((l).length:Nat)≤4611686018427387904):
 Calls Tryz.prog 44 #[.slice A l.length c,.int .i64 k] w fun e w'=>∃k':Int,e=.returned (.int .i64 k')∧k≤k'∧k'≤k+64 * ((l).length:Nat)∧Marked D w0 w'∧Touch D w w':=by
 go_enter Tryz.func44,Tryz.ntmps44
 go_wp2_with fail
 go_loopw [5,1] (fun i kv wr=>∃(j:Nat) (n:Int),j≤l.length∧i=.int .i64 j∧kv=.int .i64 n∧k≤n∧n+64 * (((l.drop j)).length:Nat)≤k+64 * ((l).length:Nat)∧Hid (Marked D w0 wr)∧Hid (Touch D w wr)) (fun i _ _=>l.length - (intOf i).toNat)
 case atStart=>exact ⟨0,k,Nat.zero_le _,rfl,rfl,Int.le_refl _,by simp,hm,Touch.refl _ _⟩
 case round=>
  obtain ⟨j,n,hj,rfl,rfl,hn0,hn1,hmr,htr⟩:=hrel
  have hsr:=hmr.out.size
  by_cases hlt:j<l.length
  ·obtain ⟨x,hx⟩:=Zx hlt
   obtain ⟨b,off,rfl,hDb,d0,d1,d2,d3,f0,f1,f2⟩:=hr.Ac_at hx
   have hcost:(((l.drop j)).length:Nat)=1+(((l.drop (j+1))).length:Nat):=by rw[Zdw hx];rw[List.length_cons];omega
   rw[hcost] at hn1
   clear hcost hx
   have lb:=hD b hDb
   have hk0:0≤n:=by omega
   have lbr:b<wr.heap.size:=by omega
   obtain ⟨v0_0,e0_0,_⟩:=hmr.out.cells _ _ _ hDb d0
   have z0_0:wr.frozen? ⟨b,off+j * 4,none⟩=false:=(hmr.out.froz _ _ hDb).trans (hnf _ _ hDb)
   obtain ⟨v1_0,e1_0,_⟩:=hmr.out.cells _ _ _ hDb d1
   have z1_0:wr.frozen? ⟨b,off+j * 4+1,none⟩=false:=(hmr.out.froz _ _ hDb).trans (hnf _ _ hDb)
   obtain ⟨v2_0,e2_0,_⟩:=hmr.out.cells _ _ _ hDb d2
   have z2_0:wr.frozen? ⟨b,off+j * 4+2,none⟩=false:=(hmr.out.froz _ _ hDb).trans (hnf _ _ hDb)
   obtain ⟨v3_0,e3_0,_⟩:=hmr.out.cells _ _ _ hDb d3
   have z3_0:wr.frozen? ⟨b,off+j * 4+3,none⟩=false:=(hmr.out.froz _ _ hDb).trans (hnf _ _ hDb)
   go_wp2_with fail
   go_roundw
   case rel=>exact ⟨j+1,n+1+1+1+1,by omega,by go_num,rfl,by omega,by omega,((((hmr.out.put hDb d0 (.int _ _)).put hDb d1 (.int _ _)).put hDb d2 (.bool _ _)).put hDb d3 (.int _ _)),((((htr.out.put hDb _).put hDb _).put hDb _).put hDb _)⟩
   case measure=>simp[intOf];omega
  ·go_wp2_with fail
   go_ret
   exact ⟨n,rfl,hn0,by omega,hmr.out,htr.out⟩
set_option maxHeartbeats 1000000 in
theorem markStringS_arg (w0:World) (D:Nat→Prop) (hD:∀b,D b→b<w0.heap.size) (hnf:∀b o,D b→w0.frozen? ⟨b,o,none⟩=false) (A:Option Addr) (c:Nat) (l:List (List UInt8)) (hr:RSl Zan w0 D A l) (hl:l.length≤9223372036854775807) (k:Int) (w:World) (hm:Marked D w0 w) (h0:0≤k) (hk:k+64 * ((wtL Zb9 l):Nat)≤4611686018427387904):
 Calls Tryz.prog 43 #[.slice A l.length c,.int .i64 k] w fun e w'=>∃k':Int,e=.returned (.int .i64 k')∧k≤k'∧k'≤k+64 * ((wtL Zb9 l):Nat)∧Marked D w0 w'∧Touch D w w':=by
 go_enter Tryz.func43,Tryz.ntmps43
 go_wp2_with fail
 go_loopw [5,1] (fun i kv wr=>∃(j:Nat) (n:Int),j≤l.length∧i=.int .i64 j∧kv=.int .i64 n∧k≤n∧n+64 * ((wtL Zb9 (l.drop j)):Nat)≤k+64 * ((wtL Zb9 l):Nat)∧Hid (Marked D w0 wr)∧Hid (Touch D w wr)) (fun i _ _=>l.length - (intOf i).toNat)
 case atStart=>exact ⟨0,k,Nat.zero_le _,rfl,rfl,Int.le_refl _,by simp,hm,Touch.refl _ _⟩
 case round=>
  obtain ⟨j,n,hj,rfl,rfl,hn0,hn1,hmr,htr⟩:=hrel
  have hsr:=hmr.out.size
  by_cases hlt:j<l.length
  ·obtain ⟨x,hx⟩:=Zx hlt
   obtain ⟨b,off,rfl,hDb,d0,f0⟩:=hr.str_at hx
   have hcost:((wtL Zb9 (l.drop j)):Nat)=1+Zb9 x+((wtL Zb9 (l.drop (j+1))):Nat):=by rw[Zdw hx];rw[Zod]
   rw[show Zb9 x=x.length from rfl] at hcost
   rw[hcost] at hn1
   clear hcost hx
   have lb:=hD b hDb
   have hk0:0≤n:=by omega
   have lbr:b<wr.heap.size:=by omega
   obtain ⟨v0_0,e0_0,_⟩:=hmr.out.cells _ _ _ hDb d0
   have z0_0:wr.frozen? ⟨b,off+j,none⟩=false:=(hmr.out.froz _ _ hDb).trans (hnf _ _ hDb)
   go_wp2_with fail
   refine (Zgo (n) _ (by omega) (by omega)).mono ?_
   rintro e w1 ⟨rfl,hb1⟩
   obtain ⟨hc1,hf1⟩:=Zaz hb1
   have hz1:=hb1.size
   repeat (first|rw[World.size_setCell] at hz1)
   have lb1:b<w1.heap.size:=by omega
   go_wp2_with fail
   go_roundw
   case rel=>exact ⟨j+1,n+1,by omega,by go_num,rfl,by omega,by omega,((hmr.out.then_ (fun q hq=>by have:=hD q hq;(repeat rw[World.size_setCell]);omega) hb1).put hDb d0 (.str _ _)),((htr.out.then_ hb1).put hDb _)⟩
   case measure=>simp[intOf];omega
  ·go_wp2_with fail
   go_ret
   exact ⟨n,rfl,hn0,by omega,hmr.out,htr.out⟩
set_option maxHeartbeats 1000000 in
theorem markStateGraph_arg (w0:World) (D:Nat→Prop) (hD:∀b,D b→b<w0.heap.size) (hnf:∀b o,D b→w0.frozen? ⟨b,o,none⟩=false) (x:SGr) (A_signals:Option Addr) (c_signals:Nat) (A_codes:Option Addr) (c_codes:Nat) (A_arcs:Option Addr) (c_arcs:Nat) (g0:(x.signals).length≤c_signals) (g1:c_signals≤9223372036854775807) (g2:RSl Zac w0 D A_signals x.signals) (g3:(x.codes).length≤c_codes) (g4:c_codes≤9223372036854775807) (g5:RSl Zan w0 D A_codes x.codes) (g6:(x.arcs).length≤c_arcs) (g7:c_arcs≤9223372036854775807) (g8:RSl Zdi w0 D A_arcs x.arcs) (k:Int) (w:World) (hm:Marked D w0 w) (h0:0≤k) (hk:k+64 * (wtSGr x:Nat)≤4611686018427387904):
 Calls Tryz.prog 14 #[.agg #[.slice A_signals (x.signals).length c_signals,.slice A_codes (x.codes).length c_codes,.slice A_arcs (x.arcs).length c_arcs],.int .i64 k] w fun e w'=>∃k':Int,e=.returned (.int .i64 k')∧k≤k'∧k'≤k+64 * (wtSGr x:Nat)∧Marked D w0 w'∧Touch D w w':=by
 have hwt:wtSGr x=wtSGr x:=rfl
 conv at hwt=>rhs;unfold wtSGr
 rw[hwt] at hk⊢
 clear hwt
 have hs0:=hm.size
 have hbx:∀b,b=w.heap.size→¬D b:=fun b hb hd=>by have:=hD b hd;omega
 go_enter Tryz.func14,Tryz.ntmps14
 go_wp2_with fail
 have hM0:=hm.then_ (fun q hq=>by have:=hD q hq;omega) ((Below.refl w.heap.size w).alloc (Nat.le_refl _) (.cells #[.slice A_signals (x.signals).length c_signals,.slice A_codes (x.codes).length c_codes,.slice A_arcs (x.arcs).length c_arcs] 38))
 have hT0:Touch D w (w.alloc (.cells #[.slice A_signals (x.signals).length c_signals,.slice A_codes (x.codes).length c_codes,.slice A_arcs (x.arcs).length c_arcs] 38)):=(Touch.refl D w).then_ ((Below.refl w.heap.size w).alloc (Nat.le_refl _) _)
 refine (markSignalS_arg w0 D hD hnf _ _ _ g2 (by omega) k _ hM0 (by omega) (by omega)).mono ?_
 rintro e w1 ⟨n1,rfl,hp1,hq1,hM1,hT1⟩
 have hTT1:Touch D w w1:=Touch.chain hT0 hT1 hD hm.size
 have hs1:=hT1.size
 rw[World.size_alloc] at hs1
 have e1_1:w1.cell? ⟨w.heap.size,1,none⟩=some (.slice A_codes (x.codes).length c_codes):=by rw[hT1.cell (by first|omega|(rw[World.size_alloc];omega)) (hbx _ rfl)];simp[go_sem]
 have e2_1:w1.cell? ⟨w.heap.size,2,none⟩=some (.slice A_arcs (x.arcs).length c_arcs):=by rw[hT1.cell (by first|omega|(rw[World.size_alloc];omega)) (hbx _ rfl)];simp[go_sem]
 go_wp2_with fail
 refine (markStringS_arg w0 D hD hnf _ _ _ g5 (by omega) n1 _ hM1 (by omega) (by omega)).mono ?_
 rintro e w2 ⟨n2,rfl,hp2,hq2,hM2,hT2⟩
 have hTT2:Touch D w w2:=Touch.chain hTT1 hT2 hD hm.size
 have hs2:=hT2.size
 have e2_2:w2.cell? ⟨w.heap.size,2,none⟩=some (.slice A_arcs (x.arcs).length c_arcs):=by rw[hT2.cell (by first|omega|(rw[World.size_alloc];omega)) (hbx _ rfl)];exact e2_1
 go_wp2_with fail
 refine (markArcS_arg w0 D hD hnf _ _ _ g8 (by omega) n2 _ hM2 (by omega) (by omega)).mono ?_
 rintro e w3 ⟨n3,rfl,hp3,hq3,hM3,hT3⟩
 have hTT3:Touch D w w3:=Touch.chain hTT2 hT3 hD hm.size
 have hs3:=hT3.size
 go_wp2_with fail
 go_ret
 exact ⟨n3,rfl,by omega,by omega,hM3,hTT3⟩
set_option maxHeartbeats 1000000 in
theorem markPinS_arg (w0:World) (D:Nat→Prop) (hD:∀b,D b→b<w0.heap.size) (hnf:∀b o,D b→w0.frozen? ⟨b,o,none⟩=false) (A:Option Addr) (c:Nat) (l:List Pin) (hr:RSl Zcq w0 D A l) (hl:l.length≤9223372036854775807) (k:Int) (w:World) (hm:Marked D w0 w) (h0:0≤k) (hk:k+64 * ((l).length:Nat)≤4611686018427387904):
 Calls Tryz.prog 69 #[.slice A l.length c,.int .i64 k] w fun e w'=>∃k':Int,e=.returned (.int .i64 k')∧k≤k'∧k'≤k+64 * ((l).length:Nat)∧Marked D w0 w'∧Touch D w w':=by
 go_enter Tryz.func69,Tryz.ntmps69
 go_wp2_with fail
 go_loopw [5,1] (fun i kv wr=>∃(j:Nat) (n:Int),j≤l.length∧i=.int .i64 j∧kv=.int .i64 n∧k≤n∧n+64 * (((l.drop j)).length:Nat)≤k+64 * ((l).length:Nat)∧Hid (Marked D w0 wr)∧Hid (Touch D w wr)) (fun i _ _=>l.length - (intOf i).toNat)
 case atStart=>exact ⟨0,k,Nat.zero_le _,rfl,rfl,Int.le_refl _,by simp,hm,Touch.refl _ _⟩
 case round=>
  obtain ⟨j,n,hj,rfl,rfl,hn0,hn1,hmr,htr⟩:=hrel
  have hsr:=hmr.out.size
  by_cases hlt:j<l.length
  ·obtain ⟨x,hx⟩:=Zx hlt
   obtain ⟨b,off,rfl,hDb,d0,d1,f0⟩:=hr.Pin_at hx
   have hcost:(((l.drop j)).length:Nat)=1+(((l.drop (j+1))).length:Nat):=by rw[Zdw hx];rw[List.length_cons];omega
   rw[hcost] at hn1
   clear hcost hx
   have lb:=hD b hDb
   have hk0:0≤n:=by omega
   have lbr:b<wr.heap.size:=by omega
   obtain ⟨v0_0,e0_0,_⟩:=hmr.out.cells _ _ _ hDb d0
   have z0_0:wr.frozen? ⟨b,off+j * 2,none⟩=false:=(hmr.out.froz _ _ hDb).trans (hnf _ _ hDb)
   obtain ⟨v1_0,e1_0,_⟩:=hmr.out.cells _ _ _ hDb d1
   have z1_0:wr.frozen? ⟨b,off+j * 2+1,none⟩=false:=(hmr.out.froz _ _ hDb).trans (hnf _ _ hDb)
   go_wp2_with fail
   go_roundw
   case rel=>exact ⟨j+1,n+1+1,by omega,by go_num,rfl,by omega,by omega,((hmr.out.put hDb d0 (.int _ _)).put hDb d1 (.bool _ _)),((htr.out.put hDb _).put hDb _)⟩
   case measure=>simp[intOf];omega
  ·go_wp2_with fail
   go_ret
   exact ⟨n,rfl,hn0,by omega,hmr.out,htr.out⟩
set_option maxHeartbeats 1000000 in
theorem markWireS_arg (w0:World) (D:Nat→Prop) (hD:∀b,D b→b<w0.heap.size) (hnf:∀b o,D b→w0.frozen? ⟨b,o,none⟩=false) (A:Option Addr) (c:Nat) (l:List Wire) (hr:RSl Zas w0 D A l) (hl:l.length≤9223372036854775807) (k:Int) (w:World) (hm:Marked D w0 w) (h0:0≤k) (hk:k+64 * ((wtL wtWire l):Nat)≤4611686018427387904):
 Calls Tryz.prog 45 #[.slice A l.length c,.int .i64 k] w fun e w'=>∃k':Int,e=.returned (.int .i64 k')∧k≤k'∧k'≤k+64 * ((wtL wtWire l):Nat)∧Marked D w0 w'∧Touch D w w':=by
 go_enter Tryz.func45,Tryz.ntmps45
 go_wp2_with fail
 go_loopw [5,1] (fun i kv wr=>∃(j:Nat) (n:Int),j≤l.length∧i=.int .i64 j∧kv=.int .i64 n∧k≤n∧n+64 * ((wtL wtWire (l.drop j)):Nat)≤k+64 * ((wtL wtWire l):Nat)∧Hid (Marked D w0 wr)∧Hid (Touch D w wr)) (fun i _ _=>l.length - (intOf i).toNat)
 case atStart=>exact ⟨0,k,Nat.zero_le _,rfl,rfl,Int.le_refl _,by simp,hm,Touch.refl _ _⟩
 case round=>
  obtain ⟨j,n,hj,rfl,rfl,hn0,hn1,hmr,htr⟩:=hrel
  have hsr:=hmr.out.size
  by_cases hlt:j<l.length
  ·obtain ⟨x,hx⟩:=Zx hlt
   obtain ⟨b,off,A_ins,c_ins,A_cover,c_cover,rfl,hDb,d0,d1,d2,d3,f0,f1,f2,f3,f4,f5,f6,f7⟩:=hr.Wire_at hx
   have hcost:((wtL wtWire (l.drop j)):Nat)=1+wtWire x+((wtL wtWire (l.drop (j+1))):Nat):=by rw[Zdw hx];rw[Zod]
   rw[show wtWire x=(x.name).length+(x.ins).length+(wtL Zb9 x.cover) from rfl] at hcost
   rw[hcost] at hn1
   clear hcost hx
   have lb:=hD b hDb
   have hk0:0≤n:=by omega
   have lbr:b<wr.heap.size:=by omega
   obtain ⟨v0_0,e0_0,_⟩:=hmr.out.cells _ _ _ hDb d0
   have z0_0:wr.frozen? ⟨b,off+j * 4,none⟩=false:=(hmr.out.froz _ _ hDb).trans (hnf _ _ hDb)
   obtain ⟨v1_0,e1_0,_⟩:=hmr.out.cells _ _ _ hDb d1
   have z1_0:wr.frozen? ⟨b,off+j * 4+1,none⟩=false:=(hmr.out.froz _ _ hDb).trans (hnf _ _ hDb)
   have e2_0:wr.cell? ⟨b,off+j * 4+2,none⟩=some (.slice A_ins (x.ins).length c_ins):=by obtain ⟨v1,h1,h2⟩:=hmr.out.cells _ _ _ hDb d2;rw[h1,h2.slice]
   have e3_0:wr.cell? ⟨b,off+j * 4+3,none⟩=some (.slice A_cover (x.cover).length c_cover):=by obtain ⟨v1,h1,h2⟩:=hmr.out.cells _ _ _ hDb d3;rw[h1,h2.slice]
   go_wp2_with fail
   refine (Zgo (n) _ (by omega) (by omega)).mono ?_
   rintro e w1 ⟨rfl,hb1⟩
   obtain ⟨hc1,hf1⟩:=Zaz hb1
   have hz1:=hb1.size
   repeat (first|rw[World.size_setCell] at hz1)
   have lb1:b<w1.heap.size:=by omega
   go_wp2_with fail
   have hMc2:=(((hmr.out.then_ (fun q hq=>by have:=hD q hq;(repeat rw[World.size_setCell]);omega) hb1).put hDb d0 (.str _ ⟨(Zku (n).toNat).toArray⟩)).put hDb d1 (.int _ (n+1)))
   have hTc2:=(Touch.put (p:=⟨b,off+j * 4+1,none⟩) (Touch.put (p:=⟨b,off+j * 4,none⟩) (htr.out.then_ hb1) hDb (.string ⟨(Zku (n).toNat).toArray⟩)) hDb (.int .i64 (n+1)))
   refine (markPinS_arg w0 D hD hnf _ _ _ f4 (by omega) (n+1+1) _ hMc2 (by omega) (by omega)).mono ?_
   rintro e w2 ⟨n2,rfl,hp2,hq2,hM2,hT2⟩
   have hTT2:Touch D w w2:=Touch.chain hTc2 hT2 hD hm.size
   have hs2:=hM2.size
   have e3_2:w2.cell? ⟨b,off+j * 4+3,none⟩=some (.slice A_cover (x.cover).length c_cover):=by obtain ⟨v1,h1,h2⟩:=hM2.cells _ _ _ hDb d3;rw[h1,h2.slice]
   go_wp2_with fail
   have hMc3:=hM2
   have hTc3:=hTT2
   refine (markStringS_arg w0 D hD hnf _ _ _ f7 (by omega) (n2) _ hMc3 (by omega) (by omega)).mono ?_
   rintro e w3 ⟨n3,rfl,hp3,hq3,hM3,hT3⟩
   have hTT3:Touch D w w3:=Touch.chain hTc3 hT3 hD hm.size
   have hs3:=hM3.size
   go_wp2_with fail
   go_roundw
   case rel=>exact ⟨j+1,n3,by omega,by go_num,rfl,by omega,by omega,hM3,hTT3⟩
   case measure=>simp[intOf];omega
  ·go_wp2_with fail
   go_ret
   exact ⟨n,rfl,hn0,by omega,hmr.out,htr.out⟩
set_option maxHeartbeats 1000000 in
theorem markNetlist_arg (w0:World) (D:Nat→Prop) (hD:∀b,D b→b<w0.heap.size) (hnf:∀b o,D b→w0.frozen? ⟨b,o,none⟩=false) (x:Nl) (A_signals:Option Addr) (c_signals:Nat) (A_wires:Option Addr) (c_wires:Nat) (g0:(x.signals).length≤c_signals) (g1:c_signals≤9223372036854775807) (g2:RSl Zac w0 D A_signals x.signals) (g3:(x.wires).length≤c_wires) (g4:c_wires≤9223372036854775807) (g5:RSl Zas w0 D A_wires x.wires) (k:Int) (w:World) (hm:Marked D w0 w) (h0:0≤k) (hk:k+64 * (wtNl x:Nat)≤4611686018427387904):
 Calls Tryz.prog 15 #[.agg #[.slice A_signals (x.signals).length c_signals,.slice A_wires (x.wires).length c_wires],.int .i64 k] w fun e w'=>∃k':Int,e=.returned (.int .i64 k')∧k≤k'∧k'≤k+64 * (wtNl x:Nat)∧Marked D w0 w'∧Touch D w w':=by
 have hwt:wtNl x=wtNl x:=rfl
 conv at hwt=>rhs;unfold wtNl
 rw[hwt] at hk⊢
 clear hwt
 have hs0:=hm.size
 have hbx:∀b,b=w.heap.size→¬D b:=fun b hb hd=>by have:=hD b hd;omega
 go_enter Tryz.func15,Tryz.ntmps15
 go_wp2_with fail
 have hM0:=hm.then_ (fun q hq=>by have:=hD q hq;omega) ((Below.refl w.heap.size w).alloc (Nat.le_refl _) (.cells #[.slice A_signals (x.signals).length c_signals,.slice A_wires (x.wires).length c_wires] 42))
 have hT0:Touch D w (w.alloc (.cells #[.slice A_signals (x.signals).length c_signals,.slice A_wires (x.wires).length c_wires] 42)):=(Touch.refl D w).then_ ((Below.refl w.heap.size w).alloc (Nat.le_refl _) _)
 refine (markSignalS_arg w0 D hD hnf _ _ _ g2 (by omega) k _ hM0 (by omega) (by omega)).mono ?_
 rintro e w1 ⟨n1,rfl,hp1,hq1,hM1,hT1⟩
 have hTT1:Touch D w w1:=Touch.chain hT0 hT1 hD hm.size
 have hs1:=hT1.size
 rw[World.size_alloc] at hs1
 have e1_1:w1.cell? ⟨w.heap.size,1,none⟩=some (.slice A_wires (x.wires).length c_wires):=by rw[hT1.cell (by first|omega|(rw[World.size_alloc];omega)) (hbx _ rfl)];simp[go_sem]
 go_wp2_with fail
 refine (markWireS_arg w0 D hD hnf _ _ _ g5 (by omega) n1 _ hM1 (by omega) (by omega)).mono ?_
 rintro e w2 ⟨n2,rfl,hp2,hq2,hM2,hT2⟩
 have hTT2:Touch D w w2:=Touch.chain hTT1 hT2 hD hm.size
 have hs2:=hT2.size
 go_wp2_with fail
 go_ret
 exact ⟨n2,rfl,by omega,by omega,hM2,hTT2⟩
def mkSPr (n:Int) (_:SPr):SPr:=⟨n,Zku (n+1).toNat⟩
set_option maxHeartbeats 1000000 in
theorem markSimulationPairS_own (base:Nat) (t:TypeId) (A:Option Addr) (c:Nat) (l:List SPr) (k:Int) (w:World) (ho:Own ZdR w base t A c l) (h0:0≤k) (hk:k+2 * l.length≤4611686018427387904):
 Calls Tryz.prog 16 #[.slice A l.length c,.int .i64 k] w fun e w'=>e=.returned (.int .i64 (k+2 * l.length))∧RSl ZdR w' (fun b=>blk A=some b) A (ZfN mkSPr 2 k l)∧Touch (fun b=>blk A=some b) w w':=by
 have hcap:=ho.cap
 have hlt0:=ho.lt
 have HM:Hid (Zhu ZdR w A t c 0 (ZfN mkSPr 2 k l)):=ho.mrow (Znk _ _ _ _)
 obtain ⟨ml,hml⟩:∃ml,(ZfN mkSPr 2 k l)=ml:=⟨_,rfl⟩
 have hmlen:ml.length=l.length:=by rw[←hml];exact Znk _ _ _ _
 rw[hml] at HM⊢
 have HML:=Zo hml;clear hml
 go_enter Tryz.func16,Tryz.ntmps16
 go_wp2_with fail
 go_loopw [5,1] (fun i kv wr=>∃(j:Nat) (n:Int),j≤l.length∧i=.int .i64 j∧kv=.int .i64 n∧Hid (n=k+2 * j)∧Hid (Zhu ZdR wr A t c j ml)∧Hid (Touch (fun b=>blk A=some b) w wr)) (fun i _ _=>l.length - (intOf i).toNat)
 case atStart=>exact ⟨0,k,Nat.zero_le _,rfl,rfl,by show _=_;omega,HM,Touch.refl _ _⟩
 case round=>
  obtain ⟨j,n,hj,rfl,rfl,hn,hmr,htr⟩:=hrel
  have hnv:=hn.out
  have hsr:=htr.out.size
  by_cases hlt:j<l.length
  ·obtain ⟨x,hx⟩:=Zx hlt
   have hmx:ml[j]?=some (mkSPr n x):=by rw[←HML.out,Znl hx,hnv];rfl
   obtain ⟨g,rfl,hroom⟩:=hmr.out.room hmx
   have lg:g<wr.heap.size:=by have:=(hlt0 g rfl).2;omega
   obtain ⟨⟨v0,r0⟩,z0⟩:=hroom 0 (by decide)
   obtain ⟨⟨v1,r1⟩,z1⟩:=hroom 1 (by decide)
   simp only[Zjt,Nat.add_zero] at r0 z0 r1 z1
   have HX:=Zo hmx;clear hmx hx hroom
   have hk0:0≤n∧n+2≤4611686018427387904:=by omega
   clear hnv
   go_wp2_with fail
   refine (Zgo (n+1) _ (by omega) (by omega)).mono ?_
   rintro e w1 ⟨rfl,hb1⟩
   obtain ⟨hc1,hf1⟩:=Zaz hb1
   have hz1:=hb1.size
   repeat (first|rw[World.size_setCell] at hz1)
   go_wp2_with fail
   go_roundw
   have hX0:=World.cell?_setCell_same wr ⟨g,j * 2,none⟩ (.int .i64 (n)) r0
   have hX1:=(hc1 g (j * 2) (by rw[World.size_setCell];exact lg)).trans hX0
   case rel=>exact ⟨j+1,n+1+1,by omega,by go_num,by go_num,by have:=hn.out;show _=_;omega,Zo (((hmr.out.over (o:=j * 2) (v:=.int .i64 (n)) (by rw[Zjt];omega)).to hb1).step [.int .i64 (n),.string ⟨(Zku (n+1).toNat).toArray⟩] HX.out (Zyb (x:=mkSPr n x) (by constructor<;>simp only[mkSPr]<;>omega) (ZwA _)) (by simp[ZaU,Zvz hX1,Zjt])),Zo (Touch.put ((Touch.put htr.out (p:=⟨g,j * 2,none⟩) rfl _).then_ hb1) (p:=⟨g,j * 2+1,none⟩) rfl _)⟩
   case measure=>simp[intOf];omega
  ·have hjl:j=l.length:=by omega
   have HJ:=Zo hjl;clear hjl hnv
   go_wp2_with fail
   go_ret
   refine ⟨Zae (by rw[hn.out,HJ.out]), ?_,htr.out⟩
   have h:=hmr.out
   rw[HJ.out,←hmlen] at h
   exact h.done
set_option maxHeartbeats 1000000 in
theorem heldSimulationPairS (A:Option Addr) (c:Nat) (l:List SPr) (k:Int) (w:World) (hl:l.length≤9223372036854775807) (hr:RA ZdR w A (ZfN mkSPr 2 k l)) (h0:0≤k) (hk:k+2 * l.length≤4611686018427387904):
 Calls Tryz.prog 17 #[.slice A l.length c,.int .i64 k] w fun e w'=>e=.returned (.int .i64 (k+2 * l.length))∧Below w.heap.size w w':=by
 go_enter Tryz.func17,Tryz.ntmps17
 go_wp2_with fail
 go_loopw [5,1] (fun i kv wr=>∃(j:Nat) (n:Int),j≤l.length∧i=.int .i64 j∧kv=.int .i64 n∧Hid (n=k+2 * j)∧Below w.heap.size w wr) (fun i _ _=>l.length - (intOf i).toNat)
 case atStart=>exact ⟨0,k,Nat.zero_le _,rfl,rfl,by show _=_;omega,Below.refl _ _⟩
 case round=>
  obtain ⟨j,n,hj,rfl,rfl,hn,hb⟩:=hrel
  have hnv:=hn.out
  have hsz:=hb.size
  by_cases hlt:j<l.length
  ·obtain ⟨x,hx⟩:=Zx hlt
   have hmx:(ZfN mkSPr 2 k l)[j]?=some (mkSPr n x):=by rw[Znl hx,hnv];rfl
   obtain ⟨b,off,rfl,hbl,d0,d1,f0,f1⟩:=hr.SPr_at hb hmx
   simp only[mkSPr] at d0 d1
   clear hmx hx
   have hk0:0≤n∧n+2≤4611686018427387904:=by omega
   clear hnv
   go_wp2_with fail
   try go_quiet (fail)
   go_wp2_with fail
   go_region_held3 (fun W=>W.cell? ⟨b,off+j * 2+1,none⟩=some (.string ⟨(Zku (n+1).toNat).toArray⟩)) (first|exact d1|exact (cell_later hb1 d1)) (first|(go_at_call 46;refine (Zgo (n+1) _ (by omega) (by omega)).mono ?_;rintro e w1 ⟨rfl,hb1⟩))
   have hb2:=hb.drew.trans (hb1.mono hsz)
   go_wp2_with fail
   go_roundw
   case rel=>exact ⟨j+1,n+1+1,by omega,by go_num,by go_num,by have:=hn.out;show _=_;omega,gG⟩
   case measure=>simp[intOf];omega
  ·have hjl:j=l.length:=by omega
   have HJ:=Zo hjl;clear hjl hnv
   go_wp2_with fail
   go_ret
   exact ⟨Zae (by rw[hn.out,HJ.out]),hb⟩
end Go.Proofs.YtkgnjijonikchaaGreat.Lw
