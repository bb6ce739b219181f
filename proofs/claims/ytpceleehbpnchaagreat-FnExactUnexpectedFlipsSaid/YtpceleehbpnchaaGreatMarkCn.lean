import Derived.Test.YtpceleehbpnchaaGreatRows
import Derived.Test.YtpceleehbpnchaaGreatMarkText
import Derived.Test.YtpceleehbpnchaaGreatLawCn
namespace Go.Proofs.YtpceleehbpnchaaGreat.Lw
open Go.RowKit
set_option linter.unusedVariables false
set_option maxHeartbeats 1000000 in
theorem markIntS_arg (w0:World) (D:Nat→Prop) (hD:∀b,D b→b<w0.heap.size) (hnf:∀b o,D b→w0.frozen? ⟨b,o,none⟩=false) (A:Option Addr) (c:Nat) (l:List Int) (hr:RSl Zt w0 D A l) (hl:l.length≤9223372036854775807) (k:Int) (w:World) (hm:Marked D w0 w) (h0:0≤k) (hk:k+64 * ((l).length:Nat)≤4611686018427387904):
 Calls Tryz.prog 28 #[.slice A l.length c,.int .i64 k] w fun e w'=>∃k':Int,e=.returned (.int .i64 k')∧k≤k'∧k'≤k+64 * ((l).length:Nat)∧Marked D w0 w'∧Touch D w w':=by
 go_enter Tryz.func28,Tryz.ntmps28
 go_wp2_with fail
 go_loopw [5,1] (fun i kv wr=>∃(j:Nat) (n:Int),j≤l.length∧i=.int .i64 j∧kv=.int .i64 n∧k≤n∧n+64 * (((l.drop j)).length:Nat)≤k+64 * ((l).length:Nat)∧Hid (Marked D w0 wr)∧Hid (Touch D w wr)) (fun i _ _=>l.length - (intOf i).toNat)
 case atStart=>exact ⟨0,k,Nat.zero_le _,rfl,rfl,Int.le_refl _,by simp,hm,Touch.refl _ _⟩
 case round=>
  obtain ⟨j,n,hj,rfl,rfl,hn0,hn1,hmr,htr⟩:=hrel
  have hsr:=hmr.out.size
  by_cases hlt:j<l.length
  ·obtain ⟨x,hx⟩:=Zc0 hlt
   obtain ⟨b,off,rfl,hDb,d0,f0⟩:=hr.int_at hx
   have hcost:(((l.drop j)).length:Nat)=1+(((l.drop (j+1))).length:Nat):=by rw[ZzU hx];rw[List.length_cons];omega
   rw[hcost] at hn1
   clear hcost hx
   have lb:=hD b hDb
   have hk0:0≤n:=by omega
   have lbr:b<wr.heap.size:=by omega
   obtain ⟨v0_0,e0_0,_⟩:=hmr.out.cells _ _ _ hDb d0
   have z0_0:wr.frozen? ⟨b,off+j,none⟩=false:=(hmr.out.froz _ _ hDb).trans (hnf _ _ hDb)
   go_wp2_with fail
   go_roundw
   case rel=>exact ⟨j+1,n+1,by omega,by go_num,rfl,by omega,by omega,(hmr.out.put hDb d0 (.int _ _)),(htr.out.put hDb _)⟩
   case measure=>simp[intOf];omega
  ·go_wp2_with fail
   go_ret
   exact ⟨n,rfl,hn0,by omega,hmr.out,htr.out⟩
def mkInt (n:Int) (_:Int):Int:=n
set_option maxHeartbeats 1000000 in
theorem markIntS_own (base:Nat) (t:TypeId) (A:Option Addr) (c:Nat) (l:List Int) (k:Int) (w:World) (ho:Own Zt w base t A c l) (h0:0≤k) (hk:k+1 * l.length≤4611686018427387904):
 Calls Tryz.prog 28 #[.slice A l.length c,.int .i64 k] w fun e w'=>e=.returned (.int .i64 (k+1 * l.length))∧RSl Zt w' (fun b=>blk A=some b) A (ZtH mkInt 1 k l)∧Touch (fun b=>blk A=some b) w w':=by
 have hcap:=ho.cap
 have hlt0:=ho.lt
 have HM:Hid (Zkv Zt w A t c 0 (ZtH mkInt 1 k l)):=ho.mrow (ZBa _ _ _ _)
 obtain ⟨ml,hml⟩:∃ml,(ZtH mkInt 1 k l)=ml:=⟨_,rfl⟩
 have hmlen:ml.length=l.length:=by rw[←hml];exact ZBa _ _ _ _
 rw[hml] at HM⊢
 have HML:=Zbs hml;clear hml
 go_enter Tryz.func28,Tryz.ntmps28
 go_wp2_with fail
 go_loopw [5,1] (fun i kv wr=>∃(j:Nat) (n:Int),j≤l.length∧i=.int .i64 j∧kv=.int .i64 n∧Hid (n=k+1 * j)∧Hid (Zkv Zt wr A t c j ml)∧Hid (Touch (fun b=>blk A=some b) w wr)) (fun i _ _=>l.length - (intOf i).toNat)
 case atStart=>exact ⟨0,k,Nat.zero_le _,rfl,rfl,by show _=_;omega,HM,Touch.refl _ _⟩
 case round=>
  obtain ⟨j,n,hj,rfl,rfl,hn,hmr,htr⟩:=hrel
  have hnv:=hn.out
  have hsr:=htr.out.size
  by_cases hlt:j<l.length
  ·obtain ⟨x,hx⟩:=Zc0 hlt
   have hmx:ml[j]?=some (mkInt n x):=by rw[←HML.out,ZBB hx,hnv];rfl
   obtain ⟨g,rfl,hroom⟩:=hmr.out.room hmx
   have lg:g<wr.heap.size:=by have:=(hlt0 g rfl).2;omega
   obtain ⟨⟨v0,r0⟩,z0⟩:=hroom 0 (by decide)
   simp only[Zt,Nat.add_zero,Nat.mul_one] at r0 z0
   have HX:=Zbs hmx;clear hmx hx hroom
   have hk0:0≤n∧n+1≤4611686018427387904:=by omega
   clear hnv
   go_wp2_with fail
   go_roundw
   case rel=>exact ⟨j+1,n+1,by omega,by go_num,by go_num,by have:=hn.out;show _=_;omega,Zbs (hmr.out.step [.int .i64 (n)] HX.out (⟨rfl,(by constructor<;>simp only[mkInt]<;>omega)⟩) (by simp[Zdi,Zt])),Zbs (Touch.put htr.out (p:=⟨g,j,none⟩) rfl _)⟩
   case measure=>simp[intOf];omega
  ·have hjl:j=l.length:=by omega
   have HJ:=Zbs hjl;clear hjl hnv
   go_wp2_with fail
   go_ret
   refine ⟨ZyY (by rw[hn.out,HJ.out]), ?_,htr.out⟩
   have h:=hmr.out
   rw[HJ.out,←hmlen] at h
   exact h.done
set_option maxHeartbeats 1000000 in
theorem heldIntS (A:Option Addr) (c:Nat) (l:List Int) (k:Int) (w:World) (hl:l.length≤9223372036854775807) (hr:RA Zt w A (ZtH mkInt 1 k l)) (h0:0≤k) (hk:k+1 * l.length≤4611686018427387904):
 Calls Tryz.prog 29 #[.slice A l.length c,.int .i64 k] w fun e w'=>e=.returned (.int .i64 (k+1 * l.length))∧Below w.heap.size w w':=by
 go_enter Tryz.func29,Tryz.ntmps29
 go_wp2_with fail
 go_loopw [5,1] (fun i kv wr=>∃(j:Nat) (n:Int),j≤l.length∧i=.int .i64 j∧kv=.int .i64 n∧Hid (n=k+1 * j)∧Below w.heap.size w wr) (fun i _ _=>l.length - (intOf i).toNat)
 case atStart=>exact ⟨0,k,Nat.zero_le _,rfl,rfl,by show _=_;omega,Below.refl _ _⟩
 case round=>
  obtain ⟨j,n,hj,rfl,rfl,hn,hb⟩:=hrel
  have hnv:=hn.out
  have hsz:=hb.size
  by_cases hlt:j<l.length
  ·obtain ⟨x,hx⟩:=Zc0 hlt
   have hmx:(ZtH mkInt 1 k l)[j]?=some (mkInt n x):=by rw[ZBB hx,hnv];rfl
   obtain ⟨b,off,rfl,hbl,d0,f0⟩:=hr.int_at hb hmx
   simp only[mkInt] at d0
   clear hmx hx
   have hk0:0≤n∧n+1≤4611686018427387904:=by omega
   clear hnv
   go_wp2_with fail
   try go_quiet (fail)
   go_wp2_with fail
   go_roundw
   case rel=>exact ⟨j+1,n+1,by omega,by go_num,by go_num,by have:=hn.out;show _=_;omega,by (repeat' (first|(with_reducible exact Below.refl _ _)|(with_reducible assumption)|(with_reducible refine Zbf ?_ _)|(with_reducible refine Below.drew ?_)|(with_reducible refine Below.alloc ?_ ?_ _)|(with_reducible refine Below.setCell ?_ ?_ _)|(with_reducible refine Below.then_ ?_ (by assumption) ?_)|go_size))⟩
   case measure=>simp[intOf];omega
  ·have hjl:j=l.length:=by omega
   have HJ:=Zbs hjl;clear hjl hnv
   go_wp2_with fail
   go_ret
   exact ⟨ZyY (by rw[hn.out,HJ.out]),hb⟩
set_option maxHeartbeats 1000000 in
theorem markSignalS_arg (w0:World) (D:Nat→Prop) (hD:∀b,D b→b<w0.heap.size) (hnf:∀b o,D b→w0.frozen? ⟨b,o,none⟩=false) (A:Option Addr) (c:Nat) (l:List Sig) (hr:RSl ZjN w0 D A l) (hl:l.length≤9223372036854775807) (k:Int) (w:World) (hm:Marked D w0 w) (h0:0≤k) (hk:k+64 * ((wtL wtSig l):Nat)≤4611686018427387904):
 Calls Tryz.prog 68 #[.slice A l.length c,.int .i64 k] w fun e w'=>∃k':Int,e=.returned (.int .i64 k')∧k≤k'∧k'≤k+64 * ((wtL wtSig l):Nat)∧Marked D w0 w'∧Touch D w w':=by
 go_enter Tryz.func68,Tryz.ntmps68
 go_wp2_with fail
 go_loopw [5,1] (fun i kv wr=>∃(j:Nat) (n:Int),j≤l.length∧i=.int .i64 j∧kv=.int .i64 n∧k≤n∧n+64 * ((wtL wtSig (l.drop j)):Nat)≤k+64 * ((wtL wtSig l):Nat)∧Hid (Marked D w0 wr)∧Hid (Touch D w wr)) (fun i _ _=>l.length - (intOf i).toNat)
 case atStart=>exact ⟨0,k,Nat.zero_le _,rfl,rfl,Int.le_refl _,by simp,hm,Touch.refl _ _⟩
 case round=>
  obtain ⟨j,n,hj,rfl,rfl,hn0,hn1,hmr,htr⟩:=hrel
  have hsr:=hmr.out.size
  by_cases hlt:j<l.length
  ·obtain ⟨x,hx⟩:=Zc0 hlt
   obtain ⟨b,off,rfl,hDb,d0,d1,f0,f1⟩:=hr.Sig_at hx
   have hcost:((wtL wtSig (l.drop j)):Nat)=1+wtSig x+((wtL wtSig (l.drop (j+1))):Nat):=by rw[ZzU hx];rw[ZCF]
   rw[show wtSig x=(x.name).length from rfl] at hcost
   rw[hcost] at hn1
   clear hcost hx
   have lb:=hD b hDb
   have hk0:0≤n:=by omega
   have lbr:b<wr.heap.size:=by omega
   obtain ⟨v0_0,e0_0,_⟩:=hmr.out.cells _ _ _ hDb d0
   have z0_0:wr.frozen? ⟨b,off+j * 2,none⟩=false:=(hmr.out.froz _ _ hDb).trans (hnf _ _ hDb)
   obtain ⟨v1_0,e1_0,_⟩:=hmr.out.cells _ _ _ hDb d1
   have z1_0:wr.frozen? ⟨b,off+j * 2+1,none⟩=false:=(hmr.out.froz _ _ hDb).trans (hnf _ _ hDb)
   go_wp2_with fail
   refine (ZCw (n) _ (by omega) (by omega)).mono ?_
   rintro e w1 ⟨rfl,hb1⟩
   obtain ⟨hc1,hf1⟩:=Zy4 hb1
   have hz1:=hb1.size
   repeat (first|rw[World.size_setCell] at hz1)
   have lb1:b<w1.heap.size:=by omega
   go_wp2_with fail
   go_roundw
   case rel=>exact ⟨j+1,n+1+1,by omega,by go_num,rfl,by omega,by omega,(((hmr.out.then_ (fun q hq=>by have:=hD q hq;(repeat rw[World.size_setCell]);omega) hb1).put hDb d0 (.str _ _)).put hDb d1 (.int _ _)),(((htr.out.then_ hb1).put hDb _).put hDb _)⟩
   case measure=>simp[intOf];omega
  ·go_wp2_with fail
   go_ret
   exact ⟨n,rfl,hn0,by omega,hmr.out,htr.out⟩
set_option maxHeartbeats 1000000 in
theorem markArcS_arg (w0:World) (D:Nat→Prop) (hD:∀b,D b→b<w0.heap.size) (hnf:∀b o,D b→w0.frozen? ⟨b,o,none⟩=false) (A:Option Addr) (c:Nat) (l:List Ac) (hr:RSl Zv6 w0 D A l) (hl:l.length≤9223372036854775807) (k:Int) (w:World) (hm:Marked D w0 w) (h0:0≤k) (hk:k+64 * ((l).length:Nat)≤4611686018427387904):
 Calls Tryz.prog 70 #[.slice A l.length c,.int .i64 k] w fun e w'=>∃k':Int,e=.returned (.int .i64 k')∧k≤k'∧k'≤k+64 * ((l).length:Nat)∧Marked D w0 w'∧Touch D w w':=by
 go_enter Tryz.func70,Tryz.ntmps70
 go_wp2_with fail
 go_loopw [5,1] (fun i kv wr=>∃(j:Nat) (n:Int),j≤l.length∧i=.int .i64 j∧kv=.int .i64 n∧k≤n∧n+64 * (((l.drop j)).length:Nat)≤k+64 * ((l).length:Nat)∧Hid (Marked D w0 wr)∧Hid (Touch D w wr)) (fun i _ _=>l.length - (intOf i).toNat)
 case atStart=>exact ⟨0,k,Nat.zero_le _,rfl,rfl,Int.le_refl _,by simp,hm,Touch.refl _ _⟩
 case round=>
  obtain ⟨j,n,hj,rfl,rfl,hn0,hn1,hmr,htr⟩:=hrel
  have hsr:=hmr.out.size
  by_cases hlt:j<l.length
  ·obtain ⟨x,hx⟩:=Zc0 hlt
   obtain ⟨b,off,rfl,hDb,d0,d1,d2,d3,f0,f1,f2⟩:=hr.Ac_at hx
   have hcost:(((l.drop j)).length:Nat)=1+(((l.drop (j+1))).length:Nat):=by rw[ZzU hx];rw[List.length_cons];omega
   rw[hcost] at hn1
   clear hcost hx
   have lb:=hD b hDb
   have hk0:0≤n:=by omega
   have lbr:b<wr.heap.size:=by omega
   obtain ⟨v0_0,e0_0,_⟩:=hmr.out.cells _ _ _ hDb d0
   have z0_0:wr.frozen? ⟨b,off+j * 4,none⟩=false:=(hmr.out.froz _ _ hDb).trans (hnf _ _ hDb)
   obtain ⟨v1_0,e1_0,_⟩:=hmr.out.cells _ _ _ hDb d1
   have z1_0:wr.frozen? ⟨b,off+j * 4+1,none⟩=false:=(hmr.out.froz _ _ hDb).trans (hnf _ _ hDb)
   obtain ⟨v2_0,e2_0,_⟩:=hmr.out.cells _ _ _ hDb d2
   have z2_0:wr.frozen? ⟨b,off+j * 4+2,none⟩=false:=(hmr.out.froz _ _ hDb).trans (hnf _ _ hDb)
   obtain ⟨v3_0,e3_0,_⟩:=hmr.out.cells _ _ _ hDb d3
   have z3_0:wr.frozen? ⟨b,off+j * 4+3,none⟩=false:=(hmr.out.froz _ _ hDb).trans (hnf _ _ hDb)
   go_wp2_with fail
   go_roundw
   case rel=>exact ⟨j+1,n+1+1+1+1,by omega,by go_num,rfl,by omega,by omega,((((hmr.out.put hDb d0 (.int _ _)).put hDb d1 (.int _ _)).put hDb d2 (.bool _ _)).put hDb d3 (.int _ _)),((((htr.out.put hDb _).put hDb _).put hDb _).put hDb _)⟩
   case measure=>simp[intOf];omega
  ·go_wp2_with fail
   go_ret
   exact ⟨n,rfl,hn0,by omega,hmr.out,htr.out⟩
set_option maxHeartbeats 1000000 in
theorem markStringS_arg (w0:World) (D:Nat→Prop) (hD:∀b,D b→b<w0.heap.size) (hnf:∀b o,D b→w0.frozen? ⟨b,o,none⟩=false) (A:Option Addr) (c:Nat) (l:List (List UInt8)) (hr:RSl ZdO w0 D A l) (hl:l.length≤9223372036854775807) (k:Int) (w:World) (hm:Marked D w0 w) (h0:0≤k) (hk:k+64 * ((wtL ZzN l):Nat)≤4611686018427387904):
 Calls Tryz.prog 69 #[.slice A l.length c,.int .i64 k] w fun e w'=>∃k':Int,e=.returned (.int .i64 k')∧k≤k'∧k'≤k+64 * ((wtL ZzN l):Nat)∧Marked D w0 w'∧Touch D w w':=by
 go_enter Tryz.func69,Tryz.ntmps69
 go_wp2_with fail
 go_loopw [5,1] (fun i kv wr=>∃(j:Nat) (n:Int),j≤l.length∧i=.int .i64 j∧kv=.int .i64 n∧k≤n∧n+64 * ((wtL ZzN (l.drop j)):Nat)≤k+64 * ((wtL ZzN l):Nat)∧Hid (Marked D w0 wr)∧Hid (Touch D w wr)) (fun i _ _=>l.length - (intOf i).toNat)
 case atStart=>exact ⟨0,k,Nat.zero_le _,rfl,rfl,Int.le_refl _,by simp,hm,Touch.refl _ _⟩
 case round=>
  obtain ⟨j,n,hj,rfl,rfl,hn0,hn1,hmr,htr⟩:=hrel
  have hsr:=hmr.out.size
  by_cases hlt:j<l.length
  ·obtain ⟨x,hx⟩:=Zc0 hlt
   obtain ⟨b,off,rfl,hDb,d0,f0⟩:=hr.str_at hx
   have hcost:((wtL ZzN (l.drop j)):Nat)=1+ZzN x+((wtL ZzN (l.drop (j+1))):Nat):=by rw[ZzU hx];rw[ZCF]
   rw[show ZzN x=x.length from rfl] at hcost
   rw[hcost] at hn1
   clear hcost hx
   have lb:=hD b hDb
   have hk0:0≤n:=by omega
   have lbr:b<wr.heap.size:=by omega
   obtain ⟨v0_0,e0_0,_⟩:=hmr.out.cells _ _ _ hDb d0
   have z0_0:wr.frozen? ⟨b,off+j,none⟩=false:=(hmr.out.froz _ _ hDb).trans (hnf _ _ hDb)
   go_wp2_with fail
   refine (ZCw (n) _ (by omega) (by omega)).mono ?_
   rintro e w1 ⟨rfl,hb1⟩
   obtain ⟨hc1,hf1⟩:=Zy4 hb1
   have hz1:=hb1.size
   repeat (first|rw[World.size_setCell] at hz1)
   have lb1:b<w1.heap.size:=by omega
   go_wp2_with fail
   go_roundw
   case rel=>exact ⟨j+1,n+1,by omega,by go_num,rfl,by omega,by omega,((hmr.out.then_ (fun q hq=>by have:=hD q hq;(repeat rw[World.size_setCell]);omega) hb1).put hDb d0 (.str _ _)),((htr.out.then_ hb1).put hDb _)⟩
   case measure=>simp[intOf];omega
  ·go_wp2_with fail
   go_ret
   exact ⟨n,rfl,hn0,by omega,hmr.out,htr.out⟩
set_option maxHeartbeats 1000000 in
theorem markStateGraph_arg (w0:World) (D:Nat→Prop) (hD:∀b,D b→b<w0.heap.size) (hnf:∀b o,D b→w0.frozen? ⟨b,o,none⟩=false) (x:SGr) (A_signals:Option Addr) (c_signals:Nat) (A_codes:Option Addr) (c_codes:Nat) (A_arcs:Option Addr) (c_arcs:Nat) (g0:(x.signals).length≤c_signals) (g1:c_signals≤9223372036854775807) (g2:RSl ZjN w0 D A_signals x.signals) (g3:(x.codes).length≤c_codes) (g4:c_codes≤9223372036854775807) (g5:RSl ZdO w0 D A_codes x.codes) (g6:(x.arcs).length≤c_arcs) (g7:c_arcs≤9223372036854775807) (g8:RSl Zv6 w0 D A_arcs x.arcs) (k:Int) (w:World) (hm:Marked D w0 w) (h0:0≤k) (hk:k+64 * (wtSGr x:Nat)≤4611686018427387904):
 Calls Tryz.prog 21 #[.agg #[.slice A_signals (x.signals).length c_signals,.slice A_codes (x.codes).length c_codes,.slice A_arcs (x.arcs).length c_arcs],.int .i64 k] w fun e w'=>∃k':Int,e=.returned (.int .i64 k')∧k≤k'∧k'≤k+64 * (wtSGr x:Nat)∧Marked D w0 w'∧Touch D w w':=by
 have hwt:wtSGr x=wtSGr x:=rfl
 conv at hwt=>rhs;unfold wtSGr
 rw[hwt] at hk⊢
 clear hwt
 have hs0:=hm.size
 have hbx:∀b,b=w.heap.size→¬D b:=fun b hb hd=>by have:=hD b hd;omega
 go_enter Tryz.func21,Tryz.ntmps21
 go_wp2_with fail
 have hM0:=hm.then_ (fun q hq=>by have:=hD q hq;omega) ((Below.refl w.heap.size w).alloc (Nat.le_refl _) (.cells #[.slice A_signals (x.signals).length c_signals,.slice A_codes (x.codes).length c_codes,.slice A_arcs (x.arcs).length c_arcs] 38))
 have hT0:Touch D w (w.alloc (.cells #[.slice A_signals (x.signals).length c_signals,.slice A_codes (x.codes).length c_codes,.slice A_arcs (x.arcs).length c_arcs] 38)):=(Touch.refl D w).then_ ((Below.refl w.heap.size w).alloc (Nat.le_refl _) _)
 refine (markSignalS_arg w0 D hD hnf _ _ _ g2 (by omega) k _ hM0 (by omega) (by omega)).mono ?_
 rintro e w1 ⟨n1,rfl,hp1,hq1,hM1,hT1⟩
 have hTT1:Touch D w w1:=Touch.chain hT0 hT1 hD hm.size
 have hs1:=hT1.size
 rw[World.size_alloc] at hs1
 have e1_1:w1.cell? ⟨w.heap.size,1,none⟩=some (.slice A_codes (x.codes).length c_codes):=by rw[hT1.cell (by first|omega|(rw[World.size_alloc];omega)) (hbx _ rfl)];simp[go_sem]
 have e2_1:w1.cell? ⟨w.heap.size,2,none⟩=some (.slice A_arcs (x.arcs).length c_arcs):=by rw[hT1.cell (by first|omega|(rw[World.size_alloc];omega)) (hbx _ rfl)];simp[go_sem]
 go_wp2_with fail
 refine (markStringS_arg w0 D hD hnf _ _ _ g5 (by omega) n1 _ hM1 (by omega) (by omega)).mono ?_
 rintro e w2 ⟨n2,rfl,hp2,hq2,hM2,hT2⟩
 have hTT2:Touch D w w2:=Touch.chain hTT1 hT2 hD hm.size
 have hs2:=hT2.size
 have e2_2:w2.cell? ⟨w.heap.size,2,none⟩=some (.slice A_arcs (x.arcs).length c_arcs):=by rw[hT2.cell (by first|omega|(rw[World.size_alloc];omega)) (hbx _ rfl)];exact e2_1
 go_wp2_with fail
 refine (markArcS_arg w0 D hD hnf _ _ _ g8 (by omega) n2 _ hM2 (by omega) (by omega)).mono ?_
 rintro e w3 ⟨n3,rfl,hp3,hq3,hM3,hT3⟩
 have hTT3:Touch D w w3:=Touch.chain hTT2 hT3 hD hm.size
 have hs3:=hT3.size
 go_wp2_with fail
 go_ret
 exact ⟨n3,rfl,by omega,by omega,hM3,hTT3⟩
set_option maxHeartbeats 1000000 in
theorem markPinS_arg (w0:World) (D:Nat→Prop) (hD:∀b,D b→b<w0.heap.size) (hnf:∀b o,D b→w0.frozen? ⟨b,o,none⟩=false) (A:Option Addr) (c:Nat) (l:List Pin) (hr:RSl ZDa w0 D A l) (hl:l.length≤9223372036854775807) (k:Int) (w:World) (hm:Marked D w0 w) (h0:0≤k) (hk:k+64 * ((l).length:Nat)≤4611686018427387904):
 Calls Tryz.prog 106 #[.slice A l.length c,.int .i64 k] w fun e w'=>∃k':Int,e=.returned (.int .i64 k')∧k≤k'∧k'≤k+64 * ((l).length:Nat)∧Marked D w0 w'∧Touch D w w':=by
 go_enter Tryz.func106,Tryz.ntmps106
 go_wp2_with fail
 go_loopw [5,1] (fun i kv wr=>∃(j:Nat) (n:Int),j≤l.length∧i=.int .i64 j∧kv=.int .i64 n∧k≤n∧n+64 * (((l.drop j)).length:Nat)≤k+64 * ((l).length:Nat)∧Hid (Marked D w0 wr)∧Hid (Touch D w wr)) (fun i _ _=>l.length - (intOf i).toNat)
 case atStart=>exact ⟨0,k,Nat.zero_le _,rfl,rfl,Int.le_refl _,by simp,hm,Touch.refl _ _⟩
 case round=>
  obtain ⟨j,n,hj,rfl,rfl,hn0,hn1,hmr,htr⟩:=hrel
  have hsr:=hmr.out.size
  by_cases hlt:j<l.length
  ·obtain ⟨x,hx⟩:=Zc0 hlt
   obtain ⟨b,off,rfl,hDb,d0,d1,f0⟩:=hr.Pin_at hx
   have hcost:(((l.drop j)).length:Nat)=1+(((l.drop (j+1))).length:Nat):=by rw[ZzU hx];rw[List.length_cons];omega
   rw[hcost] at hn1
   clear hcost hx
   have lb:=hD b hDb
   have hk0:0≤n:=by omega
   have lbr:b<wr.heap.size:=by omega
   obtain ⟨v0_0,e0_0,_⟩:=hmr.out.cells _ _ _ hDb d0
   have z0_0:wr.frozen? ⟨b,off+j * 2,none⟩=false:=(hmr.out.froz _ _ hDb).trans (hnf _ _ hDb)
   obtain ⟨v1_0,e1_0,_⟩:=hmr.out.cells _ _ _ hDb d1
   have z1_0:wr.frozen? ⟨b,off+j * 2+1,none⟩=false:=(hmr.out.froz _ _ hDb).trans (hnf _ _ hDb)
   go_wp2_with fail
   go_roundw
   case rel=>exact ⟨j+1,n+1+1,by omega,by go_num,rfl,by omega,by omega,((hmr.out.put hDb d0 (.int _ _)).put hDb d1 (.bool _ _)),((htr.out.put hDb _).put hDb _)⟩
   case measure=>simp[intOf];omega
  ·go_wp2_with fail
   go_ret
   exact ⟨n,rfl,hn0,by omega,hmr.out,htr.out⟩
set_option maxHeartbeats 1000000 in
theorem markWireS_arg (w0:World) (D:Nat→Prop) (hD:∀b,D b→b<w0.heap.size) (hnf:∀b o,D b→w0.frozen? ⟨b,o,none⟩=false) (A:Option Addr) (c:Nat) (l:List Wire) (hr:RSl ZzP w0 D A l) (hl:l.length≤9223372036854775807) (k:Int) (w:World) (hm:Marked D w0 w) (h0:0≤k) (hk:k+64 * ((wtL wtWire l):Nat)≤4611686018427387904):
 Calls Tryz.prog 71 #[.slice A l.length c,.int .i64 k] w fun e w'=>∃k':Int,e=.returned (.int .i64 k')∧k≤k'∧k'≤k+64 * ((wtL wtWire l):Nat)∧Marked D w0 w'∧Touch D w w':=by
 go_enter Tryz.func71,Tryz.ntmps71
 go_wp2_with fail
 go_loopw [5,1] (fun i kv wr=>∃(j:Nat) (n:Int),j≤l.length∧i=.int .i64 j∧kv=.int .i64 n∧k≤n∧n+64 * ((wtL wtWire (l.drop j)):Nat)≤k+64 * ((wtL wtWire l):Nat)∧Hid (Marked D w0 wr)∧Hid (Touch D w wr)) (fun i _ _=>l.length - (intOf i).toNat)
 case atStart=>exact ⟨0,k,Nat.zero_le _,rfl,rfl,Int.le_refl _,by simp,hm,Touch.refl _ _⟩
 case round=>
  obtain ⟨j,n,hj,rfl,rfl,hn0,hn1,hmr,htr⟩:=hrel
  have hsr:=hmr.out.size
  by_cases hlt:j<l.length
  ·obtain ⟨x,hx⟩:=Zc0 hlt
   obtain ⟨b,off,A_ins,c_ins,A_cover,c_cover,rfl,hDb,d0,d1,d2,d3,f0,f1,f2,f3,f4,f5,f6,f7⟩:=hr.Wire_at hx
   have hcost:((wtL wtWire (l.drop j)):Nat)=1+wtWire x+((wtL wtWire (l.drop (j+1))):Nat):=by rw[ZzU hx];rw[ZCF]
   rw[show wtWire x=(x.name).length+(x.ins).length+(wtL ZzN x.cover) from rfl] at hcost
   rw[hcost] at hn1
   clear hcost hx
   have lb:=hD b hDb
   have hk0:0≤n:=by omega
   have lbr:b<wr.heap.size:=by omega
   obtain ⟨v0_0,e0_0,_⟩:=hmr.out.cells _ _ _ hDb d0
   have z0_0:wr.frozen? ⟨b,off+j * 4,none⟩=false:=(hmr.out.froz _ _ hDb).trans (hnf _ _ hDb)
   obtain ⟨v1_0,e1_0,_⟩:=hmr.out.cells _ _ _ hDb d1
   have z1_0:wr.frozen? ⟨b,off+j * 4+1,none⟩=false:=(hmr.out.froz _ _ hDb).trans (hnf _ _ hDb)
   have e2_0:wr.cell? ⟨b,off+j * 4+2,none⟩=some (.slice A_ins (x.ins).length c_ins):=by obtain ⟨v1,h1,h2⟩:=hmr.out.cells _ _ _ hDb d2;rw[h1,h2.slice]
   have e3_0:wr.cell? ⟨b,off+j * 4+3,none⟩=some (.slice A_cover (x.cover).length c_cover):=by obtain ⟨v1,h1,h2⟩:=hmr.out.cells _ _ _ hDb d3;rw[h1,h2.slice]
   go_wp2_with fail
   refine (ZCw (n) _ (by omega) (by omega)).mono ?_
   rintro e w1 ⟨rfl,hb1⟩
   obtain ⟨hc1,hf1⟩:=Zy4 hb1
   have hz1:=hb1.size
   repeat (first|rw[World.size_setCell] at hz1)
   have lb1:b<w1.heap.size:=by omega
   go_wp2_with fail
   have hMc2:=(((hmr.out.then_ (fun q hq=>by have:=hD q hq;(repeat rw[World.size_setCell]);omega) hb1).put hDb d0 (.str _ ⟨(ZCC (n).toNat).toArray⟩)).put hDb d1 (.int _ (n+1)))
   have hTc2:=(Touch.put (p:=⟨b,off+j * 4+1,none⟩) (Touch.put (p:=⟨b,off+j * 4,none⟩) (htr.out.then_ hb1) hDb (.string ⟨(ZCC (n).toNat).toArray⟩)) hDb (.int .i64 (n+1)))
   refine (markPinS_arg w0 D hD hnf _ _ _ f4 (by omega) (n+1+1) _ hMc2 (by omega) (by omega)).mono ?_
   rintro e w2 ⟨n2,rfl,hp2,hq2,hM2,hT2⟩
   have hTT2:Touch D w w2:=Touch.chain hTc2 hT2 hD hm.size
   have hs2:=hM2.size
   have e3_2:w2.cell? ⟨b,off+j * 4+3,none⟩=some (.slice A_cover (x.cover).length c_cover):=by obtain ⟨v1,h1,h2⟩:=hM2.cells _ _ _ hDb d3;rw[h1,h2.slice]
   go_wp2_with fail
   have hMc3:=hM2
   have hTc3:=hTT2
   refine (markStringS_arg w0 D hD hnf _ _ _ f7 (by omega) (n2) _ hMc3 (by omega) (by omega)).mono ?_
   rintro e w3 ⟨n3,rfl,hp3,hq3,hM3,hT3⟩
   have hTT3:Touch D w w3:=Touch.chain hTc3 hT3 hD hm.size
   have hs3:=hM3.size
   go_wp2_with fail
   go_roundw
   case rel=>exact ⟨j+1,n3,by omega,by go_num,rfl,by omega,by omega,hM3,hTT3⟩
   case measure=>simp[intOf];omega
  ·go_wp2_with fail
   go_ret
   exact ⟨n,rfl,hn0,by omega,hmr.out,htr.out⟩
set_option maxHeartbeats 1000000 in
theorem markNetlist_arg (w0:World) (D:Nat→Prop) (hD:∀b,D b→b<w0.heap.size) (hnf:∀b o,D b→w0.frozen? ⟨b,o,none⟩=false) (x:Nl) (A_signals:Option Addr) (c_signals:Nat) (A_wires:Option Addr) (c_wires:Nat) (g0:(x.signals).length≤c_signals) (g1:c_signals≤9223372036854775807) (g2:RSl ZjN w0 D A_signals x.signals) (g3:(x.wires).length≤c_wires) (g4:c_wires≤9223372036854775807) (g5:RSl ZzP w0 D A_wires x.wires) (k:Int) (w:World) (hm:Marked D w0 w) (h0:0≤k) (hk:k+64 * (wtNl x:Nat)≤4611686018427387904):
 Calls Tryz.prog 22 #[.agg #[.slice A_signals (x.signals).length c_signals,.slice A_wires (x.wires).length c_wires],.int .i64 k] w fun e w'=>∃k':Int,e=.returned (.int .i64 k')∧k≤k'∧k'≤k+64 * (wtNl x:Nat)∧Marked D w0 w'∧Touch D w w':=by
 have hwt:wtNl x=wtNl x:=rfl
 conv at hwt=>rhs;unfold wtNl
 rw[hwt] at hk⊢
 clear hwt
 have hs0:=hm.size
 have hbx:∀b,b=w.heap.size→¬D b:=fun b hb hd=>by have:=hD b hd;omega
 go_enter Tryz.func22,Tryz.ntmps22
 go_wp2_with fail
 have hM0:=hm.then_ (fun q hq=>by have:=hD q hq;omega) ((Below.refl w.heap.size w).alloc (Nat.le_refl _) (.cells #[.slice A_signals (x.signals).length c_signals,.slice A_wires (x.wires).length c_wires] 42))
 have hT0:Touch D w (w.alloc (.cells #[.slice A_signals (x.signals).length c_signals,.slice A_wires (x.wires).length c_wires] 42)):=(Touch.refl D w).then_ ((Below.refl w.heap.size w).alloc (Nat.le_refl _) _)
 refine (markSignalS_arg w0 D hD hnf _ _ _ g2 (by omega) k _ hM0 (by omega) (by omega)).mono ?_
 rintro e w1 ⟨n1,rfl,hp1,hq1,hM1,hT1⟩
 have hTT1:Touch D w w1:=Touch.chain hT0 hT1 hD hm.size
 have hs1:=hT1.size
 rw[World.size_alloc] at hs1
 have e1_1:w1.cell? ⟨w.heap.size,1,none⟩=some (.slice A_wires (x.wires).length c_wires):=by rw[hT1.cell (by first|omega|(rw[World.size_alloc];omega)) (hbx _ rfl)];simp[go_sem]
 go_wp2_with fail
 refine (markWireS_arg w0 D hD hnf _ _ _ g5 (by omega) n1 _ hM1 (by omega) (by omega)).mono ?_
 rintro e w2 ⟨n2,rfl,hp2,hq2,hM2,hT2⟩
 have hTT2:Touch D w w2:=Touch.chain hTT1 hT2 hD hm.size
 have hs2:=hT2.size
 go_wp2_with fail
 go_ret
 exact ⟨n2,rfl,by omega,by omega,hM2,hTT2⟩
def mkHzd (n:Int) (_:Hzd):Hzd:=⟨n,n+1,n+1+1⟩
set_option maxHeartbeats 1000000 in
theorem markHazardS_own (base:Nat) (t:TypeId) (A:Option Addr) (c:Nat) (l:List Hzd) (k:Int) (w:World) (ho:Own Zv7 w base t A c l) (h0:0≤k) (hk:k+3 * l.length≤4611686018427387904):
 Calls Tryz.prog 33 #[.slice A l.length c,.int .i64 k] w fun e w'=>e=.returned (.int .i64 (k+3 * l.length))∧RSl Zv7 w' (fun b=>blk A=some b) A (ZtH mkHzd 3 k l)∧Touch (fun b=>blk A=some b) w w':=by
 have hcap:=ho.cap
 have hlt0:=ho.lt
 have HM:Hid (Zkv Zv7 w A t c 0 (ZtH mkHzd 3 k l)):=ho.mrow (ZBa _ _ _ _)
 obtain ⟨ml,hml⟩:∃ml,(ZtH mkHzd 3 k l)=ml:=⟨_,rfl⟩
 have hmlen:ml.length=l.length:=by rw[←hml];exact ZBa _ _ _ _
 rw[hml] at HM⊢
 have HML:=Zbs hml;clear hml
 go_enter Tryz.func33,Tryz.ntmps33
 go_wp2_with fail
 go_loopw [5,1] (fun i kv wr=>∃(j:Nat) (n:Int),j≤l.length∧i=.int .i64 j∧kv=.int .i64 n∧Hid (n=k+3 * j)∧Hid (Zkv Zv7 wr A t c j ml)∧Hid (Touch (fun b=>blk A=some b) w wr)) (fun i _ _=>l.length - (intOf i).toNat)
 case atStart=>exact ⟨0,k,Nat.zero_le _,rfl,rfl,by show _=_;omega,HM,Touch.refl _ _⟩
 case round=>
  obtain ⟨j,n,hj,rfl,rfl,hn,hmr,htr⟩:=hrel
  have hnv:=hn.out
  have hsr:=htr.out.size
  by_cases hlt:j<l.length
  ·obtain ⟨x,hx⟩:=Zc0 hlt
   have hmx:ml[j]?=some (mkHzd n x):=by rw[←HML.out,ZBB hx,hnv];rfl
   obtain ⟨g,rfl,hroom⟩:=hmr.out.room hmx
   have lg:g<wr.heap.size:=by have:=(hlt0 g rfl).2;omega
   obtain ⟨⟨v0,r0⟩,z0⟩:=hroom 0 (by decide)
   obtain ⟨⟨v1,r1⟩,z1⟩:=hroom 1 (by decide)
   obtain ⟨⟨v2,r2⟩,z2⟩:=hroom 2 (by decide)
   simp only[ZlH,Nat.add_zero] at r0 z0 r1 z1 r2 z2
   have HX:=Zbs hmx;clear hmx hx hroom
   have hk0:0≤n∧n+3≤4611686018427387904:=by omega
   clear hnv
   go_wp2_with fail
   go_roundw
   case rel=>exact ⟨j+1,n+1+1+1,by omega,by go_num,by go_num,by have:=hn.out;show _=_;omega,Zbs (hmr.out.step [.int .i64 (n),.int .i64 (n+1),.int .i64 (n+1+1)] HX.out (ZDi (x:=mkHzd n x) (by constructor<;>simp only[mkHzd]<;>omega) (by constructor<;>simp only[mkHzd]<;>omega) (by constructor<;>simp only[mkHzd]<;>omega)) (by simp[Zdi,ZlH])),Zbs (Touch.put (Touch.put (Touch.put htr.out (p:=⟨g,j * 3,none⟩) rfl _) (p:=⟨g,j * 3+1,none⟩) rfl _) (p:=⟨g,j * 3+2,none⟩) rfl _)⟩
   case measure=>simp[intOf];omega
  ·have hjl:j=l.length:=by omega
   have HJ:=Zbs hjl;clear hjl hnv
   go_wp2_with fail
   go_ret
   refine ⟨ZyY (by rw[hn.out,HJ.out]), ?_,htr.out⟩
   have h:=hmr.out
   rw[HJ.out,←hmlen] at h
   exact h.done
set_option maxHeartbeats 1000000 in
theorem heldHazardS (A:Option Addr) (c:Nat) (l:List Hzd) (k:Int) (w:World) (hl:l.length≤9223372036854775807) (hr:RA Zv7 w A (ZtH mkHzd 3 k l)) (h0:0≤k) (hk:k+3 * l.length≤4611686018427387904):
 Calls Tryz.prog 34 #[.slice A l.length c,.int .i64 k] w fun e w'=>e=.returned (.int .i64 (k+3 * l.length))∧Below w.heap.size w w':=by
 go_enter Tryz.func34,Tryz.ntmps34
 go_wp2_with fail
 go_loopw [5,1] (fun i kv wr=>∃(j:Nat) (n:Int),j≤l.length∧i=.int .i64 j∧kv=.int .i64 n∧Hid (n=k+3 * j)∧Below w.heap.size w wr) (fun i _ _=>l.length - (intOf i).toNat)
 case atStart=>exact ⟨0,k,Nat.zero_le _,rfl,rfl,by show _=_;omega,Below.refl _ _⟩
 case round=>
  obtain ⟨j,n,hj,rfl,rfl,hn,hb⟩:=hrel
  have hnv:=hn.out
  have hsz:=hb.size
  by_cases hlt:j<l.length
  ·obtain ⟨x,hx⟩:=Zc0 hlt
   have hmx:(ZtH mkHzd 3 k l)[j]?=some (mkHzd n x):=by rw[ZBB hx,hnv];rfl
   obtain ⟨b,off,rfl,hbl,d0,d1,d2,f0,f1,f2⟩:=hr.Hzd_at hb hmx
   simp only[mkHzd] at d0 d1 d2
   clear hmx hx
   have hk0:0≤n∧n+3≤4611686018427387904:=by omega
   clear hnv
   go_wp2_with fail
   try go_quiet (fail)
   go_wp2_with fail
   try go_quiet (fail)
   go_wp2_with fail
   try go_quiet (fail)
   go_wp2_with fail
   go_roundw
   case rel=>exact ⟨j+1,n+1+1+1,by omega,by go_num,by go_num,by have:=hn.out;show _=_;omega,by (repeat' (first|(with_reducible exact Below.refl _ _)|(with_reducible assumption)|(with_reducible refine Zbf ?_ _)|(with_reducible refine Below.drew ?_)|(with_reducible refine Below.alloc ?_ ?_ _)|(with_reducible refine Below.setCell ?_ ?_ _)|(with_reducible refine Below.then_ ?_ (by assumption) ?_)|go_size))⟩
   case measure=>simp[intOf];omega
  ·have hjl:j=l.length:=by omega
   have HJ:=Zbs hjl;clear hjl hnv
   go_wp2_with fail
   go_ret
   exact ⟨ZyY (by rw[hn.out,HJ.out]),hb⟩
def mkFlip (n:Int) (_:Flip):Flip:=⟨n,n+1,n+1+1⟩
set_option maxHeartbeats 1000000 in
theorem markWireFlipS_own (base:Nat) (t:TypeId) (A:Option Addr) (c:Nat) (l:List Flip) (k:Int) (w:World) (ho:Own Zqy w base t A c l) (h0:0≤k) (hk:k+3 * l.length≤4611686018427387904):
 Calls Tryz.prog 23 #[.slice A l.length c,.int .i64 k] w fun e w'=>e=.returned (.int .i64 (k+3 * l.length))∧RSl Zqy w' (fun b=>blk A=some b) A (ZtH mkFlip 3 k l)∧Touch (fun b=>blk A=some b) w w':=by
 have hcap:=ho.cap
 have hlt0:=ho.lt
 have HM:Hid (Zkv Zqy w A t c 0 (ZtH mkFlip 3 k l)):=ho.mrow (ZBa _ _ _ _)
 obtain ⟨ml,hml⟩:∃ml,(ZtH mkFlip 3 k l)=ml:=⟨_,rfl⟩
 have hmlen:ml.length=l.length:=by rw[←hml];exact ZBa _ _ _ _
 rw[hml] at HM⊢
 have HML:=Zbs hml;clear hml
 go_enter Tryz.func23,Tryz.ntmps23
 go_wp2_with fail
 go_loopw [5,1] (fun i kv wr=>∃(j:Nat) (n:Int),j≤l.length∧i=.int .i64 j∧kv=.int .i64 n∧Hid (n=k+3 * j)∧Hid (Zkv Zqy wr A t c j ml)∧Hid (Touch (fun b=>blk A=some b) w wr)) (fun i _ _=>l.length - (intOf i).toNat)
 case atStart=>exact ⟨0,k,Nat.zero_le _,rfl,rfl,by show _=_;omega,HM,Touch.refl _ _⟩
 case round=>
  obtain ⟨j,n,hj,rfl,rfl,hn,hmr,htr⟩:=hrel
  have hnv:=hn.out
  have hsr:=htr.out.size
  by_cases hlt:j<l.length
  ·obtain ⟨x,hx⟩:=Zc0 hlt
   have hmx:ml[j]?=some (mkFlip n x):=by rw[←HML.out,ZBB hx,hnv];rfl
   obtain ⟨g,rfl,hroom⟩:=hmr.out.room hmx
   have lg:g<wr.heap.size:=by have:=(hlt0 g rfl).2;omega
   obtain ⟨⟨v0,r0⟩,z0⟩:=hroom 0 (by decide)
   obtain ⟨⟨v1,r1⟩,z1⟩:=hroom 1 (by decide)
   obtain ⟨⟨v2,r2⟩,z2⟩:=hroom 2 (by decide)
   simp only[ZjM,Nat.add_zero] at r0 z0 r1 z1 r2 z2
   have HX:=Zbs hmx;clear hmx hx hroom
   have hk0:0≤n∧n+3≤4611686018427387904:=by omega
   clear hnv
   go_wp2_with fail
   go_roundw
   case rel=>exact ⟨j+1,n+1+1+1,by omega,by go_num,by go_num,by have:=hn.out;show _=_;omega,Zbs (hmr.out.step [.int .i64 (n),.int .i64 (n+1),.int .i64 (n+1+1)] HX.out (ZC6 (x:=mkFlip n x) (by constructor<;>simp only[mkFlip]<;>omega) (by constructor<;>simp only[mkFlip]<;>omega) (by constructor<;>simp only[mkFlip]<;>omega)) (by simp[Zdi,ZjM])),Zbs (Touch.put (Touch.put (Touch.put htr.out (p:=⟨g,j * 3,none⟩) rfl _) (p:=⟨g,j * 3+1,none⟩) rfl _) (p:=⟨g,j * 3+2,none⟩) rfl _)⟩
   case measure=>simp[intOf];omega
  ·have hjl:j=l.length:=by omega
   have HJ:=Zbs hjl;clear hjl hnv
   go_wp2_with fail
   go_ret
   refine ⟨ZyY (by rw[hn.out,HJ.out]), ?_,htr.out⟩
   have h:=hmr.out
   rw[HJ.out,←hmlen] at h
   exact h.done
set_option maxHeartbeats 1000000 in
theorem heldWireFlipS (A:Option Addr) (c:Nat) (l:List Flip) (k:Int) (w:World) (hl:l.length≤9223372036854775807) (hr:RA Zqy w A (ZtH mkFlip 3 k l)) (h0:0≤k) (hk:k+3 * l.length≤4611686018427387904):
 Calls Tryz.prog 24 #[.slice A l.length c,.int .i64 k] w fun e w'=>e=.returned (.int .i64 (k+3 * l.length))∧Below w.heap.size w w':=by
 go_enter Tryz.func24,Tryz.ntmps24
 go_wp2_with fail
 go_loopw [5,1] (fun i kv wr=>∃(j:Nat) (n:Int),j≤l.length∧i=.int .i64 j∧kv=.int .i64 n∧Hid (n=k+3 * j)∧Below w.heap.size w wr) (fun i _ _=>l.length - (intOf i).toNat)
 case atStart=>exact ⟨0,k,Nat.zero_le _,rfl,rfl,by show _=_;omega,Below.refl _ _⟩
 case round=>
  obtain ⟨j,n,hj,rfl,rfl,hn,hb⟩:=hrel
  have hnv:=hn.out
  have hsz:=hb.size
  by_cases hlt:j<l.length
  ·obtain ⟨x,hx⟩:=Zc0 hlt
   have hmx:(ZtH mkFlip 3 k l)[j]?=some (mkFlip n x):=by rw[ZBB hx,hnv];rfl
   obtain ⟨b,off,rfl,hbl,d0,d1,d2,f0,f1,f2⟩:=hr.Flip_at hb hmx
   simp only[mkFlip] at d0 d1 d2
   clear hmx hx
   have hk0:0≤n∧n+3≤4611686018427387904:=by omega
   clear hnv
   go_wp2_with fail
   try go_quiet (fail)
   go_wp2_with fail
   try go_quiet (fail)
   go_wp2_with fail
   try go_quiet (fail)
   go_wp2_with fail
   go_roundw
   case rel=>exact ⟨j+1,n+1+1+1,by omega,by go_num,by go_num,by have:=hn.out;show _=_;omega,by (repeat' (first|(with_reducible exact Below.refl _ _)|(with_reducible assumption)|(with_reducible refine Zbf ?_ _)|(with_reducible refine Below.drew ?_)|(with_reducible refine Below.alloc ?_ ?_ _)|(with_reducible refine Below.setCell ?_ ?_ _)|(with_reducible refine Below.then_ ?_ (by assumption) ?_)|go_size))⟩
   case measure=>simp[intOf];omega
  ·have hjl:j=l.length:=by omega
   have HJ:=Zbs hjl;clear hjl hnv
   go_wp2_with fail
   go_ret
   exact ⟨ZyY (by rw[hn.out,HJ.out]),hb⟩
end Go.Proofs.YtpceleehbpnchaaGreat.Lw
