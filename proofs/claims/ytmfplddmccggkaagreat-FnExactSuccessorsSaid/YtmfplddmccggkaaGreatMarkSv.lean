import Derived.Test.YtmfplddmccggkaaGreatRows
import Derived.Test.YtmfplddmccggkaaGreatMarkText
import Derived.Test.YtmfplddmccggkaaGreatLawSv
namespace Go.Proofs.YtmfplddmccggkaaGreat.Lw
open Go.RowKit
set_option linter.unusedVariables false
set_option maxHeartbeats 1000000 in
theorem markIntS_arg (w0:World) (D:Nat→Prop) (hD:∀b,D b→b<w0.heap.size) (hnf:∀b o,D b→w0.frozen? ⟨b,o,none⟩=false) (A:Option Addr) (c:Nat) (l:List Int) (hr:RSl Zp w0 D A l) (hl:l.length≤9223372036854775807) (k:Int) (w:World) (hm:Marked D w0 w) (h0:0≤k) (hk:k+64 * ((l).length:Nat)≤4611686018427387904):
 Calls Tryz.prog 32 #[.slice A l.length c,.int .i64 k] w fun e w'=>∃k':Int,e=.returned (.int .i64 k')∧k≤k'∧k'≤k+64 * ((l).length:Nat)∧Marked D w0 w'∧Touch D w w':=by
 go_enter Tryz.func32,Tryz.ntmps32
 go_wp2_with fail
 go_loopw [5,1] (fun i kv wr=>∃(j:Nat) (n:Int),j≤l.length∧i=.int .i64 j∧kv=.int .i64 n∧k≤n∧n+64 * (((l.drop j)).length:Nat)≤k+64 * ((l).length:Nat)∧Hid (Marked D w0 wr)∧Hid (Touch D w wr)) (fun i _ _=>l.length - (intOf i).toNat)
 case atStart=>exact ⟨0,k,Nat.zero_le _,rfl,rfl,Int.le_refl _,by simp,hm,Touch.refl _ _⟩
 case round=>
  obtain ⟨j,n,hj,rfl,rfl,hn0,hn1,hmr,htr⟩:=hrel
  have hsr:=hmr.out.size
  by_cases hlt:j<l.length
  ·obtain ⟨x,hx⟩:=Zq hlt
   obtain ⟨b,off,rfl,hDb,d0,f0⟩:=hr.int_at hx
   have hcost:(((l.drop j)).length:Nat)=1+(((l.drop (j+1))).length:Nat):=by rw[Zcj hx];rw[List.length_cons];omega
   rw[hcost] at hn1
   clear hcost hx
   have lb:=hD b hDb
   have hk0:0≤n:=by omega
   have lbr:b<wr.heap.size:=by omega
   obtain ⟨v0_0,e0_0,_⟩:=hmr.out.cells _ _ _ hDb d0
   have z0_0:wr.frozen? ⟨b,off+j,none⟩=false:=(hmr.out.froz _ _ hDb).trans (hnf _ _ hDb)
   go_wp2_with fail
   go_roundw
   case rel=>exact ⟨j+1,n+1,by omega,by go_num,rfl,by omega,by omega,(hmr.out.put hDb d0 (.int _ _)),(htr.out.put hDb _)⟩
   case measure=>simp[intOf];omega
  ·go_wp2_with fail
   go_ret
   exact ⟨n,rfl,hn0,by omega,hmr.out,htr.out⟩
def mkInt (n:Int) (_:Int):Int:=n
set_option maxHeartbeats 1000000 in
theorem markIntS_own (base:Nat) (t:TypeId) (A:Option Addr) (c:Nat) (l:List Int) (k:Int) (w:World) (ho:Own Zp w base t A c l) (h0:0≤k) (hk:k+1 * l.length≤4611686018427387904):
 Calls Tryz.prog 32 #[.slice A l.length c,.int .i64 k] w fun e w'=>e=.returned (.int .i64 (k+1 * l.length))∧RSl Zp w' (fun b=>blk A=some b) A (Zcf mkInt 1 k l)∧Touch (fun b=>blk A=some b) w w':=by
 have hcap:=ho.cap
 have hlt0:=ho.lt
 have HM:Hid (ZeI Zp w A t c 0 (Zcf mkInt 1 k l)):=ho.mrow (Ze3 _ _ _ _)
 obtain ⟨ml,hml⟩:∃ml,(Zcf mkInt 1 k l)=ml:=⟨_,rfl⟩
 have hmlen:ml.length=l.length:=by rw[←hml];exact Ze3 _ _ _ _
 rw[hml] at HM⊢
 have HML:=Zj hml;clear hml
 go_enter Tryz.func32,Tryz.ntmps32
 go_wp2_with fail
 go_loopw [5,1] (fun i kv wr=>∃(j:Nat) (n:Int),j≤l.length∧i=.int .i64 j∧kv=.int .i64 n∧Hid (n=k+1 * j)∧Hid (ZeI Zp wr A t c j ml)∧Hid (Touch (fun b=>blk A=some b) w wr)) (fun i _ _=>l.length - (intOf i).toNat)
 case atStart=>exact ⟨0,k,Nat.zero_le _,rfl,rfl,by show _=_;omega,HM,Touch.refl _ _⟩
 case round=>
  obtain ⟨j,n,hj,rfl,rfl,hn,hmr,htr⟩:=hrel
  have hnv:=hn.out
  have hsr:=htr.out.size
  by_cases hlt:j<l.length
  ·obtain ⟨x,hx⟩:=Zq hlt
   have hmx:ml[j]?=some (mkInt n x):=by rw[←HML.out,Ze4 hx,hnv];rfl
   obtain ⟨g,rfl,hroom⟩:=hmr.out.room hmx
   have lg:g<wr.heap.size:=by have:=(hlt0 g rfl).2;omega
   obtain ⟨⟨v0,r0⟩,z0⟩:=hroom 0 (by decide)
   simp only[Zp,Nat.add_zero,Nat.mul_one] at r0 z0
   have HX:=Zj hmx;clear hmx hx hroom
   have hk0:0≤n∧n+1≤4611686018427387904:=by omega
   clear hnv
   go_wp2_with fail
   go_roundw
   case rel=>exact ⟨j+1,n+1,by omega,by go_num,by go_num,by have:=hn.out;show _=_;omega,Zj (hmr.out.step [.int .i64 (n)] HX.out (⟨rfl,(by constructor<;>simp only[mkInt]<;>omega)⟩) (by simp[Zay,Zp])),Zj (Touch.put htr.out (p:=⟨g,j,none⟩) rfl _)⟩
   case measure=>simp[intOf];omega
  ·have hjl:j=l.length:=by omega
   have HJ:=Zj hjl;clear hjl hnv
   go_wp2_with fail
   go_ret
   refine ⟨ZS (by rw[hn.out,HJ.out]), ?_,htr.out⟩
   have h:=hmr.out
   rw[HJ.out,←hmlen] at h
   exact h.done
set_option maxHeartbeats 1000000 in
theorem heldIntS (A:Option Addr) (c:Nat) (l:List Int) (k:Int) (w:World) (hl:l.length≤9223372036854775807) (hr:RA Zp w A (Zcf mkInt 1 k l)) (h0:0≤k) (hk:k+1 * l.length≤4611686018427387904):
 Calls Tryz.prog 34 #[.slice A l.length c,.int .i64 k] w fun e w'=>e=.returned (.int .i64 (k+1 * l.length))∧Below w.heap.size w w':=by
 go_enter Tryz.func34,Tryz.ntmps34
 go_wp2_with fail
 go_loopw [5,1] (fun i kv wr=>∃(j:Nat) (n:Int),j≤l.length∧i=.int .i64 j∧kv=.int .i64 n∧Hid (n=k+1 * j)∧Below w.heap.size w wr) (fun i _ _=>l.length - (intOf i).toNat)
 case atStart=>exact ⟨0,k,Nat.zero_le _,rfl,rfl,by show _=_;omega,Below.refl _ _⟩
 case round=>
  obtain ⟨j,n,hj,rfl,rfl,hn,hb⟩:=hrel
  have hnv:=hn.out
  have hsz:=hb.size
  by_cases hlt:j<l.length
  ·obtain ⟨x,hx⟩:=Zq hlt
   have hmx:(Zcf mkInt 1 k l)[j]?=some (mkInt n x):=by rw[Ze4 hx,hnv];rfl
   obtain ⟨b,off,rfl,hbl,d0,f0⟩:=hr.int_at hb hmx
   simp only[mkInt] at d0
   clear hmx hx
   have hk0:0≤n∧n+1≤4611686018427387904:=by omega
   clear hnv
   go_wp2_with fail
   try go_quiet (fail)
   go_wp2_with fail
   go_roundw
   case rel=>exact ⟨j+1,n+1,by omega,by go_num,by go_num,by have:=hn.out;show _=_;omega,by (repeat' (first|(with_reducible exact Below.refl _ _)|(with_reducible assumption)|(with_reducible refine Zb ?_ _)|(with_reducible refine Below.drew ?_)|(with_reducible refine Below.alloc ?_ ?_ _)|(with_reducible refine Below.setCell ?_ ?_ _)|(with_reducible refine Below.then_ ?_ (by assumption) ?_)|go_size))⟩
   case measure=>simp[intOf];omega
  ·have hjl:j=l.length:=by omega
   have HJ:=Zj hjl;clear hjl hnv
   go_wp2_with fail
   go_ret
   exact ⟨ZS (by rw[hn.out,HJ.out]),hb⟩
set_option maxHeartbeats 1000000 in
theorem markSignalS_arg (w0:World) (D:Nat→Prop) (hD:∀b,D b→b<w0.heap.size) (hnf:∀b o,D b→w0.frozen? ⟨b,o,none⟩=false) (A:Option Addr) (c:Nat) (l:List Sig) (hr:RSl Z2 w0 D A l) (hl:l.length≤9223372036854775807) (k:Int) (w:World) (hm:Marked D w0 w) (h0:0≤k) (hk:k+64 * ((wtL wtSig l):Nat)≤4611686018427387904):
 Calls Tryz.prog 78 #[.slice A l.length c,.int .i64 k] w fun e w'=>∃k':Int,e=.returned (.int .i64 k')∧k≤k'∧k'≤k+64 * ((wtL wtSig l):Nat)∧Marked D w0 w'∧Touch D w w':=by
 go_enter Tryz.func78,Tryz.ntmps78
 go_wp2_with fail
 go_loopw [5,1] (fun i kv wr=>∃(j:Nat) (n:Int),j≤l.length∧i=.int .i64 j∧kv=.int .i64 n∧k≤n∧n+64 * ((wtL wtSig (l.drop j)):Nat)≤k+64 * ((wtL wtSig l):Nat)∧Hid (Marked D w0 wr)∧Hid (Touch D w wr)) (fun i _ _=>l.length - (intOf i).toNat)
 case atStart=>exact ⟨0,k,Nat.zero_le _,rfl,rfl,Int.le_refl _,by simp,hm,Touch.refl _ _⟩
 case round=>
  obtain ⟨j,n,hj,rfl,rfl,hn0,hn1,hmr,htr⟩:=hrel
  have hsr:=hmr.out.size
  by_cases hlt:j<l.length
  ·obtain ⟨x,hx⟩:=Zq hlt
   obtain ⟨b,off,rfl,hDb,d0,d1,f0,f1⟩:=hr.Sig_at hx
   have hcost:((wtL wtSig (l.drop j)):Nat)=1+wtSig x+((wtL wtSig (l.drop (j+1))):Nat):=by rw[Zcj hx];rw[Zlq]
   rw[show wtSig x=(x.name).length from rfl] at hcost
   rw[hcost] at hn1
   clear hcost hx
   have lb:=hD b hDb
   have hk0:0≤n:=by omega
   have lbr:b<wr.heap.size:=by omega
   obtain ⟨v0_0,e0_0,_⟩:=hmr.out.cells _ _ _ hDb d0
   have z0_0:wr.frozen? ⟨b,off+j * 2,none⟩=false:=(hmr.out.froz _ _ hDb).trans (hnf _ _ hDb)
   obtain ⟨v1_0,e1_0,_⟩:=hmr.out.cells _ _ _ hDb d1
   have z1_0:wr.frozen? ⟨b,off+j * 2+1,none⟩=false:=(hmr.out.froz _ _ hDb).trans (hnf _ _ hDb)
   go_wp2_with fail
   refine (ZgK (n) _ (by omega) (by omega)).mono ?_
   rintro e w1 ⟨rfl,hb1⟩
   obtain ⟨hc1,hf1⟩:=Z4 hb1
   have hz1:=hb1.size
   repeat (first|rw[World.size_setCell] at hz1)
   have lb1:b<w1.heap.size:=by omega
   go_wp2_with fail
   go_roundw
   case rel=>exact ⟨j+1,n+1+1,by omega,by go_num,rfl,by omega,by omega,(((hmr.out.then_ (fun q hq=>by have:=hD q hq;(repeat rw[World.size_setCell]);omega) hb1).put hDb d0 (.str _ _)).put hDb d1 (.int _ _)),(((htr.out.then_ hb1).put hDb _).put hDb _)⟩
   case measure=>simp[intOf];omega
  ·go_wp2_with fail
   go_ret
   exact ⟨n,rfl,hn0,by omega,hmr.out,htr.out⟩
set_option maxHeartbeats 1000000 in
theorem markArcS_arg (w0:World) (D:Nat→Prop) (hD:∀b,D b→b<w0.heap.size) (hnf:∀b o,D b→w0.frozen? ⟨b,o,none⟩=false) (A:Option Addr) (c:Nat) (l:List Ac) (hr:RSl Zcv w0 D A l) (hl:l.length≤9223372036854775807) (k:Int) (w:World) (hm:Marked D w0 w) (h0:0≤k) (hk:k+64 * ((l).length:Nat)≤4611686018427387904):
 Calls Tryz.prog 80 #[.slice A l.length c,.int .i64 k] w fun e w'=>∃k':Int,e=.returned (.int .i64 k')∧k≤k'∧k'≤k+64 * ((l).length:Nat)∧Marked D w0 w'∧Touch D w w':=by
 go_enter Tryz.func80,Tryz.ntmps80
 go_wp2_with fail
 go_loopw [5,1] (fun i kv wr=>∃(j:Nat) (n:Int),j≤l.length∧i=.int .i64 j∧kv=.int .i64 n∧k≤n∧n+64 * (((l.drop j)).length:Nat)≤k+64 * ((l).length:Nat)∧Hid (Marked D w0 wr)∧Hid (Touch D w wr)) (fun i _ _=>l.length - (intOf i).toNat)
 case atStart=>exact ⟨0,k,Nat.zero_le _,rfl,rfl,Int.le_refl _,by simp,hm,Touch.refl _ _⟩
 case round=>
  obtain ⟨j,n,hj,rfl,rfl,hn0,hn1,hmr,htr⟩:=hrel
  have hsr:=hmr.out.size
  by_cases hlt:j<l.length
  ·obtain ⟨x,hx⟩:=Zq hlt
   obtain ⟨b,off,rfl,hDb,d0,d1,d2,d3,f0,f1,f2⟩:=hr.Ac_at hx
   have hcost:(((l.drop j)).length:Nat)=1+(((l.drop (j+1))).length:Nat):=by rw[Zcj hx];rw[List.length_cons];omega
   rw[hcost] at hn1
   clear hcost hx
   have lb:=hD b hDb
   have hk0:0≤n:=by omega
   have lbr:b<wr.heap.size:=by omega
   obtain ⟨v0_0,e0_0,_⟩:=hmr.out.cells _ _ _ hDb d0
   have z0_0:wr.frozen? ⟨b,off+j * 4,none⟩=false:=(hmr.out.froz _ _ hDb).trans (hnf _ _ hDb)
   obtain ⟨v1_0,e1_0,_⟩:=hmr.out.cells _ _ _ hDb d1
   have z1_0:wr.frozen? ⟨b,off+j * 4+1,none⟩=false:=(hmr.out.froz _ _ hDb).trans (hnf _ _ hDb)
   obtain ⟨v2_0,e2_0,_⟩:=hmr.out.cells _ _ _ hDb d2
   have z2_0:wr.frozen? ⟨b,off+j * 4+2,none⟩=false:=(hmr.out.froz _ _ hDb).trans (hnf _ _ hDb)
   obtain ⟨v3_0,e3_0,_⟩:=hmr.out.cells _ _ _ hDb d3
   have z3_0:wr.frozen? ⟨b,off+j * 4+3,none⟩=false:=(hmr.out.froz _ _ hDb).trans (hnf _ _ hDb)
   go_wp2_with fail
   go_roundw
   case rel=>exact ⟨j+1,n+1+1+1+1,by omega,by go_num,rfl,by omega,by omega,((((hmr.out.put hDb d0 (.int _ _)).put hDb d1 (.int _ _)).put hDb d2 (.bool _ _)).put hDb d3 (.int _ _)),((((htr.out.put hDb _).put hDb _).put hDb _).put hDb _)⟩
   case measure=>simp[intOf];omega
  ·go_wp2_with fail
   go_ret
   exact ⟨n,rfl,hn0,by omega,hmr.out,htr.out⟩
set_option maxHeartbeats 1000000 in
theorem markStringS_arg (w0:World) (D:Nat→Prop) (hD:∀b,D b→b<w0.heap.size) (hnf:∀b o,D b→w0.frozen? ⟨b,o,none⟩=false) (A:Option Addr) (c:Nat) (l:List (List UInt8)) (hr:RSl Zab w0 D A l) (hl:l.length≤9223372036854775807) (k:Int) (w:World) (hm:Marked D w0 w) (h0:0≤k) (hk:k+64 * ((wtL Zbx l):Nat)≤4611686018427387904):
 Calls Tryz.prog 79 #[.slice A l.length c,.int .i64 k] w fun e w'=>∃k':Int,e=.returned (.int .i64 k')∧k≤k'∧k'≤k+64 * ((wtL Zbx l):Nat)∧Marked D w0 w'∧Touch D w w':=by
 go_enter Tryz.func79,Tryz.ntmps79
 go_wp2_with fail
 go_loopw [5,1] (fun i kv wr=>∃(j:Nat) (n:Int),j≤l.length∧i=.int .i64 j∧kv=.int .i64 n∧k≤n∧n+64 * ((wtL Zbx (l.drop j)):Nat)≤k+64 * ((wtL Zbx l):Nat)∧Hid (Marked D w0 wr)∧Hid (Touch D w wr)) (fun i _ _=>l.length - (intOf i).toNat)
 case atStart=>exact ⟨0,k,Nat.zero_le _,rfl,rfl,Int.le_refl _,by simp,hm,Touch.refl _ _⟩
 case round=>
  obtain ⟨j,n,hj,rfl,rfl,hn0,hn1,hmr,htr⟩:=hrel
  have hsr:=hmr.out.size
  by_cases hlt:j<l.length
  ·obtain ⟨x,hx⟩:=Zq hlt
   obtain ⟨b,off,rfl,hDb,d0,f0⟩:=hr.str_at hx
   have hcost:((wtL Zbx (l.drop j)):Nat)=1+Zbx x+((wtL Zbx (l.drop (j+1))):Nat):=by rw[Zcj hx];rw[Zlq]
   rw[show Zbx x=x.length from rfl] at hcost
   rw[hcost] at hn1
   clear hcost hx
   have lb:=hD b hDb
   have hk0:0≤n:=by omega
   have lbr:b<wr.heap.size:=by omega
   obtain ⟨v0_0,e0_0,_⟩:=hmr.out.cells _ _ _ hDb d0
   have z0_0:wr.frozen? ⟨b,off+j,none⟩=false:=(hmr.out.froz _ _ hDb).trans (hnf _ _ hDb)
   go_wp2_with fail
   refine (ZgK (n) _ (by omega) (by omega)).mono ?_
   rintro e w1 ⟨rfl,hb1⟩
   obtain ⟨hc1,hf1⟩:=Z4 hb1
   have hz1:=hb1.size
   repeat (first|rw[World.size_setCell] at hz1)
   have lb1:b<w1.heap.size:=by omega
   go_wp2_with fail
   go_roundw
   case rel=>exact ⟨j+1,n+1,by omega,by go_num,rfl,by omega,by omega,((hmr.out.then_ (fun q hq=>by have:=hD q hq;(repeat rw[World.size_setCell]);omega) hb1).put hDb d0 (.str _ _)),((htr.out.then_ hb1).put hDb _)⟩
   case measure=>simp[intOf];omega
  ·go_wp2_with fail
   go_ret
   exact ⟨n,rfl,hn0,by omega,hmr.out,htr.out⟩
set_option maxHeartbeats 1000000 in
theorem markStateGraph_arg (w0:World) (D:Nat→Prop) (hD:∀b,D b→b<w0.heap.size) (hnf:∀b o,D b→w0.frozen? ⟨b,o,none⟩=false) (x:SGr) (A_signals:Option Addr) (c_signals:Nat) (A_codes:Option Addr) (c_codes:Nat) (A_arcs:Option Addr) (c_arcs:Nat) (g0:(x.signals).length≤c_signals) (g1:c_signals≤9223372036854775807) (g2:RSl Z2 w0 D A_signals x.signals) (g3:(x.codes).length≤c_codes) (g4:c_codes≤9223372036854775807) (g5:RSl Zab w0 D A_codes x.codes) (g6:(x.arcs).length≤c_arcs) (g7:c_arcs≤9223372036854775807) (g8:RSl Zcv w0 D A_arcs x.arcs) (k:Int) (w:World) (hm:Marked D w0 w) (h0:0≤k) (hk:k+64 * (wtSGr x:Nat)≤4611686018427387904):
 Calls Tryz.prog 29 #[.agg #[.slice A_signals (x.signals).length c_signals,.slice A_codes (x.codes).length c_codes,.slice A_arcs (x.arcs).length c_arcs],.int .i64 k] w fun e w'=>∃k':Int,e=.returned (.int .i64 k')∧k≤k'∧k'≤k+64 * (wtSGr x:Nat)∧Marked D w0 w'∧Touch D w w':=by
 have hwt:wtSGr x=wtSGr x:=rfl
 conv at hwt=>rhs;unfold wtSGr
 rw[hwt] at hk⊢
 clear hwt
 have hs0:=hm.size
 have hbx:∀b,b=w.heap.size→¬D b:=fun b hb hd=>by have:=hD b hd;omega
 go_enter Tryz.func29,Tryz.ntmps29
 go_wp2_with fail
 have hM0:=hm.then_ (fun q hq=>by have:=hD q hq;omega) ((Below.refl w.heap.size w).alloc (Nat.le_refl _) (.cells #[.slice A_signals (x.signals).length c_signals,.slice A_codes (x.codes).length c_codes,.slice A_arcs (x.arcs).length c_arcs] 39))
 have hT0:Touch D w (w.alloc (.cells #[.slice A_signals (x.signals).length c_signals,.slice A_codes (x.codes).length c_codes,.slice A_arcs (x.arcs).length c_arcs] 39)):=(Touch.refl D w).then_ ((Below.refl w.heap.size w).alloc (Nat.le_refl _) _)
 refine (markSignalS_arg w0 D hD hnf _ _ _ g2 (by omega) k _ hM0 (by omega) (by omega)).mono ?_
 rintro e w1 ⟨n1,rfl,hp1,hq1,hM1,hT1⟩
 have hTT1:Touch D w w1:=Touch.chain hT0 hT1 hD hm.size
 have hs1:=hT1.size
 rw[World.size_alloc] at hs1
 have e1_1:w1.cell? ⟨w.heap.size,1,none⟩=some (.slice A_codes (x.codes).length c_codes):=by rw[hT1.cell (by first|omega|(rw[World.size_alloc];omega)) (hbx _ rfl)];simp[go_sem]
 have e2_1:w1.cell? ⟨w.heap.size,2,none⟩=some (.slice A_arcs (x.arcs).length c_arcs):=by rw[hT1.cell (by first|omega|(rw[World.size_alloc];omega)) (hbx _ rfl)];simp[go_sem]
 go_wp2_with fail
 refine (markStringS_arg w0 D hD hnf _ _ _ g5 (by omega) n1 _ hM1 (by omega) (by omega)).mono ?_
 rintro e w2 ⟨n2,rfl,hp2,hq2,hM2,hT2⟩
 have hTT2:Touch D w w2:=Touch.chain hTT1 hT2 hD hm.size
 have hs2:=hT2.size
 have e2_2:w2.cell? ⟨w.heap.size,2,none⟩=some (.slice A_arcs (x.arcs).length c_arcs):=by rw[hT2.cell (by first|omega|(rw[World.size_alloc];omega)) (hbx _ rfl)];exact e2_1
 go_wp2_with fail
 refine (markArcS_arg w0 D hD hnf _ _ _ g8 (by omega) n2 _ hM2 (by omega) (by omega)).mono ?_
 rintro e w3 ⟨n3,rfl,hp3,hq3,hM3,hT3⟩
 have hTT3:Touch D w w3:=Touch.chain hTT2 hT3 hD hm.size
 have hs3:=hT3.size
 go_wp2_with fail
 go_ret
 exact ⟨n3,rfl,by omega,by omega,hM3,hTT3⟩
set_option maxHeartbeats 1000000 in
theorem markPinS_arg (w0:World) (D:Nat→Prop) (hD:∀b,D b→b<w0.heap.size) (hnf:∀b o,D b→w0.frozen? ⟨b,o,none⟩=false) (A:Option Addr) (c:Nat) (l:List Pin) (hr:RSl ZbN w0 D A l) (hl:l.length≤9223372036854775807) (k:Int) (w:World) (hm:Marked D w0 w) (h0:0≤k) (hk:k+64 * ((l).length:Nat)≤4611686018427387904):
 Calls Tryz.prog 124 #[.slice A l.length c,.int .i64 k] w fun e w'=>∃k':Int,e=.returned (.int .i64 k')∧k≤k'∧k'≤k+64 * ((l).length:Nat)∧Marked D w0 w'∧Touch D w w':=by
 go_enter Tryz.func124,Tryz.ntmps124
 go_wp2_with fail
 go_loopw [5,1] (fun i kv wr=>∃(j:Nat) (n:Int),j≤l.length∧i=.int .i64 j∧kv=.int .i64 n∧k≤n∧n+64 * (((l.drop j)).length:Nat)≤k+64 * ((l).length:Nat)∧Hid (Marked D w0 wr)∧Hid (Touch D w wr)) (fun i _ _=>l.length - (intOf i).toNat)
 case atStart=>exact ⟨0,k,Nat.zero_le _,rfl,rfl,Int.le_refl _,by simp,hm,Touch.refl _ _⟩
 case round=>
  obtain ⟨j,n,hj,rfl,rfl,hn0,hn1,hmr,htr⟩:=hrel
  have hsr:=hmr.out.size
  by_cases hlt:j<l.length
  ·obtain ⟨x,hx⟩:=Zq hlt
   obtain ⟨b,off,rfl,hDb,d0,d1,f0⟩:=hr.Pin_at hx
   have hcost:(((l.drop j)).length:Nat)=1+(((l.drop (j+1))).length:Nat):=by rw[Zcj hx];rw[List.length_cons];omega
   rw[hcost] at hn1
   clear hcost hx
   have lb:=hD b hDb
   have hk0:0≤n:=by omega
   have lbr:b<wr.heap.size:=by omega
   obtain ⟨v0_0,e0_0,_⟩:=hmr.out.cells _ _ _ hDb d0
   have z0_0:wr.frozen? ⟨b,off+j * 2,none⟩=false:=(hmr.out.froz _ _ hDb).trans (hnf _ _ hDb)
   obtain ⟨v1_0,e1_0,_⟩:=hmr.out.cells _ _ _ hDb d1
   have z1_0:wr.frozen? ⟨b,off+j * 2+1,none⟩=false:=(hmr.out.froz _ _ hDb).trans (hnf _ _ hDb)
   go_wp2_with fail
   go_roundw
   case rel=>exact ⟨j+1,n+1+1,by omega,by go_num,rfl,by omega,by omega,((hmr.out.put hDb d0 (.int _ _)).put hDb d1 (.bool _ _)),((htr.out.put hDb _).put hDb _)⟩
   case measure=>simp[intOf];omega
  ·go_wp2_with fail
   go_ret
   exact ⟨n,rfl,hn0,by omega,hmr.out,htr.out⟩
set_option maxHeartbeats 1000000 in
theorem markWireS_arg (w0:World) (D:Nat→Prop) (hD:∀b,D b→b<w0.heap.size) (hnf:∀b o,D b→w0.frozen? ⟨b,o,none⟩=false) (A:Option Addr) (c:Nat) (l:List Wire) (hr:RSl Zah w0 D A l) (hl:l.length≤9223372036854775807) (k:Int) (w:World) (hm:Marked D w0 w) (h0:0≤k) (hk:k+64 * ((wtL wtWire l):Nat)≤4611686018427387904):
 Calls Tryz.prog 81 #[.slice A l.length c,.int .i64 k] w fun e w'=>∃k':Int,e=.returned (.int .i64 k')∧k≤k'∧k'≤k+64 * ((wtL wtWire l):Nat)∧Marked D w0 w'∧Touch D w w':=by
 go_enter Tryz.func81,Tryz.ntmps81
 go_wp2_with fail
 go_loopw [5,1] (fun i kv wr=>∃(j:Nat) (n:Int),j≤l.length∧i=.int .i64 j∧kv=.int .i64 n∧k≤n∧n+64 * ((wtL wtWire (l.drop j)):Nat)≤k+64 * ((wtL wtWire l):Nat)∧Hid (Marked D w0 wr)∧Hid (Touch D w wr)) (fun i _ _=>l.length - (intOf i).toNat)
 case atStart=>exact ⟨0,k,Nat.zero_le _,rfl,rfl,Int.le_refl _,by simp,hm,Touch.refl _ _⟩
 case round=>
  obtain ⟨j,n,hj,rfl,rfl,hn0,hn1,hmr,htr⟩:=hrel
  have hsr:=hmr.out.size
  by_cases hlt:j<l.length
  ·obtain ⟨x,hx⟩:=Zq hlt
   obtain ⟨b,off,A_ins,c_ins,A_cover,c_cover,rfl,hDb,d0,d1,d2,d3,f0,f1,f2,f3,f4,f5,f6,f7⟩:=hr.Wire_at hx
   have hcost:((wtL wtWire (l.drop j)):Nat)=1+wtWire x+((wtL wtWire (l.drop (j+1))):Nat):=by rw[Zcj hx];rw[Zlq]
   rw[show wtWire x=(x.name).length+(x.ins).length+(wtL Zbx x.cover) from rfl] at hcost
   rw[hcost] at hn1
   clear hcost hx
   have lb:=hD b hDb
   have hk0:0≤n:=by omega
   have lbr:b<wr.heap.size:=by omega
   obtain ⟨v0_0,e0_0,_⟩:=hmr.out.cells _ _ _ hDb d0
   have z0_0:wr.frozen? ⟨b,off+j * 4,none⟩=false:=(hmr.out.froz _ _ hDb).trans (hnf _ _ hDb)
   obtain ⟨v1_0,e1_0,_⟩:=hmr.out.cells _ _ _ hDb d1
   have z1_0:wr.frozen? ⟨b,off+j * 4+1,none⟩=false:=(hmr.out.froz _ _ hDb).trans (hnf _ _ hDb)
   have e2_0:wr.cell? ⟨b,off+j * 4+2,none⟩=some (.slice A_ins (x.ins).length c_ins):=by obtain ⟨v1,h1,h2⟩:=hmr.out.cells _ _ _ hDb d2;rw[h1,h2.slice]
   have e3_0:wr.cell? ⟨b,off+j * 4+3,none⟩=some (.slice A_cover (x.cover).length c_cover):=by obtain ⟨v1,h1,h2⟩:=hmr.out.cells _ _ _ hDb d3;rw[h1,h2.slice]
   go_wp2_with fail
   refine (ZgK (n) _ (by omega) (by omega)).mono ?_
   rintro e w1 ⟨rfl,hb1⟩
   obtain ⟨hc1,hf1⟩:=Z4 hb1
   have hz1:=hb1.size
   repeat (first|rw[World.size_setCell] at hz1)
   have lb1:b<w1.heap.size:=by omega
   go_wp2_with fail
   have hMc2:=(((hmr.out.then_ (fun q hq=>by have:=hD q hq;(repeat rw[World.size_setCell]);omega) hb1).put hDb d0 (.str _ ⟨(Zjc (n).toNat).toArray⟩)).put hDb d1 (.int _ (n+1)))
   have hTc2:=(Touch.put (p:=⟨b,off+j * 4+1,none⟩) (Touch.put (p:=⟨b,off+j * 4,none⟩) (htr.out.then_ hb1) hDb (.string ⟨(Zjc (n).toNat).toArray⟩)) hDb (.int .i64 (n+1)))
   refine (markPinS_arg w0 D hD hnf _ _ _ f4 (by omega) (n+1+1) _ hMc2 (by omega) (by omega)).mono ?_
   rintro e w2 ⟨n2,rfl,hp2,hq2,hM2,hT2⟩
   have hTT2:Touch D w w2:=Touch.chain hTc2 hT2 hD hm.size
   have hs2:=hM2.size
   have e3_2:w2.cell? ⟨b,off+j * 4+3,none⟩=some (.slice A_cover (x.cover).length c_cover):=by obtain ⟨v1,h1,h2⟩:=hM2.cells _ _ _ hDb d3;rw[h1,h2.slice]
   go_wp2_with fail
   have hMc3:=hM2
   have hTc3:=hTT2
   refine (markStringS_arg w0 D hD hnf _ _ _ f7 (by omega) (n2) _ hMc3 (by omega) (by omega)).mono ?_
   rintro e w3 ⟨n3,rfl,hp3,hq3,hM3,hT3⟩
   have hTT3:Touch D w w3:=Touch.chain hTc3 hT3 hD hm.size
   have hs3:=hM3.size
   go_wp2_with fail
   go_roundw
   case rel=>exact ⟨j+1,n3,by omega,by go_num,rfl,by omega,by omega,hM3,hTT3⟩
   case measure=>simp[intOf];omega
  ·go_wp2_with fail
   go_ret
   exact ⟨n,rfl,hn0,by omega,hmr.out,htr.out⟩
set_option maxHeartbeats 1000000 in
theorem markNetlist_arg (w0:World) (D:Nat→Prop) (hD:∀b,D b→b<w0.heap.size) (hnf:∀b o,D b→w0.frozen? ⟨b,o,none⟩=false) (x:Nl) (A_signals:Option Addr) (c_signals:Nat) (A_wires:Option Addr) (c_wires:Nat) (g0:(x.signals).length≤c_signals) (g1:c_signals≤9223372036854775807) (g2:RSl Z2 w0 D A_signals x.signals) (g3:(x.wires).length≤c_wires) (g4:c_wires≤9223372036854775807) (g5:RSl Zah w0 D A_wires x.wires) (k:Int) (w:World) (hm:Marked D w0 w) (h0:0≤k) (hk:k+64 * (wtNl x:Nat)≤4611686018427387904):
 Calls Tryz.prog 30 #[.agg #[.slice A_signals (x.signals).length c_signals,.slice A_wires (x.wires).length c_wires],.int .i64 k] w fun e w'=>∃k':Int,e=.returned (.int .i64 k')∧k≤k'∧k'≤k+64 * (wtNl x:Nat)∧Marked D w0 w'∧Touch D w w':=by
 have hwt:wtNl x=wtNl x:=rfl
 conv at hwt=>rhs;unfold wtNl
 rw[hwt] at hk⊢
 clear hwt
 have hs0:=hm.size
 have hbx:∀b,b=w.heap.size→¬D b:=fun b hb hd=>by have:=hD b hd;omega
 go_enter Tryz.func30,Tryz.ntmps30
 go_wp2_with fail
 have hM0:=hm.then_ (fun q hq=>by have:=hD q hq;omega) ((Below.refl w.heap.size w).alloc (Nat.le_refl _) (.cells #[.slice A_signals (x.signals).length c_signals,.slice A_wires (x.wires).length c_wires] 43))
 have hT0:Touch D w (w.alloc (.cells #[.slice A_signals (x.signals).length c_signals,.slice A_wires (x.wires).length c_wires] 43)):=(Touch.refl D w).then_ ((Below.refl w.heap.size w).alloc (Nat.le_refl _) _)
 refine (markSignalS_arg w0 D hD hnf _ _ _ g2 (by omega) k _ hM0 (by omega) (by omega)).mono ?_
 rintro e w1 ⟨n1,rfl,hp1,hq1,hM1,hT1⟩
 have hTT1:Touch D w w1:=Touch.chain hT0 hT1 hD hm.size
 have hs1:=hT1.size
 rw[World.size_alloc] at hs1
 have e1_1:w1.cell? ⟨w.heap.size,1,none⟩=some (.slice A_wires (x.wires).length c_wires):=by rw[hT1.cell (by first|omega|(rw[World.size_alloc];omega)) (hbx _ rfl)];simp[go_sem]
 go_wp2_with fail
 refine (markWireS_arg w0 D hD hnf _ _ _ g5 (by omega) n1 _ hM1 (by omega) (by omega)).mono ?_
 rintro e w2 ⟨n2,rfl,hp2,hq2,hM2,hT2⟩
 have hTT2:Touch D w w2:=Touch.chain hTT1 hT2 hD hm.size
 have hs2:=hT2.size
 go_wp2_with fail
 go_ret
 exact ⟨n2,rfl,by omega,by omega,hM2,hTT2⟩
theorem mrow_step2 {α:Type} {S:Sh α} {w w1:World} {e:TypeId} {c k g:Nat} {l:List α} {x:α} {v0 v1:Value} {o0 o1:Nat} (hS:S.size=2) (h:ZeI S w (some ⟨g,0,none⟩) e c k l) (hx:l[k]?=some x) (h0:o0=k * 2) (h1:o1=k * 2+1)
 (hb:Below (w.setCell ⟨g,o0,none⟩ v0).heap.size (w.setCell ⟨g,o0,none⟩ v0) w1) (hr:∀W,S.rep W (fun _=>False) [v0,v1] x):ZeI S (w1.setCell ⟨g,o1,none⟩ v1) (some ⟨g,0,none⟩) e c (k+1) l:=by
 subst h0 h1
 rcases h with rfl|⟨g',hA,hc,f,hf,hel⟩
 ·simp at hx
 ·injection hA with hA;injection hA with hA;subst hA
  have hglt:=hf.lt
  have r1:=hf.set (k * 2) v0
  have r2:=r1.of_block (hb.block g r1.lt)
  have r3:=r2.set (k * 2+1) v1
  refine .inr ⟨g,rfl,hc,_,r3,fun j y hj hjy=> ?_⟩
  by_cases hjk:j<k
  ·obtain ⟨cs,hcs,he⟩:=hel j y hjk hjy
   refine ⟨cs,S.keep hcs (fun _ h=>h.elim) (fun _ h=>h),fun i v hi=> ?_⟩
   have hil:i<2:=by rw[←hS,←S.len hcs];exact ZaL hi
   have hv:=he i v hi
   rw[hS] at hv⊢
   rw[if_neg (by omega),if_neg (by omega)]
   exact hv
  ·have hjk2:j=k:=by omega
   subst hjk2
   rw[hx] at hjy
   injection hjy with e'
   subst e'
   refine ⟨[v0,v1],hr _,fun i v hi=> ?_⟩
   rw[hS]
   match i,hi with
   |0,hi=>simp at hi;subst hi;rw[if_neg (by omega),if_pos (by omega)]
   |1,hi=>simp at hi;subst hi;rw[if_pos rfl]
   |i+2,hi=>simp at hi
def mkPSt (n:Int) (_:PSt):PSt:=⟨n,Zjc (n+1).toNat⟩
set_option maxHeartbeats 1000000 in
theorem markProductStateS_own (base:Nat) (t:TypeId) (A:Option Addr) (c:Nat) (l:List PSt) (k:Int) (w:World) (ho:Own Zcc w base t A c l) (h0:0≤k) (hk:k+2 * l.length≤4611686018427387904):
 Calls Tryz.prog 31 #[.slice A l.length c,.int .i64 k] w fun e w'=>e=.returned (.int .i64 (k+2 * l.length))∧RSl Zcc w' (fun b=>blk A=some b) A (Zcf mkPSt 2 k l)∧Touch (fun b=>blk A=some b) w w':=by
 have hcap:=ho.cap
 have hlt0:=ho.lt
 have HM:Hid (ZeI Zcc w A t c 0 (Zcf mkPSt 2 k l)):=ho.mrow (Ze3 _ _ _ _)
 obtain ⟨ml,hml⟩:∃ml,(Zcf mkPSt 2 k l)=ml:=⟨_,rfl⟩
 have hmlen:ml.length=l.length:=by rw[←hml];exact Ze3 _ _ _ _
 rw[hml] at HM⊢
 have HML:=Zj hml;clear hml
 go_enter Tryz.func31,Tryz.ntmps31
 go_wp2_with fail
 go_loopw [5,1] (fun i kv wr=>∃(j:Nat) (n:Int),j≤l.length∧i=.int .i64 j∧kv=.int .i64 n∧Hid (n=k+2 * j)∧Hid (ZeI Zcc wr A t c j ml)∧Hid (Touch (fun b=>blk A=some b) w wr)) (fun i _ _=>l.length - (intOf i).toNat)
 case atStart=>exact ⟨0,k,Nat.zero_le _,rfl,rfl,by show _=_;omega,HM,Touch.refl _ _⟩
 case round=>
  obtain ⟨j,n,hj,rfl,rfl,hn,hmr,htr⟩:=hrel
  have hnv:=hn.out
  have hsr:=htr.out.size
  by_cases hlt:j<l.length
  ·obtain ⟨x,hx⟩:=Zq hlt
   have hmx:ml[j]?=some (mkPSt n x):=by rw[←HML.out,Ze4 hx,hnv];rfl
   obtain ⟨g,rfl,hroom⟩:=hmr.out.room hmx
   have lg:g<wr.heap.size:=by have:=(hlt0 g rfl).2;omega
   obtain ⟨⟨v0,r0⟩,z0⟩:=hroom 0 (by decide)
   obtain ⟨⟨v1,r1⟩,z1⟩:=hroom 1 (by decide)
   simp only[Zhm,Nat.add_zero] at r0 z0 r1 z1
   have HX:=Zj hmx;clear hmx hx hroom
   have hk0:0≤n∧n+2≤4611686018427387904:=by omega
   clear hnv
   go_wp2_with fail
   refine (ZgK (n+1) _ (by omega) (by omega)).mono ?_
   rintro e w1 ⟨rfl,hb1⟩
   obtain ⟨hc1,hf1⟩:=Z4 hb1
   have hz1:=hb1.size
   repeat (first|rw[World.size_setCell] at hz1)
   go_wp2_with fail
   go_roundw
   case rel=>exact ⟨j+1,n+1+1,by omega,by go_num,by go_num,by have:=hn.out;show _=_;omega,Zj (mrow_step2 rfl hmr.out HX.out rfl rfl hb1 fun _=>Zoc (x:=mkPSt n x) (by constructor<;>simp only[mkPSt]<;>omega) (Zss _)),Zj (Touch.put ((Touch.put htr.out (p:=⟨g,j * 2,none⟩) rfl _).then_ hb1) (p:=⟨g,j * 2+1,none⟩) rfl _)⟩
   case measure=>simp[intOf];omega
  ·have hjl:j=l.length:=by omega
   have HJ:=Zj hjl;clear hjl hnv
   go_wp2_with fail
   go_ret
   refine ⟨ZS (by rw[hn.out,HJ.out]), ?_,htr.out⟩
   have h:=hmr.out
   rw[HJ.out,←hmlen] at h
   exact h.done
set_option maxHeartbeats 1000000 in
theorem heldProductStateS (A:Option Addr) (c:Nat) (l:List PSt) (k:Int) (w:World) (hl:l.length≤9223372036854775807) (hr:RA Zcc w A (Zcf mkPSt 2 k l)) (h0:0≤k) (hk:k+2 * l.length≤4611686018427387904):
 Calls Tryz.prog 33 #[.slice A l.length c,.int .i64 k] w fun e w'=>e=.returned (.int .i64 (k+2 * l.length))∧Below w.heap.size w w':=by
 go_enter Tryz.func33,Tryz.ntmps33
 go_wp2_with fail
 go_loopw [5,1] (fun i kv wr=>∃(j:Nat) (n:Int),j≤l.length∧i=.int .i64 j∧kv=.int .i64 n∧Hid (n=k+2 * j)∧Below w.heap.size w wr) (fun i _ _=>l.length - (intOf i).toNat)
 case atStart=>exact ⟨0,k,Nat.zero_le _,rfl,rfl,by show _=_;omega,Below.refl _ _⟩
 case round=>
  obtain ⟨j,n,hj,rfl,rfl,hn,hb⟩:=hrel
  have hnv:=hn.out
  have hsz:=hb.size
  by_cases hlt:j<l.length
  ·obtain ⟨x,hx⟩:=Zq hlt
   have hmx:(Zcf mkPSt 2 k l)[j]?=some (mkPSt n x):=by rw[Ze4 hx,hnv];rfl
   obtain ⟨b,off,rfl,hbl,d0,d1,f0,f1⟩:=hr.PSt_at hb hmx
   simp only[mkPSt] at d0 d1
   clear hmx hx
   have hk0:0≤n∧n+2≤4611686018427387904:=by omega
   clear hnv
   go_wp2_with fail
   try go_quiet (fail)
   go_wp2_with fail
   go_region_held3 (fun W=>W.cell? ⟨b,off+j * 2+1,none⟩=some (.string ⟨(Zjc (n+1).toNat).toArray⟩)) (first|exact d1|exact (cell_later hb1 d1)) (first|(go_at_call 82;refine (ZgK (n+1) _ (by omega) (by omega)).mono ?_;rintro e w1 ⟨rfl,hb1⟩))
   have hb2:=hb.drew.trans (hb1.mono hsz)
   go_wp2_with fail
   go_roundw
   case rel=>exact ⟨j+1,n+1+1,by omega,by go_num,by go_num,by have:=hn.out;show _=_;omega,by (repeat' (first|(with_reducible exact Below.refl _ _)|(with_reducible assumption)|(with_reducible refine Zb ?_ _)|(with_reducible refine Below.drew ?_)|(with_reducible refine Below.alloc ?_ ?_ _)|(with_reducible refine Below.setCell ?_ ?_ _)|(with_reducible refine Below.then_ ?_ (by assumption) ?_)|go_size))⟩
   case measure=>simp[intOf];omega
  ·have hjl:j=l.length:=by omega
   have HJ:=Zj hjl;clear hjl hnv
   go_wp2_with fail
   go_ret
   exact ⟨ZS (by rw[hn.out,HJ.out]),hb⟩
end Go.Proofs.YtmfplddmccggkaaGreat.Lw
