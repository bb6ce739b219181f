import Derived.Test.YthobodfbjjjiiaaRows
import Derived.Test.YthobodfbjjjiiaaMarkText
import Derived.Test.YthobodfbjjjiiaaLawBs
namespace Go.Proofs.Ythobodfbjjjiiaa.Lw
open Go.RowKit
set_option linter.unusedVariables false
set_option maxHeartbeats 1000000 in
theorem markIntS_arg (w0:World) (D:Nat→Prop) (hD:∀b,D b→b<w0.heap.size) (hnf:∀b o,D b→w0.frozen? ⟨b,o,none⟩=false) (A:Option Addr) (c:Nat) (l:List Int) (hr:RSl Ze8 w0 D A l) (hl:l.length≤9223372036854775807) (k:Int) (w:World) (hm:Marked D w0 w) (h0:0≤k) (hk:k+64 * ((l).length:Nat)≤4611686018427387904):
 Calls Try.prog 77 #[.slice A l.length c,.int .i64 k] w fun e w'=>∃k':Int,e=.returned (.int .i64 k')∧k≤k'∧k'≤k+64 * ((l).length:Nat)∧Marked D w0 w'∧Touch D w w':=by
 go_enter Try.func77,Try.ntmps77
 go_wp2_with fail
 go_loopw [5,1] (fun i kv wr=>∃(j:Nat) (n:Int),j≤l.length∧i=.int .i64 j∧kv=.int .i64 n∧k≤n∧n+64 * (((l.drop j)).length:Nat)≤k+64 * ((l).length:Nat)∧Hid (Marked D w0 wr)∧Hid (Touch D w wr)) (fun i _ _=>l.length - (intOf i).toNat)
 case atStart=>exact ⟨0,k,Nat.zero_le _,rfl,rfl,Int.le_refl _,by simp,hm,Touch.refl _ _⟩
 case round=>
  obtain ⟨j,n,hj,rfl,rfl,hn0,hn1,hmr,htr⟩:=hrel
  have hsr:=hmr.out.size
  by_cases hlt:j<l.length
  ·obtain ⟨x,hx⟩:=ZfX hlt
   obtain ⟨b,off,rfl,hDb,d0,f0⟩:=hr.int_at hx
   have hcost:(((l.drop j)).length:Nat)=1+(((l.drop (j+1))).length:Nat):=by rw[ZtB hx];rw[List.length_cons];omega
   rw[hcost] at hn1
   clear hcost hx
   have lb:=hD b hDb
   have hk0:0≤n:=by omega
   have lbr:b<wr.heap.size:=by omega
   obtain ⟨v0_0,e0_0,_⟩:=hmr.out.cells _ _ _ hDb d0
   have z0_0:wr.frozen? ⟨b,off+j,none⟩=false:=(hmr.out.froz _ _ hDb).trans (hnf _ _ hDb)
   go_wp2_with fail
   go_roundw
   case rel=>exact ⟨j+1,n+1,by omega,by go_num,rfl,by omega,by omega,(hmr.out.put hDb d0 (.int _ _)),(htr.out.put hDb _)⟩
   case measure=>simp[intOf];omega
  ·go_wp2_with fail
   go_ret
   exact ⟨n,rfl,hn0,by omega,hmr.out,htr.out⟩
set_option maxHeartbeats 1000000 in
theorem markTransitionS_arg (w0:World) (D:Nat→Prop) (hD:∀b,D b→b<w0.heap.size) (hnf:∀b o,D b→w0.frozen? ⟨b,o,none⟩=false) (A:Option Addr) (c:Nat) (l:List Tr) (hr:RSl ZrX w0 D A l) (hl:l.length≤9223372036854775807) (k:Int) (w:World) (hm:Marked D w0 w) (h0:0≤k) (hk:k+64 * ((wtL wtTr l):Nat)≤4611686018427387904):
 Calls Try.prog 58 #[.slice A l.length c,.int .i64 k] w fun e w'=>∃k':Int,e=.returned (.int .i64 k')∧k≤k'∧k'≤k+64 * ((wtL wtTr l):Nat)∧Marked D w0 w'∧Touch D w w':=by
 go_enter Try.func58,Try.ntmps58
 go_wp2_with fail
 go_loopw [5,1] (fun i kv wr=>∃(j:Nat) (n:Int),j≤l.length∧i=.int .i64 j∧kv=.int .i64 n∧k≤n∧n+64 * ((wtL wtTr (l.drop j)):Nat)≤k+64 * ((wtL wtTr l):Nat)∧Hid (Marked D w0 wr)∧Hid (Touch D w wr)) (fun i _ _=>l.length - (intOf i).toNat)
 case atStart=>exact ⟨0,k,Nat.zero_le _,rfl,rfl,Int.le_refl _,by simp,hm,Touch.refl _ _⟩
 case round=>
  obtain ⟨j,n,hj,rfl,rfl,hn0,hn1,hmr,htr⟩:=hrel
  have hsr:=hmr.out.size
  by_cases hlt:j<l.length
  ·obtain ⟨x,hx⟩:=ZfX hlt
   obtain ⟨b,off,A_pre,c_pre,A_post,c_post,rfl,hDb,d0,d1,f0,f1,f2,f3,f4,f5⟩:=hr.Tr_at hx
   have hcost:((wtL wtTr (l.drop j)):Nat)=1+wtTr x+((wtL wtTr (l.drop (j+1))):Nat):=by rw[ZtB hx];rw[Zt8]
   rw[show wtTr x=(x.pre).length+(x.post).length from rfl] at hcost
   rw[hcost] at hn1
   clear hcost hx
   have lb:=hD b hDb
   have hk0:0≤n:=by omega
   have lbr:b<wr.heap.size:=by omega
   have e0_0:wr.cell? ⟨b,off+j * 2,none⟩=some (.slice A_pre (x.pre).length c_pre):=by obtain ⟨v1,h1,h2⟩:=hmr.out.cells _ _ _ hDb d0;rw[h1,h2.slice]
   have e1_0:wr.cell? ⟨b,off+j * 2+1,none⟩=some (.slice A_post (x.post).length c_post):=by obtain ⟨v1,h1,h2⟩:=hmr.out.cells _ _ _ hDb d1;rw[h1,h2.slice]
   go_wp2_with fail
   have hMc1:=hmr.out
   have hTc1:=htr.out
   refine (markIntS_arg w0 D hD hnf _ _ _ f2 (by omega) (n) _ hMc1 (by omega) (by omega)).mono ?_
   rintro e w1 ⟨n1,rfl,hp1,hq1,hM1,hT1⟩
   have hTT1:Touch D w w1:=Touch.chain hTc1 hT1 hD hm.size
   have hs1:=hM1.size
   have e1_1:w1.cell? ⟨b,off+j * 2+1,none⟩=some (.slice A_post (x.post).length c_post):=by obtain ⟨v1,h1,h2⟩:=hM1.cells _ _ _ hDb d1;rw[h1,h2.slice]
   go_wp2_with fail
   have hMc2:=hM1
   have hTc2:=hTT1
   refine (markIntS_arg w0 D hD hnf _ _ _ f5 (by omega) (n1) _ hMc2 (by omega) (by omega)).mono ?_
   rintro e w2 ⟨n2,rfl,hp2,hq2,hM2,hT2⟩
   have hTT2:Touch D w w2:=Touch.chain hTc2 hT2 hD hm.size
   have hs2:=hM2.size
   go_wp2_with fail
   go_roundw
   case rel=>exact ⟨j+1,n2,by omega,by go_num,rfl,by omega,by omega,hM2,hTT2⟩
   case measure=>simp[intOf];omega
  ·go_wp2_with fail
   go_ret
   exact ⟨n,rfl,hn0,by omega,hmr.out,htr.out⟩
set_option maxHeartbeats 1000000 in
theorem markNet_arg (w0:World) (D:Nat→Prop) (hD:∀b,D b→b<w0.heap.size) (hnf:∀b o,D b→w0.frozen? ⟨b,o,none⟩=false) (x:Net) (A_trans:Option Addr) (c_trans:Nat) (g1:(x.trans).length≤c_trans) (g2:c_trans≤9223372036854775807) (g3:RSl ZrX w0 D A_trans x.trans) (k:Int) (w:World) (hm:Marked D w0 w) (h0:0≤k) (hk:k+64 * (wtNet x:Nat)≤4611686018427387904):
 Calls Try.prog 34 #[.agg #[.int .i64 x.places,.slice A_trans (x.trans).length c_trans],.int .i64 k] w fun e w'=>∃k':Int,e=.returned (.int .i64 k')∧k≤k'∧k'≤k+64 * (wtNet x:Nat)∧Marked D w0 w'∧Touch D w w':=by
 have hwt:wtNet x=wtNet x:=rfl
 conv at hwt=>rhs;unfold wtNet
 rw[hwt] at hk⊢
 clear hwt
 have hs0:=hm.size
 have hbx:∀b,b=w.heap.size→¬D b:=fun b hb hd=>by have:=hD b hd;omega
 go_enter Try.func34,Try.ntmps34
 go_wp2_with fail
 have hM0:=hm.then_ (fun q hq=>by have:=hD q hq;omega) ((Below.refl w.heap.size w).alloc (Nat.le_refl _) (.cells #[.int .i64 x.places,.slice A_trans (x.trans).length c_trans] 34))
 have hT0:Touch D w (w.alloc (.cells #[.int .i64 x.places,.slice A_trans (x.trans).length c_trans] 34)):=(Touch.refl D w).then_ ((Below.refl w.heap.size w).alloc (Nat.le_refl _) _)
 refine (markTransitionS_arg w0 D hD hnf _ _ _ g3 (by omega) k _ hM0 (by omega) (by omega)).mono ?_
 rintro e w1 ⟨n1,rfl,hp1,hq1,hM1,hT1⟩
 have hTT1:Touch D w w1:=Touch.chain hT0 hT1 hD hm.size
 have hs1:=hT1.size
 rw[World.size_alloc] at hs1
 go_wp2_with fail
 go_ret
 exact ⟨n1,rfl,by omega,by omega,hM1,hTT1⟩
set_option maxHeartbeats 1000000 in
theorem markSignalS_arg (w0:World) (D:Nat→Prop) (hD:∀b,D b→b<w0.heap.size) (hnf:∀b o,D b→w0.frozen? ⟨b,o,none⟩=false) (A:Option Addr) (c:Nat) (l:List Sig) (hr:RSl Zrj w0 D A l) (hl:l.length≤9223372036854775807) (k:Int) (w:World) (hm:Marked D w0 w) (h0:0≤k) (hk:k+64 * ((wtL wtSig l):Nat)≤4611686018427387904):
 Calls Try.prog 35 #[.slice A l.length c,.int .i64 k] w fun e w'=>∃k':Int,e=.returned (.int .i64 k')∧k≤k'∧k'≤k+64 * ((wtL wtSig l):Nat)∧Marked D w0 w'∧Touch D w w':=by
 go_enter Try.func35,Try.ntmps35
 go_wp2_with fail
 go_loopw [5,1] (fun i kv wr=>∃(j:Nat) (n:Int),j≤l.length∧i=.int .i64 j∧kv=.int .i64 n∧k≤n∧n+64 * ((wtL wtSig (l.drop j)):Nat)≤k+64 * ((wtL wtSig l):Nat)∧Hid (Marked D w0 wr)∧Hid (Touch D w wr)) (fun i _ _=>l.length - (intOf i).toNat)
 case atStart=>exact ⟨0,k,Nat.zero_le _,rfl,rfl,Int.le_refl _,by simp,hm,Touch.refl _ _⟩
 case round=>
  obtain ⟨j,n,hj,rfl,rfl,hn0,hn1,hmr,htr⟩:=hrel
  have hsr:=hmr.out.size
  by_cases hlt:j<l.length
  ·obtain ⟨x,hx⟩:=ZfX hlt
   obtain ⟨b,off,rfl,hDb,d0,d1,f0,f1⟩:=hr.Sig_at hx
   have hcost:((wtL wtSig (l.drop j)):Nat)=1+wtSig x+((wtL wtSig (l.drop (j+1))):Nat):=by rw[ZtB hx];rw[Zt8]
   rw[show wtSig x=(x.name).length from rfl] at hcost
   rw[hcost] at hn1
   clear hcost hx
   have lb:=hD b hDb
   have hk0:0≤n:=by omega
   have lbr:b<wr.heap.size:=by omega
   obtain ⟨v0_0,e0_0,_⟩:=hmr.out.cells _ _ _ hDb d0
   have z0_0:wr.frozen? ⟨b,off+j * 2,none⟩=false:=(hmr.out.froz _ _ hDb).trans (hnf _ _ hDb)
   obtain ⟨v1_0,e1_0,_⟩:=hmr.out.cells _ _ _ hDb d1
   have z1_0:wr.frozen? ⟨b,off+j * 2+1,none⟩=false:=(hmr.out.froz _ _ hDb).trans (hnf _ _ hDb)
   go_wp2_with fail
   refine (ZtF (n) _ (by omega) (by omega)).mono ?_
   rintro e w1 ⟨rfl,hb1⟩
   obtain ⟨hc1,hf1⟩:=Zrp hb1
   have hz1:=hb1.size
   repeat (first|rw[World.size_setCell] at hz1)
   have lb1:b<w1.heap.size:=by omega
   go_wp2_with fail
   go_roundw
   case rel=>exact ⟨j+1,n+1+1,by omega,by go_num,rfl,by omega,by omega,(((hmr.out.then_ (fun q hq=>by have:=hD q hq;(repeat rw[World.size_setCell]);omega) hb1).put hDb d0 (.str _ _)).put hDb d1 (.int _ _)),(((htr.out.then_ hb1).put hDb _).put hDb _)⟩
   case measure=>simp[intOf];omega
  ·go_wp2_with fail
   go_ret
   exact ⟨n,rfl,hn0,by omega,hmr.out,htr.out⟩
def mkSig (n:Int) (_:Sig):Sig:=⟨ZtC (n).toNat,n+1⟩
set_option maxHeartbeats 1000000 in
theorem markSignalS_own (base:Nat) (t:TypeId) (A:Option Addr) (c:Nat) (l:List Sig) (k:Int) (w:World) (ho:Own Zrj w base t A c l) (h0:0≤k) (hk:k+2 * l.length≤4611686018427387904):
 Calls Try.prog 35 #[.slice A l.length c,.int .i64 k] w fun e w'=>e=.returned (.int .i64 (k+2 * l.length))∧RSl Zrj w' (fun b=>blk A=some b) A (Zrl mkSig 2 k l)∧Touch (fun b=>blk A=some b) w w':=by
 have hcap:=ho.cap
 have hlt0:=ho.lt
 have HM:Hid (ZiI Zrj w A t c 0 (Zrl mkSig 2 k l)):=ho.mrow (ZsM _ _ _ _)
 obtain ⟨ml,hml⟩:∃ml,(Zrl mkSig 2 k l)=ml:=⟨_,rfl⟩
 have hmlen:ml.length=l.length:=by rw[←hml];exact ZsM _ _ _ _
 rw[hml] at HM⊢
 have HML:=Zrb hml;clear hml
 go_enter Try.func35,Try.ntmps35
 go_wp2_with fail
 go_loopw [5,1] (fun i kv wr=>∃(j:Nat) (n:Int),j≤l.length∧i=.int .i64 j∧kv=.int .i64 n∧Hid (n=k+2 * j)∧Hid (ZiI Zrj wr A t c j ml)∧Hid (Touch (fun b=>blk A=some b) w wr)) (fun i _ _=>l.length - (intOf i).toNat)
 case atStart=>exact ⟨0,k,Nat.zero_le _,rfl,rfl,by show _=_;omega,HM,Touch.refl _ _⟩
 case round=>
  obtain ⟨j,n,hj,rfl,rfl,hn,hmr,htr⟩:=hrel
  have hnv:=hn.out
  have hsr:=htr.out.size
  by_cases hlt:j<l.length
  ·obtain ⟨x,hx⟩:=ZfX hlt
   have hmx:ml[j]?=some (mkSig n x):=by rw[←HML.out,ZsO hx,hnv];rfl
   obtain ⟨g,rfl,hroom⟩:=hmr.out.room hmx
   have lg:g<wr.heap.size:=by have:=(hlt0 g rfl).2;omega
   obtain ⟨⟨v0,r0⟩,z0⟩:=hroom 0 (by decide)
   obtain ⟨⟨v1,r1⟩,z1⟩:=hroom 1 (by decide)
   simp only[ZsR,Nat.add_zero] at r0 z0 r1 z1
   have HX:=Zrb hmx;clear hmx hx hroom
   have hk0:0≤n∧n+2≤4611686018427387904:=by omega
   clear hnv
   go_wp2_with fail
   refine (ZtF (n) _ (by omega) (by omega)).mono ?_
   rintro e w1 ⟨rfl,hb1⟩
   obtain ⟨hc1,hf1⟩:=Zrp hb1
   have hz1:=hb1.size
   repeat (first|rw[World.size_setCell] at hz1)
   go_wp2_with fail
   go_roundw
   case rel=>exact ⟨j+1,n+1+1,by omega,by go_num,by go_num,by have:=hn.out;show _=_;omega,Zrb ((hmr.out.to hb1).step [.string ⟨(ZtC (n).toNat).toArray⟩,.int .i64 (n+1)] HX.out (Zt5 (x:=mkSig n x) (Zt1 _) (by constructor<;>simp only[mkSig]<;>omega)) (by simp[ZbC,ZsR])),Zrb (Touch.put (Touch.put (htr.out.then_ hb1) (p:=⟨g,j * 2,none⟩) rfl _) (p:=⟨g,j * 2+1,none⟩) rfl _)⟩
   case measure=>simp[intOf];omega
  ·have hjl:j=l.length:=by omega
   have HJ:=Zrb hjl;clear hjl hnv
   go_wp2_with fail
   go_ret
   refine ⟨Zrk (by rw[hn.out,HJ.out]), ?_,htr.out⟩
   have h:=hmr.out
   rw[HJ.out,←hmlen] at h
   exact h.done
set_option maxHeartbeats 1000000 in
theorem heldSignalS (A:Option Addr) (c:Nat) (l:List Sig) (k:Int) (w:World) (hl:l.length≤9223372036854775807) (hr:RA Zrj w A (Zrl mkSig 2 k l)) (h0:0≤k) (hk:k+2 * l.length≤4611686018427387904):
 Calls Try.prog 39 #[.slice A l.length c,.int .i64 k] w fun e w'=>e=.returned (.int .i64 (k+2 * l.length))∧Below w.heap.size w w':=by
 go_enter Try.func39,Try.ntmps39
 go_wp2_with fail
 go_loopw [5,1] (fun i kv wr=>∃(j:Nat) (n:Int),j≤l.length∧i=.int .i64 j∧kv=.int .i64 n∧Hid (n=k+2 * j)∧Below w.heap.size w wr) (fun i _ _=>l.length - (intOf i).toNat)
 case atStart=>exact ⟨0,k,Nat.zero_le _,rfl,rfl,by show _=_;omega,Below.refl _ _⟩
 case round=>
  obtain ⟨j,n,hj,rfl,rfl,hn,hb⟩:=hrel
  have hnv:=hn.out
  have hsz:=hb.size
  by_cases hlt:j<l.length
  ·obtain ⟨x,hx⟩:=ZfX hlt
   have hmx:(Zrl mkSig 2 k l)[j]?=some (mkSig n x):=by rw[ZsO hx,hnv];rfl
   obtain ⟨b,off,rfl,hbl,d0,d1,f0,f1⟩:=hr.Sig_at hb hmx
   simp only[mkSig] at d0 d1
   clear hmx hx
   have hk0:0≤n∧n+2≤4611686018427387904:=by omega
   clear hnv
   go_wp2_with fail
   go_region_held3 (fun W=>W.cell? ⟨b,off+j * 2,none⟩=some (.string ⟨(ZtC (n).toNat).toArray⟩)) (first|exact d0|exact (cell_later hb1 d0)) (first|(go_at_call 59;refine (ZtF (n) _ (by omega) (by omega)).mono ?_;rintro e w1 ⟨rfl,hb1⟩))
   have hb2:=hb.drew.trans (hb1.mono hsz)
   replace d1:=cell_later hb1 d1
   go_wp2_with fail
   try go_quiet (fail)
   go_wp2_with fail
   go_roundw
   case rel=>exact ⟨j+1,n+1+1,by omega,by go_num,by go_num,by have:=hn.out;show _=_;omega,by (repeat' (first|(with_reducible exact Below.refl _ _)|(with_reducible assumption)|(with_reducible refine Zra ?_ _)|(with_reducible refine Below.drew ?_)|(with_reducible refine Below.alloc ?_ ?_ _)|(with_reducible refine Below.setCell ?_ ?_ _)|(with_reducible refine Below.then_ ?_ (by assumption) ?_)|go_size))⟩
   case measure=>simp[intOf];omega
  ·have hjl:j=l.length:=by omega
   have HJ:=Zrb hjl;clear hjl hnv
   go_wp2_with fail
   go_ret
   exact ⟨Zrk (by rw[hn.out,HJ.out]),hb⟩
set_option maxHeartbeats 1000000 in
theorem markLabelS_arg (w0:World) (D:Nat→Prop) (hD:∀b,D b→b<w0.heap.size) (hnf:∀b o,D b→w0.frozen? ⟨b,o,none⟩=false) (A:Option Addr) (c:Nat) (l:List Lab) (hr:RSl ZrG w0 D A l) (hl:l.length≤9223372036854775807) (k:Int) (w:World) (hm:Marked D w0 w) (h0:0≤k) (hk:k+64 * ((l).length:Nat)≤4611686018427387904):
 Calls Try.prog 36 #[.slice A l.length c,.int .i64 k] w fun e w'=>∃k':Int,e=.returned (.int .i64 k')∧k≤k'∧k'≤k+64 * ((l).length:Nat)∧Marked D w0 w'∧Touch D w w':=by
 go_enter Try.func36,Try.ntmps36
 go_wp2_with fail
 go_loopw [5,1] (fun i kv wr=>∃(j:Nat) (n:Int),j≤l.length∧i=.int .i64 j∧kv=.int .i64 n∧k≤n∧n+64 * (((l.drop j)).length:Nat)≤k+64 * ((l).length:Nat)∧Hid (Marked D w0 wr)∧Hid (Touch D w wr)) (fun i _ _=>l.length - (intOf i).toNat)
 case atStart=>exact ⟨0,k,Nat.zero_le _,rfl,rfl,Int.le_refl _,by simp,hm,Touch.refl _ _⟩
 case round=>
  obtain ⟨j,n,hj,rfl,rfl,hn0,hn1,hmr,htr⟩:=hrel
  have hsr:=hmr.out.size
  by_cases hlt:j<l.length
  ·obtain ⟨x,hx⟩:=ZfX hlt
   obtain ⟨b,off,rfl,hDb,d0,d1,f0⟩:=hr.Lab_at hx
   have hcost:(((l.drop j)).length:Nat)=1+(((l.drop (j+1))).length:Nat):=by rw[ZtB hx];rw[List.length_cons];omega
   rw[hcost] at hn1
   clear hcost hx
   have lb:=hD b hDb
   have hk0:0≤n:=by omega
   have lbr:b<wr.heap.size:=by omega
   obtain ⟨v0_0,e0_0,_⟩:=hmr.out.cells _ _ _ hDb d0
   have z0_0:wr.frozen? ⟨b,off+j * 2,none⟩=false:=(hmr.out.froz _ _ hDb).trans (hnf _ _ hDb)
   obtain ⟨v1_0,e1_0,_⟩:=hmr.out.cells _ _ _ hDb d1
   have z1_0:wr.frozen? ⟨b,off+j * 2+1,none⟩=false:=(hmr.out.froz _ _ hDb).trans (hnf _ _ hDb)
   go_wp2_with fail
   go_roundw
   case rel=>exact ⟨j+1,n+1+1,by omega,by go_num,rfl,by omega,by omega,((hmr.out.put hDb d0 (.int _ _)).put hDb d1 (.bool _ _)),((htr.out.put hDb _).put hDb _)⟩
   case measure=>simp[intOf];omega
  ·go_wp2_with fail
   go_ret
   exact ⟨n,rfl,hn0,by omega,hmr.out,htr.out⟩
set_option maxHeartbeats 1000000 in
theorem markSTG_arg (w0:World) (D:Nat→Prop) (hD:∀b,D b→b<w0.heap.size) (hnf:∀b o,D b→w0.frozen? ⟨b,o,none⟩=false) (x:STG) (A_net_trans:Option Addr) (c_net_trans:Nat) (A_signals:Option Addr) (c_signals:Nat) (A_labels:Option Addr) (c_labels:Nat) (g1:(x.net.trans).length≤c_net_trans) (g2:c_net_trans≤9223372036854775807) (g3:RSl ZrX w0 D A_net_trans x.net.trans) (g4:(x.signals).length≤c_signals) (g5:c_signals≤9223372036854775807) (g6:RSl Zrj w0 D A_signals x.signals) (g7:(x.labels).length≤c_labels) (g8:c_labels≤9223372036854775807) (g9:RSl ZrG w0 D A_labels x.labels) (g10:(x.start).length≤9223372036854775807) (k:Int) (w:World) (hm:Marked D w0 w) (h0:0≤k) (hk:k+64 * (wtSTG x:Nat)≤4611686018427387904):
 Calls Try.prog 13 #[.agg #[.int .i64 x.net.places,.slice A_net_trans (x.net.trans).length c_net_trans,.slice A_signals (x.signals).length c_signals,.slice A_labels (x.labels).length c_labels,.string ⟨(x.start).toArray⟩],.int .i64 k] w fun e w'=>∃k':Int,e=.returned (.int .i64 k')∧k≤k'∧k'≤k+64 * (wtSTG x:Nat)∧Marked D w0 w'∧Touch D w w':=by
 have hwt:wtSTG x=wtSTG x:=rfl
 conv at hwt=>rhs;unfold wtSTG
 rw[hwt] at hk⊢
 clear hwt
 have hs0:=hm.size
 have hbx:∀b,b=w.heap.size→¬D b:=fun b hb hd=>by have:=hD b hd;omega
 go_enter Try.func13,Try.ntmps13
 go_wp2_with fail
 have hM0:=hm.then_ (fun q hq=>by have:=hD q hq;omega) ((Below.refl w.heap.size w).alloc (Nat.le_refl _) (.cells #[.int .i64 x.net.places,.slice A_net_trans (x.net.trans).length c_net_trans,.slice A_signals (x.signals).length c_signals,.slice A_labels (x.labels).length c_labels,.string ⟨(x.start).toArray⟩] 38))
 have hT0:Touch D w (w.alloc (.cells #[.int .i64 x.net.places,.slice A_net_trans (x.net.trans).length c_net_trans,.slice A_signals (x.signals).length c_signals,.slice A_labels (x.labels).length c_labels,.string ⟨(x.start).toArray⟩] 38)):=(Touch.refl D w).then_ ((Below.refl w.heap.size w).alloc (Nat.le_refl _) _)
 refine (markNet_arg w0 D hD hnf x.net A_net_trans c_net_trans g1 g2 g3 k _ hM0 (by omega) (by omega)).mono ?_
 rintro e w1 ⟨n1,rfl,hp1,hq1,hM1,hT1⟩
 have hTT1:Touch D w w1:=Touch.chain hT0 hT1 hD hm.size
 have hs1:=hT1.size
 rw[World.size_alloc] at hs1
 have e2_1:w1.cell? ⟨w.heap.size,2,none⟩=some (.slice A_signals (x.signals).length c_signals):=by rw[hT1.cell (by first|omega|(rw[World.size_alloc];omega)) (hbx _ rfl)];simp[go_sem]
 have e3_1:w1.cell? ⟨w.heap.size,3,none⟩=some (.slice A_labels (x.labels).length c_labels):=by rw[hT1.cell (by first|omega|(rw[World.size_alloc];omega)) (hbx _ rfl)];simp[go_sem]
 have e4_1:w1.cell? ⟨w.heap.size,4,none⟩=some (.string ⟨(x.start).toArray⟩):=by rw[hT1.cell (by first|omega|(rw[World.size_alloc];omega)) (hbx _ rfl)];simp[go_sem]
 go_wp2_with fail
 refine (markSignalS_arg w0 D hD hnf _ _ _ g6 (by omega) n1 _ hM1 (by omega) (by omega)).mono ?_
 rintro e w2 ⟨n2,rfl,hp2,hq2,hM2,hT2⟩
 have hTT2:Touch D w w2:=Touch.chain hTT1 hT2 hD hm.size
 have hs2:=hT2.size
 have e3_2:w2.cell? ⟨w.heap.size,3,none⟩=some (.slice A_labels (x.labels).length c_labels):=by rw[hT2.cell (by first|omega|(rw[World.size_alloc];omega)) (hbx _ rfl)];exact e3_1
 have e4_2:w2.cell? ⟨w.heap.size,4,none⟩=some (.string ⟨(x.start).toArray⟩):=by rw[hT2.cell (by first|omega|(rw[World.size_alloc];omega)) (hbx _ rfl)];exact e4_1
 go_wp2_with fail
 refine (markLabelS_arg w0 D hD hnf _ _ _ g9 (by omega) n2 _ hM2 (by omega) (by omega)).mono ?_
 rintro e w3 ⟨n3,rfl,hp3,hq3,hM3,hT3⟩
 have hTT3:Touch D w w3:=Touch.chain hTT2 hT3 hD hm.size
 have hs3:=hT3.size
 have e4_3:w3.cell? ⟨w.heap.size,4,none⟩=some (.string ⟨(x.start).toArray⟩):=by rw[hT3.cell (by first|omega|(rw[World.size_alloc];omega)) (hbx _ rfl)];exact e4_2
 go_wp2_with fail
 go_ret
 exact ⟨n3,rfl,by omega,by omega,hM3,hTT3⟩
def mkStr (n:Int) (_:(List UInt8)):(List UInt8):=(ZtC (n).toNat)
set_option maxHeartbeats 1000000 in
theorem markStringS_own (base:Nat) (t:TypeId) (A:Option Addr) (c:Nat) (l:List (List UInt8)) (k:Int) (w:World) (ho:Own Zjr w base t A c l) (h0:0≤k) (hk:k+1 * l.length≤4611686018427387904):
 Calls Try.prog 37 #[.slice A l.length c,.int .i64 k] w fun e w'=>e=.returned (.int .i64 (k+1 * l.length))∧RSl Zjr w' (fun b=>blk A=some b) A (Zrl mkStr 1 k l)∧Touch (fun b=>blk A=some b) w w':=by
 have hcap:=ho.cap
 have hlt0:=ho.lt
 have HM:Hid (ZiI Zjr w A t c 0 (Zrl mkStr 1 k l)):=ho.mrow (ZsM _ _ _ _)
 obtain ⟨ml,hml⟩:∃ml,(Zrl mkStr 1 k l)=ml:=⟨_,rfl⟩
 have hmlen:ml.length=l.length:=by rw[←hml];exact ZsM _ _ _ _
 rw[hml] at HM⊢
 have HML:=Zrb hml;clear hml
 go_enter Try.func37,Try.ntmps37
 go_wp2_with fail
 go_loopw [5,1] (fun i kv wr=>∃(j:Nat) (n:Int),j≤l.length∧i=.int .i64 j∧kv=.int .i64 n∧Hid (n=k+1 * j)∧Hid (ZiI Zjr wr A t c j ml)∧Hid (Touch (fun b=>blk A=some b) w wr)) (fun i _ _=>l.length - (intOf i).toNat)
 case atStart=>exact ⟨0,k,Nat.zero_le _,rfl,rfl,by show _=_;omega,HM,Touch.refl _ _⟩
 case round=>
  obtain ⟨j,n,hj,rfl,rfl,hn,hmr,htr⟩:=hrel
  have hnv:=hn.out
  have hsr:=htr.out.size
  by_cases hlt:j<l.length
  ·obtain ⟨x,hx⟩:=ZfX hlt
   have hmx:ml[j]?=some (mkStr n x):=by rw[←HML.out,ZsO hx,hnv];rfl
   obtain ⟨g,rfl,hroom⟩:=hmr.out.room hmx
   have lg:g<wr.heap.size:=by have:=(hlt0 g rfl).2;omega
   obtain ⟨⟨v0,r0⟩,z0⟩:=hroom 0 (by decide)
   simp only[Zjr,Nat.add_zero,Nat.mul_one] at r0 z0
   have HX:=Zrb hmx;clear hmx hx hroom
   have hk0:0≤n∧n+1≤4611686018427387904:=by omega
   clear hnv
   go_wp2_with fail
   refine (ZtF (n) _ (by omega) (by omega)).mono ?_
   rintro e w1 ⟨rfl,hb1⟩
   obtain ⟨hc1,hf1⟩:=Zrp hb1
   have hz1:=hb1.size
   repeat (first|rw[World.size_setCell] at hz1)
   go_wp2_with fail
   go_roundw
   case rel=>exact ⟨j+1,n+1,by omega,by go_num,by go_num,by have:=hn.out;show _=_;omega,Zrb ((hmr.out.to hb1).step [.string ⟨(ZtC (n).toNat).toArray⟩] HX.out (⟨rfl,(Zt1 _)⟩) (by simp[ZbC,Zjr])),Zrb (Touch.put (htr.out.then_ hb1) (p:=⟨g,j,none⟩) rfl _)⟩
   case measure=>simp[intOf];omega
  ·have hjl:j=l.length:=by omega
   have HJ:=Zrb hjl;clear hjl hnv
   go_wp2_with fail
   go_ret
   refine ⟨Zrk (by rw[hn.out,HJ.out]), ?_,htr.out⟩
   have h:=hmr.out
   rw[HJ.out,←hmlen] at h
   exact h.done
set_option maxHeartbeats 1000000 in
theorem heldStringS (A:Option Addr) (c:Nat) (l:List (List UInt8)) (k:Int) (w:World) (hl:l.length≤9223372036854775807) (hr:RA Zjr w A (Zrl mkStr 1 k l)) (h0:0≤k) (hk:k+1 * l.length≤4611686018427387904):
 Calls Try.prog 40 #[.slice A l.length c,.int .i64 k] w fun e w'=>e=.returned (.int .i64 (k+1 * l.length))∧Below w.heap.size w w':=by
 go_enter Try.func40,Try.ntmps40
 go_wp2_with fail
 go_loopw [5,1] (fun i kv wr=>∃(j:Nat) (n:Int),j≤l.length∧i=.int .i64 j∧kv=.int .i64 n∧Hid (n=k+1 * j)∧Below w.heap.size w wr) (fun i _ _=>l.length - (intOf i).toNat)
 case atStart=>exact ⟨0,k,Nat.zero_le _,rfl,rfl,by show _=_;omega,Below.refl _ _⟩
 case round=>
  obtain ⟨j,n,hj,rfl,rfl,hn,hb⟩:=hrel
  have hnv:=hn.out
  have hsz:=hb.size
  by_cases hlt:j<l.length
  ·obtain ⟨x,hx⟩:=ZfX hlt
   have hmx:(Zrl mkStr 1 k l)[j]?=some (mkStr n x):=by rw[ZsO hx,hnv];rfl
   obtain ⟨b,off,rfl,hbl,d0,f0⟩:=hr.str_at hb hmx
   simp only[mkStr] at d0
   clear hmx hx
   have hk0:0≤n∧n+1≤4611686018427387904:=by omega
   clear hnv
   go_wp2_with fail
   go_region_held3 (fun W=>W.cell? ⟨b,off+j,none⟩=some (.string ⟨(ZtC (n).toNat).toArray⟩)) (first|exact d0|exact (cell_later hb1 d0)) (first|(go_at_call 59;refine (ZtF (n) _ (by omega) (by omega)).mono ?_;rintro e w1 ⟨rfl,hb1⟩))
   have hb2:=hb.drew.trans (hb1.mono hsz)
   go_wp2_with fail
   go_roundw
   case rel=>exact ⟨j+1,n+1,by omega,by go_num,by go_num,by have:=hn.out;show _=_;omega,by (repeat' (first|(with_reducible exact Below.refl _ _)|(with_reducible assumption)|(with_reducible refine Zra ?_ _)|(with_reducible refine Below.drew ?_)|(with_reducible refine Below.alloc ?_ ?_ _)|(with_reducible refine Below.setCell ?_ ?_ _)|(with_reducible refine Below.then_ ?_ (by assumption) ?_)|go_size))⟩
   case measure=>simp[intOf];omega
  ·have hjl:j=l.length:=by omega
   have HJ:=Zrb hjl;clear hjl hnv
   go_wp2_with fail
   go_ret
   exact ⟨Zrk (by rw[hn.out,HJ.out]),hb⟩
def mkAc (n:Int) (_:Ac):Ac:=⟨n,n+1,((n+1+1) % 3==0),n+1+1+1⟩
set_option maxHeartbeats 1000000 in
theorem markArcS_own (base:Nat) (t:TypeId) (A:Option Addr) (c:Nat) (l:List Ac) (k:Int) (w:World) (ho:Own Zts w base t A c l) (h0:0≤k) (hk:k+4 * l.length≤4611686018427387904):
 Calls Try.prog 38 #[.slice A l.length c,.int .i64 k] w fun e w'=>e=.returned (.int .i64 (k+4 * l.length))∧RSl Zts w' (fun b=>blk A=some b) A (Zrl mkAc 4 k l)∧Touch (fun b=>blk A=some b) w w':=by
 have hcap:=ho.cap
 have hlt0:=ho.lt
 have HM:Hid (ZiI Zts w A t c 0 (Zrl mkAc 4 k l)):=ho.mrow (ZsM _ _ _ _)
 obtain ⟨ml,hml⟩:∃ml,(Zrl mkAc 4 k l)=ml:=⟨_,rfl⟩
 have hmlen:ml.length=l.length:=by rw[←hml];exact ZsM _ _ _ _
 rw[hml] at HM⊢
 have HML:=Zrb hml;clear hml
 go_enter Try.func38,Try.ntmps38
 go_wp2_with fail
 go_loopw [5,1] (fun i kv wr=>∃(j:Nat) (n:Int),j≤l.length∧i=.int .i64 j∧kv=.int .i64 n∧Hid (n=k+4 * j)∧Hid (ZiI Zts wr A t c j ml)∧Hid (Touch (fun b=>blk A=some b) w wr)) (fun i _ _=>l.length - (intOf i).toNat)
 case atStart=>exact ⟨0,k,Nat.zero_le _,rfl,rfl,by show _=_;omega,HM,Touch.refl _ _⟩
 case round=>
  obtain ⟨j,n,hj,rfl,rfl,hn,hmr,htr⟩:=hrel
  have hnv:=hn.out
  have hsr:=htr.out.size
  by_cases hlt:j<l.length
  ·obtain ⟨x,hx⟩:=ZfX hlt
   have hmx:ml[j]?=some (mkAc n x):=by rw[←HML.out,ZsO hx,hnv];rfl
   obtain ⟨g,rfl,hroom⟩:=hmr.out.room hmx
   have lg:g<wr.heap.size:=by have:=(hlt0 g rfl).2;omega
   obtain ⟨⟨v0,r0⟩,z0⟩:=hroom 0 (by decide)
   obtain ⟨⟨v1,r1⟩,z1⟩:=hroom 1 (by decide)
   obtain ⟨⟨v2,r2⟩,z2⟩:=hroom 2 (by decide)
   obtain ⟨⟨v3,r3⟩,z3⟩:=hroom 3 (by decide)
   simp only[Ztu,Nat.add_zero] at r0 z0 r1 z1 r2 z2 r3 z3
   have HX:=Zrb hmx;clear hmx hx hroom
   have hk0:0≤n∧n+4≤4611686018427387904:=by omega
   clear hnv
   go_wp2_with fail
   go_roundw
   case rel=>exact ⟨j+1,n+1+1+1+1,by omega,by go_num,by go_num,by have:=hn.out;show _=_;omega,Zrb (hmr.out.step [.int .i64 (n),.int .i64 (n+1),.bool ((n+1+1) % 3==0),.int .i64 (n+1+1+1)] HX.out (ZuO (x:=mkAc n x) (by constructor<;>simp only[mkAc]<;>omega) (by constructor<;>simp only[mkAc]<;>omega) (by constructor<;>simp only[mkAc]<;>omega)) (by simp[ZbC,Ztu])),Zrb (Touch.put (Touch.put (Touch.put (Touch.put htr.out (p:=⟨g,j * 4,none⟩) rfl _) (p:=⟨g,j * 4+1,none⟩) rfl _) (p:=⟨g,j * 4+2,none⟩) rfl _) (p:=⟨g,j * 4+3,none⟩) rfl _)⟩
   case measure=>simp[intOf];omega
  ·have hjl:j=l.length:=by omega
   have HJ:=Zrb hjl;clear hjl hnv
   go_wp2_with fail
   go_ret
   refine ⟨Zrk (by rw[hn.out,HJ.out]), ?_,htr.out⟩
   have h:=hmr.out
   rw[HJ.out,←hmlen] at h
   exact h.done
set_option maxHeartbeats 1000000 in
theorem heldArcS (A:Option Addr) (c:Nat) (l:List Ac) (k:Int) (w:World) (hl:l.length≤9223372036854775807) (hr:RA Zts w A (Zrl mkAc 4 k l)) (h0:0≤k) (hk:k+4 * l.length≤4611686018427387904):
 Calls Try.prog 41 #[.slice A l.length c,.int .i64 k] w fun e w'=>e=.returned (.int .i64 (k+4 * l.length))∧Below w.heap.size w w':=by
 go_enter Try.func41,Try.ntmps41
 go_wp2_with fail
 go_loopw [5,1] (fun i kv wr=>∃(j:Nat) (n:Int),j≤l.length∧i=.int .i64 j∧kv=.int .i64 n∧Hid (n=k+4 * j)∧Below w.heap.size w wr) (fun i _ _=>l.length - (intOf i).toNat)
 case atStart=>exact ⟨0,k,Nat.zero_le _,rfl,rfl,by show _=_;omega,Below.refl _ _⟩
 case round=>
  obtain ⟨j,n,hj,rfl,rfl,hn,hb⟩:=hrel
  have hnv:=hn.out
  have hsz:=hb.size
  by_cases hlt:j<l.length
  ·obtain ⟨x,hx⟩:=ZfX hlt
   have hmx:(Zrl mkAc 4 k l)[j]?=some (mkAc n x):=by rw[ZsO hx,hnv];rfl
   obtain ⟨b,off,rfl,hbl,d0,d1,d2,d3,f0,f1,f2⟩:=hr.Ac_at hb hmx
   simp only[mkAc] at d0 d1 d2 d3
   clear hmx hx
   have hk0:0≤n∧n+4≤4611686018427387904:=by omega
   clear hnv
   go_wp2_with fail
   try go_quiet (fail)
   go_wp2_with fail
   try go_quiet (fail)
   go_wp2_with fail
   try go_quiet (fail)
   go_wp2_with fail
   try go_quiet (fail)
   go_wp2_with fail
   go_roundw
   case rel=>exact ⟨j+1,n+1+1+1+1,by omega,by go_num,by go_num,by have:=hn.out;show _=_;omega,by (repeat' (first|(with_reducible exact Below.refl _ _)|(with_reducible assumption)|(with_reducible refine Zra ?_ _)|(with_reducible refine Below.drew ?_)|(with_reducible refine Below.alloc ?_ ?_ _)|(with_reducible refine Below.setCell ?_ ?_ _)|(with_reducible refine Below.then_ ?_ (by assumption) ?_)|go_size))⟩
   case measure=>simp[intOf];omega
  ·have hjl:j=l.length:=by omega
   have HJ:=Zrb hjl;clear hjl hnv
   go_wp2_with fail
   go_ret
   exact ⟨Zrk (by rw[hn.out,HJ.out]),hb⟩
set_option maxHeartbeats 1000000 in
set_option maxRecDepth 20000 in
theorem markStateGraph_own (base:Nat) (t0 t1 t2:TypeId) (x:SGr) (A0:Option Addr) (c0:Nat) (A1:Option Addr) (c1:Nat) (A2:Option Addr) (c2:Nat) (k:Int) (w:World) (ho0:Own Zrj w base t0 A0 c0 x.signals) (ho1:Own Zjr w base t1 A1 c1 x.codes) (ho2:Own Zts w base t2 A2 c2 x.arcs) (dj0_1:∀q,blk A0=some q→blk A1=some q→False) (dj0_2:∀q,blk A0=some q→blk A2=some q→False) (dj1_2:∀q,blk A1=some q→blk A2=some q→False) (h0:0≤k) (hk:k+2 * x.signals.length+1 * x.codes.length+4 * x.arcs.length≤4611686018427387904):
 Calls Try.prog 14 #[.agg #[.slice A0 (x.signals).length c0,.slice A1 (x.codes).length c1,.slice A2 (x.arcs).length c2],.int .i64 k] w fun e w'=>e=.returned (.int .i64 (k+2 * x.signals.length+x.codes.length+4 * x.arcs.length))∧RSl Zrj w' (fun b=>blk A0=some b) A0 (Zrl mkSig 2 (k) x.signals)∧RSl Zjr w' (fun b=>blk A1=some b) A1 (Zrl mkStr 1 (k+2 * x.signals.length) x.codes)∧RSl Zts w' (fun b=>blk A2=some b) A2 (Zrl mkAc 4 (k+2 * x.signals.length+x.codes.length) x.arcs)∧Touch (fun b=>blk A0=some b∨blk A1=some b∨blk A2=some b) w w':=by
 have hlt0:=ho0.lt
 have hlt1:=ho1.lt
 have hlt2:=ho2.lt
 have hD:∀b,(fun b=>blk A0=some b∨blk A1=some b∨blk A2=some b) b→b<w.heap.size:=fun b hd=>by rcases hd with hd|hd|hd<;>first|exact (hlt0 b hd).2|exact (hlt1 b hd).2|exact (hlt2 b hd).2
 go_enter Try.func14,Try.ntmps14
 go_wp2_with fail
 have b0:=(Below.refl w.heap.size w).alloc (Nat.le_refl _) (.cells #[.slice A0 (x.signals).length c0,.slice A1 (x.codes).length c1,.slice A2 (x.arcs).length c2] 45)
 have hTT0:Touch (fun b=>blk A0=some b∨blk A1=some b∨blk A2=some b) w (w.alloc (.cells #[.slice A0 (x.signals).length c0,.slice A1 (x.codes).length c1,.slice A2 (x.arcs).length c2] 45)):=(Touch.refl _ w).then_ b0
 have p0_0:=ho0.to b0
 have p1_0:=ho1.to b0
 have p2_0:=ho2.to b0
 refine (markSignalS_own base t0 A0 c0 x.signals (k) _ p0_0 (by omega) (by omega)).mono ?_
 rintro e w1 ⟨rfl,hr0,hT1⟩
 have hs1:=hT1.size
 rw[World.size_alloc] at hs1
 have hTT1:Touch (fun b=>blk A0=some b∨blk A1=some b∨blk A2=some b) w w1:=Touch.chain hTT0 (hT1.mono fun b hb=>.inl hb) hD (Nat.le_refl _)
 have e1_1:w1.cell? ⟨w.heap.size,1,none⟩=some (.slice A1 (x.codes).length c1):=by rw[hT1.cell (by first|omega|(rw[World.size_alloc];omega)) (fun hd=>by have:=hlt0 _ hd;omega)];simp[go_sem]
 have p1_1:=hT1.own p1_0 (fun q h1 h2=>dj0_1 q h2 h1)
 have e2_1:w1.cell? ⟨w.heap.size,2,none⟩=some (.slice A2 (x.arcs).length c2):=by rw[hT1.cell (by first|omega|(rw[World.size_alloc];omega)) (fun hd=>by have:=hlt0 _ hd;omega)];simp[go_sem]
 have p2_1:=hT1.own p2_0 (fun q h1 h2=>dj0_2 q h2 h1)
 go_wp2_with fail
 refine (markStringS_own base t1 A1 c1 x.codes (k+2 * x.signals.length) _ p1_1 (by omega) (by omega)).mono ?_
 rintro e w2 ⟨rfl,hr1,hT2⟩
 have hs2:=hT2.size
 have hTT2:Touch (fun b=>blk A0=some b∨blk A1=some b∨blk A2=some b) w w2:=Touch.chain hTT1 (hT2.mono fun b hb=>.inr (.inl hb)) hD (Nat.le_refl _)
 have e2_2:w2.cell? ⟨w.heap.size,2,none⟩=some (.slice A2 (x.arcs).length c2):=by rw[hT2.cell (by first|omega|(rw[World.size_alloc];omega)) (fun hd=>by have:=hlt1 _ hd;omega)];exact e2_1
 have p2_2:=hT2.own p2_1 (fun q h1 h2=>dj1_2 q h2 h1)
 have hr0:=hT2.rsl hr0 (fun q hq=>⟨by have:=hlt0 q hq;omega,fun hd=>dj0_1 q hq hd⟩)
 go_wp2_with fail
 refine (markArcS_own base t2 A2 c2 x.arcs (k+2 * x.signals.length+x.codes.length) _ p2_2 (by omega) (by omega)).mono ?_
 rintro e w3 ⟨rfl,hr2,hT3⟩
 have hs3:=hT3.size
 have hTT3:Touch (fun b=>blk A0=some b∨blk A1=some b∨blk A2=some b) w w3:=Touch.chain hTT2 (hT3.mono fun b hb=>.inr (.inr hb)) hD (Nat.le_refl _)
 have hr0:=hT3.rsl hr0 (fun q hq=>⟨by have:=hlt0 q hq;omega,fun hd=>dj0_2 q hq hd⟩)
 have hr1:=hT3.rsl hr1 (fun q hq=>⟨by have:=hlt1 q hq;omega,fun hd=>dj1_2 q hq hd⟩)
 go_wp2_with fail
 go_ret
 exact ⟨rfl,hr0,hr1,hr2,hTT3⟩
set_option maxHeartbeats 1000000 in
set_option maxRecDepth 20000 in
theorem heldStateGraph (x:SGr) (A0:Option Addr) (c0:Nat) (A1:Option Addr) (c1:Nat) (A2:Option Addr) (c2:Nat) (k:Int) (w:World) (g0:(x.signals).length≤9223372036854775807) (r0:RA Zrj w A0 (Zrl mkSig 2 (k) x.signals)) (g1:(x.codes).length≤9223372036854775807) (r1:RA Zjr w A1 (Zrl mkStr 1 (k+2 * x.signals.length) x.codes)) (g2:(x.arcs).length≤9223372036854775807) (r2:RA Zts w A2 (Zrl mkAc 4 (k+2 * x.signals.length+x.codes.length) x.arcs)) (h0:0≤k) (hk:k+2 * x.signals.length+1 * x.codes.length+4 * x.arcs.length≤4611686018427387904):
 Calls Try.prog 15 #[.agg #[.slice A0 (x.signals).length c0,.slice A1 (x.codes).length c1,.slice A2 (x.arcs).length c2],.int .i64 k] w fun e w'=>e=.returned (.int .i64 (k+2 * x.signals.length+x.codes.length+4 * x.arcs.length))∧Below w.heap.size w w':=by
 have q0:decide (k+2 * x.signals.length<0)=false:=by simp;omega
 have q1:decide (k+2 * x.signals.length+x.codes.length<0)=false:=by simp;omega
 have q2:decide (k+2 * x.signals.length+x.codes.length+4 * x.arcs.length<0)=false:=by simp;omega
 go_enter Try.func15,Try.ntmps15
 go_wp2_with fail
 have b0:Below w.heap.size w (w.alloc (.cells #[.slice A0 (x.signals).length c0,.slice A1 (x.codes).length c1,.slice A2 (x.arcs).length c2] 45)):=(Below.refl w.heap.size w).alloc (Nat.le_refl _) _
 refine (heldSignalS A0 c0 x.signals (k) _ g0 (RA.to r0 b0) (by omega) (by omega)).mono ?_
 rintro e w1 ⟨rfl,hb1⟩
 have b1:Below w.heap.size w w1:=b0.trans (hb1.mono b0.size)
 obtain ⟨hc1,_⟩:=Zrp hb1
 have e1_1:w1.cell? ⟨w.heap.size,1,none⟩=some (.slice A1 (x.codes).length c1):=by rw[hc1 _ _ (by first|omega|(rw[World.size_alloc];omega)|(have:=b0.size;omega))];simp[go_sem]
 have e2_1:w1.cell? ⟨w.heap.size,2,none⟩=some (.slice A2 (x.arcs).length c2):=by rw[hc1 _ _ (by first|omega|(rw[World.size_alloc];omega)|(have:=b0.size;omega))];simp[go_sem]
 have hl1:w.heap.size<w1.heap.size:=by have:=hb1.size;rw[World.size_alloc] at this;omega
 go_wp2_with fail
 refine (heldStringS A1 c1 x.codes (k+2 * x.signals.length) _ g1 (RA.to r1 b1) (by omega) (by omega)).mono ?_
 rintro e w2 ⟨rfl,hb2⟩
 have b2:Below w.heap.size w w2:=b1.trans (hb2.mono b1.size)
 obtain ⟨hc2,_⟩:=Zrp hb2
 have e2_2:w2.cell? ⟨w.heap.size,2,none⟩=some (.slice A2 (x.arcs).length c2):=by rw[hc2 _ _ (by first|omega|(rw[World.size_alloc];omega)|(have:=b1.size;omega))];exact e2_1
 have hl2:w.heap.size<w2.heap.size:=by have:=hb2.size;omega
 go_wp2_with fail
 refine (heldArcS A2 c2 x.arcs (k+2 * x.signals.length+x.codes.length) _ g2 (RA.to r2 b2) (by omega) (by omega)).mono ?_
 rintro e w3 ⟨rfl,hb3⟩
 have b3:Below w.heap.size w w3:=b2.trans (hb3.mono b2.size)
 obtain ⟨hc3,_⟩:=Zrp hb3
 have hl3:w.heap.size<w3.heap.size:=by have:=hb3.size;omega
 go_wp2_with fail
 go_ret
 exact ⟨rfl,b3⟩
end Go.Proofs.Ythobodfbjjjiiaa.Lw
