import Derived.Test.YtkgnjijonikchaaDoorRows
import Derived.Test.YtkgnjijonikchaaDoorMarkText
import Derived.Test.YtkgnjijonikchaaDoorLawCr
namespace Go.Proofs.YtkgnjijonikchaaDoor.Lw
open Go.RowKit
set_option linter.unusedVariables false
set_option maxHeartbeats 1000000 in
theorem markSignalS_arg (w0:World) (D:Nat→Prop) (hD:∀b,D b→b<w0.heap.size) (hnf:∀b o,D b→w0.frozen? ⟨b,o,none⟩=false) (A:Option Addr) (c:Nat) (l:List Sig) (hr:RSl Zo2 w0 D A l) (hl:l.length≤9223372036854775807) (k:Int) (w:World) (hm:Marked D w0 w) (h0:0≤k) (hk:k+64 * ((wtL wtSig l):Nat)≤4611686018427387904):
 Calls Tryd.prog 32 #[.slice A l.length c,.int .i64 k] w fun e w'=>∃k':Int,e=.returned (.int .i64 k')∧k≤k'∧k'≤k+64 * ((wtL wtSig l):Nat)∧Marked D w0 w'∧Touch D w w':=by
 go_enter Tryd.func32,Tryd.ntmps32
 go_wp2_with fail
 go_loopw [5,1] (fun i kv wr=>∃(j:Nat) (n:Int),j≤l.length∧i=.int .i64 j∧kv=.int .i64 n∧k≤n∧n+64 * ((wtL wtSig (l.drop j)):Nat)≤k+64 * ((wtL wtSig l):Nat)∧Hid (Marked D w0 wr)∧Hid (Touch D w wr)) (fun i _ _=>l.length - (intOf i).toNat)
 case atStart=>exact ⟨0,k,Nat.zero_le _,rfl,rfl,Int.le_refl _,by simp,hm,Touch.refl _ _⟩
 case round=>
  obtain ⟨j,n,hj,rfl,rfl,hn0,hn1,hmr,htr⟩:=hrel
  have hsr:=hmr.out.size
  by_cases hlt:j<l.length
  ·obtain ⟨x,hx⟩:=Zj hlt
   obtain ⟨b,off,rfl,hDb,d0,d1,f0,f1⟩:=hr.Sig_at hx
   have hcost:((wtL wtSig (l.drop j)):Nat)=1+wtSig x+((wtL wtSig (l.drop (j+1))):Nat):=by rw[Zec hx];rw[Zjx]
   rw[show wtSig x=(x.name).length from rfl] at hcost
   rw[hcost] at hn1
   clear hcost hx
   have lb:=hD b hDb
   have hk0:0≤n:=by omega
   have lbr:b<wr.heap.size:=by omega
   obtain ⟨v0_0,e0_0,_⟩:=hmr.out.cells _ _ _ hDb d0
   have z0_0:wr.frozen? ⟨b,off+j * 2,none⟩=false:=(hmr.out.froz _ _ hDb).trans (hnf _ _ hDb)
   obtain ⟨v1_0,e1_0,_⟩:=hmr.out.cells _ _ _ hDb d1
   have z1_0:wr.frozen? ⟨b,off+j * 2+1,none⟩=false:=(hmr.out.froz _ _ hDb).trans (hnf _ _ hDb)
   go_wp2_with fail
   refine (Zch (n) _ (by omega) (by omega)).mono ?_
   rintro e w1 ⟨rfl,hb1⟩
   obtain ⟨hc1,hf1⟩:=Zah hb1
   have hz1:=hb1.size
   repeat (first|rw[World.size_setCell] at hz1)
   have lb1:b<w1.heap.size:=by omega
   go_wp2_with fail
   go_roundw
   case rel=>exact ⟨j+1,n+1+1,by omega,by go_num,rfl,by omega,by omega,(((hmr.out.then_ (fun q hq=>by have:=hD q hq;(repeat rw[World.size_setCell]);omega) hb1).put hDb d0 (.str _ _)).put hDb d1 (.int _ _)),(((htr.out.then_ hb1).put hDb _).put hDb _)⟩
   case measure=>simp[intOf];omega
  ·go_wp2_with fail
   go_ret
   exact ⟨n,rfl,hn0,by omega,hmr.out,htr.out⟩
def mkSig (n:Int) (_:Sig):Sig:=⟨Zda (n).toNat,n+1⟩
set_option maxHeartbeats 1000000 in
theorem markSignalS_own (base:Nat) (t:TypeId) (A:Option Addr) (c:Nat) (l:List Sig) (k:Int) (w:World) (ho:Own Zo2 w base t A c l) (h0:0≤k) (hk:k+2 * l.length≤4611686018427387904):
 Calls Tryd.prog 32 #[.slice A l.length c,.int .i64 k] w fun e w'=>e=.returned (.int .i64 (k+2 * l.length))∧RSl Zo2 w' (fun b=>blk A=some b) A (Zar mkSig 2 k l)∧Touch (fun b=>blk A=some b) w w':=by
 have hcap:=ho.cap
 have hlt0:=ho.lt
 have HM:Hid (Zc5 Zo2 w A t c 0 (Zar mkSig 2 k l)):=ho.mrow (Zal _ _ _ _)
 obtain ⟨ml,hml⟩:∃ml,(Zar mkSig 2 k l)=ml:=⟨_,rfl⟩
 have hmlen:ml.length=l.length:=by rw[←hml];exact Zal _ _ _ _
 rw[hml] at HM⊢
 have HML:=ZE hml;clear hml
 go_enter Tryd.func32,Tryd.ntmps32
 go_wp2_with fail
 go_loopw [5,1] (fun i kv wr=>∃(j:Nat) (n:Int),j≤l.length∧i=.int .i64 j∧kv=.int .i64 n∧Hid (n=k+2 * j)∧Hid (Zc5 Zo2 wr A t c j ml)∧Hid (Touch (fun b=>blk A=some b) w wr)) (fun i _ _=>l.length - (intOf i).toNat)
 case atStart=>exact ⟨0,k,Nat.zero_le _,rfl,rfl,by show _=_;omega,HM,Touch.refl _ _⟩
 case round=>
  obtain ⟨j,n,hj,rfl,rfl,hn,hmr,htr⟩:=hrel
  have hnv:=hn.out
  have hsr:=htr.out.size
  by_cases hlt:j<l.length
  ·obtain ⟨x,hx⟩:=Zj hlt
   have hmx:ml[j]?=some (mkSig n x):=by rw[←HML.out,ZcL hx,hnv];rfl
   obtain ⟨g,rfl,hroom⟩:=hmr.out.room hmx
   have lg:g<wr.heap.size:=by have:=(hlt0 g rfl).2;omega
   obtain ⟨⟨v0,r0⟩,z0⟩:=hroom 0 (by decide)
   obtain ⟨⟨v1,r1⟩,z1⟩:=hroom 1 (by decide)
   simp only[Zpf,Nat.add_zero] at r0 z0 r1 z1
   have HX:=ZE hmx;clear hmx hx hroom
   have hk0:0≤n∧n+2≤4611686018427387904:=by omega
   clear hnv
   go_wp2_with fail
   refine (Zch (n) _ (by omega) (by omega)).mono ?_
   rintro e w1 ⟨rfl,hb1⟩
   obtain ⟨hc1,hf1⟩:=Zah hb1
   have hz1:=hb1.size
   repeat (first|rw[World.size_setCell] at hz1)
   go_wp2_with fail
   go_roundw
   case rel=>exact ⟨j+1,n+1+1,by omega,by go_num,by go_num,by have:=hn.out;show _=_;omega,ZE ((hmr.out.to hb1).step [.string ⟨(Zda (n).toNat).toArray⟩,.int .i64 (n+1)] HX.out (ZrR (x:=mkSig n x) (ZhT _) (by constructor<;>simp only[mkSig]<;>omega)) (by simp[Zan,Zpf])),ZE (Touch.put (Touch.put (htr.out.then_ hb1) (p:=⟨g,j * 2,none⟩) rfl _) (p:=⟨g,j * 2+1,none⟩) rfl _)⟩
   case measure=>simp[intOf];omega
  ·have hjl:j=l.length:=by omega
   have HJ:=ZE hjl;clear hjl hnv
   go_wp2_with fail
   go_ret
   refine ⟨ZX (by rw[hn.out,HJ.out]), ?_,htr.out⟩
   have h:=hmr.out
   rw[HJ.out,←hmlen] at h
   exact h.done
set_option maxHeartbeats 1000000 in
theorem heldSignalS (A:Option Addr) (c:Nat) (l:List Sig) (k:Int) (w:World) (hl:l.length≤9223372036854775807) (hr:RA Zo2 w A (Zar mkSig 2 k l)) (h0:0≤k) (hk:k+2 * l.length≤4611686018427387904):
 Calls Tryd.prog 35 #[.slice A l.length c,.int .i64 k] w fun e w'=>e=.returned (.int .i64 (k+2 * l.length))∧Below w.heap.size w w':=by
 go_enter Tryd.func35,Tryd.ntmps35
 go_wp2_with fail
 go_loopw [5,1] (fun i kv wr=>∃(j:Nat) (n:Int),j≤l.length∧i=.int .i64 j∧kv=.int .i64 n∧Hid (n=k+2 * j)∧Below w.heap.size w wr) (fun i _ _=>l.length - (intOf i).toNat)
 case atStart=>exact ⟨0,k,Nat.zero_le _,rfl,rfl,by show _=_;omega,Below.refl _ _⟩
 case round=>
  obtain ⟨j,n,hj,rfl,rfl,hn,hb⟩:=hrel
  have hnv:=hn.out
  have hsz:=hb.size
  by_cases hlt:j<l.length
  ·obtain ⟨x,hx⟩:=Zj hlt
   have hmx:(Zar mkSig 2 k l)[j]?=some (mkSig n x):=by rw[ZcL hx,hnv];rfl
   obtain ⟨b,off,rfl,hbl,d0,d1,f0,f1⟩:=hr.Sig_at hb hmx
   simp only[mkSig] at d0 d1
   clear hmx hx
   have hk0:0≤n∧n+2≤4611686018427387904:=by omega
   clear hnv
   go_wp2_with fail
   go_region_held3 (fun W=>W.cell? ⟨b,off+j * 2,none⟩=some (.string ⟨(Zda (n).toNat).toArray⟩)) (first|exact d0|exact (cell_later hb1 d0)) (first|(go_at_call 70;refine (Zch (n) _ (by omega) (by omega)).mono ?_;rintro e w1 ⟨rfl,hb1⟩))
   have hb2:=hb.drew.trans (hb1.mono hsz)
   replace d1:=cell_later hb1 d1
   go_wp2_with fail
   try go_quiet (fail)
   go_wp2_with fail
   go_roundw
   case rel=>exact ⟨j+1,n+1+1,by omega,by go_num,by go_num,by have:=hn.out;show _=_;omega,gG⟩
   case measure=>simp[intOf];omega
  ·have hjl:j=l.length:=by omega
   have HJ:=ZE hjl;clear hjl hnv
   go_wp2_with fail
   go_ret
   exact ⟨ZX (by rw[hn.out,HJ.out]),hb⟩
def mkPin (n:Int) (_:Pin):Pin:=⟨n,((n+1) % 3==0)⟩
set_option maxHeartbeats 1000000 in
theorem markPinS_own (base:Nat) (t:TypeId) (A:Option Addr) (c:Nat) (l:List Pin) (k:Int) (w:World) (ho:Own Zo8 w base t A c l) (h0:0≤k) (hk:k+2 * l.length≤4611686018427387904):
 Calls Tryd.prog 72 #[.slice A l.length c,.int .i64 k] w fun e w'=>e=.returned (.int .i64 (k+2 * l.length))∧RSl Zo8 w' (fun b=>blk A=some b) A (Zar mkPin 2 k l)∧Touch (fun b=>blk A=some b) w w':=by
 have hcap:=ho.cap
 have hlt0:=ho.lt
 have HM:Hid (Zc5 Zo8 w A t c 0 (Zar mkPin 2 k l)):=ho.mrow (Zal _ _ _ _)
 obtain ⟨ml,hml⟩:∃ml,(Zar mkPin 2 k l)=ml:=⟨_,rfl⟩
 have hmlen:ml.length=l.length:=by rw[←hml];exact Zal _ _ _ _
 rw[hml] at HM⊢
 have HML:=ZE hml;clear hml
 go_enter Tryd.func72,Tryd.ntmps72
 go_wp2_with fail
 go_loopw [5,1] (fun i kv wr=>∃(j:Nat) (n:Int),j≤l.length∧i=.int .i64 j∧kv=.int .i64 n∧Hid (n=k+2 * j)∧Hid (Zc5 Zo8 wr A t c j ml)∧Hid (Touch (fun b=>blk A=some b) w wr)) (fun i _ _=>l.length - (intOf i).toNat)
 case atStart=>exact ⟨0,k,Nat.zero_le _,rfl,rfl,by show _=_;omega,HM,Touch.refl _ _⟩
 case round=>
  obtain ⟨j,n,hj,rfl,rfl,hn,hmr,htr⟩:=hrel
  have hnv:=hn.out
  have hsr:=htr.out.size
  by_cases hlt:j<l.length
  ·obtain ⟨x,hx⟩:=Zj hlt
   have hmx:ml[j]?=some (mkPin n x):=by rw[←HML.out,ZcL hx,hnv];rfl
   obtain ⟨g,rfl,hroom⟩:=hmr.out.room hmx
   have lg:g<wr.heap.size:=by have:=(hlt0 g rfl).2;omega
   obtain ⟨⟨v0,r0⟩,z0⟩:=hroom 0 (by decide)
   obtain ⟨⟨v1,r1⟩,z1⟩:=hroom 1 (by decide)
   simp only[Zqx,Nat.add_zero] at r0 z0 r1 z1
   have HX:=ZE hmx;clear hmx hx hroom
   have hk0:0≤n∧n+2≤4611686018427387904:=by omega
   clear hnv
   go_wp2_with fail
   go_roundw
   case rel=>exact ⟨j+1,n+1+1,by omega,by go_num,by go_num,by have:=hn.out;show _=_;omega,ZE (hmr.out.step [.int .i64 (n),.bool ((n+1) % 3==0)] HX.out (Zsy (x:=mkPin n x) (by constructor<;>simp only[mkPin]<;>omega)) (by simp[Zan,Zqx])),ZE (Touch.put (Touch.put htr.out (p:=⟨g,j * 2,none⟩) rfl _) (p:=⟨g,j * 2+1,none⟩) rfl _)⟩
   case measure=>simp[intOf];omega
  ·have hjl:j=l.length:=by omega
   have HJ:=ZE hjl;clear hjl hnv
   go_wp2_with fail
   go_ret
   refine ⟨ZX (by rw[hn.out,HJ.out]), ?_,htr.out⟩
   have h:=hmr.out
   rw[HJ.out,←hmlen] at h
   exact h.done
set_option maxHeartbeats 1000000 in
theorem heldPinS (A:Option Addr) (c:Nat) (l:List Pin) (k:Int) (w:World) (hl:l.length≤9223372036854775807) (hr:RA Zo8 w A (Zar mkPin 2 k l)) (h0:0≤k) (hk:k+2 * l.length≤4611686018427387904):
 Calls Tryd.prog 73 #[.slice A l.length c,.int .i64 k] w fun e w'=>e=.returned (.int .i64 (k+2 * l.length))∧Below w.heap.size w w':=by
 go_enter Tryd.func73,Tryd.ntmps73
 go_wp2_with fail
 go_loopw [5,1] (fun i kv wr=>∃(j:Nat) (n:Int),j≤l.length∧i=.int .i64 j∧kv=.int .i64 n∧Hid (n=k+2 * j)∧Below w.heap.size w wr) (fun i _ _=>l.length - (intOf i).toNat)
 case atStart=>exact ⟨0,k,Nat.zero_le _,rfl,rfl,by show _=_;omega,Below.refl _ _⟩
 case round=>
  obtain ⟨j,n,hj,rfl,rfl,hn,hb⟩:=hrel
  have hnv:=hn.out
  have hsz:=hb.size
  by_cases hlt:j<l.length
  ·obtain ⟨x,hx⟩:=Zj hlt
   have hmx:(Zar mkPin 2 k l)[j]?=some (mkPin n x):=by rw[ZcL hx,hnv];rfl
   obtain ⟨b,off,rfl,hbl,d0,d1,f0⟩:=hr.Pin_at hb hmx
   simp only[mkPin] at d0 d1
   clear hmx hx
   have hk0:0≤n∧n+2≤4611686018427387904:=by omega
   clear hnv
   go_wp2_with fail
   try go_quiet (fail)
   go_wp2_with fail
   try go_quiet (fail)
   go_wp2_with fail
   go_roundw
   case rel=>exact ⟨j+1,n+1+1,by omega,by go_num,by go_num,by have:=hn.out;show _=_;omega,gG⟩
   case measure=>simp[intOf];omega
  ·have hjl:j=l.length:=by omega
   have HJ:=ZE hjl;clear hjl hnv
   go_wp2_with fail
   go_ret
   exact ⟨ZX (by rw[hn.out,HJ.out]),hb⟩
set_option maxHeartbeats 1000000 in
theorem markStringS_arg (w0:World) (D:Nat→Prop) (hD:∀b,D b→b<w0.heap.size) (hnf:∀b o,D b→w0.frozen? ⟨b,o,none⟩=false) (A:Option Addr) (c:Nat) (l:List (List UInt8)) (hr:RSl ZV w0 D A l) (hl:l.length≤9223372036854775807) (k:Int) (w:World) (hm:Marked D w0 w) (h0:0≤k) (hk:k+64 * ((wtL Za6 l):Nat)≤4611686018427387904):
 Calls Tryd.prog 71 #[.slice A l.length c,.int .i64 k] w fun e w'=>∃k':Int,e=.returned (.int .i64 k')∧k≤k'∧k'≤k+64 * ((wtL Za6 l):Nat)∧Marked D w0 w'∧Touch D w w':=by
 go_enter Tryd.func71,Tryd.ntmps71
 go_wp2_with fail
 go_loopw [5,1] (fun i kv wr=>∃(j:Nat) (n:Int),j≤l.length∧i=.int .i64 j∧kv=.int .i64 n∧k≤n∧n+64 * ((wtL Za6 (l.drop j)):Nat)≤k+64 * ((wtL Za6 l):Nat)∧Hid (Marked D w0 wr)∧Hid (Touch D w wr)) (fun i _ _=>l.length - (intOf i).toNat)
 case atStart=>exact ⟨0,k,Nat.zero_le _,rfl,rfl,Int.le_refl _,by simp,hm,Touch.refl _ _⟩
 case round=>
  obtain ⟨j,n,hj,rfl,rfl,hn0,hn1,hmr,htr⟩:=hrel
  have hsr:=hmr.out.size
  by_cases hlt:j<l.length
  ·obtain ⟨x,hx⟩:=Zj hlt
   obtain ⟨b,off,rfl,hDb,d0,f0⟩:=hr.str_at hx
   have hcost:((wtL Za6 (l.drop j)):Nat)=1+Za6 x+((wtL Za6 (l.drop (j+1))):Nat):=by rw[Zec hx];rw[Zjx]
   rw[show Za6 x=x.length from rfl] at hcost
   rw[hcost] at hn1
   clear hcost hx
   have lb:=hD b hDb
   have hk0:0≤n:=by omega
   have lbr:b<wr.heap.size:=by omega
   obtain ⟨v0_0,e0_0,_⟩:=hmr.out.cells _ _ _ hDb d0
   have z0_0:wr.frozen? ⟨b,off+j,none⟩=false:=(hmr.out.froz _ _ hDb).trans (hnf _ _ hDb)
   go_wp2_with fail
   refine (Zch (n) _ (by omega) (by omega)).mono ?_
   rintro e w1 ⟨rfl,hb1⟩
   obtain ⟨hc1,hf1⟩:=Zah hb1
   have hz1:=hb1.size
   repeat (first|rw[World.size_setCell] at hz1)
   have lb1:b<w1.heap.size:=by omega
   go_wp2_with fail
   go_roundw
   case rel=>exact ⟨j+1,n+1,by omega,by go_num,rfl,by omega,by omega,((hmr.out.then_ (fun q hq=>by have:=hD q hq;(repeat rw[World.size_setCell]);omega) hb1).put hDb d0 (.str _ _)),((htr.out.then_ hb1).put hDb _)⟩
   case measure=>simp[intOf];omega
  ·go_wp2_with fail
   go_ret
   exact ⟨n,rfl,hn0,by omega,hmr.out,htr.out⟩
def mkStr (n:Int) (_:(List UInt8)):(List UInt8):=(Zda (n).toNat)
set_option maxHeartbeats 1000000 in
theorem markStringS_own (base:Nat) (t:TypeId) (A:Option Addr) (c:Nat) (l:List (List UInt8)) (k:Int) (w:World) (ho:Own ZV w base t A c l) (h0:0≤k) (hk:k+1 * l.length≤4611686018427387904):
 Calls Tryd.prog 71 #[.slice A l.length c,.int .i64 k] w fun e w'=>e=.returned (.int .i64 (k+1 * l.length))∧RSl ZV w' (fun b=>blk A=some b) A (Zar mkStr 1 k l)∧Touch (fun b=>blk A=some b) w w':=by
 have hcap:=ho.cap
 have hlt0:=ho.lt
 have HM:Hid (Zc5 ZV w A t c 0 (Zar mkStr 1 k l)):=ho.mrow (Zal _ _ _ _)
 obtain ⟨ml,hml⟩:∃ml,(Zar mkStr 1 k l)=ml:=⟨_,rfl⟩
 have hmlen:ml.length=l.length:=by rw[←hml];exact Zal _ _ _ _
 rw[hml] at HM⊢
 have HML:=ZE hml;clear hml
 go_enter Tryd.func71,Tryd.ntmps71
 go_wp2_with fail
 go_loopw [5,1] (fun i kv wr=>∃(j:Nat) (n:Int),j≤l.length∧i=.int .i64 j∧kv=.int .i64 n∧Hid (n=k+1 * j)∧Hid (Zc5 ZV wr A t c j ml)∧Hid (Touch (fun b=>blk A=some b) w wr)) (fun i _ _=>l.length - (intOf i).toNat)
 case atStart=>exact ⟨0,k,Nat.zero_le _,rfl,rfl,by show _=_;omega,HM,Touch.refl _ _⟩
 case round=>
  obtain ⟨j,n,hj,rfl,rfl,hn,hmr,htr⟩:=hrel
  have hnv:=hn.out
  have hsr:=htr.out.size
  by_cases hlt:j<l.length
  ·obtain ⟨x,hx⟩:=Zj hlt
   have hmx:ml[j]?=some (mkStr n x):=by rw[←HML.out,ZcL hx,hnv];rfl
   obtain ⟨g,rfl,hroom⟩:=hmr.out.room hmx
   have lg:g<wr.heap.size:=by have:=(hlt0 g rfl).2;omega
   obtain ⟨⟨v0,r0⟩,z0⟩:=hroom 0 (by decide)
   simp only[ZV,Nat.add_zero,Nat.mul_one] at r0 z0
   have HX:=ZE hmx;clear hmx hx hroom
   have hk0:0≤n∧n+1≤4611686018427387904:=by omega
   clear hnv
   go_wp2_with fail
   refine (Zch (n) _ (by omega) (by omega)).mono ?_
   rintro e w1 ⟨rfl,hb1⟩
   obtain ⟨hc1,hf1⟩:=Zah hb1
   have hz1:=hb1.size
   repeat (first|rw[World.size_setCell] at hz1)
   go_wp2_with fail
   go_roundw
   case rel=>exact ⟨j+1,n+1,by omega,by go_num,by go_num,by have:=hn.out;show _=_;omega,ZE ((hmr.out.to hb1).step [.string ⟨(Zda (n).toNat).toArray⟩] HX.out (⟨rfl,(ZhT _)⟩) (by simp[Zan,ZV])),ZE (Touch.put (htr.out.then_ hb1) (p:=⟨g,j,none⟩) rfl _)⟩
   case measure=>simp[intOf];omega
  ·have hjl:j=l.length:=by omega
   have HJ:=ZE hjl;clear hjl hnv
   go_wp2_with fail
   go_ret
   refine ⟨ZX (by rw[hn.out,HJ.out]), ?_,htr.out⟩
   have h:=hmr.out
   rw[HJ.out,←hmlen] at h
   exact h.done
set_option maxHeartbeats 1000000 in
theorem heldStringS (A:Option Addr) (c:Nat) (l:List (List UInt8)) (k:Int) (w:World) (hl:l.length≤9223372036854775807) (hr:RA ZV w A (Zar mkStr 1 k l)) (h0:0≤k) (hk:k+1 * l.length≤4611686018427387904):
 Calls Tryd.prog 74 #[.slice A l.length c,.int .i64 k] w fun e w'=>e=.returned (.int .i64 (k+1 * l.length))∧Below w.heap.size w w':=by
 go_enter Tryd.func74,Tryd.ntmps74
 go_wp2_with fail
 go_loopw [5,1] (fun i kv wr=>∃(j:Nat) (n:Int),j≤l.length∧i=.int .i64 j∧kv=.int .i64 n∧Hid (n=k+1 * j)∧Below w.heap.size w wr) (fun i _ _=>l.length - (intOf i).toNat)
 case atStart=>exact ⟨0,k,Nat.zero_le _,rfl,rfl,by show _=_;omega,Below.refl _ _⟩
 case round=>
  obtain ⟨j,n,hj,rfl,rfl,hn,hb⟩:=hrel
  have hnv:=hn.out
  have hsz:=hb.size
  by_cases hlt:j<l.length
  ·obtain ⟨x,hx⟩:=Zj hlt
   have hmx:(Zar mkStr 1 k l)[j]?=some (mkStr n x):=by rw[ZcL hx,hnv];rfl
   obtain ⟨b,off,rfl,hbl,d0,f0⟩:=hr.str_at hb hmx
   simp only[mkStr] at d0
   clear hmx hx
   have hk0:0≤n∧n+1≤4611686018427387904:=by omega
   clear hnv
   go_wp2_with fail
   go_region_held3 (fun W=>W.cell? ⟨b,off+j,none⟩=some (.string ⟨(Zda (n).toNat).toArray⟩)) (first|exact d0|exact (cell_later hb1 d0)) (first|(go_at_call 70;refine (Zch (n) _ (by omega) (by omega)).mono ?_;rintro e w1 ⟨rfl,hb1⟩))
   have hb2:=hb.drew.trans (hb1.mono hsz)
   go_wp2_with fail
   go_roundw
   case rel=>exact ⟨j+1,n+1,by omega,by go_num,by go_num,by have:=hn.out;show _=_;omega,gG⟩
   case measure=>simp[intOf];omega
  ·have hjl:j=l.length:=by omega
   have HJ:=ZE hjl;clear hjl hnv
   go_wp2_with fail
   go_ret
   exact ⟨ZX (by rw[hn.out,HJ.out]),hb⟩
set_option maxHeartbeats 1000000 in
theorem markGateS_arg (w0:World) (D:Nat→Prop) (hD:∀b,D b→b<w0.heap.size) (hnf:∀b o,D b→w0.frozen? ⟨b,o,none⟩=false) (A:Option Addr) (c:Nat) (l:List Gt) (hr:RSl Zpc w0 D A l) (hl:l.length≤9223372036854775807) (k:Int) (w:World) (hm:Marked D w0 w) (h0:0≤k) (hk:k+64 * ((wtL wtGt l):Nat)≤4611686018427387904):
 Calls Tryd.prog 33 #[.slice A l.length c,.int .i64 k] w fun e w'=>∃k':Int,e=.returned (.int .i64 k')∧k≤k'∧k'≤k+64 * ((wtL wtGt l):Nat)∧Marked D w0 w'∧Touch D w w':=by
 go_enter Tryd.func33,Tryd.ntmps33
 go_wp2_with fail
 go_loopw [5,1] (fun i kv wr=>∃(j:Nat) (n:Int),j≤l.length∧i=.int .i64 j∧kv=.int .i64 n∧k≤n∧n+64 * ((wtL wtGt (l.drop j)):Nat)≤k+64 * ((wtL wtGt l):Nat)∧Hid (Marked D w0 wr)∧Hid (Touch D w wr)) (fun i _ _=>l.length - (intOf i).toNat)
 case atStart=>exact ⟨0,k,Nat.zero_le _,rfl,rfl,Int.le_refl _,by simp,hm,Touch.refl _ _⟩
 case round=>
  obtain ⟨j,n,hj,rfl,rfl,hn0,hn1,hmr,htr⟩:=hrel
  have hsr:=hmr.out.size
  by_cases hlt:j<l.length
  ·obtain ⟨x,hx⟩:=Zj hlt
   obtain ⟨b,off,A_set,c_set,A_reset,c_reset,rfl,hDb,d0,d1,d2,d3,f0,f1,f2,f3,f4,f5,f6,f7⟩:=hr.Gt_at hx
   have hcost:((wtL wtGt (l.drop j)):Nat)=1+wtGt x+((wtL wtGt (l.drop (j+1))):Nat):=by rw[Zec hx];rw[Zjx]
   rw[show wtGt x=(wtL Za6 x.set)+(wtL Za6 x.reset) from rfl] at hcost
   rw[hcost] at hn1
   clear hcost hx
   have lb:=hD b hDb
   have hk0:0≤n:=by omega
   have lbr:b<wr.heap.size:=by omega
   obtain ⟨v0_0,e0_0,_⟩:=hmr.out.cells _ _ _ hDb d0
   have z0_0:wr.frozen? ⟨b,off+j * 4,none⟩=false:=(hmr.out.froz _ _ hDb).trans (hnf _ _ hDb)
   obtain ⟨v1_0,e1_0,_⟩:=hmr.out.cells _ _ _ hDb d1
   have z1_0:wr.frozen? ⟨b,off+j * 4+1,none⟩=false:=(hmr.out.froz _ _ hDb).trans (hnf _ _ hDb)
   have e2_0:wr.cell? ⟨b,off+j * 4+2,none⟩=some (.slice A_set (x.set).length c_set):=by obtain ⟨v1,h1,h2⟩:=hmr.out.cells _ _ _ hDb d2;rw[h1,h2.slice]
   have e3_0:wr.cell? ⟨b,off+j * 4+3,none⟩=some (.slice A_reset (x.reset).length c_reset):=by obtain ⟨v1,h1,h2⟩:=hmr.out.cells _ _ _ hDb d3;rw[h1,h2.slice]
   go_wp2_with fail
   have hMc1:=((hmr.out.put hDb d0 (.int _ (n))).put hDb d1 (.int _ (n+1)))
   have hTc1:=(Touch.put (p:=⟨b,off+j * 4+1,none⟩) (Touch.put (p:=⟨b,off+j * 4,none⟩) htr.out hDb (.int .i64 (n))) hDb (.int .i64 (n+1)))
   refine (markStringS_arg w0 D hD hnf _ _ _ f4 (by omega) (n+1+1) _ hMc1 (by omega) (by omega)).mono ?_
   rintro e w1 ⟨n1,rfl,hp1,hq1,hM1,hT1⟩
   have hTT1:Touch D w w1:=Touch.chain hTc1 hT1 hD hm.size
   have hs1:=hM1.size
   have e3_1:w1.cell? ⟨b,off+j * 4+3,none⟩=some (.slice A_reset (x.reset).length c_reset):=by obtain ⟨v1,h1,h2⟩:=hM1.cells _ _ _ hDb d3;rw[h1,h2.slice]
   go_wp2_with fail
   have hMc2:=hM1
   have hTc2:=hTT1
   refine (markStringS_arg w0 D hD hnf _ _ _ f7 (by omega) (n1) _ hMc2 (by omega) (by omega)).mono ?_
   rintro e w2 ⟨n2,rfl,hp2,hq2,hM2,hT2⟩
   have hTT2:Touch D w w2:=Touch.chain hTc2 hT2 hD hm.size
   have hs2:=hM2.size
   go_wp2_with fail
   go_roundw
   case rel=>exact ⟨j+1,n2,by omega,by go_num,rfl,by omega,by omega,hM2,hTT2⟩
   case measure=>simp[intOf];omega
  ·go_wp2_with fail
   go_ret
   exact ⟨n,rfl,hn0,by omega,hmr.out,htr.out⟩
set_option maxHeartbeats 1000000 in
theorem markCircuit_arg (w0:World) (D:Nat→Prop) (hD:∀b,D b→b<w0.heap.size) (hnf:∀b o,D b→w0.frozen? ⟨b,o,none⟩=false) (x:Crc) (A_signals:Option Addr) (c_signals:Nat) (A_gates:Option Addr) (c_gates:Nat) (g0:(x.signals).length≤c_signals) (g1:c_signals≤9223372036854775807) (g2:RSl Zo2 w0 D A_signals x.signals) (g3:(x.gates).length≤c_gates) (g4:c_gates≤9223372036854775807) (g5:RSl Zpc w0 D A_gates x.gates) (k:Int) (w:World) (hm:Marked D w0 w) (h0:0≤k) (hk:k+64 * (wtCrc x:Nat)≤4611686018427387904):
 Calls Tryd.prog 11 #[.agg #[.slice A_signals (x.signals).length c_signals,.slice A_gates (x.gates).length c_gates],.int .i64 k] w fun e w'=>∃k':Int,e=.returned (.int .i64 k')∧k≤k'∧k'≤k+64 * (wtCrc x:Nat)∧Marked D w0 w'∧Touch D w w':=by
 have hwt:wtCrc x=wtCrc x:=rfl
 conv at hwt=>rhs;unfold wtCrc
 rw[hwt] at hk⊢
 clear hwt
 have hs0:=hm.size
 have hbx:∀b,b=w.heap.size→¬D b:=fun b hb hd=>by have:=hD b hd;omega
 go_enter Tryd.func11,Tryd.ntmps11
 go_wp2_with fail
 have hM0:=hm.then_ (fun q hq=>by have:=hD q hq;omega) ((Below.refl w.heap.size w).alloc (Nat.le_refl _) (.cells #[.slice A_signals (x.signals).length c_signals,.slice A_gates (x.gates).length c_gates] 35))
 have hT0:Touch D w (w.alloc (.cells #[.slice A_signals (x.signals).length c_signals,.slice A_gates (x.gates).length c_gates] 35)):=(Touch.refl D w).then_ ((Below.refl w.heap.size w).alloc (Nat.le_refl _) _)
 refine (markSignalS_arg w0 D hD hnf _ _ _ g2 (by omega) k _ hM0 (by omega) (by omega)).mono ?_
 rintro e w1 ⟨n1,rfl,hp1,hq1,hM1,hT1⟩
 have hTT1:Touch D w w1:=Touch.chain hT0 hT1 hD hm.size
 have hs1:=hT1.size
 rw[World.size_alloc] at hs1
 have e1_1:w1.cell? ⟨w.heap.size,1,none⟩=some (.slice A_gates (x.gates).length c_gates):=by rw[hT1.cell (by first|omega|(rw[World.size_alloc];omega)) (hbx _ rfl)];simp[go_sem]
 go_wp2_with fail
 refine (markGateS_arg w0 D hD hnf _ _ _ g5 (by omega) n1 _ hM1 (by omega) (by omega)).mono ?_
 rintro e w2 ⟨n2,rfl,hp2,hq2,hM2,hT2⟩
 have hTT2:Touch D w w2:=Touch.chain hTT1 hT2 hD hm.size
 have hs2:=hT2.size
 go_wp2_with fail
 go_ret
 exact ⟨n2,rfl,by omega,by omega,hM2,hTT2⟩
end Go.Proofs.YtkgnjijonikchaaDoor.Lw
