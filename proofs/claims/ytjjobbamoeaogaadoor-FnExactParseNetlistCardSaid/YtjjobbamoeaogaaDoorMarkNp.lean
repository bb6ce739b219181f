import Derived.Test.YtjjobbamoeaogaaDoorRows
import Derived.Test.YtjjobbamoeaogaaDoorMarkText
import Derived.Test.YtjjobbamoeaogaaDoorLawNp
namespace Go.Proofs.YtjjobbamoeaogaaDoor.Lw
open Go.RowKit
set_option linter.unusedVariables false
def mkSig (n:Int) (_:Sig):Sig:=⟨Zdg (n).toNat,n+1⟩
set_option maxHeartbeats 1000000 in
theorem markSignalS_own (base:Nat) (t:TypeId) (A:Option Addr) (c:Nat) (l:List Sig) (k:Int) (w:World) (ho:Own Z1 w base t A c l) (h0:0≤k) (hk:k+2 * l.length≤4611686018427387904):
 Calls Tryd.prog 22 #[.slice A l.length c,.int .i64 k] w fun e w'=>e=.returned (.int .i64 (k+2 * l.length))∧RSl Z1 w' (fun b=>blk A=some b) A (Zaw mkSig 2 k l)∧Touch (fun b=>blk A=some b) w w':=by
 have hcap:=ho.cap
 have hlt0:=ho.lt
 have HM:Hid (Zdd Z1 w A t c 0 (Zaw mkSig 2 k l)):=ho.mrow (Zat _ _ _ _)
 obtain ⟨ml,hml⟩:∃ml,(Zaw mkSig 2 k l)=ml:=⟨_,rfl⟩
 have hmlen:ml.length=l.length:=by rw[←hml];exact Zat _ _ _ _
 rw[hml] at HM⊢
 have HML:=Za2 hml;clear hml
 go_enter Tryd.func22,Tryd.ntmps22
 go_wp2_with fail
 go_loopw [5,1] (fun i kv wr=>∃(j:Nat) (n:Int),j≤l.length∧i=.int .i64 j∧kv=.int .i64 n∧Hid (n=k+2 * j)∧Hid (Zdd Z1 wr A t c j ml)∧Hid (Touch (fun b=>blk A=some b) w wr)) (fun i _ _=>l.length - (intOf i).toNat)
 case atStart=>exact ⟨0,k,Nat.zero_le _,rfl,rfl,by show _=_;omega,HM,Touch.refl _ _⟩
 case round=>
  obtain ⟨j,n,hj,rfl,rfl,hn,hmr,htr⟩:=hrel
  have hnv:=hn.out
  have hsr:=htr.out.size
  by_cases hlt:j<l.length
  ·obtain ⟨x,hx⟩:=ZV hlt
   have hmx:ml[j]?=some (mkSig n x):=by rw[←HML.out,ZcT hx,hnv];rfl
   obtain ⟨g,rfl,hroom⟩:=hmr.out.room hmx
   have lg:g<wr.heap.size:=by have:=(hlt0 g rfl).2;omega
   obtain ⟨⟨v0,r0⟩,z0⟩:=hroom 0 (by decide)
   obtain ⟨⟨v1,r1⟩,z1⟩:=hroom 1 (by decide)
   simp only[ZeW,Nat.add_zero] at r0 z0 r1 z1
   have HX:=Za2 hmx;clear hmx hx hroom
   have hk0:0≤n∧n+2≤4611686018427387904:=by omega
   clear hnv
   go_wp2_with fail
   refine (Zds (n) _ (by omega) (by omega)).mono ?_
   rintro e w1 ⟨rfl,hb1⟩
   obtain ⟨hc1,hf1⟩:=Zdu hb1
   have hz1:=hb1.size
   repeat (first|rw[World.size_setCell] at hz1)
   go_wp2_with fail
   go_roundw
   case rel=>exact ⟨j+1,n+1+1,by omega,by go_num,by go_num,by have:=hn.out;show _=_;omega,Za2 ((hmr.out.to hb1).step [.string ⟨(Zdg (n).toNat).toArray⟩,.int .i64 (n+1)] HX.out (Zsw (x:=mkSig n x) (Zia _) (by constructor<;>simp only[mkSig]<;>omega)) (by simp[Za3,ZeW])),Za2 (Touch.put (Touch.put (htr.out.then_ hb1) (p:=⟨g,j * 2,none⟩) rfl _) (p:=⟨g,j * 2+1,none⟩) rfl _)⟩
   case measure=>simp[intOf];omega
  ·have hjl:j=l.length:=by omega
   have HJ:=Za2 hjl;clear hjl hnv
   go_wp2_with fail
   go_ret
   refine ⟨ZdR (by rw[hn.out,HJ.out]), ?_,htr.out⟩
   have h:=hmr.out
   rw[HJ.out,←hmlen] at h
   exact h.done
set_option maxHeartbeats 1000000 in
theorem heldSignalS (A:Option Addr) (c:Nat) (l:List Sig) (k:Int) (w:World) (hl:l.length≤9223372036854775807) (hr:RA Z1 w A (Zaw mkSig 2 k l)) (h0:0≤k) (hk:k+2 * l.length≤4611686018427387904):
 Calls Tryd.prog 24 #[.slice A l.length c,.int .i64 k] w fun e w'=>e=.returned (.int .i64 (k+2 * l.length))∧Below w.heap.size w w':=by
 go_enter Tryd.func24,Tryd.ntmps24
 go_wp2_with fail
 go_loopw [5,1] (fun i kv wr=>∃(j:Nat) (n:Int),j≤l.length∧i=.int .i64 j∧kv=.int .i64 n∧Hid (n=k+2 * j)∧Below w.heap.size w wr) (fun i _ _=>l.length - (intOf i).toNat)
 case atStart=>exact ⟨0,k,Nat.zero_le _,rfl,rfl,by show _=_;omega,Below.refl _ _⟩
 case round=>
  obtain ⟨j,n,hj,rfl,rfl,hn,hb⟩:=hrel
  have hnv:=hn.out
  have hsz:=hb.size
  by_cases hlt:j<l.length
  ·obtain ⟨x,hx⟩:=ZV hlt
   have hmx:(Zaw mkSig 2 k l)[j]?=some (mkSig n x):=by rw[ZcT hx,hnv];rfl
   obtain ⟨b,off,rfl,hbl,d0,d1,f0,f1⟩:=hr.Sig_at hb hmx
   simp only[mkSig] at d0 d1
   clear hmx hx
   have hk0:0≤n∧n+2≤4611686018427387904:=by omega
   clear hnv
   go_wp2_with fail
   go_region_held3 (fun W=>W.cell? ⟨b,off+j * 2,none⟩=some (.string ⟨(Zdg (n).toNat).toArray⟩)) (first|exact d0|exact (cell_later hb1 d0)) (first|(go_at_call 39;refine (Zds (n) _ (by omega) (by omega)).mono ?_;rintro e w1 ⟨rfl,hb1⟩))
   have hb2:=hb.drew.trans (hb1.mono hsz)
   replace d1:=cell_later hb1 d1
   go_wp2_with fail
   try go_quiet (fail)
   go_wp2_with fail
   go_roundw
   case rel=>exact ⟨j+1,n+1+1,by omega,by go_num,by go_num,by have:=hn.out;show _=_;omega,gG⟩
   case measure=>simp[intOf];omega
  ·have hjl:j=l.length:=by omega
   have HJ:=Za2 hjl;clear hjl hnv
   go_wp2_with fail
   go_ret
   exact ⟨ZdR (by rw[hn.out,HJ.out]),hb⟩
def mkPin (n:Int) (_:Pin):Pin:=⟨n,((n+1) % 3==0)⟩
set_option maxHeartbeats 1000000 in
theorem markPinS_own (base:Nat) (t:TypeId) (A:Option Addr) (c:Nat) (l:List Pin) (k:Int) (w:World) (ho:Own Zbr w base t A c l) (h0:0≤k) (hk:k+2 * l.length≤4611686018427387904):
 Calls Tryd.prog 40 #[.slice A l.length c,.int .i64 k] w fun e w'=>e=.returned (.int .i64 (k+2 * l.length))∧RSl Zbr w' (fun b=>blk A=some b) A (Zaw mkPin 2 k l)∧Touch (fun b=>blk A=some b) w w':=by
 have hcap:=ho.cap
 have hlt0:=ho.lt
 have HM:Hid (Zdd Zbr w A t c 0 (Zaw mkPin 2 k l)):=ho.mrow (Zat _ _ _ _)
 obtain ⟨ml,hml⟩:∃ml,(Zaw mkPin 2 k l)=ml:=⟨_,rfl⟩
 have hmlen:ml.length=l.length:=by rw[←hml];exact Zat _ _ _ _
 rw[hml] at HM⊢
 have HML:=Za2 hml;clear hml
 go_enter Tryd.func40,Tryd.ntmps40
 go_wp2_with fail
 go_loopw [5,1] (fun i kv wr=>∃(j:Nat) (n:Int),j≤l.length∧i=.int .i64 j∧kv=.int .i64 n∧Hid (n=k+2 * j)∧Hid (Zdd Zbr wr A t c j ml)∧Hid (Touch (fun b=>blk A=some b) w wr)) (fun i _ _=>l.length - (intOf i).toNat)
 case atStart=>exact ⟨0,k,Nat.zero_le _,rfl,rfl,by show _=_;omega,HM,Touch.refl _ _⟩
 case round=>
  obtain ⟨j,n,hj,rfl,rfl,hn,hmr,htr⟩:=hrel
  have hnv:=hn.out
  have hsr:=htr.out.size
  by_cases hlt:j<l.length
  ·obtain ⟨x,hx⟩:=ZV hlt
   have hmx:ml[j]?=some (mkPin n x):=by rw[←HML.out,ZcT hx,hnv];rfl
   obtain ⟨g,rfl,hroom⟩:=hmr.out.room hmx
   have lg:g<wr.heap.size:=by have:=(hlt0 g rfl).2;omega
   obtain ⟨⟨v0,r0⟩,z0⟩:=hroom 0 (by decide)
   obtain ⟨⟨v1,r1⟩,z1⟩:=hroom 1 (by decide)
   simp only[ZeX,Nat.add_zero] at r0 z0 r1 z1
   have HX:=Za2 hmx;clear hmx hx hroom
   have hk0:0≤n∧n+2≤4611686018427387904:=by omega
   clear hnv
   go_wp2_with fail
   go_roundw
   case rel=>exact ⟨j+1,n+1+1,by omega,by go_num,by go_num,by have:=hn.out;show _=_;omega,Za2 (hmr.out.step [.int .i64 (n),.bool ((n+1) % 3==0)] HX.out (ZsC (x:=mkPin n x) (by constructor<;>simp only[mkPin]<;>omega)) (by simp[Za3,ZeX])),Za2 (Touch.put (Touch.put htr.out (p:=⟨g,j * 2,none⟩) rfl _) (p:=⟨g,j * 2+1,none⟩) rfl _)⟩
   case measure=>simp[intOf];omega
  ·have hjl:j=l.length:=by omega
   have HJ:=Za2 hjl;clear hjl hnv
   go_wp2_with fail
   go_ret
   refine ⟨ZdR (by rw[hn.out,HJ.out]), ?_,htr.out⟩
   have h:=hmr.out
   rw[HJ.out,←hmlen] at h
   exact h.done
set_option maxHeartbeats 1000000 in
theorem heldPinS (A:Option Addr) (c:Nat) (l:List Pin) (k:Int) (w:World) (hl:l.length≤9223372036854775807) (hr:RA Zbr w A (Zaw mkPin 2 k l)) (h0:0≤k) (hk:k+2 * l.length≤4611686018427387904):
 Calls Tryd.prog 42 #[.slice A l.length c,.int .i64 k] w fun e w'=>e=.returned (.int .i64 (k+2 * l.length))∧Below w.heap.size w w':=by
 go_enter Tryd.func42,Tryd.ntmps42
 go_wp2_with fail
 go_loopw [5,1] (fun i kv wr=>∃(j:Nat) (n:Int),j≤l.length∧i=.int .i64 j∧kv=.int .i64 n∧Hid (n=k+2 * j)∧Below w.heap.size w wr) (fun i _ _=>l.length - (intOf i).toNat)
 case atStart=>exact ⟨0,k,Nat.zero_le _,rfl,rfl,by show _=_;omega,Below.refl _ _⟩
 case round=>
  obtain ⟨j,n,hj,rfl,rfl,hn,hb⟩:=hrel
  have hnv:=hn.out
  have hsz:=hb.size
  by_cases hlt:j<l.length
  ·obtain ⟨x,hx⟩:=ZV hlt
   have hmx:(Zaw mkPin 2 k l)[j]?=some (mkPin n x):=by rw[ZcT hx,hnv];rfl
   obtain ⟨b,off,rfl,hbl,d0,d1,f0⟩:=hr.Pin_at hb hmx
   simp only[mkPin] at d0 d1
   clear hmx hx
   have hk0:0≤n∧n+2≤4611686018427387904:=by omega
   clear hnv
   go_wp2_with fail
   try go_quiet (fail)
   go_wp2_with fail
   try go_quiet (fail)
   go_wp2_with fail
   go_roundw
   case rel=>exact ⟨j+1,n+1+1,by omega,by go_num,by go_num,by have:=hn.out;show _=_;omega,gG⟩
   case measure=>simp[intOf];omega
  ·have hjl:j=l.length:=by omega
   have HJ:=Za2 hjl;clear hjl hnv
   go_wp2_with fail
   go_ret
   exact ⟨ZdR (by rw[hn.out,HJ.out]),hb⟩
def mkStr (n:Int) (_:(List UInt8)):(List UInt8):=(Zdg (n).toNat)
set_option maxHeartbeats 1000000 in
theorem markStringS_own (base:Nat) (t:TypeId) (A:Option Addr) (c:Nat) (l:List (List UInt8)) (k:Int) (w:World) (ho:Own ZB w base t A c l) (h0:0≤k) (hk:k+1 * l.length≤4611686018427387904):
 Calls Tryd.prog 41 #[.slice A l.length c,.int .i64 k] w fun e w'=>e=.returned (.int .i64 (k+1 * l.length))∧RSl ZB w' (fun b=>blk A=some b) A (Zaw mkStr 1 k l)∧Touch (fun b=>blk A=some b) w w':=by
 have hcap:=ho.cap
 have hlt0:=ho.lt
 have HM:Hid (Zdd ZB w A t c 0 (Zaw mkStr 1 k l)):=ho.mrow (Zat _ _ _ _)
 obtain ⟨ml,hml⟩:∃ml,(Zaw mkStr 1 k l)=ml:=⟨_,rfl⟩
 have hmlen:ml.length=l.length:=by rw[←hml];exact Zat _ _ _ _
 rw[hml] at HM⊢
 have HML:=Za2 hml;clear hml
 go_enter Tryd.func41,Tryd.ntmps41
 go_wp2_with fail
 go_loopw [5,1] (fun i kv wr=>∃(j:Nat) (n:Int),j≤l.length∧i=.int .i64 j∧kv=.int .i64 n∧Hid (n=k+1 * j)∧Hid (Zdd ZB wr A t c j ml)∧Hid (Touch (fun b=>blk A=some b) w wr)) (fun i _ _=>l.length - (intOf i).toNat)
 case atStart=>exact ⟨0,k,Nat.zero_le _,rfl,rfl,by show _=_;omega,HM,Touch.refl _ _⟩
 case round=>
  obtain ⟨j,n,hj,rfl,rfl,hn,hmr,htr⟩:=hrel
  have hnv:=hn.out
  have hsr:=htr.out.size
  by_cases hlt:j<l.length
  ·obtain ⟨x,hx⟩:=ZV hlt
   have hmx:ml[j]?=some (mkStr n x):=by rw[←HML.out,ZcT hx,hnv];rfl
   obtain ⟨g,rfl,hroom⟩:=hmr.out.room hmx
   have lg:g<wr.heap.size:=by have:=(hlt0 g rfl).2;omega
   obtain ⟨⟨v0,r0⟩,z0⟩:=hroom 0 (by decide)
   simp only[ZB,Nat.add_zero,Nat.mul_one] at r0 z0
   have HX:=Za2 hmx;clear hmx hx hroom
   have hk0:0≤n∧n+1≤4611686018427387904:=by omega
   clear hnv
   go_wp2_with fail
   refine (Zds (n) _ (by omega) (by omega)).mono ?_
   rintro e w1 ⟨rfl,hb1⟩
   obtain ⟨hc1,hf1⟩:=Zdu hb1
   have hz1:=hb1.size
   repeat (first|rw[World.size_setCell] at hz1)
   go_wp2_with fail
   go_roundw
   case rel=>exact ⟨j+1,n+1,by omega,by go_num,by go_num,by have:=hn.out;show _=_;omega,Za2 ((hmr.out.to hb1).step [.string ⟨(Zdg (n).toNat).toArray⟩] HX.out (⟨rfl,(Zia _)⟩) (by simp[Za3,ZB])),Za2 (Touch.put (htr.out.then_ hb1) (p:=⟨g,j,none⟩) rfl _)⟩
   case measure=>simp[intOf];omega
  ·have hjl:j=l.length:=by omega
   have HJ:=Za2 hjl;clear hjl hnv
   go_wp2_with fail
   go_ret
   refine ⟨ZdR (by rw[hn.out,HJ.out]), ?_,htr.out⟩
   have h:=hmr.out
   rw[HJ.out,←hmlen] at h
   exact h.done
set_option maxHeartbeats 1000000 in
theorem heldStringS (A:Option Addr) (c:Nat) (l:List (List UInt8)) (k:Int) (w:World) (hl:l.length≤9223372036854775807) (hr:RA ZB w A (Zaw mkStr 1 k l)) (h0:0≤k) (hk:k+1 * l.length≤4611686018427387904):
 Calls Tryd.prog 43 #[.slice A l.length c,.int .i64 k] w fun e w'=>e=.returned (.int .i64 (k+1 * l.length))∧Below w.heap.size w w':=by
 go_enter Tryd.func43,Tryd.ntmps43
 go_wp2_with fail
 go_loopw [5,1] (fun i kv wr=>∃(j:Nat) (n:Int),j≤l.length∧i=.int .i64 j∧kv=.int .i64 n∧Hid (n=k+1 * j)∧Below w.heap.size w wr) (fun i _ _=>l.length - (intOf i).toNat)
 case atStart=>exact ⟨0,k,Nat.zero_le _,rfl,rfl,by show _=_;omega,Below.refl _ _⟩
 case round=>
  obtain ⟨j,n,hj,rfl,rfl,hn,hb⟩:=hrel
  have hnv:=hn.out
  have hsz:=hb.size
  by_cases hlt:j<l.length
  ·obtain ⟨x,hx⟩:=ZV hlt
   have hmx:(Zaw mkStr 1 k l)[j]?=some (mkStr n x):=by rw[ZcT hx,hnv];rfl
   obtain ⟨b,off,rfl,hbl,d0,f0⟩:=hr.str_at hb hmx
   simp only[mkStr] at d0
   clear hmx hx
   have hk0:0≤n∧n+1≤4611686018427387904:=by omega
   clear hnv
   go_wp2_with fail
   go_region_held3 (fun W=>W.cell? ⟨b,off+j,none⟩=some (.string ⟨(Zdg (n).toNat).toArray⟩)) (first|exact d0|exact (cell_later hb1 d0)) (first|(go_at_call 39;refine (Zds (n) _ (by omega) (by omega)).mono ?_;rintro e w1 ⟨rfl,hb1⟩))
   have hb2:=hb.drew.trans (hb1.mono hsz)
   go_wp2_with fail
   go_roundw
   case rel=>exact ⟨j+1,n+1,by omega,by go_num,by go_num,by have:=hn.out;show _=_;omega,gG⟩
   case measure=>simp[intOf];omega
  ·have hjl:j=l.length:=by omega
   have HJ:=Za2 hjl;clear hjl hnv
   go_wp2_with fail
   go_ret
   exact ⟨ZdR (by rw[hn.out,HJ.out]),hb⟩
end Go.Proofs.YtjjobbamoeaogaaDoor.Lw
