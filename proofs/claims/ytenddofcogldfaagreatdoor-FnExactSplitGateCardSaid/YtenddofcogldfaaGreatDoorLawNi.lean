import Derived.Test.YtenddofcogldfaaGreatDoorRows
import Derived.Test.YtenddofcogldfaaGreatDoorData
import Derived.Test.YtenddofcogldfaaGreatDoorFrz
namespace Go.Proofs.YtenddofcogldfaaGreatDoor.Lw
open Go.RowKit
set_option linter.unusedVariables false
set_option maxHeartbeats 1000000 in
theorem toIntS (A:Option Addr) (c:Nat) (l:(List Int)) (w:World) (hs:l.length≤1048576) (hr:RA ZB w A l):
 Calls Tryz.prog 7 #[.slice A l.length c] w fun e w'=>∃A',e=.returned (.slice A' l.length l.length)∧RSl ZB w' (Za2 w w') A' l∧Below w.heap.size w w'∧Frz w w':=by
 have hl:=hs
 obtain ⟨cells,hcs,hmk⟩:=ZeY (P:=Tryz.prog) (t:=26) (e:=3) (size:=1) (bytes:=8) Tryz.underlying26 (by kernel_rfl) l.length (by omega) (by decide)
 have HC:=Ze hcs;clear hcs
 have HM:=Ze hmk;clear hmk
 go_enter Tryz.func7,Tryz.ntmps7
 have hmk:=HM.out w
 go_wp2
 clear hmk
 go_loopw [4] (fun i wr=>∃k:Nat,k≤l.length∧i=.int .i64 k∧Hid (ZW ZB wr (ZiD w.heap.size wr) w.heap.size 3 l.length k l)∧Below w.heap.size w wr∧Frz w wr) (fun i _=>l.length - (intOf i).toNat)
 case atStart=>exact ⟨0,Nat.zero_le _,rfl,ZW.start HC.out,gG,gF⟩
 case round=>
  obtain ⟨k,hk,rfl,hf,hb,hfz⟩:=hrel
  have hsz:=hb.size
  by_cases hlt:k<l.length
  ·obtain ⟨x,hx⟩:=Zg hlt
   obtain ⟨b,off,rfl,hbl,d0,f0⟩:=hr.int_at hb hx
   have HX:=Ze hx;clear hx
   obtain ⟨⟨v0,r0⟩,z0⟩:=hf.out.room hlt 0 (by decide)
   have hgl:=hf.out.lt
   simp only[ZB,Nat.add_zero,Nat.mul_one] at r0 z0
   go_wp2_with fail
   go_roundw
   case rel=>exact ⟨k+1,by omega,by go_num,Ze (hf.out.step [.int .i64 x] HX.out ⟨rfl,f0⟩ (by simp[Zae,ZB])),gG,gF⟩
   case measure=>simp[intOf];omega
  ·have:k=l.length:=by omega
   subst this
   go_wp2
   go_ret
   exact ⟨_,rfl,hf.out.finish,gG,gF⟩
set_option maxHeartbeats 1000000 in
theorem eqIntS (A A':Option Addr) (c c':Nat) (l:(List Int)) (w:World) (hl:l.length≤9223372036854775807) (hr:RA ZB w A l) (hr':RA ZB w A' l):
 Calls Tryz.prog 10 #[.slice A l.length c,.slice A' l.length c'] w fun e w'=>e=.returned (.bool true)∧Below w.heap.size w w':=by
 go_enter Tryz.func10,Tryz.ntmps10
 go_wp2
 go_loopw [5] (fun i wr=>∃k:Nat,k≤l.length∧i=.int .i64 k∧Below w.heap.size w wr) (fun i _=>l.length - (intOf i).toNat)
 case atStart=>exact ⟨0,Nat.zero_le _,rfl,Below.refl _ _⟩
 case round=>
  obtain ⟨k,hk,rfl,hb⟩:=hrel
  have hsz:=hb.size
  by_cases hlt:k<l.length
  ·obtain ⟨x,hx⟩:=Zg hlt
   obtain ⟨b,off,rfl,hbl,d0,f0⟩:=hr.int_at hb hx
   obtain ⟨b',off',rfl,hbl',d0',f0'⟩:=hr'.int_at hb hx
   have HX:=Ze hx;clear hx
   go_wp2_with fail
   go_quiet (fail)
   go_wp2_with fail
   go_roundw
   case rel=>exact ⟨k+1,by omega,by go_num,gG⟩
   case measure=>simp[intOf];omega
  ·go_wp2
   go_ret
   exact ⟨rfl,gG⟩
def wtSig (x:Sig):Nat:=(x.name).length
set_option maxHeartbeats 1000000 in
theorem szSignal (x:Sig)  (left:Int) (w:World) (g0:(x.name).length≤9223372036854775807) (h0:0≤left) (h1:left≤1048576):
 Calls Tryz.prog 30 #[.agg #[.string ⟨(x.name).toArray⟩,.int .i64 x.kind],.int .i64 left] w fun e w'=>e=.returned (.int .i64 (ZK (wtSig x) left))∧Below w.heap.size w w':=by
 show Calls _ _ _ _ fun e w'=>e=.returned (.int .i64 (ZK ((x.name).length) left))∧_
 go_enter Tryz.func30,Tryz.ntmps30
 by_cases q1:left<((x.name).length:Nat)
 ·go_wp2
  go_ret
  exact ⟨ZQ (by unfold ZK;rw[if_pos (by omega)]),gG⟩
 ·skip
  go_wp2
  go_ret
  exact ⟨ZQ (by (unfold ZK;rw[if_neg (by omega)])<;>omega),gG⟩
set_option maxHeartbeats 1000000 in
theorem toSignal (x:Sig)  (w:World) (g0:(x.name).length≤9223372036854775807) (hs:wtSig x≤1048576):
 Calls Tryz.prog 39 #[.agg #[.string ⟨(x.name).toArray⟩,.int .i64 x.kind]] w fun e w'=>e=.returned (.agg #[.string ⟨(x.name).toArray⟩,.int .i64 x.kind])∧Below w.heap.size w w'∧Frz w w':=by
 unfold wtSig at hs
 go_enter Tryz.func39,Tryz.ntmps39
 go_wp2
 go_returns
 exact ⟨rfl,gG,gF⟩
set_option maxHeartbeats 1000000 in
theorem eqSignal (x:Sig)   (w:World) (g0:(x.name).length≤9223372036854775807)  :
 Calls Tryz.prog 51 #[.agg #[.string ⟨(x.name).toArray⟩,.int .i64 x.kind],.agg #[.string ⟨(x.name).toArray⟩,.int .i64 x.kind]] w fun e w'=>e=.returned (.bool true)∧Below w.heap.size w w':=by
 go_enter Tryz.func51,Tryz.ntmps51
 go_wp2
 go_ret
 exact ⟨rfl,gG⟩
set_option maxHeartbeats 1000000 in
theorem szSignalS (A:Option Addr) (c:Nat) (l:(List Sig)) (left:Int) (w:World) (hn:l.length≤9223372036854775807) (hr:RA Zm w A l) (h0:0≤left) (h1:left≤1048576):
 Calls Tryz.prog 14 #[.slice A l.length c,.int .i64 left] w fun e w'=>e=.returned (.int .i64 (ZK (wtL wtSig l) left))∧Below w.heap.size w w':=by
 by_cases h:left<l.length
 ·have hs:ZK (wtL wtSig l) left= -1:=by unfold ZK wtL;rw[if_pos (by omega)]
  have HS:=Ze hs;clear hs
  go_enter Tryz.func14,Tryz.ntmps14
  go_wp2
  go_ret
  exact ⟨ZQ HS.out.symm,gG⟩
 ·obtain ⟨R,hR⟩:∃R,ZK (wtL wtSig l) left=R:=⟨_,rfl⟩
  have HR:=Ze hR
  have HL:Hid (ZK ((l.drop 0).map wtSig).sum (left - l.length)=R):=by show _=_;rw[←hR,wtL,Zda h];rfl
  clear hR
  go_enter Tryz.func14,Tryz.ntmps14
  go_wp2
  go_loopw [5,1] (fun i L wr=>∃(k:Nat) (m:Int),k≤l.length∧i=.int .i64 k∧L=.int .i64 m∧0≤m∧m≤1048576∧Hid (ZK ((l.drop k).map wtSig).sum m=R)∧Below w.heap.size w wr) (fun i _ _=>l.length - (intOf i).toNat)
  case atStart=>exact ⟨0,_,Nat.zero_le _,rfl,rfl,by omega,by omega,HL,gG⟩
  case round=>
   obtain ⟨k,m,hk,rfl,rfl,hm0,hm1,hgo,hb⟩:=hrel
   have hsz:=hb.size
   by_cases hlt:k<l.length
   ·obtain ⟨x,hx⟩:=Zg hlt
    obtain ⟨b,off,rfl,hbl,d0,d1,f0,f1⟩:=hr.Sig_at hb hx
    have Hd:=Ze (Zb7 hx)
    clear hx
    have hg1:=hgo.out
    rw[Hd.out,List.map_cons,List.sum_cons] at hg1
    have HG:=Ze hg1;clear hg1
    go_wp2_with fail
    refine (szSignal x  m _ f0 hm0 hm1).mono ?_
    rintro e w1 ⟨rfl,hb1⟩
    have hb2:=hb.trans (hb1.mono hsz)
    by_cases hq:m<(wtSig x:Nat)
    ·rw[Zcr hq]
     have HQ:=Ze (ZdM (b:=((l.drop (k+1)).map wtSig).sum) hq)
     go_wp2
     go_ret
     exact ⟨ZQ (by rw[HR.out,←HG.out,←HQ.out]),gG⟩
    ·rw[Zcs hq]
     have HG2:Hid (ZK ((l.drop (k+1)).map wtSig).sum (m - (wtSig x:Nat))=R):=by show _=_;rw[←HG.out];exact (Zda hq).symm
     have hq1:(wtSig x:Int)≤m:=by omega
     have hq2:(0:Int)≤(wtSig x:Nat):=by omega
     go_wp2_with fail
     go_roundw
     case rel=>exact ⟨k+1,_,by omega,by go_num,rfl,by omega,by omega,HG2,gG⟩
     case measure=>simp[intOf];omega
   ·have hg1:=hgo.out
    rw[ZiC hlt] at hg1
    have HG:=Ze hg1;clear hg1
    go_wp2
    go_ret
    exact ⟨ZQ (by rw[HR.out,←HG.out];unfold ZK;simp;omega),gG⟩
set_option maxHeartbeats 1000000 in
theorem toSignalS (A:Option Addr) (c:Nat) (l:(List Sig)) (w:World) (hs:wtL wtSig l≤1048576) (hr:RA Zm w A l):
 Calls Tryz.prog 17 #[.slice A l.length c] w fun e w'=>∃A',e=.returned (.slice A' l.length l.length)∧RSl Zm w' (Za2 w w') A' l∧Below w.heap.size w w'∧Frz w w':=by
 have hl:l.length≤1048576:=by unfold wtL at hs;omega
 obtain ⟨cells,hcs,hmk⟩:=ZeY (P:=Tryz.prog) (t:=28) (e:=70) (size:=2) (bytes:=24) Tryz.underlying28 (by kernel_rfl) l.length (by omega) (by decide)
 have HC:=Ze hcs;clear hcs
 have HM:=Ze hmk;clear hmk
 go_enter Tryz.func17,Tryz.ntmps17
 have hmk:=HM.out w
 go_wp2
 clear hmk
 go_loopw [4] (fun i wr=>∃k:Nat,k≤l.length∧i=.int .i64 k∧Hid (ZW Zm wr (ZiD w.heap.size wr) w.heap.size 70 l.length k l)∧Below w.heap.size w wr∧Frz w wr) (fun i _=>l.length - (intOf i).toNat)
 case atStart=>exact ⟨0,Nat.zero_le _,rfl,ZW.start HC.out,gG,gF⟩
 case round=>
  obtain ⟨k,hk,rfl,hf,hb,hfz⟩:=hrel
  have hsz:=hb.size
  by_cases hlt:k<l.length
  ·obtain ⟨x,hx⟩:=Zg hlt
   obtain ⟨b,off,rfl,hbl,d0,d1,f0,f1⟩:=hr.Sig_at hb hx
   have hwx:wtSig x≤1048576:=Nat.le_trans (Zpk hx) hs
   have HX:=Ze hx;clear hx
   have hgl:=hf.out.lt
   go_wp2_with fail
   refine (toSignal x  wr f0 hwx).mono ?_
   rintro e w1 ⟨rfl,hb1,fz1⟩
   have hf1:=hf.out.to hb1
   obtain ⟨⟨v0,p0⟩,z0⟩:=hf1.room hlt 0 (by decide)
   obtain ⟨⟨v1,p1⟩,z1⟩:=hf1.room hlt 1 (by decide)
   have HF:=Ze hf1;clear hf1
   simp only[ZcB,Nat.add_zero] at p0 z0 p1 z1
   have hb2:=hb.trans (hb1.mono hsz)
   have hsz1:=hb1.size
   go_wp2_with fail
   go_roundw
   case rel=>exact ⟨k+1,by omega,by go_num,Ze (HF.out.step [.string ⟨(x.name).toArray⟩,.int .i64 x.kind] HX.out (Znp f0 f1) (by simp[Zae,ZcB])),gG,gF⟩
   case measure=>simp[intOf];omega
  ·have:k=l.length:=by omega
   subst this
   go_wp2
   go_ret
   exact ⟨_,rfl,hf.out.finish,gG,gF⟩
set_option maxHeartbeats 1000000 in
theorem eqSignalS (A A':Option Addr) (c c':Nat) (l:(List Sig)) (w:World) (hl:l.length≤9223372036854775807) (hr:RA Zm w A l) (hr':RA Zm w A' l):
 Calls Tryz.prog 24 #[.slice A l.length c,.slice A' l.length c'] w fun e w'=>e=.returned (.bool true)∧Below w.heap.size w w':=by
 go_enter Tryz.func24,Tryz.ntmps24
 go_wp2
 go_loopw [5] (fun i wr=>∃k:Nat,k≤l.length∧i=.int .i64 k∧Below w.heap.size w wr) (fun i _=>l.length - (intOf i).toNat)
 case atStart=>exact ⟨0,Nat.zero_le _,rfl,Below.refl _ _⟩
 case round=>
  obtain ⟨k,hk,rfl,hb⟩:=hrel
  have hsz:=hb.size
  by_cases hlt:k<l.length
  ·obtain ⟨x,hx⟩:=Zg hlt
   obtain ⟨b,off,rfl,hbl,d0,d1,f0,f1⟩:=hr.Sig_at hb hx
   obtain ⟨b',off',rfl,hbl',d0',d1',f0',f1'⟩:=hr'.Sig_at hb hx
   have HX:=Ze hx;clear hx
   go_wp2_with fail
   go_region_held3 (fun W=>W.cell? ⟨b,off+k * 2,none⟩=some (.string ⟨(x.name).toArray⟩)∧W.cell? ⟨b,off+k * 2+1,none⟩=some (.int .i64 x.kind)∧W.cell? ⟨b',off'+k * 2,none⟩=some (.string ⟨(x.name).toArray⟩)∧W.cell? ⟨b',off'+k * 2+1,none⟩=some (.int .i64 x.kind)) (first|exact ⟨d0,d1,d0',d1'⟩|exact ⟨(cell_later hb1 d0),(cell_later hb1 d1),(cell_later hb1 d0'),(cell_later hb1 d1')⟩) (first|(go_at_call 51;refine (eqSignal x   _ f0).mono ?_;rintro e w1 ⟨rfl,hb1⟩))
   have hb2:=hb.drew.trans (hb1.mono hsz)
   go_wp2_with fail
   go_roundw
   case rel=>exact ⟨k+1,by omega,by go_num,gG⟩
   case measure=>simp[intOf];omega
  ·go_wp2
   go_ret
   exact ⟨rfl,gG⟩
set_option maxHeartbeats 1000000 in
theorem toPin (x:Pin)  (w:World)   :
 Calls Tryz.prog 83 #[.agg #[.int .i64 x.at_,.bool x.not_]] w fun e w'=>e=.returned (.agg #[.int .i64 x.at_,.bool x.not_])∧Below w.heap.size w w'∧Frz w w':=by
 go_enter Tryz.func83,Tryz.ntmps83
 go_wp2
 go_returns
 exact ⟨rfl,gG,gF⟩
set_option maxHeartbeats 1000000 in
theorem eqPin (x:Pin)   (w:World)   :
 Calls Tryz.prog 91 #[.agg #[.int .i64 x.at_,.bool x.not_],.agg #[.int .i64 x.at_,.bool x.not_]] w fun e w'=>e=.returned (.bool true)∧Below w.heap.size w w':=by
 go_enter Tryz.func91,Tryz.ntmps91
 go_wp2
 go_ret
 exact ⟨rfl,gG⟩
set_option maxHeartbeats 400000 in
theorem szPinS (A:Option Addr) (n c:Nat) (left:Int) (w:World) (hn:n≤9223372036854775807) (h0:0≤left) (h1:left≤1048576):
 Calls Tryz.prog 58 #[.slice A n c,.int .i64 left] w fun e w'=>e=.returned (.int .i64 (ZK n left))∧w'=w:=by
 by_cases h:left<n
 ·go_enter Tryz.func58,Tryz.ntmps58
  go_wp2
  go_ret
  exact ⟨ZQ (by unfold ZK;rw[if_pos (by omega)]),rfl⟩
 ·go_enter Tryz.func58,Tryz.ntmps58
  go_wp2
  go_ret
  exact ⟨ZQ (by unfold ZK;rw[if_neg (by omega)]),rfl⟩
set_option maxHeartbeats 1000000 in
theorem toPinS (A:Option Addr) (c:Nat) (l:(List Pin)) (w:World) (hs:l.length≤1048576) (hr:RA Zw w A l):
 Calls Tryz.prog 65 #[.slice A l.length c] w fun e w'=>∃A',e=.returned (.slice A' l.length l.length)∧RSl Zw w' (Za2 w w') A' l∧Below w.heap.size w w'∧Frz w w':=by
 have hl:=hs
 obtain ⟨cells,hcs,hmk⟩:=ZeY (P:=Tryz.prog) (t:=48) (e:=68) (size:=2) (bytes:=16) Tryz.underlying48 (by kernel_rfl) l.length (by omega) (by decide)
 have HC:=Ze hcs;clear hcs
 have HM:=Ze hmk;clear hmk
 go_enter Tryz.func65,Tryz.ntmps65
 have hmk:=HM.out w
 go_wp2
 clear hmk
 go_loopw [4] (fun i wr=>∃k:Nat,k≤l.length∧i=.int .i64 k∧Hid (ZW Zw wr (ZiD w.heap.size wr) w.heap.size 68 l.length k l)∧Below w.heap.size w wr∧Frz w wr) (fun i _=>l.length - (intOf i).toNat)
 case atStart=>exact ⟨0,Nat.zero_le _,rfl,ZW.start HC.out,gG,gF⟩
 case round=>
  obtain ⟨k,hk,rfl,hf,hb,hfz⟩:=hrel
  have hsz:=hb.size
  by_cases hlt:k<l.length
  ·obtain ⟨x,hx⟩:=Zg hlt
   obtain ⟨b,off,rfl,hbl,d0,d1,f0⟩:=hr.Pin_at hb hx
   have HX:=Ze hx;clear hx
   have hgl:=hf.out.lt
   go_wp2_with fail
   refine (toPin x  wr  ).mono ?_
   rintro e w1 ⟨rfl,hb1,fz1⟩
   have hf1:=hf.out.to hb1
   obtain ⟨⟨v0,p0⟩,z0⟩:=hf1.room hlt 0 (by decide)
   obtain ⟨⟨v1,p1⟩,z1⟩:=hf1.room hlt 1 (by decide)
   have HF:=Ze hf1;clear hf1
   simp only[ZcC,Nat.add_zero] at p0 z0 p1 z1
   have hb2:=hb.trans (hb1.mono hsz)
   have hsz1:=hb1.size
   go_wp2_with fail
   go_roundw
   case rel=>exact ⟨k+1,by omega,by go_num,Ze (HF.out.step [.int .i64 x.at_,.bool x.not_] HX.out (Zfl f0) (by simp[Zae,ZcC])),gG,gF⟩
   case measure=>simp[intOf];omega
  ·have:k=l.length:=by omega
   subst this
   go_wp2
   go_ret
   exact ⟨_,rfl,hf.out.finish,gG,gF⟩
set_option maxHeartbeats 1000000 in
theorem eqPinS (A A':Option Addr) (c c':Nat) (l:(List Pin)) (w:World) (hl:l.length≤9223372036854775807) (hr:RA Zw w A l) (hr':RA Zw w A' l):
 Calls Tryz.prog 78 #[.slice A l.length c,.slice A' l.length c'] w fun e w'=>e=.returned (.bool true)∧Below w.heap.size w w':=by
 go_enter Tryz.func78,Tryz.ntmps78
 go_wp2
 go_loopw [5] (fun i wr=>∃k:Nat,k≤l.length∧i=.int .i64 k∧Below w.heap.size w wr) (fun i _=>l.length - (intOf i).toNat)
 case atStart=>exact ⟨0,Nat.zero_le _,rfl,Below.refl _ _⟩
 case round=>
  obtain ⟨k,hk,rfl,hb⟩:=hrel
  have hsz:=hb.size
  by_cases hlt:k<l.length
  ·obtain ⟨x,hx⟩:=Zg hlt
   obtain ⟨b,off,rfl,hbl,d0,d1,f0⟩:=hr.Pin_at hb hx
   obtain ⟨b',off',rfl,hbl',d0',d1',f0'⟩:=hr'.Pin_at hb hx
   have HX:=Ze hx;clear hx
   go_wp2_with fail
   go_region_held3 (fun W=>W.cell? ⟨b,off+k * 2,none⟩=some (.int .i64 x.at_)∧W.cell? ⟨b,off+k * 2+1,none⟩=some (.bool x.not_)∧W.cell? ⟨b',off'+k * 2,none⟩=some (.int .i64 x.at_)∧W.cell? ⟨b',off'+k * 2+1,none⟩=some (.bool x.not_)) (first|exact ⟨d0,d1,d0',d1'⟩|exact ⟨(cell_later hb1 d0),(cell_later hb1 d1),(cell_later hb1 d0'),(cell_later hb1 d1')⟩) (first|(go_at_call 91;refine (eqPin x   _  ).mono ?_;rintro e w1 ⟨rfl,hb1⟩))
   have hb2:=hb.drew.trans (hb1.mono hsz)
   go_wp2_with fail
   go_roundw
   case rel=>exact ⟨k+1,by omega,by go_num,gG⟩
   case measure=>simp[intOf];omega
  ·go_wp2
   go_ret
   exact ⟨rfl,gG⟩
set_option maxHeartbeats 1000000 in
theorem szStringS (A:Option Addr) (c:Nat) (l:(List (List UInt8))) (left:Int) (w:World) (hn:l.length≤9223372036854775807) (hr:RA Zn w A l) (h0:0≤left) (h1:left≤1048576):
 Calls Tryz.prog 59 #[.slice A l.length c,.int .i64 left] w fun e w'=>e=.returned (.int .i64 (ZK (wtL ZbY l) left))∧Below w.heap.size w w':=by
 by_cases h:left<l.length
 ·have hs:ZK (wtL ZbY l) left= -1:=by unfold ZK wtL;rw[if_pos (by omega)]
  have HS:=Ze hs;clear hs
  go_enter Tryz.func59,Tryz.ntmps59
  go_wp2
  go_ret
  exact ⟨ZQ HS.out.symm,gG⟩
 ·obtain ⟨R,hR⟩:∃R,ZK (wtL ZbY l) left=R:=⟨_,rfl⟩
  have HR:=Ze hR
  have HL:Hid (ZK ((l.drop 0).map ZbY).sum (left - l.length)=R):=by show _=_;rw[←hR,wtL,Zda h];rfl
  clear hR
  go_enter Tryz.func59,Tryz.ntmps59
  go_wp2
  go_loopw [5,1] (fun i L wr=>∃(k:Nat) (m:Int),k≤l.length∧i=.int .i64 k∧L=.int .i64 m∧0≤m∧m≤1048576∧Hid (ZK ((l.drop k).map ZbY).sum m=R)∧Below w.heap.size w wr) (fun i _ _=>l.length - (intOf i).toNat)
  case atStart=>exact ⟨0,_,Nat.zero_le _,rfl,rfl,by omega,by omega,HL,gG⟩
  case round=>
   obtain ⟨k,m,hk,rfl,rfl,hm0,hm1,hgo,hb⟩:=hrel
   have hsz:=hb.size
   by_cases hlt:k<l.length
   ·obtain ⟨x,hx⟩:=Zg hlt
    obtain ⟨b,off,rfl,hbl,h2,f0⟩:=hr.str_at hb hx
    have Hd:=Ze (Zb7 hx)
    clear hx
    have hg1:=hgo.out
    rw[Hd.out,List.map_cons,List.sum_cons] at hg1
    by_cases hq:m<(x.length:Int)
    ·have HQ:=Ze (ZdM (b:=((l.drop (k+1)).map ZbY).sum) hq)
     have HG:=Ze hg1;clear hg1
     go_wp2
     go_ret
     exact ⟨ZQ (by rw[HR.out,←HG.out,←HQ.out];rfl),gG⟩
    ·have HG:Hid (ZK ((l.drop (k+1)).map ZbY).sum (m - x.length)=R):=by show _=_;rw[←hg1];exact (Zda hq).symm
     clear hg1
     go_wp2_with fail
     go_roundw
     case rel=>exact ⟨k+1,_,by omega,by go_num,rfl,by omega,by omega,HG,gG⟩
     case measure=>simp[intOf];omega
   ·have hg1:=hgo.out
    rw[ZiC hlt] at hg1
    have HG:=Ze hg1;clear hg1
    go_wp2
    go_ret
    exact ⟨ZQ (by rw[HR.out,←HG.out];unfold ZK;simp;omega),gG⟩
set_option maxHeartbeats 1000000 in
theorem toStringS (A:Option Addr) (c:Nat) (l:(List (List UInt8))) (w:World) (hs:wtL ZbY l≤1048576) (hr:RA Zn w A l):
 Calls Tryz.prog 66 #[.slice A l.length c] w fun e w'=>∃A',e=.returned (.slice A' l.length l.length)∧RSl Zn w' (Za2 w w') A' l∧Below w.heap.size w w'∧Frz w w':=by
 have hl:l.length≤1048576:=by unfold wtL at hs;omega
 obtain ⟨cells,hcs,hmk⟩:=ZeY (P:=Tryz.prog) (t:=49) (e:=9) (size:=1) (bytes:=16) Tryz.underlying49 (by kernel_rfl) l.length (by omega) (by decide)
 have HC:=Ze hcs;clear hcs
 have HM:=Ze hmk;clear hmk
 go_enter Tryz.func66,Tryz.ntmps66
 have hmk:=HM.out w
 go_wp2
 clear hmk
 go_loopw [4] (fun i wr=>∃k:Nat,k≤l.length∧i=.int .i64 k∧Hid (ZW Zn wr (ZiD w.heap.size wr) w.heap.size 9 l.length k l)∧Below w.heap.size w wr∧Frz w wr) (fun i _=>l.length - (intOf i).toNat)
 case atStart=>exact ⟨0,Nat.zero_le _,rfl,ZW.start HC.out,gG,gF⟩
 case round=>
  obtain ⟨k,hk,rfl,hf,hb,hfz⟩:=hrel
  have hsz:=hb.size
  by_cases hlt:k<l.length
  ·obtain ⟨x,hx⟩:=Zg hlt
   obtain ⟨b,off,rfl,hbl,d0,f0⟩:=hr.str_at hb hx
   have HX:=Ze hx;clear hx
   obtain ⟨⟨v0,r0⟩,z0⟩:=hf.out.room hlt 0 (by decide)
   have hgl:=hf.out.lt
   simp only[Zn,Nat.add_zero,Nat.mul_one] at r0 z0
   go_wp2_with fail
   go_roundw
   case rel=>exact ⟨k+1,by omega,by go_num,Ze (hf.out.step [.string ⟨x.toArray⟩] HX.out ⟨rfl,f0⟩ (by simp[Zae,Zn])),gG,gF⟩
   case measure=>simp[intOf];omega
  ·have:k=l.length:=by omega
   subst this
   go_wp2
   go_ret
   exact ⟨_,rfl,hf.out.finish,gG,gF⟩
set_option maxHeartbeats 1000000 in
theorem eqStringS (A A':Option Addr) (c c':Nat) (l:(List (List UInt8))) (w:World) (hl:l.length≤9223372036854775807) (hr:RA Zn w A l) (hr':RA Zn w A' l):
 Calls Tryz.prog 79 #[.slice A l.length c,.slice A' l.length c'] w fun e w'=>e=.returned (.bool true)∧Below w.heap.size w w':=by
 go_enter Tryz.func79,Tryz.ntmps79
 go_wp2
 go_loopw [5] (fun i wr=>∃k:Nat,k≤l.length∧i=.int .i64 k∧Below w.heap.size w wr) (fun i _=>l.length - (intOf i).toNat)
 case atStart=>exact ⟨0,Nat.zero_le _,rfl,Below.refl _ _⟩
 case round=>
  obtain ⟨k,hk,rfl,hb⟩:=hrel
  have hsz:=hb.size
  by_cases hlt:k<l.length
  ·obtain ⟨x,hx⟩:=Zg hlt
   obtain ⟨b,off,rfl,hbl,d0,f0⟩:=hr.str_at hb hx
   obtain ⟨b',off',rfl,hbl',d0',f0'⟩:=hr'.str_at hb hx
   have HX:=Ze hx;clear hx
   go_wp2_with fail
   go_quiet (fail)
   go_wp2_with fail
   go_roundw
   case rel=>exact ⟨k+1,by omega,by go_num,gG⟩
   case measure=>simp[intOf];omega
  ·go_wp2
   go_ret
   exact ⟨rfl,gG⟩
def wtWire (x:Wire):Nat:=(x.name).length+(x.ins).length+(wtL ZbY x.cover)
set_option maxHeartbeats 1000000 in
theorem szWire (x:Wire) (A_ins:Option Addr) (c_ins:Nat) (A_cover:Option Addr) (c_cover:Nat) (left:Int) (w:World) (g0:(x.name).length≤9223372036854775807) (g2:(x.ins).length≤c_ins) (g3:c_ins≤9223372036854775807) (g4:RA Zw w A_ins x.ins) (g5:(x.cover).length≤c_cover) (g6:c_cover≤9223372036854775807) (g7:RA Zn w A_cover x.cover) (h0:0≤left) (h1:left≤1048576):
 Calls Tryz.prog 31 #[.agg #[.string ⟨(x.name).toArray⟩,.int .i64 x.kind,.slice A_ins (x.ins).length c_ins,.slice A_cover (x.cover).length c_cover],.int .i64 left] w fun e w'=>e=.returned (.int .i64 (ZK (wtWire x) left))∧Below w.heap.size w w':=by
 show Calls _ _ _ _ fun e w'=>e=.returned (.int .i64 (ZK ((x.name).length+(x.ins).length+(wtL ZbY x.cover)) left))∧_
 go_enter Tryz.func31,Tryz.ntmps31
 by_cases q1:left<((x.name).length:Nat)
 ·go_wp2
  go_ret
  exact ⟨ZQ (by unfold ZK;rw[if_pos (by omega)]),gG⟩
 ·skip
  go_wp2_with fail
  refine (szPinS A_ins (x.ins).length c_ins (left - ((x.name).length:Nat)) _ (by omega) (by omega) (by omega)).mono ?_
  rintro e w2 ⟨rfl,rfl⟩
  by_cases q2:left - ((x.name).length:Nat)<((x.ins).length:Nat)
  ·rw[Zcr q2]
   go_wp2
   go_ret
   exact ⟨ZQ (by unfold ZK;rw[if_pos (by omega)]),gG⟩
  ·rw[Zcs q2]
   go_wp2_with fail
   refine (szStringS A_cover c_cover x.cover (left - ((x.name).length:Nat) - ((x.ins).length:Nat)) _ (by omega) (RA.to g7 ?hb) (by omega) (by omega)).mono ?_
   case hb=>(repeat' (first|(with_reducible first|exact Below.refl _ _|assumption|refine Zl ?_ _|refine Below.drew ?_|refine Below.alloc ?_ ?_ _|refine Below.setCell ?_ ?_ _|refine Below.then_ ?_ (by assumption) ?_)|go_size))
   rintro e w3 ⟨rfl,hb3⟩
   obtain ⟨hc3,hf3⟩:=Zai hb3
   have hz3:=hb3.size
   repeat (first|rw[World.size_alloc] at hz3|rw[World.size_setCell] at hz3)
   have l3_0:w.heap.size<w3.heap.size:=by omega
   by_cases q3:left - ((x.name).length:Nat) - ((x.ins).length:Nat)<((wtL ZbY x.cover):Nat)
   ·rw[Zcr q3]
    go_wp2
    go_ret
    exact ⟨ZQ (by unfold ZK;rw[if_pos (by omega)]),gG⟩
   ·rw[Zcs q3]
    go_wp2
    go_ret
    exact ⟨ZQ (by (unfold ZK;rw[if_neg (by omega)])<;>omega),gG⟩
set_option maxHeartbeats 1000000 in
theorem toWire (x:Wire) (A_ins:Option Addr) (c_ins:Nat) (A_cover:Option Addr) (c_cover:Nat) (w:World) (g0:(x.name).length≤9223372036854775807) (g2:(x.ins).length≤c_ins) (g3:c_ins≤9223372036854775807) (g4:RA Zw w A_ins x.ins) (g5:(x.cover).length≤c_cover) (g6:c_cover≤9223372036854775807) (g7:RA Zn w A_cover x.cover) (hs:wtWire x≤1048576):
 Calls Tryz.prog 40 #[.agg #[.string ⟨(x.name).toArray⟩,.int .i64 x.kind,.slice A_ins (x.ins).length c_ins,.slice A_cover (x.cover).length c_cover]] w fun e w'=>∃A_ins' A_cover',e=.returned (.agg #[.string ⟨(x.name).toArray⟩,.int .i64 x.kind,.slice A_ins' (x.ins).length (x.ins).length,.slice A_cover' (x.cover).length (x.cover).length])∧RSl Zw w' (Za2 w w') A_ins' x.ins∧RSl Zn w' (Za2 w w') A_cover' x.cover∧Below w.heap.size w w'∧Frz w w':=by
 unfold wtWire at hs
 go_enter Tryz.func40,Tryz.ntmps40
 go_wp2_with fail
 refine (toPinS A_ins c_ins x.ins _ (by omega) (RA.to g4 ?hb)).mono ?_
 case hb=>(repeat' (first|(with_reducible first|exact Below.refl _ _|assumption|refine Zl ?_ _|refine Below.drew ?_|refine Below.alloc ?_ ?_ _|refine Below.setCell ?_ ?_ _|refine Below.then_ ?_ (by assumption) ?_)|go_size))
 rintro e w1 ⟨A_ins',rfl,r1,hb1,fz1⟩
 obtain ⟨hc1,hf1⟩:=Zai hb1
 have hz1:=hb1.size
 repeat (first|rw[World.size_alloc] at hz1|rw[World.size_setCell] at hz1)
 have l1_0:w.heap.size<w1.heap.size:=by omega
 have l1_1:w.heap.size+1<w1.heap.size:=by omega
 have l1_2:w.heap.size+1+1<w1.heap.size:=by omega
 go_wp2_with fail
 refine (toStringS A_cover c_cover x.cover _ (by omega) (RA.to g7 ?hb)).mono ?_
 case hb=>(repeat' (first|(with_reducible first|exact Below.refl _ _|assumption|refine Zl ?_ _|refine Below.drew ?_|refine Below.alloc ?_ ?_ _|refine Below.setCell ?_ ?_ _|refine Below.then_ ?_ (by assumption) ?_)|go_size))
 rintro e w2 ⟨A_cover',rfl,r2,hb2,fz2⟩
 obtain ⟨hc2,hf2⟩:=Zai hb2
 have hz2:=hb2.size
 repeat (first|rw[World.size_alloc] at hz2|rw[World.size_setCell] at hz2)
 have l2_0:w.heap.size<w2.heap.size:=by omega
 have l2_1:w.heap.size+1<w2.heap.size:=by omega
 have l2_2:w.heap.size+1+1<w2.heap.size:=by omega
 go_wp2
 refine bodyPost_ret (v:=.agg #[.string ⟨(x.name).toArray⟩,.int .i64 x.kind,.slice A_ins' (x.ins).length (x.ins).length,.slice A_cover' (x.cover).length (x.cover).length]) ?_ rfl ?_
 ·simp[results,Tryz.results40,go_sem, *]
 exact ⟨_,_,rfl,(r1).keep (by (refine Agree.out ?_;repeat' (first|(with_reducible first|exact Agree.refl _ _|refine Agree.drew ?_|refine Agree.drewN ?_ _|refine Agree.setCell ?_ ?_ _|refine Agree.alloc ?_ ?_ _|refine Agree.then_ ?_ (by assumption) ?_)|(intro b hb;obtain ⟨hb1,hb2⟩:=hb;(first|omega|((try simp at hb1);(try simp at hb2);(try simp);omega)))))) (by (intro b hb;obtain ⟨hb1,hb2⟩:=hb;exact ⟨by (first|omega|((try simp at hb1);(try simp at hb2);(try simp);omega)),by (first|omega|((try simp at hb1);(try simp at hb2);(try simp);omega))⟩)),(r2).keep (by (refine Agree.out ?_;repeat' (first|(with_reducible first|exact Agree.refl _ _|refine Agree.drew ?_|refine Agree.drewN ?_ _|refine Agree.setCell ?_ ?_ _|refine Agree.alloc ?_ ?_ _|refine Agree.then_ ?_ (by assumption) ?_)|(intro b hb;obtain ⟨hb1,hb2⟩:=hb;(first|omega|((try simp at hb1);(try simp at hb2);(try simp);omega)))))) (by (intro b hb;obtain ⟨hb1,hb2⟩:=hb;exact ⟨by (first|omega|((try simp at hb1);(try simp at hb2);(try simp);omega)),by (first|omega|((try simp at hb1);(try simp at hb2);(try simp);omega))⟩)),gG,gF⟩
set_option maxHeartbeats 1000000 in
theorem eqWire (x:Wire) (A_ins:Option Addr) (c_ins:Nat) (A_cover:Option Addr) (c_cover:Nat) (A_ins':Option Addr) (c_ins':Nat) (A_cover':Option Addr) (c_cover':Nat) (w:World) (g0:(x.name).length≤9223372036854775807) (g2:(x.ins).length≤c_ins) (g3:c_ins≤9223372036854775807) (g4:RA Zw w A_ins x.ins) (g5:(x.cover).length≤c_cover) (g6:c_cover≤9223372036854775807) (g7:RA Zn w A_cover x.cover) (g2':(x.ins).length≤c_ins') (g3':c_ins'≤9223372036854775807) (g4':RA Zw w A_ins' x.ins) (g5':(x.cover).length≤c_cover') (g6':c_cover'≤9223372036854775807) (g7':RA Zn w A_cover' x.cover):
 Calls Tryz.prog 52 #[.agg #[.string ⟨(x.name).toArray⟩,.int .i64 x.kind,.slice A_ins (x.ins).length c_ins,.slice A_cover (x.cover).length c_cover],.agg #[.string ⟨(x.name).toArray⟩,.int .i64 x.kind,.slice A_ins' (x.ins).length c_ins',.slice A_cover' (x.cover).length c_cover']] w fun e w'=>e=.returned (.bool true)∧Below w.heap.size w w':=by
 go_enter Tryz.func52,Tryz.ntmps52
 go_wp2_with fail
 refine (eqPinS A_ins A_ins' c_ins c_ins' x.ins _ (by omega) (RA.to g4 ?hb) (RA.to g4' ?hb2)).mono ?_
 case hb=>(repeat' (first|(with_reducible first|exact Below.refl _ _|assumption|refine Zl ?_ _|refine Below.drew ?_|refine Below.alloc ?_ ?_ _|refine Below.setCell ?_ ?_ _|refine Below.then_ ?_ (by assumption) ?_)|go_size))
 case hb2=>(repeat' (first|(with_reducible first|exact Below.refl _ _|assumption|refine Zl ?_ _|refine Below.drew ?_|refine Below.alloc ?_ ?_ _|refine Below.setCell ?_ ?_ _|refine Below.then_ ?_ (by assumption) ?_)|go_size))
 rintro e w1 ⟨rfl,hb1⟩
 obtain ⟨hc1,hf1⟩:=Zai hb1
 have hz1:=hb1.size
 repeat (first|rw[World.size_alloc] at hz1|rw[World.size_setCell] at hz1)
 have l1_0:w.heap.size<w1.heap.size:=by omega
 have l1_1:w.heap.size+1<w1.heap.size:=by omega
 go_wp2_with fail
 refine (eqStringS A_cover A_cover' c_cover c_cover' x.cover _ (by omega) (RA.to g7 ?hb) (RA.to g7' ?hb2)).mono ?_
 case hb=>(repeat' (first|(with_reducible first|exact Below.refl _ _|assumption|refine Zl ?_ _|refine Below.drew ?_|refine Below.alloc ?_ ?_ _|refine Below.setCell ?_ ?_ _|refine Below.then_ ?_ (by assumption) ?_)|go_size))
 case hb2=>(repeat' (first|(with_reducible first|exact Below.refl _ _|assumption|refine Zl ?_ _|refine Below.drew ?_|refine Below.alloc ?_ ?_ _|refine Below.setCell ?_ ?_ _|refine Below.then_ ?_ (by assumption) ?_)|go_size))
 rintro e w2 ⟨rfl,hb2⟩
 obtain ⟨hc2,hf2⟩:=Zai hb2
 have hz2:=hb2.size
 repeat (first|rw[World.size_alloc] at hz2|rw[World.size_setCell] at hz2)
 have l2_0:w.heap.size<w2.heap.size:=by omega
 have l2_1:w.heap.size+1<w2.heap.size:=by omega
 go_wp2
 go_ret
 exact ⟨rfl,gG⟩
set_option maxHeartbeats 1000000 in
theorem szWireS (A:Option Addr) (c:Nat) (l:(List Wire)) (left:Int) (w:World) (hn:l.length≤9223372036854775807) (hr:RA Zx w A l) (h0:0≤left) (h1:left≤1048576):
 Calls Tryz.prog 15 #[.slice A l.length c,.int .i64 left] w fun e w'=>e=.returned (.int .i64 (ZK (wtL wtWire l) left))∧Below w.heap.size w w':=by
 by_cases h:left<l.length
 ·have hs:ZK (wtL wtWire l) left= -1:=by unfold ZK wtL;rw[if_pos (by omega)]
  have HS:=Ze hs;clear hs
  go_enter Tryz.func15,Tryz.ntmps15
  go_wp2
  go_ret
  exact ⟨ZQ HS.out.symm,gG⟩
 ·obtain ⟨R,hR⟩:∃R,ZK (wtL wtWire l) left=R:=⟨_,rfl⟩
  have HR:=Ze hR
  have HL:Hid (ZK ((l.drop 0).map wtWire).sum (left - l.length)=R):=by show _=_;rw[←hR,wtL,Zda h];rfl
  clear hR
  go_enter Tryz.func15,Tryz.ntmps15
  go_wp2
  go_loopw [5,1] (fun i L wr=>∃(k:Nat) (m:Int),k≤l.length∧i=.int .i64 k∧L=.int .i64 m∧0≤m∧m≤1048576∧Hid (ZK ((l.drop k).map wtWire).sum m=R)∧Below w.heap.size w wr) (fun i _ _=>l.length - (intOf i).toNat)
  case atStart=>exact ⟨0,_,Nat.zero_le _,rfl,rfl,by omega,by omega,HL,gG⟩
  case round=>
   obtain ⟨k,m,hk,rfl,rfl,hm0,hm1,hgo,hb⟩:=hrel
   have hsz:=hb.size
   by_cases hlt:k<l.length
   ·obtain ⟨x,hx⟩:=Zg hlt
    obtain ⟨b,off,A_ins,c_ins,A_cover,c_cover,rfl,hbl,d0,d1,d2,d3,f0,f1,f2,f3,f4,f5,f6,f7⟩:=hr.Wire_at hb hx
    have Hd:=Ze (Zb7 hx)
    clear hx
    have hg1:=hgo.out
    rw[Hd.out,List.map_cons,List.sum_cons] at hg1
    have HG:=Ze hg1;clear hg1
    go_wp2_with fail
    refine (szWire x A_ins c_ins A_cover c_cover m _ f0 f2 f3 f4 f5 f6 f7 hm0 hm1).mono ?_
    rintro e w1 ⟨rfl,hb1⟩
    have hb2:=hb.trans (hb1.mono hsz)
    by_cases hq:m<(wtWire x:Nat)
    ·rw[Zcr hq]
     have HQ:=Ze (ZdM (b:=((l.drop (k+1)).map wtWire).sum) hq)
     go_wp2
     go_ret
     exact ⟨ZQ (by rw[HR.out,←HG.out,←HQ.out]),gG⟩
    ·rw[Zcs hq]
     have HG2:Hid (ZK ((l.drop (k+1)).map wtWire).sum (m - (wtWire x:Nat))=R):=by show _=_;rw[←HG.out];exact (Zda hq).symm
     have hq1:(wtWire x:Int)≤m:=by omega
     have hq2:(0:Int)≤(wtWire x:Nat):=by omega
     go_wp2_with fail
     go_roundw
     case rel=>exact ⟨k+1,_,by omega,by go_num,rfl,by omega,by omega,HG2,gG⟩
     case measure=>simp[intOf];omega
   ·have hg1:=hgo.out
    rw[ZiC hlt] at hg1
    have HG:=Ze hg1;clear hg1
    go_wp2
    go_ret
    exact ⟨ZQ (by rw[HR.out,←HG.out];unfold ZK;simp;omega),gG⟩
set_option maxHeartbeats 1000000 in
theorem toWireS (A:Option Addr) (c:Nat) (l:(List Wire)) (w:World) (hs:wtL wtWire l≤1048576) (hr:RA Zx w A l):
 Calls Tryz.prog 18 #[.slice A l.length c] w fun e w'=>∃A',e=.returned (.slice A' l.length l.length)∧RSl Zx w' (Za2 w w') A' l∧Below w.heap.size w w'∧Frz w w':=by
 have hl:l.length≤1048576:=by unfold wtL at hs;omega
 obtain ⟨cells,hcs,hmk⟩:=ZeY (P:=Tryz.prog) (t:=29) (e:=51) (size:=4) (bytes:=72) Tryz.underlying29 (by kernel_rfl) l.length (by omega) (by decide)
 have HC:=Ze hcs;clear hcs
 have HM:=Ze hmk;clear hmk
 go_enter Tryz.func18,Tryz.ntmps18
 have hmk:=HM.out w
 go_wp2
 clear hmk
 go_loopw [4] (fun i wr=>∃k:Nat,k≤l.length∧i=.int .i64 k∧Hid (ZW Zx wr (ZiD w.heap.size wr) w.heap.size 51 l.length k l)∧Below w.heap.size w wr∧Frz w wr) (fun i _=>l.length - (intOf i).toNat)
 case atStart=>exact ⟨0,Nat.zero_le _,rfl,ZW.start HC.out,gG,gF⟩
 case round=>
  obtain ⟨k,hk,rfl,hf,hb,hfz⟩:=hrel
  have hsz:=hb.size
  by_cases hlt:k<l.length
  ·obtain ⟨x,hx⟩:=Zg hlt
   obtain ⟨b,off,A_ins,c_ins,A_cover,c_cover,rfl,hbl,d0,d1,d2,d3,f0,f1,f2,f3,f4,f5,f6,f7⟩:=hr.Wire_at hb hx
   have hwx:wtWire x≤1048576:=Nat.le_trans (Zpk hx) hs
   have HX:=Ze hx;clear hx
   have hgl:=hf.out.lt
   go_wp2_with fail
   refine (toWire x A_ins c_ins A_cover c_cover wr f0 f2 f3 f4 f5 f6 f7 hwx).mono ?_
   rintro e w1 ⟨A_ins',A_cover',rfl,rA_ins,rA_cover,hb1,fz1⟩
   have hf1:=hf.out.to hb1
   obtain ⟨⟨v0,p0⟩,z0⟩:=hf1.room hlt 0 (by decide)
   obtain ⟨⟨v1,p1⟩,z1⟩:=hf1.room hlt 1 (by decide)
   obtain ⟨⟨v2,p2⟩,z2⟩:=hf1.room hlt 2 (by decide)
   obtain ⟨⟨v3,p3⟩,z3⟩:=hf1.room hlt 3 (by decide)
   have HF:=Ze hf1;clear hf1
   simp only[Zb2,Nat.add_zero] at p0 z0 p1 z1 p2 z2 p3 z3
   have hb2:=hb.trans (hb1.mono hsz)
   have hsz1:=hb1.size
   go_wp2_with fail
   go_roundw
   case rel=>exact ⟨k+1,by omega,by go_num,Ze (HF.out.step [.string ⟨(x.name).toArray⟩,.int .i64 x.kind,.slice A_ins' (x.ins).length (x.ins).length,.slice A_cover' (x.cover).length (x.cover).length] HX.out (ZfD f0 f1 (Nat.le_refl _) (by omega) (rA_ins.mono (by (intro b hb;obtain ⟨hb1,hb2⟩:=hb;exact ⟨by omega,by omega⟩))) (Nat.le_refl _) (by omega) (rA_cover.mono (by (intro b hb;obtain ⟨hb1,hb2⟩:=hb;exact ⟨by omega,by omega⟩)))) (by simp[Zae,Zb2])),gG,gF⟩
   case measure=>simp[intOf];omega
  ·have:k=l.length:=by omega
   subst this
   go_wp2
   go_ret
   exact ⟨_,rfl,hf.out.finish,gG,gF⟩
set_option maxHeartbeats 1000000 in
theorem eqWireS (A A':Option Addr) (c c':Nat) (l:(List Wire)) (w:World) (hl:l.length≤9223372036854775807) (hr:RA Zx w A l) (hr':RA Zx w A' l):
 Calls Tryz.prog 25 #[.slice A l.length c,.slice A' l.length c'] w fun e w'=>e=.returned (.bool true)∧Below w.heap.size w w':=by
 go_enter Tryz.func25,Tryz.ntmps25
 go_wp2
 go_loopw [5] (fun i wr=>∃k:Nat,k≤l.length∧i=.int .i64 k∧Below w.heap.size w wr) (fun i _=>l.length - (intOf i).toNat)
 case atStart=>exact ⟨0,Nat.zero_le _,rfl,Below.refl _ _⟩
 case round=>
  obtain ⟨k,hk,rfl,hb⟩:=hrel
  have hsz:=hb.size
  by_cases hlt:k<l.length
  ·obtain ⟨x,hx⟩:=Zg hlt
   obtain ⟨b,off,A_ins,c_ins,A_cover,c_cover,rfl,hbl,d0,d1,d2,d3,f0,f1,f2,f3,f4,f5,f6,f7⟩:=hr.Wire_at hb hx
   obtain ⟨b',off',A_ins',c_ins',A_cover',c_cover',rfl,hbl',d0',d1',d2',d3',f0',f1',f2',f3',f4',f5',f6',f7'⟩:=hr'.Wire_at hb hx
   have HX:=Ze hx;clear hx
   go_wp2_with fail
   go_region_held3 (fun W=>W.cell? ⟨b,off+k * 4,none⟩=some (.string ⟨(x.name).toArray⟩)∧W.cell? ⟨b,off+k * 4+1,none⟩=some (.int .i64 x.kind)∧W.cell? ⟨b,off+k * 4+2,none⟩=some (.slice A_ins (x.ins).length c_ins)∧W.cell? ⟨b,off+k * 4+3,none⟩=some (.slice A_cover (x.cover).length c_cover)∧W.cell? ⟨b',off'+k * 4,none⟩=some (.string ⟨(x.name).toArray⟩)∧W.cell? ⟨b',off'+k * 4+1,none⟩=some (.int .i64 x.kind)∧W.cell? ⟨b',off'+k * 4+2,none⟩=some (.slice A_ins' (x.ins).length c_ins')∧W.cell? ⟨b',off'+k * 4+3,none⟩=some (.slice A_cover' (x.cover).length c_cover')) (first|exact ⟨d0,d1,d2,d3,d0',d1',d2',d3'⟩|exact ⟨(cell_later hb1 d0),(cell_later hb1 d1),(cell_later hb1 d2),(cell_later hb1 d3),(cell_later hb1 d0'),(cell_later hb1 d1'),(cell_later hb1 d2'),(cell_later hb1 d3')⟩) (first|(go_at_call 52;refine (eqWire x A_ins c_ins A_cover c_cover A_ins' c_ins' A_cover' c_cover' _ f0 f2 f3 (RA.to f4 (Below.drew (Below.refl _ _))) f5 f6 (RA.to f7 (Below.drew (Below.refl _ _))) f2' f3' (RA.to f4' (Below.drew (Below.refl _ _))) f5' f6' (RA.to f7' (Below.drew (Below.refl _ _)))).mono ?_;rintro e w1 ⟨rfl,hb1⟩))
   have hb2:=hb.drew.trans (hb1.mono hsz)
   go_wp2_with fail
   go_roundw
   case rel=>exact ⟨k+1,by omega,by go_num,gG⟩
   case measure=>simp[intOf];omega
  ·go_wp2
   go_ret
   exact ⟨rfl,gG⟩
def wtNl (x:Nl):Nat:=(wtL wtSig x.signals)+(wtL wtWire x.wires)
set_option maxHeartbeats 1000000 in
theorem szNetlist (x:Nl) (A_signals:Option Addr) (c_signals:Nat) (A_wires:Option Addr) (c_wires:Nat) (left:Int) (w:World) (g0:(x.signals).length≤c_signals) (g1:c_signals≤9223372036854775807) (g2:RA Zm w A_signals x.signals) (g3:(x.wires).length≤c_wires) (g4:c_wires≤9223372036854775807) (g5:RA Zx w A_wires x.wires) (h0:0≤left) (h1:left≤1048576):
 Calls Tryz.prog 4 #[.agg #[.slice A_signals (x.signals).length c_signals,.slice A_wires (x.wires).length c_wires],.int .i64 left] w fun e w'=>e=.returned (.int .i64 (ZK (wtNl x) left))∧Below w.heap.size w w':=by
 show Calls _ _ _ _ fun e w'=>e=.returned (.int .i64 (ZK ((wtL wtSig x.signals)+(wtL wtWire x.wires)) left))∧_
 go_enter Tryz.func4,Tryz.ntmps4
 go_wp2_with fail
 refine (szSignalS A_signals c_signals x.signals (left) _ (by omega) (RA.to g2 ?hb) (by omega) (by omega)).mono ?_
 case hb=>(repeat' (first|(with_reducible first|exact Below.refl _ _|assumption|refine Zl ?_ _|refine Below.drew ?_|refine Below.alloc ?_ ?_ _|refine Below.setCell ?_ ?_ _|refine Below.then_ ?_ (by assumption) ?_)|go_size))
 rintro e w1 ⟨rfl,hb1⟩
 obtain ⟨hc1,hf1⟩:=Zai hb1
 have hz1:=hb1.size
 repeat (first|rw[World.size_alloc] at hz1|rw[World.size_setCell] at hz1)
 have l1_0:w.heap.size<w1.heap.size:=by omega
 by_cases q1:left<((wtL wtSig x.signals):Nat)
 ·rw[Zcr q1]
  go_wp2
  go_ret
  exact ⟨ZQ (by unfold ZK;rw[if_pos (by omega)]),gG⟩
 ·rw[Zcs q1]
  go_wp2_with fail
  refine (szWireS A_wires c_wires x.wires (left - ((wtL wtSig x.signals):Nat)) _ (by omega) (RA.to g5 ?hb) (by omega) (by omega)).mono ?_
  case hb=>(repeat' (first|(with_reducible first|exact Below.refl _ _|assumption|refine Zl ?_ _|refine Below.drew ?_|refine Below.alloc ?_ ?_ _|refine Below.setCell ?_ ?_ _|refine Below.then_ ?_ (by assumption) ?_)|go_size))
  rintro e w2 ⟨rfl,hb2⟩
  obtain ⟨hc2,hf2⟩:=Zai hb2
  have hz2:=hb2.size
  repeat (first|rw[World.size_alloc] at hz2|rw[World.size_setCell] at hz2)
  have l2_0:w.heap.size<w2.heap.size:=by omega
  by_cases q2:left - ((wtL wtSig x.signals):Nat)<((wtL wtWire x.wires):Nat)
  ·rw[Zcr q2]
   go_wp2
   go_ret
   exact ⟨ZQ (by unfold ZK;rw[if_pos (by omega)]),gG⟩
  ·rw[Zcs q2]
   go_wp2
   go_ret
   exact ⟨ZQ (by (unfold ZK;rw[if_neg (by omega)])<;>omega),gG⟩
set_option maxHeartbeats 1000000 in
theorem toNetlist (x:Nl) (A_signals:Option Addr) (c_signals:Nat) (A_wires:Option Addr) (c_wires:Nat) (w:World) (g0:(x.signals).length≤c_signals) (g1:c_signals≤9223372036854775807) (g2:RA Zm w A_signals x.signals) (g3:(x.wires).length≤c_wires) (g4:c_wires≤9223372036854775807) (g5:RA Zx w A_wires x.wires) (hs:wtNl x≤1048576):
 Calls Tryz.prog 6 #[.agg #[.slice A_signals (x.signals).length c_signals,.slice A_wires (x.wires).length c_wires]] w fun e w'=>∃A_signals' A_wires',e=.returned (.agg #[.slice A_signals' (x.signals).length (x.signals).length,.slice A_wires' (x.wires).length (x.wires).length])∧RSl Zm w' (Za2 w w') A_signals' x.signals∧RSl Zx w' (Za2 w w') A_wires' x.wires∧Below w.heap.size w w'∧Frz w w':=by
 unfold wtNl at hs
 go_enter Tryz.func6,Tryz.ntmps6
 go_wp2_with fail
 refine (toSignalS A_signals c_signals x.signals _ (by omega) (RA.to g2 ?hb)).mono ?_
 case hb=>(repeat' (first|(with_reducible first|exact Below.refl _ _|assumption|refine Zl ?_ _|refine Below.drew ?_|refine Below.alloc ?_ ?_ _|refine Below.setCell ?_ ?_ _|refine Below.then_ ?_ (by assumption) ?_)|go_size))
 rintro e w1 ⟨A_signals',rfl,r1,hb1,fz1⟩
 obtain ⟨hc1,hf1⟩:=Zai hb1
 have hz1:=hb1.size
 repeat (first|rw[World.size_alloc] at hz1|rw[World.size_setCell] at hz1)
 have l1_0:w.heap.size<w1.heap.size:=by omega
 have l1_1:w.heap.size+1<w1.heap.size:=by omega
 have l1_2:w.heap.size+1+1<w1.heap.size:=by omega
 go_wp2_with fail
 refine (toWireS A_wires c_wires x.wires _ (by omega) (RA.to g5 ?hb)).mono ?_
 case hb=>(repeat' (first|(with_reducible first|exact Below.refl _ _|assumption|refine Zl ?_ _|refine Below.drew ?_|refine Below.alloc ?_ ?_ _|refine Below.setCell ?_ ?_ _|refine Below.then_ ?_ (by assumption) ?_)|go_size))
 rintro e w2 ⟨A_wires',rfl,r2,hb2,fz2⟩
 obtain ⟨hc2,hf2⟩:=Zai hb2
 have hz2:=hb2.size
 repeat (first|rw[World.size_alloc] at hz2|rw[World.size_setCell] at hz2)
 have l2_0:w.heap.size<w2.heap.size:=by omega
 have l2_1:w.heap.size+1<w2.heap.size:=by omega
 have l2_2:w.heap.size+1+1<w2.heap.size:=by omega
 go_wp2
 refine bodyPost_ret (v:=.agg #[.slice A_signals' (x.signals).length (x.signals).length,.slice A_wires' (x.wires).length (x.wires).length]) ?_ rfl ?_
 ·simp[results,Tryz.results6,go_sem, *]
 exact ⟨_,_,rfl,(r1).keep (by (refine Agree.out ?_;repeat' (first|(with_reducible first|exact Agree.refl _ _|refine Agree.drew ?_|refine Agree.drewN ?_ _|refine Agree.setCell ?_ ?_ _|refine Agree.alloc ?_ ?_ _|refine Agree.then_ ?_ (by assumption) ?_)|(intro b hb;obtain ⟨hb1,hb2⟩:=hb;(first|omega|((try simp at hb1);(try simp at hb2);(try simp);omega)))))) (by (intro b hb;obtain ⟨hb1,hb2⟩:=hb;exact ⟨by (first|omega|((try simp at hb1);(try simp at hb2);(try simp);omega)),by (first|omega|((try simp at hb1);(try simp at hb2);(try simp);omega))⟩)),(r2).keep (by (refine Agree.out ?_;repeat' (first|(with_reducible first|exact Agree.refl _ _|refine Agree.drew ?_|refine Agree.drewN ?_ _|refine Agree.setCell ?_ ?_ _|refine Agree.alloc ?_ ?_ _|refine Agree.then_ ?_ (by assumption) ?_)|(intro b hb;obtain ⟨hb1,hb2⟩:=hb;(first|omega|((try simp at hb1);(try simp at hb2);(try simp);omega)))))) (by (intro b hb;obtain ⟨hb1,hb2⟩:=hb;exact ⟨by (first|omega|((try simp at hb1);(try simp at hb2);(try simp);omega)),by (first|omega|((try simp at hb1);(try simp at hb2);(try simp);omega))⟩)),gG,gF⟩
set_option maxHeartbeats 1000000 in
theorem eqNetlist (x:Nl) (A_signals:Option Addr) (c_signals:Nat) (A_wires:Option Addr) (c_wires:Nat) (A_signals':Option Addr) (c_signals':Nat) (A_wires':Option Addr) (c_wires':Nat) (w:World) (g0:(x.signals).length≤c_signals) (g1:c_signals≤9223372036854775807) (g2:RA Zm w A_signals x.signals) (g3:(x.wires).length≤c_wires) (g4:c_wires≤9223372036854775807) (g5:RA Zx w A_wires x.wires) (g0':(x.signals).length≤c_signals') (g1':c_signals'≤9223372036854775807) (g2':RA Zm w A_signals' x.signals) (g3':(x.wires).length≤c_wires') (g4':c_wires'≤9223372036854775807) (g5':RA Zx w A_wires' x.wires):
 Calls Tryz.prog 9 #[.agg #[.slice A_signals (x.signals).length c_signals,.slice A_wires (x.wires).length c_wires],.agg #[.slice A_signals' (x.signals).length c_signals',.slice A_wires' (x.wires).length c_wires']] w fun e w'=>e=.returned (.bool true)∧Below w.heap.size w w':=by
 go_enter Tryz.func9,Tryz.ntmps9
 go_wp2_with fail
 refine (eqSignalS A_signals A_signals' c_signals c_signals' x.signals _ (by omega) (RA.to g2 ?hb) (RA.to g2' ?hb2)).mono ?_
 case hb=>(repeat' (first|(with_reducible first|exact Below.refl _ _|assumption|refine Zl ?_ _|refine Below.drew ?_|refine Below.alloc ?_ ?_ _|refine Below.setCell ?_ ?_ _|refine Below.then_ ?_ (by assumption) ?_)|go_size))
 case hb2=>(repeat' (first|(with_reducible first|exact Below.refl _ _|assumption|refine Zl ?_ _|refine Below.drew ?_|refine Below.alloc ?_ ?_ _|refine Below.setCell ?_ ?_ _|refine Below.then_ ?_ (by assumption) ?_)|go_size))
 rintro e w1 ⟨rfl,hb1⟩
 obtain ⟨hc1,hf1⟩:=Zai hb1
 have hz1:=hb1.size
 repeat (first|rw[World.size_alloc] at hz1|rw[World.size_setCell] at hz1)
 have l1_0:w.heap.size<w1.heap.size:=by omega
 have l1_1:w.heap.size+1<w1.heap.size:=by omega
 go_wp2_with fail
 refine (eqWireS A_wires A_wires' c_wires c_wires' x.wires _ (by omega) (RA.to g5 ?hb) (RA.to g5' ?hb2)).mono ?_
 case hb=>(repeat' (first|(with_reducible first|exact Below.refl _ _|assumption|refine Zl ?_ _|refine Below.drew ?_|refine Below.alloc ?_ ?_ _|refine Below.setCell ?_ ?_ _|refine Below.then_ ?_ (by assumption) ?_)|go_size))
 case hb2=>(repeat' (first|(with_reducible first|exact Below.refl _ _|assumption|refine Zl ?_ _|refine Below.drew ?_|refine Below.alloc ?_ ?_ _|refine Below.setCell ?_ ?_ _|refine Below.then_ ?_ (by assumption) ?_)|go_size))
 rintro e w2 ⟨rfl,hb2⟩
 obtain ⟨hc2,hf2⟩:=Zai hb2
 have hz2:=hb2.size
 repeat (first|rw[World.size_alloc] at hz2|rw[World.size_setCell] at hz2)
 have l2_0:w.heap.size<w2.heap.size:=by omega
 have l2_1:w.heap.size+1<w2.heap.size:=by omega
 go_wp2
 go_ret
 exact ⟨rfl,gG⟩
end Go.Proofs.YtenddofcogldfaaGreatDoor.Lw
