import Derived.Test.YtkgnjijonikchaaDoorRows
import Derived.Test.YtkgnjijonikchaaDoorData
import Derived.Test.YtkgnjijonikchaaDoorFrz
namespace Go.Proofs.YtkgnjijonikchaaDoor.Lw
open Go.RowKit
set_option linter.unusedVariables false
def wtSig (x:Sig):Nat:=(x.name).length
set_option maxHeartbeats 1000000 in
theorem szSignal (x:Sig)  (left:Int) (w:World) (g0:(x.name).length≤9223372036854775807) (h0:0≤left) (h1:left≤1048576):
 Calls Tryd.prog 48 #[.agg #[.string ⟨(x.name).toArray⟩,.int .i64 x.kind],.int .i64 left] w fun e w'=>e=.returned (.int .i64 (ZP (wtSig x) left))∧Below w.heap.size w w':=by
 show Calls _ _ _ _ fun e w'=>e=.returned (.int .i64 (ZP ((x.name).length) left))∧_
 go_enter Tryd.func48,Tryd.ntmps48
 by_cases q1:left<((x.name).length:Nat)
 ·go_wp2
  go_ret
  exact ⟨ZX (by unfold ZP;rw[if_pos (by omega)]),gG⟩
 ·skip
  go_wp2
  go_ret
  exact ⟨ZX (by (unfold ZP;rw[if_neg (by omega)])<;>omega),gG⟩
set_option maxHeartbeats 1000000 in
theorem toSignal (x:Sig)  (w:World) (g0:(x.name).length≤9223372036854775807) (hs:wtSig x≤1048576):
 Calls Tryd.prog 54 #[.agg #[.string ⟨(x.name).toArray⟩,.int .i64 x.kind]] w fun e w'=>e=.returned (.agg #[.string ⟨(x.name).toArray⟩,.int .i64 x.kind])∧Below w.heap.size w w'∧Frz w w':=by
 unfold wtSig at hs
 go_enter Tryd.func54,Tryd.ntmps54
 go_wp2
 go_returns
 exact ⟨rfl,gG,gF⟩
set_option maxHeartbeats 1000000 in
theorem eqSignal (x:Sig)   (w:World) (g0:(x.name).length≤9223372036854775807)  :
 Calls Tryd.prog 67 #[.agg #[.string ⟨(x.name).toArray⟩,.int .i64 x.kind],.agg #[.string ⟨(x.name).toArray⟩,.int .i64 x.kind]] w fun e w'=>e=.returned (.bool true)∧Below w.heap.size w w':=by
 go_enter Tryd.func67,Tryd.ntmps67
 go_wp2
 go_ret
 exact ⟨rfl,gG⟩
set_option maxHeartbeats 1000000 in
theorem szSignalS (A:Option Addr) (c:Nat) (l:(List Sig)) (left:Int) (w:World) (hn:l.length≤9223372036854775807) (hr:RA Zo2 w A l) (h0:0≤left) (h1:left≤1048576):
 Calls Tryd.prog 16 #[.slice A l.length c,.int .i64 left] w fun e w'=>e=.returned (.int .i64 (ZP (wtL wtSig l) left))∧Below w.heap.size w w':=by
 by_cases h:left<l.length
 ·have hs:ZP (wtL wtSig l) left= -1:=by unfold ZP wtL;rw[if_pos (by omega)]
  have HS:=ZE hs;clear hs
  go_enter Tryd.func16,Tryd.ntmps16
  go_wp2
  go_ret
  exact ⟨ZX HS.out.symm,gG⟩
 ·obtain ⟨R,hR⟩:∃R,ZP (wtL wtSig l) left=R:=⟨_,rfl⟩
  have HR:=ZE hR
  have HL:Hid (ZP ((l.drop 0).map wtSig).sum (left - l.length)=R):=by show _=_;rw[←hR,wtL,Zdh h];rfl
  clear hR
  go_enter Tryd.func16,Tryd.ntmps16
  go_wp2
  go_loopw [5,1] (fun i L wr=>∃(k:Nat) (m:Int),k≤l.length∧i=.int .i64 k∧L=.int .i64 m∧0≤m∧m≤1048576∧Hid (ZP ((l.drop k).map wtSig).sum m=R)∧Below w.heap.size w wr) (fun i _ _=>l.length - (intOf i).toNat)
  case atStart=>exact ⟨0,_,Nat.zero_le _,rfl,rfl,by omega,by omega,HL,gG⟩
  case round=>
   obtain ⟨k,m,hk,rfl,rfl,hm0,hm1,hgo,hb⟩:=hrel
   have hsz:=hb.size
   by_cases hlt:k<l.length
   ·obtain ⟨x,hx⟩:=Zj hlt
    obtain ⟨b,off,rfl,hbl,d0,d1,f0,f1⟩:=hr.Sig_at hb hx
    have Hd:=ZE (Zec hx)
    clear hx
    have hg1:=hgo.out
    rw[Hd.out,List.map_cons,List.sum_cons] at hg1
    have HG:=ZE hg1;clear hg1
    go_wp2_with fail
    refine (szSignal x  m _ f0 hm0 hm1).mono ?_
    rintro e w1 ⟨rfl,hb1⟩
    have hb2:=hb.trans (hb1.mono hsz)
    by_cases hq:m<(wtSig x:Nat)
    ·rw[ZcD hq]
     have HQ:=ZE (ZdX (b:=((l.drop (k+1)).map wtSig).sum) hq)
     go_wp2
     go_ret
     exact ⟨ZX (by rw[HR.out,←HG.out,←HQ.out]),gG⟩
    ·rw[ZcE hq]
     have HG2:Hid (ZP ((l.drop (k+1)).map wtSig).sum (m - (wtSig x:Nat))=R):=by show _=_;rw[←HG.out];exact (Zdh hq).symm
     have hq1:(wtSig x:Int)≤m:=by omega
     have hq2:(0:Int)≤(wtSig x:Nat):=by omega
     go_wp2_with fail
     go_roundw
     case rel=>exact ⟨k+1,_,by omega,by go_num,rfl,by omega,by omega,HG2,gG⟩
     case measure=>simp[intOf];omega
   ·have hg1:=hgo.out
    rw[ZiG hlt] at hg1
    have HG:=ZE hg1;clear hg1
    go_wp2
    go_ret
    exact ⟨ZX (by rw[HR.out,←HG.out];unfold ZP;simp;omega),gG⟩
set_option maxHeartbeats 1000000 in
theorem toSignalS (A:Option Addr) (c:Nat) (l:(List Sig)) (w:World) (hs:wtL wtSig l≤1048576) (hr:RA Zo2 w A l):
 Calls Tryd.prog 21 #[.slice A l.length c] w fun e w'=>∃A',e=.returned (.slice A' l.length l.length)∧RSl Zo2 w' (ZdD w w') A' l∧Below w.heap.size w w'∧Frz w w':=by
 have hl:l.length≤1048576:=by unfold wtL at hs;omega
 obtain ⟨cells,hcs,hmk⟩:=ZiH (P:=Tryd.prog) (t:=27) (e:=48) (size:=2) (bytes:=24) Tryd.underlying27 (by kernel_rfl) l.length (by omega) (by decide)
 have HC:=ZE hcs;clear hcs
 have HM:=ZE hmk;clear hmk
 go_enter Tryd.func21,Tryd.ntmps21
 have hmk:=HM.out w
 go_wp2
 clear hmk
 go_loopw [4] (fun i wr=>∃k:Nat,k≤l.length∧i=.int .i64 k∧Hid (Z1 Zo2 wr (ZkP w.heap.size wr) w.heap.size 48 l.length k l)∧Below w.heap.size w wr∧Frz w wr) (fun i _=>l.length - (intOf i).toNat)
 case atStart=>exact ⟨0,Nat.zero_le _,rfl,Z1.start HC.out,gG,gF⟩
 case round=>
  obtain ⟨k,hk,rfl,hf,hb,hfz⟩:=hrel
  have hsz:=hb.size
  by_cases hlt:k<l.length
  ·obtain ⟨x,hx⟩:=Zj hlt
   obtain ⟨b,off,rfl,hbl,d0,d1,f0,f1⟩:=hr.Sig_at hb hx
   have hwx:wtSig x≤1048576:=Nat.le_trans (Zoc hx) hs
   have HX:=ZE hx;clear hx
   have hgl:=hf.out.lt
   go_wp2_with fail
   refine (toSignal x  wr f0 hwx).mono ?_
   rintro e w1 ⟨rfl,hb1,fz1⟩
   have hf1:=hf.out.to hb1
   obtain ⟨⟨v0,p0⟩,z0⟩:=hf1.room hlt 0 (by decide)
   obtain ⟨⟨v1,p1⟩,z1⟩:=hf1.room hlt 1 (by decide)
   have HF:=ZE hf1;clear hf1
   simp only[Zpf,Nat.add_zero] at p0 z0 p1 z1
   have hb2:=hb.trans (hb1.mono hsz)
   have hsz1:=hb1.size
   go_wp2_with fail
   go_roundw
   case rel=>exact ⟨k+1,by omega,by go_num,ZE (HF.out.step [.string ⟨(x.name).toArray⟩,.int .i64 x.kind] HX.out (ZrR f0 f1) (by simp[Zan,Zpf])),gG,gF⟩
   case measure=>simp[intOf];omega
  ·have:k=l.length:=by omega
   subst this
   go_wp2
   go_ret
   exact ⟨_,rfl,hf.out.finish,gG,gF⟩
set_option maxHeartbeats 1000000 in
theorem eqSignalS (A A':Option Addr) (c c':Nat) (l:(List Sig)) (w:World) (hl:l.length≤9223372036854775807) (hr:RA Zo2 w A l) (hr':RA Zo2 w A' l):
 Calls Tryd.prog 29 #[.slice A l.length c,.slice A' l.length c'] w fun e w'=>e=.returned (.bool true)∧Below w.heap.size w w':=by
 go_enter Tryd.func29,Tryd.ntmps29
 go_wp2
 go_loopw [5] (fun i wr=>∃k:Nat,k≤l.length∧i=.int .i64 k∧Below w.heap.size w wr) (fun i _=>l.length - (intOf i).toNat)
 case atStart=>exact ⟨0,Nat.zero_le _,rfl,Below.refl _ _⟩
 case round=>
  obtain ⟨k,hk,rfl,hb⟩:=hrel
  have hsz:=hb.size
  by_cases hlt:k<l.length
  ·obtain ⟨x,hx⟩:=Zj hlt
   obtain ⟨b,off,rfl,hbl,d0,d1,f0,f1⟩:=hr.Sig_at hb hx
   obtain ⟨b',off',rfl,hbl',d0',d1',f0',f1'⟩:=hr'.Sig_at hb hx
   have HX:=ZE hx;clear hx
   go_wp2_with fail
   go_region_held3 (fun W=>W.cell? ⟨b,off+k * 2,none⟩=some (.string ⟨(x.name).toArray⟩)∧W.cell? ⟨b,off+k * 2+1,none⟩=some (.int .i64 x.kind)∧W.cell? ⟨b',off'+k * 2,none⟩=some (.string ⟨(x.name).toArray⟩)∧W.cell? ⟨b',off'+k * 2+1,none⟩=some (.int .i64 x.kind)) (first|exact ⟨d0,d1,d0',d1'⟩|exact ⟨(cell_later hb1 d0),(cell_later hb1 d1),(cell_later hb1 d0'),(cell_later hb1 d1')⟩) (first|(go_at_call 67;refine (eqSignal x   _ f0).mono ?_;rintro e w1 ⟨rfl,hb1⟩))
   have hb2:=hb.drew.trans (hb1.mono hsz)
   go_wp2_with fail
   go_roundw
   case rel=>exact ⟨k+1,by omega,by go_num,gG⟩
   case measure=>simp[intOf];omega
  ·go_wp2
   go_ret
   exact ⟨rfl,gG⟩
set_option maxHeartbeats 1000000 in
theorem eqPin (x:Pin)   (w:World)   :
 Calls Tryd.prog 118 #[.agg #[.int .i64 x.at_,.bool x.not_],.agg #[.int .i64 x.at_,.bool x.not_]] w fun e w'=>e=.returned (.bool true)∧Below w.heap.size w w':=by
 go_enter Tryd.func118,Tryd.ntmps118
 go_wp2
 go_ret
 exact ⟨rfl,gG⟩
set_option maxHeartbeats 1000000 in
theorem eqPinS (A A':Option Addr) (c c':Nat) (l:(List Pin)) (w:World) (hl:l.length≤9223372036854775807) (hr:RA Zo8 w A l) (hr':RA Zo8 w A' l):
 Calls Tryd.prog 100 #[.slice A l.length c,.slice A' l.length c'] w fun e w'=>e=.returned (.bool true)∧Below w.heap.size w w':=by
 go_enter Tryd.func100,Tryd.ntmps100
 go_wp2
 go_loopw [5] (fun i wr=>∃k:Nat,k≤l.length∧i=.int .i64 k∧Below w.heap.size w wr) (fun i _=>l.length - (intOf i).toNat)
 case atStart=>exact ⟨0,Nat.zero_le _,rfl,Below.refl _ _⟩
 case round=>
  obtain ⟨k,hk,rfl,hb⟩:=hrel
  have hsz:=hb.size
  by_cases hlt:k<l.length
  ·obtain ⟨x,hx⟩:=Zj hlt
   obtain ⟨b,off,rfl,hbl,d0,d1,f0⟩:=hr.Pin_at hb hx
   obtain ⟨b',off',rfl,hbl',d0',d1',f0'⟩:=hr'.Pin_at hb hx
   have HX:=ZE hx;clear hx
   go_wp2_with fail
   go_region_held3 (fun W=>W.cell? ⟨b,off+k * 2,none⟩=some (.int .i64 x.at_)∧W.cell? ⟨b,off+k * 2+1,none⟩=some (.bool x.not_)∧W.cell? ⟨b',off'+k * 2,none⟩=some (.int .i64 x.at_)∧W.cell? ⟨b',off'+k * 2+1,none⟩=some (.bool x.not_)) (first|exact ⟨d0,d1,d0',d1'⟩|exact ⟨(cell_later hb1 d0),(cell_later hb1 d1),(cell_later hb1 d0'),(cell_later hb1 d1')⟩) (first|(go_at_call 118;refine (eqPin x   _  ).mono ?_;rintro e w1 ⟨rfl,hb1⟩))
   have hb2:=hb.drew.trans (hb1.mono hsz)
   go_wp2_with fail
   go_roundw
   case rel=>exact ⟨k+1,by omega,by go_num,gG⟩
   case measure=>simp[intOf];omega
  ·go_wp2
   go_ret
   exact ⟨rfl,gG⟩
set_option maxHeartbeats 1000000 in
theorem szStringS (A:Option Addr) (c:Nat) (l:(List (List UInt8))) (left:Int) (w:World) (hn:l.length≤9223372036854775807) (hr:RA ZV w A l) (h0:0≤left) (h1:left≤1048576):
 Calls Tryd.prog 84 #[.slice A l.length c,.int .i64 left] w fun e w'=>e=.returned (.int .i64 (ZP (wtL Za6 l) left))∧Below w.heap.size w w':=by
 by_cases h:left<l.length
 ·have hs:ZP (wtL Za6 l) left= -1:=by unfold ZP wtL;rw[if_pos (by omega)]
  have HS:=ZE hs;clear hs
  go_enter Tryd.func84,Tryd.ntmps84
  go_wp2
  go_ret
  exact ⟨ZX HS.out.symm,gG⟩
 ·obtain ⟨R,hR⟩:∃R,ZP (wtL Za6 l) left=R:=⟨_,rfl⟩
  have HR:=ZE hR
  have HL:Hid (ZP ((l.drop 0).map Za6).sum (left - l.length)=R):=by show _=_;rw[←hR,wtL,Zdh h];rfl
  clear hR
  go_enter Tryd.func84,Tryd.ntmps84
  go_wp2
  go_loopw [5,1] (fun i L wr=>∃(k:Nat) (m:Int),k≤l.length∧i=.int .i64 k∧L=.int .i64 m∧0≤m∧m≤1048576∧Hid (ZP ((l.drop k).map Za6).sum m=R)∧Below w.heap.size w wr) (fun i _ _=>l.length - (intOf i).toNat)
  case atStart=>exact ⟨0,_,Nat.zero_le _,rfl,rfl,by omega,by omega,HL,gG⟩
  case round=>
   obtain ⟨k,m,hk,rfl,rfl,hm0,hm1,hgo,hb⟩:=hrel
   have hsz:=hb.size
   by_cases hlt:k<l.length
   ·obtain ⟨x,hx⟩:=Zj hlt
    obtain ⟨b,off,rfl,hbl,h2,f0⟩:=hr.str_at hb hx
    have Hd:=ZE (Zec hx)
    clear hx
    have hg1:=hgo.out
    rw[Hd.out,List.map_cons,List.sum_cons] at hg1
    by_cases hq:m<(x.length:Int)
    ·have HQ:=ZE (ZdX (b:=((l.drop (k+1)).map Za6).sum) hq)
     have HG:=ZE hg1;clear hg1
     go_wp2
     go_ret
     exact ⟨ZX (by rw[HR.out,←HG.out,←HQ.out];rfl),gG⟩
    ·have HG:Hid (ZP ((l.drop (k+1)).map Za6).sum (m - x.length)=R):=by show _=_;rw[←hg1];exact (Zdh hq).symm
     clear hg1
     go_wp2_with fail
     go_roundw
     case rel=>exact ⟨k+1,_,by omega,by go_num,rfl,by omega,by omega,HG,gG⟩
     case measure=>simp[intOf];omega
   ·have hg1:=hgo.out
    rw[ZiG hlt] at hg1
    have HG:=ZE hg1;clear hg1
    go_wp2
    go_ret
    exact ⟨ZX (by rw[HR.out,←HG.out];unfold ZP;simp;omega),gG⟩
set_option maxHeartbeats 1000000 in
theorem toStringS (A:Option Addr) (c:Nat) (l:(List (List UInt8))) (w:World) (hs:wtL Za6 l≤1048576) (hr:RA ZV w A l):
 Calls Tryd.prog 88 #[.slice A l.length c] w fun e w'=>∃A',e=.returned (.slice A' l.length l.length)∧RSl ZV w' (ZdD w w') A' l∧Below w.heap.size w w'∧Frz w w':=by
 have hl:l.length≤1048576:=by unfold wtL at hs;omega
 obtain ⟨cells,hcs,hmk⟩:=ZiH (P:=Tryd.prog) (t:=50) (e:=9) (size:=1) (bytes:=16) Tryd.underlying50 (by kernel_rfl) l.length (by omega) (by decide)
 have HC:=ZE hcs;clear hcs
 have HM:=ZE hmk;clear hmk
 go_enter Tryd.func88,Tryd.ntmps88
 have hmk:=HM.out w
 go_wp2
 clear hmk
 go_loopw [4] (fun i wr=>∃k:Nat,k≤l.length∧i=.int .i64 k∧Hid (Z1 ZV wr (ZkP w.heap.size wr) w.heap.size 9 l.length k l)∧Below w.heap.size w wr∧Frz w wr) (fun i _=>l.length - (intOf i).toNat)
 case atStart=>exact ⟨0,Nat.zero_le _,rfl,Z1.start HC.out,gG,gF⟩
 case round=>
  obtain ⟨k,hk,rfl,hf,hb,hfz⟩:=hrel
  have hsz:=hb.size
  by_cases hlt:k<l.length
  ·obtain ⟨x,hx⟩:=Zj hlt
   obtain ⟨b,off,rfl,hbl,d0,f0⟩:=hr.str_at hb hx
   have HX:=ZE hx;clear hx
   obtain ⟨⟨v0,r0⟩,z0⟩:=hf.out.room hlt 0 (by decide)
   have hgl:=hf.out.lt
   simp only[ZV,Nat.add_zero,Nat.mul_one] at r0 z0
   go_wp2_with fail
   go_roundw
   case rel=>exact ⟨k+1,by omega,by go_num,ZE (hf.out.step [.string ⟨x.toArray⟩] HX.out ⟨rfl,f0⟩ (by simp[Zan,ZV])),gG,gF⟩
   case measure=>simp[intOf];omega
  ·have:k=l.length:=by omega
   subst this
   go_wp2
   go_ret
   exact ⟨_,rfl,hf.out.finish,gG,gF⟩
set_option maxHeartbeats 1000000 in
theorem eqStringS (A A':Option Addr) (c c':Nat) (l:(List (List UInt8))) (w:World) (hl:l.length≤9223372036854775807) (hr:RA ZV w A l) (hr':RA ZV w A' l):
 Calls Tryd.prog 101 #[.slice A l.length c,.slice A' l.length c'] w fun e w'=>e=.returned (.bool true)∧Below w.heap.size w w':=by
 go_enter Tryd.func101,Tryd.ntmps101
 go_wp2
 go_loopw [5] (fun i wr=>∃k:Nat,k≤l.length∧i=.int .i64 k∧Below w.heap.size w wr) (fun i _=>l.length - (intOf i).toNat)
 case atStart=>exact ⟨0,Nat.zero_le _,rfl,Below.refl _ _⟩
 case round=>
  obtain ⟨k,hk,rfl,hb⟩:=hrel
  have hsz:=hb.size
  by_cases hlt:k<l.length
  ·obtain ⟨x,hx⟩:=Zj hlt
   obtain ⟨b,off,rfl,hbl,d0,f0⟩:=hr.str_at hb hx
   obtain ⟨b',off',rfl,hbl',d0',f0'⟩:=hr'.str_at hb hx
   have HX:=ZE hx;clear hx
   go_wp2_with fail
   go_quiet (fail)
   go_wp2_with fail
   go_roundw
   case rel=>exact ⟨k+1,by omega,by go_num,gG⟩
   case measure=>simp[intOf];omega
  ·go_wp2
   go_ret
   exact ⟨rfl,gG⟩
set_option maxHeartbeats 1000000 in
theorem eqWire (x:Wire) (A_ins:Option Addr) (c_ins:Nat) (A_cover:Option Addr) (c_cover:Nat) (A_ins':Option Addr) (c_ins':Nat) (A_cover':Option Addr) (c_cover':Nat) (w:World) (g0:(x.name).length≤9223372036854775807) (g2:(x.ins).length≤c_ins) (g3:c_ins≤9223372036854775807) (g4:RA Zo8 w A_ins x.ins) (g5:(x.cover).length≤c_cover) (g6:c_cover≤9223372036854775807) (g7:RA ZV w A_cover x.cover) (g2':(x.ins).length≤c_ins') (g3':c_ins'≤9223372036854775807) (g4':RA Zo8 w A_ins' x.ins) (g5':(x.cover).length≤c_cover') (g6':c_cover'≤9223372036854775807) (g7':RA ZV w A_cover' x.cover):
 Calls Tryd.prog 68 #[.agg #[.string ⟨(x.name).toArray⟩,.int .i64 x.kind,.slice A_ins (x.ins).length c_ins,.slice A_cover (x.cover).length c_cover],.agg #[.string ⟨(x.name).toArray⟩,.int .i64 x.kind,.slice A_ins' (x.ins).length c_ins',.slice A_cover' (x.cover).length c_cover']] w fun e w'=>e=.returned (.bool true)∧Below w.heap.size w w':=by
 go_enter Tryd.func68,Tryd.ntmps68
 go_wp2_with fail
 refine (eqPinS A_ins A_ins' c_ins c_ins' x.ins _ (by omega) (RA.to g4 ?hb) (RA.to g4' ?hb2)).mono ?_
 case hb=>(repeat' (first|(with_reducible first|exact Below.refl _ _|assumption|refine Zf ?_ _|refine Below.drew ?_|refine Below.alloc ?_ ?_ _|refine Below.setCell ?_ ?_ _|refine Below.then_ ?_ (by assumption) ?_)|go_size))
 case hb2=>(repeat' (first|(with_reducible first|exact Below.refl _ _|assumption|refine Zf ?_ _|refine Below.drew ?_|refine Below.alloc ?_ ?_ _|refine Below.setCell ?_ ?_ _|refine Below.then_ ?_ (by assumption) ?_)|go_size))
 rintro e w1 ⟨rfl,hb1⟩
 obtain ⟨hc1,hf1⟩:=Zah hb1
 have hz1:=hb1.size
 repeat (first|rw[World.size_alloc] at hz1|rw[World.size_setCell] at hz1)
 have l1_0:w.heap.size<w1.heap.size:=by omega
 have l1_1:w.heap.size+1<w1.heap.size:=by omega
 go_wp2_with fail
 refine (eqStringS A_cover A_cover' c_cover c_cover' x.cover _ (by omega) (RA.to g7 ?hb) (RA.to g7' ?hb2)).mono ?_
 case hb=>(repeat' (first|(with_reducible first|exact Below.refl _ _|assumption|refine Zf ?_ _|refine Below.drew ?_|refine Below.alloc ?_ ?_ _|refine Below.setCell ?_ ?_ _|refine Below.then_ ?_ (by assumption) ?_)|go_size))
 case hb2=>(repeat' (first|(with_reducible first|exact Below.refl _ _|assumption|refine Zf ?_ _|refine Below.drew ?_|refine Below.alloc ?_ ?_ _|refine Below.setCell ?_ ?_ _|refine Below.then_ ?_ (by assumption) ?_)|go_size))
 rintro e w2 ⟨rfl,hb2⟩
 obtain ⟨hc2,hf2⟩:=Zah hb2
 have hz2:=hb2.size
 repeat (first|rw[World.size_alloc] at hz2|rw[World.size_setCell] at hz2)
 have l2_0:w.heap.size<w2.heap.size:=by omega
 have l2_1:w.heap.size+1<w2.heap.size:=by omega
 go_wp2
 go_ret
 exact ⟨rfl,gG⟩
set_option maxHeartbeats 1000000 in
theorem eqWireS (A A':Option Addr) (c c':Nat) (l:(List Wire)) (w:World) (hl:l.length≤9223372036854775807) (hr:RA Zo4 w A l) (hr':RA Zo4 w A' l):
 Calls Tryd.prog 30 #[.slice A l.length c,.slice A' l.length c'] w fun e w'=>e=.returned (.bool true)∧Below w.heap.size w w':=by
 go_enter Tryd.func30,Tryd.ntmps30
 go_wp2
 go_loopw [5] (fun i wr=>∃k:Nat,k≤l.length∧i=.int .i64 k∧Below w.heap.size w wr) (fun i _=>l.length - (intOf i).toNat)
 case atStart=>exact ⟨0,Nat.zero_le _,rfl,Below.refl _ _⟩
 case round=>
  obtain ⟨k,hk,rfl,hb⟩:=hrel
  have hsz:=hb.size
  by_cases hlt:k<l.length
  ·obtain ⟨x,hx⟩:=Zj hlt
   obtain ⟨b,off,A_ins,c_ins,A_cover,c_cover,rfl,hbl,d0,d1,d2,d3,f0,f1,f2,f3,f4,f5,f6,f7⟩:=hr.Wire_at hb hx
   obtain ⟨b',off',A_ins',c_ins',A_cover',c_cover',rfl,hbl',d0',d1',d2',d3',f0',f1',f2',f3',f4',f5',f6',f7'⟩:=hr'.Wire_at hb hx
   have HX:=ZE hx;clear hx
   go_wp2_with fail
   go_region_held3 (fun W=>W.cell? ⟨b,off+k * 4,none⟩=some (.string ⟨(x.name).toArray⟩)∧W.cell? ⟨b,off+k * 4+1,none⟩=some (.int .i64 x.kind)∧W.cell? ⟨b,off+k * 4+2,none⟩=some (.slice A_ins (x.ins).length c_ins)∧W.cell? ⟨b,off+k * 4+3,none⟩=some (.slice A_cover (x.cover).length c_cover)∧W.cell? ⟨b',off'+k * 4,none⟩=some (.string ⟨(x.name).toArray⟩)∧W.cell? ⟨b',off'+k * 4+1,none⟩=some (.int .i64 x.kind)∧W.cell? ⟨b',off'+k * 4+2,none⟩=some (.slice A_ins' (x.ins).length c_ins')∧W.cell? ⟨b',off'+k * 4+3,none⟩=some (.slice A_cover' (x.cover).length c_cover')) (first|exact ⟨d0,d1,d2,d3,d0',d1',d2',d3'⟩|exact ⟨(cell_later hb1 d0),(cell_later hb1 d1),(cell_later hb1 d2),(cell_later hb1 d3),(cell_later hb1 d0'),(cell_later hb1 d1'),(cell_later hb1 d2'),(cell_later hb1 d3')⟩) (first|(go_at_call 68;refine (eqWire x A_ins c_ins A_cover c_cover A_ins' c_ins' A_cover' c_cover' _ f0 f2 f3 (RA.to f4 (Below.drew (Below.refl _ _))) f5 f6 (RA.to f7 (Below.drew (Below.refl _ _))) f2' f3' (RA.to f4' (Below.drew (Below.refl _ _))) f5' f6' (RA.to f7' (Below.drew (Below.refl _ _)))).mono ?_;rintro e w1 ⟨rfl,hb1⟩))
   have hb2:=hb.drew.trans (hb1.mono hsz)
   go_wp2_with fail
   go_roundw
   case rel=>exact ⟨k+1,by omega,by go_num,gG⟩
   case measure=>simp[intOf];omega
  ·go_wp2
   go_ret
   exact ⟨rfl,gG⟩
set_option maxHeartbeats 1000000 in
theorem eqNetlist (x:Nl) (A_signals:Option Addr) (c_signals:Nat) (A_wires:Option Addr) (c_wires:Nat) (A_signals':Option Addr) (c_signals':Nat) (A_wires':Option Addr) (c_wires':Nat) (w:World) (g0:(x.signals).length≤c_signals) (g1:c_signals≤9223372036854775807) (g2:RA Zo2 w A_signals x.signals) (g3:(x.wires).length≤c_wires) (g4:c_wires≤9223372036854775807) (g5:RA Zo4 w A_wires x.wires) (g0':(x.signals).length≤c_signals') (g1':c_signals'≤9223372036854775807) (g2':RA Zo2 w A_signals' x.signals) (g3':(x.wires).length≤c_wires') (g4':c_wires'≤9223372036854775807) (g5':RA Zo4 w A_wires' x.wires):
 Calls Tryd.prog 9 #[.agg #[.slice A_signals (x.signals).length c_signals,.slice A_wires (x.wires).length c_wires],.agg #[.slice A_signals' (x.signals).length c_signals',.slice A_wires' (x.wires).length c_wires']] w fun e w'=>e=.returned (.bool true)∧Below w.heap.size w w':=by
 go_enter Tryd.func9,Tryd.ntmps9
 go_wp2_with fail
 refine (eqSignalS A_signals A_signals' c_signals c_signals' x.signals _ (by omega) (RA.to g2 ?hb) (RA.to g2' ?hb2)).mono ?_
 case hb=>(repeat' (first|(with_reducible first|exact Below.refl _ _|assumption|refine Zf ?_ _|refine Below.drew ?_|refine Below.alloc ?_ ?_ _|refine Below.setCell ?_ ?_ _|refine Below.then_ ?_ (by assumption) ?_)|go_size))
 case hb2=>(repeat' (first|(with_reducible first|exact Below.refl _ _|assumption|refine Zf ?_ _|refine Below.drew ?_|refine Below.alloc ?_ ?_ _|refine Below.setCell ?_ ?_ _|refine Below.then_ ?_ (by assumption) ?_)|go_size))
 rintro e w1 ⟨rfl,hb1⟩
 obtain ⟨hc1,hf1⟩:=Zah hb1
 have hz1:=hb1.size
 repeat (first|rw[World.size_alloc] at hz1|rw[World.size_setCell] at hz1)
 have l1_0:w.heap.size<w1.heap.size:=by omega
 have l1_1:w.heap.size+1<w1.heap.size:=by omega
 go_wp2_with fail
 refine (eqWireS A_wires A_wires' c_wires c_wires' x.wires _ (by omega) (RA.to g5 ?hb) (RA.to g5' ?hb2)).mono ?_
 case hb=>(repeat' (first|(with_reducible first|exact Below.refl _ _|assumption|refine Zf ?_ _|refine Below.drew ?_|refine Below.alloc ?_ ?_ _|refine Below.setCell ?_ ?_ _|refine Below.then_ ?_ (by assumption) ?_)|go_size))
 case hb2=>(repeat' (first|(with_reducible first|exact Below.refl _ _|assumption|refine Zf ?_ _|refine Below.drew ?_|refine Below.alloc ?_ ?_ _|refine Below.setCell ?_ ?_ _|refine Below.then_ ?_ (by assumption) ?_)|go_size))
 rintro e w2 ⟨rfl,hb2⟩
 obtain ⟨hc2,hf2⟩:=Zah hb2
 have hz2:=hb2.size
 repeat (first|rw[World.size_alloc] at hz2|rw[World.size_setCell] at hz2)
 have l2_0:w.heap.size<w2.heap.size:=by omega
 have l2_1:w.heap.size+1<w2.heap.size:=by omega
 go_wp2
 go_ret
 exact ⟨rfl,gG⟩
def wtGt (x:Gt):Nat:=(wtL Za6 x.set)+(wtL Za6 x.reset)
set_option maxHeartbeats 1000000 in
theorem szGate (x:Gt) (A_set:Option Addr) (c_set:Nat) (A_reset:Option Addr) (c_reset:Nat) (left:Int) (w:World) (g2:(x.set).length≤c_set) (g3:c_set≤9223372036854775807) (g4:RA ZV w A_set x.set) (g5:(x.reset).length≤c_reset) (g6:c_reset≤9223372036854775807) (g7:RA ZV w A_reset x.reset) (h0:0≤left) (h1:left≤1048576):
 Calls Tryd.prog 49 #[.agg #[.int .i64 x.sig,.int .i64 x.kind,.slice A_set (x.set).length c_set,.slice A_reset (x.reset).length c_reset],.int .i64 left] w fun e w'=>e=.returned (.int .i64 (ZP (wtGt x) left))∧Below w.heap.size w w':=by
 show Calls _ _ _ _ fun e w'=>e=.returned (.int .i64 (ZP ((wtL Za6 x.set)+(wtL Za6 x.reset)) left))∧_
 go_enter Tryd.func49,Tryd.ntmps49
 go_wp2_with fail
 refine (szStringS A_set c_set x.set (left) _ (by omega) (RA.to g4 ?hb) (by omega) (by omega)).mono ?_
 case hb=>(repeat' (first|(with_reducible first|exact Below.refl _ _|assumption|refine Zf ?_ _|refine Below.drew ?_|refine Below.alloc ?_ ?_ _|refine Below.setCell ?_ ?_ _|refine Below.then_ ?_ (by assumption) ?_)|go_size))
 rintro e w1 ⟨rfl,hb1⟩
 obtain ⟨hc1,hf1⟩:=Zah hb1
 have hz1:=hb1.size
 repeat (first|rw[World.size_alloc] at hz1|rw[World.size_setCell] at hz1)
 have l1_0:w.heap.size<w1.heap.size:=by omega
 by_cases q1:left<((wtL Za6 x.set):Nat)
 ·rw[ZcD q1]
  go_wp2
  go_ret
  exact ⟨ZX (by unfold ZP;rw[if_pos (by omega)]),gG⟩
 ·rw[ZcE q1]
  go_wp2_with fail
  refine (szStringS A_reset c_reset x.reset (left - ((wtL Za6 x.set):Nat)) _ (by omega) (RA.to g7 ?hb) (by omega) (by omega)).mono ?_
  case hb=>(repeat' (first|(with_reducible first|exact Below.refl _ _|assumption|refine Zf ?_ _|refine Below.drew ?_|refine Below.alloc ?_ ?_ _|refine Below.setCell ?_ ?_ _|refine Below.then_ ?_ (by assumption) ?_)|go_size))
  rintro e w2 ⟨rfl,hb2⟩
  obtain ⟨hc2,hf2⟩:=Zah hb2
  have hz2:=hb2.size
  repeat (first|rw[World.size_alloc] at hz2|rw[World.size_setCell] at hz2)
  have l2_0:w.heap.size<w2.heap.size:=by omega
  by_cases q2:left - ((wtL Za6 x.set):Nat)<((wtL Za6 x.reset):Nat)
  ·rw[ZcD q2]
   go_wp2
   go_ret
   exact ⟨ZX (by unfold ZP;rw[if_pos (by omega)]),gG⟩
  ·rw[ZcE q2]
   go_wp2
   go_ret
   exact ⟨ZX (by (unfold ZP;rw[if_neg (by omega)])<;>omega),gG⟩
set_option maxHeartbeats 1000000 in
theorem toGate (x:Gt) (A_set:Option Addr) (c_set:Nat) (A_reset:Option Addr) (c_reset:Nat) (w:World) (g2:(x.set).length≤c_set) (g3:c_set≤9223372036854775807) (g4:RA ZV w A_set x.set) (g5:(x.reset).length≤c_reset) (g6:c_reset≤9223372036854775807) (g7:RA ZV w A_reset x.reset) (hs:wtGt x≤1048576):
 Calls Tryd.prog 55 #[.agg #[.int .i64 x.sig,.int .i64 x.kind,.slice A_set (x.set).length c_set,.slice A_reset (x.reset).length c_reset]] w fun e w'=>∃A_set' A_reset',e=.returned (.agg #[.int .i64 x.sig,.int .i64 x.kind,.slice A_set' (x.set).length (x.set).length,.slice A_reset' (x.reset).length (x.reset).length])∧RSl ZV w' (ZdD w w') A_set' x.set∧RSl ZV w' (ZdD w w') A_reset' x.reset∧Below w.heap.size w w'∧Frz w w':=by
 unfold wtGt at hs
 go_enter Tryd.func55,Tryd.ntmps55
 go_wp2_with fail
 refine (toStringS A_set c_set x.set _ (by omega) (RA.to g4 ?hb)).mono ?_
 case hb=>(repeat' (first|(with_reducible first|exact Below.refl _ _|assumption|refine Zf ?_ _|refine Below.drew ?_|refine Below.alloc ?_ ?_ _|refine Below.setCell ?_ ?_ _|refine Below.then_ ?_ (by assumption) ?_)|go_size))
 rintro e w1 ⟨A_set',rfl,r1,hb1,fz1⟩
 obtain ⟨hc1,hf1⟩:=Zah hb1
 have hz1:=hb1.size
 repeat (first|rw[World.size_alloc] at hz1|rw[World.size_setCell] at hz1)
 have l1_0:w.heap.size<w1.heap.size:=by omega
 have l1_1:w.heap.size+1<w1.heap.size:=by omega
 have l1_2:w.heap.size+1+1<w1.heap.size:=by omega
 go_wp2_with fail
 refine (toStringS A_reset c_reset x.reset _ (by omega) (RA.to g7 ?hb)).mono ?_
 case hb=>(repeat' (first|(with_reducible first|exact Below.refl _ _|assumption|refine Zf ?_ _|refine Below.drew ?_|refine Below.alloc ?_ ?_ _|refine Below.setCell ?_ ?_ _|refine Below.then_ ?_ (by assumption) ?_)|go_size))
 rintro e w2 ⟨A_reset',rfl,r2,hb2,fz2⟩
 obtain ⟨hc2,hf2⟩:=Zah hb2
 have hz2:=hb2.size
 repeat (first|rw[World.size_alloc] at hz2|rw[World.size_setCell] at hz2)
 have l2_0:w.heap.size<w2.heap.size:=by omega
 have l2_1:w.heap.size+1<w2.heap.size:=by omega
 have l2_2:w.heap.size+1+1<w2.heap.size:=by omega
 go_wp2
 refine bodyPost_ret (v:=.agg #[.int .i64 x.sig,.int .i64 x.kind,.slice A_set' (x.set).length (x.set).length,.slice A_reset' (x.reset).length (x.reset).length]) ?_ rfl ?_
 ·simp[results,Tryd.results55,go_sem, *]
 exact ⟨_,_,rfl,(r1).keep (by (refine Agree.out ?_;repeat' (first|(with_reducible first|exact Agree.refl _ _|refine Agree.drew ?_|refine Agree.drewN ?_ _|refine Agree.setCell ?_ ?_ _|refine Agree.alloc ?_ ?_ _|refine Agree.then_ ?_ (by assumption) ?_)|(intro b hb;obtain ⟨hb1,hb2⟩:=hb;(first|omega|((try simp at hb1);(try simp at hb2);(try simp);omega)))))) (by (intro b hb;obtain ⟨hb1,hb2⟩:=hb;exact ⟨by (first|omega|((try simp at hb1);(try simp at hb2);(try simp);omega)),by (first|omega|((try simp at hb1);(try simp at hb2);(try simp);omega))⟩)),(r2).keep (by (refine Agree.out ?_;repeat' (first|(with_reducible first|exact Agree.refl _ _|refine Agree.drew ?_|refine Agree.drewN ?_ _|refine Agree.setCell ?_ ?_ _|refine Agree.alloc ?_ ?_ _|refine Agree.then_ ?_ (by assumption) ?_)|(intro b hb;obtain ⟨hb1,hb2⟩:=hb;(first|omega|((try simp at hb1);(try simp at hb2);(try simp);omega)))))) (by (intro b hb;obtain ⟨hb1,hb2⟩:=hb;exact ⟨by (first|omega|((try simp at hb1);(try simp at hb2);(try simp);omega)),by (first|omega|((try simp at hb1);(try simp at hb2);(try simp);omega))⟩)),gG,gF⟩
set_option maxHeartbeats 1000000 in
theorem eqGate (x:Gt) (A_set:Option Addr) (c_set:Nat) (A_reset:Option Addr) (c_reset:Nat) (A_set':Option Addr) (c_set':Nat) (A_reset':Option Addr) (c_reset':Nat) (w:World) (g2:(x.set).length≤c_set) (g3:c_set≤9223372036854775807) (g4:RA ZV w A_set x.set) (g5:(x.reset).length≤c_reset) (g6:c_reset≤9223372036854775807) (g7:RA ZV w A_reset x.reset) (g2':(x.set).length≤c_set') (g3':c_set'≤9223372036854775807) (g4':RA ZV w A_set' x.set) (g5':(x.reset).length≤c_reset') (g6':c_reset'≤9223372036854775807) (g7':RA ZV w A_reset' x.reset):
 Calls Tryd.prog 69 #[.agg #[.int .i64 x.sig,.int .i64 x.kind,.slice A_set (x.set).length c_set,.slice A_reset (x.reset).length c_reset],.agg #[.int .i64 x.sig,.int .i64 x.kind,.slice A_set' (x.set).length c_set',.slice A_reset' (x.reset).length c_reset']] w fun e w'=>e=.returned (.bool true)∧Below w.heap.size w w':=by
 go_enter Tryd.func69,Tryd.ntmps69
 go_wp2_with fail
 refine (eqStringS A_set A_set' c_set c_set' x.set _ (by omega) (RA.to g4 ?hb) (RA.to g4' ?hb2)).mono ?_
 case hb=>(repeat' (first|(with_reducible first|exact Below.refl _ _|assumption|refine Zf ?_ _|refine Below.drew ?_|refine Below.alloc ?_ ?_ _|refine Below.setCell ?_ ?_ _|refine Below.then_ ?_ (by assumption) ?_)|go_size))
 case hb2=>(repeat' (first|(with_reducible first|exact Below.refl _ _|assumption|refine Zf ?_ _|refine Below.drew ?_|refine Below.alloc ?_ ?_ _|refine Below.setCell ?_ ?_ _|refine Below.then_ ?_ (by assumption) ?_)|go_size))
 rintro e w1 ⟨rfl,hb1⟩
 obtain ⟨hc1,hf1⟩:=Zah hb1
 have hz1:=hb1.size
 repeat (first|rw[World.size_alloc] at hz1|rw[World.size_setCell] at hz1)
 have l1_0:w.heap.size<w1.heap.size:=by omega
 have l1_1:w.heap.size+1<w1.heap.size:=by omega
 go_wp2_with fail
 refine (eqStringS A_reset A_reset' c_reset c_reset' x.reset _ (by omega) (RA.to g7 ?hb) (RA.to g7' ?hb2)).mono ?_
 case hb=>(repeat' (first|(with_reducible first|exact Below.refl _ _|assumption|refine Zf ?_ _|refine Below.drew ?_|refine Below.alloc ?_ ?_ _|refine Below.setCell ?_ ?_ _|refine Below.then_ ?_ (by assumption) ?_)|go_size))
 case hb2=>(repeat' (first|(with_reducible first|exact Below.refl _ _|assumption|refine Zf ?_ _|refine Below.drew ?_|refine Below.alloc ?_ ?_ _|refine Below.setCell ?_ ?_ _|refine Below.then_ ?_ (by assumption) ?_)|go_size))
 rintro e w2 ⟨rfl,hb2⟩
 obtain ⟨hc2,hf2⟩:=Zah hb2
 have hz2:=hb2.size
 repeat (first|rw[World.size_alloc] at hz2|rw[World.size_setCell] at hz2)
 have l2_0:w.heap.size<w2.heap.size:=by omega
 have l2_1:w.heap.size+1<w2.heap.size:=by omega
 go_wp2
 go_ret
 exact ⟨rfl,gG⟩
set_option maxHeartbeats 1000000 in
theorem szGateS (A:Option Addr) (c:Nat) (l:(List Gt)) (left:Int) (w:World) (hn:l.length≤9223372036854775807) (hr:RA Zpc w A l) (h0:0≤left) (h1:left≤1048576):
 Calls Tryd.prog 17 #[.slice A l.length c,.int .i64 left] w fun e w'=>e=.returned (.int .i64 (ZP (wtL wtGt l) left))∧Below w.heap.size w w':=by
 by_cases h:left<l.length
 ·have hs:ZP (wtL wtGt l) left= -1:=by unfold ZP wtL;rw[if_pos (by omega)]
  have HS:=ZE hs;clear hs
  go_enter Tryd.func17,Tryd.ntmps17
  go_wp2
  go_ret
  exact ⟨ZX HS.out.symm,gG⟩
 ·obtain ⟨R,hR⟩:∃R,ZP (wtL wtGt l) left=R:=⟨_,rfl⟩
  have HR:=ZE hR
  have HL:Hid (ZP ((l.drop 0).map wtGt).sum (left - l.length)=R):=by show _=_;rw[←hR,wtL,Zdh h];rfl
  clear hR
  go_enter Tryd.func17,Tryd.ntmps17
  go_wp2
  go_loopw [5,1] (fun i L wr=>∃(k:Nat) (m:Int),k≤l.length∧i=.int .i64 k∧L=.int .i64 m∧0≤m∧m≤1048576∧Hid (ZP ((l.drop k).map wtGt).sum m=R)∧Below w.heap.size w wr) (fun i _ _=>l.length - (intOf i).toNat)
  case atStart=>exact ⟨0,_,Nat.zero_le _,rfl,rfl,by omega,by omega,HL,gG⟩
  case round=>
   obtain ⟨k,m,hk,rfl,rfl,hm0,hm1,hgo,hb⟩:=hrel
   have hsz:=hb.size
   by_cases hlt:k<l.length
   ·obtain ⟨x,hx⟩:=Zj hlt
    obtain ⟨b,off,A_set,c_set,A_reset,c_reset,rfl,hbl,d0,d1,d2,d3,f0,f1,f2,f3,f4,f5,f6,f7⟩:=hr.Gt_at hb hx
    have Hd:=ZE (Zec hx)
    clear hx
    have hg1:=hgo.out
    rw[Hd.out,List.map_cons,List.sum_cons] at hg1
    have HG:=ZE hg1;clear hg1
    go_wp2_with fail
    refine (szGate x A_set c_set A_reset c_reset m _ f2 f3 f4 f5 f6 f7 hm0 hm1).mono ?_
    rintro e w1 ⟨rfl,hb1⟩
    have hb2:=hb.trans (hb1.mono hsz)
    by_cases hq:m<(wtGt x:Nat)
    ·rw[ZcD hq]
     have HQ:=ZE (ZdX (b:=((l.drop (k+1)).map wtGt).sum) hq)
     go_wp2
     go_ret
     exact ⟨ZX (by rw[HR.out,←HG.out,←HQ.out]),gG⟩
    ·rw[ZcE hq]
     have HG2:Hid (ZP ((l.drop (k+1)).map wtGt).sum (m - (wtGt x:Nat))=R):=by show _=_;rw[←HG.out];exact (Zdh hq).symm
     have hq1:(wtGt x:Int)≤m:=by omega
     have hq2:(0:Int)≤(wtGt x:Nat):=by omega
     go_wp2_with fail
     go_roundw
     case rel=>exact ⟨k+1,_,by omega,by go_num,rfl,by omega,by omega,HG2,gG⟩
     case measure=>simp[intOf];omega
   ·have hg1:=hgo.out
    rw[ZiG hlt] at hg1
    have HG:=ZE hg1;clear hg1
    go_wp2
    go_ret
    exact ⟨ZX (by rw[HR.out,←HG.out];unfold ZP;simp;omega),gG⟩
set_option maxHeartbeats 1000000 in
theorem toGateS (A:Option Addr) (c:Nat) (l:(List Gt)) (w:World) (hs:wtL wtGt l≤1048576) (hr:RA Zpc w A l):
 Calls Tryd.prog 22 #[.slice A l.length c] w fun e w'=>∃A',e=.returned (.slice A' l.length l.length)∧RSl Zpc w' (ZdD w w') A' l∧Below w.heap.size w w'∧Frz w w':=by
 have hl:l.length≤1048576:=by unfold wtL at hs;omega
 obtain ⟨cells,hcs,hmk⟩:=ZiH (P:=Tryd.prog) (t:=33) (e:=56) (size:=4) (bytes:=64) Tryd.underlying33 (by kernel_rfl) l.length (by omega) (by decide)
 have HC:=ZE hcs;clear hcs
 have HM:=ZE hmk;clear hmk
 go_enter Tryd.func22,Tryd.ntmps22
 have hmk:=HM.out w
 go_wp2
 clear hmk
 go_loopw [4] (fun i wr=>∃k:Nat,k≤l.length∧i=.int .i64 k∧Hid (Z1 Zpc wr (ZkP w.heap.size wr) w.heap.size 56 l.length k l)∧Below w.heap.size w wr∧Frz w wr) (fun i _=>l.length - (intOf i).toNat)
 case atStart=>exact ⟨0,Nat.zero_le _,rfl,Z1.start HC.out,gG,gF⟩
 case round=>
  obtain ⟨k,hk,rfl,hf,hb,hfz⟩:=hrel
  have hsz:=hb.size
  by_cases hlt:k<l.length
  ·obtain ⟨x,hx⟩:=Zj hlt
   obtain ⟨b,off,A_set,c_set,A_reset,c_reset,rfl,hbl,d0,d1,d2,d3,f0,f1,f2,f3,f4,f5,f6,f7⟩:=hr.Gt_at hb hx
   have hwx:wtGt x≤1048576:=Nat.le_trans (Zoc hx) hs
   have HX:=ZE hx;clear hx
   have hgl:=hf.out.lt
   go_wp2_with fail
   refine (toGate x A_set c_set A_reset c_reset wr f2 f3 f4 f5 f6 f7 hwx).mono ?_
   rintro e w1 ⟨A_set',A_reset',rfl,rA_set,rA_reset,hb1,fz1⟩
   have hf1:=hf.out.to hb1
   obtain ⟨⟨v0,p0⟩,z0⟩:=hf1.room hlt 0 (by decide)
   obtain ⟨⟨v1,p1⟩,z1⟩:=hf1.room hlt 1 (by decide)
   obtain ⟨⟨v2,p2⟩,z2⟩:=hf1.room hlt 2 (by decide)
   obtain ⟨⟨v3,p3⟩,z3⟩:=hf1.room hlt 3 (by decide)
   have HF:=ZE hf1;clear hf1
   simp only[Zpk,Nat.add_zero] at p0 z0 p1 z1 p2 z2 p3 z3
   have hb2:=hb.trans (hb1.mono hsz)
   have hsz1:=hb1.size
   go_wp2_with fail
   go_roundw
   case rel=>exact ⟨k+1,by omega,by go_num,ZE (HF.out.step [.int .i64 x.sig,.int .i64 x.kind,.slice A_set' (x.set).length (x.set).length,.slice A_reset' (x.reset).length (x.reset).length] HX.out (ZsP f0 f1 (Nat.le_refl _) (by omega) (rA_set.mono (by (intro b hb;obtain ⟨hb1,hb2⟩:=hb;exact ⟨by omega,by omega⟩))) (Nat.le_refl _) (by omega) (rA_reset.mono (by (intro b hb;obtain ⟨hb1,hb2⟩:=hb;exact ⟨by omega,by omega⟩)))) (by simp[Zan,Zpk])),gG,gF⟩
   case measure=>simp[intOf];omega
  ·have:k=l.length:=by omega
   subst this
   go_wp2
   go_ret
   exact ⟨_,rfl,hf.out.finish,gG,gF⟩
set_option maxHeartbeats 1000000 in
theorem eqGateS (A A':Option Addr) (c c':Nat) (l:(List Gt)) (w:World) (hl:l.length≤9223372036854775807) (hr:RA Zpc w A l) (hr':RA Zpc w A' l):
 Calls Tryd.prog 31 #[.slice A l.length c,.slice A' l.length c'] w fun e w'=>e=.returned (.bool true)∧Below w.heap.size w w':=by
 go_enter Tryd.func31,Tryd.ntmps31
 go_wp2
 go_loopw [5] (fun i wr=>∃k:Nat,k≤l.length∧i=.int .i64 k∧Below w.heap.size w wr) (fun i _=>l.length - (intOf i).toNat)
 case atStart=>exact ⟨0,Nat.zero_le _,rfl,Below.refl _ _⟩
 case round=>
  obtain ⟨k,hk,rfl,hb⟩:=hrel
  have hsz:=hb.size
  by_cases hlt:k<l.length
  ·obtain ⟨x,hx⟩:=Zj hlt
   obtain ⟨b,off,A_set,c_set,A_reset,c_reset,rfl,hbl,d0,d1,d2,d3,f0,f1,f2,f3,f4,f5,f6,f7⟩:=hr.Gt_at hb hx
   obtain ⟨b',off',A_set',c_set',A_reset',c_reset',rfl,hbl',d0',d1',d2',d3',f0',f1',f2',f3',f4',f5',f6',f7'⟩:=hr'.Gt_at hb hx
   have HX:=ZE hx;clear hx
   go_wp2_with fail
   go_region_held3 (fun W=>W.cell? ⟨b,off+k * 4,none⟩=some (.int .i64 x.sig)∧W.cell? ⟨b,off+k * 4+1,none⟩=some (.int .i64 x.kind)∧W.cell? ⟨b,off+k * 4+2,none⟩=some (.slice A_set (x.set).length c_set)∧W.cell? ⟨b,off+k * 4+3,none⟩=some (.slice A_reset (x.reset).length c_reset)∧W.cell? ⟨b',off'+k * 4,none⟩=some (.int .i64 x.sig)∧W.cell? ⟨b',off'+k * 4+1,none⟩=some (.int .i64 x.kind)∧W.cell? ⟨b',off'+k * 4+2,none⟩=some (.slice A_set' (x.set).length c_set')∧W.cell? ⟨b',off'+k * 4+3,none⟩=some (.slice A_reset' (x.reset).length c_reset')) (first|exact ⟨d0,d1,d2,d3,d0',d1',d2',d3'⟩|exact ⟨(cell_later hb1 d0),(cell_later hb1 d1),(cell_later hb1 d2),(cell_later hb1 d3),(cell_later hb1 d0'),(cell_later hb1 d1'),(cell_later hb1 d2'),(cell_later hb1 d3')⟩) (first|(go_at_call 69;refine (eqGate x A_set c_set A_reset c_reset A_set' c_set' A_reset' c_reset' _ f2 f3 (RA.to f4 (Below.drew (Below.refl _ _))) f5 f6 (RA.to f7 (Below.drew (Below.refl _ _))) f2' f3' (RA.to f4' (Below.drew (Below.refl _ _))) f5' f6' (RA.to f7' (Below.drew (Below.refl _ _)))).mono ?_;rintro e w1 ⟨rfl,hb1⟩))
   have hb2:=hb.drew.trans (hb1.mono hsz)
   go_wp2_with fail
   go_roundw
   case rel=>exact ⟨k+1,by omega,by go_num,gG⟩
   case measure=>simp[intOf];omega
  ·go_wp2
   go_ret
   exact ⟨rfl,gG⟩
def wtCrc (x:Crc):Nat:=(wtL wtSig x.signals)+(wtL wtGt x.gates)
set_option maxHeartbeats 1000000 in
theorem szCircuit (x:Crc) (A_signals:Option Addr) (c_signals:Nat) (A_gates:Option Addr) (c_gates:Nat) (left:Int) (w:World) (g0:(x.signals).length≤c_signals) (g1:c_signals≤9223372036854775807) (g2:RA Zo2 w A_signals x.signals) (g3:(x.gates).length≤c_gates) (g4:c_gates≤9223372036854775807) (g5:RA Zpc w A_gates x.gates) (h0:0≤left) (h1:left≤1048576):
 Calls Tryd.prog 5 #[.agg #[.slice A_signals (x.signals).length c_signals,.slice A_gates (x.gates).length c_gates],.int .i64 left] w fun e w'=>e=.returned (.int .i64 (ZP (wtCrc x) left))∧Below w.heap.size w w':=by
 show Calls _ _ _ _ fun e w'=>e=.returned (.int .i64 (ZP ((wtL wtSig x.signals)+(wtL wtGt x.gates)) left))∧_
 go_enter Tryd.func5,Tryd.ntmps5
 go_wp2_with fail
 refine (szSignalS A_signals c_signals x.signals (left) _ (by omega) (RA.to g2 ?hb) (by omega) (by omega)).mono ?_
 case hb=>(repeat' (first|(with_reducible first|exact Below.refl _ _|assumption|refine Zf ?_ _|refine Below.drew ?_|refine Below.alloc ?_ ?_ _|refine Below.setCell ?_ ?_ _|refine Below.then_ ?_ (by assumption) ?_)|go_size))
 rintro e w1 ⟨rfl,hb1⟩
 obtain ⟨hc1,hf1⟩:=Zah hb1
 have hz1:=hb1.size
 repeat (first|rw[World.size_alloc] at hz1|rw[World.size_setCell] at hz1)
 have l1_0:w.heap.size<w1.heap.size:=by omega
 by_cases q1:left<((wtL wtSig x.signals):Nat)
 ·rw[ZcD q1]
  go_wp2
  go_ret
  exact ⟨ZX (by unfold ZP;rw[if_pos (by omega)]),gG⟩
 ·rw[ZcE q1]
  go_wp2_with fail
  refine (szGateS A_gates c_gates x.gates (left - ((wtL wtSig x.signals):Nat)) _ (by omega) (RA.to g5 ?hb) (by omega) (by omega)).mono ?_
  case hb=>(repeat' (first|(with_reducible first|exact Below.refl _ _|assumption|refine Zf ?_ _|refine Below.drew ?_|refine Below.alloc ?_ ?_ _|refine Below.setCell ?_ ?_ _|refine Below.then_ ?_ (by assumption) ?_)|go_size))
  rintro e w2 ⟨rfl,hb2⟩
  obtain ⟨hc2,hf2⟩:=Zah hb2
  have hz2:=hb2.size
  repeat (first|rw[World.size_alloc] at hz2|rw[World.size_setCell] at hz2)
  have l2_0:w.heap.size<w2.heap.size:=by omega
  by_cases q2:left - ((wtL wtSig x.signals):Nat)<((wtL wtGt x.gates):Nat)
  ·rw[ZcD q2]
   go_wp2
   go_ret
   exact ⟨ZX (by unfold ZP;rw[if_pos (by omega)]),gG⟩
  ·rw[ZcE q2]
   go_wp2
   go_ret
   exact ⟨ZX (by (unfold ZP;rw[if_neg (by omega)])<;>omega),gG⟩
set_option maxHeartbeats 1000000 in
theorem toCircuit (x:Crc) (A_signals:Option Addr) (c_signals:Nat) (A_gates:Option Addr) (c_gates:Nat) (w:World) (g0:(x.signals).length≤c_signals) (g1:c_signals≤9223372036854775807) (g2:RA Zo2 w A_signals x.signals) (g3:(x.gates).length≤c_gates) (g4:c_gates≤9223372036854775807) (g5:RA Zpc w A_gates x.gates) (hs:wtCrc x≤1048576):
 Calls Tryd.prog 7 #[.agg #[.slice A_signals (x.signals).length c_signals,.slice A_gates (x.gates).length c_gates]] w fun e w'=>∃A_signals' A_gates',e=.returned (.agg #[.slice A_signals' (x.signals).length (x.signals).length,.slice A_gates' (x.gates).length (x.gates).length])∧RSl Zo2 w' (ZdD w w') A_signals' x.signals∧RSl Zpc w' (ZdD w w') A_gates' x.gates∧Below w.heap.size w w'∧Frz w w':=by
 unfold wtCrc at hs
 go_enter Tryd.func7,Tryd.ntmps7
 go_wp2_with fail
 refine (toSignalS A_signals c_signals x.signals _ (by omega) (RA.to g2 ?hb)).mono ?_
 case hb=>(repeat' (first|(with_reducible first|exact Below.refl _ _|assumption|refine Zf ?_ _|refine Below.drew ?_|refine Below.alloc ?_ ?_ _|refine Below.setCell ?_ ?_ _|refine Below.then_ ?_ (by assumption) ?_)|go_size))
 rintro e w1 ⟨A_signals',rfl,r1,hb1,fz1⟩
 obtain ⟨hc1,hf1⟩:=Zah hb1
 have hz1:=hb1.size
 repeat (first|rw[World.size_alloc] at hz1|rw[World.size_setCell] at hz1)
 have l1_0:w.heap.size<w1.heap.size:=by omega
 have l1_1:w.heap.size+1<w1.heap.size:=by omega
 have l1_2:w.heap.size+1+1<w1.heap.size:=by omega
 go_wp2_with fail
 refine (toGateS A_gates c_gates x.gates _ (by omega) (RA.to g5 ?hb)).mono ?_
 case hb=>(repeat' (first|(with_reducible first|exact Below.refl _ _|assumption|refine Zf ?_ _|refine Below.drew ?_|refine Below.alloc ?_ ?_ _|refine Below.setCell ?_ ?_ _|refine Below.then_ ?_ (by assumption) ?_)|go_size))
 rintro e w2 ⟨A_gates',rfl,r2,hb2,fz2⟩
 obtain ⟨hc2,hf2⟩:=Zah hb2
 have hz2:=hb2.size
 repeat (first|rw[World.size_alloc] at hz2|rw[World.size_setCell] at hz2)
 have l2_0:w.heap.size<w2.heap.size:=by omega
 have l2_1:w.heap.size+1<w2.heap.size:=by omega
 have l2_2:w.heap.size+1+1<w2.heap.size:=by omega
 go_wp2
 refine bodyPost_ret (v:=.agg #[.slice A_signals' (x.signals).length (x.signals).length,.slice A_gates' (x.gates).length (x.gates).length]) ?_ rfl ?_
 ·simp[results,Tryd.results7,go_sem, *]
 exact ⟨_,_,rfl,(r1).keep (by (refine Agree.out ?_;repeat' (first|(with_reducible first|exact Agree.refl _ _|refine Agree.drew ?_|refine Agree.drewN ?_ _|refine Agree.setCell ?_ ?_ _|refine Agree.alloc ?_ ?_ _|refine Agree.then_ ?_ (by assumption) ?_)|(intro b hb;obtain ⟨hb1,hb2⟩:=hb;(first|omega|((try simp at hb1);(try simp at hb2);(try simp);omega)))))) (by (intro b hb;obtain ⟨hb1,hb2⟩:=hb;exact ⟨by (first|omega|((try simp at hb1);(try simp at hb2);(try simp);omega)),by (first|omega|((try simp at hb1);(try simp at hb2);(try simp);omega))⟩)),(r2).keep (by (refine Agree.out ?_;repeat' (first|(with_reducible first|exact Agree.refl _ _|refine Agree.drew ?_|refine Agree.drewN ?_ _|refine Agree.setCell ?_ ?_ _|refine Agree.alloc ?_ ?_ _|refine Agree.then_ ?_ (by assumption) ?_)|(intro b hb;obtain ⟨hb1,hb2⟩:=hb;(first|omega|((try simp at hb1);(try simp at hb2);(try simp);omega)))))) (by (intro b hb;obtain ⟨hb1,hb2⟩:=hb;exact ⟨by (first|omega|((try simp at hb1);(try simp at hb2);(try simp);omega)),by (first|omega|((try simp at hb1);(try simp at hb2);(try simp);omega))⟩)),gG,gF⟩
set_option maxHeartbeats 1000000 in
theorem eqCircuit (x:Crc) (A_signals:Option Addr) (c_signals:Nat) (A_gates:Option Addr) (c_gates:Nat) (A_signals':Option Addr) (c_signals':Nat) (A_gates':Option Addr) (c_gates':Nat) (w:World) (g0:(x.signals).length≤c_signals) (g1:c_signals≤9223372036854775807) (g2:RA Zo2 w A_signals x.signals) (g3:(x.gates).length≤c_gates) (g4:c_gates≤9223372036854775807) (g5:RA Zpc w A_gates x.gates) (g0':(x.signals).length≤c_signals') (g1':c_signals'≤9223372036854775807) (g2':RA Zo2 w A_signals' x.signals) (g3':(x.gates).length≤c_gates') (g4':c_gates'≤9223372036854775807) (g5':RA Zpc w A_gates' x.gates):
 Calls Tryd.prog 10 #[.agg #[.slice A_signals (x.signals).length c_signals,.slice A_gates (x.gates).length c_gates],.agg #[.slice A_signals' (x.signals).length c_signals',.slice A_gates' (x.gates).length c_gates']] w fun e w'=>e=.returned (.bool true)∧Below w.heap.size w w':=by
 go_enter Tryd.func10,Tryd.ntmps10
 go_wp2_with fail
 refine (eqSignalS A_signals A_signals' c_signals c_signals' x.signals _ (by omega) (RA.to g2 ?hb) (RA.to g2' ?hb2)).mono ?_
 case hb=>(repeat' (first|(with_reducible first|exact Below.refl _ _|assumption|refine Zf ?_ _|refine Below.drew ?_|refine Below.alloc ?_ ?_ _|refine Below.setCell ?_ ?_ _|refine Below.then_ ?_ (by assumption) ?_)|go_size))
 case hb2=>(repeat' (first|(with_reducible first|exact Below.refl _ _|assumption|refine Zf ?_ _|refine Below.drew ?_|refine Below.alloc ?_ ?_ _|refine Below.setCell ?_ ?_ _|refine Below.then_ ?_ (by assumption) ?_)|go_size))
 rintro e w1 ⟨rfl,hb1⟩
 obtain ⟨hc1,hf1⟩:=Zah hb1
 have hz1:=hb1.size
 repeat (first|rw[World.size_alloc] at hz1|rw[World.size_setCell] at hz1)
 have l1_0:w.heap.size<w1.heap.size:=by omega
 have l1_1:w.heap.size+1<w1.heap.size:=by omega
 go_wp2_with fail
 refine (eqGateS A_gates A_gates' c_gates c_gates' x.gates _ (by omega) (RA.to g5 ?hb) (RA.to g5' ?hb2)).mono ?_
 case hb=>(repeat' (first|(with_reducible first|exact Below.refl _ _|assumption|refine Zf ?_ _|refine Below.drew ?_|refine Below.alloc ?_ ?_ _|refine Below.setCell ?_ ?_ _|refine Below.then_ ?_ (by assumption) ?_)|go_size))
 case hb2=>(repeat' (first|(with_reducible first|exact Below.refl _ _|assumption|refine Zf ?_ _|refine Below.drew ?_|refine Below.alloc ?_ ?_ _|refine Below.setCell ?_ ?_ _|refine Below.then_ ?_ (by assumption) ?_)|go_size))
 rintro e w2 ⟨rfl,hb2⟩
 obtain ⟨hc2,hf2⟩:=Zah hb2
 have hz2:=hb2.size
 repeat (first|rw[World.size_alloc] at hz2|rw[World.size_setCell] at hz2)
 have l2_0:w.heap.size<w2.heap.size:=by omega
 have l2_1:w.heap.size+1<w2.heap.size:=by omega
 go_wp2
 go_ret
 exact ⟨rfl,gG⟩
end Go.Proofs.YtkgnjijonikchaaDoor.Lw
