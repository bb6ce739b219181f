import Derived.Test.YtkgnjijonikchaaGreatRows
import Derived.Test.YtkgnjijonikchaaGreatData
import Derived.Test.YtkgnjijonikchaaGreatFrz
namespace Go.Proofs.YtkgnjijonikchaaGreat.Lw
open Go.RowKit
set_option linter.unusedVariables false
def wtSig (x:Sig):Nat:=(x.name).length
set_option maxHeartbeats 1000000 in
theorem szSignal (x:Sig)  (left:Int) (w:World) (g0:(x.name).length≤9223372036854775807) (h0:0≤left) (h1:left≤1048576):
 Calls Tryz.prog 57 #[.agg #[.string ⟨(x.name).toArray⟩,.int .i64 x.kind],.int .i64 left] w fun e w'=>e=.returned (.int .i64 (ZL (wtSig x) left))∧Below w.heap.size w w':=by
 show Calls _ _ _ _ fun e w'=>e=.returned (.int .i64 (ZL ((x.name).length) left))∧_
 go_enter Tryz.func57,Tryz.ntmps57
 by_cases q1:left<((x.name).length:Nat)
 ·go_wp2
  go_ret
  exact ⟨Z2 (by unfold ZL;rw[if_pos (by omega)]),gG⟩
 ·skip
  go_wp2
  go_ret
  exact ⟨Z2 (by (unfold ZL;rw[if_neg (by omega)])<;>omega),gG⟩
set_option maxHeartbeats 1000000 in
theorem toSignal (x:Sig)  (w:World) (g0:(x.name).length≤9223372036854775807) (hs:wtSig x≤1048576):
 Calls Tryz.prog 60 #[.agg #[.string ⟨(x.name).toArray⟩,.int .i64 x.kind]] w fun e w'=>e=.returned (.agg #[.string ⟨(x.name).toArray⟩,.int .i64 x.kind])∧Below w.heap.size w w'∧Frz w w':=by
 unfold wtSig at hs
 go_enter Tryz.func60,Tryz.ntmps60
 go_wp2
 go_returns
 exact ⟨rfl,gG,gF⟩
set_option maxHeartbeats 1000000 in
theorem eqSignal (x:Sig)   (w:World) (g0:(x.name).length≤9223372036854775807)  :
 Calls Tryz.prog 66 #[.agg #[.string ⟨(x.name).toArray⟩,.int .i64 x.kind],.agg #[.string ⟨(x.name).toArray⟩,.int .i64 x.kind]] w fun e w'=>e=.returned (.bool true)∧Below w.heap.size w w':=by
 go_enter Tryz.func66,Tryz.ntmps66
 go_wp2
 go_ret
 exact ⟨rfl,gG⟩
set_option maxHeartbeats 1000000 in
theorem szSignalS (A:Option Addr) (c:Nat) (l:(List Sig)) (left:Int) (w:World) (hn:l.length≤9223372036854775807) (hr:RA Zah w A l) (h0:0≤left) (h1:left≤1048576):
 Calls Tryz.prog 23 #[.slice A l.length c,.int .i64 left] w fun e w'=>e=.returned (.int .i64 (ZL (wtL wtSig l) left))∧Below w.heap.size w w':=by
 by_cases h:left<l.length
 ·have hs:ZL (wtL wtSig l) left= -1:=by unfold ZL wtL;rw[if_pos (by omega)]
  have HS:=Zl hs;clear hs
  go_enter Tryz.func23,Tryz.ntmps23
  go_wp2
  go_ret
  exact ⟨Z2 HS.out.symm,gG⟩
 ·obtain ⟨R,hR⟩:∃R,ZL (wtL wtSig l) left=R:=⟨_,rfl⟩
  have HR:=Zl hR
  have HL:Hid (ZL ((l.drop 0).map wtSig).sum (left - l.length)=R):=by show _=_;rw[←hR,wtL,Zep h];rfl
  clear hR
  go_enter Tryz.func23,Tryz.ntmps23
  go_wp2
  go_loopw [5,1] (fun i L wr=>∃(k:Nat) (m:Int),k≤l.length∧i=.int .i64 k∧L=.int .i64 m∧0≤m∧m≤1048576∧Hid (ZL ((l.drop k).map wtSig).sum m=R)∧Below w.heap.size w wr) (fun i _ _=>l.length - (intOf i).toNat)
  case atStart=>exact ⟨0,_,Nat.zero_le _,rfl,rfl,by omega,by omega,HL,gG⟩
  case round=>
   obtain ⟨k,m,hk,rfl,rfl,hm0,hm1,hgo,hb⟩:=hrel
   have hsz:=hb.size
   by_cases hlt:k<l.length
   ·obtain ⟨x,hx⟩:=Zq hlt
    obtain ⟨b,off,rfl,hbl,d0,d1,f0,f1⟩:=hr.Sig_at hb hx
    have Hd:=Zl (Zc9 hx)
    clear hx
    have hg1:=hgo.out
    rw[Hd.out,List.map_cons,List.sum_cons] at hg1
    have HG:=Zl hg1;clear hg1
    go_wp2_with fail
    refine (szSignal x  m _ f0 hm0 hm1).mono ?_
    rintro e w1 ⟨rfl,hb1⟩
    have hb2:=hb.trans (hb1.mono hsz)
    by_cases hq:m<(wtSig x:Nat)
    ·rw[Zbm hq]
     have HQ:=Zl (Zfg (b:=((l.drop (k+1)).map wtSig).sum) hq)
     go_wp2
     go_ret
     exact ⟨Z2 (by rw[HR.out,←HG.out,←HQ.out]),gG⟩
    ·rw[Zbn hq]
     have HG2:Hid (ZL ((l.drop (k+1)).map wtSig).sum (m - (wtSig x:Nat))=R):=by show _=_;rw[←HG.out];exact (Zep hq).symm
     have hq1:(wtSig x:Int)≤m:=by omega
     have hq2:(0:Int)≤(wtSig x:Nat):=by omega
     go_wp2_with fail
     go_roundw
     case rel=>exact ⟨k+1,_,by omega,by go_num,rfl,by omega,by omega,HG2,gG⟩
     case measure=>simp[intOf];omega
   ·have hg1:=hgo.out
    rw[ZlA hlt] at hg1
    have HG:=Zl hg1;clear hg1
    go_wp2
    go_ret
    exact ⟨Z2 (by rw[HR.out,←HG.out];unfold ZL;simp;omega),gG⟩
set_option maxHeartbeats 1000000 in
theorem toSignalS (A:Option Addr) (c:Nat) (l:(List Sig)) (w:World) (hs:wtL wtSig l≤1048576) (hr:RA Zah w A l):
 Calls Tryz.prog 29 #[.slice A l.length c] w fun e w'=>∃A',e=.returned (.slice A' l.length l.length)∧RSl Zah w' (ZaE w w') A' l∧Below w.heap.size w w'∧Frz w w':=by
 have hl:l.length≤1048576:=by unfold wtL at hs;omega
 obtain ⟨cells,hcs,hmk⟩:=Zet (P:=Tryz.prog) (t:=35) (e:=105) (size:=2) (bytes:=24) Tryz.underlying35 (by kernel_rfl) l.length (by omega) (by decide)
 have HC:=Zl hcs;clear hcs
 have HM:=Zl hmk;clear hmk
 go_enter Tryz.func29,Tryz.ntmps29
 have hmk:=HM.out w
 go_wp2
 clear hmk
 go_loopw [4] (fun i wr=>∃k:Nat,k≤l.length∧i=.int .i64 k∧Hid (Zai Zah wr (ZlB w.heap.size wr) w.heap.size 105 l.length k l)∧Below w.heap.size w wr∧Frz w wr) (fun i _=>l.length - (intOf i).toNat)
 case atStart=>exact ⟨0,Nat.zero_le _,rfl,Zai.start HC.out,gG,gF⟩
 case round=>
  obtain ⟨k,hk,rfl,hf,hb,hfz⟩:=hrel
  have hsz:=hb.size
  by_cases hlt:k<l.length
  ·obtain ⟨x,hx⟩:=Zq hlt
   obtain ⟨b,off,rfl,hbl,d0,d1,f0,f1⟩:=hr.Sig_at hb hx
   have hwx:wtSig x≤1048576:=Nat.le_trans (Zs0 hx) hs
   have HX:=Zl hx;clear hx
   have hgl:=hf.out.lt
   go_wp2_with fail
   refine (toSignal x  wr f0 hwx).mono ?_
   rintro e w1 ⟨rfl,hb1,fz1⟩
   have hf1:=hf.out.to hb1
   obtain ⟨⟨v0,p0⟩,z0⟩:=hf1.room hlt 0 (by decide)
   obtain ⟨⟨v1,p1⟩,z1⟩:=hf1.room hlt 1 (by decide)
   have HF:=Zl hf1;clear hf1
   simp only[Zgb,Nat.add_zero] at p0 z0 p1 z1
   have hb2:=hb.trans (hb1.mono hsz)
   have hsz1:=hb1.size
   go_wp2_with fail
   go_roundw
   case rel=>exact ⟨k+1,by omega,by go_num,Zl (HF.out.step [.string ⟨(x.name).toArray⟩,.int .i64 x.kind] HX.out (Zv5 f0 f1) (by simp[Zaw,Zgb])),gG,gF⟩
   case measure=>simp[intOf];omega
  ·have:k=l.length:=by omega
   subst this
   go_wp2
   go_ret
   exact ⟨_,rfl,hf.out.finish,gG,gF⟩
set_option maxHeartbeats 1000000 in
theorem eqSignalS (A A':Option Addr) (c c':Nat) (l:(List Sig)) (w:World) (hl:l.length≤9223372036854775807) (hr:RA Zah w A l) (hr':RA Zah w A' l):
 Calls Tryz.prog 38 #[.slice A l.length c,.slice A' l.length c'] w fun e w'=>e=.returned (.bool true)∧Below w.heap.size w w':=by
 go_enter Tryz.func38,Tryz.ntmps38
 go_wp2
 go_loopw [5] (fun i wr=>∃k:Nat,k≤l.length∧i=.int .i64 k∧Below w.heap.size w wr) (fun i _=>l.length - (intOf i).toNat)
 case atStart=>exact ⟨0,Nat.zero_le _,rfl,Below.refl _ _⟩
 case round=>
  obtain ⟨k,hk,rfl,hb⟩:=hrel
  have hsz:=hb.size
  by_cases hlt:k<l.length
  ·obtain ⟨x,hx⟩:=Zq hlt
   obtain ⟨b,off,rfl,hbl,d0,d1,f0,f1⟩:=hr.Sig_at hb hx
   obtain ⟨b',off',rfl,hbl',d0',d1',f0',f1'⟩:=hr'.Sig_at hb hx
   have HX:=Zl hx;clear hx
   go_wp2_with fail
   go_region_held3 (fun W=>W.cell? ⟨b,off+k * 2,none⟩=some (.string ⟨(x.name).toArray⟩)∧W.cell? ⟨b,off+k * 2+1,none⟩=some (.int .i64 x.kind)∧W.cell? ⟨b',off'+k * 2,none⟩=some (.string ⟨(x.name).toArray⟩)∧W.cell? ⟨b',off'+k * 2+1,none⟩=some (.int .i64 x.kind)) (first|exact ⟨d0,d1,d0',d1'⟩|exact ⟨(cell_later hb1 d0),(cell_later hb1 d1),(cell_later hb1 d0'),(cell_later hb1 d1')⟩) (first|(go_at_call 66;refine (eqSignal x   _ f0).mono ?_;rintro e w1 ⟨rfl,hb1⟩))
   have hb2:=hb.drew.trans (hb1.mono hsz)
   go_wp2_with fail
   go_roundw
   case rel=>exact ⟨k+1,by omega,by go_num,gG⟩
   case measure=>simp[intOf];omega
  ·go_wp2
   go_ret
   exact ⟨rfl,gG⟩
set_option maxHeartbeats 1000000 in
theorem toArc (x:Ac)  (w:World)   :
 Calls Tryz.prog 61 #[.agg #[.int .i64 x.from_,.int .i64 x.sig,.bool x.up,.int .i64 x.to_]] w fun e w'=>e=.returned (.agg #[.int .i64 x.from_,.int .i64 x.sig,.bool x.up,.int .i64 x.to_])∧Below w.heap.size w w'∧Frz w w':=by
 go_enter Tryz.func61,Tryz.ntmps61
 go_wp2
 go_returns
 exact ⟨rfl,gG,gF⟩
set_option maxHeartbeats 1000000 in
theorem eqArc (x:Ac)   (w:World)   :
 Calls Tryz.prog 67 #[.agg #[.int .i64 x.from_,.int .i64 x.sig,.bool x.up,.int .i64 x.to_],.agg #[.int .i64 x.from_,.int .i64 x.sig,.bool x.up,.int .i64 x.to_]] w fun e w'=>e=.returned (.bool true)∧Below w.heap.size w w':=by
 go_enter Tryz.func67,Tryz.ntmps67
 go_wp2
 go_ret
 exact ⟨rfl,gG⟩
set_option maxHeartbeats 400000 in
theorem szArcS (A:Option Addr) (n c:Nat) (left:Int) (w:World) (hn:n≤9223372036854775807) (h0:0≤left) (h1:left≤1048576):
 Calls Tryz.prog 25 #[.slice A n c,.int .i64 left] w fun e w'=>e=.returned (.int .i64 (ZL n left))∧w'=w:=by
 by_cases h:left<n
 ·go_enter Tryz.func25,Tryz.ntmps25
  go_wp2
  go_ret
  exact ⟨Z2 (by unfold ZL;rw[if_pos (by omega)]),rfl⟩
 ·go_enter Tryz.func25,Tryz.ntmps25
  go_wp2
  go_ret
  exact ⟨Z2 (by unfold ZL;rw[if_neg (by omega)]),rfl⟩
set_option maxHeartbeats 1000000 in
theorem toArcS (A:Option Addr) (c:Nat) (l:(List Ac)) (w:World) (hs:l.length≤1048576) (hr:RA Zdg w A l):
 Calls Tryz.prog 31 #[.slice A l.length c] w fun e w'=>∃A',e=.returned (.slice A' l.length l.length)∧RSl Zdg w' (ZaE w w') A' l∧Below w.heap.size w w'∧Frz w w':=by
 have hl:=hs
 obtain ⟨cells,hcs,hmk⟩:=Zet (P:=Tryz.prog) (t:=36) (e:=108) (size:=4) (bytes:=32) Tryz.underlying36 (by kernel_rfl) l.length (by omega) (by decide)
 have HC:=Zl hcs;clear hcs
 have HM:=Zl hmk;clear hmk
 go_enter Tryz.func31,Tryz.ntmps31
 have hmk:=HM.out w
 go_wp2
 clear hmk
 go_loopw [4] (fun i wr=>∃k:Nat,k≤l.length∧i=.int .i64 k∧Hid (Zai Zdg wr (ZlB w.heap.size wr) w.heap.size 108 l.length k l)∧Below w.heap.size w wr∧Frz w wr) (fun i _=>l.length - (intOf i).toNat)
 case atStart=>exact ⟨0,Nat.zero_le _,rfl,Zai.start HC.out,gG,gF⟩
 case round=>
  obtain ⟨k,hk,rfl,hf,hb,hfz⟩:=hrel
  have hsz:=hb.size
  by_cases hlt:k<l.length
  ·obtain ⟨x,hx⟩:=Zq hlt
   obtain ⟨b,off,rfl,hbl,d0,d1,d2,d3,f0,f1,f2⟩:=hr.Ac_at hb hx
   have HX:=Zl hx;clear hx
   have hgl:=hf.out.lt
   go_wp2_with fail
   refine (toArc x  wr  ).mono ?_
   rintro e w1 ⟨rfl,hb1,fz1⟩
   have hf1:=hf.out.to hb1
   obtain ⟨⟨v0,p0⟩,z0⟩:=hf1.room hlt 0 (by decide)
   obtain ⟨⟨v1,p1⟩,z1⟩:=hf1.room hlt 1 (by decide)
   obtain ⟨⟨v2,p2⟩,z2⟩:=hf1.room hlt 2 (by decide)
   obtain ⟨⟨v3,p3⟩,z3⟩:=hf1.room hlt 3 (by decide)
   have HF:=Zl hf1;clear hf1
   simp only[Zer,Nat.add_zero] at p0 z0 p1 z1 p2 z2 p3 z3
   have hb2:=hb.trans (hb1.mono hsz)
   have hsz1:=hb1.size
   go_wp2_with fail
   go_roundw
   case rel=>exact ⟨k+1,by omega,by go_num,Zl (HF.out.step [.int .i64 x.from_,.int .i64 x.sig,.bool x.up,.int .i64 x.to_] HX.out (ZwY f0 f1 f2) (by simp[Zaw,Zer])),gG,gF⟩
   case measure=>simp[intOf];omega
  ·have:k=l.length:=by omega
   subst this
   go_wp2
   go_ret
   exact ⟨_,rfl,hf.out.finish,gG,gF⟩
set_option maxHeartbeats 1000000 in
theorem eqArcS (A A':Option Addr) (c c':Nat) (l:(List Ac)) (w:World) (hl:l.length≤9223372036854775807) (hr:RA Zdg w A l) (hr':RA Zdg w A' l):
 Calls Tryz.prog 40 #[.slice A l.length c,.slice A' l.length c'] w fun e w'=>e=.returned (.bool true)∧Below w.heap.size w w':=by
 go_enter Tryz.func40,Tryz.ntmps40
 go_wp2
 go_loopw [5] (fun i wr=>∃k:Nat,k≤l.length∧i=.int .i64 k∧Below w.heap.size w wr) (fun i _=>l.length - (intOf i).toNat)
 case atStart=>exact ⟨0,Nat.zero_le _,rfl,Below.refl _ _⟩
 case round=>
  obtain ⟨k,hk,rfl,hb⟩:=hrel
  have hsz:=hb.size
  by_cases hlt:k<l.length
  ·obtain ⟨x,hx⟩:=Zq hlt
   obtain ⟨b,off,rfl,hbl,d0,d1,d2,d3,f0,f1,f2⟩:=hr.Ac_at hb hx
   obtain ⟨b',off',rfl,hbl',d0',d1',d2',d3',f0',f1',f2'⟩:=hr'.Ac_at hb hx
   have HX:=Zl hx;clear hx
   go_wp2_with fail
   go_region_held3 (fun W=>W.cell? ⟨b,off+k * 4,none⟩=some (.int .i64 x.from_)∧W.cell? ⟨b,off+k * 4+1,none⟩=some (.int .i64 x.sig)∧W.cell? ⟨b,off+k * 4+2,none⟩=some (.bool x.up)∧W.cell? ⟨b,off+k * 4+3,none⟩=some (.int .i64 x.to_)∧W.cell? ⟨b',off'+k * 4,none⟩=some (.int .i64 x.from_)∧W.cell? ⟨b',off'+k * 4+1,none⟩=some (.int .i64 x.sig)∧W.cell? ⟨b',off'+k * 4+2,none⟩=some (.bool x.up)∧W.cell? ⟨b',off'+k * 4+3,none⟩=some (.int .i64 x.to_)) (first|exact ⟨d0,d1,d2,d3,d0',d1',d2',d3'⟩|exact ⟨(cell_later hb1 d0),(cell_later hb1 d1),(cell_later hb1 d2),(cell_later hb1 d3),(cell_later hb1 d0'),(cell_later hb1 d1'),(cell_later hb1 d2'),(cell_later hb1 d3')⟩) (first|(go_at_call 67;refine (eqArc x   _  ).mono ?_;rintro e w1 ⟨rfl,hb1⟩))
   have hb2:=hb.drew.trans (hb1.mono hsz)
   go_wp2_with fail
   go_roundw
   case rel=>exact ⟨k+1,by omega,by go_num,gG⟩
   case measure=>simp[intOf];omega
  ·go_wp2
   go_ret
   exact ⟨rfl,gG⟩
set_option maxHeartbeats 1000000 in
theorem szStringS (A:Option Addr) (c:Nat) (l:(List (List UInt8))) (left:Int) (w:World) (hn:l.length≤9223372036854775807) (hr:RA Zag w A l) (h0:0≤left) (h1:left≤1048576):
 Calls Tryz.prog 24 #[.slice A l.length c,.int .i64 left] w fun e w'=>e=.returned (.int .i64 (ZL (wtL ZbU l) left))∧Below w.heap.size w w':=by
 by_cases h:left<l.length
 ·have hs:ZL (wtL ZbU l) left= -1:=by unfold ZL wtL;rw[if_pos (by omega)]
  have HS:=Zl hs;clear hs
  go_enter Tryz.func24,Tryz.ntmps24
  go_wp2
  go_ret
  exact ⟨Z2 HS.out.symm,gG⟩
 ·obtain ⟨R,hR⟩:∃R,ZL (wtL ZbU l) left=R:=⟨_,rfl⟩
  have HR:=Zl hR
  have HL:Hid (ZL ((l.drop 0).map ZbU).sum (left - l.length)=R):=by show _=_;rw[←hR,wtL,Zep h];rfl
  clear hR
  go_enter Tryz.func24,Tryz.ntmps24
  go_wp2
  go_loopw [5,1] (fun i L wr=>∃(k:Nat) (m:Int),k≤l.length∧i=.int .i64 k∧L=.int .i64 m∧0≤m∧m≤1048576∧Hid (ZL ((l.drop k).map ZbU).sum m=R)∧Below w.heap.size w wr) (fun i _ _=>l.length - (intOf i).toNat)
  case atStart=>exact ⟨0,_,Nat.zero_le _,rfl,rfl,by omega,by omega,HL,gG⟩
  case round=>
   obtain ⟨k,m,hk,rfl,rfl,hm0,hm1,hgo,hb⟩:=hrel
   have hsz:=hb.size
   by_cases hlt:k<l.length
   ·obtain ⟨x,hx⟩:=Zq hlt
    obtain ⟨b,off,rfl,hbl,h2,f0⟩:=hr.str_at hb hx
    have Hd:=Zl (Zc9 hx)
    clear hx
    have hg1:=hgo.out
    rw[Hd.out,List.map_cons,List.sum_cons] at hg1
    by_cases hq:m<(x.length:Int)
    ·have HQ:=Zl (Zfg (b:=((l.drop (k+1)).map ZbU).sum) hq)
     have HG:=Zl hg1;clear hg1
     go_wp2
     go_ret
     exact ⟨Z2 (by rw[HR.out,←HG.out,←HQ.out];rfl),gG⟩
    ·have HG:Hid (ZL ((l.drop (k+1)).map ZbU).sum (m - x.length)=R):=by show _=_;rw[←hg1];exact (Zep hq).symm
     clear hg1
     go_wp2_with fail
     go_roundw
     case rel=>exact ⟨k+1,_,by omega,by go_num,rfl,by omega,by omega,HG,gG⟩
     case measure=>simp[intOf];omega
   ·have hg1:=hgo.out
    rw[ZlA hlt] at hg1
    have HG:=Zl hg1;clear hg1
    go_wp2
    go_ret
    exact ⟨Z2 (by rw[HR.out,←HG.out];unfold ZL;simp;omega),gG⟩
set_option maxHeartbeats 1000000 in
theorem toStringS (A:Option Addr) (c:Nat) (l:(List (List UInt8))) (w:World) (hs:wtL ZbU l≤1048576) (hr:RA Zag w A l):
 Calls Tryz.prog 30 #[.slice A l.length c] w fun e w'=>∃A',e=.returned (.slice A' l.length l.length)∧RSl Zag w' (ZaE w w') A' l∧Below w.heap.size w w'∧Frz w w':=by
 have hl:l.length≤1048576:=by unfold wtL at hs;omega
 obtain ⟨cells,hcs,hmk⟩:=Zet (P:=Tryz.prog) (t:=23) (e:=9) (size:=1) (bytes:=16) Tryz.underlying23 (by kernel_rfl) l.length (by omega) (by decide)
 have HC:=Zl hcs;clear hcs
 have HM:=Zl hmk;clear hmk
 go_enter Tryz.func30,Tryz.ntmps30
 have hmk:=HM.out w
 go_wp2
 clear hmk
 go_loopw [4] (fun i wr=>∃k:Nat,k≤l.length∧i=.int .i64 k∧Hid (Zai Zag wr (ZlB w.heap.size wr) w.heap.size 9 l.length k l)∧Below w.heap.size w wr∧Frz w wr) (fun i _=>l.length - (intOf i).toNat)
 case atStart=>exact ⟨0,Nat.zero_le _,rfl,Zai.start HC.out,gG,gF⟩
 case round=>
  obtain ⟨k,hk,rfl,hf,hb,hfz⟩:=hrel
  have hsz:=hb.size
  by_cases hlt:k<l.length
  ·obtain ⟨x,hx⟩:=Zq hlt
   obtain ⟨b,off,rfl,hbl,d0,f0⟩:=hr.str_at hb hx
   have HX:=Zl hx;clear hx
   obtain ⟨⟨v0,r0⟩,z0⟩:=hf.out.room hlt 0 (by decide)
   have hgl:=hf.out.lt
   simp only[Zag,Nat.add_zero,Nat.mul_one] at r0 z0
   go_wp2_with fail
   go_roundw
   case rel=>exact ⟨k+1,by omega,by go_num,Zl (hf.out.step [.string ⟨x.toArray⟩] HX.out ⟨rfl,f0⟩ (by simp[Zaw,Zag])),gG,gF⟩
   case measure=>simp[intOf];omega
  ·have:k=l.length:=by omega
   subst this
   go_wp2
   go_ret
   exact ⟨_,rfl,hf.out.finish,gG,gF⟩
set_option maxHeartbeats 1000000 in
theorem eqStringS (A A':Option Addr) (c c':Nat) (l:(List (List UInt8))) (w:World) (hl:l.length≤9223372036854775807) (hr:RA Zag w A l) (hr':RA Zag w A' l):
 Calls Tryz.prog 39 #[.slice A l.length c,.slice A' l.length c'] w fun e w'=>e=.returned (.bool true)∧Below w.heap.size w w':=by
 go_enter Tryz.func39,Tryz.ntmps39
 go_wp2
 go_loopw [5] (fun i wr=>∃k:Nat,k≤l.length∧i=.int .i64 k∧Below w.heap.size w wr) (fun i _=>l.length - (intOf i).toNat)
 case atStart=>exact ⟨0,Nat.zero_le _,rfl,Below.refl _ _⟩
 case round=>
  obtain ⟨k,hk,rfl,hb⟩:=hrel
  have hsz:=hb.size
  by_cases hlt:k<l.length
  ·obtain ⟨x,hx⟩:=Zq hlt
   obtain ⟨b,off,rfl,hbl,d0,f0⟩:=hr.str_at hb hx
   obtain ⟨b',off',rfl,hbl',d0',f0'⟩:=hr'.str_at hb hx
   have HX:=Zl hx;clear hx
   go_wp2_with fail
   go_quiet (fail)
   go_wp2_with fail
   go_roundw
   case rel=>exact ⟨k+1,by omega,by go_num,gG⟩
   case measure=>simp[intOf];omega
  ·go_wp2
   go_ret
   exact ⟨rfl,gG⟩
def wtSGr (x:SGr):Nat:=(wtL wtSig x.signals)+(wtL ZbU x.codes)+(x.arcs).length
set_option maxHeartbeats 1000000 in
theorem szStateGraph (x:SGr) (A_signals:Option Addr) (c_signals:Nat) (A_codes:Option Addr) (c_codes:Nat) (A_arcs:Option Addr) (c_arcs:Nat) (left:Int) (w:World) (g0:(x.signals).length≤c_signals) (g1:c_signals≤9223372036854775807) (g2:RA Zah w A_signals x.signals) (g3:(x.codes).length≤c_codes) (g4:c_codes≤9223372036854775807) (g5:RA Zag w A_codes x.codes) (g6:(x.arcs).length≤c_arcs) (g7:c_arcs≤9223372036854775807) (g8:RA Zdg w A_arcs x.arcs) (h0:0≤left) (h1:left≤1048576):
 Calls Tryz.prog 5 #[.agg #[.slice A_signals (x.signals).length c_signals,.slice A_codes (x.codes).length c_codes,.slice A_arcs (x.arcs).length c_arcs],.int .i64 left] w fun e w'=>e=.returned (.int .i64 (ZL (wtSGr x) left))∧Below w.heap.size w w':=by
 show Calls _ _ _ _ fun e w'=>e=.returned (.int .i64 (ZL ((wtL wtSig x.signals)+(wtL ZbU x.codes)+(x.arcs).length) left))∧_
 go_enter Tryz.func5,Tryz.ntmps5
 go_wp2_with fail
 refine (szSignalS A_signals c_signals x.signals (left) _ (by omega) (RA.to g2 ?hb) (by omega) (by omega)).mono ?_
 case hb=>(repeat' (first|(with_reducible first|exact Below.refl _ _|assumption|refine Ze ?_ _|refine Below.drew ?_|refine Below.alloc ?_ ?_ _|refine Below.setCell ?_ ?_ _|refine Below.then_ ?_ (by assumption) ?_)|go_size))
 rintro e w1 ⟨rfl,hb1⟩
 obtain ⟨hc1,hf1⟩:=Zap hb1
 have hz1:=hb1.size
 repeat (first|rw[World.size_alloc] at hz1|rw[World.size_setCell] at hz1)
 have l1_0:w.heap.size<w1.heap.size:=by omega
 by_cases q1:left<((wtL wtSig x.signals):Nat)
 ·rw[Zbm q1]
  go_wp2
  go_ret
  exact ⟨Z2 (by unfold ZL;rw[if_pos (by omega)]),gG⟩
 ·rw [Zbn q1]
  go_wp2_with fail
  refine (szStringS A_codes c_codes x.codes (left - ((wtL wtSig x.signals):Nat)) _ (by omega) (RA.to g5 ?hb) (by omega) (by omega)).mono ?_
  case hb=>(repeat' (first|(with_reducible first|exact Below.refl _ _|assumption|refine Ze ?_ _|refine Below.drew ?_|refine Below.alloc ?_ ?_ _|refine Below.setCell ?_ ?_ _|refine Below.then_ ?_ (by assumption) ?_)|go_size))
  rintro e w2 ⟨rfl,hb2⟩
  obtain ⟨hc2,hf2⟩:=Zap hb2
  have hz2:=hb2.size
  repeat (first|rw[World.size_alloc] at hz2|rw[World.size_setCell] at hz2)
  have l2_0:w.heap.size<w2.heap.size:=by omega
  by_cases q2:left - ((wtL wtSig x.signals):Nat)<((wtL ZbU x.codes):Nat)
  ·rw[Zbm q2]
   go_wp2
   go_ret
   exact ⟨Z2 (by unfold ZL;rw[if_pos (by omega)]),gG⟩
  ·rw[Zbn q2]
   go_wp2_with fail
   refine (szArcS A_arcs (x.arcs).length c_arcs (left - ((wtL wtSig x.signals):Nat) - ((wtL ZbU x.codes):Nat)) _ (by omega) (by omega) (by omega)).mono ?_
   rintro e w3 ⟨rfl,rfl⟩
   by_cases q3:left - ((wtL wtSig x.signals):Nat) - ((wtL ZbU x.codes):Nat)<((x.arcs).length:Nat)
   ·rw[Zbm q3]
    go_wp2
    go_ret
    exact ⟨Z2 (by unfold ZL;rw[if_pos (by omega)]),gG⟩
   ·rw[Zbn q3]
    go_wp2
    go_ret
    exact ⟨Z2 (by (unfold ZL;rw[if_neg (by omega)])<;>omega),gG⟩
set_option maxHeartbeats 1000000 in
theorem toStateGraph (x:SGr) (A_signals:Option Addr) (c_signals:Nat) (A_codes:Option Addr) (c_codes:Nat) (A_arcs:Option Addr) (c_arcs:Nat) (w:World) (g0:(x.signals).length≤c_signals) (g1:c_signals≤9223372036854775807) (g2:RA Zah w A_signals x.signals) (g3:(x.codes).length≤c_codes) (g4:c_codes≤9223372036854775807) (g5:RA Zag w A_codes x.codes) (g6:(x.arcs).length≤c_arcs) (g7:c_arcs≤9223372036854775807) (g8:RA Zdg w A_arcs x.arcs) (hs:wtSGr x≤1048576):
 Calls Tryz.prog 8 #[.agg #[.slice A_signals (x.signals).length c_signals,.slice A_codes (x.codes).length c_codes,.slice A_arcs (x.arcs).length c_arcs]] w fun e w'=>∃A_signals' A_codes' A_arcs',e=.returned (.agg #[.slice A_signals' (x.signals).length (x.signals).length,.slice A_codes' (x.codes).length (x.codes).length,.slice A_arcs' (x.arcs).length (x.arcs).length])∧RSl Zah w' (ZaE w w') A_signals' x.signals∧RSl Zag w' (ZaE w w') A_codes' x.codes∧RSl Zdg w' (ZaE w w') A_arcs' x.arcs∧Below w.heap.size w w'∧Frz w w':=by
 unfold wtSGr at hs
 go_enter Tryz.func8,Tryz.ntmps8
 go_wp2_with fail
 refine (toSignalS A_signals c_signals x.signals _ (by omega) (RA.to g2 ?hb)).mono ?_
 case hb=>(repeat' (first|(with_reducible first|exact Below.refl _ _|assumption|refine Ze ?_ _|refine Below.drew ?_|refine Below.alloc ?_ ?_ _|refine Below.setCell ?_ ?_ _|refine Below.then_ ?_ (by assumption) ?_)|go_size))
 rintro e w1 ⟨A_signals',rfl,r1,hb1,fz1⟩
 obtain ⟨hc1,hf1⟩:=Zap hb1
 have hz1:=hb1.size
 repeat (first|rw[World.size_alloc] at hz1|rw[World.size_setCell] at hz1)
 have l1_0:w.heap.size<w1.heap.size:=by omega
 have l1_1:w.heap.size+1<w1.heap.size:=by omega
 have l1_2:w.heap.size+1+1<w1.heap.size:=by omega
 go_wp2_with fail
 refine (toStringS A_codes c_codes x.codes _ (by omega) (RA.to g5 ?hb)).mono ?_
 case hb=>(repeat' (first|(with_reducible first|exact Below.refl _ _|assumption|refine Ze ?_ _|refine Below.drew ?_|refine Below.alloc ?_ ?_ _|refine Below.setCell ?_ ?_ _|refine Below.then_ ?_ (by assumption) ?_)|go_size))
 rintro e w2 ⟨A_codes',rfl,r2,hb2,fz2⟩
 obtain ⟨hc2,hf2⟩:=Zap hb2
 have hz2:=hb2.size
 repeat (first|rw[World.size_alloc] at hz2|rw[World.size_setCell] at hz2)
 have l2_0:w.heap.size<w2.heap.size:=by omega
 have l2_1:w.heap.size+1<w2.heap.size:=by omega
 have l2_2:w.heap.size+1+1<w2.heap.size:=by omega
 go_wp2_with fail
 refine (toArcS A_arcs c_arcs x.arcs _ (by omega) (RA.to g8 ?hb)).mono ?_
 case hb=>(repeat' (first|(with_reducible first|exact Below.refl _ _|assumption|refine Ze ?_ _|refine Below.drew ?_|refine Below.alloc ?_ ?_ _|refine Below.setCell ?_ ?_ _|refine Below.then_ ?_ (by assumption) ?_)|go_size))
 rintro e w3 ⟨A_arcs',rfl,r3,hb3,fz3⟩
 obtain ⟨hc3,hf3⟩:=Zap hb3
 have hz3:=hb3.size
 repeat (first|rw[World.size_alloc] at hz3|rw[World.size_setCell] at hz3)
 have l3_0:w.heap.size<w3.heap.size:=by omega
 have l3_1:w.heap.size+1<w3.heap.size:=by omega
 have l3_2:w.heap.size+1+1<w3.heap.size:=by omega
 go_wp2
 refine bodyPost_ret (v:=.agg #[.slice A_signals' (x.signals).length (x.signals).length,.slice A_codes' (x.codes).length (x.codes).length,.slice A_arcs' (x.arcs).length (x.arcs).length]) ?_ rfl ?_
 ·simp[results,Tryz.results8,go_sem, *]
 exact ⟨_,_,_,rfl,(r1).keep (by (refine Agree.out ?_;repeat' (first|(with_reducible first|exact Agree.refl _ _|refine Agree.drew ?_|refine Agree.drewN ?_ _|refine Agree.setCell ?_ ?_ _|refine Agree.alloc ?_ ?_ _|refine Agree.then_ ?_ (by assumption) ?_)|(intro b hb;obtain ⟨hb1,hb2⟩:=hb;(first|omega|((try simp at hb1);(try simp at hb2);(try simp);omega)))))) (by (intro b hb;obtain ⟨hb1,hb2⟩:=hb;exact ⟨by (first|omega|((try simp at hb1);(try simp at hb2);(try simp);omega)),by (first|omega|((try simp at hb1);(try simp at hb2);(try simp);omega))⟩)),(r2).keep (by (refine Agree.out ?_;repeat' (first|(with_reducible first|exact Agree.refl _ _|refine Agree.drew ?_|refine Agree.drewN ?_ _|refine Agree.setCell ?_ ?_ _|refine Agree.alloc ?_ ?_ _|refine Agree.then_ ?_ (by assumption) ?_)|(intro b hb;obtain ⟨hb1,hb2⟩:=hb;(first|omega|((try simp at hb1);(try simp at hb2);(try simp);omega)))))) (by (intro b hb;obtain ⟨hb1,hb2⟩:=hb;exact ⟨by (first|omega|((try simp at hb1);(try simp at hb2);(try simp);omega)),by (first|omega|((try simp at hb1);(try simp at hb2);(try simp);omega))⟩)),(r3).keep (by (refine Agree.out ?_;repeat' (first|(with_reducible first|exact Agree.refl _ _|refine Agree.drew ?_|refine Agree.drewN ?_ _|refine Agree.setCell ?_ ?_ _|refine Agree.alloc ?_ ?_ _|refine Agree.then_ ?_ (by assumption) ?_)|(intro b hb;obtain ⟨hb1,hb2⟩:=hb;(first|omega|((try simp at hb1);(try simp at hb2);(try simp);omega)))))) (by (intro b hb;obtain ⟨hb1,hb2⟩:=hb;exact ⟨by (first|omega|((try simp at hb1);(try simp at hb2);(try simp);omega)),by (first|omega|((try simp at hb1);(try simp at hb2);(try simp);omega))⟩)),gG,gF⟩
set_option maxHeartbeats 1000000 in
theorem eqStateGraph (x:SGr) (A_signals:Option Addr) (c_signals:Nat) (A_codes:Option Addr) (c_codes:Nat) (A_arcs:Option Addr) (c_arcs:Nat) (A_signals':Option Addr) (c_signals':Nat) (A_codes':Option Addr) (c_codes':Nat) (A_arcs':Option Addr) (c_arcs':Nat) (w:World) (g0:(x.signals).length≤c_signals) (g1:c_signals≤9223372036854775807) (g2:RA Zah w A_signals x.signals) (g3:(x.codes).length≤c_codes) (g4:c_codes≤9223372036854775807) (g5:RA Zag w A_codes x.codes) (g6:(x.arcs).length≤c_arcs) (g7:c_arcs≤9223372036854775807) (g8:RA Zdg w A_arcs x.arcs) (g0':(x.signals).length≤c_signals') (g1':c_signals'≤9223372036854775807) (g2':RA Zah w A_signals' x.signals) (g3':(x.codes).length≤c_codes') (g4':c_codes'≤9223372036854775807) (g5':RA Zag w A_codes' x.codes) (g6':(x.arcs).length≤c_arcs') (g7':c_arcs'≤9223372036854775807) (g8':RA Zdg w A_arcs' x.arcs):
 Calls Tryz.prog 12 #[.agg #[.slice A_signals (x.signals).length c_signals,.slice A_codes (x.codes).length c_codes,.slice A_arcs (x.arcs).length c_arcs],.agg #[.slice A_signals' (x.signals).length c_signals',.slice A_codes' (x.codes).length c_codes',.slice A_arcs' (x.arcs).length c_arcs']] w fun e w'=>e=.returned (.bool true)∧Below w.heap.size w w':=by
 go_enter Tryz.func12,Tryz.ntmps12
 go_wp2_with fail
 refine (eqSignalS A_signals A_signals' c_signals c_signals' x.signals _ (by omega) (RA.to g2 ?hb) (RA.to g2' ?hb2)).mono ?_
 case hb=>(repeat' (first|(with_reducible first|exact Below.refl _ _|assumption|refine Ze ?_ _|refine Below.drew ?_|refine Below.alloc ?_ ?_ _|refine Below.setCell ?_ ?_ _|refine Below.then_ ?_ (by assumption) ?_)|go_size))
 case hb2=>(repeat' (first|(with_reducible first|exact Below.refl _ _|assumption|refine Ze ?_ _|refine Below.drew ?_|refine Below.alloc ?_ ?_ _|refine Below.setCell ?_ ?_ _|refine Below.then_ ?_ (by assumption) ?_)|go_size))
 rintro e w1 ⟨rfl,hb1⟩
 obtain ⟨hc1,hf1⟩:=Zap hb1
 have hz1:=hb1.size
 repeat (first|rw[World.size_alloc] at hz1|rw[World.size_setCell] at hz1)
 have l1_0:w.heap.size<w1.heap.size:=by omega
 have l1_1:w.heap.size+1<w1.heap.size:=by omega
 go_wp2_with fail
 refine (eqStringS A_codes A_codes' c_codes c_codes' x.codes _ (by omega) (RA.to g5 ?hb) (RA.to g5' ?hb2)).mono ?_
 case hb=>(repeat' (first|(with_reducible first|exact Below.refl _ _|assumption|refine Ze ?_ _|refine Below.drew ?_|refine Below.alloc ?_ ?_ _|refine Below.setCell ?_ ?_ _|refine Below.then_ ?_ (by assumption) ?_)|go_size))
 case hb2=>(repeat' (first|(with_reducible first|exact Below.refl _ _|assumption|refine Ze ?_ _|refine Below.drew ?_|refine Below.alloc ?_ ?_ _|refine Below.setCell ?_ ?_ _|refine Below.then_ ?_ (by assumption) ?_)|go_size))
 rintro e w2 ⟨rfl,hb2⟩
 obtain ⟨hc2,hf2⟩:=Zap hb2
 have hz2:=hb2.size
 repeat (first|rw[World.size_alloc] at hz2|rw[World.size_setCell] at hz2)
 have l2_0:w.heap.size<w2.heap.size:=by omega
 have l2_1:w.heap.size+1<w2.heap.size:=by omega
 go_wp2_with fail
 refine (eqArcS A_arcs A_arcs' c_arcs c_arcs' x.arcs _ (by omega) (RA.to g8 ?hb) (RA.to g8' ?hb2)).mono ?_
 case hb=>(repeat' (first|(with_reducible first|exact Below.refl _ _|assumption|refine Ze ?_ _|refine Below.drew ?_|refine Below.alloc ?_ ?_ _|refine Below.setCell ?_ ?_ _|refine Below.then_ ?_ (by assumption) ?_)|go_size))
 case hb2=>(repeat' (first|(with_reducible first|exact Below.refl _ _|assumption|refine Ze ?_ _|refine Below.drew ?_|refine Below.alloc ?_ ?_ _|refine Below.setCell ?_ ?_ _|refine Below.then_ ?_ (by assumption) ?_)|go_size))
 rintro e w3 ⟨rfl,hb3⟩
 obtain ⟨hc3,hf3⟩:=Zap hb3
 have hz3:=hb3.size
 repeat (first|rw[World.size_alloc] at hz3|rw[World.size_setCell] at hz3)
 have l3_0:w.heap.size<w3.heap.size:=by omega
 have l3_1:w.heap.size+1<w3.heap.size:=by omega
 go_wp2
 go_ret
 exact ⟨rfl,gG⟩
set_option maxHeartbeats 1000000 in
theorem toPin (x:Pin)  (w:World)   :
 Calls Tryz.prog 123 #[.agg #[.int .i64 x.at_,.bool x.not_]] w fun e w'=>e=.returned (.agg #[.int .i64 x.at_,.bool x.not_])∧Below w.heap.size w w'∧Frz w w':=by
 go_enter Tryz.func123,Tryz.ntmps123
 go_wp2
 go_returns
 exact ⟨rfl,gG,gF⟩
set_option maxHeartbeats 1000000 in
theorem eqPin (x:Pin)   (w:World)   :
 Calls Tryz.prog 133 #[.agg #[.int .i64 x.at_,.bool x.not_],.agg #[.int .i64 x.at_,.bool x.not_]] w fun e w'=>e=.returned (.bool true)∧Below w.heap.size w w':=by
 go_enter Tryz.func133,Tryz.ntmps133
 go_wp2
 go_ret
 exact ⟨rfl,gG⟩
set_option maxHeartbeats 400000 in
theorem szPinS (A:Option Addr) (n c:Nat) (left:Int) (w:World) (hn:n≤9223372036854775807) (h0:0≤left) (h1:left≤1048576):
 Calls Tryz.prog 85 #[.slice A n c,.int .i64 left] w fun e w'=>e=.returned (.int .i64 (ZL n left))∧w'=w:=by
 by_cases h:left<n
 ·go_enter Tryz.func85,Tryz.ntmps85
  go_wp2
  go_ret
  exact ⟨Z2 (by unfold ZL;rw[if_pos (by omega)]),rfl⟩
 ·go_enter Tryz.func85,Tryz.ntmps85
  go_wp2
  go_ret
  exact ⟨Z2 (by unfold ZL;rw[if_neg (by omega)]),rfl⟩
set_option maxHeartbeats 1000000 in
theorem toPinS (A:Option Addr) (c:Nat) (l:(List Pin)) (w:World) (hs:l.length≤1048576) (hr:RA Zcb w A l):
 Calls Tryz.prog 87 #[.slice A l.length c] w fun e w'=>∃A',e=.returned (.slice A' l.length l.length)∧RSl Zcb w' (ZaE w w') A' l∧Below w.heap.size w w'∧Frz w w':=by
 have hl:=hs
 obtain ⟨cells,hcs,hmk⟩:=Zet (P:=Tryz.prog) (t:=111) (e:=159) (size:=2) (bytes:=16) Tryz.underlying111 (by kernel_rfl) l.length (by omega) (by decide)
 have HC:=Zl hcs;clear hcs
 have HM:=Zl hmk;clear hmk
 go_enter Tryz.func87,Tryz.ntmps87
 have hmk:=HM.out w
 go_wp2
 clear hmk
 go_loopw [4] (fun i wr=>∃k:Nat,k≤l.length∧i=.int .i64 k∧Hid (Zai Zcb wr (ZlB w.heap.size wr) w.heap.size 159 l.length k l)∧Below w.heap.size w wr∧Frz w wr) (fun i _=>l.length - (intOf i).toNat)
 case atStart=>exact ⟨0,Nat.zero_le _,rfl,Zai.start HC.out,gG,gF⟩
 case round=>
  obtain ⟨k,hk,rfl,hf,hb,hfz⟩:=hrel
  have hsz:=hb.size
  by_cases hlt:k<l.length
  ·obtain ⟨x,hx⟩:=Zq hlt
   obtain ⟨b,off,rfl,hbl,d0,d1,f0⟩:=hr.Pin_at hb hx
   have HX:=Zl hx;clear hx
   have hgl:=hf.out.lt
   go_wp2_with fail
   refine (toPin x  wr  ).mono ?_
   rintro e w1 ⟨rfl,hb1,fz1⟩
   have hf1:=hf.out.to hb1
   obtain ⟨⟨v0,p0⟩,z0⟩:=hf1.room hlt 0 (by decide)
   obtain ⟨⟨v1,p1⟩,z1⟩:=hf1.room hlt 1 (by decide)
   have HF:=Zl hf1;clear hf1
   simp only[Zgc,Nat.add_zero] at p0 z0 p1 z1
   have hb2:=hb.trans (hb1.mono hsz)
   have hsz1:=hb1.size
   go_wp2_with fail
   go_roundw
   case rel=>exact ⟨k+1,by omega,by go_num,Zl (HF.out.step [.int .i64 x.at_,.bool x.not_] HX.out (Zv6 f0) (by simp[Zaw,Zgc])),gG,gF⟩
   case measure=>simp[intOf];omega
  ·have:k=l.length:=by omega
   subst this
   go_wp2
   go_ret
   exact ⟨_,rfl,hf.out.finish,gG,gF⟩
set_option maxHeartbeats 1000000 in
theorem eqPinS (A A':Option Addr) (c c':Nat) (l:(List Pin)) (w:World) (hl:l.length≤9223372036854775807) (hr:RA Zcb w A l) (hr':RA Zcb w A' l):
 Calls Tryz.prog 99 #[.slice A l.length c,.slice A' l.length c'] w fun e w'=>e=.returned (.bool true)∧Below w.heap.size w w':=by
 go_enter Tryz.func99,Tryz.ntmps99
 go_wp2
 go_loopw [5] (fun i wr=>∃k:Nat,k≤l.length∧i=.int .i64 k∧Below w.heap.size w wr) (fun i _=>l.length - (intOf i).toNat)
 case atStart=>exact ⟨0,Nat.zero_le _,rfl,Below.refl _ _⟩
 case round=>
  obtain ⟨k,hk,rfl,hb⟩:=hrel
  have hsz:=hb.size
  by_cases hlt:k<l.length
  ·obtain ⟨x,hx⟩:=Zq hlt
   obtain ⟨b,off,rfl,hbl,d0,d1,f0⟩:=hr.Pin_at hb hx
   obtain ⟨b',off',rfl,hbl',d0',d1',f0'⟩:=hr'.Pin_at hb hx
   have HX:=Zl hx;clear hx
   go_wp2_with fail
   go_region_held3 (fun W=>W.cell? ⟨b,off+k * 2,none⟩=some (.int .i64 x.at_)∧W.cell? ⟨b,off+k * 2+1,none⟩=some (.bool x.not_)∧W.cell? ⟨b',off'+k * 2,none⟩=some (.int .i64 x.at_)∧W.cell? ⟨b',off'+k * 2+1,none⟩=some (.bool x.not_)) (first|exact ⟨d0,d1,d0',d1'⟩|exact ⟨(cell_later hb1 d0),(cell_later hb1 d1),(cell_later hb1 d0'),(cell_later hb1 d1')⟩) (first|(go_at_call 133;refine (eqPin x   _  ).mono ?_;rintro e w1 ⟨rfl,hb1⟩))
   have hb2:=hb.drew.trans (hb1.mono hsz)
   go_wp2_with fail
   go_roundw
   case rel=>exact ⟨k+1,by omega,by go_num,gG⟩
   case measure=>simp[intOf];omega
  ·go_wp2
   go_ret
   exact ⟨rfl,gG⟩
def wtWire (x:Wire):Nat:=(x.name).length+(x.ins).length+(wtL ZbU x.cover)
set_option maxHeartbeats 1000000 in
theorem szWire (x:Wire) (A_ins:Option Addr) (c_ins:Nat) (A_cover:Option Addr) (c_cover:Nat) (left:Int) (w:World) (g0:(x.name).length≤9223372036854775807) (g2:(x.ins).length≤c_ins) (g3:c_ins≤9223372036854775807) (g4:RA Zcb w A_ins x.ins) (g5:(x.cover).length≤c_cover) (g6:c_cover≤9223372036854775807) (g7:RA Zag w A_cover x.cover) (h0:0≤left) (h1:left≤1048576):
 Calls Tryz.prog 58 #[.agg #[.string ⟨(x.name).toArray⟩,.int .i64 x.kind,.slice A_ins (x.ins).length c_ins,.slice A_cover (x.cover).length c_cover],.int .i64 left] w fun e w'=>e=.returned (.int .i64 (ZL (wtWire x) left))∧Below w.heap.size w w':=by
 show Calls _ _ _ _ fun e w'=>e=.returned (.int .i64 (ZL ((x.name).length+(x.ins).length+(wtL ZbU x.cover)) left))∧_
 go_enter Tryz.func58,Tryz.ntmps58
 by_cases q1:left<((x.name).length:Nat)
 ·go_wp2
  go_ret
  exact ⟨Z2 (by unfold ZL;rw[if_pos (by omega)]),gG⟩
 ·skip
  go_wp2_with fail
  refine (szPinS A_ins (x.ins).length c_ins (left - ((x.name).length:Nat)) _ (by omega) (by omega) (by omega)).mono ?_
  rintro e w2 ⟨rfl,rfl⟩
  by_cases q2:left - ((x.name).length:Nat)<((x.ins).length:Nat)
  ·rw[Zbm q2]
   go_wp2
   go_ret
   exact ⟨Z2 (by unfold ZL;rw[if_pos (by omega)]),gG⟩
  ·rw[Zbn q2]
   go_wp2_with fail
   refine (szStringS A_cover c_cover x.cover (left - ((x.name).length:Nat) - ((x.ins).length:Nat)) _ (by omega) (RA.to g7 ?hb) (by omega) (by omega)).mono ?_
   case hb=>(repeat' (first|(with_reducible first|exact Below.refl _ _|assumption|refine Ze ?_ _|refine Below.drew ?_|refine Below.alloc ?_ ?_ _|refine Below.setCell ?_ ?_ _|refine Below.then_ ?_ (by assumption) ?_)|go_size))
   rintro e w3 ⟨rfl,hb3⟩
   obtain ⟨hc3,hf3⟩:=Zap hb3
   have hz3:=hb3.size
   repeat (first|rw[World.size_alloc] at hz3|rw[World.size_setCell] at hz3)
   have l3_0:w.heap.size<w3.heap.size:=by omega
   by_cases q3:left - ((x.name).length:Nat) - ((x.ins).length:Nat)<((wtL ZbU x.cover):Nat)
   ·rw[Zbm q3]
    go_wp2
    go_ret
    exact ⟨Z2 (by unfold ZL;rw[if_pos (by omega)]),gG⟩
   ·rw[Zbn q3]
    go_wp2
    go_ret
    exact ⟨Z2 (by (unfold ZL;rw[if_neg (by omega)])<;>omega),gG⟩
set_option maxHeartbeats 1000000 in
theorem toWire (x:Wire) (A_ins:Option Addr) (c_ins:Nat) (A_cover:Option Addr) (c_cover:Nat) (w:World) (g0:(x.name).length≤9223372036854775807) (g2:(x.ins).length≤c_ins) (g3:c_ins≤9223372036854775807) (g4:RA Zcb w A_ins x.ins) (g5:(x.cover).length≤c_cover) (g6:c_cover≤9223372036854775807) (g7:RA Zag w A_cover x.cover) (hs:wtWire x≤1048576):
 Calls Tryz.prog 62 #[.agg #[.string ⟨(x.name).toArray⟩,.int .i64 x.kind,.slice A_ins (x.ins).length c_ins,.slice A_cover (x.cover).length c_cover]] w fun e w'=>∃A_ins' A_cover',e=.returned (.agg #[.string ⟨(x.name).toArray⟩,.int .i64 x.kind,.slice A_ins' (x.ins).length (x.ins).length,.slice A_cover' (x.cover).length (x.cover).length])∧RSl Zcb w' (ZaE w w') A_ins' x.ins∧RSl Zag w' (ZaE w w') A_cover' x.cover∧Below w.heap.size w w'∧Frz w w':=by
 unfold wtWire at hs
 go_enter Tryz.func62,Tryz.ntmps62
 go_wp2_with fail
 refine (toPinS A_ins c_ins x.ins _ (by omega) (RA.to g4 ?hb)).mono ?_
 case hb=>(repeat' (first|(with_reducible first|exact Below.refl _ _|assumption|refine Ze ?_ _|refine Below.drew ?_|refine Below.alloc ?_ ?_ _|refine Below.setCell ?_ ?_ _|refine Below.then_ ?_ (by assumption) ?_)|go_size))
 rintro e w1 ⟨A_ins',rfl,r1,hb1,fz1⟩
 obtain ⟨hc1,hf1⟩:=Zap hb1
 have hz1:=hb1.size
 repeat (first|rw[World.size_alloc] at hz1|rw[World.size_setCell] at hz1)
 have l1_0:w.heap.size<w1.heap.size:=by omega
 have l1_1:w.heap.size+1<w1.heap.size:=by omega
 have l1_2:w.heap.size+1+1<w1.heap.size:=by omega
 go_wp2_with fail
 refine (toStringS A_cover c_cover x.cover _ (by omega) (RA.to g7 ?hb)).mono ?_
 case hb=>(repeat' (first|(with_reducible first|exact Below.refl _ _|assumption|refine Ze ?_ _|refine Below.drew ?_|refine Below.alloc ?_ ?_ _|refine Below.setCell ?_ ?_ _|refine Below.then_ ?_ (by assumption) ?_)|go_size))
 rintro e w2 ⟨A_cover',rfl,r2,hb2,fz2⟩
 obtain ⟨hc2,hf2⟩:=Zap hb2
 have hz2:=hb2.size
 repeat (first|rw[World.size_alloc] at hz2|rw[World.size_setCell] at hz2)
 have l2_0:w.heap.size<w2.heap.size:=by omega
 have l2_1:w.heap.size+1<w2.heap.size:=by omega
 have l2_2:w.heap.size+1+1<w2.heap.size:=by omega
 go_wp2
 refine bodyPost_ret (v:=.agg #[.string ⟨(x.name).toArray⟩,.int .i64 x.kind,.slice A_ins' (x.ins).length (x.ins).length,.slice A_cover' (x.cover).length (x.cover).length]) ?_ rfl ?_
 ·simp[results,Tryz.results62,go_sem, *]
 exact ⟨_,_,rfl,(r1).keep (by (refine Agree.out ?_;repeat' (first|(with_reducible first|exact Agree.refl _ _|refine Agree.drew ?_|refine Agree.drewN ?_ _|refine Agree.setCell ?_ ?_ _|refine Agree.alloc ?_ ?_ _|refine Agree.then_ ?_ (by assumption) ?_)|(intro b hb;obtain ⟨hb1,hb2⟩:=hb;(first|omega|((try simp at hb1);(try simp at hb2);(try simp);omega)))))) (by (intro b hb;obtain ⟨hb1,hb2⟩:=hb;exact ⟨by (first|omega|((try simp at hb1);(try simp at hb2);(try simp);omega)),by (first|omega|((try simp at hb1);(try simp at hb2);(try simp);omega))⟩)),(r2).keep (by (refine Agree.out ?_;repeat' (first|(with_reducible first|exact Agree.refl _ _|refine Agree.drew ?_|refine Agree.drewN ?_ _|refine Agree.setCell ?_ ?_ _|refine Agree.alloc ?_ ?_ _|refine Agree.then_ ?_ (by assumption) ?_)|(intro b hb;obtain ⟨hb1,hb2⟩:=hb;(first|omega|((try simp at hb1);(try simp at hb2);(try simp);omega)))))) (by (intro b hb;obtain ⟨hb1,hb2⟩:=hb;exact ⟨by (first|omega|((try simp at hb1);(try simp at hb2);(try simp);omega)),by (first|omega|((try simp at hb1);(try simp at hb2);(try simp);omega))⟩)),gG,gF⟩
set_option maxHeartbeats 1000000 in
theorem eqWire (x:Wire) (A_ins:Option Addr) (c_ins:Nat) (A_cover:Option Addr) (c_cover:Nat) (A_ins':Option Addr) (c_ins':Nat) (A_cover':Option Addr) (c_cover':Nat) (w:World) (g0:(x.name).length≤9223372036854775807) (g2:(x.ins).length≤c_ins) (g3:c_ins≤9223372036854775807) (g4:RA Zcb w A_ins x.ins) (g5:(x.cover).length≤c_cover) (g6:c_cover≤9223372036854775807) (g7:RA Zag w A_cover x.cover) (g2':(x.ins).length≤c_ins') (g3':c_ins'≤9223372036854775807) (g4':RA Zcb w A_ins' x.ins) (g5':(x.cover).length≤c_cover') (g6':c_cover'≤9223372036854775807) (g7':RA Zag w A_cover' x.cover):
 Calls Tryz.prog 68 #[.agg #[.string ⟨(x.name).toArray⟩,.int .i64 x.kind,.slice A_ins (x.ins).length c_ins,.slice A_cover (x.cover).length c_cover],.agg #[.string ⟨(x.name).toArray⟩,.int .i64 x.kind,.slice A_ins' (x.ins).length c_ins',.slice A_cover' (x.cover).length c_cover']] w fun e w'=>e=.returned (.bool true)∧Below w.heap.size w w':=by
 go_enter Tryz.func68,Tryz.ntmps68
 go_wp2_with fail
 refine (eqPinS A_ins A_ins' c_ins c_ins' x.ins _ (by omega) (RA.to g4 ?hb) (RA.to g4' ?hb2)).mono ?_
 case hb=>(repeat' (first|(with_reducible first|exact Below.refl _ _|assumption|refine Ze ?_ _|refine Below.drew ?_|refine Below.alloc ?_ ?_ _|refine Below.setCell ?_ ?_ _|refine Below.then_ ?_ (by assumption) ?_)|go_size))
 case hb2=>(repeat' (first|(with_reducible first|exact Below.refl _ _|assumption|refine Ze ?_ _|refine Below.drew ?_|refine Below.alloc ?_ ?_ _|refine Below.setCell ?_ ?_ _|refine Below.then_ ?_ (by assumption) ?_)|go_size))
 rintro e w1 ⟨rfl,hb1⟩
 obtain ⟨hc1,hf1⟩:=Zap hb1
 have hz1:=hb1.size
 repeat (first|rw[World.size_alloc] at hz1|rw[World.size_setCell] at hz1)
 have l1_0:w.heap.size<w1.heap.size:=by omega
 have l1_1:w.heap.size+1<w1.heap.size:=by omega
 go_wp2_with fail
 refine (eqStringS A_cover A_cover' c_cover c_cover' x.cover _ (by omega) (RA.to g7 ?hb) (RA.to g7' ?hb2)).mono ?_
 case hb=>(repeat' (first|(with_reducible first|exact Below.refl _ _|assumption|refine Ze ?_ _|refine Below.drew ?_|refine Below.alloc ?_ ?_ _|refine Below.setCell ?_ ?_ _|refine Below.then_ ?_ (by assumption) ?_)|go_size))
 case hb2=>(repeat' (first|(with_reducible first|exact Below.refl _ _|assumption|refine Ze ?_ _|refine Below.drew ?_|refine Below.alloc ?_ ?_ _|refine Below.setCell ?_ ?_ _|refine Below.then_ ?_ (by assumption) ?_)|go_size))
 rintro e w2 ⟨rfl,hb2⟩
 obtain ⟨hc2,hf2⟩:=Zap hb2
 have hz2:=hb2.size
 repeat (first|rw[World.size_alloc] at hz2|rw[World.size_setCell] at hz2)
 have l2_0:w.heap.size<w2.heap.size:=by omega
 have l2_1:w.heap.size+1<w2.heap.size:=by omega
 go_wp2
 go_ret
 exact ⟨rfl,gG⟩
set_option maxHeartbeats 1000000 in
theorem szWireS (A:Option Addr) (c:Nat) (l:(List Wire)) (left:Int) (w:World) (hn:l.length≤9223372036854775807) (hr:RA Zam w A l) (h0:0≤left) (h1:left≤1048576):
 Calls Tryz.prog 26 #[.slice A l.length c,.int .i64 left] w fun e w'=>e=.returned (.int .i64 (ZL (wtL wtWire l) left))∧Below w.heap.size w w':=by
 by_cases h:left<l.length
 ·have hs:ZL (wtL wtWire l) left= -1:=by unfold ZL wtL;rw[if_pos (by omega)]
  have HS:=Zl hs;clear hs
  go_enter Tryz.func26,Tryz.ntmps26
  go_wp2
  go_ret
  exact ⟨Z2 HS.out.symm,gG⟩
 ·obtain ⟨R,hR⟩:∃R,ZL (wtL wtWire l) left=R:=⟨_,rfl⟩
  have HR:=Zl hR
  have HL:Hid (ZL ((l.drop 0).map wtWire).sum (left - l.length)=R):=by show _=_;rw[←hR,wtL,Zep h];rfl
  clear hR
  go_enter Tryz.func26,Tryz.ntmps26
  go_wp2
  go_loopw [5,1] (fun i L wr=>∃(k:Nat) (m:Int),k≤l.length∧i=.int .i64 k∧L=.int .i64 m∧0≤m∧m≤1048576∧Hid (ZL ((l.drop k).map wtWire).sum m=R)∧Below w.heap.size w wr) (fun i _ _=>l.length - (intOf i).toNat)
  case atStart=>exact ⟨0,_,Nat.zero_le _,rfl,rfl,by omega,by omega,HL,gG⟩
  case round=>
   obtain ⟨k,m,hk,rfl,rfl,hm0,hm1,hgo,hb⟩:=hrel
   have hsz:=hb.size
   by_cases hlt:k<l.length
   ·obtain ⟨x,hx⟩:=Zq hlt
    obtain ⟨b,off,A_ins,c_ins,A_cover,c_cover,rfl,hbl,d0,d1,d2,d3,f0,f1,f2,f3,f4,f5,f6,f7⟩:=hr.Wire_at hb hx
    have Hd:=Zl (Zc9 hx)
    clear hx
    have hg1:=hgo.out
    rw[Hd.out,List.map_cons,List.sum_cons] at hg1
    have HG:=Zl hg1;clear hg1
    go_wp2_with fail
    refine (szWire x A_ins c_ins A_cover c_cover m _ f0 f2 f3 f4 f5 f6 f7 hm0 hm1).mono ?_
    rintro e w1 ⟨rfl,hb1⟩
    have hb2:=hb.trans (hb1.mono hsz)
    by_cases hq:m<(wtWire x:Nat)
    ·rw[Zbm hq]
     have HQ:=Zl (Zfg (b:=((l.drop (k+1)).map wtWire).sum) hq)
     go_wp2
     go_ret
     exact ⟨Z2 (by rw[HR.out,←HG.out,←HQ.out]),gG⟩
    ·rw[Zbn hq]
     have HG2:Hid (ZL ((l.drop (k+1)).map wtWire).sum (m - (wtWire x:Nat))=R):=by show _=_;rw[←HG.out];exact (Zep hq).symm
     have hq1:(wtWire x:Int)≤m:=by omega
     have hq2:(0:Int)≤(wtWire x:Nat):=by omega
     go_wp2_with fail
     go_roundw
     case rel=>exact ⟨k+1,_,by omega,by go_num,rfl,by omega,by omega,HG2,gG⟩
     case measure=>simp[intOf];omega
   ·have hg1:=hgo.out
    rw[ZlA hlt] at hg1
    have HG:=Zl hg1;clear hg1
    go_wp2
    go_ret
    exact ⟨Z2 (by rw[HR.out,←HG.out];unfold ZL;simp;omega),gG⟩
set_option maxHeartbeats 1000000 in
theorem toWireS (A:Option Addr) (c:Nat) (l:(List Wire)) (w:World) (hs:wtL wtWire l≤1048576) (hr:RA Zam w A l):
 Calls Tryz.prog 32 #[.slice A l.length c] w fun e w'=>∃A',e=.returned (.slice A' l.length l.length)∧RSl Zam w' (ZaE w w') A' l∧Below w.heap.size w w'∧Frz w w':=by
 have hl:l.length≤1048576:=by unfold wtL at hs;omega
 obtain ⟨cells,hcs,hmk⟩:=Zet (P:=Tryz.prog) (t:=40) (e:=113) (size:=4) (bytes:=72) Tryz.underlying40 (by kernel_rfl) l.length (by omega) (by decide)
 have HC:=Zl hcs;clear hcs
 have HM:=Zl hmk;clear hmk
 go_enter Tryz.func32,Tryz.ntmps32
 have hmk:=HM.out w
 go_wp2
 clear hmk
 go_loopw [4] (fun i wr=>∃k:Nat,k≤l.length∧i=.int .i64 k∧Hid (Zai Zam wr (ZlB w.heap.size wr) w.heap.size 113 l.length k l)∧Below w.heap.size w wr∧Frz w wr) (fun i _=>l.length - (intOf i).toNat)
 case atStart=>exact ⟨0,Nat.zero_le _,rfl,Zai.start HC.out,gG,gF⟩
 case round=>
  obtain ⟨k,hk,rfl,hf,hb,hfz⟩:=hrel
  have hsz:=hb.size
  by_cases hlt:k<l.length
  ·obtain ⟨x,hx⟩:=Zq hlt
   obtain ⟨b,off,A_ins,c_ins,A_cover,c_cover,rfl,hbl,d0,d1,d2,d3,f0,f1,f2,f3,f4,f5,f6,f7⟩:=hr.Wire_at hb hx
   have hwx:wtWire x≤1048576:=Nat.le_trans (Zs0 hx) hs
   have HX:=Zl hx;clear hx
   have hgl:=hf.out.lt
   go_wp2_with fail
   refine (toWire x A_ins c_ins A_cover c_cover wr f0 f2 f3 f4 f5 f6 f7 hwx).mono ?_
   rintro e w1 ⟨A_ins',A_cover',rfl,rA_ins,rA_cover,hb1,fz1⟩
   have hf1:=hf.out.to hb1
   obtain ⟨⟨v0,p0⟩,z0⟩:=hf1.room hlt 0 (by decide)
   obtain ⟨⟨v1,p1⟩,z1⟩:=hf1.room hlt 1 (by decide)
   obtain ⟨⟨v2,p2⟩,z2⟩:=hf1.room hlt 2 (by decide)
   obtain ⟨⟨v3,p3⟩,z3⟩:=hf1.room hlt 3 (by decide)
   have HF:=Zl hf1;clear hf1
   simp only[Zc7,Nat.add_zero] at p0 z0 p1 z1 p2 z2 p3 z3
   have hb2:=hb.trans (hb1.mono hsz)
   have hsz1:=hb1.size
   go_wp2_with fail
   go_roundw
   case rel=>exact ⟨k+1,by omega,by go_num,Zl (HF.out.step [.string ⟨(x.name).toArray⟩,.int .i64 x.kind,.slice A_ins' (x.ins).length (x.ins).length,.slice A_cover' (x.cover).length (x.cover).length] HX.out (ZuF f0 f1 (Nat.le_refl _) (by omega) (rA_ins.mono (by (intro b hb;obtain ⟨hb1,hb2⟩:=hb;exact ⟨by omega,by omega⟩))) (Nat.le_refl _) (by omega) (rA_cover.mono (by (intro b hb;obtain ⟨hb1,hb2⟩:=hb;exact ⟨by omega,by omega⟩)))) (by simp[Zaw,Zc7])),gG,gF⟩
   case measure=>simp[intOf];omega
  ·have:k=l.length:=by omega
   subst this
   go_wp2
   go_ret
   exact ⟨_,rfl,hf.out.finish,gG,gF⟩
set_option maxHeartbeats 1000000 in
theorem eqWireS (A A':Option Addr) (c c':Nat) (l:(List Wire)) (w:World) (hl:l.length≤9223372036854775807) (hr:RA Zam w A l) (hr':RA Zam w A' l):
 Calls Tryz.prog 41 #[.slice A l.length c,.slice A' l.length c'] w fun e w'=>e=.returned (.bool true)∧Below w.heap.size w w':=by
 go_enter Tryz.func41,Tryz.ntmps41
 go_wp2
 go_loopw [5] (fun i wr=>∃k:Nat,k≤l.length∧i=.int .i64 k∧Below w.heap.size w wr) (fun i _=>l.length - (intOf i).toNat)
 case atStart=>exact ⟨0,Nat.zero_le _,rfl,Below.refl _ _⟩
 case round=>
  obtain ⟨k,hk,rfl,hb⟩:=hrel
  have hsz:=hb.size
  by_cases hlt:k<l.length
  ·obtain ⟨x,hx⟩:=Zq hlt
   obtain ⟨b,off,A_ins,c_ins,A_cover,c_cover,rfl,hbl,d0,d1,d2,d3,f0,f1,f2,f3,f4,f5,f6,f7⟩:=hr.Wire_at hb hx
   obtain ⟨b',off',A_ins',c_ins',A_cover',c_cover',rfl,hbl',d0',d1',d2',d3',f0',f1',f2',f3',f4',f5',f6',f7'⟩:=hr'.Wire_at hb hx
   have HX:=Zl hx;clear hx
   go_wp2_with fail
   go_region_held3 (fun W=>W.cell? ⟨b,off+k * 4,none⟩=some (.string ⟨(x.name).toArray⟩)∧W.cell? ⟨b,off+k * 4+1,none⟩=some (.int .i64 x.kind)∧W.cell? ⟨b,off+k * 4+2,none⟩=some (.slice A_ins (x.ins).length c_ins)∧W.cell? ⟨b,off+k * 4+3,none⟩=some (.slice A_cover (x.cover).length c_cover)∧W.cell? ⟨b',off'+k * 4,none⟩=some (.string ⟨(x.name).toArray⟩)∧W.cell? ⟨b',off'+k * 4+1,none⟩=some (.int .i64 x.kind)∧W.cell? ⟨b',off'+k * 4+2,none⟩=some (.slice A_ins' (x.ins).length c_ins')∧W.cell? ⟨b',off'+k * 4+3,none⟩=some (.slice A_cover' (x.cover).length c_cover')) (first|exact ⟨d0,d1,d2,d3,d0',d1',d2',d3'⟩|exact ⟨(cell_later hb1 d0),(cell_later hb1 d1),(cell_later hb1 d2),(cell_later hb1 d3),(cell_later hb1 d0'),(cell_later hb1 d1'),(cell_later hb1 d2'),(cell_later hb1 d3')⟩) (first|(go_at_call 68;refine (eqWire x A_ins c_ins A_cover c_cover A_ins' c_ins' A_cover' c_cover' _ f0 f2 f3 (RA.to f4 (Below.drew (Below.refl _ _))) f5 f6 (RA.to f7 (Below.drew (Below.refl _ _))) f2' f3' (RA.to f4' (Below.drew (Below.refl _ _))) f5' f6' (RA.to f7' (Below.drew (Below.refl _ _)))).mono ?_;rintro e w1 ⟨rfl,hb1⟩))
   have hb2:=hb.drew.trans (hb1.mono hsz)
   go_wp2_with fail
   go_roundw
   case rel=>exact ⟨k+1,by omega,by go_num,gG⟩
   case measure=>simp[intOf];omega
  ·go_wp2
   go_ret
   exact ⟨rfl,gG⟩
def wtNl (x:Nl):Nat:=(wtL wtSig x.signals)+(wtL wtWire x.wires)
set_option maxHeartbeats 1000000 in
theorem szNetlist (x:Nl) (A_signals:Option Addr) (c_signals:Nat) (A_wires:Option Addr) (c_wires:Nat) (left:Int) (w:World) (g0:(x.signals).length≤c_signals) (g1:c_signals≤9223372036854775807) (g2:RA Zah w A_signals x.signals) (g3:(x.wires).length≤c_wires) (g4:c_wires≤9223372036854775807) (g5:RA Zam w A_wires x.wires) (h0:0≤left) (h1:left≤1048576):
 Calls Tryz.prog 6 #[.agg #[.slice A_signals (x.signals).length c_signals,.slice A_wires (x.wires).length c_wires],.int .i64 left] w fun e w'=>e=.returned (.int .i64 (ZL (wtNl x) left))∧Below w.heap.size w w':=by
 show Calls _ _ _ _ fun e w'=>e=.returned (.int .i64 (ZL ((wtL wtSig x.signals)+(wtL wtWire x.wires)) left))∧_
 go_enter Tryz.func6,Tryz.ntmps6
 go_wp2_with fail
 refine (szSignalS A_signals c_signals x.signals (left) _ (by omega) (RA.to g2 ?hb) (by omega) (by omega)).mono ?_
 case hb=>(repeat' (first|(with_reducible first|exact Below.refl _ _|assumption|refine Ze ?_ _|refine Below.drew ?_|refine Below.alloc ?_ ?_ _|refine Below.setCell ?_ ?_ _|refine Below.then_ ?_ (by assumption) ?_)|go_size))
 rintro e w1 ⟨rfl,hb1⟩
 obtain ⟨hc1,hf1⟩:=Zap hb1
 have hz1:=hb1.size
 repeat (first|rw[World.size_alloc] at hz1|rw[World.size_setCell] at hz1)
 have l1_0:w.heap.size<w1.heap.size:=by omega
 by_cases q1:left<((wtL wtSig x.signals):Nat)
 ·rw[Zbm q1]
  go_wp2
  go_ret
  exact ⟨Z2 (by unfold ZL;rw[if_pos (by omega)]),gG⟩
 ·rw[Zbn q1]
  go_wp2_with fail
  refine (szWireS A_wires c_wires x.wires (left - ((wtL wtSig x.signals):Nat)) _ (by omega) (RA.to g5 ?hb) (by omega) (by omega)).mono ?_
  case hb=>(repeat' (first|(with_reducible first|exact Below.refl _ _|assumption|refine Ze ?_ _|refine Below.drew ?_|refine Below.alloc ?_ ?_ _|refine Below.setCell ?_ ?_ _|refine Below.then_ ?_ (by assumption) ?_)|go_size))
  rintro e w2 ⟨rfl,hb2⟩
  obtain ⟨hc2,hf2⟩:=Zap hb2
  have hz2:=hb2.size
  repeat (first|rw[World.size_alloc] at hz2|rw[World.size_setCell] at hz2)
  have l2_0:w.heap.size<w2.heap.size:=by omega
  by_cases q2:left - ((wtL wtSig x.signals):Nat)<((wtL wtWire x.wires):Nat)
  ·rw[Zbm q2]
   go_wp2
   go_ret
   exact ⟨Z2 (by unfold ZL;rw[if_pos (by omega)]),gG⟩
  ·rw[Zbn q2]
   go_wp2
   go_ret
   exact ⟨Z2 (by (unfold ZL;rw[if_neg (by omega)])<;>omega),gG⟩
set_option maxHeartbeats 1000000 in
theorem toNetlist (x:Nl) (A_signals:Option Addr) (c_signals:Nat) (A_wires:Option Addr) (c_wires:Nat) (w:World) (g0:(x.signals).length≤c_signals) (g1:c_signals≤9223372036854775807) (g2:RA Zah w A_signals x.signals) (g3:(x.wires).length≤c_wires) (g4:c_wires≤9223372036854775807) (g5:RA Zam w A_wires x.wires) (hs:wtNl x≤1048576):
 Calls Tryz.prog 9 #[.agg #[.slice A_signals (x.signals).length c_signals,.slice A_wires (x.wires).length c_wires]] w fun e w'=>∃A_signals' A_wires',e=.returned (.agg #[.slice A_signals' (x.signals).length (x.signals).length,.slice A_wires' (x.wires).length (x.wires).length])∧RSl Zah w' (ZaE w w') A_signals' x.signals∧RSl Zam w' (ZaE w w') A_wires' x.wires∧Below w.heap.size w w'∧Frz w w':=by
 unfold wtNl at hs
 go_enter Tryz.func9,Tryz.ntmps9
 go_wp2_with fail
 refine (toSignalS A_signals c_signals x.signals _ (by omega) (RA.to g2 ?hb)).mono ?_
 case hb=>(repeat' (first|(with_reducible first|exact Below.refl _ _|assumption|refine Ze ?_ _|refine Below.drew ?_|refine Below.alloc ?_ ?_ _|refine Below.setCell ?_ ?_ _|refine Below.then_ ?_ (by assumption) ?_)|go_size))
 rintro e w1 ⟨A_signals',rfl,r1,hb1,fz1⟩
 obtain ⟨hc1,hf1⟩:=Zap hb1
 have hz1:=hb1.size
 repeat (first|rw[World.size_alloc] at hz1|rw[World.size_setCell] at hz1)
 have l1_0:w.heap.size<w1.heap.size:=by omega
 have l1_1:w.heap.size+1<w1.heap.size:=by omega
 have l1_2:w.heap.size+1+1<w1.heap.size:=by omega
 go_wp2_with fail
 refine (toWireS A_wires c_wires x.wires _ (by omega) (RA.to g5 ?hb)).mono ?_
 case hb=>(repeat' (first|(with_reducible first|exact Below.refl _ _|assumption|refine Ze ?_ _|refine Below.drew ?_|refine Below.alloc ?_ ?_ _|refine Below.setCell ?_ ?_ _|refine Below.then_ ?_ (by assumption) ?_)|go_size))
 rintro e w2 ⟨A_wires',rfl,r2,hb2,fz2⟩
 obtain ⟨hc2,hf2⟩:=Zap hb2
 have hz2:=hb2.size
 repeat (first|rw[World.size_alloc] at hz2|rw[World.size_setCell] at hz2)
 have l2_0:w.heap.size<w2.heap.size:=by omega
 have l2_1:w.heap.size+1<w2.heap.size:=by omega
 have l2_2:w.heap.size+1+1<w2.heap.size:=by omega
 go_wp2
 refine bodyPost_ret (v:=.agg #[.slice A_signals' (x.signals).length (x.signals).length,.slice A_wires' (x.wires).length (x.wires).length]) ?_ rfl ?_
 ·simp[results,Tryz.results9,go_sem, *]
 exact ⟨_,_,rfl,(r1).keep (by (refine Agree.out ?_;repeat' (first|(with_reducible first|exact Agree.refl _ _|refine Agree.drew ?_|refine Agree.drewN ?_ _|refine Agree.setCell ?_ ?_ _|refine Agree.alloc ?_ ?_ _|refine Agree.then_ ?_ (by assumption) ?_)|(intro b hb;obtain ⟨hb1,hb2⟩:=hb;(first|omega|((try simp at hb1);(try simp at hb2);(try simp);omega)))))) (by (intro b hb;obtain ⟨hb1,hb2⟩:=hb;exact ⟨by (first|omega|((try simp at hb1);(try simp at hb2);(try simp);omega)),by (first|omega|((try simp at hb1);(try simp at hb2);(try simp);omega))⟩)),(r2).keep (by (refine Agree.out ?_;repeat' (first|(with_reducible first|exact Agree.refl _ _|refine Agree.drew ?_|refine Agree.drewN ?_ _|refine Agree.setCell ?_ ?_ _|refine Agree.alloc ?_ ?_ _|refine Agree.then_ ?_ (by assumption) ?_)|(intro b hb;obtain ⟨hb1,hb2⟩:=hb;(first|omega|((try simp at hb1);(try simp at hb2);(try simp);omega)))))) (by (intro b hb;obtain ⟨hb1,hb2⟩:=hb;exact ⟨by (first|omega|((try simp at hb1);(try simp at hb2);(try simp);omega)),by (first|omega|((try simp at hb1);(try simp at hb2);(try simp);omega))⟩)),gG,gF⟩
set_option maxHeartbeats 1000000 in
theorem eqNetlist (x:Nl) (A_signals:Option Addr) (c_signals:Nat) (A_wires:Option Addr) (c_wires:Nat) (A_signals':Option Addr) (c_signals':Nat) (A_wires':Option Addr) (c_wires':Nat) (w:World) (g0:(x.signals).length≤c_signals) (g1:c_signals≤9223372036854775807) (g2:RA Zah w A_signals x.signals) (g3:(x.wires).length≤c_wires) (g4:c_wires≤9223372036854775807) (g5:RA Zam w A_wires x.wires) (g0':(x.signals).length≤c_signals') (g1':c_signals'≤9223372036854775807) (g2':RA Zah w A_signals' x.signals) (g3':(x.wires).length≤c_wires') (g4':c_wires'≤9223372036854775807) (g5':RA Zam w A_wires' x.wires):
 Calls Tryz.prog 13 #[.agg #[.slice A_signals (x.signals).length c_signals,.slice A_wires (x.wires).length c_wires],.agg #[.slice A_signals' (x.signals).length c_signals',.slice A_wires' (x.wires).length c_wires']] w fun e w'=>e=.returned (.bool true)∧Below w.heap.size w w':=by
 go_enter Tryz.func13,Tryz.ntmps13
 go_wp2_with fail
 refine (eqSignalS A_signals A_signals' c_signals c_signals' x.signals _ (by omega) (RA.to g2 ?hb) (RA.to g2' ?hb2)).mono ?_
 case hb=>(repeat' (first|(with_reducible first|exact Below.refl _ _|assumption|refine Ze ?_ _|refine Below.drew ?_|refine Below.alloc ?_ ?_ _|refine Below.setCell ?_ ?_ _|refine Below.then_ ?_ (by assumption) ?_)|go_size))
 case hb2=>(repeat' (first|(with_reducible first|exact Below.refl _ _|assumption|refine Ze ?_ _|refine Below.drew ?_|refine Below.alloc ?_ ?_ _|refine Below.setCell ?_ ?_ _|refine Below.then_ ?_ (by assumption) ?_)|go_size))
 rintro e w1 ⟨rfl,hb1⟩
 obtain ⟨hc1,hf1⟩:=Zap hb1
 have hz1:=hb1.size
 repeat (first|rw[World.size_alloc] at hz1|rw[World.size_setCell] at hz1)
 have l1_0:w.heap.size<w1.heap.size:=by omega
 have l1_1:w.heap.size+1<w1.heap.size:=by omega
 go_wp2_with fail
 refine (eqWireS A_wires A_wires' c_wires c_wires' x.wires _ (by omega) (RA.to g5 ?hb) (RA.to g5' ?hb2)).mono ?_
 case hb=>(repeat' (first|(with_reducible first|exact Below.refl _ _|assumption|refine Ze ?_ _|refine Below.drew ?_|refine Below.alloc ?_ ?_ _|refine Below.setCell ?_ ?_ _|refine Below.then_ ?_ (by assumption) ?_)|go_size))
 case hb2=>(repeat' (first|(with_reducible first|exact Below.refl _ _|assumption|refine Ze ?_ _|refine Below.drew ?_|refine Below.alloc ?_ ?_ _|refine Below.setCell ?_ ?_ _|refine Below.then_ ?_ (by assumption) ?_)|go_size))
 rintro e w2 ⟨rfl,hb2⟩
 obtain ⟨hc2,hf2⟩:=Zap hb2
 have hz2:=hb2.size
 repeat (first|rw[World.size_alloc] at hz2|rw[World.size_setCell] at hz2)
 have l2_0:w.heap.size<w2.heap.size:=by omega
 have l2_1:w.heap.size+1<w2.heap.size:=by omega
 go_wp2
 go_ret
 exact ⟨rfl,gG⟩
set_option maxHeartbeats 1000000 in
theorem eqProductState (x:PSt)   (w:World) (g1:(x.values).length≤9223372036854775807)  :
 Calls Tryz.prog 83 #[.agg #[.int .i64 x.state,.string ⟨(x.values).toArray⟩],.agg #[.int .i64 x.state,.string ⟨(x.values).toArray⟩]] w fun e w'=>e=.returned (.bool true)∧Below w.heap.size w w':=by
 go_enter Tryz.func83,Tryz.ntmps83
 go_wp2
 go_ret
 exact ⟨rfl,gG⟩
set_option maxHeartbeats 1000000 in
theorem eqProductStateS (A A':Option Addr) (c c':Nat) (l:(List PSt)) (w:World) (hl:l.length≤9223372036854775807) (hr:RA ZbF w A l) (hr':RA ZbF w A' l):
 Calls Tryz.prog 51 #[.slice A l.length c,.slice A' l.length c'] w fun e w'=>e=.returned (.bool true)∧Below w.heap.size w w':=by
 go_enter Tryz.func51,Tryz.ntmps51
 go_wp2
 go_loopw [5] (fun i wr=>∃k:Nat,k≤l.length∧i=.int .i64 k∧Below w.heap.size w wr) (fun i _=>l.length - (intOf i).toNat)
 case atStart=>exact ⟨0,Nat.zero_le _,rfl,Below.refl _ _⟩
 case round=>
  obtain ⟨k,hk,rfl,hb⟩:=hrel
  have hsz:=hb.size
  by_cases hlt:k<l.length
  ·obtain ⟨x,hx⟩:=Zq hlt
   obtain ⟨b,off,rfl,hbl,d0,d1,f0,f1⟩:=hr.PSt_at hb hx
   obtain ⟨b',off',rfl,hbl',d0',d1',f0',f1'⟩:=hr'.PSt_at hb hx
   have HX:=Zl hx;clear hx
   go_wp2_with fail
   go_region_held3 (fun W=>W.cell? ⟨b,off+k * 2,none⟩=some (.int .i64 x.state)∧W.cell? ⟨b,off+k * 2+1,none⟩=some (.string ⟨(x.values).toArray⟩)∧W.cell? ⟨b',off'+k * 2,none⟩=some (.int .i64 x.state)∧W.cell? ⟨b',off'+k * 2+1,none⟩=some (.string ⟨(x.values).toArray⟩)) (first|exact ⟨d0,d1,d0',d1'⟩|exact ⟨(cell_later hb1 d0),(cell_later hb1 d1),(cell_later hb1 d0'),(cell_later hb1 d1')⟩) (first|(go_at_call 83;refine (eqProductState x   _ f1).mono ?_;rintro e w1 ⟨rfl,hb1⟩))
   have hb2:=hb.drew.trans (hb1.mono hsz)
   go_wp2_with fail
   go_roundw
   case rel=>exact ⟨k+1,by omega,by go_num,gG⟩
   case measure=>simp[intOf];omega
  ·go_wp2
   go_ret
   exact ⟨rfl,gG⟩
set_option maxHeartbeats 1000000 in
theorem eqWireFlip (x:Flip)   (w:World)   :
 Calls Tryz.prog 84 #[.agg #[.int .i64 x.from_,.int .i64 x.wire,.int .i64 x.to],.agg #[.int .i64 x.from_,.int .i64 x.wire,.int .i64 x.to]] w fun e w'=>e=.returned (.bool true)∧Below w.heap.size w w':=by
 go_enter Tryz.func84,Tryz.ntmps84
 go_wp2
 go_ret
 exact ⟨rfl,gG⟩
set_option maxHeartbeats 1000000 in
theorem eqWireFlipS (A A':Option Addr) (c c':Nat) (l:(List Flip)) (w:World) (hl:l.length≤9223372036854775807) (hr:RA ZZ w A l) (hr':RA ZZ w A' l):
 Calls Tryz.prog 52 #[.slice A l.length c,.slice A' l.length c'] w fun e w'=>e=.returned (.bool true)∧Below w.heap.size w w':=by
 go_enter Tryz.func52,Tryz.ntmps52
 go_wp2
 go_loopw [5] (fun i wr=>∃k:Nat,k≤l.length∧i=.int .i64 k∧Below w.heap.size w wr) (fun i _=>l.length - (intOf i).toNat)
 case atStart=>exact ⟨0,Nat.zero_le _,rfl,Below.refl _ _⟩
 case round=>
  obtain ⟨k,hk,rfl,hb⟩:=hrel
  have hsz:=hb.size
  by_cases hlt:k<l.length
  ·obtain ⟨x,hx⟩:=Zq hlt
   obtain ⟨b,off,rfl,hbl,d0,d1,d2,f0,f1,f2⟩:=hr.Flip_at hb hx
   obtain ⟨b',off',rfl,hbl',d0',d1',d2',f0',f1',f2'⟩:=hr'.Flip_at hb hx
   have HX:=Zl hx;clear hx
   go_wp2_with fail
   go_region_held3 (fun W=>W.cell? ⟨b,off+k * 3,none⟩=some (.int .i64 x.from_)∧W.cell? ⟨b,off+k * 3+1,none⟩=some (.int .i64 x.wire)∧W.cell? ⟨b,off+k * 3+2,none⟩=some (.int .i64 x.to)∧W.cell? ⟨b',off'+k * 3,none⟩=some (.int .i64 x.from_)∧W.cell? ⟨b',off'+k * 3+1,none⟩=some (.int .i64 x.wire)∧W.cell? ⟨b',off'+k * 3+2,none⟩=some (.int .i64 x.to)) (first|exact ⟨d0,d1,d2,d0',d1',d2'⟩|exact ⟨(cell_later hb1 d0),(cell_later hb1 d1),(cell_later hb1 d2),(cell_later hb1 d0'),(cell_later hb1 d1'),(cell_later hb1 d2')⟩) (first|(go_at_call 84;refine (eqWireFlip x   _  ).mono ?_;rintro e w1 ⟨rfl,hb1⟩))
   have hb2:=hb.drew.trans (hb1.mono hsz)
   go_wp2_with fail
   go_roundw
   case rel=>exact ⟨k+1,by omega,by go_num,gG⟩
   case measure=>simp[intOf];omega
  ·go_wp2
   go_ret
   exact ⟨rfl,gG⟩
set_option maxHeartbeats 1000000 in
theorem eqProduct (x:ProdG) (A_states:Option Addr) (c_states:Nat) (A_flips:Option Addr) (c_flips:Nat) (A_extra:Option Addr) (c_extra:Nat) (A_states':Option Addr) (c_states':Nat) (A_flips':Option Addr) (c_flips':Nat) (A_extra':Option Addr) (c_extra':Nat) (w:World) (g0:(x.states).length≤c_states) (g1:c_states≤9223372036854775807) (g2:RA ZbF w A_states x.states) (g3:(x.flips).length≤c_flips) (g4:c_flips≤9223372036854775807) (g5:RA ZZ w A_flips x.flips) (g6:(x.extra).length≤c_extra) (g7:c_extra≤9223372036854775807) (g8:RA ZZ w A_extra x.extra) (g0':(x.states).length≤c_states') (g1':c_states'≤9223372036854775807) (g2':RA ZbF w A_states' x.states) (g3':(x.flips).length≤c_flips') (g4':c_flips'≤9223372036854775807) (g5':RA ZZ w A_flips' x.flips) (g6':(x.extra).length≤c_extra') (g7':c_extra'≤9223372036854775807) (g8':RA ZZ w A_extra' x.extra):
 Calls Tryz.prog 20 #[.agg #[.slice A_states (x.states).length c_states,.slice A_flips (x.flips).length c_flips,.slice A_extra (x.extra).length c_extra],.agg #[.slice A_states' (x.states).length c_states',.slice A_flips' (x.flips).length c_flips',.slice A_extra' (x.extra).length c_extra']] w fun e w'=>e=.returned (.bool true)∧Below w.heap.size w w':=by
 go_enter Tryz.func20,Tryz.ntmps20
 go_wp2_with fail
 refine (eqProductStateS A_states A_states' c_states c_states' x.states _ (by omega) (RA.to g2 ?hb) (RA.to g2' ?hb2)).mono ?_
 case hb=>(repeat' (first|(with_reducible first|exact Below.refl _ _|assumption|refine Ze ?_ _|refine Below.drew ?_|refine Below.alloc ?_ ?_ _|refine Below.setCell ?_ ?_ _|refine Below.then_ ?_ (by assumption) ?_)|go_size))
 case hb2=>(repeat' (first|(with_reducible first|exact Below.refl _ _|assumption|refine Ze ?_ _|refine Below.drew ?_|refine Below.alloc ?_ ?_ _|refine Below.setCell ?_ ?_ _|refine Below.then_ ?_ (by assumption) ?_)|go_size))
 rintro e w1 ⟨rfl,hb1⟩
 obtain ⟨hc1,hf1⟩:=Zap hb1
 have hz1:=hb1.size
 repeat (first|rw[World.size_alloc] at hz1|rw[World.size_setCell] at hz1)
 have l1_0:w.heap.size<w1.heap.size:=by omega
 have l1_1:w.heap.size+1<w1.heap.size:=by omega
 go_wp2_with fail
 refine (eqWireFlipS A_flips A_flips' c_flips c_flips' x.flips _ (by omega) (RA.to g5 ?hb) (RA.to g5' ?hb2)).mono ?_
 case hb=>(repeat' (first|(with_reducible first|exact Below.refl _ _|assumption|refine Ze ?_ _|refine Below.drew ?_|refine Below.alloc ?_ ?_ _|refine Below.setCell ?_ ?_ _|refine Below.then_ ?_ (by assumption) ?_)|go_size))
 case hb2=>(repeat' (first|(with_reducible first|exact Below.refl _ _|assumption|refine Ze ?_ _|refine Below.drew ?_|refine Below.alloc ?_ ?_ _|refine Below.setCell ?_ ?_ _|refine Below.then_ ?_ (by assumption) ?_)|go_size))
 rintro e w2 ⟨rfl,hb2⟩
 obtain ⟨hc2,hf2⟩:=Zap hb2
 have hz2:=hb2.size
 repeat (first|rw[World.size_alloc] at hz2|rw[World.size_setCell] at hz2)
 have l2_0:w.heap.size<w2.heap.size:=by omega
 have l2_1:w.heap.size+1<w2.heap.size:=by omega
 go_wp2_with fail
 refine (eqWireFlipS A_extra A_extra' c_extra c_extra' x.extra _ (by omega) (RA.to g8 ?hb) (RA.to g8' ?hb2)).mono ?_
 case hb=>(repeat' (first|(with_reducible first|exact Below.refl _ _|assumption|refine Ze ?_ _|refine Below.drew ?_|refine Below.alloc ?_ ?_ _|refine Below.setCell ?_ ?_ _|refine Below.then_ ?_ (by assumption) ?_)|go_size))
 case hb2=>(repeat' (first|(with_reducible first|exact Below.refl _ _|assumption|refine Ze ?_ _|refine Below.drew ?_|refine Below.alloc ?_ ?_ _|refine Below.setCell ?_ ?_ _|refine Below.then_ ?_ (by assumption) ?_)|go_size))
 rintro e w3 ⟨rfl,hb3⟩
 obtain ⟨hc3,hf3⟩:=Zap hb3
 have hz3:=hb3.size
 repeat (first|rw[World.size_alloc] at hz3|rw[World.size_setCell] at hz3)
 have l3_0:w.heap.size<w3.heap.size:=by omega
 have l3_1:w.heap.size+1<w3.heap.size:=by omega
 go_wp2
 go_ret
 exact ⟨rfl,gG⟩
end Go.Proofs.YtkgnjijonikchaaGreat.Lw
