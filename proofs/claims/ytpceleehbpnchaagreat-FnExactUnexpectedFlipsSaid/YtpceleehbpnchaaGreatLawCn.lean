import Derived.Test.YtpceleehbpnchaaGreatRows
import Derived.Test.YtpceleehbpnchaaGreatData
import Derived.Test.YtpceleehbpnchaaGreatFrz
namespace Go.Proofs.YtpceleehbpnchaaGreat.Lw
open Go.RowKit
set_option linter.unusedVariables false
set_option maxHeartbeats 1000000 in
theorem eqIntS (A A':Option Addr) (c c':Nat) (l:(List Int)) (w:World) (hl:l.length≤9223372036854775807) (hr:RA Zt w A l) (hr':RA Zt w A' l):
 Calls Tryz.prog 27 #[.slice A l.length c,.slice A' l.length c'] w fun e w'=>e=.returned (.bool true)∧Below w.heap.size w w':=by
 go_enter Tryz.func27,Tryz.ntmps27
 go_wp2
 go_loopw [5] (fun i wr=>∃k:Nat,k≤l.length∧i=.int .i64 k∧Below w.heap.size w wr) (fun i _=>l.length - (intOf i).toNat)
 case atStart=>exact ⟨0,Nat.zero_le _,rfl,Below.refl _ _⟩
 case round=>
  obtain ⟨k,hk,rfl,hb⟩:=hrel
  have hsz:=hb.size
  by_cases hlt:k<l.length
  ·obtain ⟨x,hx⟩:=Zc0 hlt
   obtain ⟨b,off,rfl,hbl,d0,f0⟩:=hr.int_at hb hx
   obtain ⟨b',off',rfl,hbl',d0',f0'⟩:=hr'.int_at hb hx
   have HX:=Zbs hx;clear hx
   go_wp2_with fail
   go_quiet (fail)
   go_wp2_with fail
   go_roundw
   case rel=>exact ⟨k+1,by omega,by go_num,by (repeat' (first|(with_reducible exact Below.refl _ _)|(with_reducible assumption)|(with_reducible refine Zbf ?_ _)|(with_reducible refine Below.drew ?_)|(with_reducible refine Below.alloc ?_ ?_ _)|(with_reducible refine Below.setCell ?_ ?_ _)|(with_reducible refine Below.then_ ?_ (by assumption) ?_)|go_size))⟩
   case measure=>simp[intOf];omega
  ·go_wp2
   go_ret
   exact ⟨rfl,by (repeat' (first|(with_reducible exact Below.refl _ _)|(with_reducible assumption)|(with_reducible refine Zbf ?_ _)|(with_reducible refine Below.drew ?_)|(with_reducible refine Below.alloc ?_ ?_ _)|(with_reducible refine Below.setCell ?_ ?_ _)|(with_reducible refine Below.then_ ?_ (by assumption) ?_)|go_size))⟩
def wtSig (x:Sig):Nat:=(x.name).length
set_option maxHeartbeats 1000000 in
theorem szSignal (x:Sig)  (left:Int) (w:World) (g0:(x.name).length≤9223372036854775807) (h0:0≤left) (h1:left≤1048576):
 Calls Tryz.prog 98 #[.agg #[.string ⟨(x.name).toArray⟩,.int .i64 x.kind],.int .i64 left] w fun e w'=>e=.returned (.int .i64 (ZlK (wtSig x) left))∧Below w.heap.size w w':=by
 show Calls _ _ _ _ fun e w'=>e=.returned (.int .i64 (ZlK ((x.name).length) left))∧_
 go_enter Tryz.func98,Tryz.ntmps98
 by_cases q1:left<((x.name).length:Nat)
 ·go_wp2
  go_ret
  exact ⟨ZyY (by unfold ZlK;rw[if_pos (by omega)]),by (repeat' (first|(with_reducible exact Below.refl _ _)|(with_reducible assumption)|(with_reducible refine Zbf ?_ _)|(with_reducible refine Below.drew ?_)|(with_reducible refine Below.alloc ?_ ?_ _)|(with_reducible refine Below.setCell ?_ ?_ _)|(with_reducible refine Below.then_ ?_ (by assumption) ?_)|go_size))⟩
 ·skip
  go_wp2
  go_ret
  exact ⟨ZyY (by (unfold ZlK;rw[if_neg (by omega)])<;>omega),by (repeat' (first|(with_reducible exact Below.refl _ _)|(with_reducible assumption)|(with_reducible refine Zbf ?_ _)|(with_reducible refine Below.drew ?_)|(with_reducible refine Below.alloc ?_ ?_ _)|(with_reducible refine Below.setCell ?_ ?_ _)|(with_reducible refine Below.then_ ?_ (by assumption) ?_)|go_size))⟩
set_option maxHeartbeats 1000000 in
theorem toSignal (x:Sig)  (w:World) (g0:(x.name).length≤9223372036854775807) (hs:wtSig x≤1048576):
 Calls Tryz.prog 100 #[.agg #[.string ⟨(x.name).toArray⟩,.int .i64 x.kind]] w fun e w'=>e=.returned (.agg #[.string ⟨(x.name).toArray⟩,.int .i64 x.kind])∧Below w.heap.size w w'∧Frz w w':=by
 unfold wtSig at hs
 go_enter Tryz.func100,Tryz.ntmps100
 go_wp2
 go_returns
 exact ⟨rfl,by (repeat' (first|(with_reducible exact Below.refl _ _)|(with_reducible assumption)|(with_reducible refine Zbf ?_ _)|(with_reducible refine Below.drew ?_)|(with_reducible refine Below.alloc ?_ ?_ _)|(with_reducible refine Below.setCell ?_ ?_ _)|(with_reducible refine Below.then_ ?_ (by assumption) ?_)|go_size)),by (repeat' (first|(with_reducible exact Frz.refl _)|(with_reducible assumption)|(with_reducible refine Frz.drewN ?_ _)|(with_reducible refine Frz.drew ?_)|(with_reducible refine Frz.alloc ?_ _ _)|(with_reducible refine Frz.setCell ?_ _ _)|(with_reducible refine Frz.then_ ?_ (by assumption))))⟩
set_option maxHeartbeats 1000000 in
theorem eqSignal (x:Sig)   (w:World) (g0:(x.name).length≤9223372036854775807)  :
 Calls Tryz.prog 103 #[.agg #[.string ⟨(x.name).toArray⟩,.int .i64 x.kind],.agg #[.string ⟨(x.name).toArray⟩,.int .i64 x.kind]] w fun e w'=>e=.returned (.bool true)∧Below w.heap.size w w':=by
 go_enter Tryz.func103,Tryz.ntmps103
 go_wp2
 go_ret
 exact ⟨rfl,by (repeat' (first|(with_reducible exact Below.refl _ _)|(with_reducible assumption)|(with_reducible refine Zbf ?_ _)|(with_reducible refine Below.drew ?_)|(with_reducible refine Below.alloc ?_ ?_ _)|(with_reducible refine Below.setCell ?_ ?_ _)|(with_reducible refine Below.then_ ?_ (by assumption) ?_)|go_size))⟩
set_option maxHeartbeats 1000000 in
theorem szSignalS (A:Option Addr) (c:Nat) (l:(List Sig)) (left:Int) (w:World) (hn:l.length≤9223372036854775807) (hr:RA ZjN w A l) (h0:0≤left) (h1:left≤1048576):
 Calls Tryz.prog 54 #[.slice A l.length c,.int .i64 left] w fun e w'=>e=.returned (.int .i64 (ZlK (wtL wtSig l) left))∧Below w.heap.size w w':=by
 by_cases h:left<l.length
 ·have hs:ZlK (wtL wtSig l) left= -1:=by unfold ZlK wtL;rw[if_pos (by omega)]
  have HS:=Zbs hs;clear hs
  go_enter Tryz.func54,Tryz.ntmps54
  go_wp2
  go_ret
  exact ⟨ZyY HS.out.symm,by (repeat' (first|(with_reducible exact Below.refl _ _)|(with_reducible assumption)|(with_reducible refine Zbf ?_ _)|(with_reducible refine Below.drew ?_)|(with_reducible refine Below.alloc ?_ ?_ _)|(with_reducible refine Below.setCell ?_ ?_ _)|(with_reducible refine Below.then_ ?_ (by assumption) ?_)|go_size))⟩
 ·obtain ⟨R,hR⟩:∃R,ZlK (wtL wtSig l) left=R:=⟨_,rfl⟩
  have HR:=Zbs hR
  have HL:Hid (ZlK ((l.drop 0).map wtSig).sum (left - l.length)=R):=by show _=_;rw[←hR,wtL,ZBH h];rfl
  clear hR
  go_enter Tryz.func54,Tryz.ntmps54
  go_wp2
  go_loopw [5,1] (fun i L wr=>∃(k:Nat) (m:Int),k≤l.length∧i=.int .i64 k∧L=.int .i64 m∧0≤m∧m≤1048576∧Hid (ZlK ((l.drop k).map wtSig).sum m=R)∧Below w.heap.size w wr) (fun i _ _=>l.length - (intOf i).toNat)
  case atStart=>exact ⟨0,_,Nat.zero_le _,rfl,rfl,by omega,by omega,HL,by (repeat' (first|(with_reducible exact Below.refl _ _)|(with_reducible assumption)|(with_reducible refine Zbf ?_ _)|(with_reducible refine Below.drew ?_)|(with_reducible refine Below.alloc ?_ ?_ _)|(with_reducible refine Below.setCell ?_ ?_ _)|(with_reducible refine Below.then_ ?_ (by assumption) ?_)|go_size))⟩
  case round=>
   obtain ⟨k,m,hk,rfl,rfl,hm0,hm1,hgo,hb⟩:=hrel
   have hsz:=hb.size
   by_cases hlt:k<l.length
   ·obtain ⟨x,hx⟩:=Zc0 hlt
    obtain ⟨b,off,rfl,hbl,d0,d1,f0,f1⟩:=hr.Sig_at hb hx
    have Hd:=Zbs (ZzU hx)
    clear hx
    have hg1:=hgo.out
    rw[Hd.out,List.map_cons,List.sum_cons] at hg1
    have HG:=Zbs hg1;clear hg1
    go_wp2_with fail
    refine (szSignal x  m _ f0 hm0 hm1).mono ?_
    rintro e w1 ⟨rfl,hb1⟩
    have hb2:=hb.trans (hb1.mono hsz)
    by_cases hq:m<(wtSig x:Nat)
    ·rw[Zza hq]
     have HQ:=Zbs (ZBy (b:=((l.drop (k+1)).map wtSig).sum) hq)
     go_wp2
     go_ret
     exact ⟨ZyY (by rw[HR.out,←HG.out,←HQ.out]),by (repeat' (first|(with_reducible exact Below.refl _ _)|(with_reducible assumption)|(with_reducible refine Zbf ?_ _)|(with_reducible refine Below.drew ?_)|(with_reducible refine Below.alloc ?_ ?_ _)|(with_reducible refine Below.setCell ?_ ?_ _)|(with_reducible refine Below.then_ ?_ (by assumption) ?_)|go_size))⟩
    ·rw[Zzc hq]
     have HG2:Hid (ZlK ((l.drop (k+1)).map wtSig).sum (m - (wtSig x:Nat))=R):=by show _=_;rw[←HG.out];exact (ZBH hq).symm
     have hq1:(wtSig x:Int)≤m:=by omega
     have hq2:(0:Int)≤(wtSig x:Nat):=by omega
     go_wp2_with fail
     go_roundw
     case rel=>exact ⟨k+1,_,by omega,by go_num,rfl,by omega,by omega,HG2,by (repeat' (first|(with_reducible exact Below.refl _ _)|(with_reducible assumption)|(with_reducible refine Zbf ?_ _)|(with_reducible refine Below.drew ?_)|(with_reducible refine Below.alloc ?_ ?_ _)|(with_reducible refine Below.setCell ?_ ?_ _)|(with_reducible refine Below.then_ ?_ (by assumption) ?_)|go_size))⟩
     case measure=>simp[intOf];omega
   ·have hg1:=hgo.out
    rw[ZCA hlt] at hg1
    have HG:=Zbs hg1;clear hg1
    go_wp2
    go_ret
    exact ⟨ZyY (by rw[HR.out,←HG.out];unfold ZlK;simp;omega),by (repeat' (first|(with_reducible exact Below.refl _ _)|(with_reducible assumption)|(with_reducible refine Zbf ?_ _)|(with_reducible refine Below.drew ?_)|(with_reducible refine Below.alloc ?_ ?_ _)|(with_reducible refine Below.setCell ?_ ?_ _)|(with_reducible refine Below.then_ ?_ (by assumption) ?_)|go_size))⟩
set_option maxHeartbeats 1000000 in
theorem toSignalS (A:Option Addr) (c:Nat) (l:(List Sig)) (w:World) (hs:wtL wtSig l≤1048576) (hr:RA ZjN w A l):
 Calls Tryz.prog 58 #[.slice A l.length c] w fun e w'=>∃A',e=.returned (.slice A' l.length l.length)∧RSl ZjN w' (Zy9 w w') A' l∧Below w.heap.size w w'∧Frz w w':=by
 have hl:l.length≤1048576:=by unfold wtL at hs;omega
 obtain ⟨cells,hcs,hmk⟩:=ZzV (P:=Tryz.prog) (t:=35) (e:=142) (size:=2) (bytes:=24) Tryz.underlying35 (by kernel_rfl) l.length (by omega) (by decide)
 have HC:=Zbs hcs;clear hcs
 have HM:=Zbs hmk;clear hmk
 go_enter Tryz.func58,Tryz.ntmps58
 have hmk:=HM.out w
 go_wp2
 clear hmk
 go_loopw [4] (fun i wr=>∃k:Nat,k≤l.length∧i=.int .i64 k∧Hid (Za0 ZjN wr (ZCB w.heap.size wr) w.heap.size 142 l.length k l)∧Below w.heap.size w wr∧Frz w wr) (fun i _=>l.length - (intOf i).toNat)
 case atStart=>exact ⟨0,Nat.zero_le _,rfl,Za0.start HC.out,by (repeat' (first|(with_reducible exact Below.refl _ _)|(with_reducible assumption)|(with_reducible refine Zbf ?_ _)|(with_reducible refine Below.drew ?_)|(with_reducible refine Below.alloc ?_ ?_ _)|(with_reducible refine Below.setCell ?_ ?_ _)|(with_reducible refine Below.then_ ?_ (by assumption) ?_)|go_size)),by (repeat' (first|(with_reducible exact Frz.refl _)|(with_reducible assumption)|(with_reducible refine Frz.drewN ?_ _)|(with_reducible refine Frz.drew ?_)|(with_reducible refine Frz.alloc ?_ _ _)|(with_reducible refine Frz.setCell ?_ _ _)|(with_reducible refine Frz.then_ ?_ (by assumption))))⟩
 case round=>
  obtain ⟨k,hk,rfl,hf,hb,hfz⟩:=hrel
  have hsz:=hb.size
  by_cases hlt:k<l.length
  ·obtain ⟨x,hx⟩:=Zc0 hlt
   obtain ⟨b,off,rfl,hbl,d0,d1,f0,f1⟩:=hr.Sig_at hb hx
   have hwx:wtSig x≤1048576:=Nat.le_trans (ZCZ hx) hs
   have HX:=Zbs hx;clear hx
   have hgl:=hf.out.lt
   go_wp2_with fail
   refine (toSignal x  wr f0 hwx).mono ?_
   rintro e w1 ⟨rfl,hb1,fz1⟩
   have hf1:=hf.out.to hb1
   obtain ⟨⟨v0,p0⟩,z0⟩:=hf1.room hlt 0 (by decide)
   obtain ⟨⟨v1,p1⟩,z1⟩:=hf1.room hlt 1 (by decide)
   have HF:=Zbs hf1;clear hf1
   simp only[Zqz,Nat.add_zero] at p0 z0 p1 z1
   have hb2:=hb.trans (hb1.mono hsz)
   have hsz1:=hb1.size
   go_wp2_with fail
   go_roundw
   case rel=>exact ⟨k+1,by omega,by go_num,Zbs (HF.out.step [.string ⟨(x.name).toArray⟩,.int .i64 x.kind] HX.out (ZDe f0 f1) (by simp[Zdi,Zqz])),by (repeat' (first|(with_reducible exact Below.refl _ _)|(with_reducible assumption)|(with_reducible refine Zbf ?_ _)|(with_reducible refine Below.drew ?_)|(with_reducible refine Below.alloc ?_ ?_ _)|(with_reducible refine Below.setCell ?_ ?_ _)|(with_reducible refine Below.then_ ?_ (by assumption) ?_)|go_size)),by (repeat' (first|(with_reducible exact Frz.refl _)|(with_reducible assumption)|(with_reducible refine Frz.drewN ?_ _)|(with_reducible refine Frz.drew ?_)|(with_reducible refine Frz.alloc ?_ _ _)|(with_reducible refine Frz.setCell ?_ _ _)|(with_reducible refine Frz.then_ ?_ (by assumption))))⟩
   case measure=>simp[intOf];omega
  ·have:k=l.length:=by omega
   subst this
   go_wp2
   go_ret
   exact ⟨_,rfl,hf.out.finish,by (repeat' (first|(with_reducible exact Below.refl _ _)|(with_reducible assumption)|(with_reducible refine Zbf ?_ _)|(with_reducible refine Below.drew ?_)|(with_reducible refine Below.alloc ?_ ?_ _)|(with_reducible refine Below.setCell ?_ ?_ _)|(with_reducible refine Below.then_ ?_ (by assumption) ?_)|go_size)),by (repeat' (first|(with_reducible exact Frz.refl _)|(with_reducible assumption)|(with_reducible refine Frz.drewN ?_ _)|(with_reducible refine Frz.drew ?_)|(with_reducible refine Frz.alloc ?_ _ _)|(with_reducible refine Frz.setCell ?_ _ _)|(with_reducible refine Frz.then_ ?_ (by assumption))))⟩
set_option maxHeartbeats 1000000 in
theorem eqSignalS (A A':Option Addr) (c c':Nat) (l:(List Sig)) (w:World) (hl:l.length≤9223372036854775807) (hr:RA ZjN w A l) (hr':RA ZjN w A' l):
 Calls Tryz.prog 64 #[.slice A l.length c,.slice A' l.length c'] w fun e w'=>e=.returned (.bool true)∧Below w.heap.size w w':=by
 go_enter Tryz.func64,Tryz.ntmps64
 go_wp2
 go_loopw [5] (fun i wr=>∃k:Nat,k≤l.length∧i=.int .i64 k∧Below w.heap.size w wr) (fun i _=>l.length - (intOf i).toNat)
 case atStart=>exact ⟨0,Nat.zero_le _,rfl,Below.refl _ _⟩
 case round=>
  obtain ⟨k,hk,rfl,hb⟩:=hrel
  have hsz:=hb.size
  by_cases hlt:k<l.length
  ·obtain ⟨x,hx⟩:=Zc0 hlt
   obtain ⟨b,off,rfl,hbl,d0,d1,f0,f1⟩:=hr.Sig_at hb hx
   obtain ⟨b',off',rfl,hbl',d0',d1',f0',f1'⟩:=hr'.Sig_at hb hx
   have HX:=Zbs hx;clear hx
   go_wp2_with fail
   go_region_held3 (fun W=>W.cell? ⟨b,off+k * 2,none⟩=some (.string ⟨(x.name).toArray⟩)∧W.cell? ⟨b,off+k * 2+1,none⟩=some (.int .i64 x.kind)∧W.cell? ⟨b',off'+k * 2,none⟩=some (.string ⟨(x.name).toArray⟩)∧W.cell? ⟨b',off'+k * 2+1,none⟩=some (.int .i64 x.kind)) (first|exact ⟨d0,d1,d0',d1'⟩|exact ⟨(cell_later hb1 d0),(cell_later hb1 d1),(cell_later hb1 d0'),(cell_later hb1 d1')⟩) (first|(go_at_call 103;refine (eqSignal x   _ f0).mono ?_;rintro e w1 ⟨rfl,hb1⟩))
   have hb2:=hb.drew.trans (hb1.mono hsz)
   go_wp2_with fail
   go_roundw
   case rel=>exact ⟨k+1,by omega,by go_num,by (repeat' (first|(with_reducible exact Below.refl _ _)|(with_reducible assumption)|(with_reducible refine Zbf ?_ _)|(with_reducible refine Below.drew ?_)|(with_reducible refine Below.alloc ?_ ?_ _)|(with_reducible refine Below.setCell ?_ ?_ _)|(with_reducible refine Below.then_ ?_ (by assumption) ?_)|go_size))⟩
   case measure=>simp[intOf];omega
  ·go_wp2
   go_ret
   exact ⟨rfl,by (repeat' (first|(with_reducible exact Below.refl _ _)|(with_reducible assumption)|(with_reducible refine Zbf ?_ _)|(with_reducible refine Below.drew ?_)|(with_reducible refine Below.alloc ?_ ?_ _)|(with_reducible refine Below.setCell ?_ ?_ _)|(with_reducible refine Below.then_ ?_ (by assumption) ?_)|go_size))⟩
set_option maxHeartbeats 1000000 in
theorem toArc (x:Ac)  (w:World)   :
 Calls Tryz.prog 101 #[.agg #[.int .i64 x.from_,.int .i64 x.sig,.bool x.up,.int .i64 x.to_]] w fun e w'=>e=.returned (.agg #[.int .i64 x.from_,.int .i64 x.sig,.bool x.up,.int .i64 x.to_])∧Below w.heap.size w w'∧Frz w w':=by
 go_enter Tryz.func101,Tryz.ntmps101
 go_wp2
 go_returns
 exact ⟨rfl,by (repeat' (first|(with_reducible exact Below.refl _ _)|(with_reducible assumption)|(with_reducible refine Zbf ?_ _)|(with_reducible refine Below.drew ?_)|(with_reducible refine Below.alloc ?_ ?_ _)|(with_reducible refine Below.setCell ?_ ?_ _)|(with_reducible refine Below.then_ ?_ (by assumption) ?_)|go_size)),by (repeat' (first|(with_reducible exact Frz.refl _)|(with_reducible assumption)|(with_reducible refine Frz.drewN ?_ _)|(with_reducible refine Frz.drew ?_)|(with_reducible refine Frz.alloc ?_ _ _)|(with_reducible refine Frz.setCell ?_ _ _)|(with_reducible refine Frz.then_ ?_ (by assumption))))⟩
set_option maxHeartbeats 1000000 in
theorem eqArc (x:Ac)   (w:World)   :
 Calls Tryz.prog 104 #[.agg #[.int .i64 x.from_,.int .i64 x.sig,.bool x.up,.int .i64 x.to_],.agg #[.int .i64 x.from_,.int .i64 x.sig,.bool x.up,.int .i64 x.to_]] w fun e w'=>e=.returned (.bool true)∧Below w.heap.size w w':=by
 go_enter Tryz.func104,Tryz.ntmps104
 go_wp2
 go_ret
 exact ⟨rfl,by (repeat' (first|(with_reducible exact Below.refl _ _)|(with_reducible assumption)|(with_reducible refine Zbf ?_ _)|(with_reducible refine Below.drew ?_)|(with_reducible refine Below.alloc ?_ ?_ _)|(with_reducible refine Below.setCell ?_ ?_ _)|(with_reducible refine Below.then_ ?_ (by assumption) ?_)|go_size))⟩
set_option maxHeartbeats 400000 in
theorem szArcS (A:Option Addr) (n c:Nat) (left:Int) (w:World) (hn:n≤9223372036854775807) (h0:0≤left) (h1:left≤1048576):
 Calls Tryz.prog 56 #[.slice A n c,.int .i64 left] w fun e w'=>e=.returned (.int .i64 (ZlK n left))∧w'=w:=by
 by_cases h:left<n
 ·go_enter Tryz.func56,Tryz.ntmps56
  go_wp2
  go_ret
  exact ⟨ZyY (by unfold ZlK;rw[if_pos (by omega)]),rfl⟩
 ·go_enter Tryz.func56,Tryz.ntmps56
  go_wp2
  go_ret
  exact ⟨ZyY (by unfold ZlK;rw[if_neg (by omega)]),rfl⟩
set_option maxHeartbeats 1000000 in
theorem toArcS (A:Option Addr) (c:Nat) (l:(List Ac)) (w:World) (hs:l.length≤1048576) (hr:RA Zv6 w A l):
 Calls Tryz.prog 60 #[.slice A l.length c] w fun e w'=>∃A',e=.returned (.slice A' l.length l.length)∧RSl Zv6 w' (Zy9 w w') A' l∧Below w.heap.size w w'∧Frz w w':=by
 have hl:=hs
 obtain ⟨cells,hcs,hmk⟩:=ZzV (P:=Tryz.prog) (t:=36) (e:=145) (size:=4) (bytes:=32) Tryz.underlying36 (by kernel_rfl) l.length (by omega) (by decide)
 have HC:=Zbs hcs;clear hcs
 have HM:=Zbs hmk;clear hmk
 go_enter Tryz.func60,Tryz.ntmps60
 have hmk:=HM.out w
 go_wp2
 clear hmk
 go_loopw [4] (fun i wr=>∃k:Nat,k≤l.length∧i=.int .i64 k∧Hid (Za0 Zv6 wr (ZCB w.heap.size wr) w.heap.size 145 l.length k l)∧Below w.heap.size w wr∧Frz w wr) (fun i _=>l.length - (intOf i).toNat)
 case atStart=>exact ⟨0,Nat.zero_le _,rfl,Za0.start HC.out,by (repeat' (first|(with_reducible exact Below.refl _ _)|(with_reducible assumption)|(with_reducible refine Zbf ?_ _)|(with_reducible refine Below.drew ?_)|(with_reducible refine Below.alloc ?_ ?_ _)|(with_reducible refine Below.setCell ?_ ?_ _)|(with_reducible refine Below.then_ ?_ (by assumption) ?_)|go_size)),by (repeat' (first|(with_reducible exact Frz.refl _)|(with_reducible assumption)|(with_reducible refine Frz.drewN ?_ _)|(with_reducible refine Frz.drew ?_)|(with_reducible refine Frz.alloc ?_ _ _)|(with_reducible refine Frz.setCell ?_ _ _)|(with_reducible refine Frz.then_ ?_ (by assumption))))⟩
 case round=>
  obtain ⟨k,hk,rfl,hf,hb,hfz⟩:=hrel
  have hsz:=hb.size
  by_cases hlt:k<l.length
  ·obtain ⟨x,hx⟩:=Zc0 hlt
   obtain ⟨b,off,rfl,hbl,d0,d1,d2,d3,f0,f1,f2⟩:=hr.Ac_at hb hx
   have HX:=Zbs hx;clear hx
   have hgl:=hf.out.lt
   go_wp2_with fail
   refine (toArc x  wr  ).mono ?_
   rintro e w1 ⟨rfl,hb1,fz1⟩
   have hf1:=hf.out.to hb1
   obtain ⟨⟨v0,p0⟩,z0⟩:=hf1.room hlt 0 (by decide)
   obtain ⟨⟨v1,p1⟩,z1⟩:=hf1.room hlt 1 (by decide)
   obtain ⟨⟨v2,p2⟩,z2⟩:=hf1.room hlt 2 (by decide)
   obtain ⟨⟨v3,p3⟩,z3⟩:=hf1.room hlt 3 (by decide)
   have HF:=Zbs hf1;clear hf1
   simp only[Zkd,Nat.add_zero] at p0 z0 p1 z1 p2 z2 p3 z3
   have hb2:=hb.trans (hb1.mono hsz)
   have hsz1:=hb1.size
   go_wp2_with fail
   go_roundw
   case rel=>exact ⟨k+1,by omega,by go_num,Zbs (HF.out.step [.int .i64 x.from_,.int .i64 x.sig,.bool x.up,.int .i64 x.to_] HX.out (ZDt f0 f1 f2) (by simp[Zdi,Zkd])),by (repeat' (first|(with_reducible exact Below.refl _ _)|(with_reducible assumption)|(with_reducible refine Zbf ?_ _)|(with_reducible refine Below.drew ?_)|(with_reducible refine Below.alloc ?_ ?_ _)|(with_reducible refine Below.setCell ?_ ?_ _)|(with_reducible refine Below.then_ ?_ (by assumption) ?_)|go_size)),by (repeat' (first|(with_reducible exact Frz.refl _)|(with_reducible assumption)|(with_reducible refine Frz.drewN ?_ _)|(with_reducible refine Frz.drew ?_)|(with_reducible refine Frz.alloc ?_ _ _)|(with_reducible refine Frz.setCell ?_ _ _)|(with_reducible refine Frz.then_ ?_ (by assumption))))⟩
   case measure=>simp[intOf];omega
  ·have:k=l.length:=by omega
   subst this
   go_wp2
   go_ret
   exact ⟨_,rfl,hf.out.finish,by (repeat' (first|(with_reducible exact Below.refl _ _)|(with_reducible assumption)|(with_reducible refine Zbf ?_ _)|(with_reducible refine Below.drew ?_)|(with_reducible refine Below.alloc ?_ ?_ _)|(with_reducible refine Below.setCell ?_ ?_ _)|(with_reducible refine Below.then_ ?_ (by assumption) ?_)|go_size)),by (repeat' (first|(with_reducible exact Frz.refl _)|(with_reducible assumption)|(with_reducible refine Frz.drewN ?_ _)|(with_reducible refine Frz.drew ?_)|(with_reducible refine Frz.alloc ?_ _ _)|(with_reducible refine Frz.setCell ?_ _ _)|(with_reducible refine Frz.then_ ?_ (by assumption))))⟩
set_option maxHeartbeats 1000000 in
theorem eqArcS (A A':Option Addr) (c c':Nat) (l:(List Ac)) (w:World) (hl:l.length≤9223372036854775807) (hr:RA Zv6 w A l) (hr':RA Zv6 w A' l):
 Calls Tryz.prog 66 #[.slice A l.length c,.slice A' l.length c'] w fun e w'=>e=.returned (.bool true)∧Below w.heap.size w w':=by
 go_enter Tryz.func66,Tryz.ntmps66
 go_wp2
 go_loopw [5] (fun i wr=>∃k:Nat,k≤l.length∧i=.int .i64 k∧Below w.heap.size w wr) (fun i _=>l.length - (intOf i).toNat)
 case atStart=>exact ⟨0,Nat.zero_le _,rfl,Below.refl _ _⟩
 case round=>
  obtain ⟨k,hk,rfl,hb⟩:=hrel
  have hsz:=hb.size
  by_cases hlt:k<l.length
  ·obtain ⟨x,hx⟩:=Zc0 hlt
   obtain ⟨b,off,rfl,hbl,d0,d1,d2,d3,f0,f1,f2⟩:=hr.Ac_at hb hx
   obtain ⟨b',off',rfl,hbl',d0',d1',d2',d3',f0',f1',f2'⟩:=hr'.Ac_at hb hx
   have HX:=Zbs hx;clear hx
   go_wp2_with fail
   go_region_held3 (fun W=>W.cell? ⟨b,off+k * 4,none⟩=some (.int .i64 x.from_)∧W.cell? ⟨b,off+k * 4+1,none⟩=some (.int .i64 x.sig)∧W.cell? ⟨b,off+k * 4+2,none⟩=some (.bool x.up)∧W.cell? ⟨b,off+k * 4+3,none⟩=some (.int .i64 x.to_)∧W.cell? ⟨b',off'+k * 4,none⟩=some (.int .i64 x.from_)∧W.cell? ⟨b',off'+k * 4+1,none⟩=some (.int .i64 x.sig)∧W.cell? ⟨b',off'+k * 4+2,none⟩=some (.bool x.up)∧W.cell? ⟨b',off'+k * 4+3,none⟩=some (.int .i64 x.to_)) (first|exact ⟨d0,d1,d2,d3,d0',d1',d2',d3'⟩|exact ⟨(cell_later hb1 d0),(cell_later hb1 d1),(cell_later hb1 d2),(cell_later hb1 d3),(cell_later hb1 d0'),(cell_later hb1 d1'),(cell_later hb1 d2'),(cell_later hb1 d3')⟩) (first|(go_at_call 104;refine (eqArc x   _  ).mono ?_;rintro e w1 ⟨rfl,hb1⟩))
   have hb2:=hb.drew.trans (hb1.mono hsz)
   go_wp2_with fail
   go_roundw
   case rel=>exact ⟨k+1,by omega,by go_num,by (repeat' (first|(with_reducible exact Below.refl _ _)|(with_reducible assumption)|(with_reducible refine Zbf ?_ _)|(with_reducible refine Below.drew ?_)|(with_reducible refine Below.alloc ?_ ?_ _)|(with_reducible refine Below.setCell ?_ ?_ _)|(with_reducible refine Below.then_ ?_ (by assumption) ?_)|go_size))⟩
   case measure=>simp[intOf];omega
  ·go_wp2
   go_ret
   exact ⟨rfl,by (repeat' (first|(with_reducible exact Below.refl _ _)|(with_reducible assumption)|(with_reducible refine Zbf ?_ _)|(with_reducible refine Below.drew ?_)|(with_reducible refine Below.alloc ?_ ?_ _)|(with_reducible refine Below.setCell ?_ ?_ _)|(with_reducible refine Below.then_ ?_ (by assumption) ?_)|go_size))⟩
set_option maxHeartbeats 1000000 in
theorem szStringS (A:Option Addr) (c:Nat) (l:(List (List UInt8))) (left:Int) (w:World) (hn:l.length≤9223372036854775807) (hr:RA ZdO w A l) (h0:0≤left) (h1:left≤1048576):
 Calls Tryz.prog 55 #[.slice A l.length c,.int .i64 left] w fun e w'=>e=.returned (.int .i64 (ZlK (wtL ZzN l) left))∧Below w.heap.size w w':=by
 by_cases h:left<l.length
 ·have hs:ZlK (wtL ZzN l) left= -1:=by unfold ZlK wtL;rw[if_pos (by omega)]
  have HS:=Zbs hs;clear hs
  go_enter Tryz.func55,Tryz.ntmps55
  go_wp2
  go_ret
  exact ⟨ZyY HS.out.symm,by (repeat' (first|(with_reducible exact Below.refl _ _)|(with_reducible assumption)|(with_reducible refine Zbf ?_ _)|(with_reducible refine Below.drew ?_)|(with_reducible refine Below.alloc ?_ ?_ _)|(with_reducible refine Below.setCell ?_ ?_ _)|(with_reducible refine Below.then_ ?_ (by assumption) ?_)|go_size))⟩
 ·obtain ⟨R,hR⟩:∃R,ZlK (wtL ZzN l) left=R:=⟨_,rfl⟩
  have HR:=Zbs hR
  have HL:Hid (ZlK ((l.drop 0).map ZzN).sum (left - l.length)=R):=by show _=_;rw[←hR,wtL,ZBH h];rfl
  clear hR
  go_enter Tryz.func55,Tryz.ntmps55
  go_wp2
  go_loopw [5,1] (fun i L wr=>∃(k:Nat) (m:Int),k≤l.length∧i=.int .i64 k∧L=.int .i64 m∧0≤m∧m≤1048576∧Hid (ZlK ((l.drop k).map ZzN).sum m=R)∧Below w.heap.size w wr) (fun i _ _=>l.length - (intOf i).toNat)
  case atStart=>exact ⟨0,_,Nat.zero_le _,rfl,rfl,by omega,by omega,HL,by (repeat' (first|(with_reducible exact Below.refl _ _)|(with_reducible assumption)|(with_reducible refine Zbf ?_ _)|(with_reducible refine Below.drew ?_)|(with_reducible refine Below.alloc ?_ ?_ _)|(with_reducible refine Below.setCell ?_ ?_ _)|(with_reducible refine Below.then_ ?_ (by assumption) ?_)|go_size))⟩
  case round=>
   obtain ⟨k,m,hk,rfl,rfl,hm0,hm1,hgo,hb⟩:=hrel
   have hsz:=hb.size
   by_cases hlt:k<l.length
   ·obtain ⟨x,hx⟩:=Zc0 hlt
    obtain ⟨b,off,rfl,hbl,h2,f0⟩:=hr.str_at hb hx
    have Hd:=Zbs (ZzU hx)
    clear hx
    have hg1:=hgo.out
    rw[Hd.out,List.map_cons,List.sum_cons] at hg1
    by_cases hq:m<(x.length:Int)
    ·have HQ:=Zbs (ZBy (b:=((l.drop (k+1)).map ZzN).sum) hq)
     have HG:=Zbs hg1;clear hg1
     go_wp2
     go_ret
     exact ⟨ZyY (by rw[HR.out,←HG.out,←HQ.out];rfl),by (repeat' (first|(with_reducible exact Below.refl _ _)|(with_reducible assumption)|(with_reducible refine Zbf ?_ _)|(with_reducible refine Below.drew ?_)|(with_reducible refine Below.alloc ?_ ?_ _)|(with_reducible refine Below.setCell ?_ ?_ _)|(with_reducible refine Below.then_ ?_ (by assumption) ?_)|go_size))⟩
    ·have HG:Hid (ZlK ((l.drop (k+1)).map ZzN).sum (m - x.length)=R):=by show _=_;rw[←hg1];exact (ZBH hq).symm
     clear hg1
     go_wp2_with fail
     go_roundw
     case rel=>exact ⟨k+1,_,by omega,by go_num,rfl,by omega,by omega,HG,by (repeat' (first|(with_reducible exact Below.refl _ _)|(with_reducible assumption)|(with_reducible refine Zbf ?_ _)|(with_reducible refine Below.drew ?_)|(with_reducible refine Below.alloc ?_ ?_ _)|(with_reducible refine Below.setCell ?_ ?_ _)|(with_reducible refine Below.then_ ?_ (by assumption) ?_)|go_size))⟩
     case measure=>simp[intOf];omega
   ·have hg1:=hgo.out
    rw[ZCA hlt] at hg1
    have HG:=Zbs hg1;clear hg1
    go_wp2
    go_ret
    exact ⟨ZyY (by rw[HR.out,←HG.out];unfold ZlK;simp;omega),by (repeat' (first|(with_reducible exact Below.refl _ _)|(with_reducible assumption)|(with_reducible refine Zbf ?_ _)|(with_reducible refine Below.drew ?_)|(with_reducible refine Below.alloc ?_ ?_ _)|(with_reducible refine Below.setCell ?_ ?_ _)|(with_reducible refine Below.then_ ?_ (by assumption) ?_)|go_size))⟩
set_option maxHeartbeats 1000000 in
theorem toStringS (A:Option Addr) (c:Nat) (l:(List (List UInt8))) (w:World) (hs:wtL ZzN l≤1048576) (hr:RA ZdO w A l):
 Calls Tryz.prog 59 #[.slice A l.length c] w fun e w'=>∃A',e=.returned (.slice A' l.length l.length)∧RSl ZdO w' (Zy9 w w') A' l∧Below w.heap.size w w'∧Frz w w':=by
 have hl:l.length≤1048576:=by unfold wtL at hs;omega
 obtain ⟨cells,hcs,hmk⟩:=ZzV (P:=Tryz.prog) (t:=23) (e:=9) (size:=1) (bytes:=16) Tryz.underlying23 (by kernel_rfl) l.length (by omega) (by decide)
 have HC:=Zbs hcs;clear hcs
 have HM:=Zbs hmk;clear hmk
 go_enter Tryz.func59,Tryz.ntmps59
 have hmk:=HM.out w
 go_wp2
 clear hmk
 go_loopw [4] (fun i wr=>∃k:Nat,k≤l.length∧i=.int .i64 k∧Hid (Za0 ZdO wr (ZCB w.heap.size wr) w.heap.size 9 l.length k l)∧Below w.heap.size w wr∧Frz w wr) (fun i _=>l.length - (intOf i).toNat)
 case atStart=>exact ⟨0,Nat.zero_le _,rfl,Za0.start HC.out,by (repeat' (first|(with_reducible exact Below.refl _ _)|(with_reducible assumption)|(with_reducible refine Zbf ?_ _)|(with_reducible refine Below.drew ?_)|(with_reducible refine Below.alloc ?_ ?_ _)|(with_reducible refine Below.setCell ?_ ?_ _)|(with_reducible refine Below.then_ ?_ (by assumption) ?_)|go_size)),by (repeat' (first|(with_reducible exact Frz.refl _)|(with_reducible assumption)|(with_reducible refine Frz.drewN ?_ _)|(with_reducible refine Frz.drew ?_)|(with_reducible refine Frz.alloc ?_ _ _)|(with_reducible refine Frz.setCell ?_ _ _)|(with_reducible refine Frz.then_ ?_ (by assumption))))⟩
 case round=>
  obtain ⟨k,hk,rfl,hf,hb,hfz⟩:=hrel
  have hsz:=hb.size
  by_cases hlt:k<l.length
  ·obtain ⟨x,hx⟩:=Zc0 hlt
   obtain ⟨b,off,rfl,hbl,d0,f0⟩:=hr.str_at hb hx
   have HX:=Zbs hx;clear hx
   obtain ⟨⟨v0,r0⟩,z0⟩:=hf.out.room hlt 0 (by decide)
   have hgl:=hf.out.lt
   simp only[ZdO,Nat.add_zero,Nat.mul_one] at r0 z0
   go_wp2_with fail
   go_roundw
   case rel=>exact ⟨k+1,by omega,by go_num,Zbs (hf.out.step [.string ⟨x.toArray⟩] HX.out ⟨rfl,f0⟩ (by simp[Zdi,ZdO])),by (repeat' (first|(with_reducible exact Below.refl _ _)|(with_reducible assumption)|(with_reducible refine Zbf ?_ _)|(with_reducible refine Below.drew ?_)|(with_reducible refine Below.alloc ?_ ?_ _)|(with_reducible refine Below.setCell ?_ ?_ _)|(with_reducible refine Below.then_ ?_ (by assumption) ?_)|go_size)),by (repeat' (first|(with_reducible exact Frz.refl _)|(with_reducible assumption)|(with_reducible refine Frz.drewN ?_ _)|(with_reducible refine Frz.drew ?_)|(with_reducible refine Frz.alloc ?_ _ _)|(with_reducible refine Frz.setCell ?_ _ _)|(with_reducible refine Frz.then_ ?_ (by assumption))))⟩
   case measure=>simp[intOf];omega
  ·have:k=l.length:=by omega
   subst this
   go_wp2
   go_ret
   exact ⟨_,rfl,hf.out.finish,by (repeat' (first|(with_reducible exact Below.refl _ _)|(with_reducible assumption)|(with_reducible refine Zbf ?_ _)|(with_reducible refine Below.drew ?_)|(with_reducible refine Below.alloc ?_ ?_ _)|(with_reducible refine Below.setCell ?_ ?_ _)|(with_reducible refine Below.then_ ?_ (by assumption) ?_)|go_size)),by (repeat' (first|(with_reducible exact Frz.refl _)|(with_reducible assumption)|(with_reducible refine Frz.drewN ?_ _)|(with_reducible refine Frz.drew ?_)|(with_reducible refine Frz.alloc ?_ _ _)|(with_reducible refine Frz.setCell ?_ _ _)|(with_reducible refine Frz.then_ ?_ (by assumption))))⟩
set_option maxHeartbeats 1000000 in
theorem eqStringS (A A':Option Addr) (c c':Nat) (l:(List (List UInt8))) (w:World) (hl:l.length≤9223372036854775807) (hr:RA ZdO w A l) (hr':RA ZdO w A' l):
 Calls Tryz.prog 65 #[.slice A l.length c,.slice A' l.length c'] w fun e w'=>e=.returned (.bool true)∧Below w.heap.size w w':=by
 go_enter Tryz.func65,Tryz.ntmps65
 go_wp2
 go_loopw [5] (fun i wr=>∃k:Nat,k≤l.length∧i=.int .i64 k∧Below w.heap.size w wr) (fun i _=>l.length - (intOf i).toNat)
 case atStart=>exact ⟨0,Nat.zero_le _,rfl,Below.refl _ _⟩
 case round=>
  obtain ⟨k,hk,rfl,hb⟩:=hrel
  have hsz:=hb.size
  by_cases hlt:k<l.length
  ·obtain ⟨x,hx⟩:=Zc0 hlt
   obtain ⟨b,off,rfl,hbl,d0,f0⟩:=hr.str_at hb hx
   obtain ⟨b',off',rfl,hbl',d0',f0'⟩:=hr'.str_at hb hx
   have HX:=Zbs hx;clear hx
   go_wp2_with fail
   go_quiet (fail)
   go_wp2_with fail
   go_roundw
   case rel=>exact ⟨k+1,by omega,by go_num,by (repeat' (first|(with_reducible exact Below.refl _ _)|(with_reducible assumption)|(with_reducible refine Zbf ?_ _)|(with_reducible refine Below.drew ?_)|(with_reducible refine Below.alloc ?_ ?_ _)|(with_reducible refine Below.setCell ?_ ?_ _)|(with_reducible refine Below.then_ ?_ (by assumption) ?_)|go_size))⟩
   case measure=>simp[intOf];omega
  ·go_wp2
   go_ret
   exact ⟨rfl,by (repeat' (first|(with_reducible exact Below.refl _ _)|(with_reducible assumption)|(with_reducible refine Zbf ?_ _)|(with_reducible refine Below.drew ?_)|(with_reducible refine Below.alloc ?_ ?_ _)|(with_reducible refine Below.setCell ?_ ?_ _)|(with_reducible refine Below.then_ ?_ (by assumption) ?_)|go_size))⟩
def wtSGr (x:SGr):Nat:=(wtL wtSig x.signals)+(wtL ZzN x.codes)+(x.arcs).length
set_option maxHeartbeats 1000000 in
theorem szStateGraph (x:SGr) (A_signals:Option Addr) (c_signals:Nat) (A_codes:Option Addr) (c_codes:Nat) (A_arcs:Option Addr) (c_arcs:Nat) (left:Int) (w:World) (g0:(x.signals).length≤c_signals) (g1:c_signals≤9223372036854775807) (g2:RA ZjN w A_signals x.signals) (g3:(x.codes).length≤c_codes) (g4:c_codes≤9223372036854775807) (g5:RA ZdO w A_codes x.codes) (g6:(x.arcs).length≤c_arcs) (g7:c_arcs≤9223372036854775807) (g8:RA Zv6 w A_arcs x.arcs) (h0:0≤left) (h1:left≤1048576):
 Calls Tryz.prog 12 #[.agg #[.slice A_signals (x.signals).length c_signals,.slice A_codes (x.codes).length c_codes,.slice A_arcs (x.arcs).length c_arcs],.int .i64 left] w fun e w'=>e=.returned (.int .i64 (ZlK (wtSGr x) left))∧Below w.heap.size w w':=by
 show Calls _ _ _ _ fun e w'=>e=.returned (.int .i64 (ZlK ((wtL wtSig x.signals)+(wtL ZzN x.codes)+(x.arcs).length) left))∧_
 go_enter Tryz.func12,Tryz.ntmps12
 go_wp2_with fail
 refine (szSignalS A_signals c_signals x.signals (left) _ (by omega) (RA.to g2 ?hb) (by omega) (by omega)).mono ?_
 case hb=>(repeat' (first|(with_reducible exact Below.refl _ _)|(with_reducible assumption)|(with_reducible refine Zbf ?_ _)|(with_reducible refine Below.drew ?_)|(with_reducible refine Below.alloc ?_ ?_ _)|(with_reducible refine Below.setCell ?_ ?_ _)|(with_reducible refine Below.then_ ?_ (by assumption) ?_)|go_size))
 rintro e w1 ⟨rfl,hb1⟩
 obtain ⟨hc1,hf1⟩:=Zy4 hb1
 have hz1:=hb1.size
 repeat (first|rw[World.size_alloc] at hz1|rw[World.size_setCell] at hz1)
 have l1_0:w.heap.size<w1.heap.size:=by omega
 by_cases q1:left<((wtL wtSig x.signals):Nat)
 ·rw[Zza q1]
  go_wp2
  go_ret
  exact ⟨ZyY (by unfold ZlK;rw[if_pos (by omega)]),by (repeat' (first|(with_reducible exact Below.refl _ _)|(with_reducible assumption)|(with_reducible refine Zbf ?_ _)|(with_reducible refine Below.drew ?_)|(with_reducible refine Below.alloc ?_ ?_ _)|(with_reducible refine Below.setCell ?_ ?_ _)|(with_reducible refine Below.then_ ?_ (by assumption) ?_)|go_size))⟩
 ·rw [Zzc q1]
  go_wp2_with fail
  refine (szStringS A_codes c_codes x.codes (left - ((wtL wtSig x.signals):Nat)) _ (by omega) (RA.to g5 ?hb) (by omega) (by omega)).mono ?_
  case hb=>(repeat' (first|(with_reducible exact Below.refl _ _)|(with_reducible assumption)|(with_reducible refine Zbf ?_ _)|(with_reducible refine Below.drew ?_)|(with_reducible refine Below.alloc ?_ ?_ _)|(with_reducible refine Below.setCell ?_ ?_ _)|(with_reducible refine Below.then_ ?_ (by assumption) ?_)|go_size))
  rintro e w2 ⟨rfl,hb2⟩
  obtain ⟨hc2,hf2⟩:=Zy4 hb2
  have hz2:=hb2.size
  repeat (first|rw[World.size_alloc] at hz2|rw[World.size_setCell] at hz2)
  have l2_0:w.heap.size<w2.heap.size:=by omega
  by_cases q2:left - ((wtL wtSig x.signals):Nat)<((wtL ZzN x.codes):Nat)
  ·rw[Zza q2]
   go_wp2
   go_ret
   exact ⟨ZyY (by unfold ZlK;rw[if_pos (by omega)]),by (repeat' (first|(with_reducible exact Below.refl _ _)|(with_reducible assumption)|(with_reducible refine Zbf ?_ _)|(with_reducible refine Below.drew ?_)|(with_reducible refine Below.alloc ?_ ?_ _)|(with_reducible refine Below.setCell ?_ ?_ _)|(with_reducible refine Below.then_ ?_ (by assumption) ?_)|go_size))⟩
  ·rw[Zzc q2]
   go_wp2_with fail
   refine (szArcS A_arcs (x.arcs).length c_arcs (left - ((wtL wtSig x.signals):Nat) - ((wtL ZzN x.codes):Nat)) _ (by omega) (by omega) (by omega)).mono ?_
   rintro e w3 ⟨rfl,rfl⟩
   by_cases q3:left - ((wtL wtSig x.signals):Nat) - ((wtL ZzN x.codes):Nat)<((x.arcs).length:Nat)
   ·rw[Zza q3]
    go_wp2
    go_ret
    exact ⟨ZyY (by unfold ZlK;rw[if_pos (by omega)]),by (repeat' (first|(with_reducible exact Below.refl _ _)|(with_reducible assumption)|(with_reducible refine Zbf ?_ _)|(with_reducible refine Below.drew ?_)|(with_reducible refine Below.alloc ?_ ?_ _)|(with_reducible refine Below.setCell ?_ ?_ _)|(with_reducible refine Below.then_ ?_ (by assumption) ?_)|go_size))⟩
   ·rw[Zzc q3]
    go_wp2
    go_ret
    exact ⟨ZyY (by (unfold ZlK;rw[if_neg (by omega)])<;>omega),by (repeat' (first|(with_reducible exact Below.refl _ _)|(with_reducible assumption)|(with_reducible refine Zbf ?_ _)|(with_reducible refine Below.drew ?_)|(with_reducible refine Below.alloc ?_ ?_ _)|(with_reducible refine Below.setCell ?_ ?_ _)|(with_reducible refine Below.then_ ?_ (by assumption) ?_)|go_size))⟩
set_option maxHeartbeats 1000000 in
theorem toStateGraph (x:SGr) (A_signals:Option Addr) (c_signals:Nat) (A_codes:Option Addr) (c_codes:Nat) (A_arcs:Option Addr) (c_arcs:Nat) (w:World) (g0:(x.signals).length≤c_signals) (g1:c_signals≤9223372036854775807) (g2:RA ZjN w A_signals x.signals) (g3:(x.codes).length≤c_codes) (g4:c_codes≤9223372036854775807) (g5:RA ZdO w A_codes x.codes) (g6:(x.arcs).length≤c_arcs) (g7:c_arcs≤9223372036854775807) (g8:RA Zv6 w A_arcs x.arcs) (hs:wtSGr x≤1048576):
 Calls Tryz.prog 15 #[.agg #[.slice A_signals (x.signals).length c_signals,.slice A_codes (x.codes).length c_codes,.slice A_arcs (x.arcs).length c_arcs]] w fun e w'=>∃A_signals' A_codes' A_arcs',e=.returned (.agg #[.slice A_signals' (x.signals).length (x.signals).length,.slice A_codes' (x.codes).length (x.codes).length,.slice A_arcs' (x.arcs).length (x.arcs).length])∧RSl ZjN w' (Zy9 w w') A_signals' x.signals∧RSl ZdO w' (Zy9 w w') A_codes' x.codes∧RSl Zv6 w' (Zy9 w w') A_arcs' x.arcs∧Below w.heap.size w w'∧Frz w w':=by
 unfold wtSGr at hs
 go_enter Tryz.func15,Tryz.ntmps15
 go_wp2_with fail
 refine (toSignalS A_signals c_signals x.signals _ (by omega) (RA.to g2 ?hb)).mono ?_
 case hb=>(repeat' (first|(with_reducible exact Below.refl _ _)|(with_reducible assumption)|(with_reducible refine Zbf ?_ _)|(with_reducible refine Below.drew ?_)|(with_reducible refine Below.alloc ?_ ?_ _)|(with_reducible refine Below.setCell ?_ ?_ _)|(with_reducible refine Below.then_ ?_ (by assumption) ?_)|go_size))
 rintro e w1 ⟨A_signals',rfl,r1,hb1,fz1⟩
 obtain ⟨hc1,hf1⟩:=Zy4 hb1
 have hz1:=hb1.size
 repeat (first|rw[World.size_alloc] at hz1|rw[World.size_setCell] at hz1)
 have l1_0:w.heap.size<w1.heap.size:=by omega
 have l1_1:w.heap.size+1<w1.heap.size:=by omega
 have l1_2:w.heap.size+1+1<w1.heap.size:=by omega
 go_wp2_with fail
 refine (toStringS A_codes c_codes x.codes _ (by omega) (RA.to g5 ?hb)).mono ?_
 case hb=>(repeat' (first|(with_reducible exact Below.refl _ _)|(with_reducible assumption)|(with_reducible refine Zbf ?_ _)|(with_reducible refine Below.drew ?_)|(with_reducible refine Below.alloc ?_ ?_ _)|(with_reducible refine Below.setCell ?_ ?_ _)|(with_reducible refine Below.then_ ?_ (by assumption) ?_)|go_size))
 rintro e w2 ⟨A_codes',rfl,r2,hb2,fz2⟩
 obtain ⟨hc2,hf2⟩:=Zy4 hb2
 have hz2:=hb2.size
 repeat (first|rw[World.size_alloc] at hz2|rw[World.size_setCell] at hz2)
 have l2_0:w.heap.size<w2.heap.size:=by omega
 have l2_1:w.heap.size+1<w2.heap.size:=by omega
 have l2_2:w.heap.size+1+1<w2.heap.size:=by omega
 go_wp2_with fail
 refine (toArcS A_arcs c_arcs x.arcs _ (by omega) (RA.to g8 ?hb)).mono ?_
 case hb=>(repeat' (first|(with_reducible exact Below.refl _ _)|(with_reducible assumption)|(with_reducible refine Zbf ?_ _)|(with_reducible refine Below.drew ?_)|(with_reducible refine Below.alloc ?_ ?_ _)|(with_reducible refine Below.setCell ?_ ?_ _)|(with_reducible refine Below.then_ ?_ (by assumption) ?_)|go_size))
 rintro e w3 ⟨A_arcs',rfl,r3,hb3,fz3⟩
 obtain ⟨hc3,hf3⟩:=Zy4 hb3
 have hz3:=hb3.size
 repeat (first|rw[World.size_alloc] at hz3|rw[World.size_setCell] at hz3)
 have l3_0:w.heap.size<w3.heap.size:=by omega
 have l3_1:w.heap.size+1<w3.heap.size:=by omega
 have l3_2:w.heap.size+1+1<w3.heap.size:=by omega
 go_wp2
 refine bodyPost_ret (v:=.agg #[.slice A_signals' (x.signals).length (x.signals).length,.slice A_codes' (x.codes).length (x.codes).length,.slice A_arcs' (x.arcs).length (x.arcs).length]) ?_ rfl ?_
 ·simp[results,Tryz.results15,go_sem, *]
 exact ⟨_,_,_,rfl,(r1).keep (by (refine Agree.out ?_;repeat' (first|(with_reducible exact Agree.refl _ _)|(with_reducible refine Agree.drew ?_)|(with_reducible refine Agree.drewN ?_ _)|(with_reducible refine Agree.setCell ?_ ?_ _)|(with_reducible refine Agree.alloc ?_ ?_ _)|(with_reducible refine Agree.then_ ?_ (by assumption) ?_)|(intro b hb;obtain ⟨hb1,hb2⟩:=hb;(first|omega|((try simp at hb1);(try simp at hb2);(try simp);omega)))))) (by (intro b hb;obtain ⟨hb1,hb2⟩:=hb;exact ⟨by (first|omega|((try simp at hb1);(try simp at hb2);(try simp);omega)),by (first|omega|((try simp at hb1);(try simp at hb2);(try simp);omega))⟩)),(r2).keep (by (refine Agree.out ?_;repeat' (first|(with_reducible exact Agree.refl _ _)|(with_reducible refine Agree.drew ?_)|(with_reducible refine Agree.drewN ?_ _)|(with_reducible refine Agree.setCell ?_ ?_ _)|(with_reducible refine Agree.alloc ?_ ?_ _)|(with_reducible refine Agree.then_ ?_ (by assumption) ?_)|(intro b hb;obtain ⟨hb1,hb2⟩:=hb;(first|omega|((try simp at hb1);(try simp at hb2);(try simp);omega)))))) (by (intro b hb;obtain ⟨hb1,hb2⟩:=hb;exact ⟨by (first|omega|((try simp at hb1);(try simp at hb2);(try simp);omega)),by (first|omega|((try simp at hb1);(try simp at hb2);(try simp);omega))⟩)),(r3).keep (by (refine Agree.out ?_;repeat' (first|(with_reducible exact Agree.refl _ _)|(with_reducible refine Agree.drew ?_)|(with_reducible refine Agree.drewN ?_ _)|(with_reducible refine Agree.setCell ?_ ?_ _)|(with_reducible refine Agree.alloc ?_ ?_ _)|(with_reducible refine Agree.then_ ?_ (by assumption) ?_)|(intro b hb;obtain ⟨hb1,hb2⟩:=hb;(first|omega|((try simp at hb1);(try simp at hb2);(try simp);omega)))))) (by (intro b hb;obtain ⟨hb1,hb2⟩:=hb;exact ⟨by (first|omega|((try simp at hb1);(try simp at hb2);(try simp);omega)),by (first|omega|((try simp at hb1);(try simp at hb2);(try simp);omega))⟩)),by (repeat' (first|(with_reducible exact Below.refl _ _)|(with_reducible assumption)|(with_reducible refine Zbf ?_ _)|(with_reducible refine Below.drew ?_)|(with_reducible refine Below.alloc ?_ ?_ _)|(with_reducible refine Below.setCell ?_ ?_ _)|(with_reducible refine Below.then_ ?_ (by assumption) ?_)|go_size)),by (repeat' (first|(with_reducible exact Frz.refl _)|(with_reducible assumption)|(with_reducible refine Frz.drewN ?_ _)|(with_reducible refine Frz.drew ?_)|(with_reducible refine Frz.alloc ?_ _ _)|(with_reducible refine Frz.setCell ?_ _ _)|(with_reducible refine Frz.then_ ?_ (by assumption))))⟩
set_option maxHeartbeats 1000000 in
theorem eqStateGraph (x:SGr) (A_signals:Option Addr) (c_signals:Nat) (A_codes:Option Addr) (c_codes:Nat) (A_arcs:Option Addr) (c_arcs:Nat) (A_signals':Option Addr) (c_signals':Nat) (A_codes':Option Addr) (c_codes':Nat) (A_arcs':Option Addr) (c_arcs':Nat) (w:World) (g0:(x.signals).length≤c_signals) (g1:c_signals≤9223372036854775807) (g2:RA ZjN w A_signals x.signals) (g3:(x.codes).length≤c_codes) (g4:c_codes≤9223372036854775807) (g5:RA ZdO w A_codes x.codes) (g6:(x.arcs).length≤c_arcs) (g7:c_arcs≤9223372036854775807) (g8:RA Zv6 w A_arcs x.arcs) (g0':(x.signals).length≤c_signals') (g1':c_signals'≤9223372036854775807) (g2':RA ZjN w A_signals' x.signals) (g3':(x.codes).length≤c_codes') (g4':c_codes'≤9223372036854775807) (g5':RA ZdO w A_codes' x.codes) (g6':(x.arcs).length≤c_arcs') (g7':c_arcs'≤9223372036854775807) (g8':RA Zv6 w A_arcs' x.arcs):
 Calls Tryz.prog 19 #[.agg #[.slice A_signals (x.signals).length c_signals,.slice A_codes (x.codes).length c_codes,.slice A_arcs (x.arcs).length c_arcs],.agg #[.slice A_signals' (x.signals).length c_signals',.slice A_codes' (x.codes).length c_codes',.slice A_arcs' (x.arcs).length c_arcs']] w fun e w'=>e=.returned (.bool true)∧Below w.heap.size w w':=by
 go_enter Tryz.func19,Tryz.ntmps19
 go_wp2_with fail
 refine (eqSignalS A_signals A_signals' c_signals c_signals' x.signals _ (by omega) (RA.to g2 ?hb) (RA.to g2' ?hb2)).mono ?_
 case hb=>(repeat' (first|(with_reducible exact Below.refl _ _)|(with_reducible assumption)|(with_reducible refine Zbf ?_ _)|(with_reducible refine Below.drew ?_)|(with_reducible refine Below.alloc ?_ ?_ _)|(with_reducible refine Below.setCell ?_ ?_ _)|(with_reducible refine Below.then_ ?_ (by assumption) ?_)|go_size))
 case hb2=>(repeat' (first|(with_reducible exact Below.refl _ _)|(with_reducible assumption)|(with_reducible refine Zbf ?_ _)|(with_reducible refine Below.drew ?_)|(with_reducible refine Below.alloc ?_ ?_ _)|(with_reducible refine Below.setCell ?_ ?_ _)|(with_reducible refine Below.then_ ?_ (by assumption) ?_)|go_size))
 rintro e w1 ⟨rfl,hb1⟩
 obtain ⟨hc1,hf1⟩:=Zy4 hb1
 have hz1:=hb1.size
 repeat (first|rw[World.size_alloc] at hz1|rw[World.size_setCell] at hz1)
 have l1_0:w.heap.size<w1.heap.size:=by omega
 have l1_1:w.heap.size+1<w1.heap.size:=by omega
 go_wp2_with fail
 refine (eqStringS A_codes A_codes' c_codes c_codes' x.codes _ (by omega) (RA.to g5 ?hb) (RA.to g5' ?hb2)).mono ?_
 case hb=>(repeat' (first|(with_reducible exact Below.refl _ _)|(with_reducible assumption)|(with_reducible refine Zbf ?_ _)|(with_reducible refine Below.drew ?_)|(with_reducible refine Below.alloc ?_ ?_ _)|(with_reducible refine Below.setCell ?_ ?_ _)|(with_reducible refine Below.then_ ?_ (by assumption) ?_)|go_size))
 case hb2=>(repeat' (first|(with_reducible exact Below.refl _ _)|(with_reducible assumption)|(with_reducible refine Zbf ?_ _)|(with_reducible refine Below.drew ?_)|(with_reducible refine Below.alloc ?_ ?_ _)|(with_reducible refine Below.setCell ?_ ?_ _)|(with_reducible refine Below.then_ ?_ (by assumption) ?_)|go_size))
 rintro e w2 ⟨rfl,hb2⟩
 obtain ⟨hc2,hf2⟩:=Zy4 hb2
 have hz2:=hb2.size
 repeat (first|rw[World.size_alloc] at hz2|rw[World.size_setCell] at hz2)
 have l2_0:w.heap.size<w2.heap.size:=by omega
 have l2_1:w.heap.size+1<w2.heap.size:=by omega
 go_wp2_with fail
 refine (eqArcS A_arcs A_arcs' c_arcs c_arcs' x.arcs _ (by omega) (RA.to g8 ?hb) (RA.to g8' ?hb2)).mono ?_
 case hb=>(repeat' (first|(with_reducible exact Below.refl _ _)|(with_reducible assumption)|(with_reducible refine Zbf ?_ _)|(with_reducible refine Below.drew ?_)|(with_reducible refine Below.alloc ?_ ?_ _)|(with_reducible refine Below.setCell ?_ ?_ _)|(with_reducible refine Below.then_ ?_ (by assumption) ?_)|go_size))
 case hb2=>(repeat' (first|(with_reducible exact Below.refl _ _)|(with_reducible assumption)|(with_reducible refine Zbf ?_ _)|(with_reducible refine Below.drew ?_)|(with_reducible refine Below.alloc ?_ ?_ _)|(with_reducible refine Below.setCell ?_ ?_ _)|(with_reducible refine Below.then_ ?_ (by assumption) ?_)|go_size))
 rintro e w3 ⟨rfl,hb3⟩
 obtain ⟨hc3,hf3⟩:=Zy4 hb3
 have hz3:=hb3.size
 repeat (first|rw[World.size_alloc] at hz3|rw[World.size_setCell] at hz3)
 have l3_0:w.heap.size<w3.heap.size:=by omega
 have l3_1:w.heap.size+1<w3.heap.size:=by omega
 go_wp2
 go_ret
 exact ⟨rfl,by (repeat' (first|(with_reducible exact Below.refl _ _)|(with_reducible assumption)|(with_reducible refine Zbf ?_ _)|(with_reducible refine Below.drew ?_)|(with_reducible refine Below.alloc ?_ ?_ _)|(with_reducible refine Below.setCell ?_ ?_ _)|(with_reducible refine Below.then_ ?_ (by assumption) ?_)|go_size))⟩
set_option maxHeartbeats 1000000 in
theorem toPin (x:Pin)  (w:World)   :
 Calls Tryz.prog 182 #[.agg #[.int .i64 x.at_,.bool x.not_]] w fun e w'=>e=.returned (.agg #[.int .i64 x.at_,.bool x.not_])∧Below w.heap.size w w'∧Frz w w':=by
 go_enter Tryz.func182,Tryz.ntmps182
 go_wp2
 go_returns
 exact ⟨rfl,by (repeat' (first|(with_reducible exact Below.refl _ _)|(with_reducible assumption)|(with_reducible refine Zbf ?_ _)|(with_reducible refine Below.drew ?_)|(with_reducible refine Below.alloc ?_ ?_ _)|(with_reducible refine Below.setCell ?_ ?_ _)|(with_reducible refine Below.then_ ?_ (by assumption) ?_)|go_size)),by (repeat' (first|(with_reducible exact Frz.refl _)|(with_reducible assumption)|(with_reducible refine Frz.drewN ?_ _)|(with_reducible refine Frz.drew ?_)|(with_reducible refine Frz.alloc ?_ _ _)|(with_reducible refine Frz.setCell ?_ _ _)|(with_reducible refine Frz.then_ ?_ (by assumption))))⟩
set_option maxHeartbeats 1000000 in
theorem eqPin (x:Pin)   (w:World)   :
 Calls Tryz.prog 183 #[.agg #[.int .i64 x.at_,.bool x.not_],.agg #[.int .i64 x.at_,.bool x.not_]] w fun e w'=>e=.returned (.bool true)∧Below w.heap.size w w':=by
 go_enter Tryz.func183,Tryz.ntmps183
 go_wp2
 go_ret
 exact ⟨rfl,by (repeat' (first|(with_reducible exact Below.refl _ _)|(with_reducible assumption)|(with_reducible refine Zbf ?_ _)|(with_reducible refine Below.drew ?_)|(with_reducible refine Below.alloc ?_ ?_ _)|(with_reducible refine Below.setCell ?_ ?_ _)|(with_reducible refine Below.then_ ?_ (by assumption) ?_)|go_size))⟩
set_option maxHeartbeats 400000 in
theorem szPinS (A:Option Addr) (n c:Nat) (left:Int) (w:World) (hn:n≤9223372036854775807) (h0:0≤left) (h1:left≤1048576):
 Calls Tryz.prog 137 #[.slice A n c,.int .i64 left] w fun e w'=>e=.returned (.int .i64 (ZlK n left))∧w'=w:=by
 by_cases h:left<n
 ·go_enter Tryz.func137,Tryz.ntmps137
  go_wp2
  go_ret
  exact ⟨ZyY (by unfold ZlK;rw[if_pos (by omega)]),rfl⟩
 ·go_enter Tryz.func137,Tryz.ntmps137
  go_wp2
  go_ret
  exact ⟨ZyY (by unfold ZlK;rw[if_neg (by omega)]),rfl⟩
set_option maxHeartbeats 1000000 in
theorem toPinS (A:Option Addr) (c:Nat) (l:(List Pin)) (w:World) (hs:l.length≤1048576) (hr:RA ZDa w A l):
 Calls Tryz.prog 138 #[.slice A l.length c] w fun e w'=>∃A',e=.returned (.slice A' l.length l.length)∧RSl ZDa w' (Zy9 w w') A' l∧Below w.heap.size w w'∧Frz w w':=by
 have hl:=hs
 obtain ⟨cells,hcs,hmk⟩:=ZzV (P:=Tryz.prog) (t:=113) (e:=187) (size:=2) (bytes:=16) Tryz.underlying113 (by kernel_rfl) l.length (by omega) (by decide)
 have HC:=Zbs hcs;clear hcs
 have HM:=Zbs hmk;clear hmk
 go_enter Tryz.func138,Tryz.ntmps138
 have hmk:=HM.out w
 go_wp2
 clear hmk
 go_loopw [4] (fun i wr=>∃k:Nat,k≤l.length∧i=.int .i64 k∧Hid (Za0 ZDa wr (ZCB w.heap.size wr) w.heap.size 187 l.length k l)∧Below w.heap.size w wr∧Frz w wr) (fun i _=>l.length - (intOf i).toNat)
 case atStart=>exact ⟨0,Nat.zero_le _,rfl,Za0.start HC.out,by (repeat' (first|(with_reducible exact Below.refl _ _)|(with_reducible assumption)|(with_reducible refine Zbf ?_ _)|(with_reducible refine Below.drew ?_)|(with_reducible refine Below.alloc ?_ ?_ _)|(with_reducible refine Below.setCell ?_ ?_ _)|(with_reducible refine Below.then_ ?_ (by assumption) ?_)|go_size)),by (repeat' (first|(with_reducible exact Frz.refl _)|(with_reducible assumption)|(with_reducible refine Frz.drewN ?_ _)|(with_reducible refine Frz.drew ?_)|(with_reducible refine Frz.alloc ?_ _ _)|(with_reducible refine Frz.setCell ?_ _ _)|(with_reducible refine Frz.then_ ?_ (by assumption))))⟩
 case round=>
  obtain ⟨k,hk,rfl,hf,hb,hfz⟩:=hrel
  have hsz:=hb.size
  by_cases hlt:k<l.length
  ·obtain ⟨x,hx⟩:=Zc0 hlt
   obtain ⟨b,off,rfl,hbl,d0,d1,f0⟩:=hr.Pin_at hb hx
   have HX:=Zbs hx;clear hx
   have hgl:=hf.out.lt
   go_wp2_with fail
   refine (toPin x  wr  ).mono ?_
   rintro e w1 ⟨rfl,hb1,fz1⟩
   have hf1:=hf.out.to hb1
   obtain ⟨⟨v0,p0⟩,z0⟩:=hf1.room hlt 0 (by decide)
   obtain ⟨⟨v1,p1⟩,z1⟩:=hf1.room hlt 1 (by decide)
   have HF:=Zbs hf1;clear hf1
   simp only[ZqA,Nat.add_zero] at p0 z0 p1 z1
   have hb2:=hb.trans (hb1.mono hsz)
   have hsz1:=hb1.size
   go_wp2_with fail
   go_roundw
   case rel=>exact ⟨k+1,by omega,by go_num,Zbs (HF.out.step [.int .i64 x.at_,.bool x.not_] HX.out (ZDf f0) (by simp[Zdi,ZqA])),by (repeat' (first|(with_reducible exact Below.refl _ _)|(with_reducible assumption)|(with_reducible refine Zbf ?_ _)|(with_reducible refine Below.drew ?_)|(with_reducible refine Below.alloc ?_ ?_ _)|(with_reducible refine Below.setCell ?_ ?_ _)|(with_reducible refine Below.then_ ?_ (by assumption) ?_)|go_size)),by (repeat' (first|(with_reducible exact Frz.refl _)|(with_reducible assumption)|(with_reducible refine Frz.drewN ?_ _)|(with_reducible refine Frz.drew ?_)|(with_reducible refine Frz.alloc ?_ _ _)|(with_reducible refine Frz.setCell ?_ _ _)|(with_reducible refine Frz.then_ ?_ (by assumption))))⟩
   case measure=>simp[intOf];omega
  ·have:k=l.length:=by omega
   subst this
   go_wp2
   go_ret
   exact ⟨_,rfl,hf.out.finish,by (repeat' (first|(with_reducible exact Below.refl _ _)|(with_reducible assumption)|(with_reducible refine Zbf ?_ _)|(with_reducible refine Below.drew ?_)|(with_reducible refine Below.alloc ?_ ?_ _)|(with_reducible refine Below.setCell ?_ ?_ _)|(with_reducible refine Below.then_ ?_ (by assumption) ?_)|go_size)),by (repeat' (first|(with_reducible exact Frz.refl _)|(with_reducible assumption)|(with_reducible refine Frz.drewN ?_ _)|(with_reducible refine Frz.drew ?_)|(with_reducible refine Frz.alloc ?_ _ _)|(with_reducible refine Frz.setCell ?_ _ _)|(with_reducible refine Frz.then_ ?_ (by assumption))))⟩
set_option maxHeartbeats 1000000 in
theorem eqPinS (A A':Option Addr) (c c':Nat) (l:(List Pin)) (w:World) (hl:l.length≤9223372036854775807) (hr:RA ZDa w A l) (hr':RA ZDa w A' l):
 Calls Tryz.prog 139 #[.slice A l.length c,.slice A' l.length c'] w fun e w'=>e=.returned (.bool true)∧Below w.heap.size w w':=by
 go_enter Tryz.func139,Tryz.ntmps139
 go_wp2
 go_loopw [5] (fun i wr=>∃k:Nat,k≤l.length∧i=.int .i64 k∧Below w.heap.size w wr) (fun i _=>l.length - (intOf i).toNat)
 case atStart=>exact ⟨0,Nat.zero_le _,rfl,Below.refl _ _⟩
 case round=>
  obtain ⟨k,hk,rfl,hb⟩:=hrel
  have hsz:=hb.size
  by_cases hlt:k<l.length
  ·obtain ⟨x,hx⟩:=Zc0 hlt
   obtain ⟨b,off,rfl,hbl,d0,d1,f0⟩:=hr.Pin_at hb hx
   obtain ⟨b',off',rfl,hbl',d0',d1',f0'⟩:=hr'.Pin_at hb hx
   have HX:=Zbs hx;clear hx
   go_wp2_with fail
   go_region_held3 (fun W=>W.cell? ⟨b,off+k * 2,none⟩=some (.int .i64 x.at_)∧W.cell? ⟨b,off+k * 2+1,none⟩=some (.bool x.not_)∧W.cell? ⟨b',off'+k * 2,none⟩=some (.int .i64 x.at_)∧W.cell? ⟨b',off'+k * 2+1,none⟩=some (.bool x.not_)) (first|exact ⟨d0,d1,d0',d1'⟩|exact ⟨(cell_later hb1 d0),(cell_later hb1 d1),(cell_later hb1 d0'),(cell_later hb1 d1')⟩) (first|(go_at_call 183;refine (eqPin x   _  ).mono ?_;rintro e w1 ⟨rfl,hb1⟩))
   have hb2:=hb.drew.trans (hb1.mono hsz)
   go_wp2_with fail
   go_roundw
   case rel=>exact ⟨k+1,by omega,by go_num,by (repeat' (first|(with_reducible exact Below.refl _ _)|(with_reducible assumption)|(with_reducible refine Zbf ?_ _)|(with_reducible refine Below.drew ?_)|(with_reducible refine Below.alloc ?_ ?_ _)|(with_reducible refine Below.setCell ?_ ?_ _)|(with_reducible refine Below.then_ ?_ (by assumption) ?_)|go_size))⟩
   case measure=>simp[intOf];omega
  ·go_wp2
   go_ret
   exact ⟨rfl,by (repeat' (first|(with_reducible exact Below.refl _ _)|(with_reducible assumption)|(with_reducible refine Zbf ?_ _)|(with_reducible refine Below.drew ?_)|(with_reducible refine Below.alloc ?_ ?_ _)|(with_reducible refine Below.setCell ?_ ?_ _)|(with_reducible refine Below.then_ ?_ (by assumption) ?_)|go_size))⟩
def wtWire (x:Wire):Nat:=(x.name).length+(x.ins).length+(wtL ZzN x.cover)
set_option maxHeartbeats 1000000 in
theorem szWire (x:Wire) (A_ins:Option Addr) (c_ins:Nat) (A_cover:Option Addr) (c_cover:Nat) (left:Int) (w:World) (g0:(x.name).length≤9223372036854775807) (g2:(x.ins).length≤c_ins) (g3:c_ins≤9223372036854775807) (g4:RA ZDa w A_ins x.ins) (g5:(x.cover).length≤c_cover) (g6:c_cover≤9223372036854775807) (g7:RA ZdO w A_cover x.cover) (h0:0≤left) (h1:left≤1048576):
 Calls Tryz.prog 99 #[.agg #[.string ⟨(x.name).toArray⟩,.int .i64 x.kind,.slice A_ins (x.ins).length c_ins,.slice A_cover (x.cover).length c_cover],.int .i64 left] w fun e w'=>e=.returned (.int .i64 (ZlK (wtWire x) left))∧Below w.heap.size w w':=by
 show Calls _ _ _ _ fun e w'=>e=.returned (.int .i64 (ZlK ((x.name).length+(x.ins).length+(wtL ZzN x.cover)) left))∧_
 go_enter Tryz.func99,Tryz.ntmps99
 by_cases q1:left<((x.name).length:Nat)
 ·go_wp2
  go_ret
  exact ⟨ZyY (by unfold ZlK;rw[if_pos (by omega)]),by (repeat' (first|(with_reducible exact Below.refl _ _)|(with_reducible assumption)|(with_reducible refine Zbf ?_ _)|(with_reducible refine Below.drew ?_)|(with_reducible refine Below.alloc ?_ ?_ _)|(with_reducible refine Below.setCell ?_ ?_ _)|(with_reducible refine Below.then_ ?_ (by assumption) ?_)|go_size))⟩
 ·skip
  go_wp2_with fail
  refine (szPinS A_ins (x.ins).length c_ins (left - ((x.name).length:Nat)) _ (by omega) (by omega) (by omega)).mono ?_
  rintro e w2 ⟨rfl,rfl⟩
  by_cases q2:left - ((x.name).length:Nat)<((x.ins).length:Nat)
  ·rw[Zza q2]
   go_wp2
   go_ret
   exact ⟨ZyY (by unfold ZlK;rw[if_pos (by omega)]),by (repeat' (first|(with_reducible exact Below.refl _ _)|(with_reducible assumption)|(with_reducible refine Zbf ?_ _)|(with_reducible refine Below.drew ?_)|(with_reducible refine Below.alloc ?_ ?_ _)|(with_reducible refine Below.setCell ?_ ?_ _)|(with_reducible refine Below.then_ ?_ (by assumption) ?_)|go_size))⟩
  ·rw[Zzc q2]
   go_wp2_with fail
   refine (szStringS A_cover c_cover x.cover (left - ((x.name).length:Nat) - ((x.ins).length:Nat)) _ (by omega) (RA.to g7 ?hb) (by omega) (by omega)).mono ?_
   case hb=>(repeat' (first|(with_reducible exact Below.refl _ _)|(with_reducible assumption)|(with_reducible refine Zbf ?_ _)|(with_reducible refine Below.drew ?_)|(with_reducible refine Below.alloc ?_ ?_ _)|(with_reducible refine Below.setCell ?_ ?_ _)|(with_reducible refine Below.then_ ?_ (by assumption) ?_)|go_size))
   rintro e w3 ⟨rfl,hb3⟩
   obtain ⟨hc3,hf3⟩:=Zy4 hb3
   have hz3:=hb3.size
   repeat (first|rw[World.size_alloc] at hz3|rw[World.size_setCell] at hz3)
   have l3_0:w.heap.size<w3.heap.size:=by omega
   by_cases q3:left - ((x.name).length:Nat) - ((x.ins).length:Nat)<((wtL ZzN x.cover):Nat)
   ·rw[Zza q3]
    go_wp2
    go_ret
    exact ⟨ZyY (by unfold ZlK;rw[if_pos (by omega)]),by (repeat' (first|(with_reducible exact Below.refl _ _)|(with_reducible assumption)|(with_reducible refine Zbf ?_ _)|(with_reducible refine Below.drew ?_)|(with_reducible refine Below.alloc ?_ ?_ _)|(with_reducible refine Below.setCell ?_ ?_ _)|(with_reducible refine Below.then_ ?_ (by assumption) ?_)|go_size))⟩
   ·rw[Zzc q3]
    go_wp2
    go_ret
    exact ⟨ZyY (by (unfold ZlK;rw[if_neg (by omega)])<;>omega),by (repeat' (first|(with_reducible exact Below.refl _ _)|(with_reducible assumption)|(with_reducible refine Zbf ?_ _)|(with_reducible refine Below.drew ?_)|(with_reducible refine Below.alloc ?_ ?_ _)|(with_reducible refine Below.setCell ?_ ?_ _)|(with_reducible refine Below.then_ ?_ (by assumption) ?_)|go_size))⟩
set_option maxHeartbeats 1000000 in
theorem toWire (x:Wire) (A_ins:Option Addr) (c_ins:Nat) (A_cover:Option Addr) (c_cover:Nat) (w:World) (g0:(x.name).length≤9223372036854775807) (g2:(x.ins).length≤c_ins) (g3:c_ins≤9223372036854775807) (g4:RA ZDa w A_ins x.ins) (g5:(x.cover).length≤c_cover) (g6:c_cover≤9223372036854775807) (g7:RA ZdO w A_cover x.cover) (hs:wtWire x≤1048576):
 Calls Tryz.prog 102 #[.agg #[.string ⟨(x.name).toArray⟩,.int .i64 x.kind,.slice A_ins (x.ins).length c_ins,.slice A_cover (x.cover).length c_cover]] w fun e w'=>∃A_ins' A_cover',e=.returned (.agg #[.string ⟨(x.name).toArray⟩,.int .i64 x.kind,.slice A_ins' (x.ins).length (x.ins).length,.slice A_cover' (x.cover).length (x.cover).length])∧RSl ZDa w' (Zy9 w w') A_ins' x.ins∧RSl ZdO w' (Zy9 w w') A_cover' x.cover∧Below w.heap.size w w'∧Frz w w':=by
 unfold wtWire at hs
 go_enter Tryz.func102,Tryz.ntmps102
 go_wp2_with fail
 refine (toPinS A_ins c_ins x.ins _ (by omega) (RA.to g4 ?hb)).mono ?_
 case hb=>(repeat' (first|(with_reducible exact Below.refl _ _)|(with_reducible assumption)|(with_reducible refine Zbf ?_ _)|(with_reducible refine Below.drew ?_)|(with_reducible refine Below.alloc ?_ ?_ _)|(with_reducible refine Below.setCell ?_ ?_ _)|(with_reducible refine Below.then_ ?_ (by assumption) ?_)|go_size))
 rintro e w1 ⟨A_ins',rfl,r1,hb1,fz1⟩
 obtain ⟨hc1,hf1⟩:=Zy4 hb1
 have hz1:=hb1.size
 repeat (first|rw[World.size_alloc] at hz1|rw[World.size_setCell] at hz1)
 have l1_0:w.heap.size<w1.heap.size:=by omega
 have l1_1:w.heap.size+1<w1.heap.size:=by omega
 have l1_2:w.heap.size+1+1<w1.heap.size:=by omega
 go_wp2_with fail
 refine (toStringS A_cover c_cover x.cover _ (by omega) (RA.to g7 ?hb)).mono ?_
 case hb=>(repeat' (first|(with_reducible exact Below.refl _ _)|(with_reducible assumption)|(with_reducible refine Zbf ?_ _)|(with_reducible refine Below.drew ?_)|(with_reducible refine Below.alloc ?_ ?_ _)|(with_reducible refine Below.setCell ?_ ?_ _)|(with_reducible refine Below.then_ ?_ (by assumption) ?_)|go_size))
 rintro e w2 ⟨A_cover',rfl,r2,hb2,fz2⟩
 obtain ⟨hc2,hf2⟩:=Zy4 hb2
 have hz2:=hb2.size
 repeat (first|rw[World.size_alloc] at hz2|rw[World.size_setCell] at hz2)
 have l2_0:w.heap.size<w2.heap.size:=by omega
 have l2_1:w.heap.size+1<w2.heap.size:=by omega
 have l2_2:w.heap.size+1+1<w2.heap.size:=by omega
 go_wp2
 refine bodyPost_ret (v:=.agg #[.string ⟨(x.name).toArray⟩,.int .i64 x.kind,.slice A_ins' (x.ins).length (x.ins).length,.slice A_cover' (x.cover).length (x.cover).length]) ?_ rfl ?_
 ·simp[results,Tryz.results102,go_sem, *]
 exact ⟨_,_,rfl,(r1).keep (by (refine Agree.out ?_;repeat' (first|(with_reducible exact Agree.refl _ _)|(with_reducible refine Agree.drew ?_)|(with_reducible refine Agree.drewN ?_ _)|(with_reducible refine Agree.setCell ?_ ?_ _)|(with_reducible refine Agree.alloc ?_ ?_ _)|(with_reducible refine Agree.then_ ?_ (by assumption) ?_)|(intro b hb;obtain ⟨hb1,hb2⟩:=hb;(first|omega|((try simp at hb1);(try simp at hb2);(try simp);omega)))))) (by (intro b hb;obtain ⟨hb1,hb2⟩:=hb;exact ⟨by (first|omega|((try simp at hb1);(try simp at hb2);(try simp);omega)),by (first|omega|((try simp at hb1);(try simp at hb2);(try simp);omega))⟩)),(r2).keep (by (refine Agree.out ?_;repeat' (first|(with_reducible exact Agree.refl _ _)|(with_reducible refine Agree.drew ?_)|(with_reducible refine Agree.drewN ?_ _)|(with_reducible refine Agree.setCell ?_ ?_ _)|(with_reducible refine Agree.alloc ?_ ?_ _)|(with_reducible refine Agree.then_ ?_ (by assumption) ?_)|(intro b hb;obtain ⟨hb1,hb2⟩:=hb;(first|omega|((try simp at hb1);(try simp at hb2);(try simp);omega)))))) (by (intro b hb;obtain ⟨hb1,hb2⟩:=hb;exact ⟨by (first|omega|((try simp at hb1);(try simp at hb2);(try simp);omega)),by (first|omega|((try simp at hb1);(try simp at hb2);(try simp);omega))⟩)),by (repeat' (first|(with_reducible exact Below.refl _ _)|(with_reducible assumption)|(with_reducible refine Zbf ?_ _)|(with_reducible refine Below.drew ?_)|(with_reducible refine Below.alloc ?_ ?_ _)|(with_reducible refine Below.setCell ?_ ?_ _)|(with_reducible refine Below.then_ ?_ (by assumption) ?_)|go_size)),by (repeat' (first|(with_reducible exact Frz.refl _)|(with_reducible assumption)|(with_reducible refine Frz.drewN ?_ _)|(with_reducible refine Frz.drew ?_)|(with_reducible refine Frz.alloc ?_ _ _)|(with_reducible refine Frz.setCell ?_ _ _)|(with_reducible refine Frz.then_ ?_ (by assumption))))⟩
set_option maxHeartbeats 1000000 in
theorem eqWire (x:Wire) (A_ins:Option Addr) (c_ins:Nat) (A_cover:Option Addr) (c_cover:Nat) (A_ins':Option Addr) (c_ins':Nat) (A_cover':Option Addr) (c_cover':Nat) (w:World) (g0:(x.name).length≤9223372036854775807) (g2:(x.ins).length≤c_ins) (g3:c_ins≤9223372036854775807) (g4:RA ZDa w A_ins x.ins) (g5:(x.cover).length≤c_cover) (g6:c_cover≤9223372036854775807) (g7:RA ZdO w A_cover x.cover) (g2':(x.ins).length≤c_ins') (g3':c_ins'≤9223372036854775807) (g4':RA ZDa w A_ins' x.ins) (g5':(x.cover).length≤c_cover') (g6':c_cover'≤9223372036854775807) (g7':RA ZdO w A_cover' x.cover):
 Calls Tryz.prog 105 #[.agg #[.string ⟨(x.name).toArray⟩,.int .i64 x.kind,.slice A_ins (x.ins).length c_ins,.slice A_cover (x.cover).length c_cover],.agg #[.string ⟨(x.name).toArray⟩,.int .i64 x.kind,.slice A_ins' (x.ins).length c_ins',.slice A_cover' (x.cover).length c_cover']] w fun e w'=>e=.returned (.bool true)∧Below w.heap.size w w':=by
 go_enter Tryz.func105,Tryz.ntmps105
 go_wp2_with fail
 refine (eqPinS A_ins A_ins' c_ins c_ins' x.ins _ (by omega) (RA.to g4 ?hb) (RA.to g4' ?hb2)).mono ?_
 case hb=>(repeat' (first|(with_reducible exact Below.refl _ _)|(with_reducible assumption)|(with_reducible refine Zbf ?_ _)|(with_reducible refine Below.drew ?_)|(with_reducible refine Below.alloc ?_ ?_ _)|(with_reducible refine Below.setCell ?_ ?_ _)|(with_reducible refine Below.then_ ?_ (by assumption) ?_)|go_size))
 case hb2=>(repeat' (first|(with_reducible exact Below.refl _ _)|(with_reducible assumption)|(with_reducible refine Zbf ?_ _)|(with_reducible refine Below.drew ?_)|(with_reducible refine Below.alloc ?_ ?_ _)|(with_reducible refine Below.setCell ?_ ?_ _)|(with_reducible refine Below.then_ ?_ (by assumption) ?_)|go_size))
 rintro e w1 ⟨rfl,hb1⟩
 obtain ⟨hc1,hf1⟩:=Zy4 hb1
 have hz1:=hb1.size
 repeat (first|rw[World.size_alloc] at hz1|rw[World.size_setCell] at hz1)
 have l1_0:w.heap.size<w1.heap.size:=by omega
 have l1_1:w.heap.size+1<w1.heap.size:=by omega
 go_wp2_with fail
 refine (eqStringS A_cover A_cover' c_cover c_cover' x.cover _ (by omega) (RA.to g7 ?hb) (RA.to g7' ?hb2)).mono ?_
 case hb=>(repeat' (first|(with_reducible exact Below.refl _ _)|(with_reducible assumption)|(with_reducible refine Zbf ?_ _)|(with_reducible refine Below.drew ?_)|(with_reducible refine Below.alloc ?_ ?_ _)|(with_reducible refine Below.setCell ?_ ?_ _)|(with_reducible refine Below.then_ ?_ (by assumption) ?_)|go_size))
 case hb2=>(repeat' (first|(with_reducible exact Below.refl _ _)|(with_reducible assumption)|(with_reducible refine Zbf ?_ _)|(with_reducible refine Below.drew ?_)|(with_reducible refine Below.alloc ?_ ?_ _)|(with_reducible refine Below.setCell ?_ ?_ _)|(with_reducible refine Below.then_ ?_ (by assumption) ?_)|go_size))
 rintro e w2 ⟨rfl,hb2⟩
 obtain ⟨hc2,hf2⟩:=Zy4 hb2
 have hz2:=hb2.size
 repeat (first|rw[World.size_alloc] at hz2|rw[World.size_setCell] at hz2)
 have l2_0:w.heap.size<w2.heap.size:=by omega
 have l2_1:w.heap.size+1<w2.heap.size:=by omega
 go_wp2
 go_ret
 exact ⟨rfl,by (repeat' (first|(with_reducible exact Below.refl _ _)|(with_reducible assumption)|(with_reducible refine Zbf ?_ _)|(with_reducible refine Below.drew ?_)|(with_reducible refine Below.alloc ?_ ?_ _)|(with_reducible refine Below.setCell ?_ ?_ _)|(with_reducible refine Below.then_ ?_ (by assumption) ?_)|go_size))⟩
set_option maxHeartbeats 1000000 in
theorem szWireS (A:Option Addr) (c:Nat) (l:(List Wire)) (left:Int) (w:World) (hn:l.length≤9223372036854775807) (hr:RA ZzP w A l) (h0:0≤left) (h1:left≤1048576):
 Calls Tryz.prog 57 #[.slice A l.length c,.int .i64 left] w fun e w'=>e=.returned (.int .i64 (ZlK (wtL wtWire l) left))∧Below w.heap.size w w':=by
 by_cases h:left<l.length
 ·have hs:ZlK (wtL wtWire l) left= -1:=by unfold ZlK wtL;rw[if_pos (by omega)]
  have HS:=Zbs hs;clear hs
  go_enter Tryz.func57,Tryz.ntmps57
  go_wp2
  go_ret
  exact ⟨ZyY HS.out.symm,by (repeat' (first|(with_reducible exact Below.refl _ _)|(with_reducible assumption)|(with_reducible refine Zbf ?_ _)|(with_reducible refine Below.drew ?_)|(with_reducible refine Below.alloc ?_ ?_ _)|(with_reducible refine Below.setCell ?_ ?_ _)|(with_reducible refine Below.then_ ?_ (by assumption) ?_)|go_size))⟩
 ·obtain ⟨R,hR⟩:∃R,ZlK (wtL wtWire l) left=R:=⟨_,rfl⟩
  have HR:=Zbs hR
  have HL:Hid (ZlK ((l.drop 0).map wtWire).sum (left - l.length)=R):=by show _=_;rw[←hR,wtL,ZBH h];rfl
  clear hR
  go_enter Tryz.func57,Tryz.ntmps57
  go_wp2
  go_loopw [5,1] (fun i L wr=>∃(k:Nat) (m:Int),k≤l.length∧i=.int .i64 k∧L=.int .i64 m∧0≤m∧m≤1048576∧Hid (ZlK ((l.drop k).map wtWire).sum m=R)∧Below w.heap.size w wr) (fun i _ _=>l.length - (intOf i).toNat)
  case atStart=>exact ⟨0,_,Nat.zero_le _,rfl,rfl,by omega,by omega,HL,by (repeat' (first|(with_reducible exact Below.refl _ _)|(with_reducible assumption)|(with_reducible refine Zbf ?_ _)|(with_reducible refine Below.drew ?_)|(with_reducible refine Below.alloc ?_ ?_ _)|(with_reducible refine Below.setCell ?_ ?_ _)|(with_reducible refine Below.then_ ?_ (by assumption) ?_)|go_size))⟩
  case round=>
   obtain ⟨k,m,hk,rfl,rfl,hm0,hm1,hgo,hb⟩:=hrel
   have hsz:=hb.size
   by_cases hlt:k<l.length
   ·obtain ⟨x,hx⟩:=Zc0 hlt
    obtain ⟨b,off,A_ins,c_ins,A_cover,c_cover,rfl,hbl,d0,d1,d2,d3,f0,f1,f2,f3,f4,f5,f6,f7⟩:=hr.Wire_at hb hx
    have Hd:=Zbs (ZzU hx)
    clear hx
    have hg1:=hgo.out
    rw[Hd.out,List.map_cons,List.sum_cons] at hg1
    have HG:=Zbs hg1;clear hg1
    go_wp2_with fail
    refine (szWire x A_ins c_ins A_cover c_cover m _ f0 f2 f3 f4 f5 f6 f7 hm0 hm1).mono ?_
    rintro e w1 ⟨rfl,hb1⟩
    have hb2:=hb.trans (hb1.mono hsz)
    by_cases hq:m<(wtWire x:Nat)
    ·rw[Zza hq]
     have HQ:=Zbs (ZBy (b:=((l.drop (k+1)).map wtWire).sum) hq)
     go_wp2
     go_ret
     exact ⟨ZyY (by rw[HR.out,←HG.out,←HQ.out]),by (repeat' (first|(with_reducible exact Below.refl _ _)|(with_reducible assumption)|(with_reducible refine Zbf ?_ _)|(with_reducible refine Below.drew ?_)|(with_reducible refine Below.alloc ?_ ?_ _)|(with_reducible refine Below.setCell ?_ ?_ _)|(with_reducible refine Below.then_ ?_ (by assumption) ?_)|go_size))⟩
    ·rw[Zzc hq]
     have HG2:Hid (ZlK ((l.drop (k+1)).map wtWire).sum (m - (wtWire x:Nat))=R):=by show _=_;rw[←HG.out];exact (ZBH hq).symm
     have hq1:(wtWire x:Int)≤m:=by omega
     have hq2:(0:Int)≤(wtWire x:Nat):=by omega
     go_wp2_with fail
     go_roundw
     case rel=>exact ⟨k+1,_,by omega,by go_num,rfl,by omega,by omega,HG2,by (repeat' (first|(with_reducible exact Below.refl _ _)|(with_reducible assumption)|(with_reducible refine Zbf ?_ _)|(with_reducible refine Below.drew ?_)|(with_reducible refine Below.alloc ?_ ?_ _)|(with_reducible refine Below.setCell ?_ ?_ _)|(with_reducible refine Below.then_ ?_ (by assumption) ?_)|go_size))⟩
     case measure=>simp[intOf];omega
   ·have hg1:=hgo.out
    rw[ZCA hlt] at hg1
    have HG:=Zbs hg1;clear hg1
    go_wp2
    go_ret
    exact ⟨ZyY (by rw[HR.out,←HG.out];unfold ZlK;simp;omega),by (repeat' (first|(with_reducible exact Below.refl _ _)|(with_reducible assumption)|(with_reducible refine Zbf ?_ _)|(with_reducible refine Below.drew ?_)|(with_reducible refine Below.alloc ?_ ?_ _)|(with_reducible refine Below.setCell ?_ ?_ _)|(with_reducible refine Below.then_ ?_ (by assumption) ?_)|go_size))⟩
set_option maxHeartbeats 1000000 in
theorem toWireS (A:Option Addr) (c:Nat) (l:(List Wire)) (w:World) (hs:wtL wtWire l≤1048576) (hr:RA ZzP w A l):
 Calls Tryz.prog 61 #[.slice A l.length c] w fun e w'=>∃A',e=.returned (.slice A' l.length l.length)∧RSl ZzP w' (Zy9 w w') A' l∧Below w.heap.size w w'∧Frz w w':=by
 have hl:l.length≤1048576:=by unfold wtL at hs;omega
 obtain ⟨cells,hcs,hmk⟩:=ZzV (P:=Tryz.prog) (t:=40) (e:=115) (size:=4) (bytes:=72) Tryz.underlying40 (by kernel_rfl) l.length (by omega) (by decide)
 have HC:=Zbs hcs;clear hcs
 have HM:=Zbs hmk;clear hmk
 go_enter Tryz.func61,Tryz.ntmps61
 have hmk:=HM.out w
 go_wp2
 clear hmk
 go_loopw [4] (fun i wr=>∃k:Nat,k≤l.length∧i=.int .i64 k∧Hid (Za0 ZzP wr (ZCB w.heap.size wr) w.heap.size 115 l.length k l)∧Below w.heap.size w wr∧Frz w wr) (fun i _=>l.length - (intOf i).toNat)
 case atStart=>exact ⟨0,Nat.zero_le _,rfl,Za0.start HC.out,by (repeat' (first|(with_reducible exact Below.refl _ _)|(with_reducible assumption)|(with_reducible refine Zbf ?_ _)|(with_reducible refine Below.drew ?_)|(with_reducible refine Below.alloc ?_ ?_ _)|(with_reducible refine Below.setCell ?_ ?_ _)|(with_reducible refine Below.then_ ?_ (by assumption) ?_)|go_size)),by (repeat' (first|(with_reducible exact Frz.refl _)|(with_reducible assumption)|(with_reducible refine Frz.drewN ?_ _)|(with_reducible refine Frz.drew ?_)|(with_reducible refine Frz.alloc ?_ _ _)|(with_reducible refine Frz.setCell ?_ _ _)|(with_reducible refine Frz.then_ ?_ (by assumption))))⟩
 case round=>
  obtain ⟨k,hk,rfl,hf,hb,hfz⟩:=hrel
  have hsz:=hb.size
  by_cases hlt:k<l.length
  ·obtain ⟨x,hx⟩:=Zc0 hlt
   obtain ⟨b,off,A_ins,c_ins,A_cover,c_cover,rfl,hbl,d0,d1,d2,d3,f0,f1,f2,f3,f4,f5,f6,f7⟩:=hr.Wire_at hb hx
   have hwx:wtWire x≤1048576:=Nat.le_trans (ZCZ hx) hs
   have HX:=Zbs hx;clear hx
   have hgl:=hf.out.lt
   go_wp2_with fail
   refine (toWire x A_ins c_ins A_cover c_cover wr f0 f2 f3 f4 f5 f6 f7 hwx).mono ?_
   rintro e w1 ⟨A_ins',A_cover',rfl,rA_ins,rA_cover,hb1,fz1⟩
   have hf1:=hf.out.to hb1
   obtain ⟨⟨v0,p0⟩,z0⟩:=hf1.room hlt 0 (by decide)
   obtain ⟨⟨v1,p1⟩,z1⟩:=hf1.room hlt 1 (by decide)
   obtain ⟨⟨v2,p2⟩,z2⟩:=hf1.room hlt 2 (by decide)
   obtain ⟨⟨v3,p3⟩,z3⟩:=hf1.room hlt 3 (by decide)
   have HF:=Zbs hf1;clear hf1
   simp only[ZgA,Nat.add_zero] at p0 z0 p1 z1 p2 z2 p3 z3
   have hb2:=hb.trans (hb1.mono hsz)
   have hsz1:=hb1.size
   go_wp2_with fail
   go_roundw
   case rel=>exact ⟨k+1,by omega,by go_num,Zbs (HF.out.step [.string ⟨(x.name).toArray⟩,.int .i64 x.kind,.slice A_ins' (x.ins).length (x.ins).length,.slice A_cover' (x.cover).length (x.cover).length] HX.out (ZC7 f0 f1 (Nat.le_refl _) (by omega) (rA_ins.mono (by (intro b hb;obtain ⟨hb1,hb2⟩:=hb;exact ⟨by omega,by omega⟩))) (Nat.le_refl _) (by omega) (rA_cover.mono (by (intro b hb;obtain ⟨hb1,hb2⟩:=hb;exact ⟨by omega,by omega⟩)))) (by simp[Zdi,ZgA])),by (repeat' (first|(with_reducible exact Below.refl _ _)|(with_reducible assumption)|(with_reducible refine Zbf ?_ _)|(with_reducible refine Below.drew ?_)|(with_reducible refine Below.alloc ?_ ?_ _)|(with_reducible refine Below.setCell ?_ ?_ _)|(with_reducible refine Below.then_ ?_ (by assumption) ?_)|go_size)),by (repeat' (first|(with_reducible exact Frz.refl _)|(with_reducible assumption)|(with_reducible refine Frz.drewN ?_ _)|(with_reducible refine Frz.drew ?_)|(with_reducible refine Frz.alloc ?_ _ _)|(with_reducible refine Frz.setCell ?_ _ _)|(with_reducible refine Frz.then_ ?_ (by assumption))))⟩
   case measure=>simp[intOf];omega
  ·have:k=l.length:=by omega
   subst this
   go_wp2
   go_ret
   exact ⟨_,rfl,hf.out.finish,by (repeat' (first|(with_reducible exact Below.refl _ _)|(with_reducible assumption)|(with_reducible refine Zbf ?_ _)|(with_reducible refine Below.drew ?_)|(with_reducible refine Below.alloc ?_ ?_ _)|(with_reducible refine Below.setCell ?_ ?_ _)|(with_reducible refine Below.then_ ?_ (by assumption) ?_)|go_size)),by (repeat' (first|(with_reducible exact Frz.refl _)|(with_reducible assumption)|(with_reducible refine Frz.drewN ?_ _)|(with_reducible refine Frz.drew ?_)|(with_reducible refine Frz.alloc ?_ _ _)|(with_reducible refine Frz.setCell ?_ _ _)|(with_reducible refine Frz.then_ ?_ (by assumption))))⟩
set_option maxHeartbeats 1000000 in
theorem eqWireS (A A':Option Addr) (c c':Nat) (l:(List Wire)) (w:World) (hl:l.length≤9223372036854775807) (hr:RA ZzP w A l) (hr':RA ZzP w A' l):
 Calls Tryz.prog 67 #[.slice A l.length c,.slice A' l.length c'] w fun e w'=>e=.returned (.bool true)∧Below w.heap.size w w':=by
 go_enter Tryz.func67,Tryz.ntmps67
 go_wp2
 go_loopw [5] (fun i wr=>∃k:Nat,k≤l.length∧i=.int .i64 k∧Below w.heap.size w wr) (fun i _=>l.length - (intOf i).toNat)
 case atStart=>exact ⟨0,Nat.zero_le _,rfl,Below.refl _ _⟩
 case round=>
  obtain ⟨k,hk,rfl,hb⟩:=hrel
  have hsz:=hb.size
  by_cases hlt:k<l.length
  ·obtain ⟨x,hx⟩:=Zc0 hlt
   obtain ⟨b,off,A_ins,c_ins,A_cover,c_cover,rfl,hbl,d0,d1,d2,d3,f0,f1,f2,f3,f4,f5,f6,f7⟩:=hr.Wire_at hb hx
   obtain ⟨b',off',A_ins',c_ins',A_cover',c_cover',rfl,hbl',d0',d1',d2',d3',f0',f1',f2',f3',f4',f5',f6',f7'⟩:=hr'.Wire_at hb hx
   have HX:=Zbs hx;clear hx
   go_wp2_with fail
   go_region_held3 (fun W=>W.cell? ⟨b,off+k * 4,none⟩=some (.string ⟨(x.name).toArray⟩)∧W.cell? ⟨b,off+k * 4+1,none⟩=some (.int .i64 x.kind)∧W.cell? ⟨b,off+k * 4+2,none⟩=some (.slice A_ins (x.ins).length c_ins)∧W.cell? ⟨b,off+k * 4+3,none⟩=some (.slice A_cover (x.cover).length c_cover)∧W.cell? ⟨b',off'+k * 4,none⟩=some (.string ⟨(x.name).toArray⟩)∧W.cell? ⟨b',off'+k * 4+1,none⟩=some (.int .i64 x.kind)∧W.cell? ⟨b',off'+k * 4+2,none⟩=some (.slice A_ins' (x.ins).length c_ins')∧W.cell? ⟨b',off'+k * 4+3,none⟩=some (.slice A_cover' (x.cover).length c_cover')) (first|exact ⟨d0,d1,d2,d3,d0',d1',d2',d3'⟩|exact ⟨(cell_later hb1 d0),(cell_later hb1 d1),(cell_later hb1 d2),(cell_later hb1 d3),(cell_later hb1 d0'),(cell_later hb1 d1'),(cell_later hb1 d2'),(cell_later hb1 d3')⟩) (first|(go_at_call 105;refine (eqWire x A_ins c_ins A_cover c_cover A_ins' c_ins' A_cover' c_cover' _ f0 f2 f3 (RA.to f4 (Below.drew (Below.refl _ _))) f5 f6 (RA.to f7 (Below.drew (Below.refl _ _))) f2' f3' (RA.to f4' (Below.drew (Below.refl _ _))) f5' f6' (RA.to f7' (Below.drew (Below.refl _ _)))).mono ?_;rintro e w1 ⟨rfl,hb1⟩))
   have hb2:=hb.drew.trans (hb1.mono hsz)
   go_wp2_with fail
   go_roundw
   case rel=>exact ⟨k+1,by omega,by go_num,by (repeat' (first|(with_reducible exact Below.refl _ _)|(with_reducible assumption)|(with_reducible refine Zbf ?_ _)|(with_reducible refine Below.drew ?_)|(with_reducible refine Below.alloc ?_ ?_ _)|(with_reducible refine Below.setCell ?_ ?_ _)|(with_reducible refine Below.then_ ?_ (by assumption) ?_)|go_size))⟩
   case measure=>simp[intOf];omega
  ·go_wp2
   go_ret
   exact ⟨rfl,by (repeat' (first|(with_reducible exact Below.refl _ _)|(with_reducible assumption)|(with_reducible refine Zbf ?_ _)|(with_reducible refine Below.drew ?_)|(with_reducible refine Below.alloc ?_ ?_ _)|(with_reducible refine Below.setCell ?_ ?_ _)|(with_reducible refine Below.then_ ?_ (by assumption) ?_)|go_size))⟩
def wtNl (x:Nl):Nat:=(wtL wtSig x.signals)+(wtL wtWire x.wires)
set_option maxHeartbeats 1000000 in
theorem szNetlist (x:Nl) (A_signals:Option Addr) (c_signals:Nat) (A_wires:Option Addr) (c_wires:Nat) (left:Int) (w:World) (g0:(x.signals).length≤c_signals) (g1:c_signals≤9223372036854775807) (g2:RA ZjN w A_signals x.signals) (g3:(x.wires).length≤c_wires) (g4:c_wires≤9223372036854775807) (g5:RA ZzP w A_wires x.wires) (h0:0≤left) (h1:left≤1048576):
 Calls Tryz.prog 13 #[.agg #[.slice A_signals (x.signals).length c_signals,.slice A_wires (x.wires).length c_wires],.int .i64 left] w fun e w'=>e=.returned (.int .i64 (ZlK (wtNl x) left))∧Below w.heap.size w w':=by
 show Calls _ _ _ _ fun e w'=>e=.returned (.int .i64 (ZlK ((wtL wtSig x.signals)+(wtL wtWire x.wires)) left))∧_
 go_enter Tryz.func13,Tryz.ntmps13
 go_wp2_with fail
 refine (szSignalS A_signals c_signals x.signals (left) _ (by omega) (RA.to g2 ?hb) (by omega) (by omega)).mono ?_
 case hb=>(repeat' (first|(with_reducible exact Below.refl _ _)|(with_reducible assumption)|(with_reducible refine Zbf ?_ _)|(with_reducible refine Below.drew ?_)|(with_reducible refine Below.alloc ?_ ?_ _)|(with_reducible refine Below.setCell ?_ ?_ _)|(with_reducible refine Below.then_ ?_ (by assumption) ?_)|go_size))
 rintro e w1 ⟨rfl,hb1⟩
 obtain ⟨hc1,hf1⟩:=Zy4 hb1
 have hz1:=hb1.size
 repeat (first|rw[World.size_alloc] at hz1|rw[World.size_setCell] at hz1)
 have l1_0:w.heap.size<w1.heap.size:=by omega
 by_cases q1:left<((wtL wtSig x.signals):Nat)
 ·rw[Zza q1]
  go_wp2
  go_ret
  exact ⟨ZyY (by unfold ZlK;rw[if_pos (by omega)]),by (repeat' (first|(with_reducible exact Below.refl _ _)|(with_reducible assumption)|(with_reducible refine Zbf ?_ _)|(with_reducible refine Below.drew ?_)|(with_reducible refine Below.alloc ?_ ?_ _)|(with_reducible refine Below.setCell ?_ ?_ _)|(with_reducible refine Below.then_ ?_ (by assumption) ?_)|go_size))⟩
 ·rw[Zzc q1]
  go_wp2_with fail
  refine (szWireS A_wires c_wires x.wires (left - ((wtL wtSig x.signals):Nat)) _ (by omega) (RA.to g5 ?hb) (by omega) (by omega)).mono ?_
  case hb=>(repeat' (first|(with_reducible exact Below.refl _ _)|(with_reducible assumption)|(with_reducible refine Zbf ?_ _)|(with_reducible refine Below.drew ?_)|(with_reducible refine Below.alloc ?_ ?_ _)|(with_reducible refine Below.setCell ?_ ?_ _)|(with_reducible refine Below.then_ ?_ (by assumption) ?_)|go_size))
  rintro e w2 ⟨rfl,hb2⟩
  obtain ⟨hc2,hf2⟩:=Zy4 hb2
  have hz2:=hb2.size
  repeat (first|rw[World.size_alloc] at hz2|rw[World.size_setCell] at hz2)
  have l2_0:w.heap.size<w2.heap.size:=by omega
  by_cases q2:left - ((wtL wtSig x.signals):Nat)<((wtL wtWire x.wires):Nat)
  ·rw[Zza q2]
   go_wp2
   go_ret
   exact ⟨ZyY (by unfold ZlK;rw[if_pos (by omega)]),by (repeat' (first|(with_reducible exact Below.refl _ _)|(with_reducible assumption)|(with_reducible refine Zbf ?_ _)|(with_reducible refine Below.drew ?_)|(with_reducible refine Below.alloc ?_ ?_ _)|(with_reducible refine Below.setCell ?_ ?_ _)|(with_reducible refine Below.then_ ?_ (by assumption) ?_)|go_size))⟩
  ·rw[Zzc q2]
   go_wp2
   go_ret
   exact ⟨ZyY (by (unfold ZlK;rw[if_neg (by omega)])<;>omega),by (repeat' (first|(with_reducible exact Below.refl _ _)|(with_reducible assumption)|(with_reducible refine Zbf ?_ _)|(with_reducible refine Below.drew ?_)|(with_reducible refine Below.alloc ?_ ?_ _)|(with_reducible refine Below.setCell ?_ ?_ _)|(with_reducible refine Below.then_ ?_ (by assumption) ?_)|go_size))⟩
set_option maxHeartbeats 1000000 in
theorem toNetlist (x:Nl) (A_signals:Option Addr) (c_signals:Nat) (A_wires:Option Addr) (c_wires:Nat) (w:World) (g0:(x.signals).length≤c_signals) (g1:c_signals≤9223372036854775807) (g2:RA ZjN w A_signals x.signals) (g3:(x.wires).length≤c_wires) (g4:c_wires≤9223372036854775807) (g5:RA ZzP w A_wires x.wires) (hs:wtNl x≤1048576):
 Calls Tryz.prog 16 #[.agg #[.slice A_signals (x.signals).length c_signals,.slice A_wires (x.wires).length c_wires]] w fun e w'=>∃A_signals' A_wires',e=.returned (.agg #[.slice A_signals' (x.signals).length (x.signals).length,.slice A_wires' (x.wires).length (x.wires).length])∧RSl ZjN w' (Zy9 w w') A_signals' x.signals∧RSl ZzP w' (Zy9 w w') A_wires' x.wires∧Below w.heap.size w w'∧Frz w w':=by
 unfold wtNl at hs
 go_enter Tryz.func16,Tryz.ntmps16
 go_wp2_with fail
 refine (toSignalS A_signals c_signals x.signals _ (by omega) (RA.to g2 ?hb)).mono ?_
 case hb=>(repeat' (first|(with_reducible exact Below.refl _ _)|(with_reducible assumption)|(with_reducible refine Zbf ?_ _)|(with_reducible refine Below.drew ?_)|(with_reducible refine Below.alloc ?_ ?_ _)|(with_reducible refine Below.setCell ?_ ?_ _)|(with_reducible refine Below.then_ ?_ (by assumption) ?_)|go_size))
 rintro e w1 ⟨A_signals',rfl,r1,hb1,fz1⟩
 obtain ⟨hc1,hf1⟩:=Zy4 hb1
 have hz1:=hb1.size
 repeat (first|rw[World.size_alloc] at hz1|rw[World.size_setCell] at hz1)
 have l1_0:w.heap.size<w1.heap.size:=by omega
 have l1_1:w.heap.size+1<w1.heap.size:=by omega
 have l1_2:w.heap.size+1+1<w1.heap.size:=by omega
 go_wp2_with fail
 refine (toWireS A_wires c_wires x.wires _ (by omega) (RA.to g5 ?hb)).mono ?_
 case hb=>(repeat' (first|(with_reducible exact Below.refl _ _)|(with_reducible assumption)|(with_reducible refine Zbf ?_ _)|(with_reducible refine Below.drew ?_)|(with_reducible refine Below.alloc ?_ ?_ _)|(with_reducible refine Below.setCell ?_ ?_ _)|(with_reducible refine Below.then_ ?_ (by assumption) ?_)|go_size))
 rintro e w2 ⟨A_wires',rfl,r2,hb2,fz2⟩
 obtain ⟨hc2,hf2⟩:=Zy4 hb2
 have hz2:=hb2.size
 repeat (first|rw[World.size_alloc] at hz2|rw[World.size_setCell] at hz2)
 have l2_0:w.heap.size<w2.heap.size:=by omega
 have l2_1:w.heap.size+1<w2.heap.size:=by omega
 have l2_2:w.heap.size+1+1<w2.heap.size:=by omega
 go_wp2
 refine bodyPost_ret (v:=.agg #[.slice A_signals' (x.signals).length (x.signals).length,.slice A_wires' (x.wires).length (x.wires).length]) ?_ rfl ?_
 ·simp[results,Tryz.results16,go_sem, *]
 exact ⟨_,_,rfl,(r1).keep (by (refine Agree.out ?_;repeat' (first|(with_reducible exact Agree.refl _ _)|(with_reducible refine Agree.drew ?_)|(with_reducible refine Agree.drewN ?_ _)|(with_reducible refine Agree.setCell ?_ ?_ _)|(with_reducible refine Agree.alloc ?_ ?_ _)|(with_reducible refine Agree.then_ ?_ (by assumption) ?_)|(intro b hb;obtain ⟨hb1,hb2⟩:=hb;(first|omega|((try simp at hb1);(try simp at hb2);(try simp);omega)))))) (by (intro b hb;obtain ⟨hb1,hb2⟩:=hb;exact ⟨by (first|omega|((try simp at hb1);(try simp at hb2);(try simp);omega)),by (first|omega|((try simp at hb1);(try simp at hb2);(try simp);omega))⟩)),(r2).keep (by (refine Agree.out ?_;repeat' (first|(with_reducible exact Agree.refl _ _)|(with_reducible refine Agree.drew ?_)|(with_reducible refine Agree.drewN ?_ _)|(with_reducible refine Agree.setCell ?_ ?_ _)|(with_reducible refine Agree.alloc ?_ ?_ _)|(with_reducible refine Agree.then_ ?_ (by assumption) ?_)|(intro b hb;obtain ⟨hb1,hb2⟩:=hb;(first|omega|((try simp at hb1);(try simp at hb2);(try simp);omega)))))) (by (intro b hb;obtain ⟨hb1,hb2⟩:=hb;exact ⟨by (first|omega|((try simp at hb1);(try simp at hb2);(try simp);omega)),by (first|omega|((try simp at hb1);(try simp at hb2);(try simp);omega))⟩)),by (repeat' (first|(with_reducible exact Below.refl _ _)|(with_reducible assumption)|(with_reducible refine Zbf ?_ _)|(with_reducible refine Below.drew ?_)|(with_reducible refine Below.alloc ?_ ?_ _)|(with_reducible refine Below.setCell ?_ ?_ _)|(with_reducible refine Below.then_ ?_ (by assumption) ?_)|go_size)),by (repeat' (first|(with_reducible exact Frz.refl _)|(with_reducible assumption)|(with_reducible refine Frz.drewN ?_ _)|(with_reducible refine Frz.drew ?_)|(with_reducible refine Frz.alloc ?_ _ _)|(with_reducible refine Frz.setCell ?_ _ _)|(with_reducible refine Frz.then_ ?_ (by assumption))))⟩
set_option maxHeartbeats 1000000 in
theorem eqNetlist (x:Nl) (A_signals:Option Addr) (c_signals:Nat) (A_wires:Option Addr) (c_wires:Nat) (A_signals':Option Addr) (c_signals':Nat) (A_wires':Option Addr) (c_wires':Nat) (w:World) (g0:(x.signals).length≤c_signals) (g1:c_signals≤9223372036854775807) (g2:RA ZjN w A_signals x.signals) (g3:(x.wires).length≤c_wires) (g4:c_wires≤9223372036854775807) (g5:RA ZzP w A_wires x.wires) (g0':(x.signals).length≤c_signals') (g1':c_signals'≤9223372036854775807) (g2':RA ZjN w A_signals' x.signals) (g3':(x.wires).length≤c_wires') (g4':c_wires'≤9223372036854775807) (g5':RA ZzP w A_wires' x.wires):
 Calls Tryz.prog 20 #[.agg #[.slice A_signals (x.signals).length c_signals,.slice A_wires (x.wires).length c_wires],.agg #[.slice A_signals' (x.signals).length c_signals',.slice A_wires' (x.wires).length c_wires']] w fun e w'=>e=.returned (.bool true)∧Below w.heap.size w w':=by
 go_enter Tryz.func20,Tryz.ntmps20
 go_wp2_with fail
 refine (eqSignalS A_signals A_signals' c_signals c_signals' x.signals _ (by omega) (RA.to g2 ?hb) (RA.to g2' ?hb2)).mono ?_
 case hb=>(repeat' (first|(with_reducible exact Below.refl _ _)|(with_reducible assumption)|(with_reducible refine Zbf ?_ _)|(with_reducible refine Below.drew ?_)|(with_reducible refine Below.alloc ?_ ?_ _)|(with_reducible refine Below.setCell ?_ ?_ _)|(with_reducible refine Below.then_ ?_ (by assumption) ?_)|go_size))
 case hb2=>(repeat' (first|(with_reducible exact Below.refl _ _)|(with_reducible assumption)|(with_reducible refine Zbf ?_ _)|(with_reducible refine Below.drew ?_)|(with_reducible refine Below.alloc ?_ ?_ _)|(with_reducible refine Below.setCell ?_ ?_ _)|(with_reducible refine Below.then_ ?_ (by assumption) ?_)|go_size))
 rintro e w1 ⟨rfl,hb1⟩
 obtain ⟨hc1,hf1⟩:=Zy4 hb1
 have hz1:=hb1.size
 repeat (first|rw[World.size_alloc] at hz1|rw[World.size_setCell] at hz1)
 have l1_0:w.heap.size<w1.heap.size:=by omega
 have l1_1:w.heap.size+1<w1.heap.size:=by omega
 go_wp2_with fail
 refine (eqWireS A_wires A_wires' c_wires c_wires' x.wires _ (by omega) (RA.to g5 ?hb) (RA.to g5' ?hb2)).mono ?_
 case hb=>(repeat' (first|(with_reducible exact Below.refl _ _)|(with_reducible assumption)|(with_reducible refine Zbf ?_ _)|(with_reducible refine Below.drew ?_)|(with_reducible refine Below.alloc ?_ ?_ _)|(with_reducible refine Below.setCell ?_ ?_ _)|(with_reducible refine Below.then_ ?_ (by assumption) ?_)|go_size))
 case hb2=>(repeat' (first|(with_reducible exact Below.refl _ _)|(with_reducible assumption)|(with_reducible refine Zbf ?_ _)|(with_reducible refine Below.drew ?_)|(with_reducible refine Below.alloc ?_ ?_ _)|(with_reducible refine Below.setCell ?_ ?_ _)|(with_reducible refine Below.then_ ?_ (by assumption) ?_)|go_size))
 rintro e w2 ⟨rfl,hb2⟩
 obtain ⟨hc2,hf2⟩:=Zy4 hb2
 have hz2:=hb2.size
 repeat (first|rw[World.size_alloc] at hz2|rw[World.size_setCell] at hz2)
 have l2_0:w.heap.size<w2.heap.size:=by omega
 have l2_1:w.heap.size+1<w2.heap.size:=by omega
 go_wp2
 go_ret
 exact ⟨rfl,by (repeat' (first|(with_reducible exact Below.refl _ _)|(with_reducible assumption)|(with_reducible refine Zbf ?_ _)|(with_reducible refine Below.drew ?_)|(with_reducible refine Below.alloc ?_ ?_ _)|(with_reducible refine Below.setCell ?_ ?_ _)|(with_reducible refine Below.then_ ?_ (by assumption) ?_)|go_size))⟩
set_option maxHeartbeats 1000000 in
theorem eqHazard (x:Hzd)   (w:World)   :
 Calls Tryz.prog 76 #[.agg #[.int .i64 x.at_,.int .i64 x.wire,.int .i64 x.by_],.agg #[.int .i64 x.at_,.int .i64 x.wire,.int .i64 x.by_]] w fun e w'=>e=.returned (.bool true)∧Below w.heap.size w w':=by
 go_enter Tryz.func76,Tryz.ntmps76
 go_wp2
 go_ret
 exact ⟨rfl,by (repeat' (first|(with_reducible exact Below.refl _ _)|(with_reducible assumption)|(with_reducible refine Zbf ?_ _)|(with_reducible refine Below.drew ?_)|(with_reducible refine Below.alloc ?_ ?_ _)|(with_reducible refine Below.setCell ?_ ?_ _)|(with_reducible refine Below.then_ ?_ (by assumption) ?_)|go_size))⟩
set_option maxHeartbeats 1000000 in
theorem eqHazardS (A A':Option Addr) (c c':Nat) (l:(List Hzd)) (w:World) (hl:l.length≤9223372036854775807) (hr:RA Zv7 w A l) (hr':RA Zv7 w A' l):
 Calls Tryz.prog 32 #[.slice A l.length c,.slice A' l.length c'] w fun e w'=>e=.returned (.bool true)∧Below w.heap.size w w':=by
 go_enter Tryz.func32,Tryz.ntmps32
 go_wp2
 go_loopw [5] (fun i wr=>∃k:Nat,k≤l.length∧i=.int .i64 k∧Below w.heap.size w wr) (fun i _=>l.length - (intOf i).toNat)
 case atStart=>exact ⟨0,Nat.zero_le _,rfl,Below.refl _ _⟩
 case round=>
  obtain ⟨k,hk,rfl,hb⟩:=hrel
  have hsz:=hb.size
  by_cases hlt:k<l.length
  ·obtain ⟨x,hx⟩:=Zc0 hlt
   obtain ⟨b,off,rfl,hbl,d0,d1,d2,f0,f1,f2⟩:=hr.Hzd_at hb hx
   obtain ⟨b',off',rfl,hbl',d0',d1',d2',f0',f1',f2'⟩:=hr'.Hzd_at hb hx
   have HX:=Zbs hx;clear hx
   go_wp2_with fail
   go_region_held3 (fun W=>W.cell? ⟨b,off+k * 3,none⟩=some (.int .i64 x.at_)∧W.cell? ⟨b,off+k * 3+1,none⟩=some (.int .i64 x.wire)∧W.cell? ⟨b,off+k * 3+2,none⟩=some (.int .i64 x.by_)∧W.cell? ⟨b',off'+k * 3,none⟩=some (.int .i64 x.at_)∧W.cell? ⟨b',off'+k * 3+1,none⟩=some (.int .i64 x.wire)∧W.cell? ⟨b',off'+k * 3+2,none⟩=some (.int .i64 x.by_)) (first|exact ⟨d0,d1,d2,d0',d1',d2'⟩|exact ⟨(cell_later hb1 d0),(cell_later hb1 d1),(cell_later hb1 d2),(cell_later hb1 d0'),(cell_later hb1 d1'),(cell_later hb1 d2')⟩) (first|(go_at_call 76;refine (eqHazard x   _  ).mono ?_;rintro e w1 ⟨rfl,hb1⟩))
   have hb2:=hb.drew.trans (hb1.mono hsz)
   go_wp2_with fail
   go_roundw
   case rel=>exact ⟨k+1,by omega,by go_num,by (repeat' (first|(with_reducible exact Below.refl _ _)|(with_reducible assumption)|(with_reducible refine Zbf ?_ _)|(with_reducible refine Below.drew ?_)|(with_reducible refine Below.alloc ?_ ?_ _)|(with_reducible refine Below.setCell ?_ ?_ _)|(with_reducible refine Below.then_ ?_ (by assumption) ?_)|go_size))⟩
   case measure=>simp[intOf];omega
  ·go_wp2
   go_ret
   exact ⟨rfl,by (repeat' (first|(with_reducible exact Below.refl _ _)|(with_reducible assumption)|(with_reducible refine Zbf ?_ _)|(with_reducible refine Below.drew ?_)|(with_reducible refine Below.alloc ?_ ?_ _)|(with_reducible refine Below.setCell ?_ ?_ _)|(with_reducible refine Below.then_ ?_ (by assumption) ?_)|go_size))⟩
set_option maxHeartbeats 1000000 in
theorem eqWireFlip (x:Flip)   (w:World)   :
 Calls Tryz.prog 63 #[.agg #[.int .i64 x.from_,.int .i64 x.wire,.int .i64 x.to],.agg #[.int .i64 x.from_,.int .i64 x.wire,.int .i64 x.to]] w fun e w'=>e=.returned (.bool true)∧Below w.heap.size w w':=by
 go_enter Tryz.func63,Tryz.ntmps63
 go_wp2
 go_ret
 exact ⟨rfl,by (repeat' (first|(with_reducible exact Below.refl _ _)|(with_reducible assumption)|(with_reducible refine Zbf ?_ _)|(with_reducible refine Below.drew ?_)|(with_reducible refine Below.alloc ?_ ?_ _)|(with_reducible refine Below.setCell ?_ ?_ _)|(with_reducible refine Below.then_ ?_ (by assumption) ?_)|go_size))⟩
set_option maxHeartbeats 1000000 in
theorem eqWireFlipS (A A':Option Addr) (c c':Nat) (l:(List Flip)) (w:World) (hl:l.length≤9223372036854775807) (hr:RA Zqy w A l) (hr':RA Zqy w A' l):
 Calls Tryz.prog 18 #[.slice A l.length c,.slice A' l.length c'] w fun e w'=>e=.returned (.bool true)∧Below w.heap.size w w':=by
 go_enter Tryz.func18,Tryz.ntmps18
 go_wp2
 go_loopw [5] (fun i wr=>∃k:Nat,k≤l.length∧i=.int .i64 k∧Below w.heap.size w wr) (fun i _=>l.length - (intOf i).toNat)
 case atStart=>exact ⟨0,Nat.zero_le _,rfl,Below.refl _ _⟩
 case round=>
  obtain ⟨k,hk,rfl,hb⟩:=hrel
  have hsz:=hb.size
  by_cases hlt:k<l.length
  ·obtain ⟨x,hx⟩:=Zc0 hlt
   obtain ⟨b,off,rfl,hbl,d0,d1,d2,f0,f1,f2⟩:=hr.Flip_at hb hx
   obtain ⟨b',off',rfl,hbl',d0',d1',d2',f0',f1',f2'⟩:=hr'.Flip_at hb hx
   have HX:=Zbs hx;clear hx
   go_wp2_with fail
   go_region_held3 (fun W=>W.cell? ⟨b,off+k * 3,none⟩=some (.int .i64 x.from_)∧W.cell? ⟨b,off+k * 3+1,none⟩=some (.int .i64 x.wire)∧W.cell? ⟨b,off+k * 3+2,none⟩=some (.int .i64 x.to)∧W.cell? ⟨b',off'+k * 3,none⟩=some (.int .i64 x.from_)∧W.cell? ⟨b',off'+k * 3+1,none⟩=some (.int .i64 x.wire)∧W.cell? ⟨b',off'+k * 3+2,none⟩=some (.int .i64 x.to)) (first|exact ⟨d0,d1,d2,d0',d1',d2'⟩|exact ⟨(cell_later hb1 d0),(cell_later hb1 d1),(cell_later hb1 d2),(cell_later hb1 d0'),(cell_later hb1 d1'),(cell_later hb1 d2')⟩) (first|(go_at_call 63;refine (eqWireFlip x   _  ).mono ?_;rintro e w1 ⟨rfl,hb1⟩))
   have hb2:=hb.drew.trans (hb1.mono hsz)
   go_wp2_with fail
   go_roundw
   case rel=>exact ⟨k+1,by omega,by go_num,by (repeat' (first|(with_reducible exact Below.refl _ _)|(with_reducible assumption)|(with_reducible refine Zbf ?_ _)|(with_reducible refine Below.drew ?_)|(with_reducible refine Below.alloc ?_ ?_ _)|(with_reducible refine Below.setCell ?_ ?_ _)|(with_reducible refine Below.then_ ?_ (by assumption) ?_)|go_size))⟩
   case measure=>simp[intOf];omega
  ·go_wp2
   go_ret
   exact ⟨rfl,by (repeat' (first|(with_reducible exact Below.refl _ _)|(with_reducible assumption)|(with_reducible refine Zbf ?_ _)|(with_reducible refine Below.drew ?_)|(with_reducible refine Below.alloc ?_ ?_ _)|(with_reducible refine Below.setCell ?_ ?_ _)|(with_reducible refine Below.then_ ?_ (by assumption) ?_)|go_size))⟩
end Go.Proofs.YtpceleehbpnchaaGreat.Lw
