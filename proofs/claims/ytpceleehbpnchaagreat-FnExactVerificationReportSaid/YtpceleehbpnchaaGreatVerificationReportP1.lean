import Derived.Test.YtpceleehbpnchaaGreatVerificationReportF
import Derived.Test.YtpceleehbpnchaaGreatData
import Derived.Test.YtpceleehbpnchaaGreatDistPure
import Derived.Test.YtpceleehbpnchaaGreatSysPure
import Derived.Test.YtpceleehbpnchaaGreatWayPure
namespace Go.Proofs.YtpceleehbpnchaaGreat
open Go.RowKit
set_option linter.unusedVariables false
set_option linter.unusedSimpArgs false
theorem ZaJ (n lo hi:Int):Zak [pI n,pI lo,pI hi]=some (pB (decide (lo≤n)&&decide (n≤hi))):=by
 show (fun x0 x1 x2=>Zak [x0,x1,x2]) _ _ _=_
 rw[Zyz]
 by_cases h:lo≤n<;>simp only[h,EVS]
def Zz1 (first:Bool) (b:UInt8):Bool:=(decide ((97:Int)≤b.toNat)&&decide ((b.toNat:Int)≤122))||(!first&&(!decide ((b.toNat:Int)<48)&& !decide ((57:Int)<b.toNat)))
def Zkv :Bool→List UInt8→Bool
 |_,[]=>true
 |f,b::r=>Zz1 f b&&Zkv false r
def ZaO (s:List UInt8):Bool:=Zkv true s&&(decide ((1:Int)≤s.length)&&decide ((s.length:Int)≤6))
theorem Zo1 (s:List UInt8) (hs:s.length≤9223372036854775807):ZfI [.str s]=some (pB (ZaO s)):=by
 show (fun x0=>ZfI [x0]) _=_
 rw[ZuV]
 refine (congrArg (Zf true) (ZaP (R:=PV) (fun k:Nat=>[pI (Int.ofNat k)]) (fun k=>s.length+1 - k) (fun k=>some (pB (Zkv (k==0) (s.drop k)&&(decide ((1:Int)≤s.length)&&decide ((s.length:Int)≤6))))) _ (fun again k ih=> ?_) _ 0 (by omega))).trans ?_
 ·by_cases hk:k<s.length
  ·obtain ⟨b,hb⟩:∃b,s[k]?=some b:=⟨s[k],List.getElem?_eq_getElem hk⟩
   have hd:s.drop k=b::s.drop (k+1):=by
    obtain ⟨h1,rfl⟩:=List.getElem?_eq_some_iff.1 hb
    exact List.drop_eq_getElem_cons h1
   have hlt:decide ((k:Int)<s.length)=true:=by simpa using hk
   have hw:IntKind.i64.wrap ((k:Int)+1)=((k+1:Nat):Int):=by rw[Zav (by omega) (by omega)];omega
   have hnext:=ih (k+1) (by omega)
   simp only[Int.ofNat_eq_natCast] at hnext
   have hk0:decide ((k:Int)=0)=(k==0):=by rw[Bool.eq_iff_iff];simp
   rw[hd]
   have hk1:(k+1==0)=false:=rfl
   rw[hk1] at hnext
   have ev1:=hlt
   have ev2:=Zr (k:=.i64) hb
   simp only[Zkv,Zz1,hlt,Zr hb,hk0,hw,hnext,EVS]
   by_cases c1:(97:Int)≤b.toNat
   all_goals simp only[c1,Zr hb,EVS]
   by_cases c2:(b.toNat:Int)≤122
   all_goals try simp only[c2,Zr hb,EVS]
   all_goals try simp only[hk0]
   all_goals try (cases c5:(k==0))
   all_goals try simp only[c5,Zr hb,EVS]
   all_goals try (by_cases c3:(b.toNat:Int)<48)
   all_goals try simp only[c3,Zr hb,EVS]
   all_goals try (by_cases c4:(57:Int)<b.toNat)
   all_goals try simp only[c4,Zr hb,EVS]
  ·have hd:s.drop k=[]:=List.drop_eq_nil_of_le (by omega)
   have hlt:decide ((k:Int)<s.length)=false:=by simpa using hk
   rw[hd]
   simp only[Zkv,hlt,ZaJ,EVS]
 ·simp only[ZaO,List.drop_zero,beq_self_eq_true,EVS]
def Znk (b:UInt8):Bool:=decide ((b.toNat:Int)=48)||decide ((b.toNat:Int)=49)||decide ((b.toNat:Int)=45)
def ZlJ (s:List UInt8):Bool:=ZN (fun _ b=>Znk b) 0 s&&(decide ((1:Int)≤s.length)&&decide ((s.length:Int)≤8))
theorem Ze {α:Type} {l:List α} {k:Nat} {x:α} (h:l[k]?=some x):k<l.length:=(List.getElem?_eq_some_iff.1 h).1
theorem Zi {k n:Nat} (h:k<n) (hn:n≤9223372036854775807):IntKind.i64.wrap ((k:Int)+1)=((k+1:Nat):Int):=by rw[Zav (by omega) (by omega)];omega
theorem Zs {k n:Nat} (h:k<n):decide ((k:Int)<(n:Int))=true:=by simpa using h
theorem ZW {n:Nat}:decide ((n:Int)<(n:Int))=false:=by simp
theorem Zt6 (s:List UInt8) (hs:s.length≤9223372036854775807):Zge [.str s]=some (pB (ZlJ s)):=by
 show (fun x0=>Zge [x0]) _=_
 rw[ZsC]
 refine (congrArg (Zf true) (ZO (R:=PV) s (fun _ b=>Znk b) (some (pB false)) (some (pB (decide ((1:Int)≤s.length)&&decide ((s.length:Int)≤8)))) _ hs (fun again k b hb=> ?_) (fun again=> ?_))).trans ?_
 ·have hk:=Ze hb
  cases c1:decide ((b.toNat:Int)=48)<;>cases c2:decide ((b.toNat:Int)=49)<;>cases c3:decide ((b.toNat:Int)=45)<;>
   simp only[Znk,Zs hk,Zi hk hs,Zr hb,c1,c2,c3,EVS]
 ·simp only[ZW,ZaJ,EVS]
 ·unfold ZlJ
  cases ZN (fun _ b=>Znk b) 0 s<;>simp only[EVS]
abbrev ZD (s:List UInt8×Int):PV:=.agg [.str s.1,pI s.2]
def inR (n lo hi:Int):Bool:=decide (lo≤n)&&decide (n≤hi)
def Zq5 (l:List (List UInt8×Int)) (k:Nat) (s:List UInt8×Int):Bool:=(ZaO s.1&&inR s.2 1 3)&&ZN (fun _ y=> !decide (s.1=y.1)) 0 (l.take k)
def Zkc (l:List (List UInt8×Int)):Bool:=ZN (Zq5 l) 0 l&&inR l.length 1 8
theorem Zq6 (x:List UInt8×Int):Zao 2 (ZD x)=true:=rfl
theorem Zkd (l:List (List UInt8×Int)) (hl:l.length≤9223372036854775807) (hs:∀s∈l,s.1.length≤9223372036854775807):Zdp [.lst (l.map ZD)]=some (pB (Zkc l)):=by
 show (fun x0=>Zdp [x0]) _=_
 rw[ZpK]
 simp only[EVS]
 refine (congrArg (Zf true) (ZO (R:=PV) l (Zq5 l) (some (pB false)) (some (pB (inR l.length 1 8))) _ hl (fun again k s hb=> ?_) (fun again=> ?_))).trans ?_
 ·have hk:=Ze hb
  have hi:Zk (.lst (l.map ZD)) (.int .i64 (k:Int))=some (ZD s):=Zj hb
  have hc:ZnA 2 (.lst (l.map ZD)) none (some (.int .i64 (k:Int)))=some (.lst ((l.take k).map ZD)):=ZnV Zq6 (by omega)
  have hn:=Zo1 s.1 (hs s (List.mem_of_getElem? hb))
  simp only[Zs hk,Zi hk hl,hi,ZD,hn,ZaJ,Zq5,inR,EVS]
  obtain c1|c1:=(Bool.eq_false_or_eq_true (ZaO s.1)).symm<;>simp only[c1,ZaJ,EVS]
  obtain c2|c2:=(Bool.eq_false_or_eq_true (decide (1≤s.2)&&decide (s.2≤3))).symm<;>simp only[c2,EVS]
  simp only[hc,EVS]
  refine (ZO (R:=PV) (l.take k) (fun _ y=> !decide (s.1=y.1)) (some (pB false)) (again [pI ((k+1:Nat):Int)]) _ (by simp;omega) (fun again' j y hy=> ?_) (fun again'=> ?_)).trans ?_
  ·have hj:=Ze hy
   have hi':Zk (.lst ((l.take k).map ZD)) (.int .i64 (j:Int))=some (ZD y):=Zj hy
   simp only[Zs hj,Zi hj (by simp;omega),hi',ZD,EVS]
   cases c3:decide (s.1=y.1)<;>simp only[c3,EVS]
  ·simp only[ZW,Zi hk hl,EVS]
  ·rfl
 ·simp only[ZW,ZaJ,inR,EVS]
 ·unfold Zkc
  cases ZN (Zq5 l) 0 l<;>simp only[EVS]
def Zn5 (n:Int) (l:List (List UInt8)):Bool:=ZN (fun _ c=>ZlJ c&&decide ((c.length:Int)=n)) 0 l
def Zo2 (n:Int) (l:List (List UInt8)):Bool:=Zn5 n l&&(inR n 1 8&&decide ((l.length:Int)≤60))
theorem Zt7 (n:Int) (l:List (List UInt8)) (hl:l.length≤9223372036854775807) (hs:∀s∈l,s.length≤9223372036854775807):Zgf [pI n,.lst (l.map PV.str)]=some (pB (Zo2 n l)):=by
 show (fun x0 x1=>Zgf [x0,x1]) _ _=_
 rw[ZsE]
 simp only[EVS]
 refine (congrArg (Zf true) (ZO (R:=PV) l (fun _ c=>ZlJ c&&decide ((c.length:Int)=n)) (some (pB false)) (some (pB (inR n 1 8&&decide ((l.length:Int)≤60)))) _ hl (fun again k s hb=> ?_) (fun again=> ?_))).trans ?_
 ·have hk:=Ze hb
  have hi:Zk (.lst (l.map PV.str)) (.int .i64 (k:Int))=some (.str s):=Zj hb
  have hn:=Zt6 s (hs s (List.mem_of_getElem? hb))
  simp only[Zs hk,Zi hk hl,hi,hn,EVS]
  obtain c1|c1:=(Bool.eq_false_or_eq_true (ZlJ s)).symm<;>simp only[c1,EVS]
  obtain c2|c2:=(Bool.eq_false_or_eq_true (decide ((s.length:Int)=n))).symm<;>simp only[c2,EVS]
 ·simp only[ZW,ZaJ,inR,EVS]
  obtain c1|c1:=(Bool.eq_false_or_eq_true (decide (1≤n)&&decide (n≤8))).symm<;>simp only[c1,EVS]
 ·unfold Zo2 Zn5
  cases ZN (fun _ c=>ZlJ c&&decide ((c.length:Int)=n)) 0 l<;>simp only[EVS]
structure PWire where
 name:List UInt8
 kind:Int
 ins:List (Int×Bool)
 cover:List (List UInt8)
structure PNet where
 signals:List (List UInt8×Int)
 wires:List PWire
abbrev Zac (p:Int×Bool):PV:=.agg [pI p.1,pB p.2]
abbrev Zo (w:PWire):PV:=.agg [.str w.name,pI w.kind,.lst (w.ins.map Zac),.lst (w.cover.map PV.str)]
abbrev Zp (n:PNet):PV:=.agg [.lst (n.signals.map ZD),.lst (n.wires.map Zo)]
abbrev ZA {α:Type} (l:List α):Prop:=l.length≤9223372036854775807
structure PWire.Fit (w:PWire):Prop where
 name:ZA w.name
 ins:ZA w.ins
 cover:ZA w.cover
 cubes:∀c∈w.cover,ZA c
structure PNet.Fit (n:PNet):Prop where
 signals:ZA n.signals
 names:∀s∈n.signals,ZA s.1
 wires:ZA n.wires
 wire:∀w∈n.wires,w.Fit
def ZiI (n:PNet) (k:Nat) (p:Int×Bool):Bool:=inR p.1 0 ((n.wires.length:Int) - 1)&& !(decide ((n.signals.length:Int)≤k)&&decide ((k:Int)≤p.1))
def Zf2 (k:Nat) (kind:Int) (ins:List (Int×Bool)):Bool:=
 if decide (kind=1)=true then decide ((ins.length:Int)=0)
 else if decide (kind=4)=true then decide ((ins.length:Int)=2)
 else if decide (kind=5)=true then decide ((ins.length:Int)=0)||(match ins with|[p]=>decide (p.1=k)&& !p.2|_=>false)
 else inR ins.length 1 8
def Zq7 (n:PNet) (k:Nat) (w:PWire):Bool:=ZN (fun _ p=>ZiI n k p) 0 w.ins&&Zf2 k w.kind w.ins
theorem Zt8 (n:PNet) (k:Nat) (w:PWire) (hn:n.Fit) (hw:w.Fit):Zgg [Zp n,pI k,Zo w]=some (pB (Zq7 n k w)):=by
 show (fun x0 x1 x2=>Zgg [x0,x1,x2]) _ _ _=_
 rw[ZsG]
 simp only[Zp,Zo,EVS]
 have hwl:IntKind.i64.wrap ((n.wires.length:Int) - 1)=(n.wires.length:Int) - 1:=Zav (by omega) (by have:=hn.wires;unfold ZA at this;omega)
 have hi0:=hw.ins
 unfold ZA at hi0
 refine (congrArg (Zf true) (ZO (R:=PV) w.ins (fun _ p=>ZiI n k p) (some (pB false)) (some (pB (Zf2 k w.kind w.ins))) _ hi0 (fun again j p hb=> ?_) (fun again=> ?_))).trans ?_
 ·have hk:=Ze hb
  have hi:Zk (.lst (w.ins.map Zac)) (.int .i64 (j:Int))=some (Zac p):=Zj hb
  simp only[Zs hk,Zi hk hi0,hi,Zac,hwl,ZaJ,ZiI,inR,EVS]
  obtain c1|c1:=(Bool.eq_false_or_eq_true (decide (0≤p.1)&&decide (p.1≤(n.wires.length:Int) - 1))).symm<;>simp only[c1,EVS]
  obtain c2|c2:=(Bool.eq_false_or_eq_true (decide ((n.signals.length:Int)≤(k:Int)))).symm<;>simp only[c2,EVS]
  obtain c3|c3:=(Bool.eq_false_or_eq_true (decide ((k:Int)≤p.1))).symm<;>simp only[c3,EVS]
 ·simp only[ZW,Zf2,EVS]
  obtain c1|c1:=(Bool.eq_false_or_eq_true (decide (w.kind=1))).symm<;>simp only[c1,EVS]
  obtain c2|c2:=(Bool.eq_false_or_eq_true (decide (w.kind=4))).symm<;>simp only[c2,EVS]
  obtain c3|c3:=(Bool.eq_false_or_eq_true (decide (w.kind=5))).symm<;>simp only[c3,ZaJ,inR,EVS]
  have h01:decide ((0:Int)=1)=false:=rfl
  have h00:decide ((0:Int)=0)=true:=rfl
  have h11:decide ((1:Int)=1)=true:=rfl
  have h10:decide ((1:Int)=0)=false:=rfl
  rcases hq:w.ins with _|⟨p,_|⟨q,r⟩⟩
  ·simp only[List.length_nil,h00,EVS]
  ·have hi:Zk (.lst ([p].map Zac)) (.int .i64 0)=some (Zac p):=rfl
   simp only[List.length_cons,List.length_nil,Nat.zero_add,h11,h10,hi,Zac,List.drop_zero,List.drop_succ_cons,EVS]
   obtain c4|c4:=(Bool.eq_false_or_eq_true (decide (p.1=(k:Int)))).symm<;>simp only[c4,h11,h10,hi,Zac,List.drop_zero,List.drop_succ_cons,EVS]
  ·have h2:decide (((r.length+1+1:Nat):Int)=0)=false:=by simp;omega
   have h3:decide (((r.length+1+1:Nat):Int)=1)=false:=by simp;omega
   simp only[List.length_cons,h2,h3,EVS]
 ·unfold Zq7
  cases ZN (fun _ p=>ZiI n k p) 0 w.ins<;>simp only[EVS]
def ZgR (n:PNet) (k:Nat) (w:PWire):Bool:=match n.signals[k]? with|some s=>decide (w.name=s.1)&&(decide (w.kind=1)==decide (s.2=1))|none=>false
def ZlK (n:PNet) (k:Nat) (w:PWire):Bool:=
 let seen:=decide ((k:Int)<(n.signals.length:Int))
 (inR w.kind 1 5&&(seen||decide (w.kind=2)||decide (w.kind=3)))&&(!seen||ZgR n k w)&&(if decide (w.kind=5)=true then Zo2 n.signals.length w.cover else !decide ((0:Int)<w.cover.length))&&(ZaO w.name&&Zq7 n k w)
theorem Zt9 (n:PNet) (k:Nat) (w:PWire) (hn:n.Fit) (hw:w.Fit):Zgh [Zp n,pI k,Zo w]=some (pB (ZlK n k w)):=by
 have g1:=Zt7 n.signals.length w.cover hw.cover hw.cubes
 have g2:=Zo1 w.name hw.name
 have g3:=Zt8 n k w hn hw
 have g4:=ZaJ w.kind 1 5
 simp only[Zp,Zo] at g3
 show (fun x0 x1 x2=>Zgh [x0,x1,x2]) _ _ _=_
 rw[ZsI]
 simp only[Zp,Zo,g4,EVS]
 have fin:∀b:Bool,((some (pB (ZaO w.name&&b))))=(some (pB (ZaO w.name&&b))):=fun _=>rfl
 simp only[ZlK,inR]
 obtain c1|c1:=(Bool.eq_false_or_eq_true (decide (1≤w.kind)&&decide (w.kind≤5))).symm<;>simp only[c1,EVS]
 obtain c2|c2:=(Bool.eq_false_or_eq_true (decide ((k:Int)<(n.signals.length:Int)))).symm<;>simp only[c2,EVS]
 ·obtain c3|c3:=(Bool.eq_false_or_eq_true (decide (w.kind=2))).symm<;>simp only[c3,EVS]
  ·obtain c4|c4:=(Bool.eq_false_or_eq_true (decide (w.kind=3))).symm<;>simp only[c4,EVS]
   have c5:decide (w.kind=5)=false:=by have:=of_decide_eq_true c4;simp;omega
   simp only[c5,EVS]
   obtain c6|c6:=(Bool.eq_false_or_eq_true (decide ((0:Int)<w.cover.length))).symm<;>simp only[c6,g2,EVS]
   obtain c7|c7:=(Bool.eq_false_or_eq_true (ZaO w.name)).symm<;>simp only[c7,g3,EVS]
  ·have c4:decide (w.kind=3)=false:=by have:=of_decide_eq_true c3;simp;omega
   have c5:decide (w.kind=5)=false:=by have:=of_decide_eq_true c3;simp;omega
   simp only[c4,c5,EVS]
   obtain c6|c6:=(Bool.eq_false_or_eq_true (decide ((0:Int)<w.cover.length))).symm<;>simp only[c6,g2,EVS]
   obtain c7|c7:=(Bool.eq_false_or_eq_true (ZaO w.name)).symm<;>simp only[c7,g3,EVS]
 ·have hk:k<n.signals.length:=by have:=of_decide_eq_true c2;omega
  have hs:n.signals[k]?=some n.signals[k]:=List.getElem?_eq_getElem hk
  have hi:Zk (.lst (n.signals.map ZD)) (.int .i64 (k:Int))=some (ZD n.signals[k]):=Zj hs
  simp only[ZgR,hs,hi,ZD,List.drop_zero,List.drop_succ_cons,EVS]
  obtain c3|c3:=(Bool.eq_false_or_eq_true (decide (w.name=n.signals[k].1))).symm<;>simp only[c3,hi,ZD,List.drop_zero,List.drop_succ_cons,EVS]
  obtain c4|c4:=(Bool.eq_false_or_eq_true (decide (w.kind=1)==decide (n.signals[k].2=1))).symm<;>simp only[bne,c4,hi,ZD,List.drop_zero,List.drop_succ_cons,EVS]
  obtain c5|c5:=(Bool.eq_false_or_eq_true (decide (w.kind=5))).symm<;>simp only[c5,g1,g2,EVS]
  ·obtain c6|c6:=(Bool.eq_false_or_eq_true (decide ((0:Int)<w.cover.length))).symm<;>simp only[c6,g2,EVS]
   obtain c7|c7:=(Bool.eq_false_or_eq_true (ZaO w.name)).symm<;>simp only[c7,g3,EVS]
  ·obtain c6|c6:=(Bool.eq_false_or_eq_true (Zo2 n.signals.length w.cover)).symm<;>simp only[c5,c6,g2,EVS]
   obtain c7|c7:=(Bool.eq_false_or_eq_true (ZaO w.name)).symm<;>simp only[c5,c7,g3,EVS]
def ZbJ (n:PNet) (k:Nat) (w:PWire):Bool:=ZlK n k w&&ZN (fun _ v=> !decide (v.name=w.name)) 0 (n.wires.take k)
def Zdi (n:PNet):Bool:=Zkc n.signals&&(!decide ((n.wires.length:Int)<n.signals.length)&& !decide ((24:Int)<n.wires.length))&&ZN (ZbJ n) 0 n.wires
theorem Zo3 (x:PWire):Zao 4 (Zo x)=true:=rfl
theorem Znl (n:PNet) (hn:n.Fit):ZeP [Zp n]=some (pB (Zdi n)):=by
 have g1:=Zkd n.signals hn.signals hn.names
 have hwl:=hn.wires
 unfold ZA at hwl
 show (fun x0=>ZeP [x0]) _=_
 rw[ZsJ]
 simp only[Zp,g1,EVS]
 unfold Zdi
 obtain c1|c1:=(Bool.eq_false_or_eq_true (Zkc n.signals)).symm<;>simp only[c1,EVS]
 obtain c2|c2:=(Bool.eq_false_or_eq_true (decide ((n.wires.length:Int)<n.signals.length))).symm<;>simp only[c2,EVS]
 obtain c3|c3:=(Bool.eq_false_or_eq_true (decide ((24:Int)<n.wires.length))).symm<;>simp only[c3,EVS]
 refine (congrArg (Zf true) (ZO (R:=PV) n.wires (ZbJ n) (some (pB false)) (some (pB true)) _ hwl (fun again k w hb=> ?_) (fun again=> ?_))).trans ?_
 ·have hk:=Ze hb
  have hi:Zk (.lst (n.wires.map Zo)) (.int .i64 (k:Int))=some (Zo w):=Zj hb
  have hc:ZnA 4 (.lst (n.wires.map Zo)) none (some (.int .i64 (k:Int)))=some (.lst ((n.wires.take k).map Zo)):=ZnV Zo3 (by omega)
  have g3:=Zt9 n k w hn (hn.wire w (List.mem_of_getElem? hb))
  simp only[Zp,Zo] at g3
  simp only[Zs hk,Zi hk hwl,hi,Zo,ZbJ,g3,EVS]
  obtain c4|c4:=(Bool.eq_false_or_eq_true (ZlK n k w)).symm<;>simp only[c4,hc,EVS]
  refine (ZO (R:=PV) (n.wires.take k) (fun _ v=> !decide (v.name=w.name)) (some (pB false)) (again [pI ((k+1:Nat):Int)]) _ (by simp;omega) (fun again' j y hy=> ?_) (fun again'=> ?_)).trans ?_
  ·have hj:=Ze hy
   have hi':Zk (.lst ((n.wires.take k).map Zo)) (.int .i64 (j:Int))=some (Zo y):=Zj hy
   simp only[Zs hj,Zi hj (by simp;omega),hi',Zo,EVS]
   obtain c5|c5:=(Bool.eq_false_or_eq_true (decide (y.name=w.name))).symm<;>simp only[c5,EVS]
  ·simp only[ZW,Zi hk hwl,EVS]
  ·rfl
 ·simp only[ZW,EVS]
 ·cases ZN (ZbJ n) 0 n.wires<;>simp only[EVS]
theorem Zah (n lo hi:Int):Z7 [pI n,pI lo,pI hi]=some (pB (inR n lo hi)):=by
 show (fun x0 x1 x2=>Z7 [x0,x1,x2]) _ _ _=_
 rw[Zus]
 unfold inR
 by_cases h:lo≤n<;>simp only[h,EVS]
def ZmC (k:Nat) (b:UInt8):Bool:=(decide ((97:Int)≤b.toNat)&&decide ((b.toNat:Int)≤122))||(!decide ((k:Int)=0)&&(decide ((48:Int)≤b.toNat)&&decide ((b.toNat:Int)≤57)))
def Zr9 (s:List UInt8):Bool:=ZN ZmC 0 s&&inR s.length 1 6
theorem ZvZ (s:List UInt8) (hs:s.length≤9223372036854775807):Zee [.str s]=some (pB (Zr9 s)):=by
 show (fun x0=>Zee [x0]) _=_
 rw[Zuv]
 refine (congrArg (Zf true) (ZO (R:=PV) s ZmC (some (pB false)) (some (pB (inR s.length 1 6))) _ hs (fun again k b hb=> ?_) (fun again=> ?_))).trans ?_
 ·have hk:=Ze hb
  simp only[ZmC,Zs hk,Zi hk hs,Zr hb,EVS]
  obtain c1|c1:=(Bool.eq_false_or_eq_true (decide ((97:Int)≤b.toNat))).symm<;>simp only[c1,Zr hb,EVS]
  all_goals (obtain c2|c2:=(Bool.eq_false_or_eq_true (decide ((b.toNat:Int)≤122))).symm<;>try simp only[c2,Zr hb,EVS])
  all_goals (obtain c3|c3:=(Bool.eq_false_or_eq_true (decide ((48:Int)≤b.toNat))).symm<;>try simp only[c3,Zr hb,EVS])
  all_goals (obtain c4|c4:=(Bool.eq_false_or_eq_true (decide ((b.toNat:Int)≤57))).symm<;>try simp only[c4,Zr hb,EVS])
  all_goals (obtain c5|c5:=(Bool.eq_false_or_eq_true (decide ((k:Int)=0))).symm<;>try simp only[c5,EVS])
 ·simp only[ZW,Zah,EVS]
 ·unfold Zr9
  cases ZN ZmC 0 s<;>simp only[EVS]
theorem Zo4 :∀(l:List UInt8) (k:Nat),Zkv (k==0) l=ZN ZmC k l
 |[],_=>rfl
 | b::r,k=>by
  have h:=Zo4 r (k+1)
  have h1:(k+1==0)=false:=rfl
  rw[h1] at h
  unfold Zkv ZN
  rw[h]
  congr 1
  unfold Zz1 ZmC
  have e1:decide ((48:Int)≤b.toNat)= !decide ((b.toNat:Int)<48):=by rw[Bool.eq_iff_iff];simp
  have e2:decide ((b.toNat:Int)≤57)= !decide ((57:Int)<b.toNat):=by rw[Bool.eq_iff_iff];simp
  have e3:decide ((k:Int)=0)=(k==0):=by rw[Bool.eq_iff_iff];simp
  rw[e1,e2,e3]
theorem ZAT (s:List UInt8):ZaO s=Zr9 s:=by
 unfold ZaO Zr9 inR
 rw[←Zo4 s 0]
 rfl
theorem Znm (s:List UInt8) (hs:s.length≤9223372036854775807):Zee [.str s]=some (pB (ZaO s)):=(ZvZ s hs).trans (by rw[ZAT])
def Zgt (s:List UInt8) (n:Int):Bool:=ZN (fun _ b=>Znk b) 0 s&&(decide ((s.length:Int)=n)&&inR n 1 8)
theorem Zv0 (s:List UInt8) (n:Int) (hs:s.length≤9223372036854775807):ZhI [.str s,pI n]=some (pB (Zgt s n)):=by
 show (fun x0 x1=>ZhI [x0,x1]) _ _=_
 rw[Zux]
 refine (congrArg (Zf true) (ZO (R:=PV) s (fun _ b=>Znk b) (some (pB false)) (some (pB (decide ((s.length:Int)=n)&&inR n 1 8))) _ hs (fun again k b hb=> ?_) (fun again=> ?_))).trans ?_
 ·have hk:=Ze hb
  simp only[Znk,Zs hk,Zi hk hs,Zr hb,EVS]
  obtain c1|c1:=(Bool.eq_false_or_eq_true (decide ((b.toNat:Int)=48))).symm<;>simp only[c1,Zr hb,EVS]
  obtain c2|c2:=(Bool.eq_false_or_eq_true (decide ((b.toNat:Int)=49))).symm<;>simp only[c2,Zr hb,EVS]
  obtain c3|c3:=(Bool.eq_false_or_eq_true (decide ((b.toNat:Int)=45))).symm<;>simp only[c3,Zr hb,EVS]
 ·simp only[ZW,EVS]
  obtain c1|c1:=(Bool.eq_false_or_eq_true (decide ((s.length:Int)=n))).symm<;>simp only[c1,Zah,EVS]
 ·unfold Zgt
  cases ZN (fun _ b=>Znk b) 0 s<;>simp only[EVS]
def ixf {α:Type} (q:α→Bool):Nat→List α→Int
 |_,[]=> -1
 |k,x::r=>if q x=true then (k:Int) else ixf q (k+1) r
theorem Zxz {α:Type} (q:α→Bool):∀(l:List α) (k:Nat),rgo (fun k x=>if q x=true then some (some (pI (k:Int))) else none) (some (pI (-1))) k l=some (pI (ixf q k l))
 |[],k=>rfl
 | x::r,k=>by
  unfold rgo ixf
  cases q x
  ·simp[Zxz q r (k+1)]
  ·simp
theorem ZeT {α:Type} (q:α→Bool):∀(l:List α) (k:Nat),decide ((0:Int)≤ixf q k l)= !ZN (fun _ x=> !q x) k l
 |[],k=>rfl
 | x::r,k=>by
  unfold ixf ZN
  cases q x
  ·simp[ZeT q r (k+1)]
  ·simp
theorem ZcY {α:Type} (l:List α) (q:α→Bool) (f:(List PV→Option PV)→List PV→Option PV) (hl:l.length≤9223372036854775807)
 (h1:∀again k x,l[k]?=some x→f again [pI (Int.ofNat k)]=if q x=true then some (pI (k:Int)) else again [pI (Int.ofNat (k+1))])
 (h2:∀again,f again [pI (Int.ofNat l.length)]=some (pI (-1))):Zm f 18446744073709551616 [pI (Int.ofNat 0)]=some (pI (ixf q 0 l)):=by
 rw[Zro l (fun k x=>if q x=true then some (some (pI (k:Int))) else none) (some (pI (-1))) f hl (fun again k x hx=> ?_) h2,Zxz]
 rw[h1 again k x hx]
 cases q x<;>simp
theorem Znn (l:List PV):Zbs 1 (.tup [.agg l])=some [.agg l]:=by simp[Zbs,PV.parts,PV.isU]
theorem ZmD (a x:List UInt8×Int):Zc2 [ZD a,ZD x]=some (pB (decide (a.1=x.1))):=by
 show (fun x0 x1=>Zc2 [x0,x1]) _ _=_
 rw[ZlY]
 simp only[ZD,List.drop_zero,EVS]
theorem ZbZ (l:List (List UInt8×Int)) (x:List UInt8×Int) (hl:ZA l):ZG [.lst (l.map ZD),.tup [ZD x]]=some (pI (ixf (fun a=>decide (a.1=x.1)) 0 l)):=by
 show (fun x0 x1=>ZG [x0,x1]) _ _=_
 rw[ZbS]
 unfold ZA at hl
 simp only[EVS]
 refine (congrArg (Zf true) (ZcY l (fun a=>decide (a.1=x.1)) _ hl (fun again k a hb=> ?_) (fun again=> ?_))).trans ?_
 ·have hk:=Ze hb
  have hi:Zk (.lst (l.map ZD)) (.int .i64 (k:Int))=some (ZD a):=Zj hb
  have g:=ZmD a x
  simp only[ZD] at g
  simp only[Zs hk,Zi hk hl,hi,ZD,Znn,List.cons_append,List.nil_append,g,EVS]
 ·simp only[ZW,EVS]
  rfl
 ·simp only[EVS]
theorem Zbt (l:List (List UInt8×Int)) (x:List UInt8×Int) (hl:ZA l):Zx [.lst (l.map ZD),.tup [ZD x]]=some (pB (!ZN (fun _ a=> !decide (a.1=x.1)) 0 l)):=by
 show (fun x0 x1=>Zx [x0,x1]) _ _=_
 rw[Zbm]
 simp only[ZbZ l x hl,ZeT (fun a:List UInt8×Int=>decide (a.1=x.1)) l 0,EVS]
theorem Zp9 (p:Int×Bool) (n:Nat) (hn:n≤9223372036854775807):Zet [Zac p,.agg [pI n]]=some (pB (!inR p.1 0 ((n:Int) - 1))):=by
 have hwl:IntKind.i64.wrap ((n:Int) - 1)=(n:Int) - 1:=Zav (by omega) (by omega)
 show (fun x0 x1=>Zet [x0,x1]) _ _=_
 rw[Zpv]
 simp only[Zac,hwl,Zah,EVS]
theorem ZcZ (l:List (Int×Bool)) (n:Nat) (hn:n≤9223372036854775807) (hl:ZA l):Z0 [.lst (l.map Zac),.tup [.agg [pI n]]]=some (pI (ixf (fun p=> !inR p.1 0 ((n:Int) - 1)) 0 l)):=by
 show (fun x0 x1=>Z0 [x0,x1]) _ _=_
 rw[ZcM]
 unfold ZA at hl
 simp only[EVS]
 refine (congrArg (Zf true) (ZcY l (fun p=> !inR p.1 0 ((n:Int) - 1)) _ hl (fun again k a hb=> ?_) (fun again=> ?_))).trans ?_
 ·have hk:=Ze hb
  have hi:Zk (.lst (l.map Zac)) (.int .i64 (k:Int))=some (Zac a):=Zj hb
  have g:=Zp9 a n hn
  simp only[Zac] at g
  simp only[Zs hk,Zi hk hl,hi,Zac,Znn,List.cons_append,List.nil_append,g,EVS]
 ·simp only[ZW,EVS]
  rfl
 ·simp only[EVS]
def Zc9 (l:List (Int×Bool)) (n:Nat):Bool:=ZN (fun _ p=>inR p.1 0 ((n:Int) - 1)) 0 l
theorem Zno (l:List (Int×Bool)) (n:Nat) (hn:n≤9223372036854775807) (hl:ZA l):ZeO [.lst (l.map Zac),pI n]=some (pB (Zc9 l n)):=by
 have g:ZM [.lst (l.map Zac),.tup [.agg [pI n]]]=some (pB (!ZN (fun _ p=>inR p.1 0 ((n:Int) - 1)) 0 l)):=by
  show (fun x0 x1=>ZM [x0,x1]) _ _=_
  rw[Zcn]
  simp only[ZcZ l n hn hl,ZeT (fun p:Int×Bool=> !inR p.1 0 ((n:Int) - 1)) l 0,Bool.not_not,EVS]
 show (fun x0 x1=>ZeO [x0,x1]) _ _=_
 rw[Zss]
 have lt:∀{R:Type} (l:List PV) (x:Option R),Za [.tup l] x=x:=fun l x=>(Eq.refl _).trans (Eq.refl _)
 simp only[lt,g,List.drop_zero,Bool.not_not,Zc9,EVS]
theorem Zsa (w:PWire) (x:List UInt8):Zfe [Zo w,.agg [.str x]]=some (pB (decide (w.name=x))):=by
 show (fun x0 x1=>Zfe [x0,x1]) _ _=_
 rw[Zqq]
 simp only[Zo,List.drop_zero,EVS]
theorem Zv1 (l:List PWire) (x:List UInt8) (hl:ZA l):ZhG [.lst (l.map Zo),.str x]=some (pI (ixf (fun w:PWire=>decide (w.name=x)) 0 l)):=by
 unfold ZA at hl
 have g:Z1 [.lst (l.map Zo),.tup [.agg [.str x]]]=some (pI (ixf (fun w:PWire=>decide (w.name=x)) 0 l)):=by
  show (fun x0 x1=>Z1 [x0,x1]) _ _=_
  rw[ZcO]
  simp only[EVS]
  refine (congrArg (Zf true) (ZcY l (fun w:PWire=>decide (w.name=x)) _ hl (fun again k a hb=> ?_) (fun again=> ?_))).trans ?_
  ·have hk:=Ze hb
   have hi:Zk (.lst (l.map Zo)) (.int .i64 (k:Int))=some (Zo a):=Zj hb
   have g:=Zsa a x
   simp only[Zo] at g
   simp only[Zs hk,Zi hk hl,hi,Zo,Znn,List.cons_append,List.nil_append,g,EVS]
  ·simp only[ZW,EVS]
   rfl
  ·simp only[EVS]
 show (fun x0 x1=>ZhG [x0,x1]) _ _=_
 rw[Zuu]
 have lt:∀{R:Type} (l:List PV) (x:Option R),Za [.tup l] x=x:=fun l x=>(Eq.refl _).trans (Eq.refl _)
 simp only[lt,g,List.drop_zero,Bool.not_not,EVS]
theorem Zkw (c:List UInt8) (n:Int) (hc:ZA c):Zcb [.str c,.agg [pI n]]=some (pB (!Zgt c n)):=by
 show (fun x0 x1=>Zcb [x0,x1]) _ _=_
 rw[ZjZ]
 simp only[Zv0 c n hc,EVS]
theorem Zbx (l:List (List UInt8)) (n:Int) (hl:ZA l) (hc:∀c∈l,ZA c):Zy [.lst (l.map PV.str),.tup [.agg [pI n]]]=some (pI (ixf (fun c:List UInt8=> !Zgt c n) 0 l)):=by
 unfold ZA at hl
 show (fun x0 x1=>Zy [x0,x1]) _ _=_
 rw[Zbw]
 simp only[EVS]
 refine (congrArg (Zf true) (ZcY l (fun c:List UInt8=> !Zgt c n) _ hl (fun again k a hb=> ?_) (fun again=> ?_))).trans ?_
 ·have hk:=Ze hb
  have hi:Zk (.lst (l.map PV.str)) (.int .i64 (k:Int))=some (.str a):=Zj hb
  have g:=Zkw a n (hc a (List.mem_of_getElem? hb))
  simp only[Zs hk,Zi hk hl,hi,Znn,List.cons_append,List.nil_append,g,EVS]
 ·simp only[ZW,EVS]
  rfl
 ·simp only[EVS]
theorem eqPin (a c:Int) (b d:Bool):eqV (some [(0,TD.int .i64),(1,TD.bool)]) .struct (.agg [pI a,pB b]) (.agg [pI c,pB d])=some (decide (a=c)&&(b==d)):=by
 simp[eqV,Zog,scEq,Zgo]
theorem ZAU :ZC.bool.pv=pB false:=(Eq.refl _).trans (Eq.refl _)
theorem sp12 (a b c:PV):splice [a,b] 0 [c]=[c,b]:=(Eq.refl _).trans (Eq.refl _)
def Zgu (n:Int) (l:List (List UInt8)):Bool:=(inR n 1 8&&decide ((l.length:Int)≤60))&&ZN (fun _ c=>Zgt c n) 0 l
def Zfz (n:PNet) (k:Nat) (w:PWire):Bool:=
 if decide (w.kind=1)=true then decide ((w.ins.length:Int)=0)
 else if (decide (w.kind=2)||decide (w.kind=3))=true then inR w.ins.length 1 8
 else if decide (w.kind=4)=true then decide ((w.ins.length:Int)=2)
 else if decide (w.kind=5)=true then Zgu n.signals.length w.cover&&(decide ((w.ins.length:Int)=0)||(match w.ins with|[p]=>decide (p.1=(k:Int))&&(p.2==false)|_=>false))
 else false
def Zua (n:PNet) (k:Nat) (w:PWire):Bool:= !((!decide (w.kind=5)&&decide ((0:Int)<w.cover.length))|| !Zc9 w.ins n.wires.length)&&Zfz n k w
theorem Zv2 (h160:∀(n:Int) (l:List (List UInt8)),ZA l→(∀c∈l,ZA c)→ZbQ [pI n,.lst (l.map PV.str)]=some (pB (Zgu n l))) (n:PNet) (k:Nat) (w:PWire) (hn:n.Fit) (hk:n.wires[k]?=some w):ZhJ [Zp n,pI k]=some (pB (Zua n k w)):=by
 have hw:=hn.wire w (List.mem_of_getElem? hk)
 have g1:=h160 n.signals.length w.cover hw.cover hw.cubes
 have hwl:=hn.wires
 unfold ZA at hwl
 have g2:=Zno w.ins n.wires.length hwl hw.ins
 have hi:Zk (.lst (n.wires.map Zo)) (.int .i64 (k:Int))=some (Zo w):=Zj hk
 show (fun x0 x1=>ZhJ [x0,x1]) _ _=_
 rw[Zuz]
 simp only[Zp,hi,Zo,EVS]
 unfold Zua
 obtain c1|c1:=(Bool.eq_false_or_eq_true (!decide (w.kind=5))).symm<;>simp only[c1,g2,EVS]
 ·obtain c2|c2:=(Bool.eq_false_or_eq_true (Zc9 w.ins n.wires.length)).symm<;>simp only[c1,c2,g2,EVS]
  have c5:decide (w.kind=5)=true:=by simpa using c1
  have e1:decide (w.kind=1)=false:=by have:=of_decide_eq_true c5;simp;omega
  have e2:decide (w.kind=2)=false:=by have:=of_decide_eq_true c5;simp;omega
  have e3:decide (w.kind=3)=false:=by have:=of_decide_eq_true c5;simp;omega
  have e4:decide (w.kind=4)=false:=by have:=of_decide_eq_true c5;simp;omega
  simp only[ZeG,Zfz,e1,e2,e3,e4,c5,g1,EVS]
  obtain c3|c3:=(Bool.eq_false_or_eq_true (Zgu n.signals.length w.cover)).symm<;>simp only[c3,EVS]
  have h01:decide ((0:Int)=1)=false:=rfl
  have h00:decide ((0:Int)=0)=true:=rfl
  have h11:decide ((1:Int)=1)=true:=rfl
  have h10:decide ((1:Int)=0)=false:=rfl
  rcases hq:w.ins with _|⟨p,_|⟨q,r⟩⟩
  ·simp only[List.length_nil,h00,EVS]
  ·have hi:Zk (.lst ([p].map Zac)) (.int .i64 0)=some (Zac p):=rfl
   simp only[List.length_cons,List.length_nil,Nat.zero_add,h11,h10,hi,Zac,ZAU,sp12,eqPin,List.drop_zero,List.drop_succ_cons,EVS]
  ·have h2:decide (((r.length+1+1:Nat):Int)=0)=false:=by simp;omega
   have h3:decide (((r.length+1+1:Nat):Int)=1)=false:=by simp;omega
   simp only[List.length_cons,h2,h3,EVS]
 ·have c5:decide (w.kind=5)=false:=by simpa using c1
  obtain c2|c2:=(Bool.eq_false_or_eq_true (decide ((0:Int)<w.cover.length))).symm<;>simp only[c1,c2,g2,EVS]
  obtain c3|c3:=(Bool.eq_false_or_eq_true (Zc9 w.ins n.wires.length)).symm<;>simp only[c3,EVS]
  simp only[ZeG,Zfz,c5,EVS]
  obtain e1|e1:=(Bool.eq_false_or_eq_true (decide (w.kind=1))).symm<;>simp only[e1,EVS]
  obtain e2|e2:=(Bool.eq_false_or_eq_true (decide (w.kind=2))).symm<;>simp only[e2,Zah,EVS]
  obtain e3|e3:=(Bool.eq_false_or_eq_true (decide (w.kind=3))).symm<;>simp only[e3,Zah,EVS]
  obtain e4|e4:=(Bool.eq_false_or_eq_true (decide (w.kind=4))).symm<;>simp only[e4,EVS]
theorem ZmE (n:Int) (l:List (List UInt8)) (hl:ZA l) (hc:∀c∈l,ZA c):ZbQ [pI n,.lst (l.map PV.str)]=some (pB (Zgu n l)):=by
 have g:Zt [.lst (l.map PV.str),.tup [.agg [pI n]]]=some (pB (!ZN (fun _ c=>Zgt c n) 0 l)):=by
  show (fun x0 x1=>Zt [x0,x1]) _ _=_
  rw[Za9]
  simp only[Zbx l n hl hc,ZeT (fun c:List UInt8=> !Zgt c n) l 0,Bool.not_not,EVS]
 show (fun x0 x1=>ZbQ [x0,x1]) _ _=_
 rw[ZlW]
 simp only[Zah,Zip,List.drop_zero,Zgu,EVS]
 obtain c1|c1:=(Bool.eq_false_or_eq_true (inR n 1 8)).symm<;>simp only[c1,EVS]
 obtain c2|c2:=(Bool.eq_false_or_eq_true (decide ((l.length:Int)≤60))).symm<;>simp only[c2,Zip,g,Bool.not_not,EVS]
def ZmF (l:List (List UInt8×Int)) (k:Nat) (s:List UInt8×Int):Bool:=(ZaO s.1&&inR s.2 1 3)&&ZN (fun _ a=> !decide (a.1=s.1)) 0 (l.take k)
def Zq8 (l:List (List UInt8×Int)):Bool:=ZN (ZmF l) 0 l&&inR l.length 1 8
theorem ZiJ (l:List (List UInt8×Int)) (hl:ZA l) (hs:∀s∈l,ZA s.1):ZcP [.lst (l.map ZD)]=some (pB (Zq8 l)):=by
 unfold ZA at hl
 show (fun x0=>ZcP [x0]) _=_
 rw[ZnM]
 simp only[EVS]
 refine (congrArg (Zf true) (ZO (R:=PV) l (ZmF l) (some (pB false)) (some (pB (inR l.length 1 8))) _ hl (fun again k s hb=> ?_) (fun again=> ?_))).trans ?_
 ·have hk:=Ze hb
  have hi:Zk (.lst (l.map ZD)) (.int .i64 (k:Int))=some (ZD s):=Zj hb
  have hc:ZnA 2 (.lst (l.map ZD)) none (some (.int .i64 (k:Int)))=some (.lst ((l.take k).map ZD)):=ZnV Zq6 (by omega)
  have hn:=Znm s.1 (hs s (List.mem_of_getElem? hb))
  have g:=Zbt (l.take k) s (by show (l.take k).length≤_;simp;omega)
  simp only[ZD] at g
  simp only[Zs hk,Zi hk hl,hi,ZD,hn,ZmF,EVS]
  obtain c1|c1:=(Bool.eq_false_or_eq_true (ZaO s.1)).symm<;>simp only[c1,Zah,EVS]
  obtain c2|c2:=(Bool.eq_false_or_eq_true (inR s.2 1 3)).symm<;>simp only[c2,EVS]
  simp only[hc,List.drop_zero,Zip,g,EVS]
  obtain c3|c3:=(Bool.eq_false_or_eq_true (ZN (fun _ (a:List UInt8×Int)=> !decide (a.1=s.1)) 0 (l.take k))).symm<;>simp only[c3,EVS]
 ·simp only[ZW,Zah,EVS]
 ·unfold Zq8
  cases ZN (ZmF l) 0 l<;>simp only[EVS]
def ZfA (n:PNet) (k:Nat) (w:PWire):Bool:=
 (Zua n k w&&ZaO w.name&&ZN (fun _ v=> !decide (v.name=w.name)) 0 (n.wires.take k))&&
 (if decide ((k:Int)<(n.signals.length:Int))=true then ZgR n k w else (decide (w.kind=2)||decide (w.kind=3))&&Zc9 w.ins k)
def netI (n:PNet):Bool:=(Zq8 n.signals&&inR n.wires.length n.signals.length 24)&&ZN (ZfA n) 0 n.wires
theorem ZfB (n:PNet) (hn:n.Fit):Za1 [Zp n]=some (pB (netI n)):=by
 have g1:=ZiJ n.signals hn.signals hn.names
 have hwl:=hn.wires
 unfold ZA at hwl
 show (fun x0=>Za1 [x0]) _=_
 rw[Zj0]
 simp only[Zp,g1,EVS]
 unfold netI
 obtain c1|c1:=(Bool.eq_false_or_eq_true (Zq8 n.signals)).symm<;>simp only[c1,Zah,EVS]
 obtain c2|c2:=(Bool.eq_false_or_eq_true (inR n.wires.length n.signals.length 24)).symm<;>simp only[c2,EVS]
 refine (congrArg (Zf true) (ZO (R:=PV) n.wires (ZfA n) (some (pB false)) (some (pB true)) _ hwl (fun again k w hb=> ?_) (fun again=> ?_))).trans ?_
 ·have hk:=Ze hb
  have hw:=hn.wire w (List.mem_of_getElem? hb)
  have hi:Zk (.lst (n.wires.map Zo)) (.int .i64 (k:Int))=some (Zo w):=Zj hb
  have hc:ZnA 4 (.lst (n.wires.map Zo)) none (some (.int .i64 (k:Int)))=some (.lst ((n.wires.take k).map Zo)):=ZnV Zo3 (by omega)
  have g2:=Zv2 ZmE n k w hn hb
  have g3:=Znm w.name hw.name
  have g4:=Zv1 (n.wires.take k) w.name (by show (n.wires.take k).length≤_;simp;omega)
  have g5:=Zno w.ins k (by omega) hw.ins
  simp only[Zp] at g2
  simp only[Zs hk,Zi hk hwl,hi,Zo,ZfA,g2,EVS]
  obtain c1|c1:=(Bool.eq_false_or_eq_true (Zua n k w)).symm<;>simp only[c1,g3,EVS]
  obtain c2|c2:=(Bool.eq_false_or_eq_true (ZaO w.name)).symm<;>simp only[c2,hc,g4,EVS]
  simp only[ZeT (fun v:PWire=>decide (v.name=w.name)) (n.wires.take k) 0]
  obtain c3|c3:=(Bool.eq_false_or_eq_true (ZN (fun _ (v:PWire)=> !decide (v.name=w.name)) 0 (n.wires.take k))).symm<;>simp only[c3,ZeG,EVS]
  obtain c4|c4:=(Bool.eq_false_or_eq_true (decide ((k:Int)<(n.signals.length:Int)))).symm<;>simp only[c4,EVS]
  ·obtain c5|c5:=(Bool.eq_false_or_eq_true (decide (w.kind=2))).symm<;>simp only[c5,g5,EVS]
   ·obtain c6|c6:=(Bool.eq_false_or_eq_true (decide (w.kind=3))).symm<;>simp only[c6,g5,EVS]
    obtain c7|c7:=(Bool.eq_false_or_eq_true (Zc9 w.ins k)).symm<;>simp only[c7,Zi hk hwl,EVS]
   ·obtain c7|c7:=(Bool.eq_false_or_eq_true (Zc9 w.ins k)).symm<;>simp only[c7,Zi hk hwl,EVS]
  ·have hks:k<n.signals.length:=by have:=of_decide_eq_true c4;omega
   have hs:n.signals[k]?=some n.signals[k]:=List.getElem?_eq_getElem hks
   have hi2:Zk (.lst (n.signals.map ZD)) (.int .i64 (k:Int))=some (ZD n.signals[k]):=Zj hs
   simp only[ZgR,hs,hi2,ZD,List.drop_zero,List.drop_succ_cons,EVS]
   obtain c5|c5:=(Bool.eq_false_or_eq_true (decide (w.name=n.signals[k].1))).symm<;>simp only[c5,hi2,ZD,List.drop_zero,List.drop_succ_cons,EVS]
   obtain c6|c6:=(Bool.eq_false_or_eq_true (decide (w.kind=1)==decide (n.signals[k].2=1))).symm<;>simp only[bne,c6,Zi hk hwl,EVS]
 ·simp only[ZW,EVS]
 ·cases ZN (ZfA n) 0 n.wires<;>simp only[EVS]
theorem Zaj {α:Type} (q:α→Bool):∀(l:List α) (k:Nat),ZN (fun _ x=>q x) k l=l.all q
 |[],_=>rfl
 |x::r,k=>by unfold ZN;rw[Zaj q r (k+1),List.all_cons]
theorem Zeb {α:Type} (f g:Nat→α→Bool) (h:∀k x,f k x=g k x):∀(l:List α) (k:Nat),ZN f k l=ZN g k l
 |[],_=>rfl
 |x::r,k=>by unfold ZN;rw[h k x,Zeb f g h r (k+1)]
theorem ZxA (l:List (List UInt8×Int)):Zkc l=Zq8 l:=by
 unfold Zkc Zq8
 rw[Zeb (Zq5 l) (ZmF l) (fun k x=> ?_) l 0]
 unfold Zq5 ZmF
 rw[Zeb (fun _ (y:List UInt8×Int)=> !decide (x.1=y.1)) (fun _ (y:List UInt8×Int)=> !decide (y.1=x.1)) (fun _ y=>by simp[eq_comm]) _ 0]
theorem Zz2 (n:Int) (l:List (List UInt8)):Zo2 n l=Zgu n l:=by
 unfold Zo2 Zgu Zn5
 rw[Bool.and_comm,Bool.eq_iff_iff]
 simp only[Bool.and_eq_true]
 refine and_congr_right fun h=> ?_
 rw[Zeb (fun _ c=>ZlJ c&&decide ((c.length:Int)=n)) (fun _ c=>Zgt c n) (fun _ c=> ?_) l 0]
 unfold ZlJ Zgt inR
 rw[Bool.eq_iff_iff]
 simp only[Bool.and_eq_true,decide_eq_true_eq]
 constructor
 ·rintro ⟨⟨h1,h2,h3⟩,h4⟩
  exact ⟨h1,h4,by omega,by omega⟩
 ·rintro ⟨h1,h2,h3,h4⟩
  exact ⟨⟨h1,by omega,by omega⟩,h2⟩
theorem Zyn (n:PNet) (k:Nat) (l:List (Int×Bool)) (h:k<n.signals.length):ZN (fun _ p=>ZiI n k p) 0 l=Zc9 l n.wires.length:=by
 unfold Zc9
 refine Zeb _ _ (fun _ p=> ?_) l 0
 unfold ZiI
 have:decide ((n.signals.length:Int)≤k)=false:=by simp;omega
 rw[this]
 simp
theorem Zyo (n:PNet) (k:Nat) (l:List (Int×Bool)) (h:¬k<n.signals.length):ZN (fun _ p=>ZiI n k p) 0 l=(Zc9 l n.wires.length&&Zc9 l k):=by
 unfold Zc9
 rw[Zaj,Zaj,Zaj,Bool.eq_iff_iff]
 have:decide ((n.signals.length:Int)≤k)=true:=by simp;omega
 simp only[Bool.and_eq_true,List.all_eq_true,ZiI,inR,this,Bool.true_and,Bool.not_eq_true',decide_eq_true_eq,decide_eq_false_iff_not]
 constructor
 ·intro h
  exact ⟨fun p hp=>(h p hp).1,fun p hp=>⟨(h p hp).1.1,by have:=(h p hp).2;omega⟩⟩
 ·rintro ⟨h1,h2⟩ p hp
  exact ⟨h1 p hp,by have:=(h2 p hp).2;omega⟩
theorem ZAW (n:PNet) (k:Nat) (w:PWire):(inR w.kind 1 5&&((if decide (w.kind=5)=true then Zgu n.signals.length w.cover else !decide ((0:Int)<w.cover.length))&&Zf2 k w.kind w.ins))=(!(!decide (w.kind=5)&&decide ((0:Int)<w.cover.length))&&Zfz n k w):=by
 unfold Zf2 Zfz
 by_cases h1:w.kind=1
 ·simp[h1,inR]
 by_cases h2:w.kind=2
 ·simp[h2,inR]
 by_cases h3:w.kind=3
 ·simp[h3,inR]
 by_cases h4:w.kind=4
 ·simp[h4,inR]
 by_cases h5:w.kind=5
 ·obtain ⟨nm,kd,ins,cov⟩:=w
  simp only at h5
  rcases ins with _|⟨p,_|⟨q,r⟩⟩<;>simp[h5,inR]
 ·have:inR w.kind 1 5=false:=by
   unfold inR
   simp only[Bool.and_eq_false_iff,decide_eq_false_iff_not]
   omega
  simp[this,h1,h2,h3,h4,h5]
theorem ZAX (n:PNet) (k:Nat) (w:PWire):ZbJ n k w=ZfA n k w:=by
 unfold ZbJ ZfA ZlK Zua Zq7
 have hf:=ZAW n k w
 rw[Zz2]
 by_cases hk:k<n.signals.length
 ·have hd:decide ((k:Int)<(n.signals.length:Int))=true:=by simpa using hk
  rw[Zyn n k w.ins hk]
  simp only[hd,if_true,Bool.true_or,Bool.not_true,Bool.false_or,Bool.not_false,Bool.false_eq_true,if_false,Bool.true_and]
  revert hf
  generalize inR w.kind 1 5=a1
  generalize (if decide (w.kind=5)=true then Zgu (↑n.signals.length) w.cover else !decide ((0:Int)<↑w.cover.length))=a2
  generalize Zf2 k w.kind w.ins=a3
  generalize (!decide (w.kind=5)&&decide ((0:Int)<w.cover.length))=a4
  generalize Zfz n k w=a5
  generalize Zc9 w.ins n.wires.length=a6
  generalize ZgR n k w=a7
  generalize ZaO w.name=a8
  generalize ZN (fun _ (v:PWire)=> !decide (v.name=w.name)) 0 (n.wires.take k)=a9
  cases a1<;>cases a2<;>cases a3<;>cases a4<;>cases a5<;>cases a6<;>cases a7<;>cases a8<;>cases a9<;>decide
 ·have hd:decide ((k:Int)<(n.signals.length:Int))=false:=by simpa using hk
  rw[Zyo n k w.ins hk]
  simp only[hd,if_true,Bool.true_or,Bool.not_true,Bool.false_or,Bool.not_false,Bool.false_eq_true,if_false,Bool.true_and]
  revert hf
  generalize inR w.kind 1 5=a1
  generalize (if decide (w.kind=5)=true then Zgu (↑n.signals.length) w.cover else !decide ((0:Int)<↑w.cover.length))=a2
  generalize Zf2 k w.kind w.ins=a3
  generalize (!decide (w.kind=5)&&decide ((0:Int)<w.cover.length))=a4
  generalize Zfz n k w=a5
  generalize Zc9 w.ins n.wires.length=a6
  generalize ZaO w.name=a8
  generalize Zc9 w.ins k=a7
  generalize decide (w.kind=2)=b2
  generalize decide (w.kind=3)=b3
  generalize ZN (fun _ (v:PWire)=> !decide (v.name=w.name)) 0 (n.wires.take k)=a9
  cases a1<;>cases a2<;>cases a3<;>cases a4<;>cases a5<;>cases a6<;>cases a7<;>cases a8<;>cases a9<;>cases b2<;>cases b3<;>decide
theorem Zz3 (n:PNet):Zdi n=netI n:=by
 unfold Zdi netI
 rw[ZxA,Zeb (ZbJ n) (ZfA n) (fun k x=>ZAX n k x) n.wires 0]
 congr 2
 unfold inR
 rw[Bool.eq_iff_iff]
 simp
def ZfC (b:UInt8):Bool:=decide ((b.toNat:Int)=48)||decide ((b.toNat:Int)=49)
def Z2 (s:List UInt8) (n:Int):Bool:=ZN (fun _ b=>ZfC b) 0 s&&decide ((s.length:Int)=n)
theorem Zo5 (s:List UInt8) (n:Int) (hs:ZA s):ZfJ [.str s,pI n]=some (pB (Z2 s n)):=by
 unfold ZA at hs
 show (fun x0 x1=>ZfJ [x0,x1]) _ _=_
 rw[ZuW]
 refine (congrArg (Zf true) (ZO (R:=PV) s (fun _ b=>ZfC b) (some (pB false)) (some (pB (decide ((s.length:Int)=n)))) _ hs (fun again k b hb=> ?_) (fun again=> ?_))).trans ?_
 ·have hk:=Ze hb
  simp only[ZfC,Zs hk,Zi hk hs,Zr hb,EVS]
  obtain c1|c1:=(Bool.eq_false_or_eq_true (decide ((b.toNat:Int)=48))).symm<;>simp only[c1,Zr hb,EVS]
  obtain c2|c2:=(Bool.eq_false_or_eq_true (decide ((b.toNat:Int)=49))).symm<;>simp only[c2,Zr hb,EVS]
 ·simp only[ZW,EVS]
 ·unfold Z2
  cases ZN (fun _ b=>ZfC b) 0 s<;>simp only[EVS]
theorem Zo6 (s:List UInt8) (n:Int) (hs:ZA s):ZfH [.str s,pI n]=some (pB (Z2 s n)):=by
 unfold ZA at hs
 show (fun x0 x1=>ZfH [x0,x1]) _ _=_
 rw[ZuC]
 refine (congrArg (Zf true) (ZO (R:=PV) s (fun _ b=>ZfC b) (some (pB false)) (some (pB (decide ((s.length:Int)=n)))) _ hs (fun again k b hb=> ?_) (fun again=> ?_))).trans ?_
 ·have hk:=Ze hb
  simp only[ZfC,Zs hk,Zi hk hs,Zr hb,EVS]
  obtain c1|c1:=(Bool.eq_false_or_eq_true (decide ((b.toNat:Int)=48))).symm<;>simp only[c1,Zr hb,EVS]
  obtain c2|c2:=(Bool.eq_false_or_eq_true (decide ((b.toNat:Int)=49))).symm<;>simp only[c2,Zr hb,EVS]
 ·simp only[ZW,EVS]
 ·unfold Z2
  cases ZN (fun _ b=>ZfC b) 0 s<;>simp only[EVS]
def Ze7 (n:PNet) (s:List UInt8):Bool:=Zdi n&&Z2 s n.wires.length
def Zcr (p:Int×Bool) (s:List UInt8):Bool:=match s[p.1.toNat]? with|some b=>decide ((b.toNat:Int)=49) !=p.2|none=>false
theorem Zz4 {p:Int×Bool} {s:List UInt8} (h0:0≤p.1) (h1:p.1<s.length):∃b:UInt8,s[p.1.toNat]?=some b∧Zan (.str s) (pI p.1)=some (pU b):=by
 have h2:p.1.toNat<s.length:=by omega
 refine ⟨s[p.1.toNat],List.getElem?_eq_getElem h2, ?_⟩
 have:=Zr (k:=.i64) (List.getElem?_eq_getElem h2)
 rw[Int.toNat_of_nonneg h0] at this
 exact this
theorem Zkx (p:Int×Bool) (s:List UInt8) (h0:0≤p.1) (h1:p.1<s.length):Zem [Zac p,.str s]=some (pB (Zcr p s)):=by
 obtain ⟨b,hb,hv⟩:=Zz4 h0 h1
 show (fun x0 x1=>Zem [x0,x1]) _ _=_
 rw[Zu2]
 simp only[Zac,hv,Zcr,hb,bne,EVS]
theorem Ze8 (p:Int×Bool) (s:List UInt8) (h0:0≤p.1) (h1:p.1<s.length):Zcd [Zac p,.str s]=some (pB (Zcr p s)):=by
 obtain ⟨b,hb,hv⟩:=Zz4 h0 h1
 show (fun x0 x1=>Zcd [x0,x1]) _ _=_
 rw[ZqG]
 simp only[Zac,hv,Zcr,hb,bne,EVS]
def Zv3 (code:List UInt8) (k:Nat) (b:UInt8):Bool:=decide ((b.toNat:Int)=45)||(match code[k]? with|some c=>decide ((b.toNat:Int)=c.toNat)|none=>false)
def ZnE (cube code:List UInt8):Bool:=ZN (Zv3 code) 0 cube
theorem Zv4 (cube code:List UInt8) (hs:ZA cube) (hl:cube.length≤code.length):Zh6 [.str cube,.str code]=some (pB (ZnE cube code)):=by
 unfold ZA at hs
 show (fun x0 x1=>Zh6 [x0,x1]) _ _=_
 rw[Zu4]
 refine (congrArg (Zf true) (ZO (R:=PV) cube (Zv3 code) (some (pB false)) (some (pB true)) _ hs (fun again k b hb=> ?_) (fun again=> ?_))).trans ?_
 ·have hk:=Ze hb
  have hc:code[k]?=some code[k]:=List.getElem?_eq_getElem (by omega)
  simp only[Zv3,hc,Zs hk,Zi hk hs,Zr hb,Zr hc,EVS]
  obtain c1|c1:=(Bool.eq_false_or_eq_true (decide ((b.toNat:Int)=45))).symm<;>simp only[c1,Zr hb,Zr hc,EVS]
  obtain c2|c2:=(Bool.eq_false_or_eq_true (decide ((b.toNat:Int)=(code[k].toNat:Int)))).symm<;>simp only[c2,EVS]
 ·simp only[ZW,EVS]
 ·unfold ZnE
  cases ZN (Zv3 code) 0 cube<;>simp only[EVS]
theorem Zsb (cube code:List UInt8) (hs:ZA cube) (hl:cube.length≤code.length):Zfb [.str cube,.str code]=some (pB (ZnE cube code)):=by
 unfold ZA at hs
 show (fun x0 x1=>Zfb [x0,x1]) _ _=_
 rw[Zql]
 simp only[EVS]
 refine (congrArg (Zf true) (ZO (R:=PV) cube (Zv3 code) (some (pB false)) (some (pB true)) _ hs (fun again k b hb=> ?_) (fun again=> ?_))).trans ?_
 ·have hk:=Ze hb
  have hc:code[k]?=some code[k]:=List.getElem?_eq_getElem (by omega)
  simp only[Zv3,hc,Zs hk,Zi hk hs,Zr hb,Zr hc,EVS]
  obtain c1|c1:=(Bool.eq_false_or_eq_true (decide ((b.toNat:Int)=45))).symm<;>simp only[c1,Zr hb,Zr hc,EVS]
  obtain c2|c2:=(Bool.eq_false_or_eq_true (decide ((b.toNat:Int)=(code[k].toNat:Int)))).symm<;>simp only[c2,EVS]
 ·simp only[ZW,EVS]
 ·unfold ZnE
  cases ZN (Zv3 code) 0 cube<;>simp only[EVS]
def inP (l:List (List UInt8)) (code:List UInt8):Bool:= !ZN (fun _ c=> !ZnE c code) 0 l
theorem Zyp (l:List (List UInt8)) (code:List UInt8) (hl:ZA l) (hc:∀c∈l,ZA c∧c.length≤code.length):ZjK [.lst (l.map PV.str),.str code]=some (pB (inP l code)):=by
 unfold ZA at hl
 show (fun x0 x1=>ZjK [x0,x1]) _ _=_
 rw[ZwD]
 simp only[EVS]
 refine (congrArg (Zf true) (ZO (R:=PV) l (fun _ c=> !ZnE c code) (some (pB true)) (some (pB false)) _ hl (fun again k s hb=> ?_) (fun again=> ?_))).trans ?_
 ·have hk:=Ze hb
  have hi:Zk (.lst (l.map PV.str)) (.int .i64 (k:Int))=some (.str s):=Zj hb
  have hh:=hc s (List.mem_of_getElem? hb)
  have g:=Zv4 s code hh.1 hh.2
  simp only[Zs hk,Zi hk hl,hi,g,EVS]
  obtain c1|c1:=(Bool.eq_false_or_eq_true (ZnE s code)).symm<;>simp only[c1,EVS]
 ·simp only[ZW,EVS]
 ·unfold inP
  cases ZN (fun _ c=> !ZnE c code) 0 l<;>simp only[EVS]
theorem Zv5 (l:List (List UInt8)) (code:List UInt8) (hl:ZA l) (hc:∀c∈l,ZA c∧c.length≤code.length):Zhz [.lst (l.map PV.str),.str code]=some (pB (inP l code)):=by
 have g0:ZQ [.lst (l.map PV.str),.tup [.agg [.str code]]]=some (pI (ixf (fun c:List UInt8=>ZnE c code) 0 l)):=by
  unfold ZA at hl
  show (fun x0 x1=>ZQ [x0,x1]) _ _=_
  rw[Zcx]
  simp only[EVS]
  refine (congrArg (Zf true) (ZcY l (fun c:List UInt8=>ZnE c code) _ hl (fun again k a hb=> ?_) (fun again=> ?_))).trans ?_
  ·have hk:=Ze hb
   have hi:Zk (.lst (l.map PV.str)) (.int .i64 (k:Int))=some (.str a):=Zj hb
   have hh:=hc a (List.mem_of_getElem? hb)
   have g:Zfc [.str a,.agg [.str code]]=some (pB (ZnE a code)):=by
    show (fun x0 x1=>Zfc [x0,x1]) _ _=_
    rw[Zqn]
    simp only[Zsb a code hh.1 hh.2,EVS]
   simp only[Zs hk,Zi hk hl,hi,Znn,List.cons_append,List.nil_append,g,EVS]
  ·simp only[ZW,EVS]
   rfl
  ·simp only[EVS]
 have g1:ZH [.lst (l.map PV.str),.tup [.agg [.str code]]]=some (pB (inP l code)):=by
  show (fun x0 x1=>ZH [x0,x1]) _ _=_
  rw[Zb3]
  simp only[g0,inP,ZeT (fun c:List UInt8=>ZnE c code) l 0,EVS]
 show (fun x0 x1=>Zhz [x0,x1]) _ _=_
 rw[Zuo]
 simp only[Zip,List.drop_zero,g1,EVS]
def Zv6 (l:List (Int×Bool)) (s:List UInt8):Prop:=∀p∈l,0≤p.1∧p.1<s.length
theorem Zck (l:List (Int×Bool)) (s:List UInt8) (hl:ZA l) (hp:Zv6 l s):ZJ [.lst (l.map Zac),.tup [.agg [.str s]]]=some (pB (!ZN (fun _ p=>Zcr p s) 0 l)):=by
 have g0:ZU [.lst (l.map Zac),.tup [.agg [.str s]]]=some (pI (ixf (fun p:Int×Bool=> !Zcr p s) 0 l)):=by
  unfold ZA at hl
  show (fun x0 x1=>ZU [x0,x1]) _ _=_
  rw[ZcF]
  simp only[EVS]
  refine (congrArg (Zf true) (ZcY l (fun p:Int×Bool=> !Zcr p s) _ hl (fun again k a hb=> ?_) (fun again=> ?_))).trans ?_
  ·have hk:=Ze hb
   have hi:Zk (.lst (l.map Zac)) (.int .i64 (k:Int))=some (Zac a):=Zj hb
   have hh:=hp a (List.mem_of_getElem? hb)
   have g:=Ze8 a s hh.1 hh.2
   simp only[Zac] at g
   have g':Zd3 [Zac a,.agg [.str s]]=some (pB (!Zcr a s)):=by
    show (fun x0 x1=>Zd3 [x0,x1]) _ _=_
    rw[ZnR]
    simp only[Zac,g,EVS]
   simp only[Zac] at g'
   simp only[Zs hk,Zi hk hl,hi,Zac,Znn,List.cons_append,List.nil_append,g',EVS]
  ·simp only[ZW,EVS]
   rfl
  ·simp only[EVS]
 show (fun x0 x1=>ZJ [x0,x1]) _ _=_
 rw[Zcf]
 simp only[g0,ZeT (fun p:Int×Bool=> !Zcr p s) l 0,Bool.not_not,EVS]
theorem Zcl (l:List (Int×Bool)) (s:List UInt8) (hl:ZA l) (hp:Zv6 l s):ZK [.lst (l.map Zac),.tup [.agg [.str s]]]=some (pB (!ZN (fun _ p=> !Zcr p s) 0 l)):=by
 have g0:ZV [.lst (l.map Zac),.tup [.agg [.str s]]]=some (pI (ixf (fun p:Int×Bool=>Zcr p s) 0 l)):=by
  unfold ZA at hl
  show (fun x0 x1=>ZV [x0,x1]) _ _=_
  rw[ZcH]
  simp only[EVS]
  refine (congrArg (Zf true) (ZcY l (fun p:Int×Bool=>Zcr p s) _ hl (fun again k a hb=> ?_) (fun again=> ?_))).trans ?_
  ·have hk:=Ze hb
   have hi:Zk (.lst (l.map Zac)) (.int .i64 (k:Int))=some (Zac a):=Zj hb
   have hh:=hp a (List.mem_of_getElem? hb)
   have g:=Ze8 a s hh.1 hh.2
   simp only[Zac] at g
   have g':Zd4 [Zac a,.agg [.str s]]=some (pB (Zcr a s)):=by
    show (fun x0 x1=>Zd4 [x0,x1]) _ _=_
    rw[ZnT]
    simp only[Zac,g,EVS]
   simp only[Zac] at g'
   simp only[Zs hk,Zi hk hl,hi,Zac,Znn,List.cons_append,List.nil_append,g',EVS]
  ·simp only[ZW,EVS]
   rfl
  ·simp only[EVS]
 show (fun x0 x1=>ZK [x0,x1]) _ _=_
 rw[Zch]
 simp only[g0,ZeT (fun p:Int×Bool=>Zcr p s) l 0,EVS]
def ZgS (s:List UInt8) (k:Nat):Bool:=match s[k]? with|some b=>decide ((b.toNat:Int)=49)|none=>false
def ZxB (n:PNet) (s:List UInt8) (k:Nat) (w:PWire):Bool:=
 if decide (w.kind=5)=true then inP w.cover (s.take n.signals.length)
 else if decide (w.kind=4)=true then (match w.ins with|[p,q]=>if (Zcr p s !=Zcr q s)=true then Zcr p s else ZgS s k|_=>ZgS s k)
 else ZgS s k
def ZfD (n:PNet) (s:List UInt8) (k:Nat) (w:PWire):Bool:=
 if decide (w.kind=2)=true then ZN (fun _ p=>Zcr p s) 0 w.ins
 else if decide (w.kind=3)=true then !ZN (fun _ p=> !Zcr p s) 0 w.ins
 else ZxB n s k w
theorem Zo7 (s:List UInt8) (k:Nat) (h:k≤s.length):Zif (.str s) none (some (pI (k:Int)))=some (.str (s.take k)):=by
 have:(0:Int)≤(k:Int)∧(k:Int)≤(s.length:Int):=by omega
 simp[Zif,Zmn,Zrq,this]
structure At (n:PNet) (s:List UInt8) (k:Nat) (w:PWire):Prop where
 fit:n.Fit
 here:n.wires[k]?=some w
 wire:w.Fit
 fits:ZA s
 lt:k<s.length
 sig:n.signals.length≤s.length
 pins:Zv6 w.ins s
 cubes:w.kind=5→∀c∈w.cover,c.length≤n.signals.length
 two:w.kind=4→w.ins.length=2
theorem loop3 {l:List (Int×Bool)} (s:List UInt8) (E:Bool→Bool→Bool) (f:(List PV→Option PV)→List PV→Option PV) (hl:l.length≤9223372036854775807)
 (h1:∀again (a b:Bool) (k:Nat) x,l[k]?=some x→f again [pB a,pB b,pI (k:Int)]=again [pB (a&&Zcr x s),pB (b||Zcr x s),pI ((k+1:Nat):Int)])
 (h2:∀again (a b:Bool) (k:Nat),¬k<l.length→f again [pB a,pB b,pI (k:Int)]=some (pB (E a b))):
 Zm f 18446744073709551616 [pB true,pB false,pI (0:Int)]=some (pB (E (ZN (fun _ p=>Zcr p s) 0 l) (!ZN (fun _ p=> !Zcr p s) 0 l))):=by
 have key:=ZaP (R:=PV) (fun t:Bool×Bool×Nat=>[pB t.1,pB t.2.1,pI (t.2.2:Int)]) (fun t=>l.length+1 - t.2.2) (fun t=>some (pB (E (t.1&&(l.drop t.2.2).all fun p=>Zcr p s) (t.2.1|| !(l.drop t.2.2).all fun p=> !Zcr p s)))) f (fun again t ih=> ?_) 18446744073709551616 (true,false,0) (by simp only;omega)
 ·simp only[Bool.true_and,Bool.false_or,List.drop_zero] at key
  rw[Zaj,Zaj]
  exact key
 ·obtain ⟨a,b,k⟩:=t
  dsimp only at ih⊢
  by_cases hk:k<l.length
  ·have hx:l[k]?=some l[k]:=List.getElem?_eq_getElem hk
   rw[h1 again a b k _ hx,ih (_,_,k+1) (by simp only;omega),List.drop_eq_getElem_cons hk]
   simp only[List.all_cons,Bool.and_assoc]
   cases Zcr l[k] s<;>simp
  ·rw[h2 again a b k hk,List.drop_eq_nil_of_le (by omega)]
   simp
theorem Znp (n:PNet) (s:List UInt8) (k:Nat) (w:PWire) (h:At n s k w):ZeQ [Zp n,.str s,pI k]=some (pB (ZfD n s k w)):=by
 have hi:Zk (.lst (n.wires.map Zo)) (.int .i64 (k:Int))=some (Zo w):=Zj h.here
 have hil:=h.wire.ins
 unfold ZA at hil
 show (fun x0 x1 x2=>ZeQ [x0,x1,x2]) _ _ _=_
 rw[ZsK]
 simp only[Zp,hi,Zo,EVS]
 refine (congrArg (Zf true) (loop3 (l:=w.ins) s (fun a b=>if decide (w.kind=2)=true then a else if decide (w.kind=3)=true then b else ZxB n s k w) _ hil (fun again a b j p hb=> ?_) (fun again a b j hj=> ?_))).trans ?_
 ·have hk:=Ze hb
  have hi2:Zk (.lst (w.ins.map Zac)) (.int .i64 (j:Int))=some (Zac p):=Zj hb
  have hp:=h.pins p (List.mem_of_getElem? hb)
  have g:=Zkx p s hp.1 hp.2
  simp only[Zac] at g
  simp only[Zs hk,Zi hk hil,hi2,Zac,g,EVS]
  cases a<;>cases b<;>simp only[EVS]
 ·have hlt:decide ((j:Int)<(w.ins.length:Int))=false:=by simp;omega
  simp only[hlt,EVS]
  obtain c1|c1:=(Bool.eq_false_or_eq_true (decide (w.kind=2))).symm<;>simp only[c1,EVS]
  obtain c2|c2:=(Bool.eq_false_or_eq_true (decide (w.kind=3))).symm<;>simp only[c2,EVS]
  have hone:ZgS s k=decide ((s[k]'h.lt).toNat=(49:Int)):=by unfold ZgS;rw[List.getElem?_eq_getElem h.lt]
  have hbv:Zan (.str s) (.int .i64 (k:Int))=some (pU (s[k]'h.lt)):=Zr (List.getElem?_eq_getElem h.lt)
  unfold ZxB
  obtain c5|c5:=(Bool.eq_false_or_eq_true (decide (w.kind=5))).symm<;>simp only[c5,EVS]
  ·obtain c4|c4:=(Bool.eq_false_or_eq_true (decide (w.kind=4))).symm<;>simp only[c4,ZeG,hbv,hone,EVS]
   have h2:=h.two (of_decide_eq_true c4)
   have hpins:=h.pins
   revert h2 hpins
   rcases w.ins with _|⟨p,_|⟨q,_|⟨r,t⟩⟩⟩
   ·intro h2;simp at h2
   ·intro h2;simp at h2
   ·intro _ hpins
    have i0:Zk (.lst ([p,q].map Zac)) (.int .i64 0)=some (Zac p):=rfl
    have i1:Zk (.lst ([p,q].map Zac)) (.int .i64 1)=some (Zac q):=rfl
    have hp:=hpins p (by simp)
    have hq:=hpins q (by simp)
    have g1:=Zkx p s hp.1 hp.2
    have g2:=Zkx q s hq.1 hq.2
    simp only[Zac] at g1 g2
    simp only[i0,i1,Zac,g1,g2,EVS]
    cases Zcr p s<;>cases Zcr q s<;>simp[bne,hbv,ZwT]
   ·intro h2;simp at h2
  ·have hc:=Zyp w.cover (s.take n.signals.length) h.wire.cover (fun c hc=>⟨h.wire.cubes c hc,by have:=h.cubes (of_decide_eq_true c5) c hc;have:=h.sig;simp;omega⟩)
   simp only[Zo7 s _ h.sig,hc,EVS]
 ·simp only[ZfD,EVS]
theorem ZlL (n:PNet) (s:List UInt8) (k:Nat) (w:PWire) (h:At n s k w):ZdW [Zp n,.str s,pI k]=some (pB (ZfD n s k w)):=by
 have hi:Zk (.lst (n.wires.map Zo)) (.int .i64 (k:Int))=some (Zo w):=Zj h.here
 have g2:=Zck w.ins s h.wire.ins h.pins
 have g3:=Zcl w.ins s h.wire.ins h.pins
 have hone:ZgS s k=decide ((s[k]'h.lt).toNat=(49:Int)):=by unfold ZgS;rw[List.getElem?_eq_getElem h.lt]
 have hbv:Zan (.str s) (.int .i64 (k:Int))=some (pU (s[k]'h.lt)):=Zr (List.getElem?_eq_getElem h.lt)
 show (fun x0 x1 x2=>ZdW [x0,x1,x2]) _ _ _=_
 rw[Zqo]
 simp only[Zp,hi,Zo,EVS]
 unfold ZfD
 obtain c2|c2:=(Bool.eq_false_or_eq_true (decide (w.kind=2))).symm<;>simp only[c2,Zip,List.drop_zero,g2,Bool.not_not,EVS]
 obtain c3|c3:=(Bool.eq_false_or_eq_true (decide (w.kind=3))).symm<;>simp only[c3,Zip,List.drop_zero,g3,Bool.not_not,EVS]
 unfold ZxB
 obtain c4|c4:=(Bool.eq_false_or_eq_true (decide (w.kind=4))).symm<;>simp only[c4,ZeG,EVS]
 ·obtain c5|c5:=(Bool.eq_false_or_eq_true (decide (w.kind=5))).symm<;>simp only[c5,hbv,hone,EVS]
  have hc:=Zv5 w.cover (s.take n.signals.length) h.wire.cover (fun c hc=>⟨h.wire.cubes c hc,by have:=h.cubes (of_decide_eq_true c5) c hc;have:=h.sig;simp;omega⟩)
  simp only[Zo7 s _ h.sig,hc,EVS]
 ·have c5:decide (w.kind=5)=false:=by have:=of_decide_eq_true c4;simp;omega
  have h2:=h.two (of_decide_eq_true c4)
  have hpins:=h.pins
  simp only[c5,hone,EVS]
  revert h2 hpins
  rcases w.ins with _|⟨p,_|⟨q,_|⟨r,t⟩⟩⟩
  ·intro h2;simp at h2
  ·intro h2;simp at h2
  ·intro _ hpins
   have i0:Zk (.lst ([p,q].map Zac)) (.int .i64 0)=some (Zac p):=rfl
   have i1:Zk (.lst ([p,q].map Zac)) (.int .i64 1)=some (Zac q):=rfl
   have hp:=hpins p (by simp)
   have hq:=hpins q (by simp)
   have g1:=Ze8 p s hp.1 hp.2
   have g2:=Ze8 q s hq.1 hq.2
   simp only[Zac] at g1 g2
   simp only[i0,i1,Zac,g1,g2,EVS]
   cases Zcr p s<;>cases Zcr q s<;>simp[bne,hbv,ZwT,Zrn]
  ·intro h2;simp at h2
theorem Zjx {α:Type} (q:Nat→α→Bool):∀(l:List α) (j:Nat),ZN q j l=true→∀(i:Nat) (x:α),l[i]?=some x→q (j+i) x=true
 |[],j,_,i,x,hx=>by simp at hx
 | y::r,j,h,i,x,hx=>by
  unfold ZN at h
  rw[Bool.and_eq_true] at h
  cases i with
  |zero=>simp at hx;subst hx;simpa using h.1
  | succ i=>
   have:=Zjx q r (j+1) h.2 i x (by simpa using hx)
   rw[show j+(i+1)=j+1+i by omega]
   exact this
theorem Zo8 {α:Type} (q:α→Bool) {l:List α} (h:ZN (fun _ x=>q x) 0 l=true) {x:α} (hx:x∈l):q x=true:=by
 rw[Zaj] at h
 exact List.all_eq_true.1 h x hx
def ZfT (u:Bool):UInt8:=if u=true then 49 else 48
theorem Zyq (u:Bool):ZfC (ZfT u)=true:=by cases u<;>decide
theorem Zjy (u:Bool):Zek [pB u]=some (.str [ZfT u]):=by
 show (fun x0=>Zek [x0]) _=_
 rw[Zwu]
 cases u<;>simp only[EVS]<;>rfl
theorem ZxC (u:Bool):ZlT [pB u]=some (pU (ZfT u)):=by
 show (fun x0=>ZlT [x0]) _=_
 rw[ZAb]
 cases u<;>simp only[EVS]<;>rfl
theorem ZxD {α:Type} (c:List α) (i:Nat) (b:α) (h:i<c.length):c.take i++[b]++c.drop (i+1)=c.set i b:=by
 rw[List.set_eq_take_append_cons_drop,if_pos h,List.append_assoc]
 rfl
theorem Zjz (c:List UInt8) (i:Nat) (b:UInt8) (h:i<c.length) (hc:ZA c):Zel [.str c,pI i,.str [b]]=some (.str (c.set i b)):=by
 unfold ZA at hc
 have h1:Zif (.str c) none (some (.int .i64 (i:Int)))=some (.str (c.take i)):=ZqK (by omega)
 have h2:Zif (.str c) (some (.int .i64 ((i+1:Nat):Int))) none=some (.str (c.drop (i+1))):=ZqL (by omega)
 show (fun x0 x1 x2=>Zel [x0,x1,x2]) _ _ _=_
 rw[Zwv]
 have h3:Zd .add TD.str (.str (c.take i)) (.str [b])=some (.str (c.take i++[b])):=ZbF (by simp;omega)
 have h4:Zd .add TD.str (.str (c.take i++[b])) (.str (c.drop (i+1)))=some (.str (c.take i++[b]++c.drop (i+1))):=ZbF (by simp;omega)
 simp only[h1,Zi h hc,h2,h3,h4,ZxD c i b h,EVS]
theorem ZaN {s:List UInt8} {n:Nat}:Z2 s n=true↔(∀b∈s,ZfC b=true)∧s.length=n:=by
 unfold Z2
 rw[Zaj,Bool.and_eq_true,List.all_eq_true,decide_eq_true_eq]
 constructor
 ·rintro ⟨h1,h2⟩;exact ⟨h1,by omega⟩
 ·rintro ⟨h1,h2⟩;exact ⟨h1,by omega⟩
theorem Zo9 {v:List UInt8} {N k:Nat} (h:Z2 v N=true) (u:Bool):Z2 (v.set k (ZfT u)) N=true:=by
 rw[ZaN] at h⊢
 refine ⟨fun b hb=> ?_,by simpa using h.2⟩
 rcases List.mem_or_eq_of_mem_set hb with hb|rfl
 ·exact h.1 b hb
 ·exact Zyq u
theorem Zpa {c:List UInt8} {m N:Nat} (h:Z2 c m=true) (hm:m≤N):Z2 (c++List.replicate (N - m) 48) N=true:=by
 rw[ZaN] at h⊢
 refine ⟨fun b hb=> ?_,by simp[h.2];omega⟩
 rcases List.mem_append.1 hb with hb|hb
 ·exact h.1 b hb
 ·obtain ⟨_,rfl⟩:=List.mem_replicate.1 hb;decide
theorem ZlM (b:UInt8):ZfC b=true↔b=48∨b=49:=by
 unfold ZfC
 rw[Bool.or_eq_true,decide_eq_true_eq,decide_eq_true_eq]
 have h48:(48:UInt8).toNat=48:=rfl
 have h49:(49:UInt8).toNat=49:=rfl
 constructor
 ·rintro (h|h)
  ·exact .inl (UInt8.toNat_inj.1 (by omega))
  ·exact .inr (UInt8.toNat_inj.1 (by omega))
 ·rintro (rfl|rfl)
  ·exact .inl rfl
  ·exact .inr rfl
theorem Zz5 (n:PNet) (s:List UInt8) (k:Nat) (hn:n.Fit) (hs:ZA s) (hv:Ze7 n s=true) (hk:k<n.wires.length):At n s k n.wires[k]:=by
 unfold Ze7 Zdi Z2 at hv
 simp only[Bool.and_eq_true,decide_eq_true_eq,Bool.not_eq_true',decide_eq_false_iff_not] at hv
 obtain ⟨⟨⟨h1,h2,h3⟩,h4⟩,h5,h6⟩:=hv
 have hx:n.wires[k]?=some n.wires[k]:=List.getElem?_eq_getElem hk
 have hw:=Zjx _ _ _ h4 k _ hx
 rw[Nat.zero_add] at hw
 unfold ZbJ ZlK Zq7 at hw
 simp only[Bool.and_eq_true] at hw
 obtain ⟨⟨⟨⟨hkd,_⟩,hcov⟩,_,hpins,hform⟩,_⟩:=hw
 refine ⟨hn,hx,hn.wire _ (List.getElem_mem hk),hs,by omega,by omega,fun p hp=> ?_,fun hk5 c hc=> ?_,fun hk4=> ?_⟩
 ·have:=Zo8 (fun p=>ZiI n k p) hpins hp
  unfold ZiI inR at this
  simp only[Bool.and_eq_true,decide_eq_true_eq] at this
  omega
 ·rw[if_pos (by simp[hk5])] at hcov
  unfold Zo2 Zn5 at hcov
  simp only[Bool.and_eq_true] at hcov
  have:=Zo8 (fun c=>ZlJ c&&decide ((c.length:Int)=n.signals.length)) hcov.1 hc
  simp only[Bool.and_eq_true,decide_eq_true_eq] at this
  omega
 ·unfold Zf2 at hform
  rw[if_neg (by simp[hk4]),if_pos (by simp[hk4])] at hform
  simp only[decide_eq_true_eq] at hform
  omega
theorem ZAY (s:List UInt8) (h:s.length≤9223372036854775807):ZqO (.str s)=some (.lst (s.map pU)):=by
 unfold ZqO
 simp only
 rw[if_pos h]
theorem Zv7 (k k':IntKind) (m n:Int):ZaB 0 1 [.int k m] (.int k m) (.int k' n)=some (.int k' n):=rfl
theorem ZjA {α:Type} (f:α→PV) (l:List α) (i:Nat) (x:α):(l.map f).set i (f x)=(l.set i x).map f:=by rw[List.map_set]
structure PArc where
 from_:Int
 sig:Int
 up:Bool
 to_:Int
structure PSG where
 signals:List (List UInt8×Int)
 codes:List (List UInt8)
 arcs:List PArc
def Z3 (a:PArc):PV:=.agg [pI a.from_,pI a.sig,pB a.up,pI a.to_]
def eSG (c:PSG):PV:=.agg [.lst (c.signals.map ZD),.lst (c.codes.map PV.str),.lst (c.arcs.map Z3)]
structure SGFit (c:PSG):Prop where
 sigs:ZA c.signals
 names:∀s∈c.signals,ZA s.1
 codes:ZA c.codes
 each:∀x∈c.codes,ZA x
 arcs:ZA c.arcs
def Zf3 (n:Int) (sig:Int) (up:Bool):Bool:=inR sig 0 (n - 1)||(decide (sig= -1)&& !up)
theorem Zub (sig:Int) (up:Bool) (n:Nat) (hn:n≤9223372036854775807):Zgd [.agg [pI sig,pB up],pI n]=some (pB (Zf3 n sig up)):=by
 have g:=ZaJ sig 0 ((n:Int) - 1)
 have gi:inR sig 0 ((n:Int) - 1)=(decide ((0:Int)≤sig)&&decide (sig≤(n:Int) - 1)):=rfl
 rw[←gi] at g
 have hw:IntKind.i64.wrap ((n:Int) - 1)=(n:Int) - 1:=Zav (by omega) (by omega)
 show (fun x0 x1=>Zgd [x0,x1]) _ _=_
 rw[ZsA]
 unfold Zf3
 simp only[hw,g,EVS]
 cases inR sig 0 ((n:Int) - 1)<;>simp only[EVS]
 rw[show Int.negSucc 0=(-1:Int) from rfl]
 cases decide (sig= -1)<;>simp only[EVS]
theorem Zv8 (sig:Int) (up:Bool) (n:Nat) (hn:n≤9223372036854775807):ZhL [.agg [pI sig,pB up],pI n]=some (pB (Zf3 n sig up)):=by
 have g:=Zah sig 0 ((n:Int) - 1)
 have hw:IntKind.i64.wrap ((n:Int) - 1)=(n:Int) - 1:=Zav (by omega) (by omega)
 have he:eqV (some [(0,TD.int IntKind.i64),(1,TD.bool)]) TD.struct (.agg [pI sig,pB up]) (.agg [pI (-1),pB false])=some (decide (sig= -1)&& !up):=by
  rw[eqPin];cases up<;>rfl
 show (fun x0 x1=>ZhL [x0,x1]) _ _=_
 rw[ZuB]
 unfold Zf3
 simp only[hw,g,EVS]
 cases inR sig 0 ((n:Int) - 1)<;>simp only[EVS]
 rw[show Int.negSucc 0=(-1:Int) from rfl]
 have hsp:splice [ZC.pv (.int .i64),ZC.pv .bool] 0 [pI (-1)]=[pI (-1),pB false]:=rfl
 simp only[hsp,he,EVS]
def ZlN (sig:Int) (up:Bool) (x y:List UInt8):Bool:=
 if decide (sig<0)=true then decide (x=y) else decide (x=y.set sig.toNat (ZfT (!up)))&&decide (y=x.set sig.toNat (ZfT up))
def Zke (sig:Int) (up:Bool) (y:List UInt8) (k:Nat) (b:UInt8):Bool:=
 if decide ((k:Int)=sig)=true then !(decide ((b.toNat:Int)=49)==up)&&decide (((y.getD k 0).toNat:Int)=49)==up else decide ((b.toNat:Int)=(y.getD k 0).toNat)
theorem Zv9 :(false==false)=true:=rfl
theorem Zwa :(false==true)=false:=rfl
theorem Zwb :(true==false)=false:=rfl
theorem Zwc :(true==true)=true:=rfl
theorem bbn (a b:Bool):Zd .neq TD.bool (.bool a) (.bool b)=some (.bool (!(a==b))):=rfl
theorem Zqa (a:PArc) (x y:List UInt8) (hx:ZA x) (hl:y.length=x.length):Zeu [Z3 a,.str x,.str y]=some (pB (ZN (Zke a.sig a.up y) 0 x)):=by
 unfold ZA at hx
 show (fun x0 x1 x2=>Zeu [x0,x1,x2]) _ _ _=_
 rw[Zpx]
 simp only[Z3,EVS]
 refine (congrArg (fun m:Option PV=>m.bind fun r=>if r.sc=true then some r else none) (ZO (R:=PV) x (Zke a.sig a.up y) (some (pB false)) (some (pB true)) _ hx (fun again k b hb=> ?_) (fun again=> ?_))).trans ?_
 ·have hk:=Ze hb
  have hy:y[k]?=some (y.getD k 0):=by rw[List.getD_eq_getElem?_getD,List.getElem?_eq_getElem (by omega)];rfl
  have b1:=Zr (k:=.i64) hb
  have b2:=Zr (k:=.i64) hy
  unfold Zke
  simp only[Zs hk,Zi hk hx,b1,b2,EVS]
  cases c1:decide ((k:Int)=a.sig)
  ·simp only[c1,Zs hk,Zi hk hx,b1,b2,EVS]
   cases decide ((b.toNat:Int)=(y.getD k 0).toNat)<;>simp only[EVS]
  ·simp only[c1,Zs hk,Zi hk hx,b1,b2,EVS]
   cases decide ((b.toNat:Int)=49)<;>cases c3:decide (((y.getD k 0).toNat:Int)=49)<;>cases a.up<;>first|rfl|(simp only[Zv9,Zwa,Zwb,Zwc,b1,b2,EVS];done)|(simp only[Zv9,Zwa,Zwb,Zwc,b1,b2,EVS];rfl)|(simp only[Zv9,Zwa,Zwb,Zwc,bbn,b1,b2,c3,EVS];done)
 ·simp only[ZW,EVS]
 ·cases ZN (Zke a.sig a.up y) 0 x<;>simp only[EVS]<;>rfl
theorem Zpb {α:Type} (q:Nat→α→Bool):∀(l:List α) (j:Nat),ZN q j l=true↔∀(i:Nat) (x:α),l[i]?=some x→q (j+i) x=true
 |[],j=>by simp[ZN]
 | y::r,j=>by
  refine ⟨fun h=>Zjx q (y::r) j h,fun h=> ?_⟩
  unfold ZN
  rw[Bool.and_eq_true]
  refine ⟨by simpa using h 0 y rfl,(Zpb q r (j+1)).2 fun i x hx=> ?_⟩
  have:=h (i+1) x (by simpa using hx)
  rw[show j+(i+1)=j+1+i by omega] at this
  exact this
theorem ZxE {b:UInt8} (h:ZfC b=true):b=ZfT (decide ((b.toNat:Int)=49)):=by
 unfold ZfC at h
 simp only[Bool.or_eq_true,decide_eq_true_eq,Bool.and_eq_true,Bool.not_eq_true',decide_eq_false_iff_not] at h
 by_cases c:(b.toNat:Int)=49
 ·simp only[c,decide_true]
  apply UInt8.toNat_inj.1
  show b.toNat=49
  omega
 ·simp only[c,decide_false]
  apply UInt8.toNat_inj.1
  show b.toNat=48
  omega
theorem ZxF {x:List UInt8} {n:Int} (h:Z2 x n=true) {i:Nat} {b:UInt8} (hi:x[i]?=some b):ZfC b=true:=by
 unfold Z2 at h
 rw[Bool.and_eq_true] at h
 exact Zo8 ZfC h.1 (List.mem_of_getElem? hi)
theorem ZgT {x:List UInt8} {n:Nat} (h:Z2 x n=true):x.length=n:=by
 unfold Z2 at h
 rw[Bool.and_eq_true,decide_eq_true_eq] at h
 omega
theorem Zsc {a b:UInt8}:(a.toNat:Int)=b.toNat↔a=b:=by
 rw[Int.ofNat_inj,UInt8.toNat_inj]
theorem ZAZ (sig:Int) (up:Bool) (x y:List UInt8) (n:Nat) (hx:Z2 x n=true) (hy:Z2 y n=true) (he:Zf3 n sig up=true):ZN (Zke sig up y) 0 x=ZlN sig up x y:=by
 have lx:=ZgT hx
 have ly:=ZgT hy
 rw[Bool.eq_iff_iff,Zpb]
 unfold Zf3 inR at he
 simp only[Bool.or_eq_true,Bool.and_eq_true,decide_eq_true_eq,Bool.not_eq_true'] at he
 have gy:∀i b,x[i]?=some b→y[i]?=some (y.getD i 0):=fun i b hb=>by
  have:=(List.getElem?_eq_some_iff.1 hb).1
  rw[List.getD_eq_getElem?_getD,List.getElem?_eq_getElem (by omega)];rfl
 unfold ZlN
 by_cases c:sig<0
 ·simp only[c,decide_true,if_true,decide_eq_true_eq]
  constructor
  ·intro h
   apply List.ext_getElem (by omega)
   intro i h1 h2
   have:=h i x[i] (List.getElem?_eq_getElem h1)
   unfold Zke at this
   have d:decide (((0+i:Nat):Int)=sig)=false:=by simp only[decide_eq_false_iff_not];omega
   rw[d] at this
   simp only[Nat.zero_add,Bool.false_eq_true,if_false,decide_eq_true_eq,Zsc] at this
   rw[this,List.getD_eq_getElem?_getD,List.getElem?_eq_getElem h2];rfl
  ·rintro rfl i b hb
   unfold Zke
   have d:decide (((0+i:Nat):Int)=sig)=false:=by simp only[decide_eq_false_iff_not];omega
   rw[d]
   simp only[Nat.zero_add,Bool.false_eq_true,if_false,decide_eq_true_eq,Zsc]
   rw[List.getD_eq_getElem?_getD,hb];rfl
 ·obtain ⟨s,rfl⟩:=Int.eq_ofNat_of_zero_le (show 0≤sig by omega)
  have hs:s<n:=by omega
  simp only[c,decide_false,Bool.false_eq_true,if_false,Bool.and_eq_true,decide_eq_true_eq,Int.toNat_natCast]
  have hxs:x[s]?=some (x[s]'(by omega)):=List.getElem?_eq_getElem _
  have hys:y[s]?=some (y[s]'(by omega)):=List.getElem?_eq_getElem _
  have gs:y.getD s 0=y[s]'(by omega):=by rw[List.getD_eq_getElem?_getD,hys];rfl
  constructor
  ·intro h
   have h0:=h s _ hxs
   unfold Zke at h0
   simp only[Nat.zero_add,decide_true,if_true,gs] at h0
   have bx:=ZxE (ZxF hx hxs)
   have by_:=ZxE (ZxF hy hys)
   have ho:∀i (h1:i<x.length) (h2:i<y.length),i≠s→x[i]=y[i]:=fun i h1 h2 hn=>by
    have:=h i x[i] (List.getElem?_eq_getElem h1)
    unfold Zke at this
    have d:decide (((0+i:Nat):Int)=(s:Int))=false:=by simp only[decide_eq_false_iff_not];omega
    rw[d] at this
    simp only[Nat.zero_add,Bool.false_eq_true,if_false,decide_eq_true_eq,Zsc] at this
    rw[this,List.getD_eq_getElem?_getD,List.getElem?_eq_getElem h2];rfl
   generalize decide (((x[s]'(by omega)).toNat:Int)=49)=p at h0 bx
   generalize decide (((y[s]'(by omega)).toNat:Int)=49)=q at h0 by_
   have hp:p= !up:=by revert h0;cases p<;>cases q<;>cases up<;>decide
   have hq:q=up:=by revert h0;cases p<;>cases q<;>cases up<;>decide
   refine ⟨List.ext_getElem (by simp;omega) fun i h1 h2=> ?_,List.ext_getElem (by simp;omega) fun i h1 h2=> ?_⟩
   ·rw[List.getElem_set]
    split
    ·rename_i e;subst e;rw[bx,hp]
    ·rename_i e;exact ho i h1 (by simpa using h2) (Ne.symm e)
   ·rw[List.getElem_set]
    split
    ·rename_i e;subst e;rw[by_,hq]
    ·rename_i e;exact (ho i (by simpa using h2) h1 (Ne.symm e)).symm
  ·rintro ⟨e1,e2⟩ i b hb
   unfold Zke
   have hi:=(List.getElem?_eq_some_iff.1 hb).1
   by_cases cs:i=s
   ·subst cs
    simp only[Nat.zero_add,decide_true,if_true,gs]
    have hbx:x[i]?=some (ZfT (!up)):=by rw[e1,List.getElem?_set];simp;omega
    have hby:y[i]?=some (ZfT up):=by rw[e2,List.getElem?_set];simp;omega
    rw[hb] at hbx
    rw[hys] at hby
    rw[Option.some.inj hbx,Option.some.inj hby]
    cases up<;>decide
   ·have d:decide (((0+i:Nat):Int)=(s:Int))=false:=by simp only[decide_eq_false_iff_not];omega
    rw[d]
    simp only[Nat.zero_add,Bool.false_eq_true,if_false,decide_eq_true_eq,Zsc]
    have:y[i]?=x[i]?:=by
     conv=>lhs;rw[e2]
     rw[List.getElem?_set,if_neg (Ne.symm cs)]
    rw[List.getD_eq_getElem?_getD,this,hb];rfl
theorem Zpc (s u:PV):splice (splice [ZC.pv (.int .i64),ZC.pv .bool] 0 [s]) 1 [u]=[s,u]:=rfl
def Zc0 (n:Nat) (last:Int) (a:PArc):Bool:=(inR a.from_ 0 last&&inR a.to_ 0 last)&&Zf3 n a.sig a.up
def Zky (c:PSG) (a:PArc):Bool:=Zc0 c.signals.length ((c.codes.length:Int) - 1) a&&ZlN a.sig a.up (c.codes.getD a.from_.toNat []) (c.codes.getD a.to_.toNat [])
structure CodesP (c:PSG):Prop where
 one:1≤c.codes.length
 many:c.codes.length≤300
 bits:∀x∈c.codes,Z2 x c.signals.length=true
 arcs:c.arcs.length≤4000
theorem Zpd {c:PSG} {a:PArc} (h:Zc0 c.signals.length ((c.codes.length:Int) - 1) a=true):∃f t x y,a.from_=((f:Nat):Int)∧a.to_=((t:Nat):Int)∧f<c.codes.length∧t<c.codes.length∧c.codes[f]?=some x∧c.codes[t]?=some y∧Zf3 c.signals.length a.sig a.up=true:=by
 unfold Zc0 inR at h
 simp only[Bool.and_eq_true,decide_eq_true_eq] at h
 obtain ⟨⟨⟨h1,h2⟩,h3,h4⟩,h5⟩:=h
 obtain ⟨f,hf⟩:=Int.eq_ofNat_of_zero_le h1
 obtain ⟨t,ht⟩:=Int.eq_ofNat_of_zero_le h3
 have l1:f<c.codes.length:=by omega
 have l2:t<c.codes.length:=by omega
 exact ⟨f,t,_,_,hf,ht,l1,l2,List.getElem?_eq_getElem l1,List.getElem?_eq_getElem l2,h5⟩
theorem Zyr (c:PSG) (a:PArc) (hc:SGFit c) (hp:CodesP c):ZjH [eSG c,Z3 a]=some (pB (Zky c a)):=by
 have hsl:=hc.sigs
 unfold ZA at hsl
 have hm:=hp.many
 have g1:=ZaJ a.from_ 0 ((c.codes.length:Int) - 1)
 have g2:=ZaJ a.to_ 0 ((c.codes.length:Int) - 1)
 have gi:∀z:Int,inR z 0 ((c.codes.length:Int) - 1)=(decide ((0:Int)≤z)&&decide (z≤(c.codes.length:Int) - 1)):=fun _=>rfl
 rw[←gi] at g1 g2
 have g3:=Zub a.sig a.up c.signals.length hsl
 have hw:IntKind.i64.wrap ((c.codes.length:Int) - 1)=(c.codes.length:Int) - 1:=Zav (by omega) (by omega)
 show (fun x0 x1=>ZjH [x0,x1]) _ _=_
 rw[Zwx]
 unfold Zky
 cases hg:Zc0 c.signals.length ((c.codes.length:Int) - 1) a
 ·unfold Zc0 at hg
  cases c1:inR a.from_ 0 ((c.codes.length:Int) - 1)
  ·simp only[eSG,Z3,List.length_map,hw,g1,c1,EVS]
  cases c2:inR a.to_ 0 ((c.codes.length:Int) - 1)
  ·simp only[eSG,Z3,List.length_map,hw,g1,g2,c1,c2,EVS]
  cases c3:Zf3 c.signals.length a.sig a.up
  ·simp only[eSG,Z3,List.length_map,hw,g1,g2,g3,c1,c2,c3,Zpc,EVS]
  ·rw[c1,c2,c3] at hg;cases hg
 ·obtain ⟨f,t,x,y,hf,ht,l1,l2,hx,hy,he⟩:=Zpd hg
  unfold Zc0 at hg
  simp only[Bool.and_eq_true] at hg
  have bx:=hp.bits x (List.mem_of_getElem? hx)
  have by_:=hp.bits y (List.mem_of_getElem? hy)
  have i1:Zk (.lst (c.codes.map PV.str)) (.int .i64 (f:Int))=some (.str x):=Zj hx
  have i2:Zk (.lst (c.codes.map PV.str)) (.int .i64 (t:Int))=some (.str y):=Zj hy
  have e1:c.codes.getD f []=x:=by rw[List.getD_eq_getElem?_getD,hx];rfl
  have e2:c.codes.getD t []=y:=by rw[List.getD_eq_getElem?_getD,hy];rfl
  have c1:=hg.1.1
  have c2:=hg.1.2
  simp only[hf] at g1 c1
  simp only[ht] at g2 c2
  rw[hf,ht,Int.toNat_natCast,Int.toNat_natCast,e1,e2]
  unfold ZlN
  have lx:=ZgT bx
  have ly:=ZgT by_
  by_cases cs:a.sig<0
  ·have d:decide (a.sig<0)=true:=by simpa using cs
   simp only[eSG,Z3,hf,ht,List.length_map,hw,g1,g2,g3,c1,c2,he,Zpc,i1,i2,d,EVS]
  ·have d:decide (a.sig<0)=false:=by simpa using cs
   obtain ⟨s,hs⟩:=Int.eq_ofNat_of_zero_le (show 0≤a.sig by omega)
   have hsn:s<c.signals.length:=by
    unfold Zf3 inR at he
    simp only[Bool.or_eq_true,Bool.and_eq_true,decide_eq_true_eq] at he
    omega
   have s1:=Zjz y s (ZfT (!a.up)) (by omega) (hc.each y (List.mem_of_getElem? hy))
   have s2:=Zjz x s (ZfT a.up) (by omega) (hc.each x (List.mem_of_getElem? hx))
   have b1:=Zjy (!a.up)
   have b2:=Zjy a.up
   rw[hs] at d g3 he
   simp only[eSG,Z3,hf,ht,hs,List.length_map,hw,g1,g2,g3,c1,c2,he,Zpc,i1,i2,d,s1,b1,Int.toNat_natCast,Bool.false_eq_true,if_false,EVS]
   cases c4:decide (x=y.set s (ZfT (!a.up)))
   ·simp only[EVS]
   ·simp only[s2,b2,EVS]
def Zpe (c:PSG):List (Nat×Nat):=c.arcs.map fun a=>(a.from_.toNat,a.to_.toNat)
def Zpf (n:Nat) (l:List PArc):Prop:=∀a∈l,inR a.from_ 0 ((n:Int) - 1)=true∧inR a.to_ 0 ((n:Int) - 1)=true
theorem ZmG {n:Nat} {l:List PArc} (h:Zpf n l) {a:PArc} (ha:a∈l):∃f t:Nat,a.from_=f∧a.to_=t∧f<n∧t<n:=by
 obtain ⟨h1,h2⟩:=h a ha
 unfold inR at h1 h2
 simp only[Bool.and_eq_true,decide_eq_true_eq] at h1 h2
 obtain ⟨f,hf⟩:=Int.eq_ofNat_of_zero_le h1.1
 obtain ⟨t,ht⟩:=Int.eq_ofNat_of_zero_le h2.1
 exact ⟨f,t,hf,ht,by omega,by omega⟩
theorem Znq :∀(r:List (Nat×Nat)) (m:List Bool),(Zfn r m).length=m.length
 |[],_=>rfl
 | e::r,m=>by
  unfold Zfn
  rw[Znq r]
  split<;>simp
theorem se_b (a b:Bool):ZaB 0 1 [.bool a] (.bool a) (.bool b)=some (.bool b):=rfl
theorem ZxG {R:Type} (e:List Bool→Option R):∀(l:List PArc) (k:Nat) (m:List Bool),Z5 (fun (m:List Bool) (_:Nat) (a:PArc)=>.inl (if m.getD a.from_.toNat false=true then m.set a.to_.toNat true else m)) e k m l=e (Zfn (l.map fun a=>(a.from_.toNat,a.to_.toNat)) m)
 |[],k,m=>rfl
 |a::l,k,m=>ZxG e l (k+1) _
theorem Zq9 {R:Type} (es:List (Nat×Nat)) (e:List Bool→Option R):∀(l:List (List UInt8)) (k:Nat) (m:List Bool),Z5 (fun (m:List Bool) (_:Nat) (_:List UInt8)=>.inl (Zfn es m)) e k m l=e (metG es l.length m)
 |[],k,m=>rfl
 |a::l,k,m=>Zq9 es e l (k+1) _
theorem Zys (c:PSG) (hc:SGFit c) (hp:CodesP c) (ha:Zpf c.codes.length c.arcs):ZjI [eSG c]=some (pB ((ZwI c.codes.length (Zpe c) 0).all id)):=by
 have h1:=hp.one
 have h2:=hp.many
 have h3:=hp.arcs
 have hmk:=Zs7 (TI.mk 1 1 TD.bool [ZC.bool] [] false) c.codes.length (by omega)
 have hz:Zba (TI.mk 1 1 TD.bool [ZC.bool] [] false)=.bool false:=rfl
 rw[hz] at hmk
 have hp0:ZaM (List.replicate c.codes.length (PV.bool false)) (.int .i64 ((0:Nat):Int))=some (.int .i64 ((0:Nat):Int)):=ZbE (by simp;omega)
 have hg0:(List.replicate c.codes.length (PV.bool false))[0]?=some (.bool false):=by rw[List.getElem?_replicate,if_pos (by omega)]
 have hs0:(List.replicate c.codes.length (PV.bool false)).set 0 (.bool true)=((List.replicate c.codes.length false).set 0 true).map PV.bool:=by rw[←ZjA,List.map_replicate]
 simp only[Int.natCast_zero] at hp0
 have ht0:Int.toNat 0=0:=rfl
 show (fun x0=>ZjI [x0]) _=_
 rw[Zwz]
 simp only[eSG,List.length_map,hmk,hp0,ht0,hg0,se_b,hs0,EVS]
 obtain ⟨m0,hm0⟩:∃m0,(List.replicate c.codes.length false).set 0 true=m0:=⟨_,rfl⟩
 have hl0:m0.length=c.codes.length:=by rw[←hm0];simp
 unfold ZwI
 rw[hm0]
 refine (congrArg (fun m:Option PV=>m.bind fun r=>if r.sc=true then some r else none) ((ZaI (R:=PV) c.codes (fun (m:List Bool) k=>[.lst (m.map PV.bool),pI (Int.ofNat k)]) (fun _ m=>m.length=c.codes.length) (fun (m:List Bool) _ _=>.inl (Zfn (Zpe c) m)) (fun m=>some (pB (m.all id))) _ (by omega) (fun m k x m' hm hx he=> ?_) (fun again m k x hm hx=> ?_) (fun again m hm=> ?_) hl0).trans (Zq9 _ _ _ _ _))).trans ?_
 ·cases he;rw[Znq];exact hm
 ·have hk:=Ze hx
  simp only[Zs hk,EVS]
  refine (ZaI (R:=PV) c.arcs (fun (m:List Bool) k=>[.lst (m.map PV.bool),pI (Int.ofNat k)]) (fun _ m=>m.length=c.codes.length) (fun (m:List Bool) _ a=>.inl (if m.getD a.from_.toNat false=true then m.set a.to_.toNat true else m)) (fun m=>again [.lst (m.map PV.bool),pI (Int.ofNat (k+1))]) _ (by omega) (fun m j a m' hm ha' he=> ?_) (fun again' m j a hm ha'=> ?_) (fun again' m hm=> ?_) hm).trans (ZxG _ _ _ _)
  ·cases he;split<;>simp[hm]
  ·have hj:=Ze ha'
   obtain ⟨f,t,hf,ht,l1,l2⟩:=ZmG ha (List.mem_of_getElem? ha')
   have hi:Zk (.lst (c.arcs.map Z3)) (.int .i64 (j:Int))=some (Z3 a):=Zj ha'
   have p1:ZaM (m.map PV.bool) (.int .i64 (f:Int))=some (.int .i64 (f:Int)):=ZbE (by rw[List.length_map];omega)
   have p2:ZaM (m.map PV.bool) (.int .i64 (t:Int))=some (.int .i64 (t:Int)):=ZbE (by rw[List.length_map];omega)
   have q1:(m.map PV.bool)[f]?=some (.bool (m.getD f false)):=by rw[List.getElem?_map,List.getD_eq_getElem?_getD,List.getElem?_eq_getElem (by omega)];rfl
   have q2:(m.map PV.bool)[t]?=some (.bool (m.getD t false)):=by rw[List.getElem?_map,List.getD_eq_getElem?_getD,List.getElem?_eq_getElem (by omega)];rfl
   have st:(m.map PV.bool).set t (.bool true)=(m.set t true).map PV.bool:=ZjA PV.bool m t true
   rw[hf,ht,Int.toNat_natCast,Int.toNat_natCast]
   cases hb:m.getD f false<;>simp only[Zs hj,Zi hj (show c.arcs.length≤9223372036854775807 by omega),hi,Z3,hf,ht,p1,p2,q1,q2,hb,se_b,st,Bool.false_eq_true,if_false,if_true,EVS]
  ·simp only[ZW,Zi hk (show c.codes.length≤9223372036854775807 by omega),EVS]
 ·simp only[ZW,EVS]
  refine (ZO (R:=PV) m (fun _ b=>b) (some (pB false)) (some (pB true)) _ (by omega) (fun again k b hb=> ?_) (fun again=> ?_)).trans ?_
  ·have hk:=Ze hb
   have p1:ZaM (m.map PV.bool) (.int .i64 (k:Int))=some (.int .i64 (k:Int)):=ZbE (by rw[List.length_map];omega)
   have q1:(m.map PV.bool)[k]?=some (.bool b):=by rw[List.getElem?_map,hb];rfl
   cases b<;>simp only[List.length_map,Zs hk,Zi hk (show m.length≤9223372036854775807 by omega),p1,q1,Bool.false_eq_true,if_false,if_true,EVS]
  ·simp only[List.length_map,ZW,EVS]
  ·rw[Zaj]
   show _=some (pB (m.all fun b=>b))
   cases m.all (fun b=>b)<;>rfl
 ·simp only[EVS]
theorem Zkf (n s:Nat) (es:List (Nat×Nat)) (hn:n≤1000) (hs:s<n) (hl:es.length≤100000) (hes:∀e∈es,e.1<n∧e.2<n):Zdq [pI (n:Int),.lst (es.map pSt),pI (s:Int)]=some (.lst ((Zbp n es s).map pI)):=by
 have hc:(0:Int)≤(n:Int)∧(n:Int)≤1000∧(0:Int)≤(s:Int)∧(s:Int)<(n:Int)∧es.length≤100000∧(es.all fun e=>decide (e.1<(n:Int).toNat∧e.2<(n:Int).toNat))=true:=by
  refine ⟨by omega,by omega,by omega,by omega,hl,List.all_eq_true.2 fun e he=> ?_⟩
  rw[Int.toNat_natCast]
  exact decide_eq_true (hes e he)
 show (match ZpT (es.map pSt) with
  |some es=>if (0:Int)≤(n:Int)∧(n:Int)≤1000∧(0:Int)≤(s:Int)∧(s:Int)<(n:Int)∧es.length≤100000∧(es.all fun e=>decide (e.1<(n:Int).toNat∧e.2<(n:Int).toNat))=true then some (PV.lst ((Zbp (n:Int).toNat es (s:Int).toNat).map pI)) else none
  |none=>none)=_
 rw[Zrh]
 show (if _ then _ else _)=_
 rw[if_pos hc,Int.toNat_natCast,Int.toNat_natCast]
def ZgU (c:PSG):Bool:=(Zkc c.signals&&inR c.codes.length 1 300)&& !decide ((4000:Int)<c.arcs.length)
def Zsd (c:PSG):Bool:=c.codes.all fun x=>Z2 x c.signals.length
def Zhk (c:PSG):Bool:=c.arcs.all (Zky c)
def ZiK (c:PSG):Bool:=(ZwI c.codes.length (Zpe c) 0).all id
def sgV (c:PSG):Bool:=(ZgU c&&Zsd c)&&(Zhk c&&ZiK c)
theorem ZiL {c:PSG} (h1:ZgU c=true) (h2:Zsd c=true):CodesP c:=by
 unfold ZgU inR at h1
 simp only[Bool.and_eq_true,Bool.not_eq_true',decide_eq_true_eq,decide_eq_false_iff_not] at h1
 unfold Zsd at h2
 exact ⟨by omega,by omega,fun x hx=>List.all_eq_true.1 h2 x hx,by omega⟩
theorem Zra {c:PSG} (h:Zhk c=true):Zpf c.codes.length c.arcs:=fun a ha=>by
 have:=List.all_eq_true.1 h a ha
 unfold Zky Zc0 at this
 simp only[Bool.and_eq_true] at this
 exact this.1.1
theorem Zwd (c:PSG) (hc:SGFit c):Zh3 [eSG c]=some (pB (sgV c)):=by
 have hcl:=hc.codes
 have hal:=hc.arcs
 unfold ZA at hcl hal
 have g1:=Zkd c.signals hc.sigs hc.names
 have g2:=ZaJ (c.codes.length:Int) 1 300
 have gi:inR (c.codes.length:Int) 1 300=(decide ((1:Int)≤c.codes.length)&&decide ((c.codes.length:Int)≤300)):=rfl
 rw[←gi] at g2
 show (fun x0=>Zh3 [x0]) _=_
 rw[ZuY]
 unfold sgV
 cases hpre:ZgU c
 ·unfold ZgU at hpre
  cases c1:Zkc c.signals
  ·simp only[eSG,List.length_map,g1,c1,EVS]
  cases c2:inR (c.codes.length:Int) 1 300
  ·simp only[eSG,List.length_map,g1,g2,c1,c2,EVS]
  cases c3:decide ((4000:Int)<c.arcs.length)
  ·rw[c1,c2,c3] at hpre;cases hpre
  ·simp only[eSG,List.length_map,g1,g2,c1,c2,c3,EVS]
 have hpre':=hpre
 unfold ZgU at hpre'
 simp only[Bool.and_eq_true,Bool.not_eq_true'] at hpre'
 obtain ⟨⟨c1,c2⟩,c3⟩:=hpre'
 simp only[eSG,List.length_map,g1,g2,c1,c2,c3,EVS]
 refine (congrArg (fun m:Option PV=>m.bind fun r=>if r.sc=true then some r else none) (Zjs (R:=PV) c.codes (fun _ x=>Z2 x c.signals.length) (some (pB false)) (some (pB (Zhk c&&ZiK c))) _ hcl (fun again k x hx=> ?_) (fun hall again=> ?_))).trans ?_
 ·have hk:=Ze hx
  have hi:Zk (.lst (c.codes.map PV.str)) (.int .i64 (k:Int))=some (.str x):=Zj hx
  have g:=Zo5 x c.signals.length (hc.each x (List.mem_of_getElem? hx))
  cases cb:Z2 x c.signals.length<;>simp only[Zs hk,Zi hk hcl,hi,g,cb,Bool.false_eq_true,if_false,if_true,EVS]
 ·rw[Zaj] at hall
  have hp:=ZiL hpre hall
  simp only[ZW,EVS]
  refine (Zjs (R:=PV) c.arcs (fun _ a=>Zky c a) (some (pB false)) (some (pB (ZiK c))) _ hal (fun again k a hx=> ?_) (fun hall' again=> ?_)).trans ?_
  ·have hk:=Ze hx
   have hi:Zk (.lst (c.arcs.map Z3)) (.int .i64 (k:Int))=some (Z3 a):=Zj hx
   have g:=Zyr c a hc hp
   simp only[eSG,Z3] at g
   cases cb:Zky c a<;>simp only[Z3,Zs hk,Zi hk hal,hi,g,cb,ZS,Zw1,Bool.false_eq_true,if_false,if_true,EVS]
  ·rw[Zaj] at hall'
   have g:=Zys c hc hp (Zra hall')
   simp only[eSG] at g
   simp only[ZW,ZS,g,EVS]
   rfl
  ·rw[Zaj]
   show _=some (pB (c.arcs.all (Zky c)&&ZiK c))
   cases c.arcs.all (Zky c)<;>rfl
 ·rw[Zaj]
  show _=some (pB ((true&&c.codes.all (fun x=>Z2 x c.signals.length))&&(Zhk c&&ZiK c)))
  cases c.codes.all (fun x=>Z2 x c.signals.length)<;>simp only[Bool.false_eq_true,if_false,if_true,EVS]<;>rfl
theorem ZiM (l:List Int) (x:Int) (hl:ZA l):Zbn [.lst (l.map pI),pI x]=some (pI (ixf (fun a=>decide (x=a)) 0 l)):=by
 show (fun x0 x1=>Zbn [x0,x1]) _ _=_
 rw[Zij]
 unfold ZA at hl
 simp only[EVS]
 refine (congrArg (fun m:Option PV=>m.bind fun r=>if r.sc=true then some r else none) (ZcY l (fun a=>decide (x=a)) _ hl (fun again k a hb=> ?_) (fun again=> ?_))).trans ?_
 ·have hk:=Ze hb
  have hi:Zk (.lst (l.map pI)) (.int .i64 (k:Int))=some (pI a):=Zj hb
  simp only[Zs hk,Zi hk hl,hi,EVS]
 ·simp only[ZW,EVS]
  rfl
 ·simp only[EVS]
theorem ZgV (l:List Int) (x:Int) (hl:ZA l):ZaS [.lst (l.map pI),pI x]=some (pB (!ZN (fun _ a=> !decide (x=a)) 0 l)):=by
 have g:=ZiM l x hl
 show (fun x0 x1=>ZaS [x0,x1]) _ _=_
 rw[ZgC]
 simp only[g,ZeT (fun a=>decide (x=a)) l 0,EVS]
theorem Zpg {R:Type} (e:List (Nat×Nat)→Option R):∀(l:List PArc) (k:Nat) (acc:List (Nat×Nat)),Z5 (fun (acc:List (Nat×Nat)) (_:Nat) (a:PArc)=>.inl (acc++[(a.from_.toNat,a.to_.toNat)])) e k acc l=e (acc++l.map fun a=>(a.from_.toNat,a.to_.toNat))
 |[],k,acc=>by simp[Z5]
 | a::l,k,acc=>by
  show Z5 _ e (k+1) (acc++[(a.from_.toNat,a.to_.toNat)]) l=_
  rw[Zpg e l]
  simp
theorem ZA0 (a b:PV):splice (splice [ZC.pv (.int .i64),ZC.pv (.int .i64)] 0 [a]) 1 [b]=[a,b]:=rfl
theorem Zse (n:Nat) (l:List PArc) (ha:Zpf n l) (hl:l.length≤4000):Zff [.lst (l.map Z3)]=some (.lst ((l.map fun a=>(a.from_.toNat,a.to_.toNat)).map pSt)):=by
 show (fun x0=>Zff [x0]) _=_
 rw[Zqs]
 simp only[List.length_map,EVS]
 refine (ZaI (R:=PV) l (fun (acc:List (Nat×Nat)) k=>[.lst (acc.map pSt),pI (Int.ofNat k)]) (fun k acc=>acc.length=k) (fun (acc:List (Nat×Nat)) _ a=>.inl (acc++[(a.from_.toNat,a.to_.toNat)])) (fun acc=>some (.lst (acc.map pSt))) _ (by omega) (fun acc k x acc' hi hx he=> ?_) (fun again acc k a hi hx=> ?_) (fun again acc hi=> ?_) (b:=[]) rfl).trans ((Zpg _ _ _ _).trans ?_)
 ·cases he;simp;omega
 ·have hk:=Ze hx
  obtain ⟨f,t,hf,ht,l1,l2⟩:=ZmG ha (List.mem_of_getElem? hx)
  have hi':Zk (.lst (l.map Z3)) (.int .i64 (k:Int))=some (Z3 a):=Zj hx
  have hla:acc.length+[PV.agg [pI (f:Int),pI (t:Int)]].length≤4294967296∧[PV.agg [pI (f:Int),pI (t:Int)]].all (Zao 2)=true:=⟨by simp;omega,rfl⟩
  have hps:acc.map pSt++[PV.agg [pI (f:Int),pI (t:Int)]]=(acc++[(f,t)]).map pSt:=by simp[pSt]
  simp only[Zs hk,Zi hk (show l.length≤9223372036854775807 by omega),hi',Z3,hf,ht,Int.toNat_natCast,ZA0,List.length_map,if_pos hla,hps,EVS]
 ·simp only[ZW,EVS]
 ·rfl
theorem ZiN (x:Int):∀(l:List Int) (k:Nat),ZN (fun _ a=> !decide (x=a)) k l= !decide (x∈l)
 |[],k=>by simp[ZN]
 | a::l,k=>by
  unfold ZN
  rw[ZiN x l (k+1),Bool.eq_iff_iff]
  simp only[Bool.and_eq_true,Bool.not_eq_true',decide_eq_false_iff_not,List.mem_cons,not_or]
theorem Zsf {c:PSG} (h:Zpf c.codes.length c.arcs):∀e∈Zpe c,e.1<c.codes.length∧e.2<c.codes.length:=fun e he=>by
 unfold Zpe at he
 obtain ⟨a,ha,rfl⟩:=List.mem_map.1 he
 obtain ⟨f,t,hf,ht,l1,l2⟩:=ZmG h ha
 simp only[hf,ht,Int.toNat_natCast]
 exact ⟨l1,l2⟩
theorem Zih (c:PSG) (hc:SGFit c):Za7 [eSG c]=some (pB (sgV c)):=by
 have hcl:=hc.codes
 have hal:=hc.arcs
 have hsl:=hc.sigs
 unfold ZA at hcl hal hsl
 have g1:=ZiJ c.signals hc.sigs hc.names
 rw[←ZxA] at g1
 have g2:=Zah (c.codes.length:Int) 1 300
 show (fun x0=>Za7 [x0]) _=_
 rw[ZhO]
 unfold sgV
 cases hpre:ZgU c
 ·unfold ZgU at hpre
  cases c1:Zkc c.signals
  ·simp only[eSG,List.length_map,g1,c1,EVS]
  cases c2:inR (c.codes.length:Int) 1 300
  ·simp only[eSG,List.length_map,g1,g2,c1,c2,EVS]
  cases c3:decide ((4000:Int)<c.arcs.length)
  ·rw[c1,c2,c3] at hpre;cases hpre
  ·simp only[eSG,List.length_map,g1,g2,c1,c2,c3,EVS]
 have hpre':=hpre
 unfold ZgU at hpre'
 simp only[Bool.and_eq_true,Bool.not_eq_true'] at hpre'
 obtain ⟨⟨c1,c2⟩,c3⟩:=hpre'
 have hw:IntKind.i64.wrap ((c.codes.length:Int) - 1)=(c.codes.length:Int) - 1:=Zav (by omega) (by omega)
 simp only[eSG,List.length_map,g1,g2,c1,c2,c3,hw,EVS]
 refine (congrArg (fun m:Option PV=>m.bind fun r=>if r.sc=true then some r else none) (Zjs (R:=PV) c.codes (fun _ x=>Z2 x c.signals.length) (some (pB false)) (some (pB (Zhk c&&ZiK c))) _ hcl (fun again k x hx=> ?_) (fun hall again=> ?_))).trans ?_
 ·have hk:=Ze hx
  have hi:Zk (.lst (c.codes.map PV.str)) (.int .i64 (k:Int))=some (.str x):=Zj hx
  have g:=Zo6 x c.signals.length (hc.each x (List.mem_of_getElem? hx))
  cases cb:Z2 x c.signals.length<;>simp only[Zs hk,Zi hk hcl,hi,g,cb,Bool.false_eq_true,if_false,if_true,EVS]
 ·rw [Zaj] at hall
  have hp:=ZiL hpre hall
  simp only[ZW,EVS]
  refine (Zjs (R:=PV) c.arcs (fun _ a=>Zky c a) (some (pB false)) (some (pB (ZiK c))) _ hal (fun again k a hx=> ?_) (fun hall' again=> ?_)).trans ?_
  ·have hk:=Ze hx
   have hi:Zk (.lst (c.arcs.map Z3)) (.int .i64 (k:Int))=some (Z3 a):=Zj hx
   have g3:=Zah a.from_ 0 ((c.codes.length:Int) - 1)
   have g4:=Zah a.to_ 0 ((c.codes.length:Int) - 1)
   have g5:=Zv8 a.sig a.up c.signals.length hsl
   unfold Zky
   cases hg:Zc0 c.signals.length ((c.codes.length:Int) - 1) a
   ·unfold Zc0 at hg
    cases d1:inR a.from_ 0 ((c.codes.length:Int) - 1)
    ·simp only[Z3,Zs hk,Zi hk hal,hi,List.length_map,g3,d1,Bool.false_eq_true,if_false,if_true,EVS]
    cases d2:inR a.to_ 0 ((c.codes.length:Int) - 1)
    ·simp only[Z3,Zs hk,Zi hk hal,hi,List.length_map,g3,g4,d1,d2,Bool.false_eq_true,if_false,if_true,EVS]
    cases d3:Zf3 c.signals.length a.sig a.up
    ·simp only[Z3,Zs hk,Zi hk hal,hi,List.length_map,g3,g4,g5,d1,d2,d3,Zpc,Bool.false_eq_true,if_false,if_true,EVS]
    ·rw[d1,d2,d3] at hg;cases hg
   ·obtain ⟨f,t,x,y,hf,ht,l1,l2,hx',hy',he⟩:=Zpd hg
    unfold Zc0 at hg
    simp only[Bool.and_eq_true] at hg
    have bx:=hp.bits x (List.mem_of_getElem? hx')
    have by_:=hp.bits y (List.mem_of_getElem? hy')
    have i1:Zk (.lst (c.codes.map PV.str)) (.int .i64 (f:Int))=some (.str x):=Zj hx'
    have i2:Zk (.lst (c.codes.map PV.str)) (.int .i64 (t:Int))=some (.str y):=Zj hy'
    have e1:c.codes.getD f []=x:=by rw[List.getD_eq_getElem?_getD,hx'];rfl
    have e2:c.codes.getD t []=y:=by rw[List.getD_eq_getElem?_getD,hy'];rfl
    have d1:=hg.1.1
    have d2:=hg.1.2
    have lx:=ZgT bx
    have ly:=ZgT by_
    have g6:=Zqa a x y (hc.each x (List.mem_of_getElem? hx')) (by omega)
    rw[ZAZ a.sig a.up x y _ bx by_ he] at g6
    simp only[Z3,hf,ht] at g3 g4 g6 d1 d2
    rw[hf,ht,Int.toNat_natCast,Int.toNat_natCast,e1,e2]
    cases d4:ZlN a.sig a.up x y<;>simp only[Z3,hf,ht,Zs hk,Zi hk hal,hi,List.length_map,g3,g4,g5,g6,d1,d2,he,d4,i1,i2,Zpc,Zw1,Bool.false_eq_true,if_false,if_true,EVS]
  ·rw[Zaj] at hall'
   have hin:=Zra hall'
   have g7:=Zse c.codes.length c.arcs hin hp.arcs
   have g8:=Zkf c.codes.length 0 (Zpe c) (by have:=hp.many;omega) hp.one (by have:=hp.arcs;unfold Zpe;rw[List.length_map];omega) (Zsf hin)
   have hd:=Zg2 hp.one (Zsf hin)
   have g9:=ZgV (Zbp c.codes.length (Zpe c) 0) (-1) (by unfold ZA;rw[hd.len];omega)
   have hme:ZiK c= !decide ((-1:Int)∈Zbp c.codes.length (Zpe c) 0):=ZAg hp.one (Zsf hin)
   rw[ZiN] at g9
   unfold Zpe at g8
   simp only[ZW,List.length_map,g7,EVS]
   rw[show (Int.negSucc 0)=(-1:Int) from rfl]
   simp only[Int.natCast_zero] at g8
   simp only[g8,EVS]
   unfold Zpe at g9 hme
   simp only[g9,hme,Bool.not_not,EVS]
  ·rw[Zaj]
   show _=some (pB (c.arcs.all (Zky c)&&ZiK c))
   cases c.arcs.all (Zky c)<;>rfl
 ·rw[Zaj]
  show _=some (pB ((true&&c.codes.all (fun x=>Z2 x c.signals.length))&&(Zhk c&&ZiK c)))
  cases c.codes.all (fun x=>Z2 x c.signals.length)<;>simp only[Bool.false_eq_true,if_false,if_true,EVS]<;>rfl
theorem Zuc {R α β:Type} (l:List α) (J:β→Nat→List PV) (Inv:Nat→β→Prop) (step:β→Nat→α→Sum β (Option R)) (e:β→Option R) (f:(List PV→Option R)→List PV→Option R) (hl:l.length≤9223372036854775807)
 (hs:∀b k x b',Inv k b→l[k]?=some x→step b k x=.inl b'→Inv (k+1) b')
 (h1:∀again b k x,Inv k b→l[k]?=some x→f again (J b k)=match step b k x with|.inl b'=>again (J b' (k+1))|.inr z=>z)
 (h2:∀again b,Inv l.length b→f again (J b l.length)=e b) {b:β} {k:Nat} (hk:k≤l.length) (hb:Inv k b):Zm f 18446744073709551616 (J b k)=Z5 step e k b (l.drop k):=by
 have key:=ZaP (R:=R) (fun q:{q:β×Nat // Inv q.2 q.1∧q.2≤l.length}=>J q.1.1 q.1.2) (fun q=>l.length+1 - q.1.2) (fun q=>Z5 step e q.1.2 q.1.1 (l.drop q.1.2)) f (fun again q ih=> ?_) 18446744073709551616 ⟨(b,k),hb,hk⟩ (by simp only;omega)
 ·exact key
 ·obtain ⟨⟨b,k⟩,hi,hk⟩:=q
  dsimp only at ih hi hk⊢
  by_cases hlt:k<l.length
  ·have hx:l[k]?=some l[k]:=List.getElem?_eq_getElem hlt
   rw[h1 again b k _ hi hx,List.drop_eq_getElem_cons hlt]
   unfold Z5
   cases hst:step b k l[k] with
   |inl b'=>exact ih ⟨(b',k+1),hs _ _ _ _ hi hx hst,hlt⟩ (by simp only;omega)
   |inr z=>rfl
  ·obtain rfl:k=l.length:=by omega
   rw[h2 again b hi,List.drop_length]
   rfl
theorem capsA0 :Zbs 0 (.tup [])=some []:=by simp[Zbs,PV.parts]
theorem ZjR (a:PArc):ZbC [Z3 a]=some (pB (decide (a.sig= -1))):=by
 show (fun x0=>ZbC [x0]) _=_
 rw[Zi4]
 simp only[Z3,EVS]
 rfl
theorem Zb0 (l:List PArc) (hl:ZA l):ZF [.lst (l.map Z3),.tup []]=some (pI (ixf (fun a=>decide (a.sig= -1)) 0 l)):=by
 show (fun x0 x1=>ZF [x0,x1]) _ _=_
 rw[ZbP]
 unfold ZA at hl
 simp only[EVS]
 refine (congrArg (fun m:Option PV=>m.bind fun r=>if r.sc=true then some r else none) (ZcY l (fun a=>decide (a.sig= -1)) _ hl (fun again k a hb=> ?_) (fun again=> ?_))).trans ?_
 ·have hk:=Ze hb
  have hi:Zk (.lst (l.map Z3)) (.int .i64 (k:Int))=some (Z3 a):=Zj hb
  have g:=ZjR a
  simp only[Z3] at g
  cases hc:decide (a.sig= -1)<;>simp only[Zs hk,Zi hk hl,hi,Z3,g,hc,capsA0,List.append_nil,List.cons_append,List.nil_append,Bool.false_eq_true,if_false,if_true,EVS]
 ·simp only[ZW,EVS]
  rfl
 ·simp only[EVS]
def Zhl (l:List PArc):Bool:=l.any fun a=>decide (a.sig= -1)
theorem Zbu (l:List PArc) (hl:ZA l):Zw [.lst (l.map Z3),.tup []]=some (pB (Zhl l)):=by
 have g:=Zb0 l hl
 show (fun x0 x1=>Zw [x0,x1]) _ _=_
 rw[Zbk]
 simp only[g,ZeT (fun a:PArc=>decide (a.sig= -1)) l 0,EVS]
 rw[Zaj,List.all_eq_not_any_not]
 simp only[Bool.not_not]
 rfl
theorem Zsg (c:PSG) (hl:ZA c.arcs):Zfk [eSG c]=some (pB (c.arcs.any fun a=>decide (a.sig<0))):=by
 unfold ZA at hl
 show (fun x0=>Zfk [x0]) _=_
 rw[ZqB]
 simp only[eSG,EVS]
 refine (congrArg (fun m:Option PV=>m.bind fun r=>if r.sc=true then some r else none) (ZO (R:=PV) c.arcs (fun _ a=> !decide (a.sig<0)) (some (pB true)) (some (pB false)) _ hl (fun again k a hx=> ?_) (fun again=> ?_))).trans ?_
 ·have hk:=Ze hx
  have hi:Zk (.lst (c.arcs.map Z3)) (.int .i64 (k:Int))=some (Z3 a):=Zj hx
  cases hc:decide (a.sig<0)<;>simp only[List.length_map,Zs hk,Zi hk hl,hi,Z3,hc,Bool.not_true,Bool.not_false,Bool.false_eq_true,if_false,if_true,EVS]
 ·simp only[List.length_map,ZW,EVS]
 ·rw[Zaj,List.any_eq_not_all_not]
  cases c.arcs.all (fun a=> !decide (a.sig<0))<;>simp only[Bool.not_true,Bool.not_false,Bool.false_eq_true,if_false,if_true,EVS]
theorem Zwe {c:PSG} (h:Zhk c=true):(c.arcs.any fun a=>decide (a.sig<0))=Zhl c.arcs:=by
 unfold Zhl
 rw[Bool.eq_iff_iff,List.any_eq_true,List.any_eq_true]
 constructor
 ·rintro ⟨a,ha,h1⟩
  refine ⟨a,ha, ?_⟩
  have:=List.all_eq_true.1 h a ha
  unfold Zky Zc0 Zf3 inR at this
  simp only[Bool.and_eq_true,Bool.or_eq_true,decide_eq_true_eq] at this h1⊢
  omega
 ·rintro ⟨a,ha,h1⟩
  refine ⟨a,ha, ?_⟩
  simp only[decide_eq_true_eq] at h1⊢
  omega
theorem Zz6 (x y:List UInt8×Int):eqV (some [(0,TD.str),(1,TD.int IntKind.i64)]) TD.struct (.agg [.str x.1,pI x.2]) (.agg [.str y.1,pI y.2])=some (decide (x=y)):=by
 have e:decide (x=y)=((x.1==y.1)&&((x.2==y.2)&&true)):=by
  rw[Bool.eq_iff_iff]
  simp only[decide_eq_true_eq,Bool.and_eq_true,Prod.ext_iff,beq_iff_eq,and_true]
 rw[e]
 show (some (x.1==y.1)).bind (fun b=>(some ((x.2==y.2)&&true)).map fun c=>b&&c)=_
 rfl
def Zhm (l:List (List UInt8×Int)) (k:Nat) (x:List UInt8×Int):Bool:=match l[k]? with|some y=>decide (x=y)|none=>false
theorem ZxH (l m:List (List UInt8×Int)) (h:l.length=m.length):ZN (Zhm m) 0 l=decide (l=m):=by
 rw[Bool.eq_iff_iff,Zpb,decide_eq_true_eq]
 constructor
 ·intro hx
  apply List.ext_getElem h
  intro i h1 h2
  have:=hx i l[i] (List.getElem?_eq_getElem h1)
  unfold Zhm at this
  rw[Nat.zero_add,List.getElem?_eq_getElem h2] at this
  simpa using this
 ·rintro rfl i x hi
  unfold Zhm
  rw[Nat.zero_add,hi]
  simp
theorem ZgW (l m:List (List UInt8×Int)) (hl:ZA l):ZaR [.lst (l.map ZD),.lst (m.map ZD)]=some (pB (decide (l=m))):=by
 unfold ZA at hl
 show (fun x0 x1=>ZaR [x0,x1]) _ _=_
 rw[Zgz]
 by_cases hlen:l.length=m.length
 ·have d:decide ((l.length:Int)=(m.length:Int))=true:=by rw[decide_eq_true_eq];omega
  simp only[List.length_map,d,EVS]
  refine (congrArg (fun m:Option PV=>m.bind fun r=>if r.sc=true then some r else none) (ZO (R:=PV) l (Zhm m) (some (pB false)) (some (pB true)) _ hl (fun again k x hx=> ?_) (fun again=> ?_))).trans ?_
  ·have hk:=Ze hx
   have hy:m[k]?=some (m[k]'(by omega)):=List.getElem?_eq_getElem _
   have hi:Zk (.lst (l.map ZD)) (.int .i64 (k:Int))=some (ZD x):=Zj hx
   have hj:Zk (.lst (m.map ZD)) (.int .i64 (k:Int))=some (ZD (m[k]'(by omega))):=Zj hy
   have hs:Zhm m k x=decide (x=m[k]'(by omega)):=by unfold Zhm;rw[hy]
   have he:=Zz6 x (m[k]'(by omega))
   rw[hs]
   cases hc:decide (x=m[k]'(by omega))<;>simp only[List.length_map,Zs hk,Zi hk hl,hi,hj,ZD,ZL,he,hc,Bool.not_true,Bool.not_false,Bool.false_eq_true,if_false,if_true,EVS]
  ·simp only[List.length_map,ZW,EVS]
  ·rw[ZxH l m hlen]
   cases decide (l=m)<;>simp only[Bool.false_eq_true,if_false,if_true,EVS]
 ·have d:decide ((l.length:Int)=(m.length:Int))=false:=by simp only[decide_eq_false_iff_not];omega
  have hne:decide (l=m)=false:=by simp only[decide_eq_false_iff_not];rintro rfl;exact hlen rfl
  simp only[List.length_map,d,hne,EVS]
theorem ZlO (l m:List (List UInt8×Int)) (hl:ZA l):ZcC [.lst (l.map ZD),.lst (m.map ZD)]=some (pB (decide (l=m))):=by
 unfold ZA at hl
 show (fun x0 x1=>ZcC [x0,x1]) _ _=_
 rw[Zk5]
 by_cases hlen:l.length=m.length
 ·have d:decide ((l.length:Int)=(m.length:Int))=true:=by rw[decide_eq_true_eq];omega
  simp only[List.length_map,d,EVS]
  refine (congrArg (fun m:Option PV=>m.bind fun r=>if r.sc=true then some r else none) (ZO (R:=PV) l (Zhm m) (some (pB false)) (some (pB true)) _ hl (fun again k x hx=> ?_) (fun again=> ?_))).trans ?_
  ·have hk:=Ze hx
   have hy:m[k]?=some (m[k]'(by omega)):=List.getElem?_eq_getElem _
   have hi:Zk (.lst (l.map ZD)) (.int .i64 (k:Int))=some (ZD x):=Zj hx
   have hj:Zk (.lst (m.map ZD)) (.int .i64 (k:Int))=some (ZD (m[k]'(by omega))):=Zj hy
   have hs:Zhm m k x=decide (x=m[k]'(by omega)):=by unfold Zhm;rw[hy]
   have he:=Zz6 x (m[k]'(by omega))
   rw[hs]
   cases hc:decide (x=m[k]'(by omega))<;>simp only[List.length_map,Zs hk,Zi hk hl,hi,hj,ZD,ZL,he,hc,Bool.not_true,Bool.not_false,Bool.false_eq_true,if_false,if_true,EVS]
  ·simp only[List.length_map,ZW,EVS]
  ·rw[ZxH l m hlen]
   cases decide (l=m)<;>simp only[Bool.false_eq_true,if_false,if_true,EVS]
 ·have d:decide ((l.length:Int)=(m.length:Int))=false:=by simp only[decide_eq_false_iff_not];omega
  have hne:decide (l=m)=false:=by simp only[decide_eq_false_iff_not];rintro rfl;exact hlen rfl
  simp only[List.length_map,d,hne,EVS]
def Zkz (a b:PArc):Bool:=(((!decide (a.sig= -1))&&decide (b.from_=a.from_))&&decide (b.sig=a.sig))&& !decide (b.to_=a.to_)
def Zsh (a b:PArc):Bool:=((decide (a.from_=b.from_)&&decide (a.sig=b.sig))&&decide (0≤a.sig))&& !decide (a.to_=b.to_)
def wE (p:Nat×Nat):PV:=.lst [pI p.1,pI p.2]
def Zdz (w:PArc→PArc→Bool) (i:Nat) (a:PArc):Nat→List (Nat×Nat)→List PArc→List (Nat×Nat)
 |_,acc,[]=>acc
 |k,acc,b::l=>Zdz w i a (k+1) (if w a b=true then acc++[(i,k)] else acc) l
def Zhn (w:PArc→PArc→Bool) (arcs:List PArc):Nat→List (Nat×Nat)→List PArc→List (Nat×Nat)
 |_,acc,[]=>acc
 |i,acc,a::l=>Zhn w arcs (i+1) (Zdz w i a (i+1) acc (arcs.drop (i+1))) l
theorem ZiO {R:Type} (w:PArc→PArc→Bool) (i:Nat) (a:PArc) (e:List (Nat×Nat)→Option R):∀(l:List PArc) (k:Nat) (acc:List (Nat×Nat)),Z5 (fun (acc:List (Nat×Nat)) k b=>.inl (if w a b=true then acc++[(i,k)] else acc)) e k acc l=e (Zdz w i a k acc l)
 |[],k,acc=>rfl
 |b::l,k,acc=>by unfold Z5 Zdz;exact ZiO w i a e l (k+1) _
theorem ZiP {R:Type} (w:PArc→PArc→Bool) (arcs:List PArc) (e:List (Nat×Nat)→Option R):∀(l:List PArc) (k:Nat) (acc:List (Nat×Nat)),Z5 (fun (acc:List (Nat×Nat)) i a=>.inl (Zdz w i a (i+1) acc (arcs.drop (i+1)))) e k acc l=e (Zhn w arcs k acc l)
 |[],k,acc=>rfl
 |b::l,k,acc=>by unfold Z5 Zhn;exact ZiP w arcs e l (k+1) _
theorem ZkA (w:PArc→PArc→Bool) (i:Nat) (a:PArc):∀(l:List PArc) (k:Nat) (acc:List (Nat×Nat)),(Zdz w i a k acc l).length≤acc.length+l.length
 |[],k,acc=>by simp[Zdz]
 | b::l,k,acc=>by
  have:=ZkA w i a l (k+1) (if w a b=true then acc++[(i,k)] else acc)
  unfold Zdz
  split at this<;>rename_i h
  ·rw[if_pos h];simp at this⊢;omega
  ·rw[if_neg h];simp at this⊢;omega
theorem ZlP {w w':PArc→PArc→Bool} (i:Nat) (a:PArc):∀(l:List PArc) (k:Nat) (acc:List (Nat×Nat)),(∀b∈l,w a b=w' a b)→Zdz w i a k acc l=Zdz w' i a k acc l
 |[],k,acc,h=>rfl
 |b::l,k,acc,h=>by unfold Zdz;rw[h b List.mem_cons_self];exact ZlP i a l _ _ fun b hb=>h b (List.mem_cons_of_mem _ hb)
theorem ZlQ {w w':PArc→PArc→Bool} (arcs:List PArc):∀(l:List PArc) (k:Nat) (acc:List (Nat×Nat)),(∀a∈l,∀b∈arcs,w a b=w' a b)→Zhn w arcs k acc l=Zhn w' arcs k acc l
 |[],k,acc,h=>rfl
 | a::l,k,acc,h=>by
  unfold Zhn
  rw[ZlP k a _ _ _ fun b hb=>h a List.mem_cons_self b (List.mem_of_mem_drop hb)]
  exact ZlQ arcs l _ _ fun a ha=>h a (List.mem_cons_of_mem _ ha)
def ZiQ (w:PArc→PArc→Bool) (c:PSG):List (Nat×Nat):=Zhn w c.arcs 0 [] c.arcs
theorem ZA1 {c:PSG} (h:Zhk c=true):ZiQ Zsh c=ZiQ Zkz c:=ZlQ _ _ _ _ fun a ha b hb=>by
 have:=List.all_eq_true.1 h a ha
 unfold Zky Zc0 Zf3 inR at this
 simp only[Bool.and_eq_true,Bool.or_eq_true,decide_eq_true_eq] at this
 have h1:a.sig= -1∨0≤a.sig:=by omega
 unfold Zsh Zkz
 rw[Bool.eq_iff_iff]
 simp only[Bool.and_eq_true,Bool.not_eq_true',decide_eq_true_eq,decide_eq_false_iff_not]
 omega
theorem Zud (c:PSG) (hl:c.arcs.length≤4000):Zf8 [eSG c]=some (.lst ((ZiQ Zkz c).map wE)):=by
 show (fun x0=>Zf8 [x0]) _=_
 rw[Zsr]
 simp only[eSG,EVS]
 refine (ZaI (R:=PV) c.arcs (fun (acc:List (Nat×Nat)) i=>[.lst (acc.map wE),pI (Int.ofNat i)]) (fun i acc=>acc.length≤i * 4000) (fun acc i a=>.inl (Zdz Zkz i a (i+1) acc (c.arcs.drop (i+1)))) (fun acc=>some (.lst (acc.map wE))) _ (by omega) (fun acc i a acc' hi hx he=> ?_) (fun again acc i a hi hx=> ?_) (fun again acc hi=> ?_) (b:=[]) (by simp)).trans (ZiP _ _ _ _ _ _)
 ·cases he
  have:=ZkA Zkz i a (c.arcs.drop (i+1)) (i+1) acc
  simp at this
  omega
 ·have hk:=Ze hx
  have hi':Zk (.lst (c.arcs.map Z3)) (.int .i64 (i:Int))=some (Z3 a):=Zj hx
  have hnx:=Zi hk (show c.arcs.length≤9223372036854775807 by omega)
  simp only[List.length_map,Zs hk,hnx,hi',Z3,EVS]
  refine (Zuc (R:=PV) c.arcs (fun (acc:List (Nat×Nat)) k=>[.lst (acc.map wE),pI (Int.ofNat k)]) (fun k acc=>acc.length≤i * 4000+k) (fun acc k b=>.inl (if Zkz a b=true then acc++[(i,k)] else acc)) (fun acc=>again [.lst (acc.map wE),pI (Int.ofNat (i+1))]) _ (by omega) (fun acc k b acc' hi hx he=> ?_) (fun again' acc k b hi2 hx2=> ?_) (fun again' acc hi=> ?_) (b:=acc) (k:=i+1) (show i+1≤c.arcs.length from hk) (show acc.length≤i * 4000+(i+1) from Nat.le_trans hi (Nat.le_add_right _ _))).trans (ZiO _ _ _ _ _ _ _)
  ·cases he
   show (if Zkz a b=true then acc++[(i,k)] else acc).length≤i * 4000+(k+1)
   have hi:acc.length≤i * 4000+k:=hi
   cases Zkz a b
   ·rw[if_neg (by decide)];omega
   ·rw[if_pos rfl,List.length_append,List.length_singleton];omega
  ·have hk2:=Ze hx2
   have hj:Zk (.lst (c.arcs.map Z3)) (.int .i64 (k:Int))=some (Z3 b):=Zj hx2
   have hla:acc.length+[PV.lst [pI (i:Int),pI (k:Int)]].length≤4294967296∧[PV.lst [pI (i:Int),pI (k:Int)]].all (Zao 1)=true:=⟨by simp;omega,rfl⟩
   have hps:acc.map wE++[PV.lst [pI (i:Int),pI (k:Int)]]=(acc++[(i,k)]).map wE:=by simp[wE]
   unfold Zkz
   simp only[List.length_map,Zs hk2,Zi hk2 (show c.arcs.length≤9223372036854775807 by omega),hj,Z3,EVS]
   rw[show Int.negSucc 0=(-1:Int) from rfl]
   have hok:([PV.lst [pI (i:Int),pI (k:Int)]].all fun x=>Zao 1 x)=true:=rfl
   cases c1:decide (a.sig= -1)<;>cases c2:decide (b.from_=a.from_)<;>cases c3:decide (b.sig=a.sig)<;>cases c4:decide (b.to_=a.to_)<;>simp only[c1,c2,c3,c4,if_pos hla,hps,if_pos hok,EVS]
  ·simp only[List.length_map,ZW,hnx,EVS]
 ·simp only[List.length_map,ZW,EVS]
theorem Zwf (c:PSG) (hl:c.arcs.length≤4000):Zh5 [eSG c]=some (.lst ((ZiQ Zsh c).map wE)):=by
 show (fun x0=>Zh5 [x0]) _=_
 rw[Zu0]
 simp only[eSG,EVS]
 refine (ZaI (R:=PV) c.arcs (fun (acc:List (Nat×Nat)) i=>[.lst (acc.map wE),pI (Int.ofNat i)]) (fun i acc=>acc.length≤i * 4000) (fun acc i a=>.inl (Zdz Zsh i a (i+1) acc (c.arcs.drop (i+1)))) (fun acc=>some (.lst (acc.map wE))) _ (by omega) (fun acc i a acc' hi hx he=> ?_) (fun again acc i a hi hx=> ?_) (fun again acc hi=> ?_) (b:=[]) (by simp)).trans (ZiP _ _ _ _ _ _)
 ·cases he
  have:=ZkA Zsh i a (c.arcs.drop (i+1)) (i+1) acc
  simp at this
  omega
 ·have hk:=Ze hx
  have hi':Zk (.lst (c.arcs.map Z3)) (.int .i64 (i:Int))=some (Z3 a):=Zj hx
  have hnx:=Zi hk (show c.arcs.length≤9223372036854775807 by omega)
  simp only[List.length_map,Zs hk,hnx,hi',Z3,EVS]
  refine (Zuc (R:=PV) c.arcs (fun (acc:List (Nat×Nat)) k=>[.lst (acc.map wE),pI (Int.ofNat k)]) (fun k acc=>acc.length≤i * 4000+k) (fun acc k b=>.inl (if Zsh a b=true then acc++[(i,k)] else acc)) (fun acc=>again [.lst (acc.map wE),pI (Int.ofNat (i+1))]) _ (by omega) (fun acc k b acc' hi hx he=> ?_) (fun again' acc k b hi2 hx2=> ?_) (fun again' acc hi=> ?_) (b:=acc) (k:=i+1) (show i+1≤c.arcs.length from hk) (show acc.length≤i * 4000+(i+1) from Nat.le_trans hi (Nat.le_add_right _ _))).trans (ZiO _ _ _ _ _ _ _)
  ·cases he
   show (if Zsh a b=true then acc++[(i,k)] else acc).length≤i * 4000+(k+1)
   have hi:acc.length≤i * 4000+k:=hi
   cases Zsh a b
   ·rw[if_neg (by decide)];omega
   ·rw[if_pos rfl,List.length_append,List.length_singleton];omega
  ·have hk2:=Ze hx2
   have hj:Zk (.lst (c.arcs.map Z3)) (.int .i64 (k:Int))=some (Z3 b):=Zj hx2
   have hla:acc.length+[PV.lst [pI (i:Int),pI (k:Int)]].length≤4294967296∧[PV.lst [pI (i:Int),pI (k:Int)]].all (Zao 1)=true:=⟨by simp;omega,rfl⟩
   have hps:acc.map wE++[PV.lst [pI (i:Int),pI (k:Int)]]=(acc++[(i,k)]).map wE:=by simp[wE]
   unfold Zsh
   simp only[List.length_map,Zs hk2,Zi hk2 (show c.arcs.length≤9223372036854775807 by omega),hj,Z3,EVS]
   have hok:([PV.lst [pI (i:Int),pI (k:Int)]].all fun x=>Zao 1 x)=true:=rfl
   cases c1:decide (a.from_=b.from_)<;>cases c2:decide (a.sig=b.sig)<;>cases c3:decide (0≤a.sig)<;>cases c4:decide (a.to_=b.to_)<;>simp only[c1,c2,c3,c4,if_pos hla,hps,if_pos hok,EVS]
  ·simp only[List.length_map,ZW,hnx,EVS]
 ·simp only[List.length_map,ZW,EVS]
theorem ZjB {c:PSG} (h:sgV c=true):ZgU c=true∧Zsd c=true∧Zhk c=true∧ZiK c=true:=by
 unfold sgV at h
 simp only[Bool.and_eq_true] at h
 exact ⟨h.1.1,h.1.2,h.2.1,h.2.2⟩
theorem Zue {c:PSG} (h:sgV c=true):c.arcs.length≤4000:=by
 have:=(ZjB h).1
 unfold ZgU at this
 simp only[Bool.and_eq_true,Bool.not_eq_true',decide_eq_false_iff_not] at this
 omega
def ZxI (c:PSG) (n:PNet):Bool:=((!Zhl c.arcs)&&decide (((ZiQ Zkz c).length:Int)=0))&&decide (c.signals=n.signals)
def goP (c:PSG) (n:PNet):Bool:=(sgV c&&Zdi n)&&ZxI c n
theorem Zyt (c:PSG) (n:PNet) (hc:SGFit c) (hn:n.Fit):ZjJ [eSG c,Zp n]=some (pB (goP c n)):=by
 have g1:=Zwd c hc
 have g2:=Znl n hn
 show (fun x0 x1=>ZjJ [x0,x1]) _ _=_
 rw[ZwB]
 unfold goP ZxI
 simp only[eSG,Zp] at g1 g2
 cases c1:sgV c
 ·rw[c1] at g1;simp only[eSG,Zp,ZL,ZS,g1,EVS]
 cases c2:Zdi n
 ·rw[c1] at g1;rw[c2] at g2;simp only[eSG,Zp,ZL,ZS,g1,g2,EVS]
 rw[c1] at g1;rw[c2] at g2
 have g3:=Zsg c hc.arcs
 rw[Zwe (ZjB c1).2.2.1] at g3
 have g4:=Zwf c (Zue c1)
 rw[ZA1 (ZjB c1).2.2.1] at g4
 have g5:=ZlO c.signals n.signals hc.sigs
 simp only[eSG] at g3 g4
 cases c3:Zhl c.arcs
 ·rw[c3] at g3
  cases c4:decide (((ZiQ Zkz c).length:Int)=0)
  ·simp only[eSG,Zp,ZL,ZS,g1,g2,g3,g4,c4,List.length_map,EVS]
  ·simp only[eSG,Zp,ZL,ZS,g1,g2,g3,g4,g5,c4,List.length_map,EVS]
 ·rw[c3] at g3;simp only[eSG,Zp,ZL,ZS,g1,g2,g3,EVS]
theorem ZkB (c:PSG) (n:PNet) (hc:SGFit c) (hn:n.Fit):Zbo [eSG c,Zp n]=some (.tup [pB (goP c n),pB (sgV c&&Zdi n)]):=by
 have g1:=Zih c hc
 have g2:=ZfB n hn
 rw[←Zz3] at g2
 have g3:=Zbu c.arcs hc.arcs
 have g5:=ZgW c.signals n.signals hc.sigs
 show (fun x0 x1=>Zbo [x0,x1]) _ _=_
 rw[ZkQ]
 unfold goP ZxI
 simp only[eSG,Zp] at g1 g2
 cases c1:sgV c
 ·rw[c1] at g1;simp only[eSG,Zp,ZL,ZS,g1,EVS];rfl
 cases c2:Zdi n
 ·rw[c1] at g1;rw[c2] at g2;simp only[eSG,Zp,ZL,ZS,g1,g2,EVS];rfl
 rw[c1] at g1;rw[c2] at g2
 have g4:=Zud c (Zue c1)
 simp only[eSG] at g4
 cases c3:Zhl c.arcs
 ·rw[c3] at g3
  cases c4:decide (((ZiQ Zkz c).length:Int)=0)
  ·simp only[eSG,Zp,ZL,ZS,g1,g2,g3,g4,c4,List.length_map,EVS];rfl
  ·simp only[eSG,Zp,ZL,ZS,g1,g2,g3,g4,g5,c4,List.length_map,EVS];rfl
 ·rw[c3] at g3;simp only[eSG,Zp,ZL,ZS,g1,g2,g3,EVS];rfl
theorem Zec {R:Type} (a b:Nat) (st:Nat→List PV) (e:Option R) (f:(List PV→Option R)→List PV→Option R) (hm:b≤9223372036854775807)
 (h1:∀again k,a≤k→k<b→f again (st k)=again (st (k+1)))
 (h2:∀again,f again (st b)=e) (hab:a≤b) (J:List PV) (hJ:st a=J):Zm f 18446744073709551616 J=e:=by
 subst hJ
 have key:=ZaP (R:=R) (fun k:{k:Nat // a≤k∧k≤b}=>st k.1) (fun k=>b+1 - k.1) (fun _=>e) f (fun again k ih=> ?_) 18446744073709551616 ⟨a,Nat.le_refl _,hab⟩ (by simp only;omega)
 ·exact key
 ·obtain ⟨k,hk,hk2⟩:=k
  dsimp only at ih⊢
  by_cases c:k<b
  ·rw[h1 again k hk c]
   exact ih ⟨k+1,by omega,c⟩ (by simp only;omega)
  ·obtain rfl:k=b:=by omega
   exact h2 again
def ZaW (good:Nat→Bool) (k:Nat):List Int:=((List.range k).filter good).map fun (i:Nat)=>Int.ofNat i
theorem ZkC (good:Nat→Bool) (k:Nat):(ZaW good k).length≤k:=by
 unfold ZaW
 rw[List.length_map]
 exact Nat.le_trans (List.length_filter_le _ _) (by simp)
theorem Zph {good:Nat→Bool} {k:Nat} (h:good k=true):ZaW good (k+1)=ZaW good k++[(k:Int)]:=by
 unfold ZaW
 rw[List.range_succ,List.filter_append]
 simp[h]
theorem Zrb {good:Nat→Bool} {k:Nat} (h:good k=false):ZaW good (k+1)=ZaW good k:=by
 unfold ZaW
 rw[List.range_succ,List.filter_append]
 simp[h]
def Zq (n:PNet) (s:List UInt8) (k:Nat):Bool:=match n.wires[k]? with|some w=>ZfD n s k w !=ZgS s k|none=>false
theorem ZiR (n:PNet) (s:List UInt8) (hn:n.Fit) (hs:ZA s) (hv:Ze7 n s=true) (hb:n.wires.length≤1048576):ZcR [Zp n,.str s]=some (.lst ((ZaW (Zq n s) n.wires.length).map pI)):=by
 show (fun x0 x1=>ZcR [x0,x1]) _ _=_
 rw[ZnN]
 simp only[Zp,EVS]
 refine (congrArg (fun m:Option PV=>m) (Zec (R:=PV) 0 n.wires.length (fun k=>[.lst ((ZaW (Zq n s) k).map pI),pI (Int.ofNat k)]) (some (.lst ((ZaW (Zq n s) n.wires.length).map pI))) _ (by omega) (fun again k h1 h2=> ?_) (fun again=> ?_) (Nat.zero_le _) _ (by simp[ZaW]))).trans ?_
 ·have ha:=Zz5 n s k hn hs hv h2
  have a1:=Znp n s k _ ha
  simp only[Zp] at a1
  have hk:k<s.length:=ha.lt
  have hby:=Zr (k:=.i64) (List.getElem?_eq_getElem hk)
  have ho:ZgS s k=decide ((s[k].toNat:Int)=49):=by unfold ZgS;rw[List.getElem?_eq_getElem hk]
  have he:Zq n s k=(ZfD n s k n.wires[k] !=ZgS s k):=by unfold Zq;rw[List.getElem?_eq_getElem h2]
  have hl:(ZaW (Zq n s) k).length+[pI (k:Int)].length≤4294967296∧[pI (k:Int)].all (Zao 1)=true:=⟨by have:=ZkC (Zq n s) k;simp;omega,rfl⟩
  have he':(!ZfD n s k n.wires[k]==decide ((s[k].toNat:Int)=49))=Zq n s k:=by rw[he,ho];rfl
  have hm:n.wires.length≤9223372036854775807:=by omega
  simp only[Zs h2,hby,a1,he',EVS]
  cases hE:Zq n s k
  ·simp only[Zi h2 hm,Zrb hE,EVS]
  ·simp only[if_pos hl,Zi h2 hm,Zph hE,List.map_append,List.map_cons,List.map_nil,EVS]
 ·simp only[ZW,EVS]
 ·rfl
theorem ZdQ (n:PNet) (s:List UInt8) (k:Nat) (hn:n.Fit) (hs:ZA s) (hv:Ze7 n s=true) (h2:k<n.wires.length):ZaE [Zp n,.str s,pI k]=some (pB (Zq n s k)):=by
 have ha:=Zz5 n s k hn hs hv h2
 have a1:=ZlL n s k _ ha
 simp only[Zp] at a1
 have hk:k<s.length:=ha.lt
 have hby:=Zr (k:=.i64) (List.getElem?_eq_getElem hk)
 have he:Zq n s k=(ZfD n s k n.wires[k] !=decide ((s[k].toNat:Int)=49)):=by unfold Zq ZgS;rw[List.getElem?_eq_getElem h2,List.getElem?_eq_getElem hk]
 have hbit:ZfC s[k]=true:=by
  unfold Ze7 Z2 at hv
  simp only[Bool.and_eq_true] at hv
  exact Zjx _ _ _ hv.2.1 k _ (List.getElem?_eq_getElem hk)
 unfold ZfC at hbit
 simp only[Bool.or_eq_true,decide_eq_true_eq] at hbit
 show (fun x0 x1 x2=>ZaE [x0,x1,x2]) _ _ _=_
 rw[ZkK]
 simp only[Zp,a1,hby,ZxC,he,EVS]
 cases ZfD n s k n.wires[k]<;>rcases hbit with h|h<;>rw[h]<;>rfl
theorem ZmH (n:PNet) (s:List UInt8) (hn:n.Fit) (hs:ZA s) (hv:Ze7 n s=true) (hb:n.wires.length≤1048576):Zc1 [Zp n,.str s]=some (.lst ((ZaW (Zq n s) n.wires.length).map pI)):=by
 show (fun x0 x1=>Zc1 [x0,x1]) _ _=_
 rw[ZlS]
 simp only[Zp,EVS]
 refine (congrArg (fun m:Option PV=>m) (Zec (R:=PV) 0 n.wires.length (fun k=>[.lst ((ZaW (Zq n s) k).map pI),pI (Int.ofNat k)]) (some (.lst ((ZaW (Zq n s) n.wires.length).map pI))) _ (by omega) (fun again k h1 h2=> ?_) (fun again=> ?_) (Nat.zero_le _) _ (by simp[ZaW]))).trans ?_
 ·have a1:=ZdQ n s k hn hs hv h2
  simp only[Zp] at a1
  have hl:(ZaW (Zq n s) k).length+[pI (k:Int)].length≤4294967296∧[pI (k:Int)].all (Zao 1)=true:=⟨by have:=ZkC (Zq n s) k;simp;omega,rfl⟩
  have hm:n.wires.length≤9223372036854775807:=by omega
  simp only[Zs h2,a1,EVS]
  cases hE:Zq n s k
  ·simp only[Zi h2 hm,Zrb hE,EVS]
  ·simp only[if_pos hl,Zi h2 hm,Zph hE,List.map_append,List.map_cons,List.map_nil,EVS]
 ·simp only[ZW,EVS]
 ·rfl
def ZaU (m:Nat) (a:List UInt8×Int):Prop:=(a.1).length≤m
theorem Zyu (a:List UInt8×Int) (l:Int) (hb:ZaU 9223372036854775807 a) (h0:0≤l) (h1:l≤1048576):ZaK (Zfi [ZD a,pI l]) l (ZaU 1048576 a):=by
 have b0:=hb
 unfold ZaU at b0
 unfold ZaU
 show ZaK ((fun x0 x1=>Zfi [x0,x1]) _ _) _ _
 rw[Zqx]
 simp only[ZD,EVS]
 have w0:IntKind.i64.wrap (l - (a.1.length:Int))=(l - (a.1.length:Int)):=Zav (by omega) (by omega)
 simp only[w0,EVS]
 by_cases c0:(l - (a.1.length:Int))<0
 ·simp only[c0,EVS];exact ZaK.neg h0
 simp only[c0,EVS]
 have q0:0≤(l - (a.1.length:Int))∧(l - (a.1.length:Int))≤l:=by omega
 exact ZaK.pos (by omega) (by omega)
theorem Zyv (a:List UInt8×Int) (hb:ZaU 1048576 a):Zfj [ZD a]=some (ZD a):=by
 have b0:=hb
 unfold ZaU at b0
 show (fun x0=>Zfj [x0]) _=_
 rw[Zqz]
 simp only[ZD,EVS]
theorem Zyw (a:List UInt8×Int) (hb:ZaU 9223372036854775807 a):Zfh [ZD a,ZD a]=some (pB true):=by
 have b0:=hb
 unfold ZaU at b0
 show (fun x0 x1=>Zfh [x0,x1]) _ _=_
 rw[Zqv]
 simp only[ZD,beq_self_eq_true,EVS]
theorem Zpi (xs:List (List UInt8×Int)) (l:Int) (hb:((xs).length≤9223372036854775807∧∀x∈xs,ZaU 9223372036854775807 x)) (h0:0≤l) (h1:l≤1048576):ZaK (Zdl [.lst (xs.map ZD),pI l]) l (((xs).length≤1048576∧∀x∈xs,ZaU 1048576 x)):=by
 have hx:xs.length≤9223372036854775807:=hb.1
 show ZaK ((fun x0 x1=>Zdl [x0,x1]) _ _) _ _
 rw[ZpC]
 have w1:IntKind.i64.wrap (l - (xs.length:Int))=l - (xs.length:Int):=Zav (by omega) (by omega)
 simp only[w1,List.length_map,EVS]
 by_cases c:l - (xs.length:Int)<0
 ·simp only[c,EVS];exact ZaK.neg h0
 ·simp only[c,EVS]
  refine (ZaK.sc (Zvl xs (fun x=>ZaU 1048576 x) _ hx (fun again k x l' hk h2 h3=> ?_) (fun again l'=> ?_) (by omega) (by omega))).mono (by omega) (fun h=>⟨by omega,h⟩)
  ·have hi:Zk (.lst (xs.map ZD)) (.int .i64 (k:Int))=some ((ZD x)):=Zj hk
   obtain ⟨r,g1,g2,g3⟩:=Zyu x l' (hb.2 x (List.mem_of_getElem? hk)) h2 h3
   refine ⟨r,g2,g3, ?_⟩
   simp only[ZD] at g1 hi
   simp only[Zs (Ze hk),Zi (Ze hk) hx,hi,g1,EVS]
   by_cases c2:r<0<;>simp only[c2,EVS]
  ·simp only[ZW,EVS]
theorem Zpj (xs:List (List UInt8×Int)) (hb:((xs).length≤1048576∧∀x∈xs,ZaU 1048576 x)):Zdn [.lst (xs.map ZD)]=some (.lst (xs.map ZD)):=by
 have hx:xs.length≤1048576:=hb.1
 show (fun x0=>Zdn [x0]) _=_
 rw[ZpG]
 simp only[Zs7 _ _ (show xs.length≤4294967296 by omega),List.length_map,EVS]
 refine Zn9 xs ZD 2 _ _ (by omega) ?_ (fun _=> ?_) (fun _=> ?_) (fun again k x row el hk hl he hs=> ?_) (fun again row=> ?_)
 ·rfl
 ·rfl
 ·exact ⟨fun _=>⟨_,rfl⟩,fun _=>⟨_,rfl⟩⟩
 ·have hi:Zk (.lst (xs.map ZD)) (.int .i64 (k:Int))=some ((ZD x)):=Zj hk
  have hkr:k<row.length:=by rw[hl];exact Ze hk
  have g1:=Zyv x (hb.2 x (List.mem_of_getElem? hk))
  simp only[ZD] at g1 hi hs
  simp only[ZD,Zs (Ze hk),Zi (Ze hk) (show xs.length≤9223372036854775807 by omega),hi,g1,ZbE hkr,he,hs,EVS]
 ·simp only[ZW,EVS]
theorem Zpk (xs:List (List UInt8×Int)) (hb:((xs).length≤9223372036854775807∧∀x∈xs,ZaU 9223372036854775807 x)):Zdj [.lst (xs.map ZD),.lst (xs.map ZD)]=some (pB true):=by
 have hx:xs.length≤9223372036854775807:=hb.1
 show (fun x0 x1=>Zdj [x0,x1]) _ _=_
 rw[ZpA]
 simp only[List.length_map,EVS]
 refine (congrArg (fun m:Option PV=>m.bind fun r=>if r.sc=true then some r else none) (ZO (R:=PV) xs (fun _ _=>true) (some (pB false)) (some (pB true)) _ hx (fun again k x hk=> ?_) (fun again=> ?_))).trans ?_
 ·have hi:Zk (.lst (xs.map ZD)) (.int .i64 (k:Int))=some ((ZD x)):=Zj hk
  have g1:=Zyw x (hb.2 x (List.mem_of_getElem? hk))
  simp only[ZD] at g1 hi
  simp only[Zs (Ze hk),Zi (Ze hk) hx,hi,g1,EVS]
 ·simp only[ZW,EVS]
 ·rw[show ZN (fun (_:Nat) (_:List UInt8×Int)=>true) 0 xs=true from Zfr xs 0];rfl
theorem to_Pin (a:Int×Bool):ZjG [Zac a]=some (Zac a):=by
 show (fun x0=>ZjG [x0]) _=_
 rw[Zwt]
 simp only[Zac,EVS]
theorem eq_Pin (a:Int×Bool):ZjE [Zac a,Zac a]=some (pB true):=by
 show (fun x0 x1=>ZjE [x0,x1]) _ _=_
 rw[Zwp]
 simp only[Zac,beq_self_eq_true,EVS]
theorem ZA2 (xs:List (Int×Bool)) (l:Int) (hb:(xs).length≤9223372036854775807) (h0:0≤l) (h1:l≤1048576):ZaK (ZhV [.lst (xs.map Zac),pI l]) l ((xs).length≤1048576):=by
 have hx:xs.length≤9223372036854775807:=hb
 show ZaK ((fun x0 x1=>ZhV [x0,x1]) _ _) _ _
 rw[ZuM]
 have w1:IntKind.i64.wrap (l - (xs.length:Int))=l - (xs.length:Int):=Zav (by omega) (by omega)
 simp only[w1,List.length_map,EVS]
 by_cases c:l - (xs.length:Int)<0
 ·simp only[c,EVS];exact ZaK.neg h0
 ·simp only[c,EVS];exact ZaK.pos (by omega) (by omega)
theorem ZA3 (xs:List (Int×Bool)) (hb:(xs).length≤1048576):ZhZ [.lst (xs.map Zac)]=some (.lst (xs.map Zac)):=by
 have hx:xs.length≤1048576:=hb
 show (fun x0=>ZhZ [x0]) _=_
 rw[ZuS]
 simp only[Zs7 _ _ (show xs.length≤4294967296 by omega),List.length_map,EVS]
 refine Zn9 xs Zac 2 _ _ (by omega) ?_ (fun _=> ?_) (fun _=> ?_) (fun again k x row el hk hl he hs=> ?_) (fun again row=> ?_)
 ·rfl
 ·rfl
 ·exact ⟨fun _=>⟨_,rfl⟩,fun _=>⟨_,rfl⟩⟩
 ·have hi:Zk (.lst (xs.map Zac)) (.int .i64 (k:Int))=some ((Zac x)):=Zj hk
  have hkr:k<row.length:=by rw[hl];exact Ze hk
  have g1:=to_Pin x
  simp only[Zac] at g1 hi hs
  simp only[Zac,Zs (Ze hk),Zi (Ze hk) (show xs.length≤9223372036854775807 by omega),hi,g1,ZbE hkr,he,hs,EVS]
 ·simp only[ZW,EVS]
theorem ZA4 (xs:List (Int×Bool)) (hb:(xs).length≤9223372036854775807):ZhR [.lst (xs.map Zac),.lst (xs.map Zac)]=some (pB true):=by
 have hx:xs.length≤9223372036854775807:=hb
 show (fun x0 x1=>ZhR [x0,x1]) _ _=_
 rw[ZuG]
 simp only[List.length_map,EVS]
 refine (congrArg (fun m:Option PV=>m.bind fun r=>if r.sc=true then some r else none) (ZO (R:=PV) xs (fun _ _=>true) (some (pB false)) (some (pB true)) _ hx (fun again k x hk=> ?_) (fun again=> ?_))).trans ?_
 ·have hi:Zk (.lst (xs.map Zac)) (.int .i64 (k:Int))=some ((Zac x)):=Zj hk
  have g1:=eq_Pin x
  simp only[Zac] at g1 hi
  simp only[Zs (Ze hk),Zi (Ze hk) hx,hi,g1,EVS]
 ·simp only[ZW,EVS]
 ·rw[show ZN (fun (_:Nat) (_:Int×Bool)=>true) 0 xs=true from Zfr xs 0];rfl
theorem Zpl (xs:List (List UInt8)) (l:Int) (hb:((xs).length≤9223372036854775807∧∀x∈xs,(x).length≤9223372036854775807)) (h0:0≤l) (h1:l≤1048576):ZaK (Zdm [.lst (xs.map PV.str),pI l]) l (((xs).length≤1048576∧∀x∈xs,(x).length≤1048576)):=by
 have hx:xs.length≤9223372036854775807:=hb.1
 show ZaK ((fun x0 x1=>Zdm [x0,x1]) _ _) _ _
 rw[ZpD]
 have w1:IntKind.i64.wrap (l - (xs.length:Int))=l - (xs.length:Int):=Zav (by omega) (by omega)
 simp only[w1,List.length_map,EVS]
 by_cases c:l - (xs.length:Int)<0
 ·simp only[c,EVS];exact ZaK.neg h0
 ·simp only[c,EVS]
  refine (ZaK.sc (Zvl xs (fun x=>(x).length≤1048576) _ hx (fun again k x l' hk h2 h3=> ?_) (fun again l'=> ?_) (by omega) (by omega))).mono (by omega) (fun h=>⟨by omega,h⟩)
  ·have hi:Zk (.lst (xs.map PV.str)) (.int .i64 (k:Int))=some ((.str x)):=Zj hk
   have hxl:=hb.2 x (List.mem_of_getElem? hk)
   have w2:IntKind.i64.wrap (l' - (x.length:Int))=l' - (x.length:Int):=Zav (by omega) (by omega)
   refine ⟨l' - (x.length:Int),by omega,fun h=>by omega, ?_⟩
   simp only[Zs (Ze hk),Zi (Ze hk) hx,hi,w2,EVS]
   by_cases c2:l' - (x.length:Int)<0<;>simp only[c2,EVS]
  ·simp only[ZW,EVS]
theorem Zpm (xs:List (List UInt8)) (hb:((xs).length≤1048576∧∀x∈xs,(x).length≤1048576)):Zdo [.lst (xs.map PV.str)]=some (.lst (xs.map PV.str)):=by
 have hx:xs.length≤1048576:=hb.1
 show (fun x0=>Zdo [x0]) _=_
 rw[ZpH]
 simp only[Zs7 _ _ (show xs.length≤4294967296 by omega),List.length_map,EVS]
 refine Zn9 xs PV.str 1 _ _ (by omega) ?_ (fun _=> ?_) (fun _=> ?_) (fun again k x row el hk hl he hs=> ?_) (fun again row=> ?_)
 ·rfl
 ·rfl
 ·constructor<;>(rintro ⟨l,h⟩;cases h)
 ·have hi:Zk (.lst (xs.map PV.str)) (.int .i64 (k:Int))=some ((.str x)):=Zj hk
  have hkr:k<row.length:=by rw[hl];exact Ze hk
  simp only[Zs (Ze hk),Zi (Ze hk) (show xs.length≤9223372036854775807 by omega),hi,ZbE hkr,he,hs,EVS]
 ·simp only[ZW,EVS]
theorem Zpn (xs:List (List UInt8)) (hb:((xs).length≤9223372036854775807∧∀x∈xs,(x).length≤9223372036854775807)):Zdk [.lst (xs.map PV.str),.lst (xs.map PV.str)]=some (pB true):=by
 have hx:xs.length≤9223372036854775807:=hb.1
 show (fun x0 x1=>Zdk [x0,x1]) _ _=_
 rw[ZpB]
 simp only[List.length_map,EVS]
 refine (congrArg (fun m:Option PV=>m.bind fun r=>if r.sc=true then some r else none) (ZO (R:=PV) xs (fun _ _=>true) (some (pB false)) (some (pB true)) _ hx (fun again k x hk=> ?_) (fun again=> ?_))).trans ?_
 ·have hi:Zk (.lst (xs.map PV.str)) (.int .i64 (k:Int))=some ((.str x)):=Zj hk
  simp only[Zs (Ze hk),Zi (Ze hk) hx,hi,beq_self_eq_true,EVS]
 ·simp only[ZW,EVS]
 ·rw[show ZN (fun (_:Nat) (_:List UInt8)=>true) 0 xs=true from Zfr xs 0];rfl
def ZeU (m:Nat) (a:PWire):Prop:=(a.name).length≤m∧(a.ins).length≤m∧((a.cover).length≤m∧∀x∈a.cover,(x).length≤m)
theorem ZA5 (a:PWire) (l:Int) (hb:ZeU 9223372036854775807 a) (h0:0≤l) (h1:l≤1048576):ZaK (ZhW [Zo a,pI l]) l (ZeU 1048576 a):=by
 obtain ⟨b0,b1,b2⟩:=hb
 unfold ZeU
 show ZaK ((fun x0 x1=>ZhW [x0,x1]) _ _) _ _
 rw[ZuO]
 simp only[Zo,EVS]
 have w0:IntKind.i64.wrap (l - (a.name.length:Int))=(l - (a.name.length:Int)):=Zav (by omega) (by omega)
 simp only[w0,EVS]
 by_cases c0:(l - (a.name.length:Int))<0
 ·simp only[c0,EVS];exact ZaK.neg h0
 simp only[c0,EVS]
 have q0:0≤(l - (a.name.length:Int))∧(l - (a.name.length:Int))≤l:=by omega
 obtain ⟨r1,g1,y1,z1⟩:=ZA2 a.ins (l - (a.name.length:Int)) b1 (by omega) (by omega)
 try simp only[g1,EVS]
 by_cases c1:r1<0
 ·simp only[g1,c1,EVS];exact ZaK.neg h0
 try simp only[g1,c1,EVS]
 have q1:0≤r1∧r1≤l:=by omega
 obtain ⟨r2,g2,y2,z2⟩:=Zpl a.cover r1 b2 (by omega) (by omega)
 try simp only[g2,EVS]
 by_cases c2:r2<0
 ·simp only[g2,c2,EVS];exact ZaK.neg h0
 try simp only[g2,c2,EVS]
 have q2:0≤r2∧r2≤l:=by omega
 exact ZaK.pos (by omega) ⟨(by omega),(z1 (by omega)),(z2 (by omega))⟩
theorem ZA6 (a:PWire) (hb:ZeU 1048576 a):Zh0 [Zo a]=some (Zo a):=by
 obtain ⟨b0,b1,b2⟩:=hb
 have g0:=ZA3 a.ins b1
 have g1:=Zpm a.cover b2
 show (fun x0=>Zh0 [x0]) _=_
 rw[ZuU]
 simp only[Zo,g0,g1,EVS]
theorem ZA7 (a:PWire) (hb:ZeU 9223372036854775807 a):ZhS [Zo a,Zo a]=some (pB true):=by
 obtain ⟨b0,b1,b2⟩:=hb
 have g0:=ZA4 a.ins b1
 have g1:=Zpn a.cover b2
 show (fun x0 x1=>ZhS [x0,x1]) _ _=_
 rw[ZuI]
 simp only[Zo,g0,g1,beq_self_eq_true,EVS]
theorem Zz7 (xs:List (PWire)) (l:Int) (hb:((xs).length≤9223372036854775807∧∀x∈xs,ZeU 9223372036854775807 x)) (h0:0≤l) (h1:l≤1048576):ZaK (Zgb [.lst (xs.map Zo),pI l]) l (((xs).length≤1048576∧∀x∈xs,ZeU 1048576 x)):=by
 have hx:xs.length≤9223372036854775807:=hb.1
 show ZaK ((fun x0 x1=>Zgb [x0,x1]) _ _) _ _
 rw[Zsw]
 have w1:IntKind.i64.wrap (l - (xs.length:Int))=l - (xs.length:Int):=Zav (by omega) (by omega)
 simp only[w1,List.length_map,EVS]
 by_cases c:l - (xs.length:Int)<0
 ·simp only[c,EVS];exact ZaK.neg h0
 ·simp only[c,EVS]
  refine (ZaK.sc (Zvl xs (fun x=>ZeU 1048576 x) _ hx (fun again k x l' hk h2 h3=> ?_) (fun again l'=> ?_) (by omega) (by omega))).mono (by omega) (fun h=>⟨by omega,h⟩)
  ·have hi:Zk (.lst (xs.map Zo)) (.int .i64 (k:Int))=some ((Zo x)):=Zj hk
   obtain ⟨r,g1,g2,g3⟩:=ZA5 x l' (hb.2 x (List.mem_of_getElem? hk)) h2 h3
   refine ⟨r,g2,g3, ?_⟩
   simp only[Zo] at g1 hi
   simp only[Zs (Ze hk),Zi (Ze hk) hx,hi,g1,EVS]
   by_cases c2:r<0<;>simp only[c2,EVS]
  ·simp only[ZW,EVS]
theorem Zz8 (xs:List (PWire)) (hb:((xs).length≤1048576∧∀x∈xs,ZeU 1048576 x)):Zgc [.lst (xs.map Zo)]=some (.lst (xs.map Zo)):=by
 have hx:xs.length≤1048576:=hb.1
 show (fun x0=>Zgc [x0]) _=_
 rw[Zsy]
 simp only[Zs7 _ _ (show xs.length≤4294967296 by omega),List.length_map,EVS]
 refine Zn9 xs Zo 4 _ _ (by omega) ?_ (fun _=> ?_) (fun _=> ?_) (fun again k x row el hk hl he hs=> ?_) (fun again row=> ?_)
 ·rfl
 ·rfl
 ·exact ⟨fun _=>⟨_,rfl⟩,fun _=>⟨_,rfl⟩⟩
 ·have hi:Zk (.lst (xs.map Zo)) (.int .i64 (k:Int))=some ((Zo x)):=Zj hk
  have hkr:k<row.length:=by rw[hl];exact Ze hk
  have g1:=ZA6 x (hb.2 x (List.mem_of_getElem? hk))
  simp only[Zo] at g1 hi hs
  simp only[Zo,Zs (Ze hk),Zi (Ze hk) (show xs.length≤9223372036854775807 by omega),hi,g1,ZbE hkr,he,hs,EVS]
 ·simp only[ZW,EVS]
theorem Zz9 (xs:List (PWire)) (hb:((xs).length≤9223372036854775807∧∀x∈xs,ZeU 9223372036854775807 x)):Zga [.lst (xs.map Zo),.lst (xs.map Zo)]=some (pB true):=by
 have hx:xs.length≤9223372036854775807:=hb.1
 show (fun x0 x1=>Zga [x0,x1]) _ _=_
 rw[Zsu]
 simp only[List.length_map,EVS]
 refine (congrArg (fun m:Option PV=>m.bind fun r=>if r.sc=true then some r else none) (ZO (R:=PV) xs (fun _ _=>true) (some (pB false)) (some (pB true)) _ hx (fun again k x hk=> ?_) (fun again=> ?_))).trans ?_
 ·have hi:Zk (.lst (xs.map Zo)) (.int .i64 (k:Int))=some ((Zo x)):=Zj hk
  have g1:=ZA7 x (hb.2 x (List.mem_of_getElem? hk))
  simp only[Zo] at g1 hi
  simp only[Zs (Ze hk),Zi (Ze hk) hx,hi,g1,EVS]
 ·simp only[ZW,EVS]
 ·rw[show ZN (fun (_:Nat) (_:PWire)=>true) 0 xs=true from Zfr xs 0];rfl
def ZdH (m:Nat) (a:PNet):Prop:=((a.signals).length≤m∧∀x∈a.signals,ZaU m x)∧((a.wires).length≤m∧∀x∈a.wires,ZeU m x)
theorem Zwg (a:PNet) (l:Int) (hb:ZdH 9223372036854775807 a) (h0:0≤l) (h1:l≤1048576):ZaK (ZeA [Zp a,pI l]) l (ZdH 1048576 a):=by
 obtain ⟨b0,b1⟩:=hb
 unfold ZdH
 show ZaK ((fun x0 x1=>ZeA [x0,x1]) _ _) _ _
 rw[ZpF]
 simp only[Zp,EVS]
 obtain ⟨r0,g0,y0,z0⟩:=Zpi a.signals l b0 (by omega) (by omega)
 try simp only[g0,EVS]
 by_cases c0:r0<0
 ·simp only[g0,c0,EVS];exact ZaK.neg h0
 try simp only[g0,c0,EVS]
 have q0:0≤r0∧r0≤l:=by omega
 obtain ⟨r1,g1,y1,z1⟩:=Zz7 a.wires r0 b1 (by omega) (by omega)
 try simp only[g1,EVS]
 by_cases c1:r1<0
 ·simp only[g1,c1,EVS];exact ZaK.neg h0
 try simp only[g1,c1,EVS]
 have q1:0≤r1∧r1≤l:=by omega
 exact ZaK.pos (by omega) ⟨(z0 (by omega)),(z1 (by omega))⟩
theorem Zwh (a:PNet) (hb:ZdH 1048576 a):Zco [Zp a]=some (Zp a):=by
 obtain ⟨b0,b1⟩:=hb
 have g0:=Zpj a.signals b0
 have g1:=Zz8 a.wires b1
 show (fun x0=>Zco [x0]) _=_
 rw[ZpJ]
 simp only[Zp,g0,g1,EVS]
theorem Zwi (a:PNet) (hb:ZdH 9223372036854775807 a):Zer [Zp a,Zp a]=some (pB true):=by
 obtain ⟨b0,b1⟩:=hb
 have g0:=Zpk a.signals b0
 have g1:=Zz9 a.wires b1
 show (fun x0 x1=>Zer [x0,x1]) _ _=_
 rw[Zpr]
 simp only[Zp,g0,g1,beq_self_eq_true,EVS]
theorem PNet.fit_of {n:PNet} (h:ZdH 9223372036854775807 n):n.Fit:=by
 obtain ⟨⟨h1,h2⟩,h3,h4⟩:=h
 exact ⟨h1,fun s hs=>h2 s hs,h3,fun w hw=>⟨(h4 w hw).1,(h4 w hw).2.1,(h4 w hw).2.2.1,(h4 w hw).2.2.2⟩⟩
def Zgv (n:PNet) (v:List UInt8) (k:Nat):Bool:=match n.wires[k]? with|some w=>ZfD n v k w|none=>false
def ZgX (n:PNet):Nat→Nat→List UInt8→List UInt8
 |0,_,v=>v
 |c+1,k,v=>ZgX n c (k+1) (v.set k (ZfT (Zgv n v k)))
def Zeq (n:PNet) (code:List UInt8):List UInt8:=ZgX n (n.wires.length - n.signals.length) n.signals.length (code++List.replicate (n.wires.length - n.signals.length) 48)
theorem ZaQ {n:PNet} (h:Zdi n=true):n.signals.length≤n.wires.length∧n.wires.length≤24:=by
 unfold Zdi at h
 simp only[Bool.and_eq_true,Bool.not_eq_true',decide_eq_false_iff_not] at h
 omega
theorem ZxJ {n:PNet} {v:List UInt8} {k:Nat} (hn:n.Fit) (hv:Zdi n=true) (hb:Z2 v n.wires.length=true) (hk:k<n.wires.length):At n v k n.wires[k]∧ZfD n v k n.wires[k]=Zgv n v k:=by
 have hl:=(ZaN.1 hb).2
 refine ⟨Zz5 n v k hn (by unfold ZA;have:=(ZaQ hv).2;omega) (by unfold Ze7;rw[hv,hb];rfl) hk, ?_⟩
 unfold Zgv
 rw[List.getElem?_eq_getElem hk]
theorem Zqb (n:PNet) (code:List UInt8) (hn:n.Fit) (hv:Zdi n=true) (hc:Z2 code n.signals.length=true):ZeE [Zp n,.str code]=some (.str (Zeq n code)):=by
 obtain ⟨hs1,hs2⟩:=ZaQ hv
 have hcl:=(ZaN.1 hc).2
 obtain ⟨N,hN⟩:∃N,n.wires.length=N:=⟨_,rfl⟩
 obtain ⟨m,hm⟩:∃m,n.signals.length=m:=⟨_,rfl⟩
 show (fun x0 x1=>ZeE [x0,x1]) _ _=_
 rw[ZpM]
 simp only[Zp,EVS]
 have key:=ZaP (R:=PV) (fun j:{j:Nat // j≤N - m}=>[.str (code++List.replicate j.1 48)]) (fun j=>N - m+1 - j.1) (fun _=>some (.str (Zeq n code)))
 have key':∀f:(List PV→Option PV)→List PV→Option PV,(∀again (a:{j:Nat // j≤N - m}),(∀a':{j:Nat // j≤N - m},N - m+1 - a'.1<N - m+1 - a.1→again [.str (code++List.replicate a'.1 48)]=some (.str (Zeq n code)))→f again [.str (code++List.replicate a.1 48)]=some (.str (Zeq n code)))→Zm f 18446744073709551616 [.str code]=some (.str (Zeq n code)):=fun f hf=>by
  have:=key f hf 18446744073709551616 ⟨0,Nat.zero_le _⟩ (by simp only;omega)
  simpa using this
 refine (congrArg (fun m:Option PV=>m.bind fun r=>if r.sc=true then some r else none) (key' _ (fun again j ih=> ?_))).trans rfl
 obtain ⟨j,hj⟩:=j
 dsimp only at ih⊢
 have hlen:(code++List.replicate j (48:UInt8)).length=m+j:=by simp;omega
 by_cases c1:m+j<N
 ·have h1:decide (((m+j:Nat):Int)<(N:Int))=true:=by simp;omega
  have h0:Zd .add TD.str (.str (code++List.replicate j (48:UInt8))) (.str [48])=some (.str (code++List.replicate (j+1) (48:UInt8))):=by
   rw[ZbF (by simp at hlen⊢;omega),List.append_assoc,←List.replicate_succ']
  have h5:Zd .add TD.str (.str (code++List.replicate j (48:UInt8))) (.str [(48:UInt8)])=some (.str (code++List.replicate (j+1) (48:UInt8))):=h0
  simp only[hN,hlen,h1,h0,h5,List.length_map,EVS]
  exact ih ⟨j+1,by omega⟩ (by simp only;omega)
 ·obtain rfl:j=N - m:=by omega
  have h1:decide (((m+(N - m):Nat):Int)<(N:Int))=false:=by simp;omega
  simp only[hN,hm,hlen,h1,List.length_map,EVS]
  have key2:=ZaP (R:=PV) (fun q:{q:List UInt8×Nat // Z2 q.1 N=true∧q.2≤N}=>[.str q.1.1,pI (Int.ofNat q.1.2)]) (fun q=>N+1 - q.1.2) (fun q=>some (.str (ZgX n (N - q.1.2) q.1.2 q.1.1)))
  have hb0:Z2 (code++List.replicate (N - m) (48:UInt8)) N=true:=Zpa (by rw[←hm];exact hc) (by omega)
  refine (key2 _ (fun again q ih=> ?_) 18446744073709551616 ⟨(code++List.replicate (N - m) 48,m),hb0,by omega⟩ (by simp only;omega)).trans ?_
  ·obtain ⟨⟨v,k⟩,hb,hk⟩:=q
   dsimp only at ih hb hk⊢
   have hvl:=(ZaN.1 hb).2
   by_cases c2:k<N
   ·obtain ⟨a1,a2⟩:=ZxJ (k:=k) hn hv (by rw[hN];exact hb) (by omega)
    have a3:=Znp n v k _ a1
    rw[a2] at a3
    simp only[Zp] at a3
    have a4:=Zjz v k (ZfT (Zgv n v k)) (by omega) (by unfold ZA;omega)
    have h3:decide ((k:Int)<(N:Int))=true:=by simpa using c2
    have hw:IntKind.i64.wrap ((k:Int)+1)=((k+1:Nat):Int):=by rw[Zav (by omega) (by omega)];omega
    simp only[hN,h3,a3,Zjy,a4,hw,List.length_map,EVS]
    have h4:=ih ⟨(v.set k (ZfT (Zgv n v k)),k+1),Zo9 hb _,by omega⟩ (by simp only;omega)
    rw[show N - k=(N - (k+1))+1 by omega]
    exact h4
   ·obtain rfl:k=N:=by omega
    have h3:decide ((k:Int)<(k:Int))=false:=by simp
    simp only[hN,h3,List.length_map,EVS]
    rw[Nat.sub_self]
    rfl
  ·unfold Zeq
   rw[hN,hm]
theorem Zuf (c:UInt8):∀k,Lib.repeatL [c] k=List.replicate k c
 |0=>rfl
 |k+1=>by rw[Lib.repeatL,Zuf c k];rfl
theorem ZkD (c:UInt8) (k:Nat) (h:k≤1048576):Za2 [.str [c],pI k]=some (.str (List.replicate k c)):=by
 have h1:(0:Int)≤(k:Int)∧(k:Int)≤9223372036854775807∧(([c]:List UInt8).length:Int) * (k:Int)≤140737488355328:=by simp;omega
 show (if (0:Int)≤(k:Int)∧(k:Int)≤9223372036854775807∧(([c]:List UInt8).length:Int) * (k:Int)≤140737488355328 then some (PV.str (Lib.repeatL [c] (Int.toNat (k:Int)))) else none)=_
 rw[if_pos h1,Int.toNat_natCast,Zuf]
theorem Zwj (n:PNet) (code:List UInt8) (hn:n.Fit) (hv:Zdi n=true) (hc:Z2 code n.signals.length=true):ZhA [Zp n,.str code]=some (.str (Zeq n code)):=by
 obtain ⟨hs1,hs2⟩:=ZaQ hv
 have hcl:=(ZaN.1 hc).2
 obtain ⟨N,hN⟩:∃N,n.wires.length=N:=⟨_,rfl⟩
 obtain ⟨m,hm⟩:∃m,n.signals.length=m:=⟨_,rfl⟩
 have hb0:Z2 (code++List.replicate (N - m) (48:UInt8)) N=true:=Zpa (by rw[←hm];exact hc) (by omega)
 show (fun x0 x1=>ZhA [x0,x1]) _ _=_
 rw[Zur]
 have hw1:IntKind.i64.wrap ((N:Int) - (m:Int))=((N - m:Nat):Int):=by rw[Zav (by omega) (by omega)];omega
 have hr:Za2 [.str [(48:UInt8)],pI ((N - m:Nat):Int)]=some (.str (List.replicate (N - m) 48)):=ZkD 48 (N - m) (by omega)
 have hcl':code.length=m:=by omega
 have h0:Zd .add TD.str (.str code) (.str (List.replicate (N - m) (48:UInt8)))=some (.str (code++List.replicate (N - m) (48:UInt8))):=ZbF (by simp;omega)
 simp only[Zp,hN,hcl',hw1,hr,h0,List.length_map,EVS]
 have key2:=ZaP (R:=PV) (fun q:{q:List UInt8×Nat // Z2 q.1 N=true∧q.2≤N}=>[.str q.1.1,pI (Int.ofNat q.1.2)]) (fun q=>N+1 - q.1.2) (fun q=>some (.str (ZgX n (N - q.1.2) q.1.2 q.1.1)))
 refine (congrArg (fun m:Option PV=>m.bind fun r=>if r.sc=true then some r else none) (key2 _ (fun again q ih=> ?_) 18446744073709551616 ⟨(code++List.replicate (N - m) 48,m),hb0,by omega⟩ (by simp only;omega))).trans ?_
 ·obtain ⟨⟨v,k⟩,hb,hk⟩:=q
  dsimp only at ih hb hk⊢
  have hvl:=(ZaN.1 hb).2
  by_cases c2:k<N
  ·obtain ⟨a1,a2⟩:=ZxJ (k:=k) hn hv (by rw[hN];exact hb) (by omega)
   have a3:=ZlL n v k _ a1
   rw[a2] at a3
   simp only[Zp] at a3
   have h3:decide ((k:Int)<(N:Int))=true:=by simpa using c2
   have hw:IntKind.i64.wrap ((k:Int)+1)=((k+1:Nat):Int):=by rw[Zav (by omega) (by omega)];omega
   have h4:Zif (.str v) none (some (.int .i64 (k:Int)))=some (.str (v.take k)):=ZqK (by omega)
   have h5:Zif (.str v) (some (.int .i64 ((k+1:Nat):Int))) none=some (.str (v.drop (k+1))):=ZqL (by omega)
   have h6:Zd .add TD.str (.str (v.take k)) (.str [ZfT (Zgv n v k)])=some (.str (v.take k++[ZfT (Zgv n v k)])):=ZbF (by simp;omega)
   have h7:Zd .add TD.str (.str (v.take k++[ZfT (Zgv n v k)])) (.str (v.drop (k+1)))=some (.str (v.take k++[ZfT (Zgv n v k)]++v.drop (k+1))):=ZbF (by simp;omega)
   simp only[hvl,h3,h4,a3,ZxC,h6,hw,h5,h7,ZxD v k _ (show k<v.length by omega),EVS]
   have h8:=ih ⟨(v.set k (ZfT (Zgv n v k)),k+1),Zo9 hb _,by omega⟩ (by simp only;omega)
   rw[show N - k=(N - (k+1))+1 by omega]
   exact h8
  ·obtain rfl:k=N:=by omega
   have h3:decide ((k:Int)<(k:Int))=false:=by simp
   simp only[hvl,h3,EVS]
   rw[Nat.sub_self]
   rfl
 ·unfold Zeq
  rw[hN,hm]
  rfl
def Zug (a:PArc):Zfo:=(a.from_,a.sig,a.up,a.to_)
def Znr (c:PSG):List (List Int):=ZdF c.codes.length c.signals.length (c.arcs.map Zug)
def toC (c:PSG) (k s:Nat):Int:=Ze0 (Znr c) k s
structure Go1 (c:PSG) (n:PNet):Prop where
 net:Zdi n=true
 one:1≤c.codes.length
 many:c.codes.length≤300
 sone:1≤c.signals.length
 smany:c.signals.length≤8
 few:c.arcs.length≤4000
 bits:∀x∈c.codes,Z2 x c.signals.length=true
 arcs:∀a∈c.arcs,0≤a.from_∧a.from_<c.codes.length∧0≤a.to_∧a.to_<c.codes.length∧0≤a.sig∧a.sig<c.signals.length
 det:∀a∈c.arcs,∀b∈c.arcs,a.from_=b.from_→a.sig=b.sig→a.to_=b.to_
 same:c.signals=n.signals
 fitc:SGFit c
 fitn:n.Fit
theorem Zpo (w:PArc→PArc→Bool) (i:Nat) (a:PArc):∀(l:List PArc) (k:Nat) (acc:List (Nat×Nat)),Zdz w i a k acc l=[]→acc=[]∧∀b∈l,w a b=false
 |[],k,acc,h=>⟨h,by simp⟩
 | b::l,k,acc,h=>by
  unfold Zdz at h
  obtain ⟨h1,h2⟩:=Zpo w i a l (k+1) _ h
  cases c:w a b
  ·rw[c] at h1
   simp only[Bool.false_eq_true,if_false] at h1
   refine ⟨h1,fun x hx=> ?_⟩
   rcases List.mem_cons.1 hx with rfl|hx
   ·exact c
   ·exact h2 x hx
  ·rw[c] at h1
   simp at h1
theorem Zpp (w:PArc→PArc→Bool) (arcs:List PArc):∀(l:List PArc) (k:Nat) (acc:List (Nat×Nat)),Zhn w arcs k acc l=[]→acc=[]∧∀(i:Nat) (a:PArc),l[i]?=some a→∀b∈arcs.drop (k+i+1),w a b=false
 |[],k,acc,h=>⟨h,by simp⟩
 | a::l,k,acc,h=>by
  unfold Zhn at h
  obtain ⟨h1,h2⟩:=Zpp w arcs l (k+1) _ h
  obtain ⟨h3,h4⟩:=Zpo w _ a _ _ _ h1
  refine ⟨h3,fun i x hx=> ?_⟩
  cases i with
  |zero=>simp at hx;subst hx;exact h4
  | succ i=>
   have:=h2 i x (by simpa using hx)
   rwa[show k+1+i+1=k+(i+1)+1 by omega] at this
theorem Zyx {c:PSG} (h:ZgU c=true):1≤c.signals.length∧c.signals.length≤8:=by
 unfold ZgU Zkc inR at h
 simp only[Bool.and_eq_true,decide_eq_true_eq] at h
 omega
theorem ZmI {c:PSG} {n:PNet} (h:goP c n=true) (hc:SGFit c) (hn:n.Fit):Go1 c n:=by
 unfold goP ZxI at h
 simp only[Bool.and_eq_true,Bool.not_eq_true',decide_eq_true_eq] at h
 obtain ⟨⟨hs,hnet⟩,⟨hh,hw⟩,hsame⟩:=h
 obtain ⟨h1,h2,h3,h4⟩:=ZjB hs
 have hp:=ZiL h1 h2
 have hsg:=Zyx h1
 have harc:∀a∈c.arcs,0≤a.from_∧a.from_<c.codes.length∧0≤a.to_∧a.to_<c.codes.length∧0≤a.sig∧a.sig<c.signals.length:=fun a ha=>by
  have h5:=List.all_eq_true.1 h3 a ha
  have h6:a.sig≠ -1:=fun e=>by
   have:Zhl c.arcs=true:=List.any_eq_true.2 ⟨a,ha,decide_eq_true e⟩
   rw[this] at hh;cases hh
  unfold Zky Zc0 Zf3 inR at h5
  simp only[Bool.and_eq_true,Bool.or_eq_true,decide_eq_true_eq] at h5
  omega
 refine ⟨hnet,hp.one,hp.many,hsg.1,hsg.2,hp.arcs,hp.bits,harc, ?_,hsame,hc,hn⟩
 have hways:ZiQ Zkz c=[]:=List.length_eq_zero_iff.1 (by omega)
 have hkey:=(Zpp Zkz c.arcs c.arcs 0 [] hways).2
 have hlt:∀(i j:Nat) (a b:PArc),i<j→c.arcs[i]?=some a→c.arcs[j]?=some b→a.from_=b.from_→a.sig=b.sig→a.to_=b.to_:=fun i j a b hij hi hj e1 e2=>by
  have:=hkey i a hi b (by
   rw[Nat.zero_add]
   refine List.mem_of_getElem? (i:=j - (i+1)) ?_
   rw[List.getElem?_drop,show i+1+(j - (i+1))=j by omega]
   exact hj)
  have h6:=(harc a (List.mem_of_getElem? hi)).2.2.2.2.1
  unfold Zkz at this
  simp only[e1,e2,decide_true,Bool.and_true,Bool.true_and] at this
  have hn1:decide (b.sig= -1)=false:=by simp only[decide_eq_false_iff_not];omega
  rw[hn1] at this
  simp only[Bool.not_false,Bool.true_and,Bool.not_eq_false',decide_eq_true_eq] at this
  exact this.symm
 intro a ha b hb e1 e2
 obtain ⟨i,hi⟩:=List.getElem?_of_mem ha
 obtain ⟨j,hj⟩:=List.getElem?_of_mem hb
 rcases Nat.lt_trichotomy i j with h|h|h
 ·exact hlt i j a b h hi hj e1 e2
 ·subst h;rw[hi] at hj;cases hj;rfl
 ·exact (hlt j i b a h hj hi e1.symm e2.symm).symm
theorem ZiS {c:PSG} {n:PNet} (h:Go1 c n) {k s:Nat} (hk:k<c.codes.length) (hs:s<c.signals.length):
 (∃a∈c.arcs,(a.from_=(k:Int)∧a.sig=(s:Int))∧toC c k s=a.to_)∨(toC c k s= -1∧∀a∈c.arcs,¬(a.from_=(k:Int)∧a.sig=(s:Int))):=by
 rcases Zvd hk hs (c.arcs.map Zug) with ⟨q,hq,h1,h2⟩|⟨h1,h2⟩
 ·obtain ⟨a,ha,rfl⟩:=List.mem_map.1 hq
  have:=h.arcs a ha
  refine .inl ⟨a,ha, ?_,h2⟩
  unfold Zug at h1
  dsimp only at h1
  omega
 ·refine .inr ⟨h1,fun a ha hc=> ?_⟩
  have:=h.arcs a ha
  refine h2 (Zug a) (List.mem_map.2 ⟨a,ha,rfl⟩) ?_
  unfold Zug
  dsimp only
  omega
theorem toC_in {c:PSG} {n:PNet} (h:Go1 c n) {k s:Nat} (hk:k<c.codes.length) (hs:s<c.signals.length): -1≤toC c k s∧toC c k s<c.codes.length:=by
 rcases ZiS h hk hs with ⟨a,ha,_,h2⟩|⟨h1,_⟩
 ·have:=h.arcs a ha;omega
 ·have:=h.one;omega
theorem Zuh {R:Type} (q:PArc→Bool) (z:PArc→Option R) (e:Option R):∀(l:List PArc) (k:Nat),rgo (fun _ a=>if q a=true then some (z a) else none) e k l=match l.find? q with|some a=>z a|none=>e
 |[],k=>rfl
 | a::l,k=>by
  unfold rgo
  rw[List.find?_cons]
  cases c:q a
  ·simp only[Bool.false_eq_true,if_false]
   exact Zuh q z e l (k+1)
  ·simp
theorem Zyy (c:PSG) (n:PNet) (k s:Nat) (h:Go1 c n) (hk:k<c.codes.length) (hs:s<c.signals.length):ZjL [eSG c,pI (k:Int),pI (s:Int)]=some (pI (toC c k s)):=by
 have hl:=h.few
 show (fun x0 x1 x2=>ZjL [x0,x1,x2]) _ _ _=_
 rw[ZwF]
 simp only[eSG,List.length_map,EVS]
 refine (congrArg (fun m:Option PV=>m.bind fun r=>if r.sc=true then some r else none) ((Zro (R:=PV) c.arcs (fun _ a=>if (decide (a.from_=(k:Int))&&decide (a.sig=(s:Int)))=true then some (some (pI a.to_)) else none) (some (pI (-1))) _ (by omega) (fun again j a ha=> ?_) (fun again=> ?_)).trans (Zuh _ _ _ _ _))).trans ?_
 ·have hj:=Ze ha
  have hi:Zk (.lst (c.arcs.map Z3)) (.int .i64 (j:Int))=some (Z3 a):=Zj ha
  cases c1:decide (a.from_=(k:Int))<;>cases c2:decide (a.sig=(s:Int))<;>simp only[Zs hj,Zi hj (show c.arcs.length≤9223372036854775807 by omega),hi,Z3,c1,c2,Bool.false_eq_true,if_false,if_true,EVS]
 ·simp only[ZW,EVS]
  rfl
 ·cases hf:c.arcs.find? (fun a=>decide (a.from_=(k:Int))&&decide (a.sig=(s:Int))) with
  | none=>
   have hno:=List.find?_eq_none.1 hf
   rcases ZiS h hk hs with ⟨a,ha,h1,h2⟩|⟨h1,h2⟩
   ·exact absurd (by simp[h1]) (hno a ha)
   ·rw[h1];rfl
  | some a=>
   have ha:=List.mem_of_find?_eq_some hf
   have hq:=List.find?_some hf
   simp only[Bool.and_eq_true,decide_eq_true_eq] at hq
   rcases ZiS h hk hs with ⟨b,hb,h1,h2⟩|⟨h1,h2⟩
   ·rw[h2,h.det b hb a ha (by omega) (by omega)];rfl
   ·exact absurd hq (h2 a ha)
def Zb1 (c:PSG) (n:PNet):PV:=.agg [.lst (c.signals.map ZD),.lst (c.codes.map PV.str),.lst (c.arcs.map Z3),.lst (n.signals.map ZD),.lst (n.wires.map Zo),.lst ((Znr c).map ZsU)]
def zSys :PV:=.agg [.lst [],.lst [],.lst [],.lst [],.lst [],.lst []]
set_option maxRecDepth 20000 in
theorem Zqc (c:PSG) (n:PNet) (hc:SGFit c) (hn:n.Fit):Zfg [eSG c,Zp n]=some (.tup [if goP c n=true then Zb1 c n else zSys,pB (goP c n)]):=by
 have g:=ZkB c n hc hn
 show (match Zbo [eSG c,Zp n] with
  | some (.tup [.bool is,.bool ok])=>
   match ok&&is with
   | true=>match Zia (c.arcs.map Z3) with
    |some ars=>if 1≤(c.signals.map ZD).length∧(c.signals.map ZD).length≤1048576∧(c.codes.map PV.str).length≤1000000∧(ars.all (Zmb (c.codes.map PV.str).length (c.signals.map ZD).length))=true then some (PV.tup [.agg [.lst (c.signals.map ZD),.lst (c.codes.map PV.str),.lst (c.arcs.map Z3),.lst (n.signals.map ZD),.lst (n.wires.map Zo),.lst ((ZdF (c.codes.map PV.str).length (c.signals.map ZD).length ars).map ZsU)],.bool true]) else none
    |none=>none
   |false=>some (PV.tup [.agg [.lst [],.lst [],.lst [],.lst [],.lst [],.lst []],.bool false])
  |_=>none)=_
 rw[g]
 have hgo:((sgV c&&Zdi n)&&goP c n)=goP c n:=by
  unfold goP
  cases sgV c<;>cases Zdi n<;>simp
 show (match ((sgV c&&Zdi n)&&goP c n) with
  | true=>match Zia (c.arcs.map Z3) with
   |some ars=>if 1≤(c.signals.map ZD).length∧(c.signals.map ZD).length≤1048576∧(c.codes.map PV.str).length≤1000000∧(ars.all (Zmb (c.codes.map PV.str).length (c.signals.map ZD).length))=true then some (PV.tup [.agg [.lst (c.signals.map ZD),.lst (c.codes.map PV.str),.lst (c.arcs.map Z3),.lst (n.signals.map ZD),.lst (n.wires.map Zo),.lst ((ZdF (c.codes.map PV.str).length (c.signals.map ZD).length ars).map ZsU)],.bool true]) else none
   |none=>none
  |false=>some (PV.tup [.agg [.lst [],.lst [],.lst [],.lst [],.lst [],.lst []],.bool false]))=_
 rw[hgo]
 cases hg:goP c n
 ·rfl
 ·have h:=ZmI hg hc hn
  have ha:Zia (c.arcs.map Z3)=some (c.arcs.map Zug):=by
   have:c.arcs.map Z3=(c.arcs.map Zug).map pArc:=by rw[List.map_map];rfl
   rw[this,ZpV]
  dsimp only
  rw[ha]
  dsimp only
  rw[if_pos]
  ·simp only[if_true,List.length_map];rfl
  ·simp only[List.length_map]
   have h1:=h.sone
   have h2:=h.smany
   have h3:=h.many
   refine ⟨h1,by omega,by omega,List.all_eq_true.2 fun q hq=> ?_⟩
   obtain ⟨a,ha,rfl⟩:=List.mem_map.1 hq
   have:=h.arcs a ha
   unfold Zmb Zug
   simp only[decide_eq_true_eq]
   omega
def ePs (b:PSt):PV:=.agg [pI b.state,.str b.values]
def eFl (f:Flip):PV:=.agg [pI f.from_,pI f.wire,pI f.to]
def ePr (p:ProdG):PV:=.agg [.lst (p.states.map ePs),.lst (p.flips.map eFl),.lst (p.extra.map eFl)]
structure PrFit (p:ProdG):Prop where
 states:ZA p.states
 each:∀b∈p.states,ZA b.values
 flips:ZA p.flips
def Zic (last:Int) (f:Flip):Bool:=(inR f.from_ 0 last&&inR f.to 0 last)&&inR f.wire 0 23
def ZiT (p:ProdG):Bool:=(inR p.states.length 1 600&&decide ((p.flips.length:Int)≤6000))&&p.flips.all (Zic ((p.states.length:Int) - 1))
theorem Zui (p:ProdG) (hp:PrFit p):Zf5 [ePr p]=some (pB (ZiT p)):=by
 have hl:=hp.flips
 have hs:=hp.states
 unfold ZA at hl hs
 have hw:IntKind.i64.wrap ((p.states.length:Int) - 1)=(p.states.length:Int) - 1:=Zav (by omega) (by omega)
 show (fun x0=>Zf5 [x0]) _=_
 rw[Zsl]
 simp only[ePr,EVS]
 refine (congrArg (fun m:Option PV=>m.bind fun r=>if r.sc=true then some r else none) (ZO (R:=PV) p.flips (fun _ f=>Zic ((p.states.length:Int) - 1) f) (some (pB false)) (some (pB (inR p.states.length 1 600&&decide ((p.flips.length:Int)≤6000)))) _ hl (fun again k f hx=> ?_) (fun again=> ?_))).trans ?_
 ·have hk:=Ze hx
  have hi:Zk (.lst (p.flips.map eFl)) (.int .i64 (k:Int))=some (eFl f):=Zj hx
  have g1:Zak [pI f.from_,pI 0,pI ((p.states.length:Int) - 1)]=some (pB (inR f.from_ 0 ((p.states.length:Int) - 1))):=ZaJ _ _ _
  have g2:Zak [pI f.to,pI 0,pI ((p.states.length:Int) - 1)]=some (pB (inR f.to 0 ((p.states.length:Int) - 1))):=ZaJ _ _ _
  have g3:Zak [pI f.wire,pI 0,pI 23]=some (pB (inR f.wire 0 23)):=ZaJ _ _ _
  unfold Zic
  simp only[Zs hk,Zi hk hl,hi,eFl,hw,g1,EVS]
  cases c1:inR f.from_ 0 ((p.states.length:Int) - 1)<;>cases c2:inR f.to 0 ((p.states.length:Int) - 1)<;>cases c3:inR f.wire 0 23<;>simp only[c1,c2,c3,hw,g1,g2,g3,EVS]
 ·have g:Zak [pI (p.states.length:Int),pI 1,pI 600]=some (pB (inR p.states.length 1 600)):=ZaJ _ _ _
  simp only[ZW,g,EVS]
  cases inR p.states.length 1 600<;>simp only[EVS]
 ·rw[Zaj]
  unfold ZiT
  cases p.flips.all (Zic ((p.states.length:Int) - 1))<;>simp only[EVS]<;>rfl
theorem ZnF (f:Flip) (last:Int):Zdu [eFl f,.agg [pI last]]=some (pB (!Zic last f)):=by
 have g1:=Zah f.from_ 0 last
 have g2:=Zah f.to 0 last
 have g3:=Zah f.wire 0 23
 show (fun x0 x1=>Zdu [x0,x1]) _ _=_
 rw[ZmN]
 unfold Zic
 simp only[eFl,g1,EVS]
 cases c1:inR f.from_ 0 last<;>cases c2:inR f.to 0 last<;>cases c3:inR f.wire 0 23<;>simp only[c1,c2,c3,g1,g2,g3,EVS]
theorem ZbK (l:List Flip) (last:Int) (hl:ZA l):ZB [.lst (l.map eFl),.tup [.agg [pI last]]]=some (pI (ixf (fun f=> !Zic last f) 0 l)):=by
 show (fun x0 x1=>ZB [x0,x1]) _ _=_
 rw[Zbz]
 unfold ZA at hl
 simp only[EVS]
 refine (congrArg (fun m:Option PV=>m.bind fun r=>if r.sc=true then some r else none) (ZcY l (fun f=> !Zic last f) _ hl (fun again i a hb=> ?_) (fun again=> ?_))).trans ?_
 ·have hk:=Ze hb
  have hi:Zk (.lst (l.map eFl)) (.int .i64 (i:Int))=some (eFl a):=Zj hb
  have g:=ZnF a last
  simp only[eFl] at g
  simp only[Zs hk,Zi hk hl,hi,eFl,Znn,List.cons_append,List.nil_append,g,EVS]
 ·simp only[ZW,EVS]
  rfl
 ·simp only[EVS]
theorem Zbf (l:List Flip) (last:Int) (hl:ZA l):Zu [.lst (l.map eFl),.tup [.agg [pI last]]]=some (pB (!l.all (Zic last))):=by
 show (fun x0 x1=>Zu [x0,x1]) _ _=_
 rw[Zbc]
 simp only[ZbK l last hl,ZeT (fun f=> !Zic last f) l 0,Bool.not_not,Zaj,EVS]
theorem ZAa (a c:PV):splice [a] 0 [c]=[c]:=rfl
theorem Zqd (p:ProdG) (hp:PrFit p):Zes [ePr p]=some (pB (ZiT p)):=by
 have hs:=hp.states
 unfold ZA at hs
 have hw:IntKind.i64.wrap ((p.states.length:Int) - 1)=(p.states.length:Int) - 1:=Zav (by omega) (by omega)
 have g1:=Zah (p.states.length:Int) 1 600
 have g2:=Zbf p.flips ((p.states.length:Int) - 1) hp.flips
 show (fun x0=>Zes [x0]) _=_
 rw[Zpt]
 unfold ZiT
 simp only[ePr,hw,ZAa,g1,EVS]
 cases c1:inR p.states.length 1 600<;>cases c2:decide ((p.flips.length:Int)≤6000)<;>simp only[c1,c2,hw,ZAa,g1,g2,List.drop_zero,Bool.not_not,EVS]
theorem Zmw (a b c d e f:PV):Zb true 3 2 [a,b,c,d,e,f]=some (.agg [d,e]):=rfl
theorem ZoJ (a b c d e f a' b' c' d' e' f':PV):splice [a,b,c,d,e,f] 0 [a',b',c',d',e',f']=[a',b',c',d',e',f']:=rfl
theorem ZnD (a b c d e f:PV):Zb true 0 6 [a,b,c,d,e,f]=some (.agg [a,b,c,d,e,f]):=rfl
theorem Go1.vals {c:PSG} {n:PNet} (h:Go1 c n) {v:List UInt8} (hb:Z2 v n.wires.length=true):Ze7 n v=true∧ZA v∧v.length=n.wires.length∧n.wires.length≤24∧n.signals.length≤n.wires.length∧n.signals.length=c.signals.length:=by
 have h1:=ZaQ h.net
 have h2:=(ZaN.1 hb).2
 refine ⟨by unfold Ze7;rw[h.net,hb];rfl,by unfold ZA;omega,h2,h1.2,h1.1,by rw[h.same]⟩
theorem Go1.code {c:PSG} {n:PNet} (h:Go1 c n):∃x,c.codes[0]?=some x∧Z2 x n.signals.length=true:=by
 have h1:=h.one
 refine ⟨c.codes[0],List.getElem?_eq_getElem (by omega), ?_⟩
 rw[←h.same]
 exact h.bits _ (List.getElem_mem _)
def Zhf (c:PSG) (n:PNet):PSt:=⟨0,Zeq n (c.codes.getD 0 [])⟩
theorem ZrR (c:PSG) (n:PNet) (h:Go1 c n):Zfl [eSG c,Zp n]=some (ePs (Zhf c n)):=by
 obtain ⟨x,hx,hb⟩:=h.code
 have g:=Zqb n x h.fitn h.net hb
 have hi:Zk (.lst (c.codes.map PV.str)) (.int .i64 ((0:Nat):Int))=some (.str x):=Zj hx
 show (fun x0 x1=>Zfl [x0,x1]) _ _=_
 rw[ZqD]
 unfold Zhf
 rw[List.getD_eq_getElem?_getD,hx]
 simp only[Int.natCast_zero] at hi
 simp only[Zp] at g
 simp only[eSG,Zp,ZL,hi,g,EVS]
 rfl
theorem ZtF (c:PSG) (n:PNet) (h:Go1 c n):Zb9 [Zb1 c n]=some (ePs (Zhf c n)):=by
 obtain ⟨x,hx,hb⟩:=h.code
 have g:=Zwj n x h.fitn h.net hb
 have hi:Zk (.lst (c.codes.map PV.str)) (.int .i64 ((0:Nat):Int))=some (.str x):=Zj hx
 show (fun x0=>Zb9 [x0]) _=_
 rw[ZjV]
 unfold Zhf
 rw[List.getD_eq_getElem?_getD,hx]
 simp only[Int.natCast_zero] at hi
 simp only[Zp] at g
 simp only[Zb1,Zmw,hi,g,EVS]
 rfl
theorem ZAC (c:PSG) {k:Nat} (hk:k<c.codes.length):∃row,(Znr c)[k]?=some row∧row.length=c.signals.length∧∀s,toC c k s=row.getD s (-1):=by
 have hl:(Znr c).length=c.codes.length:=ZwL _ _ _
 refine ⟨(Znr c)[k]'(by omega),List.getElem?_eq_getElem _,ZwM _ _ _ _ (List.getElem_mem _),fun s=> ?_⟩
 unfold toC Ze0
 rw[List.getD_eq_getElem?_getD (l:=Znr c),List.getElem?_eq_getElem (by omega)]
 rfl
theorem Zlz (c:PSG) {k s:Nat} (hk:k<c.codes.length) (hs:s<c.signals.length):∃row:List PV,Zk (.lst ((Znr c).map ZsU)) (.int .i64 (k:Int))=some (.lst row)∧Zk (.lst row) (.int .i64 (s:Int))=some (pI (toC c k s)):=by
 obtain ⟨row,h1,h2,h3⟩:=ZAC c hk
 refine ⟨row.map pI,Zj h1, ?_⟩
 refine ZnU ?_
 rw[h3 s,List.getElem?_map,List.getElem?_eq_getElem (by omega),List.getD_eq_getElem?_getD,List.getElem?_eq_getElem (by omega)]
 rfl
def ZiC (n:PNet) (k:Nat):Int:=match n.wires[k]? with|some w=>w.kind|none=>0
def inAt (n:PNet) (k:Nat):Bool:=match n.signals[k]? with|some s=>decide (s.2=1)|none=>false
theorem ZAE {n:PNet} (hv:Zdi n=true) {k:Nat} (hk:k<n.signals.length):decide (ZiC n k=1)=inAt n k:=by
 have hs:=(ZaQ hv).1
 have hw:n.wires[k]?=some n.wires[k]:=List.getElem?_eq_getElem (by omega)
 have hsg:n.signals[k]?=some n.signals[k]:=List.getElem?_eq_getElem hk
 unfold ZiC inAt
 rw[hw,hsg]
 unfold Zdi at hv
 simp only[Bool.and_eq_true] at hv
 have h1:=Zjx _ _ _ hv.2 k _ hw
 rw[Nat.zero_add] at h1
 unfold ZbJ ZlK ZgR at h1
 have hd:decide ((k:Int)<(n.signals.length:Int))=true:=by simp only[decide_eq_true_eq];omega
 rw[hd,hsg] at h1
 simp only[Bool.and_eq_true,Bool.not_true,Bool.false_or,beq_iff_eq] at h1
 exact h1.1.1.1.2.2
def ZjP (c:PSG) (n:PNet) (s:Nat) (v:List UInt8) (k:Nat):Bool:=if n.signals.length≤k then Zq n v k else decide (0≤toC c s k)&&(decide (ZiC n k=1)||Zq n v k)
theorem ZtG (c:PSG) (n:PNet) (h:Go1 c n) (s:Nat) (v:List UInt8) (k:Nat) (hs:s<c.codes.length) (hb:Z2 v n.wires.length=true) (hk:k<n.wires.length):Zca [Zb1 c n,ePs ⟨s,v⟩,pI (k:Int)]=some (pB (ZjP c n s v k)):=by
 obtain ⟨h1,h2,h3,h4,h5,h6⟩:=h.vals hb
 have g:=ZdQ n v k h.fitn h2 h1 hk
 simp only[Zp] at g
 show (fun x0 x1 x2=>Zca [x0,x1,x2]) _ _ _=_
 rw[ZjX]
 unfold ZjP
 by_cases c1:n.signals.length≤k
 ·have hd:decide ((n.signals.length:Int)≤(k:Int))=true:=by simp only[decide_eq_true_eq];omega
  rw[if_pos c1]
  simp only[Zb1,ePs,List.length_map,hd,Zmw,g,EVS]
 ·have hd:decide ((n.signals.length:Int)≤(k:Int))=false:=by simp only[decide_eq_false_iff_not];omega
  obtain ⟨row,r1,r2⟩:=Zlz c hs (show k<c.signals.length by omega)
  have hw:Zk (.lst (n.wires.map Zo)) (.int .i64 (k:Int))=some (Zo n.wires[k]):=Zj (List.getElem?_eq_getElem hk)
  have hkd:ZiC n k=n.wires[k].kind:=by unfold ZiC;rw[List.getElem?_eq_getElem hk]
  rw[if_neg c1,hkd]
  cases c2:decide (0≤toC c s k)<;>cases c3:decide (n.wires[k].kind=1)<;>simp only[Zb1,ePs,List.length_map,hd,Zmw,r1,r2,c2,c3,hw,Zo,List.drop_succ_cons,List.drop_zero,g,EVS]
def flB (b:UInt8):UInt8:=if b=48 then 49 else 48
def ZbI (v:List UInt8) (k:Nat):List UInt8:=v.set k (flB (v.getD k 48))
def Zas (c:PSG) (n:PNet) (s:Nat) (v:List UInt8) (k:Nat):PSt:=⟨if k<n.signals.length then toC c s k else s,ZbI v k⟩
theorem ZAF (b:UInt8):ZfC (flB b)=true:=by unfold flB;split<;>decide
theorem ZoK {v:List UInt8} {N k:Nat} (h:Z2 v N=true):Z2 (ZbI v k) N=true:=by
 rw[ZaN] at h⊢
 refine ⟨fun b hb=> ?_,by unfold ZbI;rw[List.length_set];exact h.2⟩
 unfold ZbI at hb
 rcases List.mem_or_eq_of_mem_set hb with hb|rfl
 ·exact h.1 b hb
 ·exact ZAF _
theorem ZAG {b:UInt8} (h:ZfC b=true):Zd .xor (TD.int .u8) (pU b) (.int .u8 1)=some (pU (flB b)):=by
 rcases (ZlM b).1 h with rfl|rfl<;>rfl
theorem ZzK (c:PSG) (n:PNet) (h:Go1 c n) (s:Nat) (v:List UInt8) (k:Nat) (hs:s<c.codes.length) (hb:Z2 v n.wires.length=true) (hk:k<n.wires.length):Zdw [Zb1 c n,ePs ⟨s,v⟩,pI (k:Int)]=some (ePs (Zas c n s v k)):=by
 obtain ⟨h1,h2,h3,h4,h5,h6⟩:=h.vals hb
 have hc:=ZAY v h2
 have hvk:v[k]?=some v[k]:=List.getElem?_eq_getElem (by omega)
 have p1:ZaM (v.map pU) (.int .i64 (k:Int))=some (.int .i64 (k:Int)):=ZbE (by rw[List.length_map];omega)
 have q1:(v.map pU)[k]?=some (pU v[k]):=by rw[List.getElem?_map,hvk];rfl
 have hx:=ZAG ((ZaN.1 hb).1 v[k] (List.getElem_mem _))
 have hse:ZaB 0 1 [pU v[k]] (pU v[k]) (pU (flB v[k]))=some (pU (flB v[k])):=rfl
 have st:(v.map pU).set k (pU (flB v[k]))=(v.set k (flB v[k])).map pU:=ZjA pU v k _
 have hbo:=Ziq (v.set k (flB v[k]))
 have hfv:ZbI v k=v.set k (flB v[k]):=by unfold ZbI;rw[List.getD_eq_getElem?_getD,hvk];rfl
 show (fun x0 x1 x2=>Zdw [x0,x1,x2]) _ _ _=_
 rw[ZmR]
 unfold Zas
 rw[hfv]
 by_cases c1:k<n.signals.length
 ·have hd:decide ((k:Int)<(n.signals.length:Int))=true:=by simp only[decide_eq_true_eq];omega
  obtain ⟨row,r1,r2⟩:=Zlz c hs (show k<c.signals.length by omega)
  rw[if_pos c1]
  simp only[Zb1,ePs,List.length_map,hc,p1,q1,Int.toNat_natCast,hx,hse,st,hbo,hd,r1,r2,EVS]
 ·have hd:decide ((k:Int)<(n.signals.length:Int))=false:=by simp only[decide_eq_false_iff_not];omega
  rw[if_neg c1]
  simp only[Zb1,ePs,List.length_map,hc,p1,q1,Int.toNat_natCast,hx,hse,st,hbo,hd,EVS]
theorem ZrS (v:List UInt8) (k:Nat) (hk:k<v.length) (hv:ZA v):Zfm [.str v,pI (k:Int)]=some (.str (ZbI v k)):=by
 have hvk:v[k]?=some v[k]:=List.getElem?_eq_getElem hk
 have hb:Zan (.str v) (.int .i64 (k:Int))=some (pU v[k]):=Zr hvk
 have g1:=Zjy (decide ((v[k].toNat:Int)=48))
 have g2:=Zjz v k (ZfT (decide ((v[k].toNat:Int)=48))) hk hv
 have hfb:ZfT (decide ((v[k].toNat:Int)=48))=flB v[k]:=by
  unfold flB
  have:((v[k].toNat:Int)=48)↔v[k]=48:=by rw[←UInt8.toNat_inj];exact Int.ofNat_inj
  by_cases c:v[k]=48
  ·rw[if_pos c,decide_eq_true (this.2 c)];rfl
  ·rw[if_neg c,decide_eq_false (fun e=>c (this.1 e))];rfl
 show (fun x0 x1=>Zfm [x0,x1]) _ _=_
 rw[ZqF]
 unfold ZbI
 rw[List.getD_eq_getElem?_getD,hvk,Option.getD_some,←hfb]
 simp only[hb,g1,g2,EVS]
end Go.Proofs.YtpceleehbpnchaaGreat
