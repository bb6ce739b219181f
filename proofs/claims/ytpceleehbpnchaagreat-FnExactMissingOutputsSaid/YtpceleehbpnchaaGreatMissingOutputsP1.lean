import Derived.Test.YtpceleehbpnchaaGreatMissingOutputsF
import Derived.Test.YtpceleehbpnchaaGreatData
import Derived.Test.YtpceleehbpnchaaGreatDistPure
import Derived.Test.YtpceleehbpnchaaGreatSysPure
namespace Go.Proofs.YtpceleehbpnchaaGreat
open Go.RowKit
set_option linter.unusedVariables false
set_option linter.unusedSimpArgs false
theorem ZaJ (n lo hi:Int):Zak [pI n,pI lo,pI hi]=some (pB (decide (lo≤n)&&decide (n≤hi))):=by
 show (fun x0 x1 x2=>Zak [x0,x1,x2]) _ _ _=_
 rw[Zyz]
 by_cases h:lo≤n<;>simp only[h,EVS]
def Zz1 (first:Bool) (b:UInt8):Bool:=(decide ((97:Int)≤b.toNat)&&decide ((b.toNat:Int)≤122))||(!first&&(!decide ((b.toNat:Int)<48)&& !decide ((57:Int)<b.toNat)))
def Zkv :Bool→List UInt8→Bool
 |_,[]=>true
 |f,b::r=>Zz1 f b&&Zkv false r
def ZaO (s:List UInt8):Bool:=Zkv true s&&(decide ((1:Int)≤s.length)&&decide ((s.length:Int)≤6))
theorem Zo1 (s:List UInt8) (hs:s.length≤9223372036854775807):ZfI [.str s]=some (pB (ZaO s)):=by
 show (fun x0=>ZfI [x0]) _=_
 rw[ZuV]
 refine (congrArg (Zf true) (ZaP (R:=PV) (fun k:Nat=>[pI (Int.ofNat k)]) (fun k=>s.length+1 - k) (fun k=>some (pB (Zkv (k==0) (s.drop k)&&(decide ((1:Int)≤s.length)&&decide ((s.length:Int)≤6))))) _ (fun again k ih=> ?_) _ 0 (by omega))).trans ?_
 ·by_cases hk:k<s.length
  ·obtain ⟨b,hb⟩:∃b,s[k]?=some b:=⟨s[k],List.getElem?_eq_getElem hk⟩
   have hd:s.drop k=b::s.drop (k+1):=by
    obtain ⟨h1,rfl⟩:=List.getElem?_eq_some_iff.1 hb
    exact List.drop_eq_getElem_cons h1
   have hlt:decide ((k:Int)<s.length)=true:=by simpa using hk
   have hw:IntKind.i64.wrap ((k:Int)+1)=((k+1:Nat):Int):=by rw[Zav (by omega) (by omega)];omega
   have hnext:=ih (k+1) (by omega)
   simp only[Int.ofNat_eq_natCast] at hnext
   have hk0:decide ((k:Int)=0)=(k==0):=by rw[Bool.eq_iff_iff];simp
   rw[hd]
   have hk1:(k+1==0)=false:=rfl
   rw[hk1] at hnext
   have ev1:=hlt
   have ev2:=Zr (k:=.i64) hb
   simp only[Zkv,Zz1,hlt,Zr hb,hk0,hw,hnext,EVS]
   by_cases c1:(97:Int)≤b.toNat
   all_goals simp only[c1,Zr hb,EVS]
   by_cases c2:(b.toNat:Int)≤122
   all_goals try simp only[c2,Zr hb,EVS]
   all_goals try simp only[hk0]
   all_goals try (cases c5:(k==0))
   all_goals try simp only[c5,Zr hb,EVS]
   all_goals try (by_cases c3:(b.toNat:Int)<48)
   all_goals try simp only[c3,Zr hb,EVS]
   all_goals try (by_cases c4:(57:Int)<b.toNat)
   all_goals try simp only[c4,Zr hb,EVS]
  ·have hd:s.drop k=[]:=List.drop_eq_nil_of_le (by omega)
   have hlt:decide ((k:Int)<s.length)=false:=by simpa using hk
   rw[hd]
   simp only[Zkv,hlt,ZaJ,EVS]
 ·simp only[ZaO,List.drop_zero,beq_self_eq_true,EVS]
def Znk (b:UInt8):Bool:=decide ((b.toNat:Int)=48)||decide ((b.toNat:Int)=49)||decide ((b.toNat:Int)=45)
def ZlJ (s:List UInt8):Bool:=ZN (fun _ b=>Znk b) 0 s&&(decide ((1:Int)≤s.length)&&decide ((s.length:Int)≤8))
theorem Ze {α:Type} {l:List α} {k:Nat} {x:α} (h:l[k]?=some x):k<l.length:=(List.getElem?_eq_some_iff.1 h).1
theorem Zi {k n:Nat} (h:k<n) (hn:n≤9223372036854775807):IntKind.i64.wrap ((k:Int)+1)=((k+1:Nat):Int):=by rw[Zav (by omega) (by omega)];omega
theorem Zs {k n:Nat} (h:k<n):decide ((k:Int)<(n:Int))=true:=by simpa using h
theorem ZW {n:Nat}:decide ((n:Int)<(n:Int))=false:=by simp
theorem Zt6 (s:List UInt8) (hs:s.length≤9223372036854775807):Zge [.str s]=some (pB (ZlJ s)):=by
 show (fun x0=>Zge [x0]) _=_
 rw[ZsC]
 refine (congrArg (Zf true) (ZO (R:=PV) s (fun _ b=>Znk b) (some (pB false)) (some (pB (decide ((1:Int)≤s.length)&&decide ((s.length:Int)≤8)))) _ hs (fun again k b hb=> ?_) (fun again=> ?_))).trans ?_
 ·have hk:=Ze hb
  cases c1:decide ((b.toNat:Int)=48)<;>cases c2:decide ((b.toNat:Int)=49)<;>cases c3:decide ((b.toNat:Int)=45)<;>
   simp only[Znk,Zs hk,Zi hk hs,Zr hb,c1,c2,c3,EVS]
 ·simp only[ZW,ZaJ,EVS]
 ·unfold ZlJ
  cases ZN (fun _ b=>Znk b) 0 s<;>simp only[EVS]
abbrev ZD (s:List UInt8×Int):PV:=.agg [.str s.1,pI s.2]
def inR (n lo hi:Int):Bool:=decide (lo≤n)&&decide (n≤hi)
def Zq5 (l:List (List UInt8×Int)) (k:Nat) (s:List UInt8×Int):Bool:=(ZaO s.1&&inR s.2 1 3)&&ZN (fun _ y=> !decide (s.1=y.1)) 0 (l.take k)
def Zkc (l:List (List UInt8×Int)):Bool:=ZN (Zq5 l) 0 l&&inR l.length 1 8
theorem Zq6 (x:List UInt8×Int):Zao 2 (ZD x)=true:=rfl
theorem Zkd (l:List (List UInt8×Int)) (hl:l.length≤9223372036854775807) (hs:∀s∈l,s.1.length≤9223372036854775807):Zdp [.lst (l.map ZD)]=some (pB (Zkc l)):=by
 show (fun x0=>Zdp [x0]) _=_
 rw[ZpK]
 simp only[EVS]
 refine (congrArg (Zf true) (ZO (R:=PV) l (Zq5 l) (some (pB false)) (some (pB (inR l.length 1 8))) _ hl (fun again k s hb=> ?_) (fun again=> ?_))).trans ?_
 ·have hk:=Ze hb
  have hi:Zk (.lst (l.map ZD)) (.int .i64 (k:Int))=some (ZD s):=Zj hb
  have hc:ZnA 2 (.lst (l.map ZD)) none (some (.int .i64 (k:Int)))=some (.lst ((l.take k).map ZD)):=ZnV Zq6 (by omega)
  have hn:=Zo1 s.1 (hs s (List.mem_of_getElem? hb))
  simp only[Zs hk,Zi hk hl,hi,ZD,hn,ZaJ,Zq5,inR,EVS]
  obtain c1|c1:=(Bool.eq_false_or_eq_true (ZaO s.1)).symm<;>simp only[c1,ZaJ,EVS]
  obtain c2|c2:=(Bool.eq_false_or_eq_true (decide (1≤s.2)&&decide (s.2≤3))).symm<;>simp only[c2,EVS]
  simp only[hc,EVS]
  refine (ZO (R:=PV) (l.take k) (fun _ y=> !decide (s.1=y.1)) (some (pB false)) (again [pI ((k+1:Nat):Int)]) _ (by simp;omega) (fun again' j y hy=> ?_) (fun again'=> ?_)).trans ?_
  ·have hj:=Ze hy
   have hi':Zk (.lst ((l.take k).map ZD)) (.int .i64 (j:Int))=some (ZD y):=Zj hy
   simp only[Zs hj,Zi hj (by simp;omega),hi',ZD,EVS]
   cases c3:decide (s.1=y.1)<;>simp only[c3,EVS]
  ·simp only[ZW,Zi hk hl,EVS]
  ·rfl
 ·simp only[ZW,ZaJ,inR,EVS]
 ·unfold Zkc
  cases ZN (Zq5 l) 0 l<;>simp only[EVS]
def Zn5 (n:Int) (l:List (List UInt8)):Bool:=ZN (fun _ c=>ZlJ c&&decide ((c.length:Int)=n)) 0 l
def Zo2 (n:Int) (l:List (List UInt8)):Bool:=Zn5 n l&&(inR n 1 8&&decide ((l.length:Int)≤60))
theorem Zt7 (n:Int) (l:List (List UInt8)) (hl:l.length≤9223372036854775807) (hs:∀s∈l,s.length≤9223372036854775807):Zgf [pI n,.lst (l.map PV.str)]=some (pB (Zo2 n l)):=by
 show (fun x0 x1=>Zgf [x0,x1]) _ _=_
 rw[ZsE]
 simp only[EVS]
 refine (congrArg (Zf true) (ZO (R:=PV) l (fun _ c=>ZlJ c&&decide ((c.length:Int)=n)) (some (pB false)) (some (pB (inR n 1 8&&decide ((l.length:Int)≤60)))) _ hl (fun again k s hb=> ?_) (fun again=> ?_))).trans ?_
 ·have hk:=Ze hb
  have hi:Zk (.lst (l.map PV.str)) (.int .i64 (k:Int))=some (.str s):=Zj hb
  have hn:=Zt6 s (hs s (List.mem_of_getElem? hb))
  simp only[Zs hk,Zi hk hl,hi,hn,EVS]
  obtain c1|c1:=(Bool.eq_false_or_eq_true (ZlJ s)).symm<;>simp only[c1,EVS]
  obtain c2|c2:=(Bool.eq_false_or_eq_true (decide ((s.length:Int)=n))).symm<;>simp only[c2,EVS]
 ·simp only[ZW,ZaJ,inR,EVS]
  obtain c1|c1:=(Bool.eq_false_or_eq_true (decide (1≤n)&&decide (n≤8))).symm<;>simp only[c1,EVS]
 ·unfold Zo2 Zn5
  cases ZN (fun _ c=>ZlJ c&&decide ((c.length:Int)=n)) 0 l<;>simp only[EVS]
structure PWire where
 name:List UInt8
 kind:Int
 ins:List (Int×Bool)
 cover:List (List UInt8)
structure PNet where
 signals:List (List UInt8×Int)
 wires:List PWire
abbrev Zac (p:Int×Bool):PV:=.agg [pI p.1,pB p.2]
abbrev Zo (w:PWire):PV:=.agg [.str w.name,pI w.kind,.lst (w.ins.map Zac),.lst (w.cover.map PV.str)]
abbrev Zp (n:PNet):PV:=.agg [.lst (n.signals.map ZD),.lst (n.wires.map Zo)]
abbrev ZA {α:Type} (l:List α):Prop:=l.length≤9223372036854775807
structure PWire.Fit (w:PWire):Prop where
 name:ZA w.name
 ins:ZA w.ins
 cover:ZA w.cover
 cubes:∀c∈w.cover,ZA c
structure PNet.Fit (n:PNet):Prop where
 signals:ZA n.signals
 names:∀s∈n.signals,ZA s.1
 wires:ZA n.wires
 wire:∀w∈n.wires,w.Fit
def ZiI (n:PNet) (k:Nat) (p:Int×Bool):Bool:=inR p.1 0 ((n.wires.length:Int) - 1)&& !(decide ((n.signals.length:Int)≤k)&&decide ((k:Int)≤p.1))
def Zf2 (k:Nat) (kind:Int) (ins:List (Int×Bool)):Bool:=
 if decide (kind=1)=true then decide ((ins.length:Int)=0)
 else if decide (kind=4)=true then decide ((ins.length:Int)=2)
 else if decide (kind=5)=true then decide ((ins.length:Int)=0)||(match ins with|[p]=>decide (p.1=k)&& !p.2|_=>false)
 else inR ins.length 1 8
def Zq7 (n:PNet) (k:Nat) (w:PWire):Bool:=ZN (fun _ p=>ZiI n k p) 0 w.ins&&Zf2 k w.kind w.ins
theorem Zt8 (n:PNet) (k:Nat) (w:PWire) (hn:n.Fit) (hw:w.Fit):Zgg [Zp n,pI k,Zo w]=some (pB (Zq7 n k w)):=by
 show (fun x0 x1 x2=>Zgg [x0,x1,x2]) _ _ _=_
 rw[ZsG]
 simp only[Zp,Zo,EVS]
 have hwl:IntKind.i64.wrap ((n.wires.length:Int) - 1)=(n.wires.length:Int) - 1:=Zav (by omega) (by have:=hn.wires;unfold ZA at this;omega)
 have hi0:=hw.ins
 unfold ZA at hi0
 refine (congrArg (Zf true) (ZO (R:=PV) w.ins (fun _ p=>ZiI n k p) (some (pB false)) (some (pB (Zf2 k w.kind w.ins))) _ hi0 (fun again j p hb=> ?_) (fun again=> ?_))).trans ?_
 ·have hk:=Ze hb
  have hi:Zk (.lst (w.ins.map Zac)) (.int .i64 (j:Int))=some (Zac p):=Zj hb
  simp only[Zs hk,Zi hk hi0,hi,Zac,hwl,ZaJ,ZiI,inR,EVS]
  obtain c1|c1:=(Bool.eq_false_or_eq_true (decide (0≤p.1)&&decide (p.1≤(n.wires.length:Int) - 1))).symm<;>simp only[c1,EVS]
  obtain c2|c2:=(Bool.eq_false_or_eq_true (decide ((n.signals.length:Int)≤(k:Int)))).symm<;>simp only[c2,EVS]
  obtain c3|c3:=(Bool.eq_false_or_eq_true (decide ((k:Int)≤p.1))).symm<;>simp only[c3,EVS]
 ·simp only[ZW,Zf2,EVS]
  obtain c1|c1:=(Bool.eq_false_or_eq_true (decide (w.kind=1))).symm<;>simp only[c1,EVS]
  obtain c2|c2:=(Bool.eq_false_or_eq_true (decide (w.kind=4))).symm<;>simp only[c2,EVS]
  obtain c3|c3:=(Bool.eq_false_or_eq_true (decide (w.kind=5))).symm<;>simp only[c3,ZaJ,inR,EVS]
  have h01:decide ((0:Int)=1)=false:=rfl
  have h00:decide ((0:Int)=0)=true:=rfl
  have h11:decide ((1:Int)=1)=true:=rfl
  have h10:decide ((1:Int)=0)=false:=rfl
  rcases hq:w.ins with _|⟨p,_|⟨q,r⟩⟩
  ·simp only[List.length_nil,h00,EVS]
  ·have hi:Zk (.lst ([p].map Zac)) (.int .i64 0)=some (Zac p):=rfl
   simp only[List.length_cons,List.length_nil,Nat.zero_add,h11,h10,hi,Zac,List.drop_zero,List.drop_succ_cons,EVS]
   obtain c4|c4:=(Bool.eq_false_or_eq_true (decide (p.1=(k:Int)))).symm<;>simp only[c4,h11,h10,hi,Zac,List.drop_zero,List.drop_succ_cons,EVS]
  ·have h2:decide (((r.length+1+1:Nat):Int)=0)=false:=by simp;omega
   have h3:decide (((r.length+1+1:Nat):Int)=1)=false:=by simp;omega
   simp only[List.length_cons,h2,h3,EVS]
 ·unfold Zq7
  cases ZN (fun _ p=>ZiI n k p) 0 w.ins<;>simp only[EVS]
def ZgR (n:PNet) (k:Nat) (w:PWire):Bool:=match n.signals[k]? with|some s=>decide (w.name=s.1)&&(decide (w.kind=1)==decide (s.2=1))|none=>false
def ZlK (n:PNet) (k:Nat) (w:PWire):Bool:=
 let seen:=decide ((k:Int)<(n.signals.length:Int))
 (inR w.kind 1 5&&(seen||decide (w.kind=2)||decide (w.kind=3)))&&(!seen||ZgR n k w)&&(if decide (w.kind=5)=true then Zo2 n.signals.length w.cover else !decide ((0:Int)<w.cover.length))&&(ZaO w.name&&Zq7 n k w)
theorem Zt9 (n:PNet) (k:Nat) (w:PWire) (hn:n.Fit) (hw:w.Fit):Zgh [Zp n,pI k,Zo w]=some (pB (ZlK n k w)):=by
 have g1:=Zt7 n.signals.length w.cover hw.cover hw.cubes
 have g2:=Zo1 w.name hw.name
 have g3:=Zt8 n k w hn hw
 have g4:=ZaJ w.kind 1 5
 simp only[Zp,Zo] at g3
 show (fun x0 x1 x2=>Zgh [x0,x1,x2]) _ _ _=_
 rw[ZsI]
 simp only[Zp,Zo,g4,EVS]
 have fin:∀b:Bool,((some (pB (ZaO w.name&&b))))=(some (pB (ZaO w.name&&b))):=fun _=>rfl
 simp only[ZlK,inR]
 obtain c1|c1:=(Bool.eq_false_or_eq_true (decide (1≤w.kind)&&decide (w.kind≤5))).symm<;>simp only[c1,EVS]
 obtain c2|c2:=(Bool.eq_false_or_eq_true (decide ((k:Int)<(n.signals.length:Int)))).symm<;>simp only[c2,EVS]
 ·obtain c3|c3:=(Bool.eq_false_or_eq_true (decide (w.kind=2))).symm<;>simp only[c3,EVS]
  ·obtain c4|c4:=(Bool.eq_false_or_eq_true (decide (w.kind=3))).symm<;>simp only[c4,EVS]
   have c5:decide (w.kind=5)=false:=by have:=of_decide_eq_true c4;simp;omega
   simp only[c5,EVS]
   obtain c6|c6:=(Bool.eq_false_or_eq_true (decide ((0:Int)<w.cover.length))).symm<;>simp only[c6,g2,EVS]
   obtain c7|c7:=(Bool.eq_false_or_eq_true (ZaO w.name)).symm<;>simp only[c7,g3,EVS]
  ·have c4:decide (w.kind=3)=false:=by have:=of_decide_eq_true c3;simp;omega
   have c5:decide (w.kind=5)=false:=by have:=of_decide_eq_true c3;simp;omega
   simp only[c4,c5,EVS]
   obtain c6|c6:=(Bool.eq_false_or_eq_true (decide ((0:Int)<w.cover.length))).symm<;>simp only[c6,g2,EVS]
   obtain c7|c7:=(Bool.eq_false_or_eq_true (ZaO w.name)).symm<;>simp only[c7,g3,EVS]
 ·have hk:k<n.signals.length:=by have:=of_decide_eq_true c2;omega
  have hs:n.signals[k]?=some n.signals[k]:=List.getElem?_eq_getElem hk
  have hi:Zk (.lst (n.signals.map ZD)) (.int .i64 (k:Int))=some (ZD n.signals[k]):=Zj hs
  simp only[ZgR,hs,hi,ZD,List.drop_zero,List.drop_succ_cons,EVS]
  obtain c3|c3:=(Bool.eq_false_or_eq_true (decide (w.name=n.signals[k].1))).symm<;>simp only[c3,hi,ZD,List.drop_zero,List.drop_succ_cons,EVS]
  obtain c4|c4:=(Bool.eq_false_or_eq_true (decide (w.kind=1)==decide (n.signals[k].2=1))).symm<;>simp only[bne,c4,hi,ZD,List.drop_zero,List.drop_succ_cons,EVS]
  obtain c5|c5:=(Bool.eq_false_or_eq_true (decide (w.kind=5))).symm<;>simp only[c5,g1,g2,EVS]
  ·obtain c6|c6:=(Bool.eq_false_or_eq_true (decide ((0:Int)<w.cover.length))).symm<;>simp only[c6,g2,EVS]
   obtain c7|c7:=(Bool.eq_false_or_eq_true (ZaO w.name)).symm<;>simp only[c7,g3,EVS]
  ·obtain c6|c6:=(Bool.eq_false_or_eq_true (Zo2 n.signals.length w.cover)).symm<;>simp only[c5,c6,g2,EVS]
   obtain c7|c7:=(Bool.eq_false_or_eq_true (ZaO w.name)).symm<;>simp only[c5,c7,g3,EVS]
def ZbJ (n:PNet) (k:Nat) (w:PWire):Bool:=ZlK n k w&&ZN (fun _ v=> !decide (v.name=w.name)) 0 (n.wires.take k)
def Zdi (n:PNet):Bool:=Zkc n.signals&&(!decide ((n.wires.length:Int)<n.signals.length)&& !decide ((24:Int)<n.wires.length))&&ZN (ZbJ n) 0 n.wires
theorem Zo3 (x:PWire):Zao 4 (Zo x)=true:=rfl
theorem Znl (n:PNet) (hn:n.Fit):ZeP [Zp n]=some (pB (Zdi n)):=by
 have g1:=Zkd n.signals hn.signals hn.names
 have hwl:=hn.wires
 unfold ZA at hwl
 show (fun x0=>ZeP [x0]) _=_
 rw[ZsJ]
 simp only[Zp,g1,EVS]
 unfold Zdi
 obtain c1|c1:=(Bool.eq_false_or_eq_true (Zkc n.signals)).symm<;>simp only[c1,EVS]
 obtain c2|c2:=(Bool.eq_false_or_eq_true (decide ((n.wires.length:Int)<n.signals.length))).symm<;>simp only[c2,EVS]
 obtain c3|c3:=(Bool.eq_false_or_eq_true (decide ((24:Int)<n.wires.length))).symm<;>simp only[c3,EVS]
 refine (congrArg (Zf true) (ZO (R:=PV) n.wires (ZbJ n) (some (pB false)) (some (pB true)) _ hwl (fun again k w hb=> ?_) (fun again=> ?_))).trans ?_
 ·have hk:=Ze hb
  have hi:Zk (.lst (n.wires.map Zo)) (.int .i64 (k:Int))=some (Zo w):=Zj hb
  have hc:ZnA 4 (.lst (n.wires.map Zo)) none (some (.int .i64 (k:Int)))=some (.lst ((n.wires.take k).map Zo)):=ZnV Zo3 (by omega)
  have g3:=Zt9 n k w hn (hn.wire w (List.mem_of_getElem? hb))
  simp only[Zp,Zo] at g3
  simp only[Zs hk,Zi hk hwl,hi,Zo,ZbJ,g3,EVS]
  obtain c4|c4:=(Bool.eq_false_or_eq_true (ZlK n k w)).symm<;>simp only[c4,hc,EVS]
  refine (ZO (R:=PV) (n.wires.take k) (fun _ v=> !decide (v.name=w.name)) (some (pB false)) (again [pI ((k+1:Nat):Int)]) _ (by simp;omega) (fun again' j y hy=> ?_) (fun again'=> ?_)).trans ?_
  ·have hj:=Ze hy
   have hi':Zk (.lst ((n.wires.take k).map Zo)) (.int .i64 (j:Int))=some (Zo y):=Zj hy
   simp only[Zs hj,Zi hj (by simp;omega),hi',Zo,EVS]
   obtain c5|c5:=(Bool.eq_false_or_eq_true (decide (y.name=w.name))).symm<;>simp only[c5,EVS]
  ·simp only[ZW,Zi hk hwl,EVS]
  ·rfl
 ·simp only[ZW,EVS]
 ·cases ZN (ZbJ n) 0 n.wires<;>simp only[EVS]
theorem Zah (n lo hi:Int):Z7 [pI n,pI lo,pI hi]=some (pB (inR n lo hi)):=by
 show (fun x0 x1 x2=>Z7 [x0,x1,x2]) _ _ _=_
 rw[Zus]
 unfold inR
 by_cases h:lo≤n<;>simp only[h,EVS]
def ZmC (k:Nat) (b:UInt8):Bool:=(decide ((97:Int)≤b.toNat)&&decide ((b.toNat:Int)≤122))||(!decide ((k:Int)=0)&&(decide ((48:Int)≤b.toNat)&&decide ((b.toNat:Int)≤57)))
def Zr9 (s:List UInt8):Bool:=ZN ZmC 0 s&&inR s.length 1 6
theorem ZvZ (s:List UInt8) (hs:s.length≤9223372036854775807):Zee [.str s]=some (pB (Zr9 s)):=by
 show (fun x0=>Zee [x0]) _=_
 rw[Zuv]
 refine (congrArg (Zf true) (ZO (R:=PV) s ZmC (some (pB false)) (some (pB (inR s.length 1 6))) _ hs (fun again k b hb=> ?_) (fun again=> ?_))).trans ?_
 ·have hk:=Ze hb
  simp only[ZmC,Zs hk,Zi hk hs,Zr hb,EVS]
  obtain c1|c1:=(Bool.eq_false_or_eq_true (decide ((97:Int)≤b.toNat))).symm<;>simp only[c1,Zr hb,EVS]
  all_goals (obtain c2|c2:=(Bool.eq_false_or_eq_true (decide ((b.toNat:Int)≤122))).symm<;>try simp only[c2,Zr hb,EVS])
  all_goals (obtain c3|c3:=(Bool.eq_false_or_eq_true (decide ((48:Int)≤b.toNat))).symm<;>try simp only[c3,Zr hb,EVS])
  all_goals (obtain c4|c4:=(Bool.eq_false_or_eq_true (decide ((b.toNat:Int)≤57))).symm<;>try simp only[c4,Zr hb,EVS])
  all_goals (obtain c5|c5:=(Bool.eq_false_or_eq_true (decide ((k:Int)=0))).symm<;>try simp only[c5,EVS])
 ·simp only[ZW,Zah,EVS]
 ·unfold Zr9
  cases ZN ZmC 0 s<;>simp only[EVS]
theorem Zo4 :∀(l:List UInt8) (k:Nat),Zkv (k==0) l=ZN ZmC k l
 |[],_=>rfl
 | b::r,k=>by
  have h:=Zo4 r (k+1)
  have h1:(k+1==0)=false:=rfl
  rw[h1] at h
  unfold Zkv ZN
  rw[h]
  congr 1
  unfold Zz1 ZmC
  have e1:decide ((48:Int)≤b.toNat)= !decide ((b.toNat:Int)<48):=by rw[Bool.eq_iff_iff];simp
  have e2:decide ((b.toNat:Int)≤57)= !decide ((57:Int)<b.toNat):=by rw[Bool.eq_iff_iff];simp
  have e3:decide ((k:Int)=0)=(k==0):=by rw[Bool.eq_iff_iff];simp
  rw[e1,e2,e3]
theorem ZAT (s:List UInt8):ZaO s=Zr9 s:=by
 unfold ZaO Zr9 inR
 rw[←Zo4 s 0]
 rfl
theorem Znm (s:List UInt8) (hs:s.length≤9223372036854775807):Zee [.str s]=some (pB (ZaO s)):=(ZvZ s hs).trans (by rw[ZAT])
def Zgt (s:List UInt8) (n:Int):Bool:=ZN (fun _ b=>Znk b) 0 s&&(decide ((s.length:Int)=n)&&inR n 1 8)
theorem Zv0 (s:List UInt8) (n:Int) (hs:s.length≤9223372036854775807):ZhI [.str s,pI n]=some (pB (Zgt s n)):=by
 show (fun x0 x1=>ZhI [x0,x1]) _ _=_
 rw[Zux]
 refine (congrArg (Zf true) (ZO (R:=PV) s (fun _ b=>Znk b) (some (pB false)) (some (pB (decide ((s.length:Int)=n)&&inR n 1 8))) _ hs (fun again k b hb=> ?_) (fun again=> ?_))).trans ?_
 ·have hk:=Ze hb
  simp only[Znk,Zs hk,Zi hk hs,Zr hb,EVS]
  obtain c1|c1:=(Bool.eq_false_or_eq_true (decide ((b.toNat:Int)=48))).symm<;>simp only[c1,Zr hb,EVS]
  obtain c2|c2:=(Bool.eq_false_or_eq_true (decide ((b.toNat:Int)=49))).symm<;>simp only[c2,Zr hb,EVS]
  obtain c3|c3:=(Bool.eq_false_or_eq_true (decide ((b.toNat:Int)=45))).symm<;>simp only[c3,Zr hb,EVS]
 ·simp only[ZW,EVS]
  obtain c1|c1:=(Bool.eq_false_or_eq_true (decide ((s.length:Int)=n))).symm<;>simp only[c1,Zah,EVS]
 ·unfold Zgt
  cases ZN (fun _ b=>Znk b) 0 s<;>simp only[EVS]
def ixf {α:Type} (q:α→Bool):Nat→List α→Int
 |_,[]=> -1
 |k,x::r=>if q x=true then (k:Int) else ixf q (k+1) r
theorem Zxz {α:Type} (q:α→Bool):∀(l:List α) (k:Nat),rgo (fun k x=>if q x=true then some (some (pI (k:Int))) else none) (some (pI (-1))) k l=some (pI (ixf q k l))
 |[],k=>rfl
 | x::r,k=>by
  unfold rgo ixf
  cases q x
  ·simp[Zxz q r (k+1)]
  ·simp
theorem ZeT {α:Type} (q:α→Bool):∀(l:List α) (k:Nat),decide ((0:Int)≤ixf q k l)= !ZN (fun _ x=> !q x) k l
 |[],k=>rfl
 | x::r,k=>by
  unfold ixf ZN
  cases q x
  ·simp[ZeT q r (k+1)]
  ·simp
theorem ZcY {α:Type} (l:List α) (q:α→Bool) (f:(List PV→Option PV)→List PV→Option PV) (hl:l.length≤9223372036854775807)
 (h1:∀again k x,l[k]?=some x→f again [pI (Int.ofNat k)]=if q x=true then some (pI (k:Int)) else again [pI (Int.ofNat (k+1))])
 (h2:∀again,f again [pI (Int.ofNat l.length)]=some (pI (-1))):Zm f 18446744073709551616 [pI (Int.ofNat 0)]=some (pI (ixf q 0 l)):=by
 rw[Zro l (fun k x=>if q x=true then some (some (pI (k:Int))) else none) (some (pI (-1))) f hl (fun again k x hx=> ?_) h2,Zxz]
 rw[h1 again k x hx]
 cases q x<;>simp
theorem Znn (l:List PV):Zbs 1 (.tup [.agg l])=some [.agg l]:=by simp[Zbs,PV.parts,PV.isU]
theorem ZmD (a x:List UInt8×Int):Zc2 [ZD a,ZD x]=some (pB (decide (a.1=x.1))):=by
 show (fun x0 x1=>Zc2 [x0,x1]) _ _=_
 rw[ZlY]
 simp only[ZD,List.drop_zero,EVS]
theorem ZbZ (l:List (List UInt8×Int)) (x:List UInt8×Int) (hl:ZA l):ZG [.lst (l.map ZD),.tup [ZD x]]=some (pI (ixf (fun a=>decide (a.1=x.1)) 0 l)):=by
 show (fun x0 x1=>ZG [x0,x1]) _ _=_
 rw[ZbS]
 unfold ZA at hl
 simp only[EVS]
 refine (congrArg (Zf true) (ZcY l (fun a=>decide (a.1=x.1)) _ hl (fun again k a hb=> ?_) (fun again=> ?_))).trans ?_
 ·have hk:=Ze hb
  have hi:Zk (.lst (l.map ZD)) (.int .i64 (k:Int))=some (ZD a):=Zj hb
  have g:=ZmD a x
  simp only[ZD] at g
  simp only[Zs hk,Zi hk hl,hi,ZD,Znn,List.cons_append,List.nil_append,g,EVS]
 ·simp only[ZW,EVS]
  rfl
 ·simp only[EVS]
theorem Zbt (l:List (List UInt8×Int)) (x:List UInt8×Int) (hl:ZA l):Zx [.lst (l.map ZD),.tup [ZD x]]=some (pB (!ZN (fun _ a=> !decide (a.1=x.1)) 0 l)):=by
 show (fun x0 x1=>Zx [x0,x1]) _ _=_
 rw[Zbm]
 simp only[ZbZ l x hl,ZeT (fun a:List UInt8×Int=>decide (a.1=x.1)) l 0,EVS]
theorem Zp9 (p:Int×Bool) (n:Nat) (hn:n≤9223372036854775807):Zet [Zac p,.agg [pI n]]=some (pB (!inR p.1 0 ((n:Int) - 1))):=by
 have hwl:IntKind.i64.wrap ((n:Int) - 1)=(n:Int) - 1:=Zav (by omega) (by omega)
 show (fun x0 x1=>Zet [x0,x1]) _ _=_
 rw[Zpv]
 simp only[Zac,hwl,Zah,EVS]
theorem ZcZ (l:List (Int×Bool)) (n:Nat) (hn:n≤9223372036854775807) (hl:ZA l):Z0 [.lst (l.map Zac),.tup [.agg [pI n]]]=some (pI (ixf (fun p=> !inR p.1 0 ((n:Int) - 1)) 0 l)):=by
 show (fun x0 x1=>Z0 [x0,x1]) _ _=_
 rw[ZcM]
 unfold ZA at hl
 simp only[EVS]
 refine (congrArg (Zf true) (ZcY l (fun p=> !inR p.1 0 ((n:Int) - 1)) _ hl (fun again k a hb=> ?_) (fun again=> ?_))).trans ?_
 ·have hk:=Ze hb
  have hi:Zk (.lst (l.map Zac)) (.int .i64 (k:Int))=some (Zac a):=Zj hb
  have g:=Zp9 a n hn
  simp only[Zac] at g
  simp only[Zs hk,Zi hk hl,hi,Zac,Znn,List.cons_append,List.nil_append,g,EVS]
 ·simp only[ZW,EVS]
  rfl
 ·simp only[EVS]
def Zc9 (l:List (Int×Bool)) (n:Nat):Bool:=ZN (fun _ p=>inR p.1 0 ((n:Int) - 1)) 0 l
theorem Zno (l:List (Int×Bool)) (n:Nat) (hn:n≤9223372036854775807) (hl:ZA l):ZeO [.lst (l.map Zac),pI n]=some (pB (Zc9 l n)):=by
 have g:ZM [.lst (l.map Zac),.tup [.agg [pI n]]]=some (pB (!ZN (fun _ p=>inR p.1 0 ((n:Int) - 1)) 0 l)):=by
  show (fun x0 x1=>ZM [x0,x1]) _ _=_
  rw[Zcn]
  simp only[ZcZ l n hn hl,ZeT (fun p:Int×Bool=> !inR p.1 0 ((n:Int) - 1)) l 0,Bool.not_not,EVS]
 show (fun x0 x1=>ZeO [x0,x1]) _ _=_
 rw[Zss]
 have lt:∀{R:Type} (l:List PV) (x:Option R),Za [.tup l] x=x:=fun l x=>(Eq.refl _).trans (Eq.refl _)
 simp only[lt,g,List.drop_zero,Bool.not_not,Zc9,EVS]
theorem Zsa (w:PWire) (x:List UInt8):Zfe [Zo w,.agg [.str x]]=some (pB (decide (w.name=x))):=by
 show (fun x0 x1=>Zfe [x0,x1]) _ _=_
 rw[Zqq]
 simp only[Zo,List.drop_zero,EVS]
theorem Zv1 (l:List PWire) (x:List UInt8) (hl:ZA l):ZhG [.lst (l.map Zo),.str x]=some (pI (ixf (fun w:PWire=>decide (w.name=x)) 0 l)):=by
 unfold ZA at hl
 have g:Z1 [.lst (l.map Zo),.tup [.agg [.str x]]]=some (pI (ixf (fun w:PWire=>decide (w.name=x)) 0 l)):=by
  show (fun x0 x1=>Z1 [x0,x1]) _ _=_
  rw[ZcO]
  simp only[EVS]
  refine (congrArg (Zf true) (ZcY l (fun w:PWire=>decide (w.name=x)) _ hl (fun again k a hb=> ?_) (fun again=> ?_))).trans ?_
  ·have hk:=Ze hb
   have hi:Zk (.lst (l.map Zo)) (.int .i64 (k:Int))=some (Zo a):=Zj hb
   have g:=Zsa a x
   simp only[Zo] at g
   simp only[Zs hk,Zi hk hl,hi,Zo,Znn,List.cons_append,List.nil_append,g,EVS]
  ·simp only[ZW,EVS]
   rfl
  ·simp only[EVS]
 show (fun x0 x1=>ZhG [x0,x1]) _ _=_
 rw[Zuu]
 have lt:∀{R:Type} (l:List PV) (x:Option R),Za [.tup l] x=x:=fun l x=>(Eq.refl _).trans (Eq.refl _)
 simp only[lt,g,List.drop_zero,Bool.not_not,EVS]
theorem Zkw (c:List UInt8) (n:Int) (hc:ZA c):Zcb [.str c,.agg [pI n]]=some (pB (!Zgt c n)):=by
 show (fun x0 x1=>Zcb [x0,x1]) _ _=_
 rw[ZjZ]
 simp only[Zv0 c n hc,EVS]
theorem Zbx (l:List (List UInt8)) (n:Int) (hl:ZA l) (hc:∀c∈l,ZA c):Zy [.lst (l.map PV.str),.tup [.agg [pI n]]]=some (pI (ixf (fun c:List UInt8=> !Zgt c n) 0 l)):=by
 unfold ZA at hl
 show (fun x0 x1=>Zy [x0,x1]) _ _=_
 rw[Zbw]
 simp only[EVS]
 refine (congrArg (Zf true) (ZcY l (fun c:List UInt8=> !Zgt c n) _ hl (fun again k a hb=> ?_) (fun again=> ?_))).trans ?_
 ·have hk:=Ze hb
  have hi:Zk (.lst (l.map PV.str)) (.int .i64 (k:Int))=some (.str a):=Zj hb
  have g:=Zkw a n (hc a (List.mem_of_getElem? hb))
  simp only[Zs hk,Zi hk hl,hi,Znn,List.cons_append,List.nil_append,g,EVS]
 ·simp only[ZW,EVS]
  rfl
 ·simp only[EVS]
theorem eqPin (a c:Int) (b d:Bool):eqV (some [(0,TD.int .i64),(1,TD.bool)]) .struct (.agg [pI a,pB b]) (.agg [pI c,pB d])=some (decide (a=c)&&(b==d)):=by
 simp[eqV,Zog,scEq,Zgo]
theorem ZAU :ZC.bool.pv=pB false:=(Eq.refl _).trans (Eq.refl _)
theorem sp12 (a b c:PV):splice [a,b] 0 [c]=[c,b]:=(Eq.refl _).trans (Eq.refl _)
def Zgu (n:Int) (l:List (List UInt8)):Bool:=(inR n 1 8&&decide ((l.length:Int)≤60))&&ZN (fun _ c=>Zgt c n) 0 l
def Zfz (n:PNet) (k:Nat) (w:PWire):Bool:=
 if decide (w.kind=1)=true then decide ((w.ins.length:Int)=0)
 else if (decide (w.kind=2)||decide (w.kind=3))=true then inR w.ins.length 1 8
 else if decide (w.kind=4)=true then decide ((w.ins.length:Int)=2)
 else if decide (w.kind=5)=true then Zgu n.signals.length w.cover&&(decide ((w.ins.length:Int)=0)||(match w.ins with|[p]=>decide (p.1=(k:Int))&&(p.2==false)|_=>false))
 else false
def Zua (n:PNet) (k:Nat) (w:PWire):Bool:= !((!decide (w.kind=5)&&decide ((0:Int)<w.cover.length))|| !Zc9 w.ins n.wires.length)&&Zfz n k w
theorem Zv2 (h160:∀(n:Int) (l:List (List UInt8)),ZA l→(∀c∈l,ZA c)→ZbQ [pI n,.lst (l.map PV.str)]=some (pB (Zgu n l))) (n:PNet) (k:Nat) (w:PWire) (hn:n.Fit) (hk:n.wires[k]?=some w):ZhJ [Zp n,pI k]=some (pB (Zua n k w)):=by
 have hw:=hn.wire w (List.mem_of_getElem? hk)
 have g1:=h160 n.signals.length w.cover hw.cover hw.cubes
 have hwl:=hn.wires
 unfold ZA at hwl
 have g2:=Zno w.ins n.wires.length hwl hw.ins
 have hi:Zk (.lst (n.wires.map Zo)) (.int .i64 (k:Int))=some (Zo w):=Zj hk
 show (fun x0 x1=>ZhJ [x0,x1]) _ _=_
 rw[Zuz]
 simp only[Zp,hi,Zo,EVS]
 unfold Zua
 obtain c1|c1:=(Bool.eq_false_or_eq_true (!decide (w.kind=5))).symm<;>simp only[c1,g2,EVS]
 ·obtain c2|c2:=(Bool.eq_false_or_eq_true (Zc9 w.ins n.wires.length)).symm<;>simp only[c1,c2,g2,EVS]
  have c5:decide (w.kind=5)=true:=by simpa using c1
  have e1:decide (w.kind=1)=false:=by have:=of_decide_eq_true c5;simp;omega
  have e2:decide (w.kind=2)=false:=by have:=of_decide_eq_true c5;simp;omega
  have e3:decide (w.kind=3)=false:=by have:=of_decide_eq_true c5;simp;omega
  have e4:decide (w.kind=4)=false:=by have:=of_decide_eq_true c5;simp;omega
  simp only[ZeG,Zfz,e1,e2,e3,e4,c5,g1,EVS]
  obtain c3|c3:=(Bool.eq_false_or_eq_true (Zgu n.signals.length w.cover)).symm<;>simp only[c3,EVS]
  have h01:decide ((0:Int)=1)=false:=rfl
  have h00:decide ((0:Int)=0)=true:=rfl
  have h11:decide ((1:Int)=1)=true:=rfl
  have h10:decide ((1:Int)=0)=false:=rfl
  rcases hq:w.ins with _|⟨p,_|⟨q,r⟩⟩
  ·simp only[List.length_nil,h00,EVS]
  ·have hi:Zk (.lst ([p].map Zac)) (.int .i64 0)=some (Zac p):=rfl
   simp only[List.length_cons,List.length_nil,Nat.zero_add,h11,h10,hi,Zac,ZAU,sp12,eqPin,List.drop_zero,List.drop_succ_cons,EVS]
  ·have h2:decide (((r.length+1+1:Nat):Int)=0)=false:=by simp;omega
   have h3:decide (((r.length+1+1:Nat):Int)=1)=false:=by simp;omega
   simp only[List.length_cons,h2,h3,EVS]
 ·have c5:decide (w.kind=5)=false:=by simpa using c1
  obtain c2|c2:=(Bool.eq_false_or_eq_true (decide ((0:Int)<w.cover.length))).symm<;>simp only[c1,c2,g2,EVS]
  obtain c3|c3:=(Bool.eq_false_or_eq_true (Zc9 w.ins n.wires.length)).symm<;>simp only[c3,EVS]
  simp only[ZeG,Zfz,c5,EVS]
  obtain e1|e1:=(Bool.eq_false_or_eq_true (decide (w.kind=1))).symm<;>simp only[e1,EVS]
  obtain e2|e2:=(Bool.eq_false_or_eq_true (decide (w.kind=2))).symm<;>simp only[e2,Zah,EVS]
  obtain e3|e3:=(Bool.eq_false_or_eq_true (decide (w.kind=3))).symm<;>simp only[e3,Zah,EVS]
  obtain e4|e4:=(Bool.eq_false_or_eq_true (decide (w.kind=4))).symm<;>simp only[e4,EVS]
theorem ZmE (n:Int) (l:List (List UInt8)) (hl:ZA l) (hc:∀c∈l,ZA c):ZbQ [pI n,.lst (l.map PV.str)]=some (pB (Zgu n l)):=by
 have g:Zt [.lst (l.map PV.str),.tup [.agg [pI n]]]=some (pB (!ZN (fun _ c=>Zgt c n) 0 l)):=by
  show (fun x0 x1=>Zt [x0,x1]) _ _=_
  rw[Za9]
  simp only[Zbx l n hl hc,ZeT (fun c:List UInt8=> !Zgt c n) l 0,Bool.not_not,EVS]
 show (fun x0 x1=>ZbQ [x0,x1]) _ _=_
 rw[ZlW]
 simp only[Zah,Zip,List.drop_zero,Zgu,EVS]
 obtain c1|c1:=(Bool.eq_false_or_eq_true (inR n 1 8)).symm<;>simp only[c1,EVS]
 obtain c2|c2:=(Bool.eq_false_or_eq_true (decide ((l.length:Int)≤60))).symm<;>simp only[c2,Zip,g,Bool.not_not,EVS]
def ZmF (l:List (List UInt8×Int)) (k:Nat) (s:List UInt8×Int):Bool:=(ZaO s.1&&inR s.2 1 3)&&ZN (fun _ a=> !decide (a.1=s.1)) 0 (l.take k)
def Zq8 (l:List (List UInt8×Int)):Bool:=ZN (ZmF l) 0 l&&inR l.length 1 8
theorem ZiJ (l:List (List UInt8×Int)) (hl:ZA l) (hs:∀s∈l,ZA s.1):ZcP [.lst (l.map ZD)]=some (pB (Zq8 l)):=by
 unfold ZA at hl
 show (fun x0=>ZcP [x0]) _=_
 rw[ZnM]
 simp only[EVS]
 refine (congrArg (Zf true) (ZO (R:=PV) l (ZmF l) (some (pB false)) (some (pB (inR l.length 1 8))) _ hl (fun again k s hb=> ?_) (fun again=> ?_))).trans ?_
 ·have hk:=Ze hb
  have hi:Zk (.lst (l.map ZD)) (.int .i64 (k:Int))=some (ZD s):=Zj hb
  have hc:ZnA 2 (.lst (l.map ZD)) none (some (.int .i64 (k:Int)))=some (.lst ((l.take k).map ZD)):=ZnV Zq6 (by omega)
  have hn:=Znm s.1 (hs s (List.mem_of_getElem? hb))
  have g:=Zbt (l.take k) s (by show (l.take k).length≤_;simp;omega)
  simp only[ZD] at g
  simp only[Zs hk,Zi hk hl,hi,ZD,hn,ZmF,EVS]
  obtain c1|c1:=(Bool.eq_false_or_eq_true (ZaO s.1)).symm<;>simp only[c1,Zah,EVS]
  obtain c2|c2:=(Bool.eq_false_or_eq_true (inR s.2 1 3)).symm<;>simp only[c2,EVS]
  simp only[hc,List.drop_zero,Zip,g,EVS]
  obtain c3|c3:=(Bool.eq_false_or_eq_true (ZN (fun _ (a:List UInt8×Int)=> !decide (a.1=s.1)) 0 (l.take k))).symm<;>simp only[c3,EVS]
 ·simp only[ZW,Zah,EVS]
 ·unfold Zq8
  cases ZN (ZmF l) 0 l<;>simp only[EVS]
def ZfA (n:PNet) (k:Nat) (w:PWire):Bool:=
 (Zua n k w&&ZaO w.name&&ZN (fun _ v=> !decide (v.name=w.name)) 0 (n.wires.take k))&&
 (if decide ((k:Int)<(n.signals.length:Int))=true then ZgR n k w else (decide (w.kind=2)||decide (w.kind=3))&&Zc9 w.ins k)
def netI (n:PNet):Bool:=(Zq8 n.signals&&inR n.wires.length n.signals.length 24)&&ZN (ZfA n) 0 n.wires
theorem ZfB (n:PNet) (hn:n.Fit):Za1 [Zp n]=some (pB (netI n)):=by
 have g1:=ZiJ n.signals hn.signals hn.names
 have hwl:=hn.wires
 unfold ZA at hwl
 show (fun x0=>Za1 [x0]) _=_
 rw[Zj0]
 simp only[Zp,g1,EVS]
 unfold netI
 obtain c1|c1:=(Bool.eq_false_or_eq_true (Zq8 n.signals)).symm<;>simp only[c1,Zah,EVS]
 obtain c2|c2:=(Bool.eq_false_or_eq_true (inR n.wires.length n.signals.length 24)).symm<;>simp only[c2,EVS]
 refine (congrArg (Zf true) (ZO (R:=PV) n.wires (ZfA n) (some (pB false)) (some (pB true)) _ hwl (fun again k w hb=> ?_) (fun again=> ?_))).trans ?_
 ·have hk:=Ze hb
  have hw:=hn.wire w (List.mem_of_getElem? hb)
  have hi:Zk (.lst (n.wires.map Zo)) (.int .i64 (k:Int))=some (Zo w):=Zj hb
  have hc:ZnA 4 (.lst (n.wires.map Zo)) none (some (.int .i64 (k:Int)))=some (.lst ((n.wires.take k).map Zo)):=ZnV Zo3 (by omega)
  have g2:=Zv2 ZmE n k w hn hb
  have g3:=Znm w.name hw.name
  have g4:=Zv1 (n.wires.take k) w.name (by show (n.wires.take k).length≤_;simp;omega)
  have g5:=Zno w.ins k (by omega) hw.ins
  simp only[Zp] at g2
  simp only[Zs hk,Zi hk hwl,hi,Zo,ZfA,g2,EVS]
  obtain c1|c1:=(Bool.eq_false_or_eq_true (Zua n k w)).symm<;>simp only[c1,g3,EVS]
  obtain c2|c2:=(Bool.eq_false_or_eq_true (ZaO w.name)).symm<;>simp only[c2,hc,g4,EVS]
  simp only[ZeT (fun v:PWire=>decide (v.name=w.name)) (n.wires.take k) 0]
  obtain c3|c3:=(Bool.eq_false_or_eq_true (ZN (fun _ (v:PWire)=> !decide (v.name=w.name)) 0 (n.wires.take k))).symm<;>simp only[c3,ZeG,EVS]
  obtain c4|c4:=(Bool.eq_false_or_eq_true (decide ((k:Int)<(n.signals.length:Int)))).symm<;>simp only[c4,EVS]
  ·obtain c5|c5:=(Bool.eq_false_or_eq_true (decide (w.kind=2))).symm<;>simp only[c5,g5,EVS]
   ·obtain c6|c6:=(Bool.eq_false_or_eq_true (decide (w.kind=3))).symm<;>simp only[c6,g5,EVS]
    obtain c7|c7:=(Bool.eq_false_or_eq_true (Zc9 w.ins k)).symm<;>simp only[c7,Zi hk hwl,EVS]
   ·obtain c7|c7:=(Bool.eq_false_or_eq_true (Zc9 w.ins k)).symm<;>simp only[c7,Zi hk hwl,EVS]
  ·have hks:k<n.signals.length:=by have:=of_decide_eq_true c4;omega
   have hs:n.signals[k]?=some n.signals[k]:=List.getElem?_eq_getElem hks
   have hi2:Zk (.lst (n.signals.map ZD)) (.int .i64 (k:Int))=some (ZD n.signals[k]):=Zj hs
   simp only[ZgR,hs,hi2,ZD,List.drop_zero,List.drop_succ_cons,EVS]
   obtain c5|c5:=(Bool.eq_false_or_eq_true (decide (w.name=n.signals[k].1))).symm<;>simp only[c5,hi2,ZD,List.drop_zero,List.drop_succ_cons,EVS]
   obtain c6|c6:=(Bool.eq_false_or_eq_true (decide (w.kind=1)==decide (n.signals[k].2=1))).symm<;>simp only[bne,c6,Zi hk hwl,EVS]
 ·simp only[ZW,EVS]
 ·cases ZN (ZfA n) 0 n.wires<;>simp only[EVS]
theorem Zaj {α:Type} (q:α→Bool):∀(l:List α) (k:Nat),ZN (fun _ x=>q x) k l=l.all q
 |[],_=>rfl
 |x::r,k=>by unfold ZN;rw[Zaj q r (k+1),List.all_cons]
theorem Zeb {α:Type} (f g:Nat→α→Bool) (h:∀k x,f k x=g k x):∀(l:List α) (k:Nat),ZN f k l=ZN g k l
 |[],_=>rfl
 |x::r,k=>by unfold ZN;rw[h k x,Zeb f g h r (k+1)]
theorem ZxA (l:List (List UInt8×Int)):Zkc l=Zq8 l:=by
 unfold Zkc Zq8
 rw[Zeb (Zq5 l) (ZmF l) (fun k x=> ?_) l 0]
 unfold Zq5 ZmF
 rw[Zeb (fun _ (y:List UInt8×Int)=> !decide (x.1=y.1)) (fun _ (y:List UInt8×Int)=> !decide (y.1=x.1)) (fun _ y=>by simp[eq_comm]) _ 0]
theorem Zz2 (n:Int) (l:List (List UInt8)):Zo2 n l=Zgu n l:=by
 unfold Zo2 Zgu Zn5
 rw[Bool.and_comm,Bool.eq_iff_iff]
 simp only[Bool.and_eq_true]
 refine and_congr_right fun h=> ?_
 rw[Zeb (fun _ c=>ZlJ c&&decide ((c.length:Int)=n)) (fun _ c=>Zgt c n) (fun _ c=> ?_) l 0]
 unfold ZlJ Zgt inR
 rw[Bool.eq_iff_iff]
 simp only[Bool.and_eq_true,decide_eq_true_eq]
 constructor
 ·rintro ⟨⟨h1,h2,h3⟩,h4⟩
  exact ⟨h1,h4,by omega,by omega⟩
 ·rintro ⟨h1,h2,h3,h4⟩
  exact ⟨⟨h1,by omega,by omega⟩,h2⟩
theorem Zyn (n:PNet) (k:Nat) (l:List (Int×Bool)) (h:k<n.signals.length):ZN (fun _ p=>ZiI n k p) 0 l=Zc9 l n.wires.length:=by
 unfold Zc9
 refine Zeb _ _ (fun _ p=> ?_) l 0
 unfold ZiI
 have:decide ((n.signals.length:Int)≤k)=false:=by simp;omega
 rw[this]
 simp
theorem Zyo (n:PNet) (k:Nat) (l:List (Int×Bool)) (h:¬k<n.signals.length):ZN (fun _ p=>ZiI n k p) 0 l=(Zc9 l n.wires.length&&Zc9 l k):=by
 unfold Zc9
 rw[Zaj,Zaj,Zaj,Bool.eq_iff_iff]
 have:decide ((n.signals.length:Int)≤k)=true:=by simp;omega
 simp only[Bool.and_eq_true,List.all_eq_true,ZiI,inR,this,Bool.true_and,Bool.not_eq_true',decide_eq_true_eq,decide_eq_false_iff_not]
 constructor
 ·intro h
  exact ⟨fun p hp=>(h p hp).1,fun p hp=>⟨(h p hp).1.1,by have:=(h p hp).2;omega⟩⟩
 ·rintro ⟨h1,h2⟩ p hp
  exact ⟨h1 p hp,by have:=(h2 p hp).2;omega⟩
theorem ZAW (n:PNet) (k:Nat) (w:PWire):(inR w.kind 1 5&&((if decide (w.kind=5)=true then Zgu n.signals.length w.cover else !decide ((0:Int)<w.cover.length))&&Zf2 k w.kind w.ins))=(!(!decide (w.kind=5)&&decide ((0:Int)<w.cover.length))&&Zfz n k w):=by
 unfold Zf2 Zfz
 by_cases h1:w.kind=1
 ·simp[h1,inR]
 by_cases h2:w.kind=2
 ·simp[h2,inR]
 by_cases h3:w.kind=3
 ·simp[h3,inR]
 by_cases h4:w.kind=4
 ·simp[h4,inR]
 by_cases h5:w.kind=5
 ·obtain ⟨nm,kd,ins,cov⟩:=w
  simp only at h5
  rcases ins with _|⟨p,_|⟨q,r⟩⟩<;>simp[h5,inR]
 ·have:inR w.kind 1 5=false:=by
   unfold inR
   simp only[Bool.and_eq_false_iff,decide_eq_false_iff_not]
   omega
  simp[this,h1,h2,h3,h4,h5]
theorem ZAX (n:PNet) (k:Nat) (w:PWire):ZbJ n k w=ZfA n k w:=by
 unfold ZbJ ZfA ZlK Zua Zq7
 have hf:=ZAW n k w
 rw[Zz2]
 by_cases hk:k<n.signals.length
 ·have hd:decide ((k:Int)<(n.signals.length:Int))=true:=by simpa using hk
  rw[Zyn n k w.ins hk]
  simp only[hd,if_true,Bool.true_or,Bool.not_true,Bool.false_or,Bool.not_false,Bool.false_eq_true,if_false,Bool.true_and]
  revert hf
  generalize inR w.kind 1 5=a1
  generalize (if decide (w.kind=5)=true then Zgu (↑n.signals.length) w.cover else !decide ((0:Int)<↑w.cover.length))=a2
  generalize Zf2 k w.kind w.ins=a3
  generalize (!decide (w.kind=5)&&decide ((0:Int)<w.cover.length))=a4
  generalize Zfz n k w=a5
  generalize Zc9 w.ins n.wires.length=a6
  generalize ZgR n k w=a7
  generalize ZaO w.name=a8
  generalize ZN (fun _ (v:PWire)=> !decide (v.name=w.name)) 0 (n.wires.take k)=a9
  cases a1<;>cases a2<;>cases a3<;>cases a4<;>cases a5<;>cases a6<;>cases a7<;>cases a8<;>cases a9<;>decide
 ·have hd:decide ((k:Int)<(n.signals.length:Int))=false:=by simpa using hk
  rw[Zyo n k w.ins hk]
  simp only[hd,if_true,Bool.true_or,Bool.not_true,Bool.false_or,Bool.not_false,Bool.false_eq_true,if_false,Bool.true_and]
  revert hf
  generalize inR w.kind 1 5=a1
  generalize (if decide (w.kind=5)=true then Zgu (↑n.signals.length) w.cover else !decide ((0:Int)<↑w.cover.length))=a2
  generalize Zf2 k w.kind w.ins=a3
  generalize (!decide (w.kind=5)&&decide ((0:Int)<w.cover.length))=a4
  generalize Zfz n k w=a5
  generalize Zc9 w.ins n.wires.length=a6
  generalize ZaO w.name=a8
  generalize Zc9 w.ins k=a7
  generalize decide (w.kind=2)=b2
  generalize decide (w.kind=3)=b3
  generalize ZN (fun _ (v:PWire)=> !decide (v.name=w.name)) 0 (n.wires.take k)=a9
  cases a1<;>cases a2<;>cases a3<;>cases a4<;>cases a5<;>cases a6<;>cases a7<;>cases a8<;>cases a9<;>cases b2<;>cases b3<;>decide
theorem Zz3 (n:PNet):Zdi n=netI n:=by
 unfold Zdi netI
 rw[ZxA,Zeb (ZbJ n) (ZfA n) (fun k x=>ZAX n k x) n.wires 0]
 congr 2
 unfold inR
 rw[Bool.eq_iff_iff]
 simp
def ZfC (b:UInt8):Bool:=decide ((b.toNat:Int)=48)||decide ((b.toNat:Int)=49)
def Z2 (s:List UInt8) (n:Int):Bool:=ZN (fun _ b=>ZfC b) 0 s&&decide ((s.length:Int)=n)
theorem Zo5 (s:List UInt8) (n:Int) (hs:ZA s):ZfJ [.str s,pI n]=some (pB (Z2 s n)):=by
 unfold ZA at hs
 show (fun x0 x1=>ZfJ [x0,x1]) _ _=_
 rw[ZuW]
 refine (congrArg (Zf true) (ZO (R:=PV) s (fun _ b=>ZfC b) (some (pB false)) (some (pB (decide ((s.length:Int)=n)))) _ hs (fun again k b hb=> ?_) (fun again=> ?_))).trans ?_
 ·have hk:=Ze hb
  simp only[ZfC,Zs hk,Zi hk hs,Zr hb,EVS]
  obtain c1|c1:=(Bool.eq_false_or_eq_true (decide ((b.toNat:Int)=48))).symm<;>simp only[c1,Zr hb,EVS]
  obtain c2|c2:=(Bool.eq_false_or_eq_true (decide ((b.toNat:Int)=49))).symm<;>simp only[c2,Zr hb,EVS]
 ·simp only[ZW,EVS]
 ·unfold Z2
  cases ZN (fun _ b=>ZfC b) 0 s<;>simp only[EVS]
theorem Zo6 (s:List UInt8) (n:Int) (hs:ZA s):ZfH [.str s,pI n]=some (pB (Z2 s n)):=by
 unfold ZA at hs
 show (fun x0 x1=>ZfH [x0,x1]) _ _=_
 rw[ZuC]
 refine (congrArg (Zf true) (ZO (R:=PV) s (fun _ b=>ZfC b) (some (pB false)) (some (pB (decide ((s.length:Int)=n)))) _ hs (fun again k b hb=> ?_) (fun again=> ?_))).trans ?_
 ·have hk:=Ze hb
  simp only[ZfC,Zs hk,Zi hk hs,Zr hb,EVS]
  obtain c1|c1:=(Bool.eq_false_or_eq_true (decide ((b.toNat:Int)=48))).symm<;>simp only[c1,Zr hb,EVS]
  obtain c2|c2:=(Bool.eq_false_or_eq_true (decide ((b.toNat:Int)=49))).symm<;>simp only[c2,Zr hb,EVS]
 ·simp only[ZW,EVS]
 ·unfold Z2
  cases ZN (fun _ b=>ZfC b) 0 s<;>simp only[EVS]
def Ze7 (n:PNet) (s:List UInt8):Bool:=Zdi n&&Z2 s n.wires.length
def Zcr (p:Int×Bool) (s:List UInt8):Bool:=match s[p.1.toNat]? with|some b=>decide ((b.toNat:Int)=49) !=p.2|none=>false
theorem Zz4 {p:Int×Bool} {s:List UInt8} (h0:0≤p.1) (h1:p.1<s.length):∃b:UInt8,s[p.1.toNat]?=some b∧Zan (.str s) (pI p.1)=some (pU b):=by
 have h2:p.1.toNat<s.length:=by omega
 refine ⟨s[p.1.toNat],List.getElem?_eq_getElem h2, ?_⟩
 have:=Zr (k:=.i64) (List.getElem?_eq_getElem h2)
 rw[Int.toNat_of_nonneg h0] at this
 exact this
theorem Zkx (p:Int×Bool) (s:List UInt8) (h0:0≤p.1) (h1:p.1<s.length):Zem [Zac p,.str s]=some (pB (Zcr p s)):=by
 obtain ⟨b,hb,hv⟩:=Zz4 h0 h1
 show (fun x0 x1=>Zem [x0,x1]) _ _=_
 rw[Zu2]
 simp only[Zac,hv,Zcr,hb,bne,EVS]
theorem Ze8 (p:Int×Bool) (s:List UInt8) (h0:0≤p.1) (h1:p.1<s.length):Zcd [Zac p,.str s]=some (pB (Zcr p s)):=by
 obtain ⟨b,hb,hv⟩:=Zz4 h0 h1
 show (fun x0 x1=>Zcd [x0,x1]) _ _=_
 rw[ZqG]
 simp only[Zac,hv,Zcr,hb,bne,EVS]
def Zv3 (code:List UInt8) (k:Nat) (b:UInt8):Bool:=decide ((b.toNat:Int)=45)||(match code[k]? with|some c=>decide ((b.toNat:Int)=c.toNat)|none=>false)
def ZnE (cube code:List UInt8):Bool:=ZN (Zv3 code) 0 cube
theorem Zv4 (cube code:List UInt8) (hs:ZA cube) (hl:cube.length≤code.length):Zh6 [.str cube,.str code]=some (pB (ZnE cube code)):=by
 unfold ZA at hs
 show (fun x0 x1=>Zh6 [x0,x1]) _ _=_
 rw[Zu4]
 refine (congrArg (Zf true) (ZO (R:=PV) cube (Zv3 code) (some (pB false)) (some (pB true)) _ hs (fun again k b hb=> ?_) (fun again=> ?_))).trans ?_
 ·have hk:=Ze hb
  have hc:code[k]?=some code[k]:=List.getElem?_eq_getElem (by omega)
  simp only[Zv3,hc,Zs hk,Zi hk hs,Zr hb,Zr hc,EVS]
  obtain c1|c1:=(Bool.eq_false_or_eq_true (decide ((b.toNat:Int)=45))).symm<;>simp only[c1,Zr hb,Zr hc,EVS]
  obtain c2|c2:=(Bool.eq_false_or_eq_true (decide ((b.toNat:Int)=(code[k].toNat:Int)))).symm<;>simp only[c2,EVS]
 ·simp only[ZW,EVS]
 ·unfold ZnE
  cases ZN (Zv3 code) 0 cube<;>simp only[EVS]
theorem Zsb (cube code:List UInt8) (hs:ZA cube) (hl:cube.length≤code.length):Zfb [.str cube,.str code]=some (pB (ZnE cube code)):=by
 unfold ZA at hs
 show (fun x0 x1=>Zfb [x0,x1]) _ _=_
 rw[Zql]
 simp only[EVS]
 refine (congrArg (Zf true) (ZO (R:=PV) cube (Zv3 code) (some (pB false)) (some (pB true)) _ hs (fun again k b hb=> ?_) (fun again=> ?_))).trans ?_
 ·have hk:=Ze hb
  have hc:code[k]?=some code[k]:=List.getElem?_eq_getElem (by omega)
  simp only[Zv3,hc,Zs hk,Zi hk hs,Zr hb,Zr hc,EVS]
  obtain c1|c1:=(Bool.eq_false_or_eq_true (decide ((b.toNat:Int)=45))).symm<;>simp only[c1,Zr hb,Zr hc,EVS]
  obtain c2|c2:=(Bool.eq_false_or_eq_true (decide ((b.toNat:Int)=(code[k].toNat:Int)))).symm<;>simp only[c2,EVS]
 ·simp only[ZW,EVS]
 ·unfold ZnE
  cases ZN (Zv3 code) 0 cube<;>simp only[EVS]
def inP (l:List (List UInt8)) (code:List UInt8):Bool:= !ZN (fun _ c=> !ZnE c code) 0 l
theorem Zyp (l:List (List UInt8)) (code:List UInt8) (hl:ZA l) (hc:∀c∈l,ZA c∧c.length≤code.length):ZjK [.lst (l.map PV.str),.str code]=some (pB (inP l code)):=by
 unfold ZA at hl
 show (fun x0 x1=>ZjK [x0,x1]) _ _=_
 rw[ZwD]
 simp only[EVS]
 refine (congrArg (Zf true) (ZO (R:=PV) l (fun _ c=> !ZnE c code) (some (pB true)) (some (pB false)) _ hl (fun again k s hb=> ?_) (fun again=> ?_))).trans ?_
 ·have hk:=Ze hb
  have hi:Zk (.lst (l.map PV.str)) (.int .i64 (k:Int))=some (.str s):=Zj hb
  have hh:=hc s (List.mem_of_getElem? hb)
  have g:=Zv4 s code hh.1 hh.2
  simp only[Zs hk,Zi hk hl,hi,g,EVS]
  obtain c1|c1:=(Bool.eq_false_or_eq_true (ZnE s code)).symm<;>simp only[c1,EVS]
 ·simp only[ZW,EVS]
 ·unfold inP
  cases ZN (fun _ c=> !ZnE c code) 0 l<;>simp only[EVS]
theorem Zv5 (l:List (List UInt8)) (code:List UInt8) (hl:ZA l) (hc:∀c∈l,ZA c∧c.length≤code.length):Zhz [.lst (l.map PV.str),.str code]=some (pB (inP l code)):=by
 have g0:ZQ [.lst (l.map PV.str),.tup [.agg [.str code]]]=some (pI (ixf (fun c:List UInt8=>ZnE c code) 0 l)):=by
  unfold ZA at hl
  show (fun x0 x1=>ZQ [x0,x1]) _ _=_
  rw[Zcx]
  simp only[EVS]
  refine (congrArg (Zf true) (ZcY l (fun c:List UInt8=>ZnE c code) _ hl (fun again k a hb=> ?_) (fun again=> ?_))).trans ?_
  ·have hk:=Ze hb
   have hi:Zk (.lst (l.map PV.str)) (.int .i64 (k:Int))=some (.str a):=Zj hb
   have hh:=hc a (List.mem_of_getElem? hb)
   have g:Zfc [.str a,.agg [.str code]]=some (pB (ZnE a code)):=by
    show (fun x0 x1=>Zfc [x0,x1]) _ _=_
    rw[Zqn]
    simp only[Zsb a code hh.1 hh.2,EVS]
   simp only[Zs hk,Zi hk hl,hi,Znn,List.cons_append,List.nil_append,g,EVS]
  ·simp only[ZW,EVS]
   rfl
  ·simp only[EVS]
 have g1:ZH [.lst (l.map PV.str),.tup [.agg [.str code]]]=some (pB (inP l code)):=by
  show (fun x0 x1=>ZH [x0,x1]) _ _=_
  rw[Zb3]
  simp only[g0,inP,ZeT (fun c:List UInt8=>ZnE c code) l 0,EVS]
 show (fun x0 x1=>Zhz [x0,x1]) _ _=_
 rw[Zuo]
 simp only[Zip,List.drop_zero,g1,EVS]
def Zv6 (l:List (Int×Bool)) (s:List UInt8):Prop:=∀p∈l,0≤p.1∧p.1<s.length
theorem Zck (l:List (Int×Bool)) (s:List UInt8) (hl:ZA l) (hp:Zv6 l s):ZJ [.lst (l.map Zac),.tup [.agg [.str s]]]=some (pB (!ZN (fun _ p=>Zcr p s) 0 l)):=by
 have g0:ZU [.lst (l.map Zac),.tup [.agg [.str s]]]=some (pI (ixf (fun p:Int×Bool=> !Zcr p s) 0 l)):=by
  unfold ZA at hl
  show (fun x0 x1=>ZU [x0,x1]) _ _=_
  rw[ZcF]
  simp only[EVS]
  refine (congrArg (Zf true) (ZcY l (fun p:Int×Bool=> !Zcr p s) _ hl (fun again k a hb=> ?_) (fun again=> ?_))).trans ?_
  ·have hk:=Ze hb
   have hi:Zk (.lst (l.map Zac)) (.int .i64 (k:Int))=some (Zac a):=Zj hb
   have hh:=hp a (List.mem_of_getElem? hb)
   have g:=Ze8 a s hh.1 hh.2
   simp only[Zac] at g
   have g':Zd3 [Zac a,.agg [.str s]]=some (pB (!Zcr a s)):=by
    show (fun x0 x1=>Zd3 [x0,x1]) _ _=_
    rw[ZnR]
    simp only[Zac,g,EVS]
   simp only[Zac] at g'
   simp only[Zs hk,Zi hk hl,hi,Zac,Znn,List.cons_append,List.nil_append,g',EVS]
  ·simp only[ZW,EVS]
   rfl
  ·simp only[EVS]
 show (fun x0 x1=>ZJ [x0,x1]) _ _=_
 rw[Zcf]
 simp only[g0,ZeT (fun p:Int×Bool=> !Zcr p s) l 0,Bool.not_not,EVS]
theorem Zcl (l:List (Int×Bool)) (s:List UInt8) (hl:ZA l) (hp:Zv6 l s):ZK [.lst (l.map Zac),.tup [.agg [.str s]]]=some (pB (!ZN (fun _ p=> !Zcr p s) 0 l)):=by
 have g0:ZV [.lst (l.map Zac),.tup [.agg [.str s]]]=some (pI (ixf (fun p:Int×Bool=>Zcr p s) 0 l)):=by
  unfold ZA at hl
  show (fun x0 x1=>ZV [x0,x1]) _ _=_
  rw[ZcH]
  simp only[EVS]
  refine (congrArg (Zf true) (ZcY l (fun p:Int×Bool=>Zcr p s) _ hl (fun again k a hb=> ?_) (fun again=> ?_))).trans ?_
  ·have hk:=Ze hb
   have hi:Zk (.lst (l.map Zac)) (.int .i64 (k:Int))=some (Zac a):=Zj hb
   have hh:=hp a (List.mem_of_getElem? hb)
   have g:=Ze8 a s hh.1 hh.2
   simp only[Zac] at g
   have g':Zd4 [Zac a,.agg [.str s]]=some (pB (Zcr a s)):=by
    show (fun x0 x1=>Zd4 [x0,x1]) _ _=_
    rw[ZnT]
    simp only[Zac,g,EVS]
   simp only[Zac] at g'
   simp only[Zs hk,Zi hk hl,hi,Zac,Znn,List.cons_append,List.nil_append,g',EVS]
  ·simp only[ZW,EVS]
   rfl
  ·simp only[EVS]
 show (fun x0 x1=>ZK [x0,x1]) _ _=_
 rw[Zch]
 simp only[g0,ZeT (fun p:Int×Bool=>Zcr p s) l 0,EVS]
def ZgS (s:List UInt8) (k:Nat):Bool:=match s[k]? with|some b=>decide ((b.toNat:Int)=49)|none=>false
def ZxB (n:PNet) (s:List UInt8) (k:Nat) (w:PWire):Bool:=
 if decide (w.kind=5)=true then inP w.cover (s.take n.signals.length)
 else if decide (w.kind=4)=true then (match w.ins with|[p,q]=>if (Zcr p s !=Zcr q s)=true then Zcr p s else ZgS s k|_=>ZgS s k)
 else ZgS s k
def ZfD (n:PNet) (s:List UInt8) (k:Nat) (w:PWire):Bool:=
 if decide (w.kind=2)=true then ZN (fun _ p=>Zcr p s) 0 w.ins
 else if decide (w.kind=3)=true then !ZN (fun _ p=> !Zcr p s) 0 w.ins
 else ZxB n s k w
theorem Zo7 (s:List UInt8) (k:Nat) (h:k≤s.length):Zif (.str s) none (some (pI (k:Int)))=some (.str (s.take k)):=by
 have:(0:Int)≤(k:Int)∧(k:Int)≤(s.length:Int):=by omega
 simp[Zif,Zmn,Zrq,this]
structure At (n:PNet) (s:List UInt8) (k:Nat) (w:PWire):Prop where
 fit:n.Fit
 here:n.wires[k]?=some w
 wire:w.Fit
 fits:ZA s
 lt:k<s.length
 sig:n.signals.length≤s.length
 pins:Zv6 w.ins s
 cubes:w.kind=5→∀c∈w.cover,c.length≤n.signals.length
 two:w.kind=4→w.ins.length=2
theorem loop3 {l:List (Int×Bool)} (s:List UInt8) (E:Bool→Bool→Bool) (f:(List PV→Option PV)→List PV→Option PV) (hl:l.length≤9223372036854775807)
 (h1:∀again (a b:Bool) (k:Nat) x,l[k]?=some x→f again [pB a,pB b,pI (k:Int)]=again [pB (a&&Zcr x s),pB (b||Zcr x s),pI ((k+1:Nat):Int)])
 (h2:∀again (a b:Bool) (k:Nat),¬k<l.length→f again [pB a,pB b,pI (k:Int)]=some (pB (E a b))):
 Zm f 18446744073709551616 [pB true,pB false,pI (0:Int)]=some (pB (E (ZN (fun _ p=>Zcr p s) 0 l) (!ZN (fun _ p=> !Zcr p s) 0 l))):=by
 have key:=ZaP (R:=PV) (fun t:Bool×Bool×Nat=>[pB t.1,pB t.2.1,pI (t.2.2:Int)]) (fun t=>l.length+1 - t.2.2) (fun t=>some (pB (E (t.1&&(l.drop t.2.2).all fun p=>Zcr p s) (t.2.1|| !(l.drop t.2.2).all fun p=> !Zcr p s)))) f (fun again t ih=> ?_) 18446744073709551616 (true,false,0) (by simp only;omega)
 ·simp only[Bool.true_and,Bool.false_or,List.drop_zero] at key
  rw[Zaj,Zaj]
  exact key
 ·obtain ⟨a,b,k⟩:=t
  dsimp only at ih⊢
  by_cases hk:k<l.length
  ·have hx:l[k]?=some l[k]:=List.getElem?_eq_getElem hk
   rw[h1 again a b k _ hx,ih (_,_,k+1) (by simp only;omega),List.drop_eq_getElem_cons hk]
   simp only[List.all_cons,Bool.and_assoc]
   cases Zcr l[k] s<;>simp
  ·rw[h2 again a b k hk,List.drop_eq_nil_of_le (by omega)]
   simp
theorem Znp (n:PNet) (s:List UInt8) (k:Nat) (w:PWire) (h:At n s k w):ZeQ [Zp n,.str s,pI k]=some (pB (ZfD n s k w)):=by
 have hi:Zk (.lst (n.wires.map Zo)) (.int .i64 (k:Int))=some (Zo w):=Zj h.here
 have hil:=h.wire.ins
 unfold ZA at hil
 show (fun x0 x1 x2=>ZeQ [x0,x1,x2]) _ _ _=_
 rw[ZsK]
 simp only[Zp,hi,Zo,EVS]
 refine (congrArg (Zf true) (loop3 (l:=w.ins) s (fun a b=>if decide (w.kind=2)=true then a else if decide (w.kind=3)=true then b else ZxB n s k w) _ hil (fun again a b j p hb=> ?_) (fun again a b j hj=> ?_))).trans ?_
 ·have hk:=Ze hb
  have hi2:Zk (.lst (w.ins.map Zac)) (.int .i64 (j:Int))=some (Zac p):=Zj hb
  have hp:=h.pins p (List.mem_of_getElem? hb)
  have g:=Zkx p s hp.1 hp.2
  simp only[Zac] at g
  simp only[Zs hk,Zi hk hil,hi2,Zac,g,EVS]
  cases a<;>cases b<;>simp only[EVS]
 ·have hlt:decide ((j:Int)<(w.ins.length:Int))=false:=by simp;omega
  simp only[hlt,EVS]
  obtain c1|c1:=(Bool.eq_false_or_eq_true (decide (w.kind=2))).symm<;>simp only[c1,EVS]
  obtain c2|c2:=(Bool.eq_false_or_eq_true (decide (w.kind=3))).symm<;>simp only[c2,EVS]
  have hone:ZgS s k=decide ((s[k]'h.lt).toNat=(49:Int)):=by unfold ZgS;rw[List.getElem?_eq_getElem h.lt]
  have hbv:Zan (.str s) (.int .i64 (k:Int))=some (pU (s[k]'h.lt)):=Zr (List.getElem?_eq_getElem h.lt)
  unfold ZxB
  obtain c5|c5:=(Bool.eq_false_or_eq_true (decide (w.kind=5))).symm<;>simp only[c5,EVS]
  ·obtain c4|c4:=(Bool.eq_false_or_eq_true (decide (w.kind=4))).symm<;>simp only[c4,ZeG,hbv,hone,EVS]
   have h2:=h.two (of_decide_eq_true c4)
   have hpins:=h.pins
   revert h2 hpins
   rcases w.ins with _|⟨p,_|⟨q,_|⟨r,t⟩⟩⟩
   ·intro h2;simp at h2
   ·intro h2;simp at h2
   ·intro _ hpins
    have i0:Zk (.lst ([p,q].map Zac)) (.int .i64 0)=some (Zac p):=rfl
    have i1:Zk (.lst ([p,q].map Zac)) (.int .i64 1)=some (Zac q):=rfl
    have hp:=hpins p (by simp)
    have hq:=hpins q (by simp)
    have g1:=Zkx p s hp.1 hp.2
    have g2:=Zkx q s hq.1 hq.2
    simp only[Zac] at g1 g2
    simp only[i0,i1,Zac,g1,g2,EVS]
    cases Zcr p s<;>cases Zcr q s<;>simp[bne,hbv,ZwT]
   ·intro h2;simp at h2
  ·have hc:=Zyp w.cover (s.take n.signals.length) h.wire.cover (fun c hc=>⟨h.wire.cubes c hc,by have:=h.cubes (of_decide_eq_true c5) c hc;have:=h.sig;simp;omega⟩)
   simp only[Zo7 s _ h.sig,hc,EVS]
 ·simp only[ZfD,EVS]
theorem ZlL (n:PNet) (s:List UInt8) (k:Nat) (w:PWire) (h:At n s k w):ZdW [Zp n,.str s,pI k]=some (pB (ZfD n s k w)):=by
 have hi:Zk (.lst (n.wires.map Zo)) (.int .i64 (k:Int))=some (Zo w):=Zj h.here
 have g2:=Zck w.ins s h.wire.ins h.pins
 have g3:=Zcl w.ins s h.wire.ins h.pins
 have hone:ZgS s k=decide ((s[k]'h.lt).toNat=(49:Int)):=by unfold ZgS;rw[List.getElem?_eq_getElem h.lt]
 have hbv:Zan (.str s) (.int .i64 (k:Int))=some (pU (s[k]'h.lt)):=Zr (List.getElem?_eq_getElem h.lt)
 show (fun x0 x1 x2=>ZdW [x0,x1,x2]) _ _ _=_
 rw[Zqo]
 simp only[Zp,hi,Zo,EVS]
 unfold ZfD
 obtain c2|c2:=(Bool.eq_false_or_eq_true (decide (w.kind=2))).symm<;>simp only[c2,Zip,List.drop_zero,g2,Bool.not_not,EVS]
 obtain c3|c3:=(Bool.eq_false_or_eq_true (decide (w.kind=3))).symm<;>simp only[c3,Zip,List.drop_zero,g3,Bool.not_not,EVS]
 unfold ZxB
 obtain c4|c4:=(Bool.eq_false_or_eq_true (decide (w.kind=4))).symm<;>simp only[c4,ZeG,EVS]
 ·obtain c5|c5:=(Bool.eq_false_or_eq_true (decide (w.kind=5))).symm<;>simp only[c5,hbv,hone,EVS]
  have hc:=Zv5 w.cover (s.take n.signals.length) h.wire.cover (fun c hc=>⟨h.wire.cubes c hc,by have:=h.cubes (of_decide_eq_true c5) c hc;have:=h.sig;simp;omega⟩)
  simp only[Zo7 s _ h.sig,hc,EVS]
 ·have c5:decide (w.kind=5)=false:=by have:=of_decide_eq_true c4;simp;omega
  have h2:=h.two (of_decide_eq_true c4)
  have hpins:=h.pins
  simp only[c5,hone,EVS]
  revert h2 hpins
  rcases w.ins with _|⟨p,_|⟨q,_|⟨r,t⟩⟩⟩
  ·intro h2;simp at h2
  ·intro h2;simp at h2
  ·intro _ hpins
   have i0:Zk (.lst ([p,q].map Zac)) (.int .i64 0)=some (Zac p):=rfl
   have i1:Zk (.lst ([p,q].map Zac)) (.int .i64 1)=some (Zac q):=rfl
   have hp:=hpins p (by simp)
   have hq:=hpins q (by simp)
   have g1:=Ze8 p s hp.1 hp.2
   have g2:=Ze8 q s hq.1 hq.2
   simp only[Zac] at g1 g2
   simp only[i0,i1,Zac,g1,g2,EVS]
   cases Zcr p s<;>cases Zcr q s<;>simp[bne,hbv,ZwT,Zrn]
  ·intro h2;simp at h2
theorem Zjx {α:Type} (q:Nat→α→Bool):∀(l:List α) (j:Nat),ZN q j l=true→∀(i:Nat) (x:α),l[i]?=some x→q (j+i) x=true
 |[],j,_,i,x,hx=>by simp at hx
 | y::r,j,h,i,x,hx=>by
  unfold ZN at h
  rw[Bool.and_eq_true] at h
  cases i with
  |zero=>simp at hx;subst hx;simpa using h.1
  | succ i=>
   have:=Zjx q r (j+1) h.2 i x (by simpa using hx)
   rw[show j+(i+1)=j+1+i by omega]
   exact this
theorem Zo8 {α:Type} (q:α→Bool) {l:List α} (h:ZN (fun _ x=>q x) 0 l=true) {x:α} (hx:x∈l):q x=true:=by
 rw[Zaj] at h
 exact List.all_eq_true.1 h x hx
def ZfT (u:Bool):UInt8:=if u=true then 49 else 48
theorem Zyq (u:Bool):ZfC (ZfT u)=true:=by cases u<;>decide
theorem Zjy (u:Bool):Zek [pB u]=some (.str [ZfT u]):=by
 show (fun x0=>Zek [x0]) _=_
 rw[Zwu]
 cases u<;>simp only[EVS]<;>rfl
theorem ZxC (u:Bool):ZlT [pB u]=some (pU (ZfT u)):=by
 show (fun x0=>ZlT [x0]) _=_
 rw[ZAb]
 cases u<;>simp only[EVS]<;>rfl
theorem ZxD {α:Type} (c:List α) (i:Nat) (b:α) (h:i<c.length):c.take i++[b]++c.drop (i+1)=c.set i b:=by
 rw[List.set_eq_take_append_cons_drop,if_pos h,List.append_assoc]
 rfl
theorem Zjz (c:List UInt8) (i:Nat) (b:UInt8) (h:i<c.length) (hc:ZA c):Zel [.str c,pI i,.str [b]]=some (.str (c.set i b)):=by
 unfold ZA at hc
 have h1:Zif (.str c) none (some (.int .i64 (i:Int)))=some (.str (c.take i)):=ZqK (by omega)
 have h2:Zif (.str c) (some (.int .i64 ((i+1:Nat):Int))) none=some (.str (c.drop (i+1))):=ZqL (by omega)
 show (fun x0 x1 x2=>Zel [x0,x1,x2]) _ _ _=_
 rw[Zwv]
 have h3:Zd .add TD.str (.str (c.take i)) (.str [b])=some (.str (c.take i++[b])):=ZbF (by simp;omega)
 have h4:Zd .add TD.str (.str (c.take i++[b])) (.str (c.drop (i+1)))=some (.str (c.take i++[b]++c.drop (i+1))):=ZbF (by simp;omega)
 simp only[h1,Zi h hc,h2,h3,h4,ZxD c i b h,EVS]
theorem ZaN {s:List UInt8} {n:Nat}:Z2 s n=true↔(∀b∈s,ZfC b=true)∧s.length=n:=by
 unfold Z2
 rw[Zaj,Bool.and_eq_true,List.all_eq_true,decide_eq_true_eq]
 constructor
 ·rintro ⟨h1,h2⟩;exact ⟨h1,by omega⟩
 ·rintro ⟨h1,h2⟩;exact ⟨h1,by omega⟩
theorem Zo9 {v:List UInt8} {N k:Nat} (h:Z2 v N=true) (u:Bool):Z2 (v.set k (ZfT u)) N=true:=by
 rw[ZaN] at h⊢
 refine ⟨fun b hb=> ?_,by simpa using h.2⟩
 rcases List.mem_or_eq_of_mem_set hb with hb|rfl
 ·exact h.1 b hb
 ·exact Zyq u
theorem Zpa {c:List UInt8} {m N:Nat} (h:Z2 c m=true) (hm:m≤N):Z2 (c++List.replicate (N - m) 48) N=true:=by
 rw[ZaN] at h⊢
 refine ⟨fun b hb=> ?_,by simp[h.2];omega⟩
 rcases List.mem_append.1 hb with hb|hb
 ·exact h.1 b hb
 ·obtain ⟨_,rfl⟩:=List.mem_replicate.1 hb;decide
theorem ZlM (b:UInt8):ZfC b=true↔b=48∨b=49:=by
 unfold ZfC
 rw[Bool.or_eq_true,decide_eq_true_eq,decide_eq_true_eq]
 have h48:(48:UInt8).toNat=48:=rfl
 have h49:(49:UInt8).toNat=49:=rfl
 constructor
 ·rintro (h|h)
  ·exact .inl (UInt8.toNat_inj.1 (by omega))
  ·exact .inr (UInt8.toNat_inj.1 (by omega))
 ·rintro (rfl|rfl)
  ·exact .inl rfl
  ·exact .inr rfl
theorem Zz5 (n:PNet) (s:List UInt8) (k:Nat) (hn:n.Fit) (hs:ZA s) (hv:Ze7 n s=true) (hk:k<n.wires.length):At n s k n.wires[k]:=by
 unfold Ze7 Zdi Z2 at hv
 simp only[Bool.and_eq_true,decide_eq_true_eq,Bool.not_eq_true',decide_eq_false_iff_not] at hv
 obtain ⟨⟨⟨h1,h2,h3⟩,h4⟩,h5,h6⟩:=hv
 have hx:n.wires[k]?=some n.wires[k]:=List.getElem?_eq_getElem hk
 have hw:=Zjx _ _ _ h4 k _ hx
 rw[Nat.zero_add] at hw
 unfold ZbJ ZlK Zq7 at hw
 simp only[Bool.and_eq_true] at hw
 obtain ⟨⟨⟨⟨hkd,_⟩,hcov⟩,_,hpins,hform⟩,_⟩:=hw
 refine ⟨hn,hx,hn.wire _ (List.getElem_mem hk),hs,by omega,by omega,fun p hp=> ?_,fun hk5 c hc=> ?_,fun hk4=> ?_⟩
 ·have:=Zo8 (fun p=>ZiI n k p) hpins hp
  unfold ZiI inR at this
  simp only[Bool.and_eq_true,decide_eq_true_eq] at this
  omega
 ·rw[if_pos (by simp[hk5])] at hcov
  unfold Zo2 Zn5 at hcov
  simp only[Bool.and_eq_true] at hcov
  have:=Zo8 (fun c=>ZlJ c&&decide ((c.length:Int)=n.signals.length)) hcov.1 hc
  simp only[Bool.and_eq_true,decide_eq_true_eq] at this
  omega
 ·unfold Zf2 at hform
  rw[if_neg (by simp[hk4]),if_pos (by simp[hk4])] at hform
  simp only[decide_eq_true_eq] at hform
  omega
theorem ZAY (s:List UInt8) (h:s.length≤9223372036854775807):ZqO (.str s)=some (.lst (s.map pU)):=by
 unfold ZqO
 simp only
 rw[if_pos h]
theorem ZjA {α:Type} (f:α→PV) (l:List α) (i:Nat) (x:α):(l.map f).set i (f x)=(l.set i x).map f:=by rw[List.map_set]
structure PArc where
 from_:Int
 sig:Int
 up:Bool
 to_:Int
structure PSG where
 signals:List (List UInt8×Int)
 codes:List (List UInt8)
 arcs:List PArc
def Z3 (a:PArc):PV:=.agg [pI a.from_,pI a.sig,pB a.up,pI a.to_]
def eSG (c:PSG):PV:=.agg [.lst (c.signals.map ZD),.lst (c.codes.map PV.str),.lst (c.arcs.map Z3)]
structure SGFit (c:PSG):Prop where
 sigs:ZA c.signals
 names:∀s∈c.signals,ZA s.1
 codes:ZA c.codes
 each:∀x∈c.codes,ZA x
 arcs:ZA c.arcs
def Zf3 (n:Int) (sig:Int) (up:Bool):Bool:=inR sig 0 (n - 1)||(decide (sig= -1)&& !up)
theorem Zub (sig:Int) (up:Bool) (n:Nat) (hn:n≤9223372036854775807):Zgd [.agg [pI sig,pB up],pI n]=some (pB (Zf3 n sig up)):=by
 have g:=ZaJ sig 0 ((n:Int) - 1)
 have gi:inR sig 0 ((n:Int) - 1)=(decide ((0:Int)≤sig)&&decide (sig≤(n:Int) - 1)):=rfl
 rw[←gi] at g
 have hw:IntKind.i64.wrap ((n:Int) - 1)=(n:Int) - 1:=Zav (by omega) (by omega)
 show (fun x0 x1=>Zgd [x0,x1]) _ _=_
 rw[ZsA]
 unfold Zf3
 simp only[hw,g,EVS]
 cases inR sig 0 ((n:Int) - 1)<;>simp only[EVS]
 rw[show Int.negSucc 0=(-1:Int) from rfl]
 cases decide (sig= -1)<;>simp only[EVS]
theorem Zv8 (sig:Int) (up:Bool) (n:Nat) (hn:n≤9223372036854775807):ZhL [.agg [pI sig,pB up],pI n]=some (pB (Zf3 n sig up)):=by
 have g:=Zah sig 0 ((n:Int) - 1)
 have hw:IntKind.i64.wrap ((n:Int) - 1)=(n:Int) - 1:=Zav (by omega) (by omega)
 have he:eqV (some [(0,TD.int IntKind.i64),(1,TD.bool)]) TD.struct (.agg [pI sig,pB up]) (.agg [pI (-1),pB false])=some (decide (sig= -1)&& !up):=by
  rw[eqPin];cases up<;>rfl
 show (fun x0 x1=>ZhL [x0,x1]) _ _=_
 rw[ZuB]
 unfold Zf3
 simp only[hw,g,EVS]
 cases inR sig 0 ((n:Int) - 1)<;>simp only[EVS]
 rw[show Int.negSucc 0=(-1:Int) from rfl]
 have hsp:splice [ZC.pv (.int .i64),ZC.pv .bool] 0 [pI (-1)]=[pI (-1),pB false]:=rfl
 simp only[hsp,he,EVS]
def ZlN (sig:Int) (up:Bool) (x y:List UInt8):Bool:=
 if decide (sig<0)=true then decide (x=y) else decide (x=y.set sig.toNat (ZfT (!up)))&&decide (y=x.set sig.toNat (ZfT up))
def Zke (sig:Int) (up:Bool) (y:List UInt8) (k:Nat) (b:UInt8):Bool:=
 if decide ((k:Int)=sig)=true then !(decide ((b.toNat:Int)=49)==up)&&decide (((y.getD k 0).toNat:Int)=49)==up else decide ((b.toNat:Int)=(y.getD k 0).toNat)
theorem Zv9 :(false==false)=true:=rfl
theorem Zwa :(false==true)=false:=rfl
theorem Zwb :(true==false)=false:=rfl
theorem Zwc :(true==true)=true:=rfl
theorem bbn (a b:Bool):Zd .neq TD.bool (.bool a) (.bool b)=some (.bool (!(a==b))):=rfl
theorem Zqa (a:PArc) (x y:List UInt8) (hx:ZA x) (hl:y.length=x.length):Zeu [Z3 a,.str x,.str y]=some (pB (ZN (Zke a.sig a.up y) 0 x)):=by
 unfold ZA at hx
 show (fun x0 x1 x2=>Zeu [x0,x1,x2]) _ _ _=_
 rw[Zpx]
 simp only[Z3,EVS]
 refine (congrArg (fun m:Option PV=>m.bind fun r=>if r.sc=true then some r else none) (ZO (R:=PV) x (Zke a.sig a.up y) (some (pB false)) (some (pB true)) _ hx (fun again k b hb=> ?_) (fun again=> ?_))).trans ?_
 ·have hk:=Ze hb
  have hy:y[k]?=some (y.getD k 0):=by rw[List.getD_eq_getElem?_getD,List.getElem?_eq_getElem (by omega)];rfl
  have b1:=Zr (k:=.i64) hb
  have b2:=Zr (k:=.i64) hy
  unfold Zke
  simp only[Zs hk,Zi hk hx,b1,b2,EVS]
  cases c1:decide ((k:Int)=a.sig)
  ·simp only[c1,Zs hk,Zi hk hx,b1,b2,EVS]
   cases decide ((b.toNat:Int)=(y.getD k 0).toNat)<;>simp only[EVS]
  ·simp only[c1,Zs hk,Zi hk hx,b1,b2,EVS]
   cases decide ((b.toNat:Int)=49)<;>cases c3:decide (((y.getD k 0).toNat:Int)=49)<;>cases a.up<;>first|rfl|(simp only[Zv9,Zwa,Zwb,Zwc,b1,b2,EVS];done)|(simp only[Zv9,Zwa,Zwb,Zwc,b1,b2,EVS];rfl)|(simp only[Zv9,Zwa,Zwb,Zwc,bbn,b1,b2,c3,EVS];done)
 ·simp only[ZW,EVS]
 ·cases ZN (Zke a.sig a.up y) 0 x<;>simp only[EVS]<;>rfl
theorem Zpb {α:Type} (q:Nat→α→Bool):∀(l:List α) (j:Nat),ZN q j l=true↔∀(i:Nat) (x:α),l[i]?=some x→q (j+i) x=true
 |[],j=>by simp[ZN]
 | y::r,j=>by
  refine ⟨fun h=>Zjx q (y::r) j h,fun h=> ?_⟩
  unfold ZN
  rw[Bool.and_eq_true]
  refine ⟨by simpa using h 0 y rfl,(Zpb q r (j+1)).2 fun i x hx=> ?_⟩
  have:=h (i+1) x (by simpa using hx)
  rw[show j+(i+1)=j+1+i by omega] at this
  exact this
theorem ZxE {b:UInt8} (h:ZfC b=true):b=ZfT (decide ((b.toNat:Int)=49)):=by
 unfold ZfC at h
 simp only[Bool.or_eq_true,decide_eq_true_eq,Bool.and_eq_true,Bool.not_eq_true',decide_eq_false_iff_not] at h
 by_cases c:(b.toNat:Int)=49
 ·simp only[c,decide_true]
  apply UInt8.toNat_inj.1
  show b.toNat=49
  omega
 ·simp only[c,decide_false]
  apply UInt8.toNat_inj.1
  show b.toNat=48
  omega
theorem ZxF {x:List UInt8} {n:Int} (h:Z2 x n=true) {i:Nat} {b:UInt8} (hi:x[i]?=some b):ZfC b=true:=by
 unfold Z2 at h
 rw[Bool.and_eq_true] at h
 exact Zo8 ZfC h.1 (List.mem_of_getElem? hi)
theorem ZgT {x:List UInt8} {n:Nat} (h:Z2 x n=true):x.length=n:=by
 unfold Z2 at h
 rw[Bool.and_eq_true,decide_eq_true_eq] at h
 omega
theorem Zsc {a b:UInt8}:(a.toNat:Int)=b.toNat↔a=b:=by
 rw[Int.ofNat_inj,UInt8.toNat_inj]
theorem ZAZ (sig:Int) (up:Bool) (x y:List UInt8) (n:Nat) (hx:Z2 x n=true) (hy:Z2 y n=true) (he:Zf3 n sig up=true):ZN (Zke sig up y) 0 x=ZlN sig up x y:=by
 have lx:=ZgT hx
 have ly:=ZgT hy
 rw[Bool.eq_iff_iff,Zpb]
 unfold Zf3 inR at he
 simp only[Bool.or_eq_true,Bool.and_eq_true,decide_eq_true_eq,Bool.not_eq_true'] at he
 have gy:∀i b,x[i]?=some b→y[i]?=some (y.getD i 0):=fun i b hb=>by
  have:=(List.getElem?_eq_some_iff.1 hb).1
  rw[List.getD_eq_getElem?_getD,List.getElem?_eq_getElem (by omega)];rfl
 unfold ZlN
 by_cases c:sig<0
 ·simp only[c,decide_true,if_true,decide_eq_true_eq]
  constructor
  ·intro h
   apply List.ext_getElem (by omega)
   intro i h1 h2
   have:=h i x[i] (List.getElem?_eq_getElem h1)
   unfold Zke at this
   have d:decide (((0+i:Nat):Int)=sig)=false:=by simp only[decide_eq_false_iff_not];omega
   rw[d] at this
   simp only[Nat.zero_add,Bool.false_eq_true,if_false,decide_eq_true_eq,Zsc] at this
   rw[this,List.getD_eq_getElem?_getD,List.getElem?_eq_getElem h2];rfl
  ·rintro rfl i b hb
   unfold Zke
   have d:decide (((0+i:Nat):Int)=sig)=false:=by simp only[decide_eq_false_iff_not];omega
   rw[d]
   simp only[Nat.zero_add,Bool.false_eq_true,if_false,decide_eq_true_eq,Zsc]
   rw[List.getD_eq_getElem?_getD,hb];rfl
 ·obtain ⟨s,rfl⟩:=Int.eq_ofNat_of_zero_le (show 0≤sig by omega)
  have hs:s<n:=by omega
  simp only[c,decide_false,Bool.false_eq_true,if_false,Bool.and_eq_true,decide_eq_true_eq,Int.toNat_natCast]
  have hxs:x[s]?=some (x[s]'(by omega)):=List.getElem?_eq_getElem _
  have hys:y[s]?=some (y[s]'(by omega)):=List.getElem?_eq_getElem _
  have gs:y.getD s 0=y[s]'(by omega):=by rw[List.getD_eq_getElem?_getD,hys];rfl
  constructor
  ·intro h
   have h0:=h s _ hxs
   unfold Zke at h0
   simp only[Nat.zero_add,decide_true,if_true,gs] at h0
   have bx:=ZxE (ZxF hx hxs)
   have by_:=ZxE (ZxF hy hys)
   have ho:∀i (h1:i<x.length) (h2:i<y.length),i≠s→x[i]=y[i]:=fun i h1 h2 hn=>by
    have:=h i x[i] (List.getElem?_eq_getElem h1)
    unfold Zke at this
    have d:decide (((0+i:Nat):Int)=(s:Int))=false:=by simp only[decide_eq_false_iff_not];omega
    rw[d] at this
    simp only[Nat.zero_add,Bool.false_eq_true,if_false,decide_eq_true_eq,Zsc] at this
    rw[this,List.getD_eq_getElem?_getD,List.getElem?_eq_getElem h2];rfl
   generalize decide (((x[s]'(by omega)).toNat:Int)=49)=p at h0 bx
   generalize decide (((y[s]'(by omega)).toNat:Int)=49)=q at h0 by_
   have hp:p= !up:=by revert h0;cases p<;>cases q<;>cases up<;>decide
   have hq:q=up:=by revert h0;cases p<;>cases q<;>cases up<;>decide
   refine ⟨List.ext_getElem (by simp;omega) fun i h1 h2=> ?_,List.ext_getElem (by simp;omega) fun i h1 h2=> ?_⟩
   ·rw[List.getElem_set]
    split
    ·rename_i e;subst e;rw[bx,hp]
    ·rename_i e;exact ho i h1 (by simpa using h2) (Ne.symm e)
   ·rw[List.getElem_set]
    split
    ·rename_i e;subst e;rw[by_,hq]
    ·rename_i e;exact (ho i (by simpa using h2) h1 (Ne.symm e)).symm
  ·rintro ⟨e1,e2⟩ i b hb
   unfold Zke
   have hi:=(List.getElem?_eq_some_iff.1 hb).1
   by_cases cs:i=s
   ·subst cs
    simp only[Nat.zero_add,decide_true,if_true,gs]
    have hbx:x[i]?=some (ZfT (!up)):=by rw[e1,List.getElem?_set];simp;omega
    have hby:y[i]?=some (ZfT up):=by rw[e2,List.getElem?_set];simp;omega
    rw[hb] at hbx
    rw[hys] at hby
    rw[Option.some.inj hbx,Option.some.inj hby]
    cases up<;>decide
   ·have d:decide (((0+i:Nat):Int)=(s:Int))=false:=by simp only[decide_eq_false_iff_not];omega
    rw[d]
    simp only[Nat.zero_add,Bool.false_eq_true,if_false,decide_eq_true_eq,Zsc]
    have:y[i]?=x[i]?:=by
     conv=>lhs;rw[e2]
     rw[List.getElem?_set,if_neg (Ne.symm cs)]
    rw[List.getD_eq_getElem?_getD,this,hb];rfl
theorem Zpc (s u:PV):splice (splice [ZC.pv (.int .i64),ZC.pv .bool] 0 [s]) 1 [u]=[s,u]:=rfl
def Zc0 (n:Nat) (last:Int) (a:PArc):Bool:=(inR a.from_ 0 last&&inR a.to_ 0 last)&&Zf3 n a.sig a.up
def Zky (c:PSG) (a:PArc):Bool:=Zc0 c.signals.length ((c.codes.length:Int) - 1) a&&ZlN a.sig a.up (c.codes.getD a.from_.toNat []) (c.codes.getD a.to_.toNat [])
structure CodesP (c:PSG):Prop where
 one:1≤c.codes.length
 many:c.codes.length≤300
 bits:∀x∈c.codes,Z2 x c.signals.length=true
 arcs:c.arcs.length≤4000
theorem Zpd {c:PSG} {a:PArc} (h:Zc0 c.signals.length ((c.codes.length:Int) - 1) a=true):∃f t x y,a.from_=((f:Nat):Int)∧a.to_=((t:Nat):Int)∧f<c.codes.length∧t<c.codes.length∧c.codes[f]?=some x∧c.codes[t]?=some y∧Zf3 c.signals.length a.sig a.up=true:=by
 unfold Zc0 inR at h
 simp only[Bool.and_eq_true,decide_eq_true_eq] at h
 obtain ⟨⟨⟨h1,h2⟩,h3,h4⟩,h5⟩:=h
 obtain ⟨f,hf⟩:=Int.eq_ofNat_of_zero_le h1
 obtain ⟨t,ht⟩:=Int.eq_ofNat_of_zero_le h3
 have l1:f<c.codes.length:=by omega
 have l2:t<c.codes.length:=by omega
 exact ⟨f,t,_,_,hf,ht,l1,l2,List.getElem?_eq_getElem l1,List.getElem?_eq_getElem l2,h5⟩
theorem Zyr (c:PSG) (a:PArc) (hc:SGFit c) (hp:CodesP c):ZjH [eSG c,Z3 a]=some (pB (Zky c a)):=by
 have hsl:=hc.sigs
 unfold ZA at hsl
 have hm:=hp.many
 have g1:=ZaJ a.from_ 0 ((c.codes.length:Int) - 1)
 have g2:=ZaJ a.to_ 0 ((c.codes.length:Int) - 1)
 have gi:∀z:Int,inR z 0 ((c.codes.length:Int) - 1)=(decide ((0:Int)≤z)&&decide (z≤(c.codes.length:Int) - 1)):=fun _=>rfl
 rw[←gi] at g1 g2
 have g3:=Zub a.sig a.up c.signals.length hsl
 have hw:IntKind.i64.wrap ((c.codes.length:Int) - 1)=(c.codes.length:Int) - 1:=Zav (by omega) (by omega)
 show (fun x0 x1=>ZjH [x0,x1]) _ _=_
 rw[Zwx]
 unfold Zky
 cases hg:Zc0 c.signals.length ((c.codes.length:Int) - 1) a
 ·unfold Zc0 at hg
  cases c1:inR a.from_ 0 ((c.codes.length:Int) - 1)
  ·simp only[eSG,Z3,List.length_map,hw,g1,c1,EVS]
  cases c2:inR a.to_ 0 ((c.codes.length:Int) - 1)
  ·simp only[eSG,Z3,List.length_map,hw,g1,g2,c1,c2,EVS]
  cases c3:Zf3 c.signals.length a.sig a.up
  ·simp only[eSG,Z3,List.length_map,hw,g1,g2,g3,c1,c2,c3,Zpc,EVS]
  ·rw[c1,c2,c3] at hg;cases hg
 ·obtain ⟨f,t,x,y,hf,ht,l1,l2,hx,hy,he⟩:=Zpd hg
  unfold Zc0 at hg
  simp only[Bool.and_eq_true] at hg
  have bx:=hp.bits x (List.mem_of_getElem? hx)
  have by_:=hp.bits y (List.mem_of_getElem? hy)
  have i1:Zk (.lst (c.codes.map PV.str)) (.int .i64 (f:Int))=some (.str x):=Zj hx
  have i2:Zk (.lst (c.codes.map PV.str)) (.int .i64 (t:Int))=some (.str y):=Zj hy
  have e1:c.codes.getD f []=x:=by rw[List.getD_eq_getElem?_getD,hx];rfl
  have e2:c.codes.getD t []=y:=by rw[List.getD_eq_getElem?_getD,hy];rfl
  have c1:=hg.1.1
  have c2:=hg.1.2
  simp only[hf] at g1 c1
  simp only[ht] at g2 c2
  rw[hf,ht,Int.toNat_natCast,Int.toNat_natCast,e1,e2]
  unfold ZlN
  have lx:=ZgT bx
  have ly:=ZgT by_
  by_cases cs:a.sig<0
  ·have d:decide (a.sig<0)=true:=by simpa using cs
   simp only[eSG,Z3,hf,ht,List.length_map,hw,g1,g2,g3,c1,c2,he,Zpc,i1,i2,d,EVS]
  ·have d:decide (a.sig<0)=false:=by simpa using cs
   obtain ⟨s,hs⟩:=Int.eq_ofNat_of_zero_le (show 0≤a.sig by omega)
   have hsn:s<c.signals.length:=by
    unfold Zf3 inR at he
    simp only[Bool.or_eq_true,Bool.and_eq_true,decide_eq_true_eq] at he
    omega
   have s1:=Zjz y s (ZfT (!a.up)) (by omega) (hc.each y (List.mem_of_getElem? hy))
   have s2:=Zjz x s (ZfT a.up) (by omega) (hc.each x (List.mem_of_getElem? hx))
   have b1:=Zjy (!a.up)
   have b2:=Zjy a.up
   rw[hs] at d g3 he
   simp only[eSG,Z3,hf,ht,hs,List.length_map,hw,g1,g2,g3,c1,c2,he,Zpc,i1,i2,d,s1,b1,Int.toNat_natCast,Bool.false_eq_true,if_false,EVS]
   cases c4:decide (x=y.set s (ZfT (!a.up)))
   ·simp only[EVS]
   ·simp only[s2,b2,EVS]
def Zpe (c:PSG):List (Nat×Nat):=c.arcs.map fun a=>(a.from_.toNat,a.to_.toNat)
def Zpf (n:Nat) (l:List PArc):Prop:=∀a∈l,inR a.from_ 0 ((n:Int) - 1)=true∧inR a.to_ 0 ((n:Int) - 1)=true
theorem ZmG {n:Nat} {l:List PArc} (h:Zpf n l) {a:PArc} (ha:a∈l):∃f t:Nat,a.from_=f∧a.to_=t∧f<n∧t<n:=by
 obtain ⟨h1,h2⟩:=h a ha
 unfold inR at h1 h2
 simp only[Bool.and_eq_true,decide_eq_true_eq] at h1 h2
 obtain ⟨f,hf⟩:=Int.eq_ofNat_of_zero_le h1.1
 obtain ⟨t,ht⟩:=Int.eq_ofNat_of_zero_le h2.1
 exact ⟨f,t,hf,ht,by omega,by omega⟩
theorem Znq :∀(r:List (Nat×Nat)) (m:List Bool),(Zfn r m).length=m.length
 |[],_=>rfl
 | e::r,m=>by
  unfold Zfn
  rw[Znq r]
  split<;>simp
theorem se_b (a b:Bool):ZaB 0 1 [.bool a] (.bool a) (.bool b)=some (.bool b):=rfl
theorem ZxG {R:Type} (e:List Bool→Option R):∀(l:List PArc) (k:Nat) (m:List Bool),Z5 (fun (m:List Bool) (_:Nat) (a:PArc)=>.inl (if m.getD a.from_.toNat false=true then m.set a.to_.toNat true else m)) e k m l=e (Zfn (l.map fun a=>(a.from_.toNat,a.to_.toNat)) m)
 |[],k,m=>rfl
 |a::l,k,m=>ZxG e l (k+1) _
theorem Zq9 {R:Type} (es:List (Nat×Nat)) (e:List Bool→Option R):∀(l:List (List UInt8)) (k:Nat) (m:List Bool),Z5 (fun (m:List Bool) (_:Nat) (_:List UInt8)=>.inl (Zfn es m)) e k m l=e (metG es l.length m)
 |[],k,m=>rfl
 |a::l,k,m=>Zq9 es e l (k+1) _
theorem Zys (c:PSG) (hc:SGFit c) (hp:CodesP c) (ha:Zpf c.codes.length c.arcs):ZjI [eSG c]=some (pB ((ZwI c.codes.length (Zpe c) 0).all id)):=by
 have h1:=hp.one
 have h2:=hp.many
 have h3:=hp.arcs
 have hmk:=Zs7 (TI.mk 1 1 TD.bool [ZC.bool] [] false) c.codes.length (by omega)
 have hz:Zba (TI.mk 1 1 TD.bool [ZC.bool] [] false)=.bool false:=rfl
 rw[hz] at hmk
 have hp0:ZaM (List.replicate c.codes.length (PV.bool false)) (.int .i64 ((0:Nat):Int))=some (.int .i64 ((0:Nat):Int)):=ZbE (by simp;omega)
 have hg0:(List.replicate c.codes.length (PV.bool false))[0]?=some (.bool false):=by rw[List.getElem?_replicate,if_pos (by omega)]
 have hs0:(List.replicate c.codes.length (PV.bool false)).set 0 (.bool true)=((List.replicate c.codes.length false).set 0 true).map PV.bool:=by rw[←ZjA,List.map_replicate]
 simp only[Int.natCast_zero] at hp0
 have ht0:Int.toNat 0=0:=rfl
 show (fun x0=>ZjI [x0]) _=_
 rw[Zwz]
 simp only[eSG,List.length_map,hmk,hp0,ht0,hg0,se_b,hs0,EVS]
 obtain ⟨m0,hm0⟩:∃m0,(List.replicate c.codes.length false).set 0 true=m0:=⟨_,rfl⟩
 have hl0:m0.length=c.codes.length:=by rw[←hm0];simp
 unfold ZwI
 rw[hm0]
 refine (congrArg (fun m:Option PV=>m.bind fun r=>if r.sc=true then some r else none) ((ZaI (R:=PV) c.codes (fun (m:List Bool) k=>[.lst (m.map PV.bool),pI (Int.ofNat k)]) (fun _ m=>m.length=c.codes.length) (fun (m:List Bool) _ _=>.inl (Zfn (Zpe c) m)) (fun m=>some (pB (m.all id))) _ (by omega) (fun m k x m' hm hx he=> ?_) (fun again m k x hm hx=> ?_) (fun again m hm=> ?_) hl0).trans (Zq9 _ _ _ _ _))).trans ?_
 ·cases he;rw[Znq];exact hm
 ·have hk:=Ze hx
  simp only[Zs hk,EVS]
  refine (ZaI (R:=PV) c.arcs (fun (m:List Bool) k=>[.lst (m.map PV.bool),pI (Int.ofNat k)]) (fun _ m=>m.length=c.codes.length) (fun (m:List Bool) _ a=>.inl (if m.getD a.from_.toNat false=true then m.set a.to_.toNat true else m)) (fun m=>again [.lst (m.map PV.bool),pI (Int.ofNat (k+1))]) _ (by omega) (fun m j a m' hm ha' he=> ?_) (fun again' m j a hm ha'=> ?_) (fun again' m hm=> ?_) hm).trans (ZxG _ _ _ _)
  ·cases he;split<;>simp[hm]
  ·have hj:=Ze ha'
   obtain ⟨f,t,hf,ht,l1,l2⟩:=ZmG ha (List.mem_of_getElem? ha')
   have hi:Zk (.lst (c.arcs.map Z3)) (.int .i64 (j:Int))=some (Z3 a):=Zj ha'
   have p1:ZaM (m.map PV.bool) (.int .i64 (f:Int))=some (.int .i64 (f:Int)):=ZbE (by rw[List.length_map];omega)
   have p2:ZaM (m.map PV.bool) (.int .i64 (t:Int))=some (.int .i64 (t:Int)):=ZbE (by rw[List.length_map];omega)
   have q1:(m.map PV.bool)[f]?=some (.bool (m.getD f false)):=by rw[List.getElem?_map,List.getD_eq_getElem?_getD,List.getElem?_eq_getElem (by omega)];rfl
   have q2:(m.map PV.bool)[t]?=some (.bool (m.getD t false)):=by rw[List.getElem?_map,List.getD_eq_getElem?_getD,List.getElem?_eq_getElem (by omega)];rfl
   have st:(m.map PV.bool).set t (.bool true)=(m.set t true).map PV.bool:=ZjA PV.bool m t true
   rw[hf,ht,Int.toNat_natCast,Int.toNat_natCast]
   cases hb:m.getD f false<;>simp only[Zs hj,Zi hj (show c.arcs.length≤9223372036854775807 by omega),hi,Z3,hf,ht,p1,p2,q1,q2,hb,se_b,st,Bool.false_eq_true,if_false,if_true,EVS]
  ·simp only[ZW,Zi hk (show c.codes.length≤9223372036854775807 by omega),EVS]
 ·simp only[ZW,EVS]
  refine (ZO (R:=PV) m (fun _ b=>b) (some (pB false)) (some (pB true)) _ (by omega) (fun again k b hb=> ?_) (fun again=> ?_)).trans ?_
  ·have hk:=Ze hb
   have p1:ZaM (m.map PV.bool) (.int .i64 (k:Int))=some (.int .i64 (k:Int)):=ZbE (by rw[List.length_map];omega)
   have q1:(m.map PV.bool)[k]?=some (.bool b):=by rw[List.getElem?_map,hb];rfl
   cases b<;>simp only[List.length_map,Zs hk,Zi hk (show m.length≤9223372036854775807 by omega),p1,q1,Bool.false_eq_true,if_false,if_true,EVS]
  ·simp only[List.length_map,ZW,EVS]
  ·rw[Zaj]
   show _=some (pB (m.all fun b=>b))
   cases m.all (fun b=>b)<;>rfl
 ·simp only[EVS]
theorem Zkf (n s:Nat) (es:List (Nat×Nat)) (hn:n≤1000) (hs:s<n) (hl:es.length≤100000) (hes:∀e∈es,e.1<n∧e.2<n):Zdq [pI (n:Int),.lst (es.map pSt),pI (s:Int)]=some (.lst ((Zbp n es s).map pI)):=by
 have hc:(0:Int)≤(n:Int)∧(n:Int)≤1000∧(0:Int)≤(s:Int)∧(s:Int)<(n:Int)∧es.length≤100000∧(es.all fun e=>decide (e.1<(n:Int).toNat∧e.2<(n:Int).toNat))=true:=by
  refine ⟨by omega,by omega,by omega,by omega,hl,List.all_eq_true.2 fun e he=> ?_⟩
  rw[Int.toNat_natCast]
  exact decide_eq_true (hes e he)
 show (match ZpT (es.map pSt) with
  |some es=>if (0:Int)≤(n:Int)∧(n:Int)≤1000∧(0:Int)≤(s:Int)∧(s:Int)<(n:Int)∧es.length≤100000∧(es.all fun e=>decide (e.1<(n:Int).toNat∧e.2<(n:Int).toNat))=true then some (PV.lst ((Zbp (n:Int).toNat es (s:Int).toNat).map pI)) else none
  |none=>none)=_
 rw[Zrh]
 show (if _ then _ else _)=_
 rw[if_pos hc,Int.toNat_natCast,Int.toNat_natCast]
def ZgU (c:PSG):Bool:=(Zkc c.signals&&inR c.codes.length 1 300)&& !decide ((4000:Int)<c.arcs.length)
def Zsd (c:PSG):Bool:=c.codes.all fun x=>Z2 x c.signals.length
def Zhk (c:PSG):Bool:=c.arcs.all (Zky c)
def ZiK (c:PSG):Bool:=(ZwI c.codes.length (Zpe c) 0).all id
def sgV (c:PSG):Bool:=(ZgU c&&Zsd c)&&(Zhk c&&ZiK c)
theorem ZiL {c:PSG} (h1:ZgU c=true) (h2:Zsd c=true):CodesP c:=by
 unfold ZgU inR at h1
 simp only[Bool.and_eq_true,Bool.not_eq_true',decide_eq_true_eq,decide_eq_false_iff_not] at h1
 unfold Zsd at h2
 exact ⟨by omega,by omega,fun x hx=>List.all_eq_true.1 h2 x hx,by omega⟩
theorem Zra {c:PSG} (h:Zhk c=true):Zpf c.codes.length c.arcs:=fun a ha=>by
 have:=List.all_eq_true.1 h a ha
 unfold Zky Zc0 at this
 simp only[Bool.and_eq_true] at this
 exact this.1.1
theorem Zwd (c:PSG) (hc:SGFit c):Zh3 [eSG c]=some (pB (sgV c)):=by
 have hcl:=hc.codes
 have hal:=hc.arcs
 unfold ZA at hcl hal
 have g1:=Zkd c.signals hc.sigs hc.names
 have g2:=ZaJ (c.codes.length:Int) 1 300
 have gi:inR (c.codes.length:Int) 1 300=(decide ((1:Int)≤c.codes.length)&&decide ((c.codes.length:Int)≤300)):=rfl
 rw[←gi] at g2
 show (fun x0=>Zh3 [x0]) _=_
 rw[ZuY]
 unfold sgV
 cases hpre:ZgU c
 ·unfold ZgU at hpre
  cases c1:Zkc c.signals
  ·simp only[eSG,List.length_map,g1,c1,EVS]
  cases c2:inR (c.codes.length:Int) 1 300
  ·simp only[eSG,List.length_map,g1,g2,c1,c2,EVS]
  cases c3:decide ((4000:Int)<c.arcs.length)
  ·rw[c1,c2,c3] at hpre;cases hpre
  ·simp only[eSG,List.length_map,g1,g2,c1,c2,c3,EVS]
 have hpre':=hpre
 unfold ZgU at hpre'
 simp only[Bool.and_eq_true,Bool.not_eq_true'] at hpre'
 obtain ⟨⟨c1,c2⟩,c3⟩:=hpre'
 simp only[eSG,List.length_map,g1,g2,c1,c2,c3,EVS]
 refine (congrArg (fun m:Option PV=>m.bind fun r=>if r.sc=true then some r else none) (Zjs (R:=PV) c.codes (fun _ x=>Z2 x c.signals.length) (some (pB false)) (some (pB (Zhk c&&ZiK c))) _ hcl (fun again k x hx=> ?_) (fun hall again=> ?_))).trans ?_
 ·have hk:=Ze hx
  have hi:Zk (.lst (c.codes.map PV.str)) (.int .i64 (k:Int))=some (.str x):=Zj hx
  have g:=Zo5 x c.signals.length (hc.each x (List.mem_of_getElem? hx))
  cases cb:Z2 x c.signals.length<;>simp only[Zs hk,Zi hk hcl,hi,g,cb,Bool.false_eq_true,if_false,if_true,EVS]
 ·rw[Zaj] at hall
  have hp:=ZiL hpre hall
  simp only[ZW,EVS]
  refine (Zjs (R:=PV) c.arcs (fun _ a=>Zky c a) (some (pB false)) (some (pB (ZiK c))) _ hal (fun again k a hx=> ?_) (fun hall' again=> ?_)).trans ?_
  ·have hk:=Ze hx
   have hi:Zk (.lst (c.arcs.map Z3)) (.int .i64 (k:Int))=some (Z3 a):=Zj hx
   have g:=Zyr c a hc hp
   simp only[eSG,Z3] at g
   cases cb:Zky c a<;>simp only[Z3,Zs hk,Zi hk hal,hi,g,cb,ZS,Zw1,Bool.false_eq_true,if_false,if_true,EVS]
  ·rw[Zaj] at hall'
   have g:=Zys c hc hp (Zra hall')
   simp only[eSG] at g
   simp only[ZW,ZS,g,EVS]
   rfl
  ·rw[Zaj]
   show _=some (pB (c.arcs.all (Zky c)&&ZiK c))
   cases c.arcs.all (Zky c)<;>rfl
 ·rw[Zaj]
  show _=some (pB ((true&&c.codes.all (fun x=>Z2 x c.signals.length))&&(Zhk c&&ZiK c)))
  cases c.codes.all (fun x=>Z2 x c.signals.length)<;>simp only[Bool.false_eq_true,if_false,if_true,EVS]<;>rfl
theorem ZiM (l:List Int) (x:Int) (hl:ZA l):Zbn [.lst (l.map pI),pI x]=some (pI (ixf (fun a=>decide (x=a)) 0 l)):=by
 show (fun x0 x1=>Zbn [x0,x1]) _ _=_
 rw[Zij]
 unfold ZA at hl
 simp only[EVS]
 refine (congrArg (fun m:Option PV=>m.bind fun r=>if r.sc=true then some r else none) (ZcY l (fun a=>decide (x=a)) _ hl (fun again k a hb=> ?_) (fun again=> ?_))).trans ?_
 ·have hk:=Ze hb
  have hi:Zk (.lst (l.map pI)) (.int .i64 (k:Int))=some (pI a):=Zj hb
  simp only[Zs hk,Zi hk hl,hi,EVS]
 ·simp only[ZW,EVS]
  rfl
 ·simp only[EVS]
theorem ZgV (l:List Int) (x:Int) (hl:ZA l):ZaS [.lst (l.map pI),pI x]=some (pB (!ZN (fun _ a=> !decide (x=a)) 0 l)):=by
 have g:=ZiM l x hl
 show (fun x0 x1=>ZaS [x0,x1]) _ _=_
 rw[ZgC]
 simp only[g,ZeT (fun a=>decide (x=a)) l 0,EVS]
theorem Zpg {R:Type} (e:List (Nat×Nat)→Option R):∀(l:List PArc) (k:Nat) (acc:List (Nat×Nat)),Z5 (fun (acc:List (Nat×Nat)) (_:Nat) (a:PArc)=>.inl (acc++[(a.from_.toNat,a.to_.toNat)])) e k acc l=e (acc++l.map fun a=>(a.from_.toNat,a.to_.toNat))
 |[],k,acc=>by simp[Z5]
 | a::l,k,acc=>by
  show Z5 _ e (k+1) (acc++[(a.from_.toNat,a.to_.toNat)]) l=_
  rw[Zpg e l]
  simp
theorem ZA0 (a b:PV):splice (splice [ZC.pv (.int .i64),ZC.pv (.int .i64)] 0 [a]) 1 [b]=[a,b]:=rfl
theorem Zse (n:Nat) (l:List PArc) (ha:Zpf n l) (hl:l.length≤4000):Zff [.lst (l.map Z3)]=some (.lst ((l.map fun a=>(a.from_.toNat,a.to_.toNat)).map pSt)):=by
 show (fun x0=>Zff [x0]) _=_
 rw[Zqs]
 simp only[List.length_map,EVS]
 refine (ZaI (R:=PV) l (fun (acc:List (Nat×Nat)) k=>[.lst (acc.map pSt),pI (Int.ofNat k)]) (fun k acc=>acc.length=k) (fun (acc:List (Nat×Nat)) _ a=>.inl (acc++[(a.from_.toNat,a.to_.toNat)])) (fun acc=>some (.lst (acc.map pSt))) _ (by omega) (fun acc k x acc' hi hx he=> ?_) (fun again acc k a hi hx=> ?_) (fun again acc hi=> ?_) (b:=[]) rfl).trans ((Zpg _ _ _ _).trans ?_)
 ·cases he;simp;omega
 ·have hk:=Ze hx
  obtain ⟨f,t,hf,ht,l1,l2⟩:=ZmG ha (List.mem_of_getElem? hx)
  have hi':Zk (.lst (l.map Z3)) (.int .i64 (k:Int))=some (Z3 a):=Zj hx
  have hla:acc.length+[PV.agg [pI (f:Int),pI (t:Int)]].length≤4294967296∧[PV.agg [pI (f:Int),pI (t:Int)]].all (Zao 2)=true:=⟨by simp;omega,rfl⟩
  have hps:acc.map pSt++[PV.agg [pI (f:Int),pI (t:Int)]]=(acc++[(f,t)]).map pSt:=by simp[pSt]
  simp only[Zs hk,Zi hk (show l.length≤9223372036854775807 by omega),hi',Z3,hf,ht,Int.toNat_natCast,ZA0,List.length_map,if_pos hla,hps,EVS]
 ·simp only[ZW,EVS]
 ·rfl
theorem ZiN (x:Int):∀(l:List Int) (k:Nat),ZN (fun _ a=> !decide (x=a)) k l= !decide (x∈l)
 |[],k=>by simp[ZN]
 | a::l,k=>by
  unfold ZN
  rw[ZiN x l (k+1),Bool.eq_iff_iff]
  simp only[Bool.and_eq_true,Bool.not_eq_true',decide_eq_false_iff_not,List.mem_cons,not_or]
theorem Zsf {c:PSG} (h:Zpf c.codes.length c.arcs):∀e∈Zpe c,e.1<c.codes.length∧e.2<c.codes.length:=fun e he=>by
 unfold Zpe at he
 obtain ⟨a,ha,rfl⟩:=List.mem_map.1 he
 obtain ⟨f,t,hf,ht,l1,l2⟩:=ZmG h ha
 simp only[hf,ht,Int.toNat_natCast]
 exact ⟨l1,l2⟩
theorem Zih (c:PSG) (hc:SGFit c):Za7 [eSG c]=some (pB (sgV c)):=by
 have hcl:=hc.codes
 have hal:=hc.arcs
 have hsl:=hc.sigs
 unfold ZA at hcl hal hsl
 have g1:=ZiJ c.signals hc.sigs hc.names
 rw[←ZxA] at g1
 have g2:=Zah (c.codes.length:Int) 1 300
 show (fun x0=>Za7 [x0]) _=_
 rw[ZhO]
 unfold sgV
 cases hpre:ZgU c
 ·unfold ZgU at hpre
  cases c1:Zkc c.signals
  ·simp only[eSG,List.length_map,g1,c1,EVS]
  cases c2:inR (c.codes.length:Int) 1 300
  ·simp only[eSG,List.length_map,g1,g2,c1,c2,EVS]
  cases c3:decide ((4000:Int)<c.arcs.length)
  ·rw[c1,c2,c3] at hpre;cases hpre
  ·simp only[eSG,List.length_map,g1,g2,c1,c2,c3,EVS]
 have hpre':=hpre
 unfold ZgU at hpre'
 simp only[Bool.and_eq_true,Bool.not_eq_true'] at hpre'
 obtain ⟨⟨c1,c2⟩,c3⟩:=hpre'
 have hw:IntKind.i64.wrap ((c.codes.length:Int) - 1)=(c.codes.length:Int) - 1:=Zav (by omega) (by omega)
 simp only[eSG,List.length_map,g1,g2,c1,c2,c3,hw,EVS]
 refine (congrArg (fun m:Option PV=>m.bind fun r=>if r.sc=true then some r else none) (Zjs (R:=PV) c.codes (fun _ x=>Z2 x c.signals.length) (some (pB false)) (some (pB (Zhk c&&ZiK c))) _ hcl (fun again k x hx=> ?_) (fun hall again=> ?_))).trans ?_
 ·have hk:=Ze hx
  have hi:Zk (.lst (c.codes.map PV.str)) (.int .i64 (k:Int))=some (.str x):=Zj hx
  have g:=Zo6 x c.signals.length (hc.each x (List.mem_of_getElem? hx))
  cases cb:Z2 x c.signals.length<;>simp only[Zs hk,Zi hk hcl,hi,g,cb,Bool.false_eq_true,if_false,if_true,EVS]
 ·rw [Zaj] at hall
  have hp:=ZiL hpre hall
  simp only[ZW,EVS]
  refine (Zjs (R:=PV) c.arcs (fun _ a=>Zky c a) (some (pB false)) (some (pB (ZiK c))) _ hal (fun again k a hx=> ?_) (fun hall' again=> ?_)).trans ?_
  ·have hk:=Ze hx
   have hi:Zk (.lst (c.arcs.map Z3)) (.int .i64 (k:Int))=some (Z3 a):=Zj hx
   have g3:=Zah a.from_ 0 ((c.codes.length:Int) - 1)
   have g4:=Zah a.to_ 0 ((c.codes.length:Int) - 1)
   have g5:=Zv8 a.sig a.up c.signals.length hsl
   unfold Zky
   cases hg:Zc0 c.signals.length ((c.codes.length:Int) - 1) a
   ·unfold Zc0 at hg
    cases d1:inR a.from_ 0 ((c.codes.length:Int) - 1)
    ·simp only[Z3,Zs hk,Zi hk hal,hi,List.length_map,g3,d1,Bool.false_eq_true,if_false,if_true,EVS]
    cases d2:inR a.to_ 0 ((c.codes.length:Int) - 1)
    ·simp only[Z3,Zs hk,Zi hk hal,hi,List.length_map,g3,g4,d1,d2,Bool.false_eq_true,if_false,if_true,EVS]
    cases d3:Zf3 c.signals.length a.sig a.up
    ·simp only[Z3,Zs hk,Zi hk hal,hi,List.length_map,g3,g4,g5,d1,d2,d3,Zpc,Bool.false_eq_true,if_false,if_true,EVS]
    ·rw[d1,d2,d3] at hg;cases hg
   ·obtain ⟨f,t,x,y,hf,ht,l1,l2,hx',hy',he⟩:=Zpd hg
    unfold Zc0 at hg
    simp only[Bool.and_eq_true] at hg
    have bx:=hp.bits x (List.mem_of_getElem? hx')
    have by_:=hp.bits y (List.mem_of_getElem? hy')
    have i1:Zk (.lst (c.codes.map PV.str)) (.int .i64 (f:Int))=some (.str x):=Zj hx'
    have i2:Zk (.lst (c.codes.map PV.str)) (.int .i64 (t:Int))=some (.str y):=Zj hy'
    have e1:c.codes.getD f []=x:=by rw[List.getD_eq_getElem?_getD,hx'];rfl
    have e2:c.codes.getD t []=y:=by rw[List.getD_eq_getElem?_getD,hy'];rfl
    have d1:=hg.1.1
    have d2:=hg.1.2
    have lx:=ZgT bx
    have ly:=ZgT by_
    have g6:=Zqa a x y (hc.each x (List.mem_of_getElem? hx')) (by omega)
    rw[ZAZ a.sig a.up x y _ bx by_ he] at g6
    simp only[Z3,hf,ht] at g3 g4 g6 d1 d2
    rw[hf,ht,Int.toNat_natCast,Int.toNat_natCast,e1,e2]
    cases d4:ZlN a.sig a.up x y<;>simp only[Z3,hf,ht,Zs hk,Zi hk hal,hi,List.length_map,g3,g4,g5,g6,d1,d2,he,d4,i1,i2,Zpc,Zw1,Bool.false_eq_true,if_false,if_true,EVS]
  ·rw[Zaj] at hall'
   have hin:=Zra hall'
   have g7:=Zse c.codes.length c.arcs hin hp.arcs
   have g8:=Zkf c.codes.length 0 (Zpe c) (by have:=hp.many;omega) hp.one (by have:=hp.arcs;unfold Zpe;rw[List.length_map];omega) (Zsf hin)
   have hd:=Zg2 hp.one (Zsf hin)
   have g9:=ZgV (Zbp c.codes.length (Zpe c) 0) (-1) (by unfold ZA;rw[hd.len];omega)
   have hme:ZiK c= !decide ((-1:Int)∈Zbp c.codes.length (Zpe c) 0):=ZAg hp.one (Zsf hin)
   rw[ZiN] at g9
   unfold Zpe at g8
   simp only[ZW,List.length_map,g7,EVS]
   rw[show (Int.negSucc 0)=(-1:Int) from rfl]
   simp only[Int.natCast_zero] at g8
   simp only[g8,EVS]
   unfold Zpe at g9 hme
   simp only[g9,hme,Bool.not_not,EVS]
  ·rw[Zaj]
   show _=some (pB (c.arcs.all (Zky c)&&ZiK c))
   cases c.arcs.all (Zky c)<;>rfl
 ·rw[Zaj]
  show _=some (pB ((true&&c.codes.all (fun x=>Z2 x c.signals.length))&&(Zhk c&&ZiK c)))
  cases c.codes.all (fun x=>Z2 x c.signals.length)<;>simp only[Bool.false_eq_true,if_false,if_true,EVS]<;>rfl
end Go.Proofs.YtpceleehbpnchaaGreat
