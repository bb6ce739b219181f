import Derived.Test.YtpceleehbpnchaaGreatUnexpectedFlipsF
import Derived.Test.YtpceleehbpnchaaGreatData
import Derived.Test.YtpceleehbpnchaaGreatDistPure
import Derived.Test.YtpceleehbpnchaaGreatSysPure
namespace Go.Proofs.YtpceleehbpnchaaGreat
open Go.RowKit
set_option linter.unusedVariables false
set_option linter.unusedSimpArgs false
theorem ZaJ (n lo hi:Int):Zak [pI n,pI lo,pI hi]=some (pB (decide (lo≤n)&&decide (n≤hi))):=by
 show (fun x0 x1 x2=>Zak [x0,x1,x2]) _ _ _=_
 rw[ZzI]
 by_cases h:lo≤n<;>simp only[h,EVS]
def ZBb (first:Bool) (b:UInt8):Bool:=(decide ((97:Int)≤b.toNat)&&decide ((b.toNat:Int)≤122))||(!first&&(!decide ((b.toNat:Int)<48)&& !decide ((57:Int)<b.toNat)))
def Zk0 :Bool→List UInt8→Bool
 |_,[]=>true
 |f,b::r=>ZBb f b&&Zk0 false r
def ZaO (s:List UInt8):Bool:=Zk0 true s&&(decide ((1:Int)≤s.length)&&decide ((s.length:Int)≤6))
theorem ZpA (s:List UInt8) (hs:s.length≤9223372036854775807):ZfX [.str s]=some (pB (ZaO s)):=by
 show (fun x0=>ZfX [x0]) _=_
 rw[ZvM]
 refine (congrArg (Zf true) (ZaP (R:=PV) (fun k:Nat=>[pI (Int.ofNat k)]) (fun k=>s.length+1 - k) (fun k=>some (pB (Zk0 (k==0) (s.drop k)&&(decide ((1:Int)≤s.length)&&decide ((s.length:Int)≤6))))) _ (fun again k ih=> ?_) _ 0 (by omega))).trans ?_
 ·by_cases hk:k<s.length
  ·obtain ⟨b,hb⟩:∃b,s[k]?=some b:=⟨s[k],List.getElem?_eq_getElem hk⟩
   have hd:s.drop k=b::s.drop (k+1):=by
    obtain ⟨h1,rfl⟩:=List.getElem?_eq_some_iff.1 hb
    exact List.drop_eq_getElem_cons h1
   have hlt:decide ((k:Int)<s.length)=true:=by simpa using hk
   have hw:IntKind.i64.wrap ((k:Int)+1)=((k+1:Nat):Int):=by rw[Zaw (by omega) (by omega)];omega
   have hnext:=ih (k+1) (by omega)
   simp only[Int.ofNat_eq_natCast] at hnext
   have hk0:decide ((k:Int)=0)=(k==0):=by rw[Bool.eq_iff_iff];simp
   rw[hd]
   have hk1:(k+1==0)=false:=rfl
   rw[hk1] at hnext
   have ev1:=hlt
   have ev2:=Zq (k:=.i64) hb
   simp only[Zk0,ZBb,hlt,Zq hb,hk0,hw,hnext,EVS]
   by_cases c1:(97:Int)≤b.toNat
   all_goals simp only[c1,Zq hb,EVS]
   by_cases c2:(b.toNat:Int)≤122
   all_goals try simp only[c2,Zq hb,EVS]
   all_goals try simp only[hk0]
   all_goals try (cases c5:(k==0))
   all_goals try simp only[c5,Zq hb,EVS]
   all_goals try (by_cases c3:(b.toNat:Int)<48)
   all_goals try simp only[c3,Zq hb,EVS]
   all_goals try (by_cases c4:(57:Int)<b.toNat)
   all_goals try simp only[c4,Zq hb,EVS]
  ·have hd:s.drop k=[]:=List.drop_eq_nil_of_le (by omega)
   have hlt:decide ((k:Int)<s.length)=false:=by simpa using hk
   rw[hd]
   simp only[Zk0,hlt,ZaJ,EVS]
 ·simp only[ZaO,List.drop_zero,beq_self_eq_true,EVS]
def ZnO (b:UInt8):Bool:=decide ((b.toNat:Int)=48)||decide ((b.toNat:Int)=49)||decide ((b.toNat:Int)=45)
def Zmk (s:List UInt8):Bool:=ZM (fun _ b=>ZnO b) 0 s&&(decide ((1:Int)≤s.length)&&decide ((s.length:Int)≤8))
theorem Ze {α:Type} {l:List α} {k:Nat} {x:α} (h:l[k]?=some x):k<l.length:=(List.getElem?_eq_some_iff.1 h).1
theorem Zi {k n:Nat} (h:k<n) (hn:n≤9223372036854775807):IntKind.i64.wrap ((k:Int)+1)=((k+1:Nat):Int):=by rw[Zaw (by omega) (by omega)];omega
theorem Zr {k n:Nat} (h:k<n):decide ((k:Int)<(n:Int))=true:=by simpa using h
theorem ZV {n:Nat}:decide ((n:Int)<(n:Int))=false:=by simp
theorem ZuX (s:List UInt8) (hs:s.length≤9223372036854775807):Zgq [.str s]=some (pB (Zmk s)):=by
 show (fun x0=>Zgq [x0]) _=_
 rw[Ztp]
 refine (congrArg (Zf true) (ZN (R:=PV) s (fun _ b=>ZnO b) (some (pB false)) (some (pB (decide ((1:Int)≤s.length)&&decide ((s.length:Int)≤8)))) _ hs (fun again k b hb=> ?_) (fun again=> ?_))).trans ?_
 ·have hk:=Ze hb
  cases c1:decide ((b.toNat:Int)=48)<;>cases c2:decide ((b.toNat:Int)=49)<;>cases c3:decide ((b.toNat:Int)=45)<;>
   simp only[ZnO,Zr hk,Zi hk hs,Zq hb,c1,c2,c3,EVS]
 ·simp only[ZV,ZaJ,EVS]
 ·unfold Zmk
  cases ZM (fun _ b=>ZnO b) 0 s<;>simp only[EVS]
abbrev ZD (s:List UInt8×Int):PV:=.agg [.str s.1,pI s.2]
def inR (n lo hi:Int):Bool:=decide (lo≤n)&&decide (n≤hi)
def ZrQ (l:List (List UInt8×Int)) (k:Nat) (s:List UInt8×Int):Bool:=(ZaO s.1&&inR s.2 1 3)&&ZM (fun _ y=> !decide (s.1=y.1)) 0 (l.take k)
def ZkF (l:List (List UInt8×Int)):Bool:=ZM (ZrQ l) 0 l&&inR l.length 1 8
theorem ZrR (x:List UInt8×Int):Zal 2 (ZD x)=true:=rfl
theorem ZkG (l:List (List UInt8×Int)) (hl:l.length≤9223372036854775807) (hs:∀s∈l,s.1.length≤9223372036854775807):Zdt [.lst (l.map ZD)]=some (pB (ZkF l)):=by
 show (fun x0=>Zdt [x0]) _=_
 rw[Zqj]
 simp only[EVS]
 refine (congrArg (Zf true) (ZN (R:=PV) l (ZrQ l) (some (pB false)) (some (pB (inR l.length 1 8))) _ hl (fun again k s hb=> ?_) (fun again=> ?_))).trans ?_
 ·have hk:=Ze hb
  have hi:Zk (.lst (l.map ZD)) (.int .i64 (k:Int))=some (ZD s):=Zj hb
  have hc:ZlS 2 (.lst (l.map ZD)) none (some (.int .i64 (k:Int)))=some (.lst ((l.take k).map ZD)):=Zom ZrR (by omega)
  have hn:=ZpA s.1 (hs s (List.mem_of_getElem? hb))
  simp only[Zr hk,Zi hk hl,hi,ZD,hn,ZaJ,ZrQ,inR,EVS]
  obtain c1|c1:=(Bool.eq_false_or_eq_true (ZaO s.1)).symm<;>simp only[c1,ZaJ,EVS]
  obtain c2|c2:=(Bool.eq_false_or_eq_true (decide (1≤s.2)&&decide (s.2≤3))).symm<;>simp only[c2,EVS]
  simp only[hc,EVS]
  refine (ZN (R:=PV) (l.take k) (fun _ y=> !decide (s.1=y.1)) (some (pB false)) (again [pI ((k+1:Nat):Int)]) _ (by simp;omega) (fun again' j y hy=> ?_) (fun again'=> ?_)).trans ?_
  ·have hj:=Ze hy
   have hi':Zk (.lst ((l.take k).map ZD)) (.int .i64 (j:Int))=some (ZD y):=Zj hy
   simp only[Zr hj,Zi hj (by simp;omega),hi',ZD,EVS]
   cases c3:decide (s.1=y.1)<;>simp only[c3,EVS]
  ·simp only[ZV,Zi hk hl,EVS]
  ·rfl
 ·simp only[ZV,ZaJ,inR,EVS]
 ·unfold ZkF
  cases ZM (ZrQ l) 0 l<;>simp only[EVS]
def Zox (n:Int) (l:List (List UInt8)):Bool:=ZM (fun _ c=>Zmk c&&decide ((c.length:Int)=n)) 0 l
def ZpB (n:Int) (l:List (List UInt8)):Bool:=Zox n l&&(inR n 1 8&&decide ((l.length:Int)≤60))
theorem ZuY (n:Int) (l:List (List UInt8)) (hl:l.length≤9223372036854775807) (hs:∀s∈l,s.length≤9223372036854775807):Zgr [pI n,.lst (l.map PV.str)]=some (pB (ZpB n l)):=by
 show (fun x0 x1=>Zgr [x0,x1]) _ _=_
 rw[Ztr]
 simp only[EVS]
 refine (congrArg (Zf true) (ZN (R:=PV) l (fun _ c=>Zmk c&&decide ((c.length:Int)=n)) (some (pB false)) (some (pB (inR n 1 8&&decide ((l.length:Int)≤60)))) _ hl (fun again k s hb=> ?_) (fun again=> ?_))).trans ?_
 ·have hk:=Ze hb
  have hi:Zk (.lst (l.map PV.str)) (.int .i64 (k:Int))=some (.str s):=Zj hb
  have hn:=ZuX s (hs s (List.mem_of_getElem? hb))
  simp only[Zr hk,Zi hk hl,hi,hn,EVS]
  obtain c1|c1:=(Bool.eq_false_or_eq_true (Zmk s)).symm<;>simp only[c1,EVS]
  obtain c2|c2:=(Bool.eq_false_or_eq_true (decide ((s.length:Int)=n))).symm<;>simp only[c2,EVS]
 ·simp only[ZV,ZaJ,inR,EVS]
  obtain c1|c1:=(Bool.eq_false_or_eq_true (decide (1≤n)&&decide (n≤8))).symm<;>simp only[c1,EVS]
 ·unfold ZpB Zox
  cases ZM (fun _ c=>Zmk c&&decide ((c.length:Int)=n)) 0 l<;>simp only[EVS]
structure PWire where
 name:List UInt8
 kind:Int
 ins:List (Int×Bool)
 cover:List (List UInt8)
structure PNet where
 signals:List (List UInt8×Int)
 wires:List PWire
abbrev Zac (p:Int×Bool):PV:=.agg [pI p.1,pB p.2]
abbrev Zn (w:PWire):PV:=.agg [.str w.name,pI w.kind,.lst (w.ins.map Zac),.lst (w.cover.map PV.str)]
abbrev Zo (n:PNet):PV:=.agg [.lst (n.signals.map ZD),.lst (n.wires.map Zn)]
abbrev ZA {α:Type} (l:List α):Prop:=l.length≤9223372036854775807
structure PWire.Fit (w:PWire):Prop where
 name:ZA w.name
 ins:ZA w.ins
 cover:ZA w.cover
 cubes:∀c∈w.cover,ZA c
structure PNet.Fit (n:PNet):Prop where
 signals:ZA n.signals
 names:∀s∈n.signals,ZA s.1
 wires:ZA n.wires
 wire:∀w∈n.wires,w.Fit
def Zi3 (n:PNet) (k:Nat) (p:Int×Bool):Bool:=inR p.1 0 ((n.wires.length:Int) - 1)&& !(decide ((n.signals.length:Int)≤k)&&decide ((k:Int)≤p.1))
def Zge (k:Nat) (kind:Int) (ins:List (Int×Bool)):Bool:=
 if decide (kind=1)=true then decide ((ins.length:Int)=0)
 else if decide (kind=4)=true then decide ((ins.length:Int)=2)
 else if decide (kind=5)=true then decide ((ins.length:Int)=0)||(match ins with|[p]=>decide (p.1=k)&& !p.2|_=>false)
 else inR ins.length 1 8
def ZrS (n:PNet) (k:Nat) (w:PWire):Bool:=ZM (fun _ p=>Zi3 n k p) 0 w.ins&&Zge k w.kind w.ins
theorem ZuZ (n:PNet) (k:Nat) (w:PWire) (hn:n.Fit) (hw:w.Fit):Zgs [Zo n,pI k,Zn w]=some (pB (ZrS n k w)):=by
 show (fun x0 x1 x2=>Zgs [x0,x1,x2]) _ _ _=_
 rw[Ztt]
 simp only[Zo,Zn,EVS]
 have hwl:IntKind.i64.wrap ((n.wires.length:Int) - 1)=(n.wires.length:Int) - 1:=Zaw (by omega) (by have:=hn.wires;unfold ZA at this;omega)
 have hi0:=hw.ins
 unfold ZA at hi0
 refine (congrArg (Zf true) (ZN (R:=PV) w.ins (fun _ p=>Zi3 n k p) (some (pB false)) (some (pB (Zge k w.kind w.ins))) _ hi0 (fun again j p hb=> ?_) (fun again=> ?_))).trans ?_
 ·have hk:=Ze hb
  have hi:Zk (.lst (w.ins.map Zac)) (.int .i64 (j:Int))=some (Zac p):=Zj hb
  simp only[Zr hk,Zi hk hi0,hi,Zac,hwl,ZaJ,Zi3,inR,EVS]
  obtain c1|c1:=(Bool.eq_false_or_eq_true (decide (0≤p.1)&&decide (p.1≤(n.wires.length:Int) - 1))).symm<;>simp only[c1,EVS]
  obtain c2|c2:=(Bool.eq_false_or_eq_true (decide ((n.signals.length:Int)≤(k:Int)))).symm<;>simp only[c2,EVS]
  obtain c3|c3:=(Bool.eq_false_or_eq_true (decide ((k:Int)≤p.1))).symm<;>simp only[c3,EVS]
 ·simp only[ZV,Zge,EVS]
  obtain c1|c1:=(Bool.eq_false_or_eq_true (decide (w.kind=1))).symm<;>simp only[c1,EVS]
  obtain c2|c2:=(Bool.eq_false_or_eq_true (decide (w.kind=4))).symm<;>simp only[c2,EVS]
  obtain c3|c3:=(Bool.eq_false_or_eq_true (decide (w.kind=5))).symm<;>simp only[c3,ZaJ,inR,EVS]
  have h01:decide ((0:Int)=1)=false:=rfl
  have h00:decide ((0:Int)=0)=true:=rfl
  have h11:decide ((1:Int)=1)=true:=rfl
  have h10:decide ((1:Int)=0)=false:=rfl
  rcases hq:w.ins with _|⟨p,_|⟨q,r⟩⟩
  ·simp only[List.length_nil,h00,EVS]
  ·have hi:Zk (.lst ([p].map Zac)) (.int .i64 0)=some (Zac p):=rfl
   simp only[List.length_cons,List.length_nil,Nat.zero_add,h11,h10,hi,Zac,List.drop_zero,List.drop_succ_cons,EVS]
   obtain c4|c4:=(Bool.eq_false_or_eq_true (decide (p.1=(k:Int)))).symm<;>simp only[c4,h11,h10,hi,Zac,List.drop_zero,List.drop_succ_cons,EVS]
  ·have h2:decide (((r.length+1+1:Nat):Int)=0)=false:=by simp;omega
   have h3:decide (((r.length+1+1:Nat):Int)=1)=false:=by simp;omega
   simp only[List.length_cons,h2,h3,EVS]
 ·unfold ZrS
  cases ZM (fun _ p=>Zi3 n k p) 0 w.ins<;>simp only[EVS]
def Zg9 (n:PNet) (k:Nat) (w:PWire):Bool:=match n.signals[k]? with|some s=>decide (w.name=s.1)&&(decide (w.kind=1)==decide (s.2=1))|none=>false
def Zml (n:PNet) (k:Nat) (w:PWire):Bool:=
 let seen:=decide ((k:Int)<(n.signals.length:Int))
 (inR w.kind 1 5&&(seen||decide (w.kind=2)||decide (w.kind=3)))&&(!seen||Zg9 n k w)&&(if decide (w.kind=5)=true then ZpB n.signals.length w.cover else !decide ((0:Int)<w.cover.length))&&(ZaO w.name&&ZrS n k w)
theorem Zu0 (n:PNet) (k:Nat) (w:PWire) (hn:n.Fit) (hw:w.Fit):Zgt [Zo n,pI k,Zn w]=some (pB (Zml n k w)):=by
 have g1:=ZuY n.signals.length w.cover hw.cover hw.cubes
 have g2:=ZpA w.name hw.name
 have g3:=ZuZ n k w hn hw
 have g4:=ZaJ w.kind 1 5
 simp only[Zo,Zn] at g3
 show (fun x0 x1 x2=>Zgt [x0,x1,x2]) _ _ _=_
 rw[Ztv]
 simp only[Zo,Zn,g4,EVS]
 have fin:∀b:Bool,((some (pB (ZaO w.name&&b))))=(some (pB (ZaO w.name&&b))):=fun _=>rfl
 simp only[Zml,inR]
 obtain c1|c1:=(Bool.eq_false_or_eq_true (decide (1≤w.kind)&&decide (w.kind≤5))).symm<;>simp only[c1,EVS]
 obtain c2|c2:=(Bool.eq_false_or_eq_true (decide ((k:Int)<(n.signals.length:Int)))).symm<;>simp only[c2,EVS]
 ·obtain c3|c3:=(Bool.eq_false_or_eq_true (decide (w.kind=2))).symm<;>simp only[c3,EVS]
  ·obtain c4|c4:=(Bool.eq_false_or_eq_true (decide (w.kind=3))).symm<;>simp only[c4,EVS]
   have c5:decide (w.kind=5)=false:=by have:=of_decide_eq_true c4;simp;omega
   simp only[c5,EVS]
   obtain c6|c6:=(Bool.eq_false_or_eq_true (decide ((0:Int)<w.cover.length))).symm<;>simp only[c6,g2,EVS]
   obtain c7|c7:=(Bool.eq_false_or_eq_true (ZaO w.name)).symm<;>simp only[c7,g3,EVS]
  ·have c4:decide (w.kind=3)=false:=by have:=of_decide_eq_true c3;simp;omega
   have c5:decide (w.kind=5)=false:=by have:=of_decide_eq_true c3;simp;omega
   simp only[c4,c5,EVS]
   obtain c6|c6:=(Bool.eq_false_or_eq_true (decide ((0:Int)<w.cover.length))).symm<;>simp only[c6,g2,EVS]
   obtain c7|c7:=(Bool.eq_false_or_eq_true (ZaO w.name)).symm<;>simp only[c7,g3,EVS]
 ·have hk:k<n.signals.length:=by have:=of_decide_eq_true c2;omega
  have hs:n.signals[k]?=some n.signals[k]:=List.getElem?_eq_getElem hk
  have hi:Zk (.lst (n.signals.map ZD)) (.int .i64 (k:Int))=some (ZD n.signals[k]):=Zj hs
  simp only[Zg9,hs,hi,ZD,List.drop_zero,List.drop_succ_cons,EVS]
  obtain c3|c3:=(Bool.eq_false_or_eq_true (decide (w.name=n.signals[k].1))).symm<;>simp only[c3,hi,ZD,List.drop_zero,List.drop_succ_cons,EVS]
  obtain c4|c4:=(Bool.eq_false_or_eq_true (decide (w.kind=1)==decide (n.signals[k].2=1))).symm<;>simp only[bne,c4,hi,ZD,List.drop_zero,List.drop_succ_cons,EVS]
  obtain c5|c5:=(Bool.eq_false_or_eq_true (decide (w.kind=5))).symm<;>simp only[c5,g1,g2,EVS]
  ·obtain c6|c6:=(Bool.eq_false_or_eq_true (decide ((0:Int)<w.cover.length))).symm<;>simp only[c6,g2,EVS]
   obtain c7|c7:=(Bool.eq_false_or_eq_true (ZaO w.name)).symm<;>simp only[c7,g3,EVS]
  ·obtain c6|c6:=(Bool.eq_false_or_eq_true (ZpB n.signals.length w.cover)).symm<;>simp only[c5,c6,g2,EVS]
   obtain c7|c7:=(Bool.eq_false_or_eq_true (ZaO w.name)).symm<;>simp only[c5,c7,g3,EVS]
def ZbK (n:PNet) (k:Nat) (w:PWire):Bool:=Zml n k w&&ZM (fun _ v=> !decide (v.name=w.name)) 0 (n.wires.take k)
def Zdm (n:PNet):Bool:=ZkF n.signals&&(!decide ((n.wires.length:Int)<n.signals.length)&& !decide ((24:Int)<n.wires.length))&&ZM (ZbK n) 0 n.wires
theorem ZpC (x:PWire):Zal 4 (Zn x)=true:=rfl
theorem ZnP (n:PNet) (hn:n.Fit):Ze0 [Zo n]=some (pB (Zdm n)):=by
 have g1:=ZkG n.signals hn.signals hn.names
 have hwl:=hn.wires
 unfold ZA at hwl
 show (fun x0=>Ze0 [x0]) _=_
 rw[Ztw]
 simp only[Zo,g1,EVS]
 unfold Zdm
 obtain c1|c1:=(Bool.eq_false_or_eq_true (ZkF n.signals)).symm<;>simp only[c1,EVS]
 obtain c2|c2:=(Bool.eq_false_or_eq_true (decide ((n.wires.length:Int)<n.signals.length))).symm<;>simp only[c2,EVS]
 obtain c3|c3:=(Bool.eq_false_or_eq_true (decide ((24:Int)<n.wires.length))).symm<;>simp only[c3,EVS]
 refine (congrArg (Zf true) (ZN (R:=PV) n.wires (ZbK n) (some (pB false)) (some (pB true)) _ hwl (fun again k w hb=> ?_) (fun again=> ?_))).trans ?_
 ·have hk:=Ze hb
  have hi:Zk (.lst (n.wires.map Zn)) (.int .i64 (k:Int))=some (Zn w):=Zj hb
  have hc:ZlS 4 (.lst (n.wires.map Zn)) none (some (.int .i64 (k:Int)))=some (.lst ((n.wires.take k).map Zn)):=Zom ZpC (by omega)
  have g3:=Zu0 n k w hn (hn.wire w (List.mem_of_getElem? hb))
  simp only[Zo,Zn] at g3
  simp only[Zr hk,Zi hk hwl,hi,Zn,ZbK,g3,EVS]
  obtain c4|c4:=(Bool.eq_false_or_eq_true (Zml n k w)).symm<;>simp only[c4,hc,EVS]
  refine (ZN (R:=PV) (n.wires.take k) (fun _ v=> !decide (v.name=w.name)) (some (pB false)) (again [pI ((k+1:Nat):Int)]) _ (by simp;omega) (fun again' j y hy=> ?_) (fun again'=> ?_)).trans ?_
  ·have hj:=Ze hy
   have hi':Zk (.lst ((n.wires.take k).map Zn)) (.int .i64 (j:Int))=some (Zn y):=Zj hy
   simp only[Zr hj,Zi hj (by simp;omega),hi',Zn,EVS]
   obtain c5|c5:=(Bool.eq_false_or_eq_true (decide (y.name=w.name))).symm<;>simp only[c5,EVS]
  ·simp only[ZV,Zi hk hwl,EVS]
  ·rfl
 ·simp only[ZV,EVS]
 ·cases ZM (ZbK n) 0 n.wires<;>simp only[EVS]
theorem Zah (n lo hi:Int):Z7 [pI n,pI lo,pI hi]=some (pB (inR n lo hi)):=by
 show (fun x0 x1 x2=>Z7 [x0,x1,x2]) _ _ _=_
 rw[Zvj]
 unfold inR
 by_cases h:lo≤n<;>simp only[h,EVS]
def Zm9 (k:Nat) (b:UInt8):Bool:=(decide ((97:Int)≤b.toNat)&&decide ((b.toNat:Int)≤122))||(!decide ((k:Int)=0)&&(decide ((48:Int)≤b.toNat)&&decide ((b.toNat:Int)≤57)))
def ZsW (s:List UInt8):Bool:=ZM Zm9 0 s&&inR s.length 1 6
theorem ZwW (s:List UInt8) (hs:s.length≤9223372036854775807):Zen [.str s]=some (pB (ZsW s)):=by
 show (fun x0=>Zen [x0]) _=_
 rw[Zvm]
 refine (congrArg (Zf true) (ZN (R:=PV) s Zm9 (some (pB false)) (some (pB (inR s.length 1 6))) _ hs (fun again k b hb=> ?_) (fun again=> ?_))).trans ?_
 ·have hk:=Ze hb
  simp only[Zm9,Zr hk,Zi hk hs,Zq hb,EVS]
  obtain c1|c1:=(Bool.eq_false_or_eq_true (decide ((97:Int)≤b.toNat))).symm<;>simp only[c1,Zq hb,EVS]
  all_goals (obtain c2|c2:=(Bool.eq_false_or_eq_true (decide ((b.toNat:Int)≤122))).symm<;>try simp only[c2,Zq hb,EVS])
  all_goals (obtain c3|c3:=(Bool.eq_false_or_eq_true (decide ((48:Int)≤b.toNat))).symm<;>try simp only[c3,Zq hb,EVS])
  all_goals (obtain c4|c4:=(Bool.eq_false_or_eq_true (decide ((b.toNat:Int)≤57))).symm<;>try simp only[c4,Zq hb,EVS])
  all_goals (obtain c5|c5:=(Bool.eq_false_or_eq_true (decide ((k:Int)=0))).symm<;>try simp only[c5,EVS])
 ·simp only[ZV,Zah,EVS]
 ·unfold ZsW
  cases ZM Zm9 0 s<;>simp only[EVS]
theorem ZpD :∀(l:List UInt8) (k:Nat),Zk0 (k==0) l=ZM Zm9 k l
 |[],_=>rfl
 | b::r,k=>by
  have h:=ZpD r (k+1)
  have h1:(k+1==0)=false:=rfl
  rw[h1] at h
  unfold Zk0 ZM
  rw[h]
  congr 1
  unfold ZBb Zm9
  have e1:decide ((48:Int)≤b.toNat)= !decide ((b.toNat:Int)<48):=by rw[Bool.eq_iff_iff];simp
  have e2:decide ((b.toNat:Int)≤57)= !decide ((57:Int)<b.toNat):=by rw[Bool.eq_iff_iff];simp
  have e3:decide ((k:Int)=0)=(k==0):=by rw[Bool.eq_iff_iff];simp
  rw[e1,e2,e3]
theorem ZB5 (s:List UInt8):ZaO s=ZsW s:=by
 unfold ZaO ZsW inR
 rw[←ZpD s 0]
 rfl
theorem ZnQ (s:List UInt8) (hs:s.length≤9223372036854775807):Zen [.str s]=some (pB (ZaO s)):=(ZwW s hs).trans (by rw[ZB5])
def ZgH (s:List UInt8) (n:Int):Bool:=ZM (fun _ b=>ZnO b) 0 s&&(decide ((s.length:Int)=n)&&inR n 1 8)
theorem ZwX (s:List UInt8) (n:Int) (hs:s.length≤9223372036854775807):ZhZ [.str s,pI n]=some (pB (ZgH s n)):=by
 show (fun x0 x1=>ZhZ [x0,x1]) _ _=_
 rw[Zvo]
 refine (congrArg (Zf true) (ZN (R:=PV) s (fun _ b=>ZnO b) (some (pB false)) (some (pB (decide ((s.length:Int)=n)&&inR n 1 8))) _ hs (fun again k b hb=> ?_) (fun again=> ?_))).trans ?_
 ·have hk:=Ze hb
  simp only[ZnO,Zr hk,Zi hk hs,Zq hb,EVS]
  obtain c1|c1:=(Bool.eq_false_or_eq_true (decide ((b.toNat:Int)=48))).symm<;>simp only[c1,Zq hb,EVS]
  obtain c2|c2:=(Bool.eq_false_or_eq_true (decide ((b.toNat:Int)=49))).symm<;>simp only[c2,Zq hb,EVS]
  obtain c3|c3:=(Bool.eq_false_or_eq_true (decide ((b.toNat:Int)=45))).symm<;>simp only[c3,Zq hb,EVS]
 ·simp only[ZV,EVS]
  obtain c1|c1:=(Bool.eq_false_or_eq_true (decide ((s.length:Int)=n))).symm<;>simp only[c1,Zah,EVS]
 ·unfold ZgH
  cases ZM (fun _ b=>ZnO b) 0 s<;>simp only[EVS]
def ixf {α:Type} (q:α→Bool):Nat→List α→Int
 |_,[]=> -1
 |k,x::r=>if q x=true then (k:Int) else ixf q (k+1) r
theorem ZyE {α:Type} (q:α→Bool):∀(l:List α) (k:Nat),rgo (fun k x=>if q x=true then some (some (pI (k:Int))) else none) (some (pI (-1))) k l=some (pI (ixf q k l))
 |[],k=>rfl
 | x::r,k=>by
  unfold rgo ixf
  cases q x
  ·simp[ZyE q r (k+1)]
  ·simp
theorem Ze3 {α:Type} (q:α→Bool):∀(l:List α) (k:Nat),decide ((0:Int)≤ixf q k l)= !ZM (fun _ x=> !q x) k l
 |[],k=>rfl
 | x::r,k=>by
  unfold ixf ZM
  cases q x
  ·simp[Ze3 q r (k+1)]
  ·simp
theorem Zc4 {α:Type} (l:List α) (q:α→Bool) (f:(List PV→Option PV)→List PV→Option PV) (hl:l.length≤9223372036854775807)
 (h1:∀again k x,l[k]?=some x→f again [pI (Int.ofNat k)]=if q x=true then some (pI (k:Int)) else again [pI (Int.ofNat (k+1))])
 (h2:∀again,f again [pI (Int.ofNat l.length)]=some (pI (-1))):Zm f 18446744073709551616 [pI (Int.ofNat 0)]=some (pI (ixf q 0 l)):=by
 rw[Zsb l (fun k x=>if q x=true then some (some (pI (k:Int))) else none) (some (pI (-1))) f hl (fun again k x hx=> ?_) h2,ZyE]
 rw[h1 again k x hx]
 cases q x<;>simp
theorem ZnR (l:List PV):Zbu 1 (.tup [.agg l])=some [.agg l]:=by simp[Zbu,PV.parts,PV.isU]
theorem Zna (a x:List UInt8×Int):Zc8 [ZD a,ZD x]=some (pB (decide (a.1=x.1))):=by
 show (fun x0 x1=>Zc8 [x0,x1]) _ _=_
 rw[Zmz]
 simp only[ZD,List.drop_zero,EVS]
theorem Zb0 (l:List (List UInt8×Int)) (x:List UInt8×Int) (hl:ZA l):ZG [.lst (l.map ZD),.tup [ZD x]]=some (pI (ixf (fun a=>decide (a.1=x.1)) 0 l)):=by
 show (fun x0 x1=>ZG [x0,x1]) _ _=_
 rw[ZbT]
 unfold ZA at hl
 simp only[EVS]
 refine (congrArg (Zf true) (Zc4 l (fun a=>decide (a.1=x.1)) _ hl (fun again k a hb=> ?_) (fun again=> ?_))).trans ?_
 ·have hk:=Ze hb
  have hi:Zk (.lst (l.map ZD)) (.int .i64 (k:Int))=some (ZD a):=Zj hb
  have g:=Zna a x
  simp only[ZD] at g
  simp only[Zr hk,Zi hk hl,hi,ZD,ZnR,List.cons_append,List.nil_append,g,EVS]
 ·simp only[ZV,EVS]
  rfl
 ·simp only[EVS]
theorem Zbv (l:List (List UInt8×Int)) (x:List UInt8×Int) (hl:ZA l):Zx [.lst (l.map ZD),.tup [ZD x]]=some (pB (!ZM (fun _ a=> !decide (a.1=x.1)) 0 l)):=by
 show (fun x0 x1=>Zx [x0,x1]) _ _=_
 rw[Zbo]
 simp only[Zb0 l x hl,Ze3 (fun a:List UInt8×Int=>decide (a.1=x.1)) l 0,EVS]
theorem ZqR (p:Int×Bool) (n:Nat) (hn:n≤9223372036854775807):ZeD [Zac p,.agg [pI n]]=some (pB (!inR p.1 0 ((n:Int) - 1))):=by
 have hwl:IntKind.i64.wrap ((n:Int) - 1)=(n:Int) - 1:=Zaw (by omega) (by omega)
 show (fun x0 x1=>ZeD [x0,x1]) _ _=_
 rw[Zp4]
 simp only[Zac,hwl,Zah,EVS]
theorem Zc5 (l:List (Int×Bool)) (n:Nat) (hn:n≤9223372036854775807) (hl:ZA l):ZZ [.lst (l.map Zac),.tup [.agg [pI n]]]=some (pI (ixf (fun p=> !inR p.1 0 ((n:Int) - 1)) 0 l)):=by
 show (fun x0 x1=>ZZ [x0,x1]) _ _=_
 rw[ZcS]
 unfold ZA at hl
 simp only[EVS]
 refine (congrArg (Zf true) (Zc4 l (fun p=> !inR p.1 0 ((n:Int) - 1)) _ hl (fun again k a hb=> ?_) (fun again=> ?_))).trans ?_
 ·have hk:=Ze hb
  have hi:Zk (.lst (l.map Zac)) (.int .i64 (k:Int))=some (Zac a):=Zj hb
  have g:=ZqR a n hn
  simp only[Zac] at g
  simp only[Zr hk,Zi hk hl,hi,Zac,ZnR,List.cons_append,List.nil_append,g,EVS]
 ·simp only[ZV,EVS]
  rfl
 ·simp only[EVS]
def Zde (l:List (Int×Bool)) (n:Nat):Bool:=ZM (fun _ p=>inR p.1 0 ((n:Int) - 1)) 0 l
theorem ZnS (l:List (Int×Bool)) (n:Nat) (hn:n≤9223372036854775807) (hl:ZA l):ZeZ [.lst (l.map Zac),pI n]=some (pB (Zde l n)):=by
 have g:ZL [.lst (l.map Zac),.tup [.agg [pI n]]]=some (pB (!ZM (fun _ p=>inR p.1 0 ((n:Int) - 1)) 0 l)):=by
  show (fun x0 x1=>ZL [x0,x1]) _ _=_
  rw[Zcp]
  simp only[Zc5 l n hn hl,Ze3 (fun p:Int×Bool=> !inR p.1 0 ((n:Int) - 1)) l 0,Bool.not_not,EVS]
 show (fun x0 x1=>ZeZ [x0,x1]) _ _=_
 rw[Ztf]
 have lt:∀{R:Type} (l:List PV) (x:Option R),Za [.tup l] x=x:=fun l x=>(Eq.refl _).trans (Eq.refl _)
 simp only[lt,g,List.drop_zero,Bool.not_not,Zde,EVS]
theorem ZsX (w:PWire) (x:List UInt8):Zfr [Zn w,.agg [.str x]]=some (pB (decide (w.name=x))):=by
 show (fun x0 x1=>Zfr [x0,x1]) _ _=_
 rw[Zq8]
 simp only[Zn,List.drop_zero,EVS]
theorem ZwY (l:List PWire) (x:List UInt8) (hl:ZA l):ZhX [.lst (l.map Zn),.str x]=some (pI (ixf (fun w:PWire=>decide (w.name=x)) 0 l)):=by
 unfold ZA at hl
 have g:Z0 [.lst (l.map Zn),.tup [.agg [.str x]]]=some (pI (ixf (fun w:PWire=>decide (w.name=x)) 0 l)):=by
  show (fun x0 x1=>Z0 [x0,x1]) _ _=_
  rw[ZcU]
  simp only[EVS]
  refine (congrArg (Zf true) (Zc4 l (fun w:PWire=>decide (w.name=x)) _ hl (fun again k a hb=> ?_) (fun again=> ?_))).trans ?_
  ·have hk:=Ze hb
   have hi:Zk (.lst (l.map Zn)) (.int .i64 (k:Int))=some (Zn a):=Zj hb
   have g:=ZsX a x
   simp only[Zn] at g
   simp only[Zr hk,Zi hk hl,hi,Zn,ZnR,List.cons_append,List.nil_append,g,EVS]
  ·simp only[ZV,EVS]
   rfl
  ·simp only[EVS]
 show (fun x0 x1=>ZhX [x0,x1]) _ _=_
 rw[Zvl]
 have lt:∀{R:Type} (l:List PV) (x:Option R),Za [.tup l] x=x:=fun l x=>(Eq.refl _).trans (Eq.refl _)
 simp only[lt,g,List.drop_zero,Bool.not_not,EVS]
theorem Zk1 (c:List UInt8) (n:Int) (hc:ZA c):Zcd [.str c,.agg [pI n]]=some (pB (!ZgH c n)):=by
 show (fun x0 x1=>Zcd [x0,x1]) _ _=_
 rw[Zkq]
 simp only[ZwX c n hc,EVS]
theorem Zbz (l:List (List UInt8)) (n:Int) (hl:ZA l) (hc:∀c∈l,ZA c):Zz [.lst (l.map PV.str),.tup [.agg [pI n]]]=some (pI (ixf (fun c:List UInt8=> !ZgH c n) 0 l)):=by
 unfold ZA at hl
 show (fun x0 x1=>Zz [x0,x1]) _ _=_
 rw[Zby]
 simp only[EVS]
 refine (congrArg (Zf true) (Zc4 l (fun c:List UInt8=> !ZgH c n) _ hl (fun again k a hb=> ?_) (fun again=> ?_))).trans ?_
 ·have hk:=Ze hb
  have hi:Zk (.lst (l.map PV.str)) (.int .i64 (k:Int))=some (.str a):=Zj hb
  have g:=Zk1 a n (hc a (List.mem_of_getElem? hb))
  simp only[Zr hk,Zi hk hl,hi,ZnR,List.cons_append,List.nil_append,g,EVS]
 ·simp only[ZV,EVS]
  rfl
 ·simp only[EVS]
theorem eqPin (a c:Int) (b d:Bool):eqV (some [(0,TD.int .i64),(1,TD.bool)]) .struct (.agg [pI a,pB b]) (.agg [pI c,pB d])=some (decide (a=c)&&(b==d)):=by
 simp[eqV,ZoN,scEq,ZgB]
theorem ZB6 :ZC.bool.pv=pB false:=(Eq.refl _).trans (Eq.refl _)
theorem sp12 (a b c:PV):splice [a,b] 0 [c]=[c,b]:=(Eq.refl _).trans (Eq.refl _)
def ZgI (n:Int) (l:List (List UInt8)):Bool:=(inR n 1 8&&decide ((l.length:Int)≤60))&&ZM (fun _ c=>ZgH c n) 0 l
def ZfO (n:PNet) (k:Nat) (w:PWire):Bool:=
 if decide (w.kind=1)=true then decide ((w.ins.length:Int)=0)
 else if (decide (w.kind=2)||decide (w.kind=3))=true then inR w.ins.length 1 8
 else if decide (w.kind=4)=true then decide ((w.ins.length:Int)=2)
 else if decide (w.kind=5)=true then ZgI n.signals.length w.cover&&(decide ((w.ins.length:Int)=0)||(match w.ins with|[p]=>decide (p.1=(k:Int))&&(p.2==false)|_=>false))
 else false
def Zu1 (n:PNet) (k:Nat) (w:PWire):Bool:= !((!decide (w.kind=5)&&decide ((0:Int)<w.cover.length))|| !Zde w.ins n.wires.length)&&ZfO n k w
theorem ZwZ (h160:∀(n:Int) (l:List (List UInt8)),ZA l→(∀c∈l,ZA c)→ZbR [pI n,.lst (l.map PV.str)]=some (pB (ZgI n l))) (n:PNet) (k:Nat) (w:PWire) (hn:n.Fit) (hk:n.wires[k]?=some w):Zh0 [Zo n,pI k]=some (pB (Zu1 n k w)):=by
 have hw:=hn.wire w (List.mem_of_getElem? hk)
 have g1:=h160 n.signals.length w.cover hw.cover hw.cubes
 have hwl:=hn.wires
 unfold ZA at hwl
 have g2:=ZnS w.ins n.wires.length hwl hw.ins
 have hi:Zk (.lst (n.wires.map Zn)) (.int .i64 (k:Int))=some (Zn w):=Zj hk
 show (fun x0 x1=>Zh0 [x0,x1]) _ _=_
 rw[Zvq]
 simp only[Zo,hi,Zn,EVS]
 unfold Zu1
 obtain c1|c1:=(Bool.eq_false_or_eq_true (!decide (w.kind=5))).symm<;>simp only[c1,g2,EVS]
 ·obtain c2|c2:=(Bool.eq_false_or_eq_true (Zde w.ins n.wires.length)).symm<;>simp only[c1,c2,g2,EVS]
  have c5:decide (w.kind=5)=true:=by simpa using c1
  have e1:decide (w.kind=1)=false:=by have:=of_decide_eq_true c5;simp;omega
  have e2:decide (w.kind=2)=false:=by have:=of_decide_eq_true c5;simp;omega
  have e3:decide (w.kind=3)=false:=by have:=of_decide_eq_true c5;simp;omega
  have e4:decide (w.kind=4)=false:=by have:=of_decide_eq_true c5;simp;omega
  simp only[ZeQ,ZfO,e1,e2,e3,e4,c5,g1,EVS]
  obtain c3|c3:=(Bool.eq_false_or_eq_true (ZgI n.signals.length w.cover)).symm<;>simp only[c3,EVS]
  have h01:decide ((0:Int)=1)=false:=rfl
  have h00:decide ((0:Int)=0)=true:=rfl
  have h11:decide ((1:Int)=1)=true:=rfl
  have h10:decide ((1:Int)=0)=false:=rfl
  rcases hq:w.ins with _|⟨p,_|⟨q,r⟩⟩
  ·simp only[List.length_nil,h00,EVS]
  ·have hi:Zk (.lst ([p].map Zac)) (.int .i64 0)=some (Zac p):=rfl
   simp only[List.length_cons,List.length_nil,Nat.zero_add,h11,h10,hi,Zac,ZB6,sp12,eqPin,List.drop_zero,List.drop_succ_cons,EVS]
  ·have h2:decide (((r.length+1+1:Nat):Int)=0)=false:=by simp;omega
   have h3:decide (((r.length+1+1:Nat):Int)=1)=false:=by simp;omega
   simp only[List.length_cons,h2,h3,EVS]
 ·have c5:decide (w.kind=5)=false:=by simpa using c1
  obtain c2|c2:=(Bool.eq_false_or_eq_true (decide ((0:Int)<w.cover.length))).symm<;>simp only[c1,c2,g2,EVS]
  obtain c3|c3:=(Bool.eq_false_or_eq_true (Zde w.ins n.wires.length)).symm<;>simp only[c3,EVS]
  simp only[ZeQ,ZfO,c5,EVS]
  obtain e1|e1:=(Bool.eq_false_or_eq_true (decide (w.kind=1))).symm<;>simp only[e1,EVS]
  obtain e2|e2:=(Bool.eq_false_or_eq_true (decide (w.kind=2))).symm<;>simp only[e2,Zah,EVS]
  obtain e3|e3:=(Bool.eq_false_or_eq_true (decide (w.kind=3))).symm<;>simp only[e3,Zah,EVS]
  obtain e4|e4:=(Bool.eq_false_or_eq_true (decide (w.kind=4))).symm<;>simp only[e4,EVS]
theorem Znb (n:Int) (l:List (List UInt8)) (hl:ZA l) (hc:∀c∈l,ZA c):ZbR [pI n,.lst (l.map PV.str)]=some (pB (ZgI n l)):=by
 have g:Zs [.lst (l.map PV.str),.tup [.agg [pI n]]]=some (pB (!ZM (fun _ c=>ZgH c n) 0 l)):=by
  show (fun x0 x1=>Zs [x0,x1]) _ _=_
  rw[Zba]
  simp only[Zbz l n hl hc,Ze3 (fun c:List UInt8=> !ZgH c n) l 0,Bool.not_not,EVS]
 show (fun x0 x1=>ZbR [x0,x1]) _ _=_
 rw[Zmx]
 simp only[Zah,ZiL,List.drop_zero,ZgI,EVS]
 obtain c1|c1:=(Bool.eq_false_or_eq_true (inR n 1 8)).symm<;>simp only[c1,EVS]
 obtain c2|c2:=(Bool.eq_false_or_eq_true (decide ((l.length:Int)≤60))).symm<;>simp only[c2,ZiL,g,Bool.not_not,EVS]
def Znc (l:List (List UInt8×Int)) (k:Nat) (s:List UInt8×Int):Bool:=(ZaO s.1&&inR s.2 1 3)&&ZM (fun _ a=> !decide (a.1=s.1)) 0 (l.take k)
def ZrT (l:List (List UInt8×Int)):Bool:=ZM (Znc l) 0 l&&inR l.length 1 8
theorem Zi4 (l:List (List UInt8×Int)) (hl:ZA l) (hs:∀s∈l,ZA s.1):ZcV [.lst (l.map ZD)]=some (pB (ZrT l)):=by
 unfold ZA at hl
 show (fun x0=>ZcV [x0]) _=_
 rw[Zod]
 simp only[EVS]
 refine (congrArg (Zf true) (ZN (R:=PV) l (Znc l) (some (pB false)) (some (pB (inR l.length 1 8))) _ hl (fun again k s hb=> ?_) (fun again=> ?_))).trans ?_
 ·have hk:=Ze hb
  have hi:Zk (.lst (l.map ZD)) (.int .i64 (k:Int))=some (ZD s):=Zj hb
  have hc:ZlS 2 (.lst (l.map ZD)) none (some (.int .i64 (k:Int)))=some (.lst ((l.take k).map ZD)):=Zom ZrR (by omega)
  have hn:=ZnQ s.1 (hs s (List.mem_of_getElem? hb))
  have g:=Zbv (l.take k) s (by show (l.take k).length≤_;simp;omega)
  simp only[ZD] at g
  simp only[Zr hk,Zi hk hl,hi,ZD,hn,Znc,EVS]
  obtain c1|c1:=(Bool.eq_false_or_eq_true (ZaO s.1)).symm<;>simp only[c1,Zah,EVS]
  obtain c2|c2:=(Bool.eq_false_or_eq_true (inR s.2 1 3)).symm<;>simp only[c2,EVS]
  simp only[hc,List.drop_zero,ZiL,g,EVS]
  obtain c3|c3:=(Bool.eq_false_or_eq_true (ZM (fun _ (a:List UInt8×Int)=> !decide (a.1=s.1)) 0 (l.take k))).symm<;>simp only[c3,EVS]
 ·simp only[ZV,Zah,EVS]
 ·unfold ZrT
  cases ZM (Znc l) 0 l<;>simp only[EVS]
def ZfP (n:PNet) (k:Nat) (w:PWire):Bool:=
 (Zu1 n k w&&ZaO w.name&&ZM (fun _ v=> !decide (v.name=w.name)) 0 (n.wires.take k))&&
 (if decide ((k:Int)<(n.signals.length:Int))=true then Zg9 n k w else (decide (w.kind=2)||decide (w.kind=3))&&Zde w.ins k)
def netI (n:PNet):Bool:=(ZrT n.signals&&inR n.wires.length n.signals.length 24)&&ZM (ZfP n) 0 n.wires
theorem ZfQ (n:PNet) (hn:n.Fit):Za2 [Zo n]=some (pB (netI n)):=by
 have g1:=Zi4 n.signals hn.signals hn.names
 have hwl:=hn.wires
 unfold ZA at hwl
 show (fun x0=>Za2 [x0]) _=_
 rw[Zkr]
 simp only[Zo,g1,EVS]
 unfold netI
 obtain c1|c1:=(Bool.eq_false_or_eq_true (ZrT n.signals)).symm<;>simp only[c1,Zah,EVS]
 obtain c2|c2:=(Bool.eq_false_or_eq_true (inR n.wires.length n.signals.length 24)).symm<;>simp only[c2,EVS]
 refine (congrArg (Zf true) (ZN (R:=PV) n.wires (ZfP n) (some (pB false)) (some (pB true)) _ hwl (fun again k w hb=> ?_) (fun again=> ?_))).trans ?_
 ·have hk:=Ze hb
  have hw:=hn.wire w (List.mem_of_getElem? hb)
  have hi:Zk (.lst (n.wires.map Zn)) (.int .i64 (k:Int))=some (Zn w):=Zj hb
  have hc:ZlS 4 (.lst (n.wires.map Zn)) none (some (.int .i64 (k:Int)))=some (.lst ((n.wires.take k).map Zn)):=Zom ZpC (by omega)
  have g2:=ZwZ Znb n k w hn hb
  have g3:=ZnQ w.name hw.name
  have g4:=ZwY (n.wires.take k) w.name (by show (n.wires.take k).length≤_;simp;omega)
  have g5:=ZnS w.ins k (by omega) hw.ins
  simp only[Zo] at g2
  simp only[Zr hk,Zi hk hwl,hi,Zn,ZfP,g2,EVS]
  obtain c1|c1:=(Bool.eq_false_or_eq_true (Zu1 n k w)).symm<;>simp only[c1,g3,EVS]
  obtain c2|c2:=(Bool.eq_false_or_eq_true (ZaO w.name)).symm<;>simp only[c2,hc,g4,EVS]
  simp only[Ze3 (fun v:PWire=>decide (v.name=w.name)) (n.wires.take k) 0]
  obtain c3|c3:=(Bool.eq_false_or_eq_true (ZM (fun _ (v:PWire)=> !decide (v.name=w.name)) 0 (n.wires.take k))).symm<;>simp only[c3,ZeQ,EVS]
  obtain c4|c4:=(Bool.eq_false_or_eq_true (decide ((k:Int)<(n.signals.length:Int)))).symm<;>simp only[c4,EVS]
  ·obtain c5|c5:=(Bool.eq_false_or_eq_true (decide (w.kind=2))).symm<;>simp only[c5,g5,EVS]
   ·obtain c6|c6:=(Bool.eq_false_or_eq_true (decide (w.kind=3))).symm<;>simp only[c6,g5,EVS]
    obtain c7|c7:=(Bool.eq_false_or_eq_true (Zde w.ins k)).symm<;>simp only[c7,Zi hk hwl,EVS]
   ·obtain c7|c7:=(Bool.eq_false_or_eq_true (Zde w.ins k)).symm<;>simp only[c7,Zi hk hwl,EVS]
  ·have hks:k<n.signals.length:=by have:=of_decide_eq_true c4;omega
   have hs:n.signals[k]?=some n.signals[k]:=List.getElem?_eq_getElem hks
   have hi2:Zk (.lst (n.signals.map ZD)) (.int .i64 (k:Int))=some (ZD n.signals[k]):=Zj hs
   simp only[Zg9,hs,hi2,ZD,List.drop_zero,List.drop_succ_cons,EVS]
   obtain c5|c5:=(Bool.eq_false_or_eq_true (decide (w.name=n.signals[k].1))).symm<;>simp only[c5,hi2,ZD,List.drop_zero,List.drop_succ_cons,EVS]
   obtain c6|c6:=(Bool.eq_false_or_eq_true (decide (w.kind=1)==decide (n.signals[k].2=1))).symm<;>simp only[bne,c6,Zi hk hwl,EVS]
 ·simp only[ZV,EVS]
 ·cases ZM (ZfP n) 0 n.wires<;>simp only[EVS]
theorem Zaj {α:Type} (q:α→Bool):∀(l:List α) (k:Nat),ZM (fun _ x=>q x) k l=l.all q
 |[],_=>rfl
 |x::r,k=>by unfold ZM;rw[Zaj q r (k+1),List.all_cons]
theorem Zek {α:Type} (f g:Nat→α→Bool) (h:∀k x,f k x=g k x):∀(l:List α) (k:Nat),ZM f k l=ZM g k l
 |[],_=>rfl
 |x::r,k=>by unfold ZM;rw[h k x,Zek f g h r (k+1)]
theorem ZyF (l:List (List UInt8×Int)):ZkF l=ZrT l:=by
 unfold ZkF ZrT
 rw[Zek (ZrQ l) (Znc l) (fun k x=> ?_) l 0]
 unfold ZrQ Znc
 rw[Zek (fun _ (y:List UInt8×Int)=> !decide (x.1=y.1)) (fun _ (y:List UInt8×Int)=> !decide (y.1=x.1)) (fun _ y=>by simp[eq_comm]) _ 0]
theorem ZBc (n:Int) (l:List (List UInt8)):ZpB n l=ZgI n l:=by
 unfold ZpB ZgI Zox
 rw[Bool.and_comm,Bool.eq_iff_iff]
 simp only[Bool.and_eq_true]
 refine and_congr_right fun h=> ?_
 rw[Zek (fun _ c=>Zmk c&&decide ((c.length:Int)=n)) (fun _ c=>ZgH c n) (fun _ c=> ?_) l 0]
 unfold Zmk ZgH inR
 rw[Bool.eq_iff_iff]
 simp only[Bool.and_eq_true,decide_eq_true_eq]
 constructor
 ·rintro ⟨⟨h1,h2,h3⟩,h4⟩
  exact ⟨h1,h4,by omega,by omega⟩
 ·rintro ⟨h1,h2,h3,h4⟩
  exact ⟨⟨h1,by omega,by omega⟩,h2⟩
theorem Zzw (n:PNet) (k:Nat) (l:List (Int×Bool)) (h:k<n.signals.length):ZM (fun _ p=>Zi3 n k p) 0 l=Zde l n.wires.length:=by
 unfold Zde
 refine Zek _ _ (fun _ p=> ?_) l 0
 unfold Zi3
 have:decide ((n.signals.length:Int)≤k)=false:=by simp;omega
 rw[this]
 simp
theorem Zzx (n:PNet) (k:Nat) (l:List (Int×Bool)) (h:¬k<n.signals.length):ZM (fun _ p=>Zi3 n k p) 0 l=(Zde l n.wires.length&&Zde l k):=by
 unfold Zde
 rw[Zaj,Zaj,Zaj,Bool.eq_iff_iff]
 have:decide ((n.signals.length:Int)≤k)=true:=by simp;omega
 simp only[Bool.and_eq_true,List.all_eq_true,Zi3,inR,this,Bool.true_and,Bool.not_eq_true',decide_eq_true_eq,decide_eq_false_iff_not]
 constructor
 ·intro h
  exact ⟨fun p hp=>(h p hp).1,fun p hp=>⟨(h p hp).1.1,by have:=(h p hp).2;omega⟩⟩
 ·rintro ⟨h1,h2⟩ p hp
  exact ⟨h1 p hp,by have:=(h2 p hp).2;omega⟩
theorem ZB8 (n:PNet) (k:Nat) (w:PWire):(inR w.kind 1 5&&((if decide (w.kind=5)=true then ZgI n.signals.length w.cover else !decide ((0:Int)<w.cover.length))&&Zge k w.kind w.ins))=(!(!decide (w.kind=5)&&decide ((0:Int)<w.cover.length))&&ZfO n k w):=by
 unfold Zge ZfO
 by_cases h1:w.kind=1
 ·simp[h1,inR]
 by_cases h2:w.kind=2
 ·simp[h2,inR]
 by_cases h3:w.kind=3
 ·simp[h3,inR]
 by_cases h4:w.kind=4
 ·simp[h4,inR]
 by_cases h5:w.kind=5
 ·obtain ⟨nm,kd,ins,cov⟩:=w
  simp only at h5
  rcases ins with _|⟨p,_|⟨q,r⟩⟩<;>simp[h5,inR]
 ·have:inR w.kind 1 5=false:=by
   unfold inR
   simp only[Bool.and_eq_false_iff,decide_eq_false_iff_not]
   omega
  simp[this,h1,h2,h3,h4,h5]
theorem ZB9 (n:PNet) (k:Nat) (w:PWire):ZbK n k w=ZfP n k w:=by
 unfold ZbK ZfP Zml Zu1 ZrS
 have hf:=ZB8 n k w
 rw[ZBc]
 by_cases hk:k<n.signals.length
 ·have hd:decide ((k:Int)<(n.signals.length:Int))=true:=by simpa using hk
  rw[Zzw n k w.ins hk]
  simp only[hd,if_true,Bool.true_or,Bool.not_true,Bool.false_or,Bool.not_false,Bool.false_eq_true,if_false,Bool.true_and]
  revert hf
  generalize inR w.kind 1 5=a1
  generalize (if decide (w.kind=5)=true then ZgI (↑n.signals.length) w.cover else !decide ((0:Int)<↑w.cover.length))=a2
  generalize Zge k w.kind w.ins=a3
  generalize (!decide (w.kind=5)&&decide ((0:Int)<w.cover.length))=a4
  generalize ZfO n k w=a5
  generalize Zde w.ins n.wires.length=a6
  generalize Zg9 n k w=a7
  generalize ZaO w.name=a8
  generalize ZM (fun _ (v:PWire)=> !decide (v.name=w.name)) 0 (n.wires.take k)=a9
  cases a1<;>cases a2<;>cases a3<;>cases a4<;>cases a5<;>cases a6<;>cases a7<;>cases a8<;>cases a9<;>decide
 ·have hd:decide ((k:Int)<(n.signals.length:Int))=false:=by simpa using hk
  rw[Zzx n k w.ins hk]
  simp only[hd,if_true,Bool.true_or,Bool.not_true,Bool.false_or,Bool.not_false,Bool.false_eq_true,if_false,Bool.true_and]
  revert hf
  generalize inR w.kind 1 5=a1
  generalize (if decide (w.kind=5)=true then ZgI (↑n.signals.length) w.cover else !decide ((0:Int)<↑w.cover.length))=a2
  generalize Zge k w.kind w.ins=a3
  generalize (!decide (w.kind=5)&&decide ((0:Int)<w.cover.length))=a4
  generalize ZfO n k w=a5
  generalize Zde w.ins n.wires.length=a6
  generalize ZaO w.name=a8
  generalize Zde w.ins k=a7
  generalize decide (w.kind=2)=b2
  generalize decide (w.kind=3)=b3
  generalize ZM (fun _ (v:PWire)=> !decide (v.name=w.name)) 0 (n.wires.take k)=a9
  cases a1<;>cases a2<;>cases a3<;>cases a4<;>cases a5<;>cases a6<;>cases a7<;>cases a8<;>cases a9<;>cases b2<;>cases b3<;>decide
theorem ZBd (n:PNet):Zdm n=netI n:=by
 unfold Zdm netI
 rw[ZyF,Zek (ZbK n) (ZfP n) (fun k x=>ZB9 n k x) n.wires 0]
 congr 2
 unfold inR
 rw[Bool.eq_iff_iff]
 simp
def ZfR (b:UInt8):Bool:=decide ((b.toNat:Int)=48)||decide ((b.toNat:Int)=49)
def Z1 (s:List UInt8) (n:Int):Bool:=ZM (fun _ b=>ZfR b) 0 s&&decide ((s.length:Int)=n)
theorem ZpE (s:List UInt8) (n:Int) (hs:ZA s):ZfY [.str s,pI n]=some (pB (Z1 s n)):=by
 unfold ZA at hs
 show (fun x0 x1=>ZfY [x0,x1]) _ _=_
 rw[ZvN]
 refine (congrArg (Zf true) (ZN (R:=PV) s (fun _ b=>ZfR b) (some (pB false)) (some (pB (decide ((s.length:Int)=n)))) _ hs (fun again k b hb=> ?_) (fun again=> ?_))).trans ?_
 ·have hk:=Ze hb
  simp only[ZfR,Zr hk,Zi hk hs,Zq hb,EVS]
  obtain c1|c1:=(Bool.eq_false_or_eq_true (decide ((b.toNat:Int)=48))).symm<;>simp only[c1,Zq hb,EVS]
  obtain c2|c2:=(Bool.eq_false_or_eq_true (decide ((b.toNat:Int)=49))).symm<;>simp only[c2,Zq hb,EVS]
 ·simp only[ZV,EVS]
 ·unfold Z1
  cases ZM (fun _ b=>ZfR b) 0 s<;>simp only[EVS]
theorem ZpF (s:List UInt8) (n:Int) (hs:ZA s):ZfW [.str s,pI n]=some (pB (Z1 s n)):=by
 unfold ZA at hs
 show (fun x0 x1=>ZfW [x0,x1]) _ _=_
 rw[Zvt]
 refine (congrArg (Zf true) (ZN (R:=PV) s (fun _ b=>ZfR b) (some (pB false)) (some (pB (decide ((s.length:Int)=n)))) _ hs (fun again k b hb=> ?_) (fun again=> ?_))).trans ?_
 ·have hk:=Ze hb
  simp only[ZfR,Zr hk,Zi hk hs,Zq hb,EVS]
  obtain c1|c1:=(Bool.eq_false_or_eq_true (decide ((b.toNat:Int)=48))).symm<;>simp only[c1,Zq hb,EVS]
  obtain c2|c2:=(Bool.eq_false_or_eq_true (decide ((b.toNat:Int)=49))).symm<;>simp only[c2,Zq hb,EVS]
 ·simp only[ZV,EVS]
 ·unfold Z1
  cases ZM (fun _ b=>ZfR b) 0 s<;>simp only[EVS]
def Zfk (n:PNet) (s:List UInt8):Bool:=Zdm n&&Z1 s n.wires.length
def Zcu (p:Int×Bool) (s:List UInt8):Bool:=match s[p.1.toNat]? with|some b=>decide ((b.toNat:Int)=49) !=p.2|none=>false
theorem ZBe {p:Int×Bool} {s:List UInt8} (h0:0≤p.1) (h1:p.1<s.length):∃b:UInt8,s[p.1.toNat]?=some b∧Zao (.str s) (pI p.1)=some (pU b):=by
 have h2:p.1.toNat<s.length:=by omega
 refine ⟨s[p.1.toNat],List.getElem?_eq_getElem h2, ?_⟩
 have:=Zq (k:=.i64) (List.getElem?_eq_getElem h2)
 rw[Int.toNat_of_nonneg h0] at this
 exact this
theorem Zk2 (p:Int×Bool) (s:List UInt8) (h0:0≤p.1) (h1:p.1<s.length):Zev [Zac p,.str s]=some (pB (Zcu p s)):=by
 obtain ⟨b,hb,hv⟩:=ZBe h0 h1
 show (fun x0 x1=>Zev [x0,x1]) _ _=_
 rw[ZvT]
 simp only[Zac,hv,Zcu,hb,bne,EVS]
theorem Zfl (p:Int×Bool) (s:List UInt8) (h0:0≤p.1) (h1:p.1<s.length):Zcf [Zac p,.str s]=some (pB (Zcu p s)):=by
 obtain ⟨b,hb,hv⟩:=ZBe h0 h1
 show (fun x0 x1=>Zcf [x0,x1]) _ _=_
 rw[Zro]
 simp only[Zac,hv,Zcu,hb,bne,EVS]
def Zw0 (code:List UInt8) (k:Nat) (b:UInt8):Bool:=decide ((b.toNat:Int)=45)||(match code[k]? with|some c=>decide ((b.toNat:Int)=c.toNat)|none=>false)
def Zn5 (cube code:List UInt8):Bool:=ZM (Zw0 code) 0 cube
theorem Zw1 (cube code:List UInt8) (hs:ZA cube) (hl:cube.length≤code.length):Zin [.str cube,.str code]=some (pB (Zn5 cube code)):=by
 unfold ZA at hs
 show (fun x0 x1=>Zin [x0,x1]) _ _=_
 rw[ZvV]
 refine (congrArg (Zf true) (ZN (R:=PV) cube (Zw0 code) (some (pB false)) (some (pB true)) _ hs (fun again k b hb=> ?_) (fun again=> ?_))).trans ?_
 ·have hk:=Ze hb
  have hc:code[k]?=some code[k]:=List.getElem?_eq_getElem (by omega)
  simp only[Zw0,hc,Zr hk,Zi hk hs,Zq hb,Zq hc,EVS]
  obtain c1|c1:=(Bool.eq_false_or_eq_true (decide ((b.toNat:Int)=45))).symm<;>simp only[c1,Zq hb,Zq hc,EVS]
  obtain c2|c2:=(Bool.eq_false_or_eq_true (decide ((b.toNat:Int)=(code[k].toNat:Int)))).symm<;>simp only[c2,EVS]
 ·simp only[ZV,EVS]
 ·unfold Zn5
  cases ZM (Zw0 code) 0 cube<;>simp only[EVS]
theorem ZsY (cube code:List UInt8) (hs:ZA cube) (hl:cube.length≤code.length):Zfo [.str cube,.str code]=some (pB (Zn5 cube code)):=by
 unfold ZA at hs
 show (fun x0 x1=>Zfo [x0,x1]) _ _=_
 rw[Zq3]
 simp only[EVS]
 refine (congrArg (Zf true) (ZN (R:=PV) cube (Zw0 code) (some (pB false)) (some (pB true)) _ hs (fun again k b hb=> ?_) (fun again=> ?_))).trans ?_
 ·have hk:=Ze hb
  have hc:code[k]?=some code[k]:=List.getElem?_eq_getElem (by omega)
  simp only[Zw0,hc,Zr hk,Zi hk hs,Zq hb,Zq hc,EVS]
  obtain c1|c1:=(Bool.eq_false_or_eq_true (decide ((b.toNat:Int)=45))).symm<;>simp only[c1,Zq hb,Zq hc,EVS]
  obtain c2|c2:=(Bool.eq_false_or_eq_true (decide ((b.toNat:Int)=(code[k].toNat:Int)))).symm<;>simp only[c2,EVS]
 ·simp only[ZV,EVS]
 ·unfold Zn5
  cases ZM (Zw0 code) 0 cube<;>simp only[EVS]
def inP (l:List (List UInt8)) (code:List UInt8):Bool:= !ZM (fun _ c=> !Zn5 c code) 0 l
theorem Zzy (l:List (List UInt8)) (code:List UInt8) (hl:ZA l) (hc:∀c∈l,ZA c∧c.length≤code.length):Zj8 [.lst (l.map PV.str),.str code]=some (pB (inP l code)):=by
 unfold ZA at hl
 show (fun x0 x1=>Zj8 [x0,x1]) _ _=_
 rw[ZxA]
 simp only[EVS]
 refine (congrArg (Zf true) (ZN (R:=PV) l (fun _ c=> !Zn5 c code) (some (pB true)) (some (pB false)) _ hl (fun again k s hb=> ?_) (fun again=> ?_))).trans ?_
 ·have hk:=Ze hb
  have hi:Zk (.lst (l.map PV.str)) (.int .i64 (k:Int))=some (.str s):=Zj hb
  have hh:=hc s (List.mem_of_getElem? hb)
  have g:=Zw1 s code hh.1 hh.2
  simp only[Zr hk,Zi hk hl,hi,g,EVS]
  obtain c1|c1:=(Bool.eq_false_or_eq_true (Zn5 s code)).symm<;>simp only[c1,EVS]
 ·simp only[ZV,EVS]
 ·unfold inP
  cases ZM (fun _ c=> !Zn5 c code) 0 l<;>simp only[EVS]
theorem Zw2 (l:List (List UInt8)) (code:List UInt8) (hl:ZA l) (hc:∀c∈l,ZA c∧c.length≤code.length):ZhQ [.lst (l.map PV.str),.str code]=some (pB (inP l code)):=by
 have g0:ZP [.lst (l.map PV.str),.tup [.agg [.str code]]]=some (pI (ixf (fun c:List UInt8=>Zn5 c code) 0 l)):=by
  unfold ZA at hl
  show (fun x0 x1=>ZP [x0,x1]) _ _=_
  rw[ZcA]
  simp only[EVS]
  refine (congrArg (Zf true) (Zc4 l (fun c:List UInt8=>Zn5 c code) _ hl (fun again k a hb=> ?_) (fun again=> ?_))).trans ?_
  ·have hk:=Ze hb
   have hi:Zk (.lst (l.map PV.str)) (.int .i64 (k:Int))=some (.str a):=Zj hb
   have hh:=hc a (List.mem_of_getElem? hb)
   have g:Zfp [.str a,.agg [.str code]]=some (pB (Zn5 a code)):=by
    show (fun x0 x1=>Zfp [x0,x1]) _ _=_
    rw[Zq5]
    simp only[ZsY a code hh.1 hh.2,EVS]
   simp only[Zr hk,Zi hk hl,hi,ZnR,List.cons_append,List.nil_append,g,EVS]
  ·simp only[ZV,EVS]
   rfl
  ·simp only[EVS]
 have g1:ZH [.lst (l.map PV.str),.tup [.agg [.str code]]]=some (pB (inP l code)):=by
  show (fun x0 x1=>ZH [x0,x1]) _ _=_
  rw[Zb4]
  simp only[g0,inP,Ze3 (fun c:List UInt8=>Zn5 c code) l 0,EVS]
 show (fun x0 x1=>ZhQ [x0,x1]) _ _=_
 rw[Zvf]
 simp only[ZiL,List.drop_zero,g1,EVS]
def Zw3 (l:List (Int×Bool)) (s:List UInt8):Prop:=∀p∈l,0≤p.1∧p.1<s.length
theorem Zcm (l:List (Int×Bool)) (s:List UInt8) (hl:ZA l) (hp:Zw3 l s):ZI [.lst (l.map Zac),.tup [.agg [.str s]]]=some (pB (!ZM (fun _ p=>Zcu p s) 0 l)):=by
 have g0:ZT [.lst (l.map Zac),.tup [.agg [.str s]]]=some (pI (ixf (fun p:Int×Bool=> !Zcu p s) 0 l)):=by
  unfold ZA at hl
  show (fun x0 x1=>ZT [x0,x1]) _ _=_
  rw[ZcI]
  simp only[EVS]
  refine (congrArg (Zf true) (Zc4 l (fun p:Int×Bool=> !Zcu p s) _ hl (fun again k a hb=> ?_) (fun again=> ?_))).trans ?_
  ·have hk:=Ze hb
   have hi:Zk (.lst (l.map Zac)) (.int .i64 (k:Int))=some (Zac a):=Zj hb
   have hh:=hp a (List.mem_of_getElem? hb)
   have g:=Zfl a s hh.1 hh.2
   simp only[Zac] at g
   have g':Zd8 [Zac a,.agg [.str s]]=some (pB (!Zcu a s)):=by
    show (fun x0 x1=>Zd8 [x0,x1]) _ _=_
    rw[Zoi]
    simp only[Zac,g,EVS]
   simp only[Zac] at g'
   simp only[Zr hk,Zi hk hl,hi,Zac,ZnR,List.cons_append,List.nil_append,g',EVS]
  ·simp only[ZV,EVS]
   rfl
  ·simp only[EVS]
 show (fun x0 x1=>ZI [x0,x1]) _ _=_
 rw[Zch]
 simp only[g0,Ze3 (fun p:Int×Bool=> !Zcu p s) l 0,Bool.not_not,EVS]
theorem Zcn (l:List (Int×Bool)) (s:List UInt8) (hl:ZA l) (hp:Zw3 l s):ZJ [.lst (l.map Zac),.tup [.agg [.str s]]]=some (pB (!ZM (fun _ p=> !Zcu p s) 0 l)):=by
 have g0:ZU [.lst (l.map Zac),.tup [.agg [.str s]]]=some (pI (ixf (fun p:Int×Bool=>Zcu p s) 0 l)):=by
  unfold ZA at hl
  show (fun x0 x1=>ZU [x0,x1]) _ _=_
  rw[ZcK]
  simp only[EVS]
  refine (congrArg (Zf true) (Zc4 l (fun p:Int×Bool=>Zcu p s) _ hl (fun again k a hb=> ?_) (fun again=> ?_))).trans ?_
  ·have hk:=Ze hb
   have hi:Zk (.lst (l.map Zac)) (.int .i64 (k:Int))=some (Zac a):=Zj hb
   have hh:=hp a (List.mem_of_getElem? hb)
   have g:=Zfl a s hh.1 hh.2
   simp only[Zac] at g
   have g':Zd9 [Zac a,.agg [.str s]]=some (pB (Zcu a s)):=by
    show (fun x0 x1=>Zd9 [x0,x1]) _ _=_
    rw[Zok]
    simp only[Zac,g,EVS]
   simp only[Zac] at g'
   simp only[Zr hk,Zi hk hl,hi,Zac,ZnR,List.cons_append,List.nil_append,g',EVS]
  ·simp only[ZV,EVS]
   rfl
  ·simp only[EVS]
 show (fun x0 x1=>ZJ [x0,x1]) _ _=_
 rw[Zcj]
 simp only[g0,Ze3 (fun p:Int×Bool=>Zcu p s) l 0,EVS]
def Zha (s:List UInt8) (k:Nat):Bool:=match s[k]? with|some b=>decide ((b.toNat:Int)=49)|none=>false
def ZyG (n:PNet) (s:List UInt8) (k:Nat) (w:PWire):Bool:=
 if decide (w.kind=5)=true then inP w.cover (s.take n.signals.length)
 else if decide (w.kind=4)=true then (match w.ins with|[p,q]=>if (Zcu p s !=Zcu q s)=true then Zcu p s else Zha s k|_=>Zha s k)
 else Zha s k
def ZfS (n:PNet) (s:List UInt8) (k:Nat) (w:PWire):Bool:=
 if decide (w.kind=2)=true then ZM (fun _ p=>Zcu p s) 0 w.ins
 else if decide (w.kind=3)=true then !ZM (fun _ p=> !Zcu p s) 0 w.ins
 else ZyG n s k w
theorem ZpG (s:List UInt8) (k:Nat) (h:k≤s.length):Ziy (.str s) none (some (pI (k:Int)))=some (.str (s.take k)):=by
 have:(0:Int)≤(k:Int)∧(k:Int)≤(s.length:Int):=by omega
 simp[Ziy,ZlR,ZqF,this]
structure At (n:PNet) (s:List UInt8) (k:Nat) (w:PWire):Prop where
 fit:n.Fit
 here:n.wires[k]?=some w
 wire:w.Fit
 fits:ZA s
 lt:k<s.length
 sig:n.signals.length≤s.length
 pins:Zw3 w.ins s
 cubes:w.kind=5→∀c∈w.cover,c.length≤n.signals.length
 two:w.kind=4→w.ins.length=2
theorem loop3 {l:List (Int×Bool)} (s:List UInt8) (E:Bool→Bool→Bool) (f:(List PV→Option PV)→List PV→Option PV) (hl:l.length≤9223372036854775807)
 (h1:∀again (a b:Bool) (k:Nat) x,l[k]?=some x→f again [pB a,pB b,pI (k:Int)]=again [pB (a&&Zcu x s),pB (b||Zcu x s),pI ((k+1:Nat):Int)])
 (h2:∀again (a b:Bool) (k:Nat),¬k<l.length→f again [pB a,pB b,pI (k:Int)]=some (pB (E a b))):
 Zm f 18446744073709551616 [pB true,pB false,pI (0:Int)]=some (pB (E (ZM (fun _ p=>Zcu p s) 0 l) (!ZM (fun _ p=> !Zcu p s) 0 l))):=by
 have key:=ZaP (R:=PV) (fun t:Bool×Bool×Nat=>[pB t.1,pB t.2.1,pI (t.2.2:Int)]) (fun t=>l.length+1 - t.2.2) (fun t=>some (pB (E (t.1&&(l.drop t.2.2).all fun p=>Zcu p s) (t.2.1|| !(l.drop t.2.2).all fun p=> !Zcu p s)))) f (fun again t ih=> ?_) 18446744073709551616 (true,false,0) (by simp only;omega)
 ·simp only[Bool.true_and,Bool.false_or,List.drop_zero] at key
  rw[Zaj,Zaj]
  exact key
 ·obtain ⟨a,b,k⟩:=t
  dsimp only at ih⊢
  by_cases hk:k<l.length
  ·have hx:l[k]?=some l[k]:=List.getElem?_eq_getElem hk
   rw[h1 again a b k _ hx,ih (_,_,k+1) (by simp only;omega),List.drop_eq_getElem_cons hk]
   simp only[List.all_cons,Bool.and_assoc]
   cases Zcu l[k] s<;>simp
  ·rw[h2 again a b k hk,List.drop_eq_nil_of_le (by omega)]
   simp
theorem ZnT (n:PNet) (s:List UInt8) (k:Nat) (w:PWire) (h:At n s k w):Ze1 [Zo n,.str s,pI k]=some (pB (ZfS n s k w)):=by
 have hi:Zk (.lst (n.wires.map Zn)) (.int .i64 (k:Int))=some (Zn w):=Zj h.here
 have hil:=h.wire.ins
 unfold ZA at hil
 show (fun x0 x1 x2=>Ze1 [x0,x1,x2]) _ _ _=_
 rw[Ztx]
 simp only[Zo,hi,Zn,EVS]
 refine (congrArg (Zf true) (loop3 (l:=w.ins) s (fun a b=>if decide (w.kind=2)=true then a else if decide (w.kind=3)=true then b else ZyG n s k w) _ hil (fun again a b j p hb=> ?_) (fun again a b j hj=> ?_))).trans ?_
 ·have hk:=Ze hb
  have hi2:Zk (.lst (w.ins.map Zac)) (.int .i64 (j:Int))=some (Zac p):=Zj hb
  have hp:=h.pins p (List.mem_of_getElem? hb)
  have g:=Zk2 p s hp.1 hp.2
  simp only[Zac] at g
  simp only[Zr hk,Zi hk hil,hi2,Zac,g,EVS]
  cases a<;>cases b<;>simp only[EVS]
 ·have hlt:decide ((j:Int)<(w.ins.length:Int))=false:=by simp;omega
  simp only[hlt,EVS]
  obtain c1|c1:=(Bool.eq_false_or_eq_true (decide (w.kind=2))).symm<;>simp only[c1,EVS]
  obtain c2|c2:=(Bool.eq_false_or_eq_true (decide (w.kind=3))).symm<;>simp only[c2,EVS]
  have hone:Zha s k=decide ((s[k]'h.lt).toNat=(49:Int)):=by unfold Zha;rw[List.getElem?_eq_getElem h.lt]
  have hbv:Zao (.str s) (.int .i64 (k:Int))=some (pU (s[k]'h.lt)):=Zq (List.getElem?_eq_getElem h.lt)
  unfold ZyG
  obtain c5|c5:=(Bool.eq_false_or_eq_true (decide (w.kind=5))).symm<;>simp only[c5,EVS]
  ·obtain c4|c4:=(Bool.eq_false_or_eq_true (decide (w.kind=4))).symm<;>simp only[c4,ZeQ,hbv,hone,EVS]
   have h2:=h.two (of_decide_eq_true c4)
   have hpins:=h.pins
   revert h2 hpins
   rcases w.ins with _|⟨p,_|⟨q,_|⟨r,t⟩⟩⟩
   ·intro h2;simp at h2
   ·intro h2;simp at h2
   ·intro _ hpins
    have i0:Zk (.lst ([p,q].map Zac)) (.int .i64 0)=some (Zac p):=rfl
    have i1:Zk (.lst ([p,q].map Zac)) (.int .i64 1)=some (Zac q):=rfl
    have hp:=hpins p (by simp)
    have hq:=hpins q (by simp)
    have g1:=Zk2 p s hp.1 hp.2
    have g2:=Zk2 q s hq.1 hq.2
    simp only[Zac] at g1 g2
    simp only[i0,i1,Zac,g1,g2,EVS]
    cases Zcu p s<;>cases Zcu q s<;>simp[bne,hbv,ZxX]
   ·intro h2;simp at h2
  ·have hc:=Zzy w.cover (s.take n.signals.length) h.wire.cover (fun c hc=>⟨h.wire.cubes c hc,by have:=h.cubes (of_decide_eq_true c5) c hc;have:=h.sig;simp;omega⟩)
   simp only[ZpG s _ h.sig,hc,EVS]
 ·simp only[ZfS,EVS]
theorem Zmm (n:PNet) (s:List UInt8) (k:Nat) (w:PWire) (h:At n s k w):Zd1 [Zo n,.str s,pI k]=some (pB (ZfS n s k w)):=by
 have hi:Zk (.lst (n.wires.map Zn)) (.int .i64 (k:Int))=some (Zn w):=Zj h.here
 have g2:=Zcm w.ins s h.wire.ins h.pins
 have g3:=Zcn w.ins s h.wire.ins h.pins
 have hone:Zha s k=decide ((s[k]'h.lt).toNat=(49:Int)):=by unfold Zha;rw[List.getElem?_eq_getElem h.lt]
 have hbv:Zao (.str s) (.int .i64 (k:Int))=some (pU (s[k]'h.lt)):=Zq (List.getElem?_eq_getElem h.lt)
 show (fun x0 x1 x2=>Zd1 [x0,x1,x2]) _ _ _=_
 rw[Zq6]
 simp only[Zo,hi,Zn,EVS]
 unfold ZfS
 obtain c2|c2:=(Bool.eq_false_or_eq_true (decide (w.kind=2))).symm<;>simp only[c2,ZiL,List.drop_zero,g2,Bool.not_not,EVS]
 obtain c3|c3:=(Bool.eq_false_or_eq_true (decide (w.kind=3))).symm<;>simp only[c3,ZiL,List.drop_zero,g3,Bool.not_not,EVS]
 unfold ZyG
 obtain c4|c4:=(Bool.eq_false_or_eq_true (decide (w.kind=4))).symm<;>simp only[c4,ZeQ,EVS]
 ·obtain c5|c5:=(Bool.eq_false_or_eq_true (decide (w.kind=5))).symm<;>simp only[c5,hbv,hone,EVS]
  have hc:=Zw2 w.cover (s.take n.signals.length) h.wire.cover (fun c hc=>⟨h.wire.cubes c hc,by have:=h.cubes (of_decide_eq_true c5) c hc;have:=h.sig;simp;omega⟩)
  simp only[ZpG s _ h.sig,hc,EVS]
 ·have c5:decide (w.kind=5)=false:=by have:=of_decide_eq_true c4;simp;omega
  have h2:=h.two (of_decide_eq_true c4)
  have hpins:=h.pins
  simp only[c5,hone,EVS]
  revert h2 hpins
  rcases w.ins with _|⟨p,_|⟨q,_|⟨r,t⟩⟩⟩
  ·intro h2;simp at h2
  ·intro h2;simp at h2
  ·intro _ hpins
   have i0:Zk (.lst ([p,q].map Zac)) (.int .i64 0)=some (Zac p):=rfl
   have i1:Zk (.lst ([p,q].map Zac)) (.int .i64 1)=some (Zac q):=rfl
   have hp:=hpins p (by simp)
   have hq:=hpins q (by simp)
   have g1:=Zfl p s hp.1 hp.2
   have g2:=Zfl q s hq.1 hq.2
   simp only[Zac] at g1 g2
   simp only[i0,i1,Zac,g1,g2,EVS]
   cases Zcu p s<;>cases Zcu q s<;>simp[bne,hbv,ZxX,Zsa]
  ·intro h2;simp at h2
theorem ZjV {α:Type} (q:Nat→α→Bool):∀(l:List α) (j:Nat),ZM q j l=true→∀(i:Nat) (x:α),l[i]?=some x→q (j+i) x=true
 |[],j,_,i,x,hx=>by simp at hx
 | y::r,j,h,i,x,hx=>by
  unfold ZM at h
  rw[Bool.and_eq_true] at h
  cases i with
  |zero=>simp at hx;subst hx;simpa using h.1
  | succ i=>
   have:=ZjV q r (j+1) h.2 i x (by simpa using hx)
   rw[show j+(i+1)=j+1+i by omega]
   exact this
theorem ZpH {α:Type} (q:α→Bool) {l:List α} (h:ZM (fun _ x=>q x) 0 l=true) {x:α} (hx:x∈l):q x=true:=by
 rw[Zaj] at h
 exact List.all_eq_true.1 h x hx
def Zf7 (u:Bool):UInt8:=if u=true then 49 else 48
theorem Zzz (u:Bool):ZfR (Zf7 u)=true:=by cases u<;>decide
theorem ZjW (u:Bool):Zet [pB u]=some (.str [Zf7 u]):=by
 show (fun x0=>Zet [x0]) _=_
 rw[Zxr]
 cases u<;>simp only[EVS]<;>rfl
theorem ZyH (u:Bool):Zmu [pB u]=some (pU (Zf7 u)):=by
 show (fun x0=>Zmu [x0]) _=_
 rw[ZBl]
 cases u<;>simp only[EVS]<;>rfl
theorem ZyI {α:Type} (c:List α) (i:Nat) (b:α) (h:i<c.length):c.take i++[b]++c.drop (i+1)=c.set i b:=by
 rw[List.set_eq_take_append_cons_drop,if_pos h,List.append_assoc]
 rfl
theorem ZjX (c:List UInt8) (i:Nat) (b:UInt8) (h:i<c.length) (hc:ZA c):Zeu [.str c,pI i,.str [b]]=some (.str (c.set i b)):=by
 unfold ZA at hc
 have h1:Ziy (.str c) none (some (.int .i64 (i:Int)))=some (.str (c.take i)):=Zrs (by omega)
 have h2:Ziy (.str c) (some (.int .i64 ((i+1:Nat):Int))) none=some (.str (c.drop (i+1))):=Zrt (by omega)
 show (fun x0 x1 x2=>Zeu [x0,x1,x2]) _ _ _=_
 rw[Zxs]
 have h3:Zd .add TD.str (.str (c.take i)) (.str [b])=some (.str (c.take i++[b])):=ZbH (by simp;omega)
 have h4:Zd .add TD.str (.str (c.take i++[b])) (.str (c.drop (i+1)))=some (.str (c.take i++[b]++c.drop (i+1))):=ZbH (by simp;omega)
 simp only[h1,Zi h hc,h2,h3,h4,ZyI c i b h,EVS]
theorem ZaN {s:List UInt8} {n:Nat}:Z1 s n=true↔(∀b∈s,ZfR b=true)∧s.length=n:=by
 unfold Z1
 rw[Zaj,Bool.and_eq_true,List.all_eq_true,decide_eq_true_eq]
 constructor
 ·rintro ⟨h1,h2⟩;exact ⟨h1,by omega⟩
 ·rintro ⟨h1,h2⟩;exact ⟨h1,by omega⟩
theorem ZpI {v:List UInt8} {N k:Nat} (h:Z1 v N=true) (u:Bool):Z1 (v.set k (Zf7 u)) N=true:=by
 rw[ZaN] at h⊢
 refine ⟨fun b hb=> ?_,by simpa using h.2⟩
 rcases List.mem_or_eq_of_mem_set hb with hb|rfl
 ·exact h.1 b hb
 ·exact Zzz u
theorem ZpJ {c:List UInt8} {m N:Nat} (h:Z1 c m=true) (hm:m≤N):Z1 (c++List.replicate (N - m) 48) N=true:=by
 rw[ZaN] at h⊢
 refine ⟨fun b hb=> ?_,by simp[h.2];omega⟩
 rcases List.mem_append.1 hb with hb|hb
 ·exact h.1 b hb
 ·obtain ⟨_,rfl⟩:=List.mem_replicate.1 hb;decide
theorem Zmn (b:UInt8):ZfR b=true↔b=48∨b=49:=by
 unfold ZfR
 rw[Bool.or_eq_true,decide_eq_true_eq,decide_eq_true_eq]
 have h48:(48:UInt8).toNat=48:=rfl
 have h49:(49:UInt8).toNat=49:=rfl
 constructor
 ·rintro (h|h)
  ·exact .inl (UInt8.toNat_inj.1 (by omega))
  ·exact .inr (UInt8.toNat_inj.1 (by omega))
 ·rintro (rfl|rfl)
  ·exact .inl rfl
  ·exact .inr rfl
theorem ZBf (n:PNet) (s:List UInt8) (k:Nat) (hn:n.Fit) (hs:ZA s) (hv:Zfk n s=true) (hk:k<n.wires.length):At n s k n.wires[k]:=by
 unfold Zfk Zdm Z1 at hv
 simp only[Bool.and_eq_true,decide_eq_true_eq,Bool.not_eq_true',decide_eq_false_iff_not] at hv
 obtain ⟨⟨⟨h1,h2,h3⟩,h4⟩,h5,h6⟩:=hv
 have hx:n.wires[k]?=some n.wires[k]:=List.getElem?_eq_getElem hk
 have hw:=ZjV _ _ _ h4 k _ hx
 rw[Nat.zero_add] at hw
 unfold ZbK Zml ZrS at hw
 simp only[Bool.and_eq_true] at hw
 obtain ⟨⟨⟨⟨hkd,_⟩,hcov⟩,_,hpins,hform⟩,_⟩:=hw
 refine ⟨hn,hx,hn.wire _ (List.getElem_mem hk),hs,by omega,by omega,fun p hp=> ?_,fun hk5 c hc=> ?_,fun hk4=> ?_⟩
 ·have:=ZpH (fun p=>Zi3 n k p) hpins hp
  unfold Zi3 inR at this
  simp only[Bool.and_eq_true,decide_eq_true_eq] at this
  omega
 ·rw[if_pos (by simp[hk5])] at hcov
  unfold ZpB Zox at hcov
  simp only[Bool.and_eq_true] at hcov
  have:=ZpH (fun c=>Zmk c&&decide ((c.length:Int)=n.signals.length)) hcov.1 hc
  simp only[Bool.and_eq_true,decide_eq_true_eq] at this
  omega
 ·unfold Zge at hform
  rw[if_neg (by simp[hk4]),if_pos (by simp[hk4])] at hform
  simp only[decide_eq_true_eq] at hform
  omega
theorem ZCa (s:List UInt8) (h:s.length≤9223372036854775807):Zry (.str s)=some (.lst (s.map pU)):=by
 unfold Zry
 simp only
 rw[if_pos h]
theorem ZjY {α:Type} (f:α→PV) (l:List α) (i:Nat) (x:α):(l.map f).set i (f x)=(l.set i x).map f:=by rw[List.map_set]
structure PArc where
 from_:Int
 sig:Int
 up:Bool
 to_:Int
structure PSG where
 signals:List (List UInt8×Int)
 codes:List (List UInt8)
 arcs:List PArc
def Z2 (a:PArc):PV:=.agg [pI a.from_,pI a.sig,pB a.up,pI a.to_]
def eSG (c:PSG):PV:=.agg [.lst (c.signals.map ZD),.lst (c.codes.map PV.str),.lst (c.arcs.map Z2)]
structure SGFit (c:PSG):Prop where
 sigs:ZA c.signals
 names:∀s∈c.signals,ZA s.1
 codes:ZA c.codes
 each:∀x∈c.codes,ZA x
 arcs:ZA c.arcs
def Zgf (n:Int) (sig:Int) (up:Bool):Bool:=inR sig 0 (n - 1)||(decide (sig= -1)&& !up)
theorem Zu2 (sig:Int) (up:Bool) (n:Nat) (hn:n≤9223372036854775807):Zgp [.agg [pI sig,pB up],pI n]=some (pB (Zgf n sig up)):=by
 have g:=ZaJ sig 0 ((n:Int) - 1)
 have gi:inR sig 0 ((n:Int) - 1)=(decide ((0:Int)≤sig)&&decide (sig≤(n:Int) - 1)):=rfl
 rw[←gi] at g
 have hw:IntKind.i64.wrap ((n:Int) - 1)=(n:Int) - 1:=Zaw (by omega) (by omega)
 show (fun x0 x1=>Zgp [x0,x1]) _ _=_
 rw[Ztn]
 unfold Zgf
 simp only[hw,g,EVS]
 cases inR sig 0 ((n:Int) - 1)<;>simp only[EVS]
 rw[show Int.negSucc 0=(-1:Int) from rfl]
 cases decide (sig= -1)<;>simp only[EVS]
theorem Zw5 (sig:Int) (up:Bool) (n:Nat) (hn:n≤9223372036854775807):Zh2 [.agg [pI sig,pB up],pI n]=some (pB (Zgf n sig up)):=by
 have g:=Zah sig 0 ((n:Int) - 1)
 have hw:IntKind.i64.wrap ((n:Int) - 1)=(n:Int) - 1:=Zaw (by omega) (by omega)
 have he:eqV (some [(0,TD.int IntKind.i64),(1,TD.bool)]) TD.struct (.agg [pI sig,pB up]) (.agg [pI (-1),pB false])=some (decide (sig= -1)&& !up):=by
  rw[eqPin];cases up<;>rfl
 show (fun x0 x1=>Zh2 [x0,x1]) _ _=_
 rw[Zvs]
 unfold Zgf
 simp only[hw,g,EVS]
 cases inR sig 0 ((n:Int) - 1)<;>simp only[EVS]
 rw[show Int.negSucc 0=(-1:Int) from rfl]
 have hsp:splice [ZC.pv (.int .i64),ZC.pv .bool] 0 [pI (-1)]=[pI (-1),pB false]:=rfl
 simp only[hsp,he,EVS]
def Zmo (sig:Int) (up:Bool) (x y:List UInt8):Bool:=
 if decide (sig<0)=true then decide (x=y) else decide (x=y.set sig.toNat (Zf7 (!up)))&&decide (y=x.set sig.toNat (Zf7 up))
def ZkH (sig:Int) (up:Bool) (y:List UInt8) (k:Nat) (b:UInt8):Bool:=
 if decide ((k:Int)=sig)=true then !(decide ((b.toNat:Int)=49)==up)&&decide (((y.getD k 0).toNat:Int)=49)==up else decide ((b.toNat:Int)=(y.getD k 0).toNat)
theorem Zw6 :(false==false)=true:=rfl
theorem Zw7 :(false==true)=false:=rfl
theorem Zw8 :(true==false)=false:=rfl
theorem Zw9 :(true==true)=true:=rfl
theorem bbn (a b:Bool):Zd .neq TD.bool (.bool a) (.bool b)=some (.bool (!(a==b))):=rfl
theorem ZqS (a:PArc) (x y:List UInt8) (hx:ZA x) (hl:y.length=x.length):ZeE [Z2 a,.str x,.str y]=some (pB (ZM (ZkH a.sig a.up y) 0 x)):=by
 unfold ZA at hx
 show (fun x0 x1 x2=>ZeE [x0,x1,x2]) _ _ _=_
 rw[Zp6]
 simp only[Z2,EVS]
 refine (congrArg (fun m:Option PV=>m.bind fun r=>if r.sc=true then some r else none) (ZN (R:=PV) x (ZkH a.sig a.up y) (some (pB false)) (some (pB true)) _ hx (fun again k b hb=> ?_) (fun again=> ?_))).trans ?_
 ·have hk:=Ze hb
  have hy:y[k]?=some (y.getD k 0):=by rw[List.getD_eq_getElem?_getD,List.getElem?_eq_getElem (by omega)];rfl
  have b1:=Zq (k:=.i64) hb
  have b2:=Zq (k:=.i64) hy
  unfold ZkH
  simp only[Zr hk,Zi hk hx,b1,b2,EVS]
  cases c1:decide ((k:Int)=a.sig)
  ·simp only[c1,Zr hk,Zi hk hx,b1,b2,EVS]
   cases decide ((b.toNat:Int)=(y.getD k 0).toNat)<;>simp only[EVS]
  ·simp only[c1,Zr hk,Zi hk hx,b1,b2,EVS]
   cases decide ((b.toNat:Int)=49)<;>cases c3:decide (((y.getD k 0).toNat:Int)=49)<;>cases a.up<;>first|rfl|(simp only[Zw6,Zw7,Zw8,Zw9,b1,b2,EVS];done)|(simp only[Zw6,Zw7,Zw8,Zw9,b1,b2,EVS];rfl)|(simp only[Zw6,Zw7,Zw8,Zw9,bbn,b1,b2,c3,EVS];done)
 ·simp only[ZV,EVS]
 ·cases ZM (ZkH a.sig a.up y) 0 x<;>simp only[EVS]<;>rfl
theorem ZpK {α:Type} (q:Nat→α→Bool):∀(l:List α) (j:Nat),ZM q j l=true↔∀(i:Nat) (x:α),l[i]?=some x→q (j+i) x=true
 |[],j=>by simp[ZM]
 | y::r,j=>by
  refine ⟨fun h=>ZjV q (y::r) j h,fun h=> ?_⟩
  unfold ZM
  rw[Bool.and_eq_true]
  refine ⟨by simpa using h 0 y rfl,(ZpK q r (j+1)).2 fun i x hx=> ?_⟩
  have:=h (i+1) x (by simpa using hx)
  rw[show j+(i+1)=j+1+i by omega] at this
  exact this
theorem ZyJ {b:UInt8} (h:ZfR b=true):b=Zf7 (decide ((b.toNat:Int)=49)):=by
 unfold ZfR at h
 simp only[Bool.or_eq_true,decide_eq_true_eq,Bool.and_eq_true,Bool.not_eq_true',decide_eq_false_iff_not] at h
 by_cases c:(b.toNat:Int)=49
 ·simp only[c,decide_true]
  apply UInt8.toNat_inj.1
  show b.toNat=49
  omega
 ·simp only[c,decide_false]
  apply UInt8.toNat_inj.1
  show b.toNat=48
  omega
theorem ZyK {x:List UInt8} {n:Int} (h:Z1 x n=true) {i:Nat} {b:UInt8} (hi:x[i]?=some b):ZfR b=true:=by
 unfold Z1 at h
 rw[Bool.and_eq_true] at h
 exact ZpH ZfR h.1 (List.mem_of_getElem? hi)
theorem Zhb {x:List UInt8} {n:Nat} (h:Z1 x n=true):x.length=n:=by
 unfold Z1 at h
 rw[Bool.and_eq_true,decide_eq_true_eq] at h
 omega
theorem ZsZ {a b:UInt8}:(a.toNat:Int)=b.toNat↔a=b:=by
 rw[Int.ofNat_inj,UInt8.toNat_inj]
theorem ZCb (sig:Int) (up:Bool) (x y:List UInt8) (n:Nat) (hx:Z1 x n=true) (hy:Z1 y n=true) (he:Zgf n sig up=true):ZM (ZkH sig up y) 0 x=Zmo sig up x y:=by
 have lx:=Zhb hx
 have ly:=Zhb hy
 rw[Bool.eq_iff_iff,ZpK]
 unfold Zgf inR at he
 simp only[Bool.or_eq_true,Bool.and_eq_true,decide_eq_true_eq,Bool.not_eq_true'] at he
 have gy:∀i b,x[i]?=some b→y[i]?=some (y.getD i 0):=fun i b hb=>by
  have:=(List.getElem?_eq_some_iff.1 hb).1
  rw[List.getD_eq_getElem?_getD,List.getElem?_eq_getElem (by omega)];rfl
 unfold Zmo
 by_cases c:sig<0
 ·simp only[c,decide_true,if_true,decide_eq_true_eq]
  constructor
  ·intro h
   apply List.ext_getElem (by omega)
   intro i h1 h2
   have:=h i x[i] (List.getElem?_eq_getElem h1)
   unfold ZkH at this
   have d:decide (((0+i:Nat):Int)=sig)=false:=by simp only[decide_eq_false_iff_not];omega
   rw[d] at this
   simp only[Nat.zero_add,Bool.false_eq_true,if_false,decide_eq_true_eq,ZsZ] at this
   rw[this,List.getD_eq_getElem?_getD,List.getElem?_eq_getElem h2];rfl
  ·rintro rfl i b hb
   unfold ZkH
   have d:decide (((0+i:Nat):Int)=sig)=false:=by simp only[decide_eq_false_iff_not];omega
   rw[d]
   simp only[Nat.zero_add,Bool.false_eq_true,if_false,decide_eq_true_eq,ZsZ]
   rw[List.getD_eq_getElem?_getD,hb];rfl
 ·obtain ⟨s,rfl⟩:=Int.eq_ofNat_of_zero_le (show 0≤sig by omega)
  have hs:s<n:=by omega
  simp only[c,decide_false,Bool.false_eq_true,if_false,Bool.and_eq_true,decide_eq_true_eq,Int.toNat_natCast]
  have hxs:x[s]?=some (x[s]'(by omega)):=List.getElem?_eq_getElem _
  have hys:y[s]?=some (y[s]'(by omega)):=List.getElem?_eq_getElem _
  have gs:y.getD s 0=y[s]'(by omega):=by rw[List.getD_eq_getElem?_getD,hys];rfl
  constructor
  ·intro h
   have h0:=h s _ hxs
   unfold ZkH at h0
   simp only[Nat.zero_add,decide_true,if_true,gs] at h0
   have bx:=ZyJ (ZyK hx hxs)
   have by_:=ZyJ (ZyK hy hys)
   have ho:∀i (h1:i<x.length) (h2:i<y.length),i≠s→x[i]=y[i]:=fun i h1 h2 hn=>by
    have:=h i x[i] (List.getElem?_eq_getElem h1)
    unfold ZkH at this
    have d:decide (((0+i:Nat):Int)=(s:Int))=false:=by simp only[decide_eq_false_iff_not];omega
    rw[d] at this
    simp only[Nat.zero_add,Bool.false_eq_true,if_false,decide_eq_true_eq,ZsZ] at this
    rw[this,List.getD_eq_getElem?_getD,List.getElem?_eq_getElem h2];rfl
   generalize decide (((x[s]'(by omega)).toNat:Int)=49)=p at h0 bx
   generalize decide (((y[s]'(by omega)).toNat:Int)=49)=q at h0 by_
   have hp:p= !up:=by revert h0;cases p<;>cases q<;>cases up<;>decide
   have hq:q=up:=by revert h0;cases p<;>cases q<;>cases up<;>decide
   refine ⟨List.ext_getElem (by simp;omega) fun i h1 h2=> ?_,List.ext_getElem (by simp;omega) fun i h1 h2=> ?_⟩
   ·rw[List.getElem_set]
    split
    ·rename_i e;subst e;rw[bx,hp]
    ·rename_i e;exact ho i h1 (by simpa using h2) (Ne.symm e)
   ·rw[List.getElem_set]
    split
    ·rename_i e;subst e;rw[by_,hq]
    ·rename_i e;exact (ho i (by simpa using h2) h1 (Ne.symm e)).symm
  ·rintro ⟨e1,e2⟩ i b hb
   unfold ZkH
   have hi:=(List.getElem?_eq_some_iff.1 hb).1
   by_cases cs:i=s
   ·subst cs
    simp only[Nat.zero_add,decide_true,if_true,gs]
    have hbx:x[i]?=some (Zf7 (!up)):=by rw[e1,List.getElem?_set];simp;omega
    have hby:y[i]?=some (Zf7 up):=by rw[e2,List.getElem?_set];simp;omega
    rw[hb] at hbx
    rw[hys] at hby
    rw[Option.some.inj hbx,Option.some.inj hby]
    cases up<;>decide
   ·have d:decide (((0+i:Nat):Int)=(s:Int))=false:=by simp only[decide_eq_false_iff_not];omega
    rw[d]
    simp only[Nat.zero_add,Bool.false_eq_true,if_false,decide_eq_true_eq,ZsZ]
    have:y[i]?=x[i]?:=by
     conv=>lhs;rw[e2]
     rw[List.getElem?_set,if_neg (Ne.symm cs)]
    rw[List.getD_eq_getElem?_getD,this,hb];rfl
theorem ZpL (s u:PV):splice (splice [ZC.pv (.int .i64),ZC.pv .bool] 0 [s]) 1 [u]=[s,u]:=rfl
def Zc6 (n:Nat) (last:Int) (a:PArc):Bool:=(inR a.from_ 0 last&&inR a.to_ 0 last)&&Zgf n a.sig a.up
def Zk3 (c:PSG) (a:PArc):Bool:=Zc6 c.signals.length ((c.codes.length:Int) - 1) a&&Zmo a.sig a.up (c.codes.getD a.from_.toNat []) (c.codes.getD a.to_.toNat [])
structure CodesP (c:PSG):Prop where
 one:1≤c.codes.length
 many:c.codes.length≤300
 bits:∀x∈c.codes,Z1 x c.signals.length=true
 arcs:c.arcs.length≤4000
theorem ZpM {c:PSG} {a:PArc} (h:Zc6 c.signals.length ((c.codes.length:Int) - 1) a=true):∃f t x y,a.from_=((f:Nat):Int)∧a.to_=((t:Nat):Int)∧f<c.codes.length∧t<c.codes.length∧c.codes[f]?=some x∧c.codes[t]?=some y∧Zgf c.signals.length a.sig a.up=true:=by
 unfold Zc6 inR at h
 simp only[Bool.and_eq_true,decide_eq_true_eq] at h
 obtain ⟨⟨⟨h1,h2⟩,h3,h4⟩,h5⟩:=h
 obtain ⟨f,hf⟩:=Int.eq_ofNat_of_zero_le h1
 obtain ⟨t,ht⟩:=Int.eq_ofNat_of_zero_le h3
 have l1:f<c.codes.length:=by omega
 have l2:t<c.codes.length:=by omega
 exact ⟨f,t,_,_,hf,ht,l1,l2,List.getElem?_eq_getElem l1,List.getElem?_eq_getElem l2,h5⟩
theorem ZzA (c:PSG) (a:PArc) (hc:SGFit c) (hp:CodesP c):Zj5 [eSG c,Z2 a]=some (pB (Zk3 c a)):=by
 have hsl:=hc.sigs
 unfold ZA at hsl
 have hm:=hp.many
 have g1:=ZaJ a.from_ 0 ((c.codes.length:Int) - 1)
 have g2:=ZaJ a.to_ 0 ((c.codes.length:Int) - 1)
 have gi:∀z:Int,inR z 0 ((c.codes.length:Int) - 1)=(decide ((0:Int)≤z)&&decide (z≤(c.codes.length:Int) - 1)):=fun _=>rfl
 rw[←gi] at g1 g2
 have g3:=Zu2 a.sig a.up c.signals.length hsl
 have hw:IntKind.i64.wrap ((c.codes.length:Int) - 1)=(c.codes.length:Int) - 1:=Zaw (by omega) (by omega)
 show (fun x0 x1=>Zj5 [x0,x1]) _ _=_
 rw[Zxu]
 unfold Zk3
 cases hg:Zc6 c.signals.length ((c.codes.length:Int) - 1) a
 ·unfold Zc6 at hg
  cases c1:inR a.from_ 0 ((c.codes.length:Int) - 1)
  ·simp only[eSG,Z2,List.length_map,hw,g1,c1,EVS]
  cases c2:inR a.to_ 0 ((c.codes.length:Int) - 1)
  ·simp only[eSG,Z2,List.length_map,hw,g1,g2,c1,c2,EVS]
  cases c3:Zgf c.signals.length a.sig a.up
  ·simp only[eSG,Z2,List.length_map,hw,g1,g2,g3,c1,c2,c3,ZpL,EVS]
  ·rw[c1,c2,c3] at hg;cases hg
 ·obtain ⟨f,t,x,y,hf,ht,l1,l2,hx,hy,he⟩:=ZpM hg
  unfold Zc6 at hg
  simp only[Bool.and_eq_true] at hg
  have bx:=hp.bits x (List.mem_of_getElem? hx)
  have by_:=hp.bits y (List.mem_of_getElem? hy)
  have i1:Zk (.lst (c.codes.map PV.str)) (.int .i64 (f:Int))=some (.str x):=Zj hx
  have i2:Zk (.lst (c.codes.map PV.str)) (.int .i64 (t:Int))=some (.str y):=Zj hy
  have e1:c.codes.getD f []=x:=by rw[List.getD_eq_getElem?_getD,hx];rfl
  have e2:c.codes.getD t []=y:=by rw[List.getD_eq_getElem?_getD,hy];rfl
  have c1:=hg.1.1
  have c2:=hg.1.2
  simp only[hf] at g1 c1
  simp only[ht] at g2 c2
  rw[hf,ht,Int.toNat_natCast,Int.toNat_natCast,e1,e2]
  unfold Zmo
  have lx:=Zhb bx
  have ly:=Zhb by_
  by_cases cs:a.sig<0
  ·have d:decide (a.sig<0)=true:=by simpa using cs
   simp only[eSG,Z2,hf,ht,List.length_map,hw,g1,g2,g3,c1,c2,he,ZpL,i1,i2,d,EVS]
  ·have d:decide (a.sig<0)=false:=by simpa using cs
   obtain ⟨s,hs⟩:=Int.eq_ofNat_of_zero_le (show 0≤a.sig by omega)
   have hsn:s<c.signals.length:=by
    unfold Zgf inR at he
    simp only[Bool.or_eq_true,Bool.and_eq_true,decide_eq_true_eq] at he
    omega
   have s1:=ZjX y s (Zf7 (!a.up)) (by omega) (hc.each y (List.mem_of_getElem? hy))
   have s2:=ZjX x s (Zf7 a.up) (by omega) (hc.each x (List.mem_of_getElem? hx))
   have b1:=ZjW (!a.up)
   have b2:=ZjW a.up
   rw[hs] at d g3 he
   simp only[eSG,Z2,hf,ht,hs,List.length_map,hw,g1,g2,g3,c1,c2,he,ZpL,i1,i2,d,s1,b1,Int.toNat_natCast,Bool.false_eq_true,if_false,EVS]
   cases c4:decide (x=y.set s (Zf7 (!a.up)))
   ·simp only[EVS]
   ·simp only[s2,b2,EVS]
def ZpN (c:PSG):List (Nat×Nat):=c.arcs.map fun a=>(a.from_.toNat,a.to_.toNat)
def ZpO (n:Nat) (l:List PArc):Prop:=∀a∈l,inR a.from_ 0 ((n:Int) - 1)=true∧inR a.to_ 0 ((n:Int) - 1)=true
theorem Znd {n:Nat} {l:List PArc} (h:ZpO n l) {a:PArc} (ha:a∈l):∃f t:Nat,a.from_=f∧a.to_=t∧f<n∧t<n:=by
 obtain ⟨h1,h2⟩:=h a ha
 unfold inR at h1 h2
 simp only[Bool.and_eq_true,decide_eq_true_eq] at h1 h2
 obtain ⟨f,hf⟩:=Int.eq_ofNat_of_zero_le h1.1
 obtain ⟨t,ht⟩:=Int.eq_ofNat_of_zero_le h2.1
 exact ⟨f,t,hf,ht,by omega,by omega⟩
theorem ZnU :∀(r:List (Nat×Nat)) (m:List Bool),(ZfA r m).length=m.length
 |[],_=>rfl
 | e::r,m=>by
  unfold ZfA
  rw[ZnU r]
  split<;>simp
theorem se_b (a b:Bool):ZaB 0 1 [.bool a] (.bool a) (.bool b)=some (.bool b):=rfl
theorem ZyL {R:Type} (e:List Bool→Option R):∀(l:List PArc) (k:Nat) (m:List Bool),Z5 (fun (m:List Bool) (_:Nat) (a:PArc)=>.inl (if m.getD a.from_.toNat false=true then m.set a.to_.toNat true else m)) e k m l=e (ZfA (l.map fun a=>(a.from_.toNat,a.to_.toNat)) m)
 |[],k,m=>rfl
 |a::l,k,m=>ZyL e l (k+1) _
theorem ZrU {R:Type} (es:List (Nat×Nat)) (e:List Bool→Option R):∀(l:List (List UInt8)) (k:Nat) (m:List Bool),Z5 (fun (m:List Bool) (_:Nat) (_:List UInt8)=>.inl (ZfA es m)) e k m l=e (metG es l.length m)
 |[],k,m=>rfl
 |a::l,k,m=>ZrU es e l (k+1) _
theorem ZzB (c:PSG) (hc:SGFit c) (hp:CodesP c) (ha:ZpO c.codes.length c.arcs):Zj6 [eSG c]=some (pB ((ZxG c.codes.length (ZpN c) 0).all id)):=by
 have h1:=hp.one
 have h2:=hp.many
 have h3:=hp.arcs
 have hmk:=ZtX (TI.mk 1 1 TD.bool [ZC.bool] [] false) c.codes.length (by omega)
 have hz:Zbb (TI.mk 1 1 TD.bool [ZC.bool] [] false)=.bool false:=rfl
 rw[hz] at hmk
 have hp0:ZaM (List.replicate c.codes.length (PV.bool false)) (.int .i64 ((0:Nat):Int))=some (.int .i64 ((0:Nat):Int)):=ZbG (by simp;omega)
 have hg0:(List.replicate c.codes.length (PV.bool false))[0]?=some (.bool false):=by rw[List.getElem?_replicate,if_pos (by omega)]
 have hs0:(List.replicate c.codes.length (PV.bool false)).set 0 (.bool true)=((List.replicate c.codes.length false).set 0 true).map PV.bool:=by rw[←ZjY,List.map_replicate]
 simp only[Int.natCast_zero] at hp0
 have ht0:Int.toNat 0=0:=rfl
 show (fun x0=>Zj6 [x0]) _=_
 rw[Zxw]
 simp only[eSG,List.length_map,hmk,hp0,ht0,hg0,se_b,hs0,EVS]
 obtain ⟨m0,hm0⟩:∃m0,(List.replicate c.codes.length false).set 0 true=m0:=⟨_,rfl⟩
 have hl0:m0.length=c.codes.length:=by rw[←hm0];simp
 unfold ZxG
 rw[hm0]
 refine (congrArg (fun m:Option PV=>m.bind fun r=>if r.sc=true then some r else none) ((ZaI (R:=PV) c.codes (fun (m:List Bool) k=>[.lst (m.map PV.bool),pI (Int.ofNat k)]) (fun _ m=>m.length=c.codes.length) (fun (m:List Bool) _ _=>.inl (ZfA (ZpN c) m)) (fun m=>some (pB (m.all id))) _ (by omega) (fun m k x m' hm hx he=> ?_) (fun again m k x hm hx=> ?_) (fun again m hm=> ?_) hl0).trans (ZrU _ _ _ _ _))).trans ?_
 ·cases he;rw[ZnU];exact hm
 ·have hk:=Ze hx
  simp only[Zr hk,EVS]
  refine (ZaI (R:=PV) c.arcs (fun (m:List Bool) k=>[.lst (m.map PV.bool),pI (Int.ofNat k)]) (fun _ m=>m.length=c.codes.length) (fun (m:List Bool) _ a=>.inl (if m.getD a.from_.toNat false=true then m.set a.to_.toNat true else m)) (fun m=>again [.lst (m.map PV.bool),pI (Int.ofNat (k+1))]) _ (by omega) (fun m j a m' hm ha' he=> ?_) (fun again' m j a hm ha'=> ?_) (fun again' m hm=> ?_) hm).trans (ZyL _ _ _ _)
  ·cases he;split<;>simp[hm]
  ·have hj:=Ze ha'
   obtain ⟨f,t,hf,ht,l1,l2⟩:=Znd ha (List.mem_of_getElem? ha')
   have hi:Zk (.lst (c.arcs.map Z2)) (.int .i64 (j:Int))=some (Z2 a):=Zj ha'
   have p1:ZaM (m.map PV.bool) (.int .i64 (f:Int))=some (.int .i64 (f:Int)):=ZbG (by rw[List.length_map];omega)
   have p2:ZaM (m.map PV.bool) (.int .i64 (t:Int))=some (.int .i64 (t:Int)):=ZbG (by rw[List.length_map];omega)
   have q1:(m.map PV.bool)[f]?=some (.bool (m.getD f false)):=by rw[List.getElem?_map,List.getD_eq_getElem?_getD,List.getElem?_eq_getElem (by omega)];rfl
   have q2:(m.map PV.bool)[t]?=some (.bool (m.getD t false)):=by rw[List.getElem?_map,List.getD_eq_getElem?_getD,List.getElem?_eq_getElem (by omega)];rfl
   have st:(m.map PV.bool).set t (.bool true)=(m.set t true).map PV.bool:=ZjY PV.bool m t true
   rw[hf,ht,Int.toNat_natCast,Int.toNat_natCast]
   cases hb:m.getD f false<;>simp only[Zr hj,Zi hj (show c.arcs.length≤9223372036854775807 by omega),hi,Z2,hf,ht,p1,p2,q1,q2,hb,se_b,st,Bool.false_eq_true,if_false,if_true,EVS]
  ·simp only[ZV,Zi hk (show c.codes.length≤9223372036854775807 by omega),EVS]
 ·simp only[ZV,EVS]
  refine (ZN (R:=PV) m (fun _ b=>b) (some (pB false)) (some (pB true)) _ (by omega) (fun again k b hb=> ?_) (fun again=> ?_)).trans ?_
  ·have hk:=Ze hb
   have p1:ZaM (m.map PV.bool) (.int .i64 (k:Int))=some (.int .i64 (k:Int)):=ZbG (by rw[List.length_map];omega)
   have q1:(m.map PV.bool)[k]?=some (.bool b):=by rw[List.getElem?_map,hb];rfl
   cases b<;>simp only[List.length_map,Zr hk,Zi hk (show m.length≤9223372036854775807 by omega),p1,q1,Bool.false_eq_true,if_false,if_true,EVS]
  ·simp only[List.length_map,ZV,EVS]
  ·rw[Zaj]
   show _=some (pB (m.all fun b=>b))
   cases m.all (fun b=>b)<;>rfl
 ·simp only[EVS]
theorem ZkI (n s:Nat) (es:List (Nat×Nat)) (hn:n≤1000) (hs:s<n) (hl:es.length≤100000) (hes:∀e∈es,e.1<n∧e.2<n):Zdu [pI (n:Int),.lst (es.map pSt),pI (s:Int)]=some (.lst ((Zbr n es s).map pI)):=by
 have hc:(0:Int)≤(n:Int)∧(n:Int)≤1000∧(0:Int)≤(s:Int)∧(s:Int)<(n:Int)∧es.length≤100000∧(es.all fun e=>decide (e.1<(n:Int).toNat∧e.2<(n:Int).toNat))=true:=by
  refine ⟨by omega,by omega,by omega,by omega,hl,List.all_eq_true.2 fun e he=> ?_⟩
  rw[Int.toNat_natCast]
  exact decide_eq_true (hes e he)
 show (match Zqs (es.map pSt) with
  |some es=>if (0:Int)≤(n:Int)∧(n:Int)≤1000∧(0:Int)≤(s:Int)∧(s:Int)<(n:Int)∧es.length≤100000∧(es.all fun e=>decide (e.1<(n:Int).toNat∧e.2<(n:Int).toNat))=true then some (PV.lst ((Zbr (n:Int).toNat es (s:Int).toNat).map pI)) else none
  |none=>none)=_
 rw[Zr4]
 show (if _ then _ else _)=_
 rw[if_pos hc,Int.toNat_natCast,Int.toNat_natCast]
def Zhc (c:PSG):Bool:=(ZkF c.signals&&inR c.codes.length 1 300)&& !decide ((4000:Int)<c.arcs.length)
def Zs0 (c:PSG):Bool:=c.codes.all fun x=>Z1 x c.signals.length
def ZhB (c:PSG):Bool:=c.arcs.all (Zk3 c)
def Zi5 (c:PSG):Bool:=(ZxG c.codes.length (ZpN c) 0).all id
def sgV (c:PSG):Bool:=(Zhc c&&Zs0 c)&&(ZhB c&&Zi5 c)
theorem Zi6 {c:PSG} (h1:Zhc c=true) (h2:Zs0 c=true):CodesP c:=by
 unfold Zhc inR at h1
 simp only[Bool.and_eq_true,Bool.not_eq_true',decide_eq_true_eq,decide_eq_false_iff_not] at h1
 unfold Zs0 at h2
 exact ⟨by omega,by omega,fun x hx=>List.all_eq_true.1 h2 x hx,by omega⟩
theorem ZrV {c:PSG} (h:ZhB c=true):ZpO c.codes.length c.arcs:=fun a ha=>by
 have:=List.all_eq_true.1 h a ha
 unfold Zk3 Zc6 at this
 simp only[Bool.and_eq_true] at this
 exact this.1.1
theorem Zxa (c:PSG) (hc:SGFit c):Zik [eSG c]=some (pB (sgV c)):=by
 have hcl:=hc.codes
 have hal:=hc.arcs
 unfold ZA at hcl hal
 have g1:=ZkG c.signals hc.sigs hc.names
 have g2:=ZaJ (c.codes.length:Int) 1 300
 have gi:inR (c.codes.length:Int) 1 300=(decide ((1:Int)≤c.codes.length)&&decide ((c.codes.length:Int)≤300)):=rfl
 rw[←gi] at g2
 show (fun x0=>Zik [x0]) _=_
 rw[ZvP]
 unfold sgV
 cases hpre:Zhc c
 ·unfold Zhc at hpre
  cases c1:ZkF c.signals
  ·simp only[eSG,List.length_map,g1,c1,EVS]
  cases c2:inR (c.codes.length:Int) 1 300
  ·simp only[eSG,List.length_map,g1,g2,c1,c2,EVS]
  cases c3:decide ((4000:Int)<c.arcs.length)
  ·rw[c1,c2,c3] at hpre;cases hpre
  ·simp only[eSG,List.length_map,g1,g2,c1,c2,c3,EVS]
 have hpre':=hpre
 unfold Zhc at hpre'
 simp only[Bool.and_eq_true,Bool.not_eq_true'] at hpre'
 obtain ⟨⟨c1,c2⟩,c3⟩:=hpre'
 simp only[eSG,List.length_map,g1,g2,c1,c2,c3,EVS]
 refine (congrArg (fun m:Option PV=>m.bind fun r=>if r.sc=true then some r else none) (ZjP (R:=PV) c.codes (fun _ x=>Z1 x c.signals.length) (some (pB false)) (some (pB (ZhB c&&Zi5 c))) _ hcl (fun again k x hx=> ?_) (fun hall again=> ?_))).trans ?_
 ·have hk:=Ze hx
  have hi:Zk (.lst (c.codes.map PV.str)) (.int .i64 (k:Int))=some (.str x):=Zj hx
  have g:=ZpE x c.signals.length (hc.each x (List.mem_of_getElem? hx))
  cases cb:Z1 x c.signals.length<;>simp only[Zr hk,Zi hk hcl,hi,g,cb,Bool.false_eq_true,if_false,if_true,EVS]
 ·rw[Zaj] at hall
  have hp:=Zi6 hpre hall
  simp only[ZV,EVS]
  refine (ZjP (R:=PV) c.arcs (fun _ a=>Zk3 c a) (some (pB false)) (some (pB (Zi5 c))) _ hal (fun again k a hx=> ?_) (fun hall' again=> ?_)).trans ?_
  ·have hk:=Ze hx
   have hi:Zk (.lst (c.arcs.map Z2)) (.int .i64 (k:Int))=some (Z2 a):=Zj hx
   have g:=ZzA c a hc hp
   simp only[eSG,Z2] at g
   cases cb:Zk3 c a<;>simp only[Z2,Zr hk,Zi hk hal,hi,g,cb,ZR,Zx5,Bool.false_eq_true,if_false,if_true,EVS]
  ·rw[Zaj] at hall'
   have g:=ZzB c hc hp (ZrV hall')
   simp only[eSG] at g
   simp only[ZV,ZR,g,EVS]
   rfl
  ·rw[Zaj]
   show _=some (pB (c.arcs.all (Zk3 c)&&Zi5 c))
   cases c.arcs.all (Zk3 c)<;>rfl
 ·rw[Zaj]
  show _=some (pB ((true&&c.codes.all (fun x=>Z1 x c.signals.length))&&(ZhB c&&Zi5 c)))
  cases c.codes.all (fun x=>Z1 x c.signals.length)<;>simp only[Bool.false_eq_true,if_false,if_true,EVS]<;>rfl
theorem Zi7 (l:List Int) (x:Int) (hl:ZA l):Zbp [.lst (l.map pI),pI x]=some (pI (ixf (fun a=>decide (x=a)) 0 l)):=by
 show (fun x0 x1=>Zbp [x0,x1]) _ _=_
 rw[ZiD]
 unfold ZA at hl
 simp only[EVS]
 refine (congrArg (fun m:Option PV=>m.bind fun r=>if r.sc=true then some r else none) (Zc4 l (fun a=>decide (x=a)) _ hl (fun again k a hb=> ?_) (fun again=> ?_))).trans ?_
 ·have hk:=Ze hb
  have hi:Zk (.lst (l.map pI)) (.int .i64 (k:Int))=some (pI a):=Zj hb
  simp only[Zr hk,Zi hk hl,hi,EVS]
 ·simp only[ZV,EVS]
  rfl
 ·simp only[EVS]
theorem Zhd (l:List Int) (x:Int) (hl:ZA l):ZaS [.lst (l.map pI),pI x]=some (pB (!ZM (fun _ a=> !decide (x=a)) 0 l)):=by
 have g:=Zi7 l x hl
 show (fun x0 x1=>ZaS [x0,x1]) _ _=_
 rw[ZgQ]
 simp only[g,Ze3 (fun a=>decide (x=a)) l 0,EVS]
theorem ZpP {R:Type} (e:List (Nat×Nat)→Option R):∀(l:List PArc) (k:Nat) (acc:List (Nat×Nat)),Z5 (fun (acc:List (Nat×Nat)) (_:Nat) (a:PArc)=>.inl (acc++[(a.from_.toNat,a.to_.toNat)])) e k acc l=e (acc++l.map fun a=>(a.from_.toNat,a.to_.toNat))
 |[],k,acc=>by simp[Z5]
 | a::l,k,acc=>by
  show Z5 _ e (k+1) (acc++[(a.from_.toNat,a.to_.toNat)]) l=_
  rw[ZpP e l]
  simp
theorem ZCc (a b:PV):splice (splice [ZC.pv (.int .i64),ZC.pv (.int .i64)] 0 [a]) 1 [b]=[a,b]:=rfl
theorem Zs1 (n:Nat) (l:List PArc) (ha:ZpO n l) (hl:l.length≤4000):Zfs [.lst (l.map Z2)]=some (.lst ((l.map fun a=>(a.from_.toNat,a.to_.toNat)).map pSt)):=by
 show (fun x0=>Zfs [x0]) _=_
 rw[Zra]
 simp only[List.length_map,EVS]
 refine (ZaI (R:=PV) l (fun (acc:List (Nat×Nat)) k=>[.lst (acc.map pSt),pI (Int.ofNat k)]) (fun k acc=>acc.length=k) (fun (acc:List (Nat×Nat)) _ a=>.inl (acc++[(a.from_.toNat,a.to_.toNat)])) (fun acc=>some (.lst (acc.map pSt))) _ (by omega) (fun acc k x acc' hi hx he=> ?_) (fun again acc k a hi hx=> ?_) (fun again acc hi=> ?_) (b:=[]) rfl).trans ((ZpP _ _ _ _).trans ?_)
 ·cases he;simp;omega
 ·have hk:=Ze hx
  obtain ⟨f,t,hf,ht,l1,l2⟩:=Znd ha (List.mem_of_getElem? hx)
  have hi':Zk (.lst (l.map Z2)) (.int .i64 (k:Int))=some (Z2 a):=Zj hx
  have hla:acc.length+[PV.agg [pI (f:Int),pI (t:Int)]].length≤4294967296∧[PV.agg [pI (f:Int),pI (t:Int)]].all (Zal 2)=true:=⟨by simp;omega,rfl⟩
  have hps:acc.map pSt++[PV.agg [pI (f:Int),pI (t:Int)]]=(acc++[(f,t)]).map pSt:=by simp[pSt]
  simp only[Zr hk,Zi hk (show l.length≤9223372036854775807 by omega),hi',Z2,hf,ht,Int.toNat_natCast,ZCc,List.length_map,if_pos hla,hps,EVS]
 ·simp only[ZV,EVS]
 ·rfl
theorem Zi8 (x:Int):∀(l:List Int) (k:Nat),ZM (fun _ a=> !decide (x=a)) k l= !decide (x∈l)
 |[],k=>by simp[ZM]
 | a::l,k=>by
  unfold ZM
  rw[Zi8 x l (k+1),Bool.eq_iff_iff]
  simp only[Bool.and_eq_true,Bool.not_eq_true',decide_eq_false_iff_not,List.mem_cons,not_or]
theorem Zs2 {c:PSG} (h:ZpO c.codes.length c.arcs):∀e∈ZpN c,e.1<c.codes.length∧e.2<c.codes.length:=fun e he=>by
 unfold ZpN at he
 obtain ⟨a,ha,rfl⟩:=List.mem_map.1 he
 obtain ⟨f,t,hf,ht,l1,l2⟩:=Znd h ha
 simp only[hf,ht,Int.toNat_natCast]
 exact ⟨l1,l2⟩
theorem ZiB (c:PSG) (hc:SGFit c):Za8 [eSG c]=some (pB (sgV c)):=by
 have hcl:=hc.codes
 have hal:=hc.arcs
 have hsl:=hc.sigs
 unfold ZA at hcl hal hsl
 have g1:=Zi4 c.signals hc.sigs hc.names
 rw[←ZyF] at g1
 have g2:=Zah (c.codes.length:Int) 1 300
 show (fun x0=>Za8 [x0]) _=_
 rw[Zh5]
 unfold sgV
 cases hpre:Zhc c
 ·unfold Zhc at hpre
  cases c1:ZkF c.signals
  ·simp only[eSG,List.length_map,g1,c1,EVS]
  cases c2:inR (c.codes.length:Int) 1 300
  ·simp only[eSG,List.length_map,g1,g2,c1,c2,EVS]
  cases c3:decide ((4000:Int)<c.arcs.length)
  ·rw[c1,c2,c3] at hpre;cases hpre
  ·simp only[eSG,List.length_map,g1,g2,c1,c2,c3,EVS]
 have hpre':=hpre
 unfold Zhc at hpre'
 simp only[Bool.and_eq_true,Bool.not_eq_true'] at hpre'
 obtain ⟨⟨c1,c2⟩,c3⟩:=hpre'
 have hw:IntKind.i64.wrap ((c.codes.length:Int) - 1)=(c.codes.length:Int) - 1:=Zaw (by omega) (by omega)
 simp only[eSG,List.length_map,g1,g2,c1,c2,c3,hw,EVS]
 refine (congrArg (fun m:Option PV=>m.bind fun r=>if r.sc=true then some r else none) (ZjP (R:=PV) c.codes (fun _ x=>Z1 x c.signals.length) (some (pB false)) (some (pB (ZhB c&&Zi5 c))) _ hcl (fun again k x hx=> ?_) (fun hall again=> ?_))).trans ?_
 ·have hk:=Ze hx
  have hi:Zk (.lst (c.codes.map PV.str)) (.int .i64 (k:Int))=some (.str x):=Zj hx
  have g:=ZpF x c.signals.length (hc.each x (List.mem_of_getElem? hx))
  cases cb:Z1 x c.signals.length<;>simp only[Zr hk,Zi hk hcl,hi,g,cb,Bool.false_eq_true,if_false,if_true,EVS]
 ·rw [Zaj] at hall
  have hp:=Zi6 hpre hall
  simp only[ZV,EVS]
  refine (ZjP (R:=PV) c.arcs (fun _ a=>Zk3 c a) (some (pB false)) (some (pB (Zi5 c))) _ hal (fun again k a hx=> ?_) (fun hall' again=> ?_)).trans ?_
  ·have hk:=Ze hx
   have hi:Zk (.lst (c.arcs.map Z2)) (.int .i64 (k:Int))=some (Z2 a):=Zj hx
   have g3:=Zah a.from_ 0 ((c.codes.length:Int) - 1)
   have g4:=Zah a.to_ 0 ((c.codes.length:Int) - 1)
   have g5:=Zw5 a.sig a.up c.signals.length hsl
   unfold Zk3
   cases hg:Zc6 c.signals.length ((c.codes.length:Int) - 1) a
   ·unfold Zc6 at hg
    cases d1:inR a.from_ 0 ((c.codes.length:Int) - 1)
    ·simp only[Z2,Zr hk,Zi hk hal,hi,List.length_map,g3,d1,Bool.false_eq_true,if_false,if_true,EVS]
    cases d2:inR a.to_ 0 ((c.codes.length:Int) - 1)
    ·simp only[Z2,Zr hk,Zi hk hal,hi,List.length_map,g3,g4,d1,d2,Bool.false_eq_true,if_false,if_true,EVS]
    cases d3:Zgf c.signals.length a.sig a.up
    ·simp only[Z2,Zr hk,Zi hk hal,hi,List.length_map,g3,g4,g5,d1,d2,d3,ZpL,Bool.false_eq_true,if_false,if_true,EVS]
    ·rw[d1,d2,d3] at hg;cases hg
   ·obtain ⟨f,t,x,y,hf,ht,l1,l2,hx',hy',he⟩:=ZpM hg
    unfold Zc6 at hg
    simp only[Bool.and_eq_true] at hg
    have bx:=hp.bits x (List.mem_of_getElem? hx')
    have by_:=hp.bits y (List.mem_of_getElem? hy')
    have i1:Zk (.lst (c.codes.map PV.str)) (.int .i64 (f:Int))=some (.str x):=Zj hx'
    have i2:Zk (.lst (c.codes.map PV.str)) (.int .i64 (t:Int))=some (.str y):=Zj hy'
    have e1:c.codes.getD f []=x:=by rw[List.getD_eq_getElem?_getD,hx'];rfl
    have e2:c.codes.getD t []=y:=by rw[List.getD_eq_getElem?_getD,hy'];rfl
    have d1:=hg.1.1
    have d2:=hg.1.2
    have lx:=Zhb bx
    have ly:=Zhb by_
    have g6:=ZqS a x y (hc.each x (List.mem_of_getElem? hx')) (by omega)
    rw[ZCb a.sig a.up x y _ bx by_ he] at g6
    simp only[Z2,hf,ht] at g3 g4 g6 d1 d2
    rw[hf,ht,Int.toNat_natCast,Int.toNat_natCast,e1,e2]
    cases d4:Zmo a.sig a.up x y<;>simp only[Z2,hf,ht,Zr hk,Zi hk hal,hi,List.length_map,g3,g4,g5,g6,d1,d2,he,d4,i1,i2,ZpL,Zx5,Bool.false_eq_true,if_false,if_true,EVS]
  ·rw[Zaj] at hall'
   have hin:=ZrV hall'
   have g7:=Zs1 c.codes.length c.arcs hin hp.arcs
   have g8:=ZkI c.codes.length 0 (ZpN c) (by have:=hp.many;omega) hp.one (by have:=hp.arcs;unfold ZpN;rw[List.length_map];omega) (Zs2 hin)
   have hd:=Zhk hp.one (Zs2 hin)
   have g9:=Zhd (Zbr c.codes.length (ZpN c) 0) (-1) (by unfold ZA;rw[hd.len];omega)
   have hme:Zi5 c= !decide ((-1:Int)∈Zbr c.codes.length (ZpN c) 0):=ZBp hp.one (Zs2 hin)
   rw[Zi8] at g9
   unfold ZpN at g8
   simp only[ZV,List.length_map,g7,EVS]
   rw[show (Int.negSucc 0)=(-1:Int) from rfl]
   simp only[Int.natCast_zero] at g8
   simp only[g8,EVS]
   unfold ZpN at g9 hme
   simp only[g9,hme,Bool.not_not,EVS]
  ·rw[Zaj]
   show _=some (pB (c.arcs.all (Zk3 c)&&Zi5 c))
   cases c.arcs.all (Zk3 c)<;>rfl
 ·rw[Zaj]
  show _=some (pB ((true&&c.codes.all (fun x=>Z1 x c.signals.length))&&(ZhB c&&Zi5 c)))
  cases c.codes.all (fun x=>Z1 x c.signals.length)<;>simp only[Bool.false_eq_true,if_false,if_true,EVS]<;>rfl
theorem Zu3 {R α β:Type} (l:List α) (J:β→Nat→List PV) (Inv:Nat→β→Prop) (step:β→Nat→α→Sum β (Option R)) (e:β→Option R) (f:(List PV→Option R)→List PV→Option R) (hl:l.length≤9223372036854775807)
 (hs:∀b k x b',Inv k b→l[k]?=some x→step b k x=.inl b'→Inv (k+1) b')
 (h1:∀again b k x,Inv k b→l[k]?=some x→f again (J b k)=match step b k x with|.inl b'=>again (J b' (k+1))|.inr z=>z)
 (h2:∀again b,Inv l.length b→f again (J b l.length)=e b) {b:β} {k:Nat} (hk:k≤l.length) (hb:Inv k b):Zm f 18446744073709551616 (J b k)=Z5 step e k b (l.drop k):=by
 have key:=ZaP (R:=R) (fun q:{q:β×Nat // Inv q.2 q.1∧q.2≤l.length}=>J q.1.1 q.1.2) (fun q=>l.length+1 - q.1.2) (fun q=>Z5 step e q.1.2 q.1.1 (l.drop q.1.2)) f (fun again q ih=> ?_) 18446744073709551616 ⟨(b,k),hb,hk⟩ (by simp only;omega)
 ·exact key
 ·obtain ⟨⟨b,k⟩,hi,hk⟩:=q
  dsimp only at ih hi hk⊢
  by_cases hlt:k<l.length
  ·have hx:l[k]?=some l[k]:=List.getElem?_eq_getElem hlt
   rw[h1 again b k _ hi hx,List.drop_eq_getElem_cons hlt]
   unfold Z5
   cases hst:step b k l[k] with
   |inl b'=>exact ih ⟨(b',k+1),hs _ _ _ _ hi hx hst,hlt⟩ (by simp only;omega)
   |inr z=>rfl
  ·obtain rfl:k=l.length:=by omega
   rw[h2 again b hi,List.drop_length]
   rfl
theorem capsA0 :Zbu 0 (.tup [])=some []:=by simp[Zbu,PV.parts]
theorem Zki (a:PArc):ZbF [Z2 a]=some (pB (decide (a.sig= -1))):=by
 show (fun x0=>ZbF [x0]) _=_
 rw[Zjp]
 simp only[Z2,EVS]
 rfl
theorem Zb1 (l:List PArc) (hl:ZA l):ZF [.lst (l.map Z2),.tup []]=some (pI (ixf (fun a=>decide (a.sig= -1)) 0 l)):=by
 show (fun x0 x1=>ZF [x0,x1]) _ _=_
 rw[ZbQ]
 unfold ZA at hl
 simp only[EVS]
 refine (congrArg (fun m:Option PV=>m.bind fun r=>if r.sc=true then some r else none) (Zc4 l (fun a=>decide (a.sig= -1)) _ hl (fun again k a hb=> ?_) (fun again=> ?_))).trans ?_
 ·have hk:=Ze hb
  have hi:Zk (.lst (l.map Z2)) (.int .i64 (k:Int))=some (Z2 a):=Zj hb
  have g:=Zki a
  simp only[Z2] at g
  cases hc:decide (a.sig= -1)<;>simp only[Zr hk,Zi hk hl,hi,Z2,g,hc,capsA0,List.append_nil,List.cons_append,List.nil_append,Bool.false_eq_true,if_false,if_true,EVS]
 ·simp only[ZV,EVS]
  rfl
 ·simp only[EVS]
def ZhC (l:List PArc):Bool:=l.any fun a=>decide (a.sig= -1)
theorem Zbw (l:List PArc) (hl:ZA l):Zw [.lst (l.map Z2),.tup []]=some (pB (ZhC l)):=by
 have g:=Zb1 l hl
 show (fun x0 x1=>Zw [x0,x1]) _ _=_
 rw[Zbm]
 simp only[g,Ze3 (fun a:PArc=>decide (a.sig= -1)) l 0,EVS]
 rw[Zaj,List.all_eq_not_any_not]
 simp only[Bool.not_not]
 rfl
theorem Zs3 (c:PSG) (hl:ZA c.arcs):Zfx [eSG c]=some (pB (c.arcs.any fun a=>decide (a.sig<0))):=by
 unfold ZA at hl
 show (fun x0=>Zfx [x0]) _=_
 rw[Zrj]
 simp only[eSG,EVS]
 refine (congrArg (fun m:Option PV=>m.bind fun r=>if r.sc=true then some r else none) (ZN (R:=PV) c.arcs (fun _ a=> !decide (a.sig<0)) (some (pB true)) (some (pB false)) _ hl (fun again k a hx=> ?_) (fun again=> ?_))).trans ?_
 ·have hk:=Ze hx
  have hi:Zk (.lst (c.arcs.map Z2)) (.int .i64 (k:Int))=some (Z2 a):=Zj hx
  cases hc:decide (a.sig<0)<;>simp only[List.length_map,Zr hk,Zi hk hl,hi,Z2,hc,Bool.not_true,Bool.not_false,Bool.false_eq_true,if_false,if_true,EVS]
 ·simp only[List.length_map,ZV,EVS]
 ·rw[Zaj,List.any_eq_not_all_not]
  cases c.arcs.all (fun a=> !decide (a.sig<0))<;>simp only[Bool.not_true,Bool.not_false,Bool.false_eq_true,if_false,if_true,EVS]
theorem Zxb {c:PSG} (h:ZhB c=true):(c.arcs.any fun a=>decide (a.sig<0))=ZhC c.arcs:=by
 unfold ZhC
 rw[Bool.eq_iff_iff,List.any_eq_true,List.any_eq_true]
 constructor
 ·rintro ⟨a,ha,h1⟩
  refine ⟨a,ha, ?_⟩
  have:=List.all_eq_true.1 h a ha
  unfold Zk3 Zc6 Zgf inR at this
  simp only[Bool.and_eq_true,Bool.or_eq_true,decide_eq_true_eq] at this h1⊢
  omega
 ·rintro ⟨a,ha,h1⟩
  refine ⟨a,ha, ?_⟩
  simp only[decide_eq_true_eq] at h1⊢
  omega
theorem ZBg (x y:List UInt8×Int):eqV (some [(0,TD.str),(1,TD.int IntKind.i64)]) TD.struct (.agg [.str x.1,pI x.2]) (.agg [.str y.1,pI y.2])=some (decide (x=y)):=by
 have e:decide (x=y)=((x.1==y.1)&&((x.2==y.2)&&true)):=by
  rw[Bool.eq_iff_iff]
  simp only[decide_eq_true_eq,Bool.and_eq_true,Prod.ext_iff,beq_iff_eq,and_true]
 rw[e]
 show (some (x.1==y.1)).bind (fun b=>(some ((x.2==y.2)&&true)).map fun c=>b&&c)=_
 rfl
def ZhD (l:List (List UInt8×Int)) (k:Nat) (x:List UInt8×Int):Bool:=match l[k]? with|some y=>decide (x=y)|none=>false
theorem ZyM (l m:List (List UInt8×Int)) (h:l.length=m.length):ZM (ZhD m) 0 l=decide (l=m):=by
 rw[Bool.eq_iff_iff,ZpK,decide_eq_true_eq]
 constructor
 ·intro hx
  apply List.ext_getElem h
  intro i h1 h2
  have:=hx i l[i] (List.getElem?_eq_getElem h1)
  unfold ZhD at this
  rw[Nat.zero_add,List.getElem?_eq_getElem h2] at this
  simpa using this
 ·rintro rfl i x hi
  unfold ZhD
  rw[Nat.zero_add,hi]
  simp
theorem Zhe (l m:List (List UInt8×Int)) (hl:ZA l):ZaR [.lst (l.map ZD),.lst (m.map ZD)]=some (pB (decide (l=m))):=by
 unfold ZA at hl
 show (fun x0 x1=>ZaR [x0,x1]) _ _=_
 rw[ZgN]
 by_cases hlen:l.length=m.length
 ·have d:decide ((l.length:Int)=(m.length:Int))=true:=by rw[decide_eq_true_eq];omega
  simp only[List.length_map,d,EVS]
  refine (congrArg (fun m:Option PV=>m.bind fun r=>if r.sc=true then some r else none) (ZN (R:=PV) l (ZhD m) (some (pB false)) (some (pB true)) _ hl (fun again k x hx=> ?_) (fun again=> ?_))).trans ?_
  ·have hk:=Ze hx
   have hy:m[k]?=some (m[k]'(by omega)):=List.getElem?_eq_getElem _
   have hi:Zk (.lst (l.map ZD)) (.int .i64 (k:Int))=some (ZD x):=Zj hx
   have hj:Zk (.lst (m.map ZD)) (.int .i64 (k:Int))=some (ZD (m[k]'(by omega))):=Zj hy
   have hs:ZhD m k x=decide (x=m[k]'(by omega)):=by unfold ZhD;rw[hy]
   have he:=ZBg x (m[k]'(by omega))
   rw[hs]
   cases hc:decide (x=m[k]'(by omega))<;>simp only[List.length_map,Zr hk,Zi hk hl,hi,hj,ZD,ZK,he,hc,Bool.not_true,Bool.not_false,Bool.false_eq_true,if_false,if_true,EVS]
  ·simp only[List.length_map,ZV,EVS]
  ·rw[ZyM l m hlen]
   cases decide (l=m)<;>simp only[Bool.false_eq_true,if_false,if_true,EVS]
 ·have d:decide ((l.length:Int)=(m.length:Int))=false:=by simp only[decide_eq_false_iff_not];omega
  have hne:decide (l=m)=false:=by simp only[decide_eq_false_iff_not];rintro rfl;exact hlen rfl
  simp only[List.length_map,d,hne,EVS]
theorem Zmp (l m:List (List UInt8×Int)) (hl:ZA l):ZcF [.lst (l.map ZD),.lst (m.map ZD)]=some (pB (decide (l=m))):=by
 unfold ZA at hl
 show (fun x0 x1=>ZcF [x0,x1]) _ _=_
 rw[ZlA]
 by_cases hlen:l.length=m.length
 ·have d:decide ((l.length:Int)=(m.length:Int))=true:=by rw[decide_eq_true_eq];omega
  simp only[List.length_map,d,EVS]
  refine (congrArg (fun m:Option PV=>m.bind fun r=>if r.sc=true then some r else none) (ZN (R:=PV) l (ZhD m) (some (pB false)) (some (pB true)) _ hl (fun again k x hx=> ?_) (fun again=> ?_))).trans ?_
  ·have hk:=Ze hx
   have hy:m[k]?=some (m[k]'(by omega)):=List.getElem?_eq_getElem _
   have hi:Zk (.lst (l.map ZD)) (.int .i64 (k:Int))=some (ZD x):=Zj hx
   have hj:Zk (.lst (m.map ZD)) (.int .i64 (k:Int))=some (ZD (m[k]'(by omega))):=Zj hy
   have hs:ZhD m k x=decide (x=m[k]'(by omega)):=by unfold ZhD;rw[hy]
   have he:=ZBg x (m[k]'(by omega))
   rw[hs]
   cases hc:decide (x=m[k]'(by omega))<;>simp only[List.length_map,Zr hk,Zi hk hl,hi,hj,ZD,ZK,he,hc,Bool.not_true,Bool.not_false,Bool.false_eq_true,if_false,if_true,EVS]
  ·simp only[List.length_map,ZV,EVS]
  ·rw[ZyM l m hlen]
   cases decide (l=m)<;>simp only[Bool.false_eq_true,if_false,if_true,EVS]
 ·have d:decide ((l.length:Int)=(m.length:Int))=false:=by simp only[decide_eq_false_iff_not];omega
  have hne:decide (l=m)=false:=by simp only[decide_eq_false_iff_not];rintro rfl;exact hlen rfl
  simp only[List.length_map,d,hne,EVS]
def Zk4 (a b:PArc):Bool:=(((!decide (a.sig= -1))&&decide (b.from_=a.from_))&&decide (b.sig=a.sig))&& !decide (b.to_=a.to_)
def Zs4 (a b:PArc):Bool:=((decide (a.from_=b.from_)&&decide (a.sig=b.sig))&&decide (0≤a.sig))&& !decide (a.to_=b.to_)
def wE (p:Nat×Nat):PV:=.lst [pI p.1,pI p.2]
def ZdG (w:PArc→PArc→Bool) (i:Nat) (a:PArc):Nat→List (Nat×Nat)→List PArc→List (Nat×Nat)
 |_,acc,[]=>acc
 |k,acc,b::l=>ZdG w i a (k+1) (if w a b=true then acc++[(i,k)] else acc) l
def ZhE (w:PArc→PArc→Bool) (arcs:List PArc):Nat→List (Nat×Nat)→List PArc→List (Nat×Nat)
 |_,acc,[]=>acc
 |i,acc,a::l=>ZhE w arcs (i+1) (ZdG w i a (i+1) acc (arcs.drop (i+1))) l
theorem Zi9 {R:Type} (w:PArc→PArc→Bool) (i:Nat) (a:PArc) (e:List (Nat×Nat)→Option R):∀(l:List PArc) (k:Nat) (acc:List (Nat×Nat)),Z5 (fun (acc:List (Nat×Nat)) k b=>.inl (if w a b=true then acc++[(i,k)] else acc)) e k acc l=e (ZdG w i a k acc l)
 |[],k,acc=>rfl
 |b::l,k,acc=>by unfold Z5 ZdG;exact Zi9 w i a e l (k+1) _
theorem Zja {R:Type} (w:PArc→PArc→Bool) (arcs:List PArc) (e:List (Nat×Nat)→Option R):∀(l:List PArc) (k:Nat) (acc:List (Nat×Nat)),Z5 (fun (acc:List (Nat×Nat)) i a=>.inl (ZdG w i a (i+1) acc (arcs.drop (i+1)))) e k acc l=e (ZhE w arcs k acc l)
 |[],k,acc=>rfl
 |b::l,k,acc=>by unfold Z5 ZhE;exact Zja w arcs e l (k+1) _
theorem Zk5 (w:PArc→PArc→Bool) (i:Nat) (a:PArc):∀(l:List PArc) (k:Nat) (acc:List (Nat×Nat)),(ZdG w i a k acc l).length≤acc.length+l.length
 |[],k,acc=>by simp[ZdG]
 | b::l,k,acc=>by
  have:=Zk5 w i a l (k+1) (if w a b=true then acc++[(i,k)] else acc)
  unfold ZdG
  split at this<;>rename_i h
  ·rw[if_pos h];simp at this⊢;omega
  ·rw[if_neg h];simp at this⊢;omega
theorem Zmq {w w':PArc→PArc→Bool} (i:Nat) (a:PArc):∀(l:List PArc) (k:Nat) (acc:List (Nat×Nat)),(∀b∈l,w a b=w' a b)→ZdG w i a k acc l=ZdG w' i a k acc l
 |[],k,acc,h=>rfl
 |b::l,k,acc,h=>by unfold ZdG;rw[h b List.mem_cons_self];exact Zmq i a l _ _ fun b hb=>h b (List.mem_cons_of_mem _ hb)
theorem Zmr {w w':PArc→PArc→Bool} (arcs:List PArc):∀(l:List PArc) (k:Nat) (acc:List (Nat×Nat)),(∀a∈l,∀b∈arcs,w a b=w' a b)→ZhE w arcs k acc l=ZhE w' arcs k acc l
 |[],k,acc,h=>rfl
 | a::l,k,acc,h=>by
  unfold ZhE
  rw[Zmq k a _ _ _ fun b hb=>h a List.mem_cons_self b (List.mem_of_mem_drop hb)]
  exact Zmr arcs l _ _ fun a ha=>h a (List.mem_cons_of_mem _ ha)
def Zjb (w:PArc→PArc→Bool) (c:PSG):List (Nat×Nat):=ZhE w c.arcs 0 [] c.arcs
theorem ZCd {c:PSG} (h:ZhB c=true):Zjb Zs4 c=Zjb Zk4 c:=Zmr _ _ _ _ fun a ha b hb=>by
 have:=List.all_eq_true.1 h a ha
 unfold Zk3 Zc6 Zgf inR at this
 simp only[Bool.and_eq_true,Bool.or_eq_true,decide_eq_true_eq] at this
 have h1:a.sig= -1∨0≤a.sig:=by omega
 unfold Zs4 Zk4
 rw[Bool.eq_iff_iff]
 simp only[Bool.and_eq_true,Bool.not_eq_true',decide_eq_true_eq,decide_eq_false_iff_not]
 omega
theorem Zu4 (c:PSG) (hl:c.arcs.length≤4000):Zgk [eSG c]=some (.lst ((Zjb Zk4 c).map wE)):=by
 show (fun x0=>Zgk [x0]) _=_
 rw[Zte]
 simp only[eSG,EVS]
 refine (ZaI (R:=PV) c.arcs (fun (acc:List (Nat×Nat)) i=>[.lst (acc.map wE),pI (Int.ofNat i)]) (fun i acc=>acc.length≤i * 4000) (fun acc i a=>.inl (ZdG Zk4 i a (i+1) acc (c.arcs.drop (i+1)))) (fun acc=>some (.lst (acc.map wE))) _ (by omega) (fun acc i a acc' hi hx he=> ?_) (fun again acc i a hi hx=> ?_) (fun again acc hi=> ?_) (b:=[]) (by simp)).trans (Zja _ _ _ _ _ _)
 ·cases he
  have:=Zk5 Zk4 i a (c.arcs.drop (i+1)) (i+1) acc
  simp at this
  omega
 ·have hk:=Ze hx
  have hi':Zk (.lst (c.arcs.map Z2)) (.int .i64 (i:Int))=some (Z2 a):=Zj hx
  have hnx:=Zi hk (show c.arcs.length≤9223372036854775807 by omega)
  simp only[List.length_map,Zr hk,hnx,hi',Z2,EVS]
  refine (Zu3 (R:=PV) c.arcs (fun (acc:List (Nat×Nat)) k=>[.lst (acc.map wE),pI (Int.ofNat k)]) (fun k acc=>acc.length≤i * 4000+k) (fun acc k b=>.inl (if Zk4 a b=true then acc++[(i,k)] else acc)) (fun acc=>again [.lst (acc.map wE),pI (Int.ofNat (i+1))]) _ (by omega) (fun acc k b acc' hi hx he=> ?_) (fun again' acc k b hi2 hx2=> ?_) (fun again' acc hi=> ?_) (b:=acc) (k:=i+1) (show i+1≤c.arcs.length from hk) (show acc.length≤i * 4000+(i+1) from Nat.le_trans hi (Nat.le_add_right _ _))).trans (Zi9 _ _ _ _ _ _ _)
  ·cases he
   show (if Zk4 a b=true then acc++[(i,k)] else acc).length≤i * 4000+(k+1)
   have hi:acc.length≤i * 4000+k:=hi
   cases Zk4 a b
   ·rw[if_neg (by decide)];omega
   ·rw[if_pos rfl,List.length_append,List.length_singleton];omega
  ·have hk2:=Ze hx2
   have hj:Zk (.lst (c.arcs.map Z2)) (.int .i64 (k:Int))=some (Z2 b):=Zj hx2
   have hla:acc.length+[PV.lst [pI (i:Int),pI (k:Int)]].length≤4294967296∧[PV.lst [pI (i:Int),pI (k:Int)]].all (Zal 1)=true:=⟨by simp;omega,rfl⟩
   have hps:acc.map wE++[PV.lst [pI (i:Int),pI (k:Int)]]=(acc++[(i,k)]).map wE:=by simp[wE]
   unfold Zk4
   simp only[List.length_map,Zr hk2,Zi hk2 (show c.arcs.length≤9223372036854775807 by omega),hj,Z2,EVS]
   rw[show Int.negSucc 0=(-1:Int) from rfl]
   have hok:([PV.lst [pI (i:Int),pI (k:Int)]].all fun x=>Zal 1 x)=true:=rfl
   cases c1:decide (a.sig= -1)<;>cases c2:decide (b.from_=a.from_)<;>cases c3:decide (b.sig=a.sig)<;>cases c4:decide (b.to_=a.to_)<;>simp only[c1,c2,c3,c4,if_pos hla,hps,if_pos hok,EVS]
  ·simp only[List.length_map,ZV,hnx,EVS]
 ·simp only[List.length_map,ZV,EVS]
theorem Zxc (c:PSG) (hl:c.arcs.length≤4000):Zim [eSG c]=some (.lst ((Zjb Zs4 c).map wE)):=by
 show (fun x0=>Zim [x0]) _=_
 rw[ZvR]
 simp only[eSG,EVS]
 refine (ZaI (R:=PV) c.arcs (fun (acc:List (Nat×Nat)) i=>[.lst (acc.map wE),pI (Int.ofNat i)]) (fun i acc=>acc.length≤i * 4000) (fun acc i a=>.inl (ZdG Zs4 i a (i+1) acc (c.arcs.drop (i+1)))) (fun acc=>some (.lst (acc.map wE))) _ (by omega) (fun acc i a acc' hi hx he=> ?_) (fun again acc i a hi hx=> ?_) (fun again acc hi=> ?_) (b:=[]) (by simp)).trans (Zja _ _ _ _ _ _)
 ·cases he
  have:=Zk5 Zs4 i a (c.arcs.drop (i+1)) (i+1) acc
  simp at this
  omega
 ·have hk:=Ze hx
  have hi':Zk (.lst (c.arcs.map Z2)) (.int .i64 (i:Int))=some (Z2 a):=Zj hx
  have hnx:=Zi hk (show c.arcs.length≤9223372036854775807 by omega)
  simp only[List.length_map,Zr hk,hnx,hi',Z2,EVS]
  refine (Zu3 (R:=PV) c.arcs (fun (acc:List (Nat×Nat)) k=>[.lst (acc.map wE),pI (Int.ofNat k)]) (fun k acc=>acc.length≤i * 4000+k) (fun acc k b=>.inl (if Zs4 a b=true then acc++[(i,k)] else acc)) (fun acc=>again [.lst (acc.map wE),pI (Int.ofNat (i+1))]) _ (by omega) (fun acc k b acc' hi hx he=> ?_) (fun again' acc k b hi2 hx2=> ?_) (fun again' acc hi=> ?_) (b:=acc) (k:=i+1) (show i+1≤c.arcs.length from hk) (show acc.length≤i * 4000+(i+1) from Nat.le_trans hi (Nat.le_add_right _ _))).trans (Zi9 _ _ _ _ _ _ _)
  ·cases he
   show (if Zs4 a b=true then acc++[(i,k)] else acc).length≤i * 4000+(k+1)
   have hi:acc.length≤i * 4000+k:=hi
   cases Zs4 a b
   ·rw[if_neg (by decide)];omega
   ·rw[if_pos rfl,List.length_append,List.length_singleton];omega
  ·have hk2:=Ze hx2
   have hj:Zk (.lst (c.arcs.map Z2)) (.int .i64 (k:Int))=some (Z2 b):=Zj hx2
   have hla:acc.length+[PV.lst [pI (i:Int),pI (k:Int)]].length≤4294967296∧[PV.lst [pI (i:Int),pI (k:Int)]].all (Zal 1)=true:=⟨by simp;omega,rfl⟩
   have hps:acc.map wE++[PV.lst [pI (i:Int),pI (k:Int)]]=(acc++[(i,k)]).map wE:=by simp[wE]
   unfold Zs4
   simp only[List.length_map,Zr hk2,Zi hk2 (show c.arcs.length≤9223372036854775807 by omega),hj,Z2,EVS]
   have hok:([PV.lst [pI (i:Int),pI (k:Int)]].all fun x=>Zal 1 x)=true:=rfl
   cases c1:decide (a.from_=b.from_)<;>cases c2:decide (a.sig=b.sig)<;>cases c3:decide (0≤a.sig)<;>cases c4:decide (a.to_=b.to_)<;>simp only[c1,c2,c3,c4,if_pos hla,hps,if_pos hok,EVS]
  ·simp only[List.length_map,ZV,hnx,EVS]
 ·simp only[List.length_map,ZV,EVS]
theorem ZjZ {c:PSG} (h:sgV c=true):Zhc c=true∧Zs0 c=true∧ZhB c=true∧Zi5 c=true:=by
 unfold sgV at h
 simp only[Bool.and_eq_true] at h
 exact ⟨h.1.1,h.1.2,h.2.1,h.2.2⟩
theorem Zu5 {c:PSG} (h:sgV c=true):c.arcs.length≤4000:=by
 have:=(ZjZ h).1
 unfold Zhc at this
 simp only[Bool.and_eq_true,Bool.not_eq_true',decide_eq_false_iff_not] at this
 omega
def ZyN (c:PSG) (n:PNet):Bool:=((!ZhC c.arcs)&&decide (((Zjb Zk4 c).length:Int)=0))&&decide (c.signals=n.signals)
def goP (c:PSG) (n:PNet):Bool:=(sgV c&&Zdm n)&&ZyN c n
theorem ZzC (c:PSG) (n:PNet) (hc:SGFit c) (hn:n.Fit):Zj7 [eSG c,Zo n]=some (pB (goP c n)):=by
 have g1:=Zxa c hc
 have g2:=ZnP n hn
 show (fun x0 x1=>Zj7 [x0,x1]) _ _=_
 rw[Zxy]
 unfold goP ZyN
 simp only[eSG,Zo] at g1 g2
 cases c1:sgV c
 ·rw[c1] at g1;simp only[eSG,Zo,ZK,ZR,g1,EVS]
 cases c2:Zdm n
 ·rw[c1] at g1;rw[c2] at g2;simp only[eSG,Zo,ZK,ZR,g1,g2,EVS]
 rw[c1] at g1;rw[c2] at g2
 have g3:=Zs3 c hc.arcs
 rw[Zxb (ZjZ c1).2.2.1] at g3
 have g4:=Zxc c (Zu5 c1)
 rw[ZCd (ZjZ c1).2.2.1] at g4
 have g5:=Zmp c.signals n.signals hc.sigs
 simp only[eSG] at g3 g4
 cases c3:ZhC c.arcs
 ·rw[c3] at g3
  cases c4:decide (((Zjb Zk4 c).length:Int)=0)
  ·simp only[eSG,Zo,ZK,ZR,g1,g2,g3,g4,c4,List.length_map,EVS]
  ·simp only[eSG,Zo,ZK,ZR,g1,g2,g3,g4,g5,c4,List.length_map,EVS]
 ·rw[c3] at g3;simp only[eSG,Zo,ZK,ZR,g1,g2,g3,EVS]
theorem Zk6 (c:PSG) (n:PNet) (hc:SGFit c) (hn:n.Fit):Zbq [eSG c,Zo n]=some (.tup [pB (goP c n),pB (sgV c&&Zdm n)]):=by
 have g1:=ZiB c hc
 have g2:=ZfQ n hn
 rw[←ZBd] at g2
 have g3:=Zbw c.arcs hc.arcs
 have g5:=Zhe c.signals n.signals hc.sigs
 show (fun x0 x1=>Zbq [x0,x1]) _ _=_
 rw[Zll]
 unfold goP ZyN
 simp only[eSG,Zo] at g1 g2
 cases c1:sgV c
 ·rw[c1] at g1;simp only[eSG,Zo,ZK,ZR,g1,EVS];rfl
 cases c2:Zdm n
 ·rw[c1] at g1;rw[c2] at g2;simp only[eSG,Zo,ZK,ZR,g1,g2,EVS];rfl
 rw[c1] at g1;rw[c2] at g2
 have g4:=Zu4 c (Zu5 c1)
 simp only[eSG] at g4
 cases c3:ZhC c.arcs
 ·rw[c3] at g3
  cases c4:decide (((Zjb Zk4 c).length:Int)=0)
  ·simp only[eSG,Zo,ZK,ZR,g1,g2,g3,g4,c4,List.length_map,EVS];rfl
  ·simp only[eSG,Zo,ZK,ZR,g1,g2,g3,g4,g5,c4,List.length_map,EVS];rfl
 ·rw[c3] at g3;simp only[eSG,Zo,ZK,ZR,g1,g2,g3,EVS];rfl
theorem Zel {R:Type} (a b:Nat) (st:Nat→List PV) (e:Option R) (f:(List PV→Option R)→List PV→Option R) (hm:b≤9223372036854775807)
 (h1:∀again k,a≤k→k<b→f again (st k)=again (st (k+1)))
 (h2:∀again,f again (st b)=e) (hab:a≤b) (J:List PV) (hJ:st a=J):Zm f 18446744073709551616 J=e:=by
 subst hJ
 have key:=ZaP (R:=R) (fun k:{k:Nat // a≤k∧k≤b}=>st k.1) (fun k=>b+1 - k.1) (fun _=>e) f (fun again k ih=> ?_) 18446744073709551616 ⟨a,Nat.le_refl _,hab⟩ (by simp only;omega)
 ·exact key
 ·obtain ⟨k,hk,hk2⟩:=k
  dsimp only at ih⊢
  by_cases c:k<b
  ·rw[h1 again k hk c]
   exact ih ⟨k+1,by omega,c⟩ (by simp only;omega)
  ·obtain rfl:k=b:=by omega
   exact h2 again
def ZaX (good:Nat→Bool) (k:Nat):List Int:=((List.range k).filter good).map fun (i:Nat)=>Int.ofNat i
theorem Zk7 (good:Nat→Bool) (k:Nat):(ZaX good k).length≤k:=by
 unfold ZaX
 rw[List.length_map]
 exact Nat.le_trans (List.length_filter_le _ _) (by simp)
theorem ZpQ {good:Nat→Bool} {k:Nat} (h:good k=true):ZaX good (k+1)=ZaX good k++[(k:Int)]:=by
 unfold ZaX
 rw[List.range_succ,List.filter_append]
 simp[h]
theorem ZrW {good:Nat→Bool} {k:Nat} (h:good k=false):ZaX good (k+1)=ZaX good k:=by
 unfold ZaX
 rw[List.range_succ,List.filter_append]
 simp[h]
def Zp (n:PNet) (s:List UInt8) (k:Nat):Bool:=match n.wires[k]? with|some w=>ZfS n s k w !=Zha s k|none=>false
theorem Zjc (n:PNet) (s:List UInt8) (hn:n.Fit) (hs:ZA s) (hv:Zfk n s=true) (hb:n.wires.length≤1048576):ZcX [Zo n,.str s]=some (.lst ((ZaX (Zp n s) n.wires.length).map pI)):=by
 show (fun x0 x1=>ZcX [x0,x1]) _ _=_
 rw[Zoe]
 simp only[Zo,EVS]
 refine (congrArg (fun m:Option PV=>m) (Zel (R:=PV) 0 n.wires.length (fun k=>[.lst ((ZaX (Zp n s) k).map pI),pI (Int.ofNat k)]) (some (.lst ((ZaX (Zp n s) n.wires.length).map pI))) _ (by omega) (fun again k h1 h2=> ?_) (fun again=> ?_) (Nat.zero_le _) _ (by simp[ZaX]))).trans ?_
 ·have ha:=ZBf n s k hn hs hv h2
  have a1:=ZnT n s k _ ha
  simp only[Zo] at a1
  have hk:k<s.length:=ha.lt
  have hby:=Zq (k:=.i64) (List.getElem?_eq_getElem hk)
  have ho:Zha s k=decide ((s[k].toNat:Int)=49):=by unfold Zha;rw[List.getElem?_eq_getElem hk]
  have he:Zp n s k=(ZfS n s k n.wires[k] !=Zha s k):=by unfold Zp;rw[List.getElem?_eq_getElem h2]
  have hl:(ZaX (Zp n s) k).length+[pI (k:Int)].length≤4294967296∧[pI (k:Int)].all (Zal 1)=true:=⟨by have:=Zk7 (Zp n s) k;simp;omega,rfl⟩
  have he':(!ZfS n s k n.wires[k]==decide ((s[k].toNat:Int)=49))=Zp n s k:=by rw[he,ho];rfl
  have hm:n.wires.length≤9223372036854775807:=by omega
  simp only[Zr h2,hby,a1,he',EVS]
  cases hE:Zp n s k
  ·simp only[Zi h2 hm,ZrW hE,EVS]
  ·simp only[if_pos hl,Zi h2 hm,ZpQ hE,List.map_append,List.map_cons,List.map_nil,EVS]
 ·simp only[ZV,EVS]
 ·rfl
theorem ZdV (n:PNet) (s:List UInt8) (k:Nat) (hn:n.Fit) (hs:ZA s) (hv:Zfk n s=true) (h2:k<n.wires.length):ZaF [Zo n,.str s,pI k]=some (pB (Zp n s k)):=by
 have ha:=ZBf n s k hn hs hv h2
 have a1:=Zmm n s k _ ha
 simp only[Zo] at a1
 have hk:k<s.length:=ha.lt
 have hby:=Zq (k:=.i64) (List.getElem?_eq_getElem hk)
 have he:Zp n s k=(ZfS n s k n.wires[k] !=decide ((s[k].toNat:Int)=49)):=by unfold Zp Zha;rw[List.getElem?_eq_getElem h2,List.getElem?_eq_getElem hk]
 have hbit:ZfR s[k]=true:=by
  unfold Zfk Z1 at hv
  simp only[Bool.and_eq_true] at hv
  exact ZjV _ _ _ hv.2.1 k _ (List.getElem?_eq_getElem hk)
 unfold ZfR at hbit
 simp only[Bool.or_eq_true,decide_eq_true_eq] at hbit
 show (fun x0 x1 x2=>ZaF [x0,x1,x2]) _ _ _=_
 rw[Zlf]
 simp only[Zo,a1,hby,ZyH,he,EVS]
 cases ZfS n s k n.wires[k]<;>rcases hbit with h|h<;>rw[h]<;>rfl
def ZgJ (n:PNet) (v:List UInt8) (k:Nat):Bool:=match n.wires[k]? with|some w=>ZfS n v k w|none=>false
def Zhf (n:PNet):Nat→Nat→List UInt8→List UInt8
 |0,_,v=>v
 |c+1,k,v=>Zhf n c (k+1) (v.set k (Zf7 (ZgJ n v k)))
def ZeA (n:PNet) (code:List UInt8):List UInt8:=Zhf n (n.wires.length - n.signals.length) n.signals.length (code++List.replicate (n.wires.length - n.signals.length) 48)
theorem ZaQ {n:PNet} (h:Zdm n=true):n.signals.length≤n.wires.length∧n.wires.length≤24:=by
 unfold Zdm at h
 simp only[Bool.and_eq_true,Bool.not_eq_true',decide_eq_false_iff_not] at h
 omega
theorem ZyO {n:PNet} {v:List UInt8} {k:Nat} (hn:n.Fit) (hv:Zdm n=true) (hb:Z1 v n.wires.length=true) (hk:k<n.wires.length):At n v k n.wires[k]∧ZfS n v k n.wires[k]=ZgJ n v k:=by
 have hl:=(ZaN.1 hb).2
 refine ⟨ZBf n v k hn (by unfold ZA;have:=(ZaQ hv).2;omega) (by unfold Zfk;rw[hv,hb];rfl) hk, ?_⟩
 unfold ZgJ
 rw[List.getElem?_eq_getElem hk]
theorem ZqT (n:PNet) (code:List UInt8) (hn:n.Fit) (hv:Zdm n=true) (hc:Z1 code n.signals.length=true):ZeO [Zo n,.str code]=some (.str (ZeA n code)):=by
 obtain ⟨hs1,hs2⟩:=ZaQ hv
 have hcl:=(ZaN.1 hc).2
 obtain ⟨N,hN⟩:∃N,n.wires.length=N:=⟨_,rfl⟩
 obtain ⟨m,hm⟩:∃m,n.signals.length=m:=⟨_,rfl⟩
 show (fun x0 x1=>ZeO [x0,x1]) _ _=_
 rw[Zql]
 simp only[Zo,EVS]
 have key:=ZaP (R:=PV) (fun j:{j:Nat // j≤N - m}=>[.str (code++List.replicate j.1 48)]) (fun j=>N - m+1 - j.1) (fun _=>some (.str (ZeA n code)))
 have key':∀f:(List PV→Option PV)→List PV→Option PV,(∀again (a:{j:Nat // j≤N - m}),(∀a':{j:Nat // j≤N - m},N - m+1 - a'.1<N - m+1 - a.1→again [.str (code++List.replicate a'.1 48)]=some (.str (ZeA n code)))→f again [.str (code++List.replicate a.1 48)]=some (.str (ZeA n code)))→Zm f 18446744073709551616 [.str code]=some (.str (ZeA n code)):=fun f hf=>by
  have:=key f hf 18446744073709551616 ⟨0,Nat.zero_le _⟩ (by simp only;omega)
  simpa using this
 refine (congrArg (fun m:Option PV=>m.bind fun r=>if r.sc=true then some r else none) (key' _ (fun again j ih=> ?_))).trans rfl
 obtain ⟨j,hj⟩:=j
 dsimp only at ih⊢
 have hlen:(code++List.replicate j (48:UInt8)).length=m+j:=by simp;omega
 by_cases c1:m+j<N
 ·have h1:decide (((m+j:Nat):Int)<(N:Int))=true:=by simp;omega
  have h0:Zd .add TD.str (.str (code++List.replicate j (48:UInt8))) (.str [48])=some (.str (code++List.replicate (j+1) (48:UInt8))):=by
   rw[ZbH (by simp at hlen⊢;omega),List.append_assoc,←List.replicate_succ']
  have h5:Zd .add TD.str (.str (code++List.replicate j (48:UInt8))) (.str [(48:UInt8)])=some (.str (code++List.replicate (j+1) (48:UInt8))):=h0
  simp only[hN,hlen,h1,h0,h5,List.length_map,EVS]
  exact ih ⟨j+1,by omega⟩ (by simp only;omega)
 ·obtain rfl:j=N - m:=by omega
  have h1:decide (((m+(N - m):Nat):Int)<(N:Int))=false:=by simp;omega
  simp only[hN,hm,hlen,h1,List.length_map,EVS]
  have key2:=ZaP (R:=PV) (fun q:{q:List UInt8×Nat // Z1 q.1 N=true∧q.2≤N}=>[.str q.1.1,pI (Int.ofNat q.1.2)]) (fun q=>N+1 - q.1.2) (fun q=>some (.str (Zhf n (N - q.1.2) q.1.2 q.1.1)))
  have hb0:Z1 (code++List.replicate (N - m) (48:UInt8)) N=true:=ZpJ (by rw[←hm];exact hc) (by omega)
  refine (key2 _ (fun again q ih=> ?_) 18446744073709551616 ⟨(code++List.replicate (N - m) 48,m),hb0,by omega⟩ (by simp only;omega)).trans ?_
  ·obtain ⟨⟨v,k⟩,hb,hk⟩:=q
   dsimp only at ih hb hk⊢
   have hvl:=(ZaN.1 hb).2
   by_cases c2:k<N
   ·obtain ⟨a1,a2⟩:=ZyO (k:=k) hn hv (by rw[hN];exact hb) (by omega)
    have a3:=ZnT n v k _ a1
    rw[a2] at a3
    simp only[Zo] at a3
    have a4:=ZjX v k (Zf7 (ZgJ n v k)) (by omega) (by unfold ZA;omega)
    have h3:decide ((k:Int)<(N:Int))=true:=by simpa using c2
    have hw:IntKind.i64.wrap ((k:Int)+1)=((k+1:Nat):Int):=by rw[Zaw (by omega) (by omega)];omega
    simp only[hN,h3,a3,ZjW,a4,hw,List.length_map,EVS]
    have h4:=ih ⟨(v.set k (Zf7 (ZgJ n v k)),k+1),ZpI hb _,by omega⟩ (by simp only;omega)
    rw[show N - k=(N - (k+1))+1 by omega]
    exact h4
   ·obtain rfl:k=N:=by omega
    have h3:decide ((k:Int)<(k:Int))=false:=by simp
    simp only[hN,h3,List.length_map,EVS]
    rw[Nat.sub_self]
    rfl
  ·unfold ZeA
   rw[hN,hm]
theorem Zu6 (c:UInt8):∀k,Lib.repeatL [c] k=List.replicate k c
 |0=>rfl
 |k+1=>by rw[Lib.repeatL,Zu6 c k];rfl
theorem Zk8 (c:UInt8) (k:Nat) (h:k≤1048576):Za3 [.str [c],pI k]=some (.str (List.replicate k c)):=by
 have h1:(0:Int)≤(k:Int)∧(k:Int)≤9223372036854775807∧(([c]:List UInt8).length:Int) * (k:Int)≤140737488355328:=by simp;omega
 show (if (0:Int)≤(k:Int)∧(k:Int)≤9223372036854775807∧(([c]:List UInt8).length:Int) * (k:Int)≤140737488355328 then some (PV.str (Lib.repeatL [c] (Int.toNat (k:Int)))) else none)=_
 rw[if_pos h1,Int.toNat_natCast,Zu6]
theorem Zxg (n:PNet) (code:List UInt8) (hn:n.Fit) (hv:Zdm n=true) (hc:Z1 code n.signals.length=true):ZhR [Zo n,.str code]=some (.str (ZeA n code)):=by
 obtain ⟨hs1,hs2⟩:=ZaQ hv
 have hcl:=(ZaN.1 hc).2
 obtain ⟨N,hN⟩:∃N,n.wires.length=N:=⟨_,rfl⟩
 obtain ⟨m,hm⟩:∃m,n.signals.length=m:=⟨_,rfl⟩
 have hb0:Z1 (code++List.replicate (N - m) (48:UInt8)) N=true:=ZpJ (by rw[←hm];exact hc) (by omega)
 show (fun x0 x1=>ZhR [x0,x1]) _ _=_
 rw[Zvi]
 have hw1:IntKind.i64.wrap ((N:Int) - (m:Int))=((N - m:Nat):Int):=by rw[Zaw (by omega) (by omega)];omega
 have hr:Za3 [.str [(48:UInt8)],pI ((N - m:Nat):Int)]=some (.str (List.replicate (N - m) 48)):=Zk8 48 (N - m) (by omega)
 have hcl':code.length=m:=by omega
 have h0:Zd .add TD.str (.str code) (.str (List.replicate (N - m) (48:UInt8)))=some (.str (code++List.replicate (N - m) (48:UInt8))):=ZbH (by simp;omega)
 simp only[Zo,hN,hcl',hw1,hr,h0,List.length_map,EVS]
 have key2:=ZaP (R:=PV) (fun q:{q:List UInt8×Nat // Z1 q.1 N=true∧q.2≤N}=>[.str q.1.1,pI (Int.ofNat q.1.2)]) (fun q=>N+1 - q.1.2) (fun q=>some (.str (Zhf n (N - q.1.2) q.1.2 q.1.1)))
 refine (congrArg (fun m:Option PV=>m.bind fun r=>if r.sc=true then some r else none) (key2 _ (fun again q ih=> ?_) 18446744073709551616 ⟨(code++List.replicate (N - m) 48,m),hb0,by omega⟩ (by simp only;omega))).trans ?_
 ·obtain ⟨⟨v,k⟩,hb,hk⟩:=q
  dsimp only at ih hb hk⊢
  have hvl:=(ZaN.1 hb).2
  by_cases c2:k<N
  ·obtain ⟨a1,a2⟩:=ZyO (k:=k) hn hv (by rw[hN];exact hb) (by omega)
   have a3:=Zmm n v k _ a1
   rw[a2] at a3
   simp only[Zo] at a3
   have h3:decide ((k:Int)<(N:Int))=true:=by simpa using c2
   have hw:IntKind.i64.wrap ((k:Int)+1)=((k+1:Nat):Int):=by rw[Zaw (by omega) (by omega)];omega
   have h4:Ziy (.str v) none (some (.int .i64 (k:Int)))=some (.str (v.take k)):=Zrs (by omega)
   have h5:Ziy (.str v) (some (.int .i64 ((k+1:Nat):Int))) none=some (.str (v.drop (k+1))):=Zrt (by omega)
   have h6:Zd .add TD.str (.str (v.take k)) (.str [Zf7 (ZgJ n v k)])=some (.str (v.take k++[Zf7 (ZgJ n v k)])):=ZbH (by simp;omega)
   have h7:Zd .add TD.str (.str (v.take k++[Zf7 (ZgJ n v k)])) (.str (v.drop (k+1)))=some (.str (v.take k++[Zf7 (ZgJ n v k)]++v.drop (k+1))):=ZbH (by simp;omega)
   simp only[hvl,h3,h4,a3,ZyH,h6,hw,h5,h7,ZyI v k _ (show k<v.length by omega),EVS]
   have h8:=ih ⟨(v.set k (Zf7 (ZgJ n v k)),k+1),ZpI hb _,by omega⟩ (by simp only;omega)
   rw[show N - k=(N - (k+1))+1 by omega]
   exact h8
  ·obtain rfl:k=N:=by omega
   have h3:decide ((k:Int)<(k:Int))=false:=by simp
   simp only[hvl,h3,EVS]
   rw[Nat.sub_self]
   rfl
 ·unfold ZeA
  rw[hN,hm]
  rfl
def Zu7 (a:PArc):ZfB:=(a.from_,a.sig,a.up,a.to_)
def ZnV (c:PSG):List (List Int):=ZdM c.codes.length c.signals.length (c.arcs.map Zu7)
def toC (c:PSG) (k s:Nat):Int:=Zfa (ZnV c) k s
structure Go1 (c:PSG) (n:PNet):Prop where
 net:Zdm n=true
 one:1≤c.codes.length
 many:c.codes.length≤300
 sone:1≤c.signals.length
 smany:c.signals.length≤8
 few:c.arcs.length≤4000
 bits:∀x∈c.codes,Z1 x c.signals.length=true
 arcs:∀a∈c.arcs,0≤a.from_∧a.from_<c.codes.length∧0≤a.to_∧a.to_<c.codes.length∧0≤a.sig∧a.sig<c.signals.length
 det:∀a∈c.arcs,∀b∈c.arcs,a.from_=b.from_→a.sig=b.sig→a.to_=b.to_
 same:c.signals=n.signals
 fitc:SGFit c
 fitn:n.Fit
theorem ZpX (w:PArc→PArc→Bool) (i:Nat) (a:PArc):∀(l:List PArc) (k:Nat) (acc:List (Nat×Nat)),ZdG w i a k acc l=[]→acc=[]∧∀b∈l,w a b=false
 |[],k,acc,h=>⟨h,by simp⟩
 | b::l,k,acc,h=>by
  unfold ZdG at h
  obtain ⟨h1,h2⟩:=ZpX w i a l (k+1) _ h
  cases c:w a b
  ·rw[c] at h1
   simp only[Bool.false_eq_true,if_false] at h1
   refine ⟨h1,fun x hx=> ?_⟩
   rcases List.mem_cons.1 hx with rfl|hx
   ·exact c
   ·exact h2 x hx
  ·rw[c] at h1
   simp at h1
theorem ZpY (w:PArc→PArc→Bool) (arcs:List PArc):∀(l:List PArc) (k:Nat) (acc:List (Nat×Nat)),ZhE w arcs k acc l=[]→acc=[]∧∀(i:Nat) (a:PArc),l[i]?=some a→∀b∈arcs.drop (k+i+1),w a b=false
 |[],k,acc,h=>⟨h,by simp⟩
 | a::l,k,acc,h=>by
  unfold ZhE at h
  obtain ⟨h1,h2⟩:=ZpY w arcs l (k+1) _ h
  obtain ⟨h3,h4⟩:=ZpX w _ a _ _ _ h1
  refine ⟨h3,fun i x hx=> ?_⟩
  cases i with
  |zero=>simp at hx;subst hx;exact h4
  | succ i=>
   have:=h2 i x (by simpa using hx)
   rwa[show k+1+i+1=k+(i+1)+1 by omega] at this
theorem ZzG {c:PSG} (h:Zhc c=true):1≤c.signals.length∧c.signals.length≤8:=by
 unfold Zhc ZkF inR at h
 simp only[Bool.and_eq_true,decide_eq_true_eq] at h
 omega
theorem Znf {c:PSG} {n:PNet} (h:goP c n=true) (hc:SGFit c) (hn:n.Fit):Go1 c n:=by
 unfold goP ZyN at h
 simp only[Bool.and_eq_true,Bool.not_eq_true',decide_eq_true_eq] at h
 obtain ⟨⟨hs,hnet⟩,⟨hh,hw⟩,hsame⟩:=h
 obtain ⟨h1,h2,h3,h4⟩:=ZjZ hs
 have hp:=Zi6 h1 h2
 have hsg:=ZzG h1
 have harc:∀a∈c.arcs,0≤a.from_∧a.from_<c.codes.length∧0≤a.to_∧a.to_<c.codes.length∧0≤a.sig∧a.sig<c.signals.length:=fun a ha=>by
  have h5:=List.all_eq_true.1 h3 a ha
  have h6:a.sig≠ -1:=fun e=>by
   have:ZhC c.arcs=true:=List.any_eq_true.2 ⟨a,ha,decide_eq_true e⟩
   rw[this] at hh;cases hh
  unfold Zk3 Zc6 Zgf inR at h5
  simp only[Bool.and_eq_true,Bool.or_eq_true,decide_eq_true_eq] at h5
  omega
 refine ⟨hnet,hp.one,hp.many,hsg.1,hsg.2,hp.arcs,hp.bits,harc, ?_,hsame,hc,hn⟩
 have hways:Zjb Zk4 c=[]:=List.length_eq_zero_iff.1 (by omega)
 have hkey:=(ZpY Zk4 c.arcs c.arcs 0 [] hways).2
 have hlt:∀(i j:Nat) (a b:PArc),i<j→c.arcs[i]?=some a→c.arcs[j]?=some b→a.from_=b.from_→a.sig=b.sig→a.to_=b.to_:=fun i j a b hij hi hj e1 e2=>by
  have:=hkey i a hi b (by
   rw[Nat.zero_add]
   refine List.mem_of_getElem? (i:=j - (i+1)) ?_
   rw[List.getElem?_drop,show i+1+(j - (i+1))=j by omega]
   exact hj)
  have h6:=(harc a (List.mem_of_getElem? hi)).2.2.2.2.1
  unfold Zk4 at this
  simp only[e1,e2,decide_true,Bool.and_true,Bool.true_and] at this
  have hn1:decide (b.sig= -1)=false:=by simp only[decide_eq_false_iff_not];omega
  rw[hn1] at this
  simp only[Bool.not_false,Bool.true_and,Bool.not_eq_false',decide_eq_true_eq] at this
  exact this.symm
 intro a ha b hb e1 e2
 obtain ⟨i,hi⟩:=List.getElem?_of_mem ha
 obtain ⟨j,hj⟩:=List.getElem?_of_mem hb
 rcases Nat.lt_trichotomy i j with h|h|h
 ·exact hlt i j a b h hi hj e1 e2
 ·subst h;rw[hi] at hj;cases hj;rfl
 ·exact (hlt j i b a h hj hi e1.symm e2.symm).symm
theorem Zjd {c:PSG} {n:PNet} (h:Go1 c n) {k s:Nat} (hk:k<c.codes.length) (hs:s<c.signals.length):
 (∃a∈c.arcs,(a.from_=(k:Int)∧a.sig=(s:Int))∧toC c k s=a.to_)∨(toC c k s= -1∧∀a∈c.arcs,¬(a.from_=(k:Int)∧a.sig=(s:Int))):=by
 rcases Zv4 hk hs (c.arcs.map Zu7) with ⟨q,hq,h1,h2⟩|⟨h1,h2⟩
 ·obtain ⟨a,ha,rfl⟩:=List.mem_map.1 hq
  have:=h.arcs a ha
  refine .inl ⟨a,ha, ?_,h2⟩
  unfold Zu7 at h1
  dsimp only at h1
  omega
 ·refine .inr ⟨h1,fun a ha hc=> ?_⟩
  have:=h.arcs a ha
  refine h2 (Zu7 a) (List.mem_map.2 ⟨a,ha,rfl⟩) ?_
  unfold Zu7
  dsimp only
  omega
theorem toC_in {c:PSG} {n:PNet} (h:Go1 c n) {k s:Nat} (hk:k<c.codes.length) (hs:s<c.signals.length): -1≤toC c k s∧toC c k s<c.codes.length:=by
 rcases Zjd h hk hs with ⟨a,ha,_,h2⟩|⟨h1,_⟩
 ·have:=h.arcs a ha;omega
 ·have:=h.one;omega
theorem Zu8 {R:Type} (q:PArc→Bool) (z:PArc→Option R) (e:Option R):∀(l:List PArc) (k:Nat),rgo (fun _ a=>if q a=true then some (z a) else none) e k l=match l.find? q with|some a=>z a|none=>e
 |[],k=>rfl
 | a::l,k=>by
  unfold rgo
  rw[List.find?_cons]
  cases c:q a
  ·simp only[Bool.false_eq_true,if_false]
   exact Zu8 q z e l (k+1)
  ·simp
theorem ZzH (c:PSG) (n:PNet) (k s:Nat) (h:Go1 c n) (hk:k<c.codes.length) (hs:s<c.signals.length):Zj9 [eSG c,pI (k:Int),pI (s:Int)]=some (pI (toC c k s)):=by
 have hl:=h.few
 show (fun x0 x1 x2=>Zj9 [x0,x1,x2]) _ _ _=_
 rw[ZxC]
 simp only[eSG,List.length_map,EVS]
 refine (congrArg (fun m:Option PV=>m.bind fun r=>if r.sc=true then some r else none) ((Zsb (R:=PV) c.arcs (fun _ a=>if (decide (a.from_=(k:Int))&&decide (a.sig=(s:Int)))=true then some (some (pI a.to_)) else none) (some (pI (-1))) _ (by omega) (fun again j a ha=> ?_) (fun again=> ?_)).trans (Zu8 _ _ _ _ _))).trans ?_
 ·have hj:=Ze ha
  have hi:Zk (.lst (c.arcs.map Z2)) (.int .i64 (j:Int))=some (Z2 a):=Zj ha
  cases c1:decide (a.from_=(k:Int))<;>cases c2:decide (a.sig=(s:Int))<;>simp only[Zr hj,Zi hj (show c.arcs.length≤9223372036854775807 by omega),hi,Z2,c1,c2,Bool.false_eq_true,if_false,if_true,EVS]
 ·simp only[ZV,EVS]
  rfl
 ·cases hf:c.arcs.find? (fun a=>decide (a.from_=(k:Int))&&decide (a.sig=(s:Int))) with
  | none=>
   have hno:=List.find?_eq_none.1 hf
   rcases Zjd h hk hs with ⟨a,ha,h1,h2⟩|⟨h1,h2⟩
   ·exact absurd (by simp[h1]) (hno a ha)
   ·rw[h1];rfl
  | some a=>
   have ha:=List.mem_of_find?_eq_some hf
   have hq:=List.find?_some hf
   simp only[Bool.and_eq_true,decide_eq_true_eq] at hq
   rcases Zjd h hk hs with ⟨b,hb,h1,h2⟩|⟨h1,h2⟩
   ·rw[h2,h.det b hb a ha (by omega) (by omega)];rfl
   ·exact absurd hq (h2 a ha)
def Zb2 (c:PSG) (n:PNet):PV:=.agg [.lst (c.signals.map ZD),.lst (c.codes.map PV.str),.lst (c.arcs.map Z2),.lst (n.signals.map ZD),.lst (n.wires.map Zn),.lst ((ZnV c).map ZtK)]
def zSys :PV:=.agg [.lst [],.lst [],.lst [],.lst [],.lst [],.lst []]
set_option maxRecDepth 20000 in
theorem ZqU (c:PSG) (n:PNet) (hc:SGFit c) (hn:n.Fit):Zft [eSG c,Zo n]=some (.tup [if goP c n=true then Zb2 c n else zSys,pB (goP c n)]):=by
 have g:=Zk6 c n hc hn
 show (match Zbq [eSG c,Zo n] with
  | some (.tup [.bool is,.bool ok])=>
   match ok&&is with
   | true=>match Zis (c.arcs.map Z2) with
    |some ars=>if 1≤(c.signals.map ZD).length∧(c.signals.map ZD).length≤1048576∧(c.codes.map PV.str).length≤1000000∧(ars.all (ZmL (c.codes.map PV.str).length (c.signals.map ZD).length))=true then some (PV.tup [.agg [.lst (c.signals.map ZD),.lst (c.codes.map PV.str),.lst (c.arcs.map Z2),.lst (n.signals.map ZD),.lst (n.wires.map Zn),.lst ((ZdM (c.codes.map PV.str).length (c.signals.map ZD).length ars).map ZtK)],.bool true]) else none
    |none=>none
   |false=>some (PV.tup [.agg [.lst [],.lst [],.lst [],.lst [],.lst [],.lst []],.bool false])
  |_=>none)=_
 rw[g]
 have hgo:((sgV c&&Zdm n)&&goP c n)=goP c n:=by
  unfold goP
  cases sgV c<;>cases Zdm n<;>simp
 show (match ((sgV c&&Zdm n)&&goP c n) with
  | true=>match Zis (c.arcs.map Z2) with
   |some ars=>if 1≤(c.signals.map ZD).length∧(c.signals.map ZD).length≤1048576∧(c.codes.map PV.str).length≤1000000∧(ars.all (ZmL (c.codes.map PV.str).length (c.signals.map ZD).length))=true then some (PV.tup [.agg [.lst (c.signals.map ZD),.lst (c.codes.map PV.str),.lst (c.arcs.map Z2),.lst (n.signals.map ZD),.lst (n.wires.map Zn),.lst ((ZdM (c.codes.map PV.str).length (c.signals.map ZD).length ars).map ZtK)],.bool true]) else none
   |none=>none
  |false=>some (PV.tup [.agg [.lst [],.lst [],.lst [],.lst [],.lst [],.lst []],.bool false]))=_
 rw[hgo]
 cases hg:goP c n
 ·rfl
 ·have h:=Znf hg hc hn
  have ha:Zis (c.arcs.map Z2)=some (c.arcs.map Zu7):=by
   have:c.arcs.map Z2=(c.arcs.map Zu7).map pArc:=by rw[List.map_map];rfl
   rw[this,Zqu]
  dsimp only
  rw[ha]
  dsimp only
  rw[if_pos]
  ·simp only[if_true,List.length_map];rfl
  ·simp only[List.length_map]
   have h1:=h.sone
   have h2:=h.smany
   have h3:=h.many
   refine ⟨h1,by omega,by omega,List.all_eq_true.2 fun q hq=> ?_⟩
   obtain ⟨a,ha,rfl⟩:=List.mem_map.1 hq
   have:=h.arcs a ha
   unfold ZmL Zu7
   simp only[decide_eq_true_eq]
   omega
def ePs (b:PSt):PV:=.agg [pI b.state,.str b.values]
def eFl (f:Flip):PV:=.agg [pI f.from_,pI f.wire,pI f.to]
def ePr (p:ProdG):PV:=.agg [.lst (p.states.map ePs),.lst (p.flips.map eFl),.lst (p.extra.map eFl)]
theorem Zm3 (a b c d e f:PV):Zb true 3 2 [a,b,c,d,e,f]=some (.agg [d,e]):=rfl
theorem Zph (a b c d e f a' b' c' d' e' f':PV):splice [a,b,c,d,e,f] 0 [a',b',c',d',e',f']=[a',b',c',d',e',f']:=rfl
theorem Zn4 (a b c d e f:PV):Zb true 0 6 [a,b,c,d,e,f]=some (.agg [a,b,c,d,e,f]):=rfl
theorem Go1.vals {c:PSG} {n:PNet} (h:Go1 c n) {v:List UInt8} (hb:Z1 v n.wires.length=true):Zfk n v=true∧ZA v∧v.length=n.wires.length∧n.wires.length≤24∧n.signals.length≤n.wires.length∧n.signals.length=c.signals.length:=by
 have h1:=ZaQ h.net
 have h2:=(ZaN.1 hb).2
 refine ⟨by unfold Zfk;rw[h.net,hb];rfl,by unfold ZA;omega,h2,h1.2,h1.1,by rw[h.same]⟩
theorem Go1.code {c:PSG} {n:PNet} (h:Go1 c n):∃x,c.codes[0]?=some x∧Z1 x n.signals.length=true:=by
 have h1:=h.one
 refine ⟨c.codes[0],List.getElem?_eq_getElem (by omega), ?_⟩
 rw[←h.same]
 exact h.bits _ (List.getElem_mem _)
def Zhw (c:PSG) (n:PNet):PSt:=⟨0,ZeA n (c.codes.getD 0 [])⟩
theorem ZsE (c:PSG) (n:PNet) (h:Go1 c n):Zfy [eSG c,Zo n]=some (ePs (Zhw c n)):=by
 obtain ⟨x,hx,hb⟩:=h.code
 have g:=ZqT n x h.fitn h.net hb
 have hi:Zk (.lst (c.codes.map PV.str)) (.int .i64 ((0:Nat):Int))=some (.str x):=Zj hx
 show (fun x0 x1=>Zfy [x0,x1]) _ _=_
 rw[Zrl]
 unfold Zhw
 rw[List.getD_eq_getElem?_getD,hx]
 simp only[Int.natCast_zero] at hi
 simp only[Zo] at g
 simp only[eSG,Zo,ZK,hi,g,EVS]
 rfl
theorem Zuw (c:PSG) (n:PNet) (h:Go1 c n):Zcb [Zb2 c n]=some (ePs (Zhw c n)):=by
 obtain ⟨x,hx,hb⟩:=h.code
 have g:=Zxg n x h.fitn h.net hb
 have hi:Zk (.lst (c.codes.map PV.str)) (.int .i64 ((0:Nat):Int))=some (.str x):=Zj hx
 show (fun x0=>Zcb [x0]) _=_
 rw[Zkm]
 unfold Zhw
 rw[List.getD_eq_getElem?_getD,hx]
 simp only[Int.natCast_zero] at hi
 simp only[Zo] at g
 simp only[Zb2,Zm3,hi,g,EVS]
 rfl
theorem ZBO (c:PSG) {k:Nat} (hk:k<c.codes.length):∃row,(ZnV c)[k]?=some row∧row.length=c.signals.length∧∀s,toC c k s=row.getD s (-1):=by
 have hl:(ZnV c).length=c.codes.length:=ZxL _ _ _
 refine ⟨(ZnV c)[k]'(by omega),List.getElem?_eq_getElem _,ZxM _ _ _ _ (List.getElem_mem _),fun s=> ?_⟩
 unfold toC Zfa
 rw[List.getD_eq_getElem?_getD (l:=ZnV c),List.getElem?_eq_getElem (by omega)]
 rfl
theorem Zma (c:PSG) {k s:Nat} (hk:k<c.codes.length) (hs:s<c.signals.length):∃row:List PV,Zk (.lst ((ZnV c).map ZtK)) (.int .i64 (k:Int))=some (.lst row)∧Zk (.lst row) (.int .i64 (s:Int))=some (pI (toC c k s)):=by
 obtain ⟨row,h1,h2,h3⟩:=ZBO c hk
 refine ⟨row.map pI,Zj h1, ?_⟩
 refine Zol ?_
 rw[h3 s,List.getElem?_map,List.getElem?_eq_getElem (by omega),List.getD_eq_getElem?_getD,List.getElem?_eq_getElem (by omega)]
 rfl
def ZiX (n:PNet) (k:Nat):Int:=match n.wires[k]? with|some w=>w.kind|none=>0
def inAt (n:PNet) (k:Nat):Bool:=match n.signals[k]? with|some s=>decide (s.2=1)|none=>false
theorem ZBQ {n:PNet} (hv:Zdm n=true) {k:Nat} (hk:k<n.signals.length):decide (ZiX n k=1)=inAt n k:=by
 have hs:=(ZaQ hv).1
 have hw:n.wires[k]?=some n.wires[k]:=List.getElem?_eq_getElem (by omega)
 have hsg:n.signals[k]?=some n.signals[k]:=List.getElem?_eq_getElem hk
 unfold ZiX inAt
 rw[hw,hsg]
 unfold Zdm at hv
 simp only[Bool.and_eq_true] at hv
 have h1:=ZjV _ _ _ hv.2 k _ hw
 rw[Nat.zero_add] at h1
 unfold ZbK Zml Zg9 at h1
 have hd:decide ((k:Int)<(n.signals.length:Int))=true:=by simp only[decide_eq_true_eq];omega
 rw[hd,hsg] at h1
 simp only[Bool.and_eq_true,Bool.not_true,Bool.false_or,beq_iff_eq] at h1
 exact h1.1.1.1.2.2
def Zkg (c:PSG) (n:PNet) (s:Nat) (v:List UInt8) (k:Nat):Bool:=if n.signals.length≤k then Zp n v k else decide (0≤toC c s k)&&(decide (ZiX n k=1)||Zp n v k)
theorem Zux (c:PSG) (n:PNet) (h:Go1 c n) (s:Nat) (v:List UInt8) (k:Nat) (hs:s<c.codes.length) (hb:Z1 v n.wires.length=true) (hk:k<n.wires.length):Zcc [Zb2 c n,ePs ⟨s,v⟩,pI (k:Int)]=some (pB (Zkg c n s v k)):=by
 obtain ⟨h1,h2,h3,h4,h5,h6⟩:=h.vals hb
 have g:=ZdV n v k h.fitn h2 h1 hk
 simp only[Zo] at g
 show (fun x0 x1 x2=>Zcc [x0,x1,x2]) _ _ _=_
 rw[Zko]
 unfold Zkg
 by_cases c1:n.signals.length≤k
 ·have hd:decide ((n.signals.length:Int)≤(k:Int))=true:=by simp only[decide_eq_true_eq];omega
  rw[if_pos c1]
  simp only[Zb2,ePs,List.length_map,hd,Zm3,g,EVS]
 ·have hd:decide ((n.signals.length:Int)≤(k:Int))=false:=by simp only[decide_eq_false_iff_not];omega
  obtain ⟨row,r1,r2⟩:=Zma c hs (show k<c.signals.length by omega)
  have hw:Zk (.lst (n.wires.map Zn)) (.int .i64 (k:Int))=some (Zn n.wires[k]):=Zj (List.getElem?_eq_getElem hk)
  have hkd:ZiX n k=n.wires[k].kind:=by unfold ZiX;rw[List.getElem?_eq_getElem hk]
  rw[if_neg c1,hkd]
  cases c2:decide (0≤toC c s k)<;>cases c3:decide (n.wires[k].kind=1)<;>simp only[Zb2,ePs,List.length_map,hd,Zm3,r1,r2,c2,c3,hw,Zn,List.drop_succ_cons,List.drop_zero,g,EVS]
def flB (b:UInt8):UInt8:=if b=48 then 49 else 48
def ZbJ (v:List UInt8) (k:Nat):List UInt8:=v.set k (flB (v.getD k 48))
def Zas (c:PSG) (n:PNet) (s:Nat) (v:List UInt8) (k:Nat):PSt:=⟨if k<n.signals.length then toC c s k else s,ZbJ v k⟩
theorem ZBR (b:UInt8):ZfR (flB b)=true:=by unfold flB;split<;>decide
theorem Zpi {v:List UInt8} {N k:Nat} (h:Z1 v N=true):Z1 (ZbJ v k) N=true:=by
 rw[ZaN] at h⊢
 refine ⟨fun b hb=> ?_,by unfold ZbJ;rw[List.length_set];exact h.2⟩
 unfold ZbJ at hb
 rcases List.mem_or_eq_of_mem_set hb with hb|rfl
 ·exact h.1 b hb
 ·exact ZBR _
theorem ZBS {b:UInt8} (h:ZfR b=true):Zd .xor (TD.int .u8) (pU b) (.int .u8 1)=some (pU (flB b)):=by
 rcases (Zmn b).1 h with rfl|rfl<;>rfl
theorem ZAU (c:PSG) (n:PNet) (h:Go1 c n) (s:Nat) (v:List UInt8) (k:Nat) (hs:s<c.codes.length) (hb:Z1 v n.wires.length=true) (hk:k<n.wires.length):ZdD [Zb2 c n,ePs ⟨s,v⟩,pI (k:Int)]=some (ePs (Zas c n s v k)):=by
 obtain ⟨h1,h2,h3,h4,h5,h6⟩:=h.vals hb
 have hc:=ZCa v h2
 have hvk:v[k]?=some v[k]:=List.getElem?_eq_getElem (by omega)
 have p1:ZaM (v.map pU) (.int .i64 (k:Int))=some (.int .i64 (k:Int)):=ZbG (by rw[List.length_map];omega)
 have q1:(v.map pU)[k]?=some (pU v[k]):=by rw[List.getElem?_map,hvk];rfl
 have hx:=ZBS ((ZaN.1 hb).1 v[k] (List.getElem_mem _))
 have hse:ZaB 0 1 [pU v[k]] (pU v[k]) (pU (flB v[k]))=some (pU (flB v[k])):=rfl
 have st:(v.map pU).set k (pU (flB v[k]))=(v.set k (flB v[k])).map pU:=ZjY pU v k _
 have hbo:=ZiM (v.set k (flB v[k]))
 have hfv:ZbJ v k=v.set k (flB v[k]):=by unfold ZbJ;rw[List.getD_eq_getElem?_getD,hvk];rfl
 show (fun x0 x1 x2=>ZdD [x0,x1,x2]) _ _ _=_
 rw[Zno]
 unfold Zas
 rw[hfv]
 by_cases c1:k<n.signals.length
 ·have hd:decide ((k:Int)<(n.signals.length:Int))=true:=by simp only[decide_eq_true_eq];omega
  obtain ⟨row,r1,r2⟩:=Zma c hs (show k<c.signals.length by omega)
  rw[if_pos c1]
  simp only[Zb2,ePs,List.length_map,hc,p1,q1,Int.toNat_natCast,hx,hse,st,hbo,hd,r1,r2,EVS]
 ·have hd:decide ((k:Int)<(n.signals.length:Int))=false:=by simp only[decide_eq_false_iff_not];omega
  rw[if_neg c1]
  simp only[Zb2,ePs,List.length_map,hc,p1,q1,Int.toNat_natCast,hx,hse,st,hbo,hd,EVS]
theorem ZsF (v:List UInt8) (k:Nat) (hk:k<v.length) (hv:ZA v):Zfz [.str v,pI (k:Int)]=some (.str (ZbJ v k)):=by
 have hvk:v[k]?=some v[k]:=List.getElem?_eq_getElem hk
 have hb:Zao (.str v) (.int .i64 (k:Int))=some (pU v[k]):=Zq hvk
 have g1:=ZjW (decide ((v[k].toNat:Int)=48))
 have g2:=ZjX v k (Zf7 (decide ((v[k].toNat:Int)=48))) hk hv
 have hfb:Zf7 (decide ((v[k].toNat:Int)=48))=flB v[k]:=by
  unfold flB
  have:((v[k].toNat:Int)=48)↔v[k]=48:=by rw[←UInt8.toNat_inj];exact Int.ofNat_inj
  by_cases c:v[k]=48
  ·rw[if_pos c,decide_eq_true (this.2 c)];rfl
  ·rw[if_neg c,decide_eq_false (fun e=>c (this.1 e))];rfl
 show (fun x0 x1=>Zfz [x0,x1]) _ _=_
 rw[Zrn]
 unfold ZbJ
 rw[List.getD_eq_getElem?_getD,hvk,Option.getD_some,←hfb]
 simp only[hb,g1,g2,EVS]
theorem Zzn (l:List Int) (x:Int) (hl:ZA l):Zka [.lst (l.map pI),pI x]=some (pB (decide (x∈l))):=by
 unfold ZA at hl
 show (fun x0 x1=>Zka [x0,x1]) _ _=_
 rw[ZxE]
 simp only[EVS]
 refine (congrArg (fun m:Option PV=>m.bind fun r=>if r.sc=true then some r else none) (ZN (R:=PV) l (fun _ y=> !decide (x=y)) (some (pB true)) (some (pB false)) _ hl (fun again k y hx=> ?_) (fun again=> ?_))).trans ?_
 ·have hk:=Ze hx
  have hi:Zk (.lst (l.map pI)) (.int .i64 (k:Int))=some (pI y):=Zj hx
  have he:decide (y=x)=decide (x=y):=by rw[Bool.eq_iff_iff,decide_eq_true_eq,decide_eq_true_eq];exact eq_comm
  simp only[Zr hk,Zi hk hl,hi,he,EVS]
  cases decide (x=y)<;>simp only[EVS]
 ·simp only[ZV,EVS]
 ·rw[Zi8]
  cases decide (x∈l)<;>rfl
theorem ZwM (good:Nat→Bool) (N k:Nat) (hk:k<N):decide ((k:Int)∈ZaX good N)=good k:=by
 unfold ZaX
 rw[Bool.eq_iff_iff,decide_eq_true_eq,List.mem_map]
 constructor
 ·rintro ⟨i,hi,he⟩
  rw[List.mem_filter] at hi
  have:i=k:=by have:(i:Int)=(k:Int):=he;omega
  rw[←this]
  exact hi.2
 ·intro h
  exact ⟨k,List.mem_filter.2 ⟨List.mem_range.2 hk,h⟩,rfl⟩
def ZaE (c:PSG) (n:PNet) (s:Nat) (v:List UInt8) (k:Nat):List Nat:=(List.range k).filter (Zkg c n s v)
def Zhx (c:PSG) (n:PNet) (s:Nat) (v:List UInt8) (k:Nat):Bool:=decide (k<n.signals.length)&&((!decide (ZiX n k=1)&&decide (toC c s k<0))&&Zp n v k)
def Zap (c:PSG) (n:PNet) (s:Nat) (v:List UInt8) (k:Nat):List Nat:=(List.range k).filter (Zhx c n s v)
def eNn (i:Nat):PV:=pI (i:Int)
theorem ZeU {good:Nat→Bool} {k:Nat} (h:good k=true):(List.range (k+1)).filter good=(List.range k).filter good++[k]:=by
 rw[List.range_succ,List.filter_append];simp[h]
theorem Zdz {good:Nat→Bool} {k:Nat} (h:good k=false):(List.range (k+1)).filter good=(List.range k).filter good:=by
 rw[List.range_succ,List.filter_append];simp[h]
theorem ZeV (good:Nat→Bool) (k:Nat):((List.range k).filter good).length≤k:=by
 have:=List.length_filter_le good (List.range k)
 simpa using this
theorem Zpj (c:PSG) (n:PNet) (h:Go1 c n) (s:Nat) (v:List UInt8) (hs:s<c.codes.length) (hb:Z1 v n.wires.length=true):
 Za6 [Zb2 c n,ePs ⟨s,v⟩]=some (.tup [.lst ((ZaE c n s v n.wires.length).map fun k=>ePs (Zas c n s v k)),.lst ((ZaE c n s v n.wires.length).map eNn)]):=by
 obtain ⟨h1,h2,h3,h4,h5,h6⟩:=h.vals hb
 show (fun x0 x1=>Za6 [x0,x1]) _ _=_
 rw[ZhT]
 simp only[Zb2,ePs,List.length_map,EVS]
 refine (Zel (R:=PV) 0 n.wires.length (fun k=>[.lst ((ZaE c n s v k).map eNn),.lst ((ZaE c n s v k).map fun k=>ePs (Zas c n s v k)),pI (Int.ofNat k)]) (some (.tup [.lst ((ZaE c n s v n.wires.length).map fun k=>ePs (Zas c n s v k)),.lst ((ZaE c n s v n.wires.length).map eNn)])) _ (by omega) (fun again k k1 k2=> ?_) (fun again=> ?_) (Nat.zero_le _) _ (by simp[ZaE]))
 ·have a1:=Zux c n h s v k hs hb k2
  have a2:=ZAU c n h s v k hs hb k2
  have hcl:(ZaE c n s v k).length≤k:=ZeV _ k
  simp only[Zb2,ePs] at a1 a2
  have hm:n.wires.length≤9223372036854775807:=by omega
  have hla:(ZaE c n s v k).length+[ePs (Zas c n s v k)].length≤4294967296∧[ePs (Zas c n s v k)].all (Zal 2)=true:=⟨by simp;omega,rfl⟩
  have hlb:(ZaE c n s v k).length+[pI (k:Int)].length≤4294967296∧[pI (k:Int)].all (Zal 1)=true:=⟨by simp;omega,rfl⟩
  simp only[ePs] at hla
  simp only[Zr k2,Zn4,a1,EVS]
  cases hE:Zkg c n s v k
  ·have e1:ZaE c n s v (k+1)=ZaE c n s v k:=Zdz hE
   simp only[Zi k2 hm,e1,EVS]
  ·have e1:ZaE c n s v (k+1)=ZaE c n s v k++[k]:=ZeU hE
   simp only[a2,if_pos hla,if_pos hlb,Zi k2 hm,e1,Zn4,List.map_append,List.map_cons,List.map_nil,eNn,EVS]
   rfl
 ·simp only[ZV,EVS]
theorem ZwN (c:PSG) (n:PNet) (s:Nat) (v:List UInt8):∀(k:Nat),n.signals.length≤k→Zap c n s v k=Zap c n s v n.signals.length:=by
 intro k hk
 induction k with
 | zero => have:n.signals.length=0:=by omega
           rw[this]
 | succ k ih=>
  by_cases c1:n.signals.length≤k
  ·have:Zhx c n s v k=false:=by unfold Zhx;rw[decide_eq_false (by omega)];rfl
   rw[←ih c1]
   exact Zdz this
  ·rw[show n.signals.length=k+1 by omega]
theorem Zpk (c:PSG) (n:PNet) (h:Go1 c n) (s:Nat) (v:List UInt8) (hs:s<c.codes.length) (hb:Z1 v n.wires.length=true):
 Za7 [Zb2 c n,ePs ⟨s,v⟩]=some (.lst ((Zap c n s v n.wires.length).map eNn)):=by
 obtain ⟨h1,h2,h3,h4,h5,h6⟩:=h.vals hb
 rw[ZwN c n s v _ h5]
 show (fun x0 x1=>Za7 [x0,x1]) _ _=_
 rw[ZhV]
 simp only[Zb2,ePs,List.length_map,EVS]
 refine (Zel (R:=PV) 0 n.signals.length (fun k=>[.lst ((Zap c n s v k).map eNn),pI (Int.ofNat k)]) (some (.lst ((Zap c n s v n.signals.length).map eNn))) _ (by omega) (fun again k k1 k2=> ?_) (fun again=> ?_) (Nat.zero_le _) _ (by simp[Zap]))
 ·have hkw:k<n.wires.length:=by omega
  have g:=ZdV n v k h.fitn h2 h1 hkw
  simp only[Zo] at g
  have hcl:(Zap c n s v k).length≤k:=ZeV _ k
  have hm:n.signals.length≤9223372036854775807:=by omega
  have hlb:(Zap c n s v k).length+[pI (k:Int)].length≤4294967296∧[pI (k:Int)].all (Zal 1)=true:=⟨by simp;omega,rfl⟩
  obtain ⟨row,r1,r2⟩:=Zma c hs (show k<c.signals.length by omega)
  have hw:Zk (.lst (n.wires.map Zn)) (.int .i64 (k:Int))=some (Zn n.wires[k]):=Zj (List.getElem?_eq_getElem hkw)
  have hkd:ZiX n k=n.wires[k].kind:=by unfold ZiX;rw[List.getElem?_eq_getElem hkw]
  have hE:Zhx c n s v k=((!decide (n.wires[k].kind=1)&&decide (toC c s k<0))&&Zp n v k):=by unfold Zhx;rw[decide_eq_true k2,hkd];rfl
  cases c2:decide (n.wires[k].kind=1)<;>cases c3:decide (toC c s k<0)<;>cases c4:Zp n v k<;>rw[c2,c3,c4] at hE<;>
   simp only[Bool.not_true,Bool.not_false,Bool.and_true,Bool.and_false,Bool.true_and,Bool.false_and] at hE
  all_goals first
   | (have e1:Zap c n s v (k+1)=Zap c n s v k:=Zdz hE
      simp only[Zr k2,hw,Zn,List.drop_succ_cons,List.drop_zero,c2,c3,c4,r1,r2,Zm3,g,Zi k2 hm,e1,EVS])
   | (have e1:Zap c n s v (k+1)=Zap c n s v k++[k]:=ZeU hE
      simp only[Zr k2,hw,Zn,List.drop_succ_cons,List.drop_zero,c2,c3,c4,r1,r2,Zm3,g,if_pos hlb,Zi k2 hm,e1,List.map_append,List.map_cons,List.map_nil,eNn,EVS])
 ·simp only[ZV,EVS]
theorem Zuy (c:PSG) (n:PNet) (h:Go1 c n) (s:Nat) (v:List UInt8) (hs:s<c.codes.length) (hb:Z1 v n.wires.length=true):
 Zgw [eSG c,Zo n,ePs ⟨s,v⟩]=some (.tup [.lst ((ZaE c n s v n.wires.length).map fun k=>ePs (Zas c n s v k)),.lst ((ZaE c n s v n.wires.length).map eNn),.lst ((Zap c n s v n.wires.length).map eNn)]):=by
 obtain ⟨h1,h2,h3,h4,h5,h6⟩:=h.vals hb
 have g0:=Zjc n v h.fitn h2 h1 (by omega)
 simp only[Zo] at g0
 show (fun x0 x1 x2=>Zgw [x0,x1,x2]) _ _ _=_
 rw[Ztz]
 simp only[eSG,Zo,ePs,ZK,g0,List.length_map,EVS]
 refine (Zel (R:=PV) 0 n.wires.length (fun k=>[.lst ((ZaE c n s v k).map fun k=>ePs (Zas c n s v k)),.lst ((ZaE c n s v k).map eNn),.lst ((Zap c n s v k).map eNn),pI (Int.ofNat k)]) (some (.tup [.lst ((ZaE c n s v n.wires.length).map fun k=>ePs (Zas c n s v k)),.lst ((ZaE c n s v n.wires.length).map eNn),.lst ((Zap c n s v n.wires.length).map eNn)])) _ (by omega) (fun again k k1 k2=> ?_) (fun again=> ?_) (Nat.zero_le _) _ (by simp[ZaE,Zap]))
 ·have g1:=Zzn (ZaX (Zp n v) n.wires.length) k (by unfold ZA;have:=Zk7 (Zp n v) n.wires.length;omega)
  rw[ZwM _ _ _ k2] at g1
  have g2:=ZsF v k (by omega) h2
  have hcl:(ZaE c n s v k).length≤k:=ZeV _ k
  have hcx:(Zap c n s v k).length≤k:=ZeV _ k
  have hm:n.wires.length≤9223372036854775807:=by omega
  have hlb:(ZaE c n s v k).length+[pI (k:Int)].length≤4294967296∧[pI (k:Int)].all (Zal 1)=true:=⟨by simp;omega,rfl⟩
  have hlx:(Zap c n s v k).length+[pI (k:Int)].length≤4294967296∧[pI (k:Int)].all (Zal 1)=true:=⟨by simp;omega,rfl⟩
  by_cases c1:k<n.signals.length
  ·have hd:=Zr c1
   have hsg:Zk (.lst (n.signals.map ZD)) (.int .i64 (k:Int))=some (ZD n.signals[k]):=Zj (List.getElem?_eq_getElem c1)
   have hin:inAt n k=decide (n.signals[k].2=1):=by unfold inAt;rw[List.getElem?_eq_getElem c1]
   have hki:=ZBQ h.net c1
   rw[hin] at hki
   have g3:=ZzH c n s k h hs (by omega)
   simp only[eSG] at g3
   have hla:(ZaE c n s v k).length+[PV.agg [pI (toC c s k),.str (ZbJ v k)]].length≤4294967296∧[PV.agg [pI (toC c s k),.str (ZbJ v k)]].all (Zal 2)=true:=⟨by simp;omega,rfl⟩
   have hfl:Zas c n s v k=⟨toC c s k,ZbJ v k⟩:=by unfold Zas;rw[if_pos c1]
   have hE:Zkg c n s v k=(decide (0≤toC c s k)&&(decide (n.signals[k].2=1)||Zp n v k)):=by unfold Zkg;rw[if_neg (by omega),hki]
   have hX:Zhx c n s v k=((!decide (n.signals[k].2=1)&&decide (toC c s k<0))&&Zp n v k):=by unfold Zhx;rw[decide_eq_true c1,hki];rfl
   by_cases c3:0≤toC c s k
   ·have c3':decide (0≤toC c s k)=true:=decide_eq_true c3
    have c3'':decide (toC c s k<0)=false:=decide_eq_false (by omega)
    rw[c3'] at hE
    rw[c3''] at hX
    simp only[Bool.and_false,Bool.false_and,Bool.true_and] at hE hX
    have e2:Zap c n s v (k+1)=Zap c n s v k:=Zdz hX
    cases c2:decide (n.signals[k].2=1)<;>cases c4:Zp n v k<;>rw[c2,c4] at hE<;>rw[c4] at g1<;>simp only[Bool.or_true,Bool.or_false,Bool.true_or,Bool.false_or] at hE
    ·have e1:ZaE c n s v (k+1)=ZaE c n s v k:=Zdz hE
     simp only[Zr k2,hd,hsg,ZR,g3,g1,c2,c3',List.drop_succ_cons,List.drop_zero,Zi k2 hm,e1,e2,EVS]
    ·have e1:ZaE c n s v (k+1)=ZaE c n s v k++[k]:=ZeU hE
     simp only[Zr k2,hd,hsg,ZR,g3,g2,g1,c2,c3',List.drop_succ_cons,List.drop_zero,if_pos hla,if_pos hlb,Zi k2 hm,e1,e2,hfl,ePs,List.map_append,List.map_cons,List.map_nil,eNn,EVS]
    ·have e1:ZaE c n s v (k+1)=ZaE c n s v k++[k]:=ZeU hE
     simp only[Zr k2,hd,hsg,ZR,g3,g2,g1,c2,c3',List.drop_succ_cons,List.drop_zero,if_pos hla,if_pos hlb,Zi k2 hm,e1,e2,hfl,ePs,List.map_append,List.map_cons,List.map_nil,eNn,EVS]
    ·have e1:ZaE c n s v (k+1)=ZaE c n s v k++[k]:=ZeU hE
     simp only[Zr k2,hd,hsg,ZR,g3,g2,g1,c2,c3',List.drop_succ_cons,List.drop_zero,if_pos hla,if_pos hlb,Zi k2 hm,e1,e2,hfl,ePs,List.map_append,List.map_cons,List.map_nil,eNn,EVS]
   ·have c3':decide (0≤toC c s k)=false:=decide_eq_false c3
    have c3'':decide (toC c s k<0)=true:=decide_eq_true (by omega)
    rw[c3'] at hE
    rw[c3''] at hX
    simp only[Bool.and_true,Bool.false_and,Bool.true_and] at hE hX
    have e1:ZaE c n s v (k+1)=ZaE c n s v k:=Zdz hE
    cases c2:decide (n.signals[k].2=1)<;>cases c4:Zp n v k<;>rw[c2,c4] at hX<;>rw[c4] at g1<;>simp only[Bool.not_true,Bool.not_false,Bool.and_true,Bool.and_false,Bool.true_and,Bool.false_and] at hX
    ·have e2:Zap c n s v (k+1)=Zap c n s v k:=Zdz hX
     simp only[Zr k2,hd,hsg,ZR,g3,g1,c2,c3',List.drop_succ_cons,List.drop_zero,Zi k2 hm,e1,e2,EVS]
    ·have e2:Zap c n s v (k+1)=Zap c n s v k++[k]:=ZeU hX
     simp only[Zr k2,hd,hsg,ZR,g3,g1,c2,c3',List.drop_succ_cons,List.drop_zero,if_pos hlx,Zi k2 hm,e1,e2,List.map_append,List.map_cons,List.map_nil,eNn,EVS]
    ·have e2:Zap c n s v (k+1)=Zap c n s v k:=Zdz hX
     simp only[Zr k2,hd,hsg,ZR,g3,g1,c2,c3',List.drop_succ_cons,List.drop_zero,Zi k2 hm,e1,e2,EVS]
    ·have e2:Zap c n s v (k+1)=Zap c n s v k:=Zdz hX
     simp only[Zr k2,hd,hsg,ZR,g3,g1,c2,c3',List.drop_succ_cons,List.drop_zero,Zi k2 hm,e1,e2,EVS]
  ·have hd:decide ((k:Int)<(n.signals.length:Int))=false:=by simp only[decide_eq_false_iff_not];omega
   have hE:Zkg c n s v k=Zp n v k:=by unfold Zkg;rw[if_pos (by omega)]
   have hX:Zhx c n s v k=false:=by unfold Zhx;rw[decide_eq_false c1];rfl
   have e2:Zap c n s v (k+1)=Zap c n s v k:=Zdz hX
   have hfl:Zas c n s v k=⟨(s:Int),ZbJ v k⟩:=by unfold Zas;rw[if_neg c1]
   have hla:(ZaE c n s v k).length+[PV.agg [pI (s:Int),.str (ZbJ v k)]].length≤4294967296∧[PV.agg [pI (s:Int),.str (ZbJ v k)]].all (Zal 2)=true:=⟨by simp;omega,rfl⟩
   have hge:decide (0≤(s:Int))=true:=decide_eq_true (by omega)
   cases c4:Zp n v k<;>rw[c4] at hE g1
   ·have e1:ZaE c n s v (k+1)=ZaE c n s v k:=Zdz hE
    simp only[Zr k2,hd,ZR,g1,hge,Zi k2 hm,e1,e2,EVS]
   ·have e1:ZaE c n s v (k+1)=ZaE c n s v k++[k]:=ZeU hE
    simp only[Zr k2,hd,ZR,g2,g1,hge,if_pos hla,if_pos hlb,Zi k2 hm,e1,e2,hfl,ePs,List.map_append,List.map_cons,List.map_nil,eNn,EVS]
 ·simp only[ZV,EVS]
def StB (c:PSG) (n:PNet) (b:PSt):Prop:=∃s:Nat,b.state=s∧s<c.codes.length∧Z1 b.values n.wires.length=true
def Zc3 (k:Nat) (P:ProdG) (w:Nat) (b:PSt):ProdG:=
 if b∈P.states then ⟨P.states,P.flips++[⟨k,w,(P.states.idxOf b:Nat)⟩],P.extra⟩ else ⟨P.states++[b],P.flips++[⟨k,w,(P.states.length:Nat)⟩],P.extra⟩
def inU (c:PSG) (n:PNet) (k s:Nat) (v:List UInt8):List Nat→ProdG→ProdG
 |[],P=>P
 |w::r,P=>inU c n k s v r (Zc3 k P w (Zas c n s v w))
def exU (k:Nat) (l:List Nat) (P:ProdG):ProdG:=⟨P.states,P.flips,P.extra++l.map fun w:Nat=>⟨(k:Int),(w:Int), -1⟩⟩
def rdU (c:PSG) (n:PNet) (k:Nat) (b:PSt) (P:ProdG):ProdG:=
 exU k (Zap c n b.state.toNat b.values n.wires.length) (inU c n k b.state.toNat b.values (ZaE c n b.state.toNat b.values n.wires.length) P)
def Zkh (c:PSG) (n:PNet):Nat→Nat→ProdG→Option ProdG
 |0,_,P=>some P
 | f+1,k,P=>match P.states[k]? with
  |none=>some P
  |some b=>if 600<(rdU c n k b P).states.length then none else Zkh c n f (k+1) (rdU c n k b P)
def Zff (c:PSG) (n:PNet):Option ProdG:=Zkh c n 601 0 ⟨[Zhw c n],[],[]⟩
theorem Zg6 (k:Nat) (P:ProdG) (w:Nat) (b:PSt):P.states.length≤(Zc3 k P w b).states.length∧(Zc3 k P w b).states.length≤P.states.length+1∧(Zc3 k P w b).flips.length=P.flips.length+1∧(Zc3 k P w b).extra=P.extra:=by
 unfold Zc3
 split<;>simp
theorem Zgd (c:PSG) (n:PNet) (k s:Nat) (v:List UInt8):∀(l:List Nat) (P:ProdG),P.states.length≤(inU c n k s v l P).states.length∧(inU c n k s v l P).states.length≤P.states.length+l.length∧(inU c n k s v l P).flips.length=P.flips.length+l.length∧(inU c n k s v l P).extra=P.extra
 |[],P=>by simp[inU]
 | w::r,P=>by
  unfold inU
  obtain ⟨h1,h2,h3,h4⟩:=Zg6 k P w (Zas c n s v w)
  obtain ⟨g1,g2,g3,g4⟩:=Zgd c n k s v r (Zc3 k P w (Zas c n s v w))
  simp only[List.length_cons]
  refine ⟨by omega,by omega,by omega,g4.trans h4⟩
theorem Zys {k:Nat} {P:ProdG} {w:Nat} {b x:PSt} {i:Nat} (h:P.states[i]?=some x):(Zc3 k P w b).states[i]?=some x:=by
 unfold Zc3
 split
 ·exact h
 ·have:=(List.getElem?_eq_some_iff.1 h).1
  show (P.states++[b])[i]?=_
  rw[List.getElem?_append_left this]
  exact h
theorem Zow {c:PSG} {n:PNet} {s:Nat} {v:List UInt8} {N w:Nat} (h:w∈ZaE c n s v N):w<N∧Zkg c n s v w=true:=by
 unfold ZaE at h
 rw[List.mem_filter] at h
 exact ⟨List.mem_range.1 h.1,h.2⟩
theorem ZAV {c:PSG} {n:PNet} (h:Go1 c n) {s:Nat} {v:List UInt8} {w:Nat} (hs:s<c.codes.length) (hb:Z1 v n.wires.length=true) (hw:Zkg c n s v w=true):StB c n (Zas c n s v w):=by
 unfold Zas
 by_cases c1:w<n.signals.length
 ·rw[if_pos c1]
  unfold Zkg at hw
  rw[if_neg (by omega),Bool.and_eq_true,decide_eq_true_eq] at hw
  have hsl:w<c.signals.length:=by rw[h.same];exact c1
  have:=toC_in h hs hsl
  exact ⟨(toC c s w).toNat,by show toC c s w=_;omega,by omega,Zpi hb⟩
 ·rw[if_neg c1]
  exact ⟨s,rfl,hs,Zpi hb⟩
theorem ZBT {c:PSG} {n:PNet} {k:Nat} {P:ProdG} {w:Nat} {b:PSt} (hP:∀x∈P.states,StB c n x) (hb:StB c n b):∀x∈(Zc3 k P w b).states,StB c n x:=by
 unfold Zc3
 split
 ·exact hP
 ·intro x hx
  rcases List.mem_append.1 hx with hx|hx
  ·exact hP x hx
  ·rw[List.mem_singleton] at hx;subst hx;exact hb
theorem ZAW {c:PSG} {n:PNet} (h:Go1 c n) {k s:Nat} {v:List UInt8} (hs:s<c.codes.length) (hb:Z1 v n.wires.length=true):∀(l:List Nat) (P:ProdG),(∀w∈l,Zkg c n s v w=true)→(∀x∈P.states,StB c n x)→∀x∈(inU c n k s v l P).states,StB c n x
 |[],P,_,hP=>hP
 |w::r,P,hl,hP=>ZAW h hs hb r _ (fun x hx=>hl x (List.mem_cons_of_mem _ hx)) (ZBT hP (ZAV h hs hb (hl w List.mem_cons_self)))
theorem rdU_ok {c:PSG} {n:PNet} (h:Go1 c n) {k:Nat} {b:PSt} {P:ProdG} (hb:StB c n b) (hP:∀x∈P.states,StB c n x):∀x∈(rdU c n k b P).states,StB c n x:=by
 obtain ⟨s,h1,h2,h3⟩:=hb
 unfold rdU exU
 rw[h1,Int.toNat_natCast]
 exact ZAW h h2 h3 _ _ (fun w hw=>(Zow hw).2) hP
theorem ZkD {n:PNet} {N:Nat}:∀(f k:Nat) (v:List UInt8),Z1 v N=true→Z1 (Zhf n f k v) N=true
 |0,k,v,h=>h
 | f+1,k,v,h=>by
  unfold Zhf
  exact ZkD f _ _ (ZpI h _)
theorem Zm4 {c:PSG} {n:PNet} (h:Go1 c n):StB c n (Zhw c n):=by
 obtain ⟨x,hx,hb⟩:=h.code
 refine ⟨0,rfl,by have:=h.one;omega, ?_⟩
 unfold Zhw ZeA
 rw[List.getD_eq_getElem?_getD,hx]
 exact ZkD _ _ _ (ZpJ hb (ZaQ h.net).1)
theorem StB.mk' {c:PSG} {n:PNet} {b:PSt} (h:StB c n b):∃s:Nat,b=⟨(s:Int),b.values⟩∧s<c.codes.length∧Z1 b.values n.wires.length=true:=by
 obtain ⟨s,h1,h2,h3⟩:=h
 refine ⟨s, ?_,h2,h3⟩
 cases b
 simp only at h1
 rw[h1]
structure Pi (c:PSG) (n:PNet) (k:Nat) (P:ProdG):Prop where
 ok:∀x∈P.states,StB c n x
 len:P.states.length≤600
 fl:P.flips.length≤24 * k
 ex:P.extra.length≤24 * k
theorem ZkY (c:PSG) (n:PNet) (s:Nat) (v:List UInt8) (N:Nat):(Zap c n s v N).length≤N:=ZeV _ _
theorem Zpl (c:PSG) (n:PNet) (s:Nat) (v:List UInt8) (N:Nat):(ZaE c n s v N).length≤N:=ZeV _ _
theorem Pi.next {c:PSG} {n:PNet} (h:Go1 c n) {k:Nat} {P:ProdG} (hP:Pi c n k P) {b:PSt} (hb:P.states[k]?=some b) (hl:¬600<(rdU c n k b P).states.length):Pi c n (k+1) (rdU c n k b P):=by
 have hbs:=hP.ok b (List.mem_of_getElem? hb)
 have hn:=(ZaQ h.net).2
 have h1:=Zpl c n b.state.toNat b.values n.wires.length
 have h2:=ZkY c n b.state.toNat b.values n.wires.length
 obtain ⟨g1,g2,g3,g4⟩:=Zgd c n k b.state.toNat b.values (ZaE c n b.state.toNat b.values n.wires.length) P
 have h3:=hP.fl
 have h4:=hP.ex
 refine ⟨rdU_ok h hbs hP.ok,by omega, ?_, ?_⟩
 ·show (inU c n k b.state.toNat b.values _ P).flips.length≤_
  omega
 ·show ((inU c n k b.state.toNat b.values _ P).extra++List.map _ _).length≤_
  rw[g4,List.length_append,List.length_map]
  omega
theorem ZAX (x y:PSt):eqV (some [(0,TD.int IntKind.i64),(1,TD.str)]) TD.struct (.agg [pI x.state,.str x.values]) (.agg [pI y.state,.str y.values])=some (decide (x=y)):=by
 have e:decide (x=y)=((x.state==y.state)&&((x.values==y.values)&&true)):=by
  rw[Bool.eq_iff_iff]
  cases x;cases y
  simp only[decide_eq_true_eq,Bool.and_eq_true,PSt.mk.injEq,beq_iff_eq,and_true]
 rw[e]
 show (some (x.state==y.state)).bind (fun b=>(some ((x.values==y.values)&&true)).map fun c=>b&&c)=_
 rfl
theorem ZrH (b:PSt):∀(l:List PSt) (k:Nat),ixf (fun x=>decide (x=b)) k l=if b∈l then ((k+l.idxOf b:Nat):Int) else -1
 |[],k=>by simp[ixf]
 | x::r,k=>by
  unfold ixf
  by_cases c:x=b
  ·subst c
   simp
  ·have h:(x::r).idxOf b=r.idxOf b+1:=by rw[List.idxOf_cons,beq_eq_false_iff_ne.2 c];rfl
   have hm:b∈x::r↔b∈r:=by rw[List.mem_cons];exact ⟨fun h=>h.resolve_left (fun e=>c e.symm),.inr⟩
   rw[decide_eq_false c,if_neg (by simp),ZrH b r (k+1),h]
   simp only[hm]
   rw[show k+1+r.idxOf b=k+(r.idxOf b+1) by omega]
theorem Zuz (l:List PSt) (b:PSt) (hl:ZA l):Zgx [.lst (l.map ePs),ePs b]=some (pI (if b∈l then (l.idxOf b:Nat) else -1)):=by
 unfold ZA at hl
 show (fun x0 x1=>Zgx [x0,x1]) _ _=_
 rw[ZtB]
 simp only[ePs,EVS]
 refine (congrArg (fun m:Option PV=>m.bind fun r=>if r.sc=true then some r else none) (Zc4 l (fun x=>decide (x=b)) _ hl (fun again k x hx=> ?_) (fun again=> ?_))).trans ?_
 ·have hk:=Ze hx
  have hi:Zk (.lst (l.map ePs)) (.int .i64 (k:Int))=some (ePs x):=Zj hx
  have he:=ZAX x b
  have hf:(fun b:PSt=>PV.agg [pI b.state,PV.str b.values])=ePs:=rfl
  simp only[ePs] at hi
  cases c:decide (x=b)<;>rw[c] at he<;>simp only[Zr hk,Zi hk hl,hi,ZK,sp2,he,Bool.false_eq_true,if_false,if_true,EVS]
 ·simp only[ZV,EVS]
  rfl
 ·rw[ZrH,Nat.zero_add]
  rfl
def Zmb :PV:=.agg [.lst [],.lst [],.lst []]
def ZuA {R:Type} (c:PSG) (n:PNet) (k s:Nat) (v:List UInt8) (z:Option R) (P:ProdG) (_:Nat) (w:Nat):Sum ProdG (Option R):=
 if Zas c n s v w∉P.states∧P.states.length=600 then .inr z else .inl (Zc3 k P w (Zas c n s v w))
theorem Zpm {R:Type} (c:PSG) (n:PNet) (k s:Nat) (v:List UInt8) (z:Option R) (e:ProdG→Option R):∀(l:List Nat) (i:Nat) (P:ProdG),P.states.length≤600→
 Z5 (ZuA c n k s v z) e i P l=if (inU c n k s v l P).states.length≤600 then e (inU c n k s v l P) else z
 |[],i,P,h=>by rw[show inU c n k s v [] P=P from rfl,if_pos h];rfl
 | w ::r,i,P,h=>by
  unfold Z5 ZuA inU
  by_cases c1:Zas c n s v w∉P.states∧P.states.length=600
  ·rw[if_pos c1]
   have h1:(Zc3 k P w (Zas c n s v w)).states.length=601:=by unfold Zc3;rw[if_neg c1.1];simp[c1.2]
   have h2:=(Zgd c n k s v r (Zc3 k P w (Zas c n s v w))).1
   rw[if_neg (by omega)]
  ·rw [if_neg c1]
   have h1:(Zc3 k P w (Zas c n s v w)).states.length≤600:=by
    unfold Zc3
    split
    ·exact h
    ·rename_i hm
     have:P.states.length≠600:=fun e=>c1 ⟨hm,e⟩
     simp
     omega
   exact Zpm c n k s v z e r (i+1) _ h1
theorem ZsG {R:Type} (k:Nat) (e:ProdG→Option R):∀(l:List Nat) (i:Nat) (P:ProdG),Z5 (fun (P:ProdG) (_:Nat) (w:Nat)=>.inl ⟨P.states,P.flips,P.extra++[⟨(k:Int),(w:Int), -1⟩]⟩) e i P l=e (exU k l P)
 |[],i,P=>by cases P;simp[Z5,exU]
 | w::r,i,P=>by
  show Z5 _ e (i+1) _ r=_
  rw[ZsG k e r]
  unfold exU
  simp[List.append_assoc]
theorem ZrI (a b c x y z:PV):splice (splice (splice [a,b,c] 0 [x]) 1 [y]) 2 [z]=[x,y,z]:=rfl
theorem ZDb (a b c x y z:PV):Zpe [a,b,c] 0 (.agg [x,y,z])=some (.agg [x,y,z]):=rfl
theorem Zf5 (a b c x y z:PV):splice [a,b,c] 0 [x,y,z]=[x,y,z]:=rfl
def prR (r:Option ProdG):PV:=match r with|some P=>.tup [ePr P,pB true]|none=>.tup [Zmb,pB false]
theorem Zpn (c:PSG) (n:PNet) (h:Go1 c n):Zd6 [eSG c,Zo n]=some (prR (Zff c n)):=by
 have g0:=ZsE c n h
 have hn24:=(ZaQ h.net).2
 show (fun x0 x1=>Zd6 [x0,x1]) _ _=_
 rw[Zog]
 simp only[eSG,Zo,ePs] at g0
 simp only[eSG,Zo,ZK,ZR,g0,Zf5,ZDb,EVS]
 unfold Zff
 refine (ZaP (R:=PV) (fun q:{q:ProdG×Nat // Pi c n q.2 q.1∧q.2≤q.1.states.length}=>[ePr q.1.1,pI (Int.ofNat q.1.2)]) (fun q=>601 - q.1.2) (fun q=>some (prR (Zkh c n (601 - q.1.2) q.1.2 q.1.1))) _ (fun again q ih=> ?_) _ ⟨(⟨[Zhw c n],[],[]⟩,0),⟨fun x hx=>by rw[List.mem_singleton] at hx;subst hx;exact Zm4 h,by simp,by simp,by simp⟩,by simp⟩ (by simp only;omega))
 obtain ⟨⟨P,k⟩,hP,hk⟩:=q
 dsimp only at ih hP hk⊢
 have hlen:=hP.len
 by_cases ck:k<P.states.length
 ·obtain ⟨b,hb⟩:∃b,P.states[k]?=some b:=⟨P.states[k],List.getElem?_eq_getElem ck⟩
  obtain ⟨s,hbe,hs,hbits⟩:=(hP.ok b (List.mem_of_getElem? hb)).mk'
  obtain ⟨v,hv⟩:∃v,b.values=v:=⟨_,rfl⟩
  rw[hv] at hbe hbits
  subst hbe
  have g1:=Zuy c n h s v hs hbits
  have p1:ZaM (P.states.map ePs) (.int .i64 (k:Int))=some (.int .i64 (k:Int)):=ZbG (by rw[List.length_map];exact ck)
  have q1:(P.states.map ePs)[k]?=some (.agg [pI (s:Int),.str v]):=by rw[List.getElem?_map,hb];rfl
  have hcl:=Zpl c n s v n.wires.length
  have hxl:=ZkY c n s v n.wires.length
  simp only[eSG,Zo,ePs] at g1
  simp only[ePr,List.length_map,Zr ck,p1,q1,Int.toNat_natCast,ZK,ZR,g1,EVS]
  have hst:Zkh c n (601 - k) k P=if 600<(rdU c n k ⟨(s:Int),v⟩ P).states.length then none else Zkh c n (600 - k) (k+1) (rdU c n k ⟨(s:Int),v⟩ P):=by
   rw[show 601 - k=(600 - k)+1 by omega]
   show (match P.states[k]? with|none=>some P|some b=>_)=_
   rw[hb]
  rw[hst]
  obtain ⟨L,hL⟩:∃L,ZaE c n s v n.wires.length=L:=⟨_,rfl⟩
  obtain ⟨X,hX⟩:∃X,Zap c n s v n.wires.length=X:=⟨_,rfl⟩
  have hrd:rdU c n k ⟨(s:Int),v⟩ P=exU k X (inU c n k s v L P):=by unfold rdU;rw[Int.toNat_natCast,hL,hX]
  have hLok:∀w∈L,Zkg c n s v w=true:=fun w hw=>by rw[←hL] at hw;exact (Zow hw).2
  rw[hrd,hL,hX]
  rw[hL] at hcl
  rw[hX] at hxl
  refine (ZaI (R:=PV) L (fun (P:ProdG) i=>[ePr P,pI (Int.ofNat i)]) (fun i Q=>Q.states.length≤600∧Q.flips.length=P.flips.length+i∧Q.extra=P.extra) (ZuA c n k s v (some (.tup [Zmb,pB false]))) (fun Q=>again [ePr (exU k X Q),pI (Int.ofNat (k+1))]) _ (by omega) (fun Q i w Q' hi hw he=> ?_) (fun again1 Q i w hi hw=> ?_) (fun again1 Q hi=> ?_) (b:=P) ⟨hlen,rfl,rfl⟩).trans ((Zpm c n k s v _ _ L 0 P hlen).trans ?_)
  ·unfold ZuA at he
   split at he
   ·cases he
   ·rename_i c1
    cases he
    obtain ⟨a1,a2,a3,a4⟩:=Zg6 k Q w (Zas c n s v w)
    refine ⟨?_,by omega,a4.trans hi.2.2⟩
    unfold Zc3
    split
    ·exact hi.1
    ·rename_i hm
     have:Q.states.length≠600:=fun e=>c1 ⟨hm,e⟩
     have:=hi.1
     simp
     omega
  ·have hil:=Ze hw
   obtain ⟨i1,i2,i3⟩:=hi
   have hPf:=hP.fl
   have hix:Zk (.lst (L.map fun k=>ePs (Zas c n s v k))) (.int .i64 (i:Int))=some (ePs (Zas c n s v w)):=Zj (enc:=fun k=>ePs (Zas c n s v k)) hw
   have hiw:Zk (.lst (L.map eNn)) (.int .i64 (i:Int))=some (pI (w:Int)):=Zj (enc:=eNn) hw
   have g2:=Zuz Q.states (Zas c n s v w) (by unfold ZA;omega)
   obtain ⟨bb,hbb⟩:∃bb,Zas c n s v w=bb:=⟨_,rfl⟩
   rw[hbb] at hix g2
   have hnx:=Zi hil (show L.length≤9223372036854775807 by omega)
   have hlb:Q.states.length+[PV.agg [pI bb.state,.str bb.values]].length≤4294967296∧[PV.agg [pI bb.state,.str bb.values]].all (Zal 2)=true:=⟨by simp;omega,rfl⟩
   have hla:∀t:Int,Q.flips.length+[PV.agg [pI (k:Int),pI (w:Int),pI t]].length≤4294967296∧[PV.agg [pI (k:Int),pI (w:Int),pI t]].all (Zal 3)=true:=fun t=>⟨by simp;omega,rfl⟩
   unfold ZuA Zc3
   rw[hbb]
   simp only[ePs] at hix g2
   by_cases c1:bb∈Q.states
   ·rw[if_neg (fun h=>h.1 c1),if_pos c1]
    rw[if_pos c1] at g2
    have hneg:decide (((Q.states.idxOf bb:Nat):Int)<0)=false:=by simp only[decide_eq_false_iff_not];omega
    simp only[ePr,List.length_map,Zr hil,hix,ZK,sp2,g2,hneg,hiw,ZrI,if_pos (hla _),hnx,List.map_append,List.map_cons,List.map_nil,eFl,EVS]
   ·rw[if_neg c1] at g2
    have hneg:decide ((-1:Int)<0)=true:=rfl
    by_cases c2:Q.states.length=600
    ·rw[if_pos ⟨c1,c2⟩]
     have h6:decide ((Q.states.length:Int)=600)=true:=by simp only[decide_eq_true_eq];omega
     simp only[ePr,List.length_map,Zr hil,hix,ZK,sp2,g2,hneg,h6,Zf5,EVS]
     rfl
    ·rw[if_neg (fun h=>c2 h.2),if_neg c1]
     have h6:decide ((Q.states.length:Int)=600)=false:=by simp only[decide_eq_false_iff_not];omega
     simp only[ePr,List.length_map,Zr hil,hix,ZK,sp2,g2,hneg,h6,hiw,ZrI,if_pos hlb,if_pos (hla _),hnx,List.map_append,List.map_cons,List.map_nil,eFl,EVS]
     rfl
  ·have hxx:X.length≤9223372036854775807:=by omega
   have hPe:=hP.ex
   simp only[List.length_map,ZV,EVS]
   refine (ZaI (R:=PV) X (fun (P:ProdG) i=>[ePr P,pI (Int.ofNat i)]) (fun i Q'=>Q'.states.length≤600∧Q'.extra.length=P.extra.length+i) (fun (P:ProdG) (_:Nat) (w:Nat)=>.inl ⟨P.states,P.flips,P.extra++[⟨(k:Int),(w:Int), -1⟩]⟩) (fun Q=>again [ePr Q,pI (Int.ofNat (k+1))]) _ hxx (fun Q' i w Q2 hi' hw he=> ?_) (fun again2 Q' i w hi' hw=> ?_) (fun again2 Q' hi'=> ?_) (b:=Q) ⟨hi.1,by rw[hi.2.2];rfl⟩).trans (ZsG k _ X 0 Q)
   ·cases he
    exact ⟨hi'.1,by simp;omega⟩
   ·have hil:=Ze hw
    have hiw:Zk (.lst (X.map eNn)) (.int .i64 (i:Int))=some (pI (w:Int)):=Zj (enc:=eNn) hw
    have hla:Q'.extra.length+[PV.agg [pI (k:Int),pI (w:Int),pI (-1)]].length≤4294967296∧[PV.agg [pI (k:Int),pI (w:Int),pI (-1)]].all (Zal 3)=true:=⟨by simp;omega,rfl⟩
    have hneg:(Int.negSucc 0)=(-1:Int):=rfl
    simp only[ePr,List.length_map,Zr hil,hiw,ZrI,hneg,if_pos hla,Zi hil hxx,List.map_append,List.map_cons,List.map_nil,eFl,EVS]
   ·simp only[ZV,Zi ck (show P.states.length≤9223372036854775807 by omega),EVS]
  ·by_cases c6:(inU c n k s v L P).states.length≤600
   ·have hx6:¬600<(exU k X (inU c n k s v L P)).states.length:=by show ¬600<(inU c n k s v L P).states.length;omega
    rw[if_pos c6,if_neg hx6]
    have hnx:=Pi.next h hP hb (by rw[hrd];exact hx6)
    rw[hrd] at hnx
    have hkl:k+1≤(exU k X (inU c n k s v L P)).states.length:=by
     have:=(Zgd c n k s v L P).1
     show k+1≤(inU c n k s v L P).states.length
     omega
    have:=ih ⟨(exU k X (inU c n k s v L P),k+1),hnx,hkl⟩ (by simp only;omega)
    rw[show 601 - (k+1)=600 - k by omega] at this
    exact this
   ·rw[if_neg c6,if_pos (show 600<(exU k X (inU c n k s v L P)).states.length by show 600<(inU c n k s v L P).states.length;omega)]
    rfl
 ·obtain rfl:k=P.states.length:=by omega
  have hst:Zkh c n (601 - P.states.length) P.states.length P=some P:=by
   rw[show 601 - P.states.length=(600 - P.states.length)+1 by omega]
   show (match P.states[P.states.length]? with|none=>some P|some b=>_)=_
   rw[List.getElem?_eq_none (by omega)]
  rw[hst]
  simp only[ePr,List.length_map,ZV,ZR,Zf5,EVS]
  rfl
theorem ZDc (a b c d e f a' b' c' d' e' f':PV):Zpe [a,b,c,d,e,f] 0 (.agg [a',b',c',d',e',f'])=some (.agg [a',b',c',d',e',f']):=rfl
theorem ZC5 (b:Bool):one1 (.bool b)=some (.bool b):=rfl
def ZsH (g:Nat→PV):Nat→List PSt→List (PV×PV)
 |_,[]=>[]
 |k,b::r=>(ePs b,g k)::ZsH g (k+1) r
theorem ZrJ (g:Nat→PV) (a:PSt):∀(l:List PSt) (k:Nat),ZsH g k (l++[a])=ZsH g k l++[(ePs a,g (k+l.length))]
 |[],k=>rfl
 | x::r,k=>by
  show (ePs x,g k)::ZsH g (k+1) (r++[a])=_
  rw[ZrJ g a r (k+1)]
  simp only[ZsH,List.length_cons,List.cons_append]
  rw[show k+1+r.length=k+(r.length+1) by omega]
theorem findP (g:Nat→PV) (s:PSt):∀(l:List PSt) (k i:Nat),Zfb (some [(0,TD.int IntKind.i64),(1,TD.str)]) TD.struct (ZsH g k l) (.agg [pI s.state,.str s.values]) i=some (if s∈l then some (i+l.idxOf s,g (k+l.idxOf s)) else none)
 |[],k,i=>rfl
 | x::r,k,i=>by
  unfold ZsH Zfb
  rw[show ePs x=.agg [pI x.state,.str x.values] from rfl,ZAX]
  by_cases c:x=s
  ·subst c
   simp
  ·have h:(x::r).idxOf s=r.idxOf s+1:=by rw[List.idxOf_cons,beq_eq_false_iff_ne.2 c];rfl
   have hm:s∈x::r↔s∈r:=by rw[List.mem_cons];exact ⟨fun h=>h.resolve_left (fun e=>c e.symm),.inr⟩
   simp only[obs,c,show ¬s=x from fun e=>c e.symm,decide_false,Bool.false_eq_true,if_false,findP g s r (k+1) (i+1),hm,h]
   by_cases c2:s∈r
   ·rw[if_pos c2,if_pos c2,show i+1+r.idxOf s=i+(r.idxOf s+1) by omega,show k+1+r.idxOf s=k+(r.idxOf s+1) by omega]
   ·rw[if_neg c2,if_neg c2]
theorem keyP (a:PSt):((eqV (some [(0,TD.int IntKind.i64),(1,TD.str)]) TD.struct (.agg [pI a.state,.str a.values]) (.agg [pI a.state,.str a.values])).elim false fun x=>true)=true:=by rw[ZAX];rfl
theorem ZAY (l:List (PV×PV)):Zwo (.map l)=some l:=rfl
theorem zpInt' :Zbb (TI.mk 1 8 (TD.int .i64) [ZC.int .i64] [] false)=.int .i64 0:=rfl
def ixP (l:List PSt):PV:=.map (ZsH (fun i=>pI i) 0 l)
theorem ZAZ (l:List PSt) (a:PSt):PV.map (ZsH (fun i=>pI i) 0 l++[(.agg [pI a.state,.str a.values],pI (l.length:Int))])=ixP (l++[a]):=by
 unfold ixP
 rw[ZrJ,Nat.zero_add]
 rfl
theorem ZrK {R:Type} (c:PSG) (n:PNet) (k s:Nat) (v:List UInt8) (e:ProdG→Option R):∀(l:List Nat) (i:Nat) (P:ProdG),Z5 (fun (P:ProdG) (_:Nat) (w:Nat)=>.inl (Zc3 k P w (Zas c n s v w))) e i P l=e (inU c n k s v l P)
 |[],i,P=>rfl
 |w::r,i,P=>ZrK c n k s v e r (i+1) _
theorem ZsI (c:PSG) (n:PNet) (h:Go1 c n):ZbE [Zb2 c n]=some (prR (Zff c n)):=by
 have g0:=Zuw c n h
 have hn24:=(ZaQ h.net).2
 obtain ⟨f0,hf0⟩:∃f0,Zhw c n=f0:=⟨_,rfl⟩
 have p00:ZaM [PV.agg [pI f0.state,.str f0.values]] (.int .i64 ((0:Nat):Int))=some (.int .i64 ((0:Nat):Int)):=ZbG (by simp)
 have hk0:=keyP f0
 have hix0:PV.map ([]++[(PV.agg [pI f0.state,.str f0.values],pI 0)])=ixP [f0]:=rfl
 simp only[Int.natCast_zero] at p00
 show (fun x0=>ZbE [x0]) _=_
 rw[Zjm]
 rw[hf0] at g0
 simp only[Zb2,ePs] at g0
 simp only[Zb2,Zn4,g0,Zf5,ZDb,p00,Int.toNat_zero,List.getElem?_cons_zero,ZK,hk0,hix0,if_true,ZDb,ZDc,ZC5,PV.parts,EVS]
 unfold Zff
 rw[hf0]
 refine (ZaP (R:=PV) (fun q:{q:ProdG×Nat // Pi c n q.2 q.1∧q.2≤q.1.states.length}=>[ixP q.1.1.states,ePr q.1.1,pI (Int.ofNat q.1.2)]) (fun q=>601 - q.1.2) (fun q=>some (prR (Zkh c n (601 - q.1.2) q.1.2 q.1.1))) _ (fun again q ih=> ?_) _ ⟨(⟨[f0],[],[]⟩,0),⟨fun x hx=>by rw[List.mem_singleton] at hx;subst hx;rw[←hf0];exact Zm4 h,by simp,by simp,by simp⟩,by simp⟩ (by simp only;omega))
 obtain ⟨⟨P,k⟩,hP,hk⟩:=q
 dsimp only at ih hP hk⊢
 have hlen:=hP.len
 by_cases ck:k<P.states.length
 ·obtain ⟨b,hb⟩:∃b,P.states[k]?=some b:=⟨P.states[k],List.getElem?_eq_getElem ck⟩
  obtain ⟨s,hbe,hs,hbits⟩:=(hP.ok b (List.mem_of_getElem? hb)).mk'
  obtain ⟨v,hv⟩:∃v,b.values=v:=⟨_,rfl⟩
  rw[hv] at hbe hbits
  subst hbe
  have g1:=Zpj c n h s v hs hbits
  have g3:=Zpk c n h s v hs hbits
  have p1:ZaM (P.states.map ePs) (.int .i64 (k:Int))=some (.int .i64 (k:Int)):=ZbG (by rw[List.length_map];exact ck)
  have q1:(P.states.map ePs)[k]?=some (.agg [pI (s:Int),.str v]):=by rw[List.getElem?_map,hb];rfl
  have hcl:=Zpl c n s v n.wires.length
  have hxl:=ZkY c n s v n.wires.length
  simp only[Zb2,ePs] at g1 g3
  simp only[ePr,List.length_map,Zr ck,p1,q1,Int.toNat_natCast,Zn4,ZK,g1,ZDb,ZDc,ZC5,PV.parts,EVS]
  have hst:Zkh c n (601 - k) k P=if 600<(rdU c n k ⟨(s:Int),v⟩ P).states.length then none else Zkh c n (600 - k) (k+1) (rdU c n k ⟨(s:Int),v⟩ P):=by
   rw[show 601 - k=(600 - k)+1 by omega]
   show (match P.states[k]? with|none=>some P|some b=>_)=_
   rw[hb]
  rw[hst]
  obtain ⟨L,hL⟩:∃L,ZaE c n s v n.wires.length=L:=⟨_,rfl⟩
  obtain ⟨X,hX⟩:∃X,Zap c n s v n.wires.length=X:=⟨_,rfl⟩
  have hrd:rdU c n k ⟨(s:Int),v⟩ P=exU k X (inU c n k s v L P):=by unfold rdU;rw[Int.toNat_natCast,hL,hX]
  have hLok:∀w∈L,Zkg c n s v w=true:=fun w hw=>by rw[←hL] at hw;exact (Zow hw).2
  rw[hX] at g3
  rw[hrd,hL]
  rw[hL] at hcl
  rw[hX] at hxl
  refine (ZaI (R:=PV) L (fun (P:ProdG) i=>[ixP P.states,ePr P,pI (Int.ofNat i)]) (fun i Q=>(Q.states.length≤P.states.length+i∧Q.states[k]?=some ⟨(s:Int),v⟩)∧Q.flips.length=P.flips.length+i∧Q.extra=P.extra) (fun (P:ProdG) (_:Nat) (w:Nat)=>.inl (Zc3 k P w (Zas c n s v w))) (fun Q=>if 600<Q.states.length then some (.tup [Zmb,pB false]) else again [ixP Q.states,ePr (exU k X Q),pI (Int.ofNat (k+1))]) _ (by omega) (fun Q i w Q' hi hw he=> ?_) (fun again1 Q i w hi hw=> ?_) (fun again1 Q hi=> ?_) (b:=P) ⟨⟨by omega,hb⟩,rfl,rfl⟩).trans ((ZrK c n k s v _ L 0 P).trans ?_)
  ·cases he
   obtain ⟨a1,a2,a3,a4⟩:=Zg6 k Q w (Zas c n s v w)
   exact ⟨⟨by omega,Zys hi.1.2⟩,by omega,a4.trans hi.2.2⟩
  ·have hil:=Ze hw
   obtain ⟨⟨i1,i0⟩,i2,i3⟩:=hi
   have hPf:=hP.fl
   have hix:Zk (.lst (L.map fun k=>ePs (Zas c n s v k))) (.int .i64 (i:Int))=some (ePs (Zas c n s v w)):=Zj (enc:=fun k=>ePs (Zas c n s v k)) hw
   have hiw:Zk (.lst (L.map eNn)) (.int .i64 (i:Int))=some (pI (w:Int)):=Zj (enc:=eNn) hw
   obtain ⟨bb,hbb⟩:∃bb,Zas c n s v w=bb:=⟨_,rfl⟩
   rw[hbb] at hix
   have g2:=findP (fun i=>pI i) bb Q.states 0 0
   have hkk:=keyP bb
   have hnx:=Zi hil (show L.length≤9223372036854775807 by omega)
   have hlb:Q.states.length+[PV.agg [pI bb.state,.str bb.values]].length≤4294967296∧[PV.agg [pI bb.state,.str bb.values]].all (Zal 2)=true:=⟨by simp;omega,rfl⟩
   have hla:∀t:Int,Q.flips.length+[PV.agg [pI (k:Int),pI (w:Int),pI t]].length≤4294967296∧[PV.agg [pI (k:Int),pI (w:Int),pI t]].all (Zal 3)=true:=fun t=>⟨by simp;omega,rfl⟩
   unfold Zc3
   rw[hbb]
   simp only[ePs] at hix
   by_cases c1:bb∈Q.states
   ·rw[if_pos c1]
    rw[if_pos c1] at g2
    simp only[Nat.zero_add] at g2
    simp only[ePr,ixP,List.length_map,Zr hil,hix,ZK,sp2,ZAY,hkk,g2,hiw,ZrI,Option.elim_some,if_pos (hla _),hnx,List.map_append,List.map_cons,List.map_nil,eFl,if_true,ZDb,ZDc,ZC5,PV.parts,EVS]
   ·rw[if_neg c1]
    rw[if_neg c1] at g2
    have hN:=ZAZ Q.states bb
    unfold ixP at hN
    simp only[ePr,ixP,List.length_map,Zr hil,hix,ZK,sp2,ZAY,hkk,g2,hiw,ZrI,zpInt',Option.elim_none,if_pos hlb,if_pos (hla _),hnx,hN,List.map_append,List.map_cons,List.map_nil,eFl,if_true,ZDb,ZDc,ZC5,PV.parts,EVS]
    rfl
  ·obtain ⟨⟨i1,i0⟩,i2,i3⟩:=hi
   have hxx:X.length≤9223372036854775807:=by omega
   have hPe:=hP.ex
   have p2:ZaM (Q.states.map ePs) (.int .i64 (k:Int))=some (.int .i64 (k:Int)):=ZbG (by rw[List.length_map];exact (List.getElem?_eq_some_iff.1 i0).1)
   have q2:(Q.states.map ePs)[k]?=some (.agg [pI (s:Int),.str v]):=by rw[List.getElem?_map,i0];rfl
   simp only[ePr,List.length_map,ZV,p2,q2,Int.toNat_natCast,Zn4,ZK,g3,ZDb,ZDc,ZC5,PV.parts,EVS]
   refine (ZaI (R:=PV) X (fun (P:ProdG) i=>[ePr P,pI (Int.ofNat i)]) (fun i Q'=>Q'.states=Q.states∧Q'.extra.length=P.extra.length+i) (fun (P:ProdG) (_:Nat) (w:Nat)=>.inl ⟨P.states,P.flips,P.extra++[⟨(k:Int),(w:Int), -1⟩]⟩) (fun Q'=>if 600<Q'.states.length then some (.tup [Zmb,pB false]) else again [ixP Q'.states,ePr Q',pI (Int.ofNat (k+1))]) _ hxx (fun Q' i w Q2 hi' hw he=> ?_) (fun again2 Q' i w hi' hw=> ?_) (fun again2 Q' hi'=> ?_) (b:=Q) ⟨rfl,by rw[i3];rfl⟩).trans (ZsG k _ X 0 Q)
   ·cases he
    exact ⟨hi'.1,by simp;omega⟩
   ·have hil:=Ze hw
    have p3:ZaM (X.map eNn) (.int .i64 (i:Int))=some (.int .i64 (i:Int)):=ZbG (by rw[List.length_map];exact hil)
    have q3:(X.map eNn)[i]?=some (pI (w:Int)):=by rw[List.getElem?_map,hw];rfl
    have hla:Q'.extra.length+[PV.agg [pI (k:Int),pI (w:Int),pI (-1)]].length≤4294967296∧[PV.agg [pI (k:Int),pI (w:Int),pI (-1)]].all (Zal 3)=true:=⟨by simp;omega,rfl⟩
    have hneg:(Int.negSucc 0)=(-1:Int):=rfl
    simp only[ePr,List.length_map,Zr hil,p3,q3,Int.toNat_natCast,ZrI,hneg,if_pos hla,Zi hil hxx,List.map_append,List.map_cons,List.map_nil,eFl,ZDb,ZDc,ZC5,PV.parts,EVS]
   ·have hks:=(List.getElem?_eq_some_iff.1 i0).1
    by_cases c6:600<Q'.states.length
    ·have c6':decide ((600:Int)<(Q'.states.length:Int))=true:=by simp only[decide_eq_true_eq];omega
     rw[if_pos c6]
     simp only[ePr,List.length_map,ZV,c6',Zf5,ZDb,ZDc,ZC5,PV.parts,EVS]
     rfl
    ·have c6':decide ((600:Int)<(Q'.states.length:Int))=false:=by simp only[decide_eq_false_iff_not];omega
     rw[if_neg c6]
     rw[hi'.1] at c6'
     simp only[ePr,List.length_map,ZV,c6',Zi ck (show P.states.length≤9223372036854775807 by omega),hi'.1,ZDb,ZDc,ZC5,PV.parts,EVS]
  ·by_cases c6:(inU c n k s v L P).states.length≤600
   ·have hx6:¬600<(exU k X (inU c n k s v L P)).states.length:=by show ¬600<(inU c n k s v L P).states.length;omega
    rw[if_neg (show ¬600<(inU c n k s v L P).states.length by omega),if_neg hx6]
    have hnx:=Pi.next h hP hb (by rw[hrd];exact hx6)
    rw[hrd] at hnx
    have hkl:k+1≤(exU k X (inU c n k s v L P)).states.length:=by
     have:=(Zgd c n k s v L P).1
     show k+1≤(inU c n k s v L P).states.length
     omega
    have:=ih ⟨(exU k X (inU c n k s v L P),k+1),hnx,hkl⟩ (by simp only;omega)
    rw[show 601 - (k+1)=600 - k by omega] at this
    exact this
   ·rw[if_pos (show 600<(inU c n k s v L P).states.length by omega),if_pos (show 600<(exU k X (inU c n k s v L P)).states.length by show 600<(inU c n k s v L P).states.length;omega)]
    rfl
 ·obtain rfl:k=P.states.length:=by omega
  have hst:Zkh c n (601 - P.states.length) P.states.length P=some P:=by
   rw[show 601 - P.states.length=(600 - P.states.length)+1 by omega]
   show (match P.states[P.states.length]? with|none=>some P|some b=>_)=_
   rw[List.getElem?_eq_none (by omega)]
  rw[hst]
  simp only[ePr,List.length_map,ZV,ZR,Zf5,ZDb,ZDc,ZC5,PV.parts,EVS]
  rfl
structure PrU (c:PSG) (n:PNet) (P:ProdG):Prop where
 ok:∀x∈P.states,StB c n x
 one:1≤P.states.length
 len:P.states.length≤600
 few:P.flips.length≤14400
 xfew:P.extra.length≤14400
 fl:∀f∈P.flips,0≤f.from_∧f.from_<P.states.length∧0≤f.to∧f.to<P.states.length∧0≤f.wire∧f.wire<n.wires.length
 xl:∀f∈P.extra,0≤f.from_∧f.from_<P.states.length∧f.to= -1∧0≤f.wire∧f.wire<n.wires.length
structure Pj (n:PNet) (P:ProdG):Prop where
 fl:∀f∈P.flips,0≤f.from_∧f.from_<P.states.length∧0≤f.to∧f.to<P.states.length∧0≤f.wire∧f.wire<n.wires.length
 xl:∀f∈P.extra,0≤f.from_∧f.from_<P.states.length∧f.to= -1∧0≤f.wire∧f.wire<n.wires.length
theorem Pj.add {n:PNet} {P:ProdG} (h:Pj n P) {k w:Nat} {b:PSt} (hk:k<P.states.length) (hw:w<n.wires.length):Pj n (Zc3 k P w b):=by
 unfold Zc3
 split
 ·rename_i hm
  refine ⟨fun f hf=> ?_,h.xl⟩
  rcases List.mem_append.1 hf with hf|hf
  ·exact h.fl f hf
  ·rw[List.mem_singleton] at hf
   subst hf
   have:=List.idxOf_lt_length_of_mem hm
   dsimp only
   omega
 ·refine ⟨fun f hf=> ?_,fun f hf=> ?_⟩
  ·rcases List.mem_append.1 hf with hf|hf
   ·have:=h.fl f hf
    simp only[List.length_append,List.length_singleton]
    omega
   ·rw[List.mem_singleton] at hf
    subst hf
    simp only[List.length_append,List.length_singleton]
    omega
  ·have:=h.xl f hf
   simp only[List.length_append,List.length_singleton]
   omega
theorem Pj.ins {c:PSG} {n:PNet} {k s:Nat} {v:List UInt8}:∀(l:List Nat) (P:ProdG),Pj n P→k<P.states.length→(∀w∈l,w<n.wires.length)→Pj n (inU c n k s v l P)
 |[],P,h,_,_=>h
 | w::r,P,h,hk,hl=>by
  unfold inU
  refine Pj.ins r _ (h.add hk (hl w List.mem_cons_self)) ?_ fun x hx=>hl x (List.mem_cons_of_mem _ hx)
  have:=(Zg6 k P w (Zas c n s v w)).1
  omega
theorem Pj.rd {c:PSG} {n:PNet} {k:Nat} {b:PSt} {P:ProdG} (h:Pj n P) (hk:k<P.states.length):Pj n (rdU c n k b P):=by
 have h1:=Pj.ins (c:=c) (s:=b.state.toNat) (v:=b.values) (ZaE c n b.state.toNat b.values n.wires.length) P h hk fun w hw=>(Zow hw).1
 have h2:=(Zgd c n k b.state.toNat b.values (ZaE c n b.state.toNat b.values n.wires.length) P).1
 unfold rdU exU
 refine ⟨h1.fl,fun f hf=> ?_⟩
 rcases List.mem_append.1 hf with hf|hf
 ·exact h1.xl f hf
 ·obtain ⟨w,hw,rfl⟩:=List.mem_map.1 hf
  unfold Zap at hw
  have:=List.mem_range.1 (List.mem_filter.1 hw).1
  dsimp only
  omega
theorem Zyt {c:PSG} {n:PNet} (h:Go1 c n):∀(f k:Nat) (P Q:ProdG),Pi c n k P→Pj n P→k≤P.states.length→1≤P.states.length→k+f≤601→Zkh c n f k P=some Q→PrU c n Q
 | 0,k,P,Q,hP,hj,hk,h1,hf,he=>by
  cases he
  have:=hP.fl
  have:=hP.ex
  have:=hP.len
  exact ⟨hP.ok,h1,hP.len,by omega,by omega,hj.fl,hj.xl⟩
 | f +1,k,P,Q,hP,hj,hk,h1,hf,he=>by
  unfold Zkh at he
  split at he
  ·cases he
   have:=hP.fl
   have:=hP.ex
   have:=hP.len
   exact ⟨hP.ok,h1,hP.len,by omega,by omega,hj.fl,hj.xl⟩
  ·rename_i b hb
   split at he
   ·cases he
   ·rename_i hl
    have hkl:=(List.getElem?_eq_some_iff.1 hb).1
    have hn:=Pi.next h hP hb hl
    have hm:=(Zgd c n k b.state.toNat b.values (ZaE c n b.state.toNat b.values n.wires.length) P).1
    have hst:(rdU c n k b P).states=(inU c n k b.state.toNat b.values (ZaE c n b.state.toNat b.values n.wires.length) P).states:=rfl
    exact Zyt h f (k+1) _ Q hn (hj.rd hkl) (by rw[hst];omega) (by rw[hst];omega) (by omega) he
theorem ZiY {c:PSG} {n:PNet} (h:Go1 c n) {P:ProdG} (he:Zff c n=some P):PrU c n P:=by
 unfold Zff at he
 exact Zyt h 601 0 _ P ⟨fun x hx=>by rw[List.mem_singleton] at hx;subst hx;exact Zm4 h,by simp,by simp,by simp⟩ ⟨by simp,by simp⟩ (by simp) (by simp) (by omega) he
def Zi2 (c:PSG) (n:PNet):Option ProdG:=if goP c n=true then Zff c n else none
theorem ZuT {c:PSG} {n:PNet} (hc:SGFit c) (hn:n.Fit) {P:ProdG} (h:Zi2 c n=some P):goP c n=true∧PrU c n P:=by
 unfold Zi2 at h
 split at h
 ·rename_i hg;exact ⟨hg,ZiY (Znf hg hc hn) h⟩
 ·cases h
theorem ZsV (c:PSG) (n:PNet) (hc:SGFit c) (hn:n.Fit):Zgy [eSG c,Zo n]=some (prR (Zi2 c n)):=by
 have g0:=ZzC c n hc hn
 show (fun x0 x1=>Zgy [x0,x1]) _ _=_
 rw[ZtD]
 unfold Zi2
 cases c0:goP c n
 ·rw[c0] at g0
  simp only[eSG,Zo] at g0
  simp only[eSG,Zo,ZK,ZR,g0,Zf5,Bool.false_eq_true,if_false,ZDb,ZDc,ZC5,PV.parts,EVS]
  rfl
 ·rw[c0] at g0
  have g1:=Zpn c n (Znf c0 hc hn)
  simp only[eSG,Zo] at g0 g1
  rw[if_pos rfl]
  cases hp:Zff c n with
  | none=>
   rw[hp] at g1
   simp only[prR,Zmb] at g1
   simp only[eSG,Zo,ZK,ZR,g0,g1,Zf5,ZDb,ZDc,ZC5,PV.parts,EVS]
   rfl
  | some P=>
   rw[hp] at g1
   simp only[prR,ePr] at g1
   simp only[eSG,Zo,ZK,ZR,g0,g1,Zf5,ZDb,ZDc,ZC5,PV.parts,EVS]
   rfl
theorem Zpw (c:PSG) (n:PNet) (hc:SGFit c) (hn:n.Fit):ZeF [eSG c,Zo n]=some (match Zi2 c n with|some P=>.tup [Zb2 c n,ePr P,pB true]|none=>.tup [if goP c n=true then Zb2 c n else zSys,Zmb,pB false]):=by
 have g0:=ZqU c n hc hn
 show (fun x0 x1=>ZeF [x0,x1]) _ _=_
 rw[Zp8]
 unfold Zi2
 cases c0:goP c n
 ·rw[c0] at g0
  simp only[eSG,Zo,zSys,Bool.false_eq_true,if_false] at g0
  simp only[eSG,Zo,ZK,ZR,g0,Zph,Zn4,Zf5,Bool.false_eq_true,if_false,ZDb,ZDc,ZC5,PV.parts,EVS]
  rfl
 ·rw[c0] at g0
  have g1:=ZsI c n (Znf c0 hc hn)
  simp only[eSG,Zo,Zb2,if_true] at g0
  simp only[Zb2] at g1
  rw[if_pos rfl]
  cases hp:Zff c n with
  | none=>
   rw[hp] at g1
   simp only[prR,Zmb] at g1
   simp only[eSG,Zo,ZK,ZR,g0,g1,Zph,Zn4,Zf5,ZDb,ZDc,ZC5,PV.parts,EVS]
   rfl
  | some P=>
   rw[hp] at g1
   simp only[prR,ePr] at g1
   simp only[eSG,Zo,ZK,ZR,g0,g1,Zph,Zn4,Zf5,ZDb,ZDc,ZC5,PV.parts,EVS]
   rfl
def ufQ (c:PSG) (n:PNet):List Flip×Bool:=match Zi2 c n with|some P=>(P.extra,true)|none=>([],false)
theorem ZDd (c:PSG) (n:PNet) (hc:SGFit c) (hn:n.Fit):ZC2 [eSG c,Zo n]=some (.tup [.lst ((ufQ c n).1.map eFl),pB (ufQ c n).2]):=by
 have g0:=Zpw c n hc hn
 show (fun x0 x1=>ZC2 [x0,x1]) _ _=_
 rw[ZDm]
 unfold ufQ
 cases hp:Zi2 c n with
 | none=>
  rw[hp] at g0
  cases c0:goP c n<;>rw[c0] at g0<;>simp only[eSG,Zo,Zmb,zSys,Zb2,Bool.false_eq_true,if_false,if_true] at g0<;>simp only[eSG,Zo,ZK,ZR,g0,Zph,Zf5,ZDb,ZDc,ZC5,PV.parts,EVS]<;>try rfl
 | some P=>
  rw[hp] at g0
  simp only[eSG,Zo,ePr,Zb2] at g0
  simp only[eSG,Zo,ZK,ZR,Zn4,g0,Zph,Zf5,ZDb,ZDc,ZC5,PV.parts,EVS]
  try rfl
theorem ZDg (c:PSG) (n:PNet) (hc:SGFit c) (hn:n.Fit):ZC4 [eSG c,Zo n]=some (.tup [.lst ((ufQ c n).1.map eFl),pB (ufQ c n).2]):=by
 have g0:=ZsV c n hc hn
 show (fun x0 x1=>ZC4 [x0,x1]) _ _=_
 rw[ZDo]
 unfold ufQ
 cases hp:Zi2 c n with
 | none=>
  rw[hp] at g0
  simp only[eSG,Zo,prR,Zmb] at g0
  simp only[eSG,Zo,ZK,ZR,g0,Zf5,ZDb,ZDc,ZC5,PV.parts,EVS]
  try rfl
 | some P=>
  rw[hp] at g0
  simp only[eSG,Zo,prR,ePr] at g0
  simp only[eSG,Zo,ZK,ZR,g0,Zf5,ZDb,ZDc,ZC5,PV.parts,EVS]
  try rfl
theorem ZDP {c:PSG} {n:PNet} (hc:SGFit c) (hn:n.Fit):(ufQ c n).1.length≤14400:=by
 unfold ufQ
 cases hp:Zi2 c n with
 |none=>simp
 |some P=>exact (ZuT hc hn hp).2.xfew
theorem ufQ_in {c:PSG} {n:PNet} (hc:SGFit c) (hn:n.Fit):∀f∈(ufQ c n).1,0≤f.from_∧f.from_<600∧0≤f.wire∧f.wire<24∧f.to= -1:=by
 unfold ufQ
 cases hp:Zi2 c n with
 |none=>simp
 | some P=>
  obtain ⟨hg,hP⟩:=ZuT hc hn hp
  have h1:=(ZaQ (Znf hg hc hn).net).2
  have hl:=hP.len
  intro f hf
  obtain ⟨a1,a2,a3,a4,a5⟩:=hP.xl f hf
  omega
end Go.Proofs.YtpceleehbpnchaaGreat
