import Derived.Test.YtpceleehbpnchaaGreatHazardousWiresF
import Derived.Test.YtpceleehbpnchaaGreatData
import Derived.Test.YtpceleehbpnchaaGreatDistPure
import Derived.Test.YtpceleehbpnchaaGreatSysPure
import Derived.Test.YtpceleehbpnchaaGreatWayPure
namespace Go.Proofs.YtpceleehbpnchaaGreat
open Go.RowKit
set_option linter.unusedVariables false
set_option linter.unusedSimpArgs false
theorem ZaJ (n lo hi:Int):Zak [pI n,pI lo,pI hi]=some (pB (decide (lo≤n)&&decide (n≤hi))):=by
 show (fun x0 x1 x2=>Zak [x0,x1,x2]) _ _ _=_
 rw[ZzI]
 by_cases h:lo≤n<;>simp only[h,EVS]
def ZBb (first:Bool) (b:UInt8):Bool:=(decide ((97:Int)≤b.toNat)&&decide ((b.toNat:Int)≤122))||(!first&&(!decide ((b.toNat:Int)<48)&& !decide ((57:Int)<b.toNat)))
def Zk0 :Bool→List UInt8→Bool
 |_,[]=>true
 |f,b::r=>ZBb f b&&Zk0 false r
def ZaO (s:List UInt8):Bool:=Zk0 true s&&(decide ((1:Int)≤s.length)&&decide ((s.length:Int)≤6))
theorem ZpA (s:List UInt8) (hs:s.length≤9223372036854775807):ZfX [.str s]=some (pB (ZaO s)):=by
 show (fun x0=>ZfX [x0]) _=_
 rw[ZvM]
 refine (congrArg (Zf true) (ZaP (R:=PV) (fun k:Nat=>[pI (Int.ofNat k)]) (fun k=>s.length+1 - k) (fun k=>some (pB (Zk0 (k==0) (s.drop k)&&(decide ((1:Int)≤s.length)&&decide ((s.length:Int)≤6))))) _ (fun again k ih=> ?_) _ 0 (by omega))).trans ?_
 ·by_cases hk:k<s.length
  ·obtain ⟨b,hb⟩:∃b,s[k]?=some b:=⟨s[k],List.getElem?_eq_getElem hk⟩
   have hd:s.drop k=b::s.drop (k+1):=by
    obtain ⟨h1,rfl⟩:=List.getElem?_eq_some_iff.1 hb
    exact List.drop_eq_getElem_cons h1
   have hlt:decide ((k:Int)<s.length)=true:=by simpa using hk
   have hw:IntKind.i64.wrap ((k:Int)+1)=((k+1:Nat):Int):=by rw[Zaw (by omega) (by omega)];omega
   have hnext:=ih (k+1) (by omega)
   simp only[Int.ofNat_eq_natCast] at hnext
   have hk0:decide ((k:Int)=0)=(k==0):=by rw[Bool.eq_iff_iff];simp
   rw[hd]
   have hk1:(k+1==0)=false:=rfl
   rw[hk1] at hnext
   have ev1:=hlt
   have ev2:=Zq (k:=.i64) hb
   simp only[Zk0,ZBb,hlt,Zq hb,hk0,hw,hnext,EVS]
   by_cases c1:(97:Int)≤b.toNat
   all_goals simp only[c1,Zq hb,EVS]
   by_cases c2:(b.toNat:Int)≤122
   all_goals try simp only[c2,Zq hb,EVS]
   all_goals try simp only[hk0]
   all_goals try (cases c5:(k==0))
   all_goals try simp only[c5,Zq hb,EVS]
   all_goals try (by_cases c3:(b.toNat:Int)<48)
   all_goals try simp only[c3,Zq hb,EVS]
   all_goals try (by_cases c4:(57:Int)<b.toNat)
   all_goals try simp only[c4,Zq hb,EVS]
  ·have hd:s.drop k=[]:=List.drop_eq_nil_of_le (by omega)
   have hlt:decide ((k:Int)<s.length)=false:=by simpa using hk
   rw[hd]
   simp only[Zk0,hlt,ZaJ,EVS]
 ·simp only[ZaO,List.drop_zero,beq_self_eq_true,EVS]
def ZnO (b:UInt8):Bool:=decide ((b.toNat:Int)=48)||decide ((b.toNat:Int)=49)||decide ((b.toNat:Int)=45)
def Zmk (s:List UInt8):Bool:=ZM (fun _ b=>ZnO b) 0 s&&(decide ((1:Int)≤s.length)&&decide ((s.length:Int)≤8))
theorem Ze {α:Type} {l:List α} {k:Nat} {x:α} (h:l[k]?=some x):k<l.length:=(List.getElem?_eq_some_iff.1 h).1
theorem Zi {k n:Nat} (h:k<n) (hn:n≤9223372036854775807):IntKind.i64.wrap ((k:Int)+1)=((k+1:Nat):Int):=by rw[Zaw (by omega) (by omega)];omega
theorem Zr {k n:Nat} (h:k<n):decide ((k:Int)<(n:Int))=true:=by simpa using h
theorem ZV {n:Nat}:decide ((n:Int)<(n:Int))=false:=by simp
theorem ZuX (s:List UInt8) (hs:s.length≤9223372036854775807):Zgq [.str s]=some (pB (Zmk s)):=by
 show (fun x0=>Zgq [x0]) _=_
 rw[Ztp]
 refine (congrArg (Zf true) (ZN (R:=PV) s (fun _ b=>ZnO b) (some (pB false)) (some (pB (decide ((1:Int)≤s.length)&&decide ((s.length:Int)≤8)))) _ hs (fun again k b hb=> ?_) (fun again=> ?_))).trans ?_
 ·have hk:=Ze hb
  cases c1:decide ((b.toNat:Int)=48)<;>cases c2:decide ((b.toNat:Int)=49)<;>cases c3:decide ((b.toNat:Int)=45)<;>
   simp only[ZnO,Zr hk,Zi hk hs,Zq hb,c1,c2,c3,EVS]
 ·simp only[ZV,ZaJ,EVS]
 ·unfold Zmk
  cases ZM (fun _ b=>ZnO b) 0 s<;>simp only[EVS]
abbrev ZD (s:List UInt8×Int):PV:=.agg [.str s.1,pI s.2]
def inR (n lo hi:Int):Bool:=decide (lo≤n)&&decide (n≤hi)
def ZrQ (l:List (List UInt8×Int)) (k:Nat) (s:List UInt8×Int):Bool:=(ZaO s.1&&inR s.2 1 3)&&ZM (fun _ y=> !decide (s.1=y.1)) 0 (l.take k)
def ZkF (l:List (List UInt8×Int)):Bool:=ZM (ZrQ l) 0 l&&inR l.length 1 8
theorem ZrR (x:List UInt8×Int):Zal 2 (ZD x)=true:=rfl
theorem ZkG (l:List (List UInt8×Int)) (hl:l.length≤9223372036854775807) (hs:∀s∈l,s.1.length≤9223372036854775807):Zdt [.lst (l.map ZD)]=some (pB (ZkF l)):=by
 show (fun x0=>Zdt [x0]) _=_
 rw[Zqj]
 simp only[EVS]
 refine (congrArg (Zf true) (ZN (R:=PV) l (ZrQ l) (some (pB false)) (some (pB (inR l.length 1 8))) _ hl (fun again k s hb=> ?_) (fun again=> ?_))).trans ?_
 ·have hk:=Ze hb
  have hi:Zk (.lst (l.map ZD)) (.int .i64 (k:Int))=some (ZD s):=Zj hb
  have hc:ZlS 2 (.lst (l.map ZD)) none (some (.int .i64 (k:Int)))=some (.lst ((l.take k).map ZD)):=Zom ZrR (by omega)
  have hn:=ZpA s.1 (hs s (List.mem_of_getElem? hb))
  simp only[Zr hk,Zi hk hl,hi,ZD,hn,ZaJ,ZrQ,inR,EVS]
  obtain c1|c1:=(Bool.eq_false_or_eq_true (ZaO s.1)).symm<;>simp only[c1,ZaJ,EVS]
  obtain c2|c2:=(Bool.eq_false_or_eq_true (decide (1≤s.2)&&decide (s.2≤3))).symm<;>simp only[c2,EVS]
  simp only[hc,EVS]
  refine (ZN (R:=PV) (l.take k) (fun _ y=> !decide (s.1=y.1)) (some (pB false)) (again [pI ((k+1:Nat):Int)]) _ (by simp;omega) (fun again' j y hy=> ?_) (fun again'=> ?_)).trans ?_
  ·have hj:=Ze hy
   have hi':Zk (.lst ((l.take k).map ZD)) (.int .i64 (j:Int))=some (ZD y):=Zj hy
   simp only[Zr hj,Zi hj (by simp;omega),hi',ZD,EVS]
   cases c3:decide (s.1=y.1)<;>simp only[c3,EVS]
  ·simp only[ZV,Zi hk hl,EVS]
  ·rfl
 ·simp only[ZV,ZaJ,inR,EVS]
 ·unfold ZkF
  cases ZM (ZrQ l) 0 l<;>simp only[EVS]
def Zox (n:Int) (l:List (List UInt8)):Bool:=ZM (fun _ c=>Zmk c&&decide ((c.length:Int)=n)) 0 l
def ZpB (n:Int) (l:List (List UInt8)):Bool:=Zox n l&&(inR n 1 8&&decide ((l.length:Int)≤60))
theorem ZuY (n:Int) (l:List (List UInt8)) (hl:l.length≤9223372036854775807) (hs:∀s∈l,s.length≤9223372036854775807):Zgr [pI n,.lst (l.map PV.str)]=some (pB (ZpB n l)):=by
 show (fun x0 x1=>Zgr [x0,x1]) _ _=_
 rw[Ztr]
 simp only[EVS]
 refine (congrArg (Zf true) (ZN (R:=PV) l (fun _ c=>Zmk c&&decide ((c.length:Int)=n)) (some (pB false)) (some (pB (inR n 1 8&&decide ((l.length:Int)≤60)))) _ hl (fun again k s hb=> ?_) (fun again=> ?_))).trans ?_
 ·have hk:=Ze hb
  have hi:Zk (.lst (l.map PV.str)) (.int .i64 (k:Int))=some (.str s):=Zj hb
  have hn:=ZuX s (hs s (List.mem_of_getElem? hb))
  simp only[Zr hk,Zi hk hl,hi,hn,EVS]
  obtain c1|c1:=(Bool.eq_false_or_eq_true (Zmk s)).symm<;>simp only[c1,EVS]
  obtain c2|c2:=(Bool.eq_false_or_eq_true (decide ((s.length:Int)=n))).symm<;>simp only[c2,EVS]
 ·simp only[ZV,ZaJ,inR,EVS]
  obtain c1|c1:=(Bool.eq_false_or_eq_true (decide (1≤n)&&decide (n≤8))).symm<;>simp only[c1,EVS]
 ·unfold ZpB Zox
  cases ZM (fun _ c=>Zmk c&&decide ((c.length:Int)=n)) 0 l<;>simp only[EVS]
structure PWire where
 name:List UInt8
 kind:Int
 ins:List (Int×Bool)
 cover:List (List UInt8)
structure PNet where
 signals:List (List UInt8×Int)
 wires:List PWire
abbrev Zac (p:Int×Bool):PV:=.agg [pI p.1,pB p.2]
abbrev Zn (w:PWire):PV:=.agg [.str w.name,pI w.kind,.lst (w.ins.map Zac),.lst (w.cover.map PV.str)]
abbrev Zo (n:PNet):PV:=.agg [.lst (n.signals.map ZD),.lst (n.wires.map Zn)]
abbrev ZA {α:Type} (l:List α):Prop:=l.length≤9223372036854775807
structure PWire.Fit (w:PWire):Prop where
 name:ZA w.name
 ins:ZA w.ins
 cover:ZA w.cover
 cubes:∀c∈w.cover,ZA c
structure PNet.Fit (n:PNet):Prop where
 signals:ZA n.signals
 names:∀s∈n.signals,ZA s.1
 wires:ZA n.wires
 wire:∀w∈n.wires,w.Fit
def Zi3 (n:PNet) (k:Nat) (p:Int×Bool):Bool:=inR p.1 0 ((n.wires.length:Int) - 1)&& !(decide ((n.signals.length:Int)≤k)&&decide ((k:Int)≤p.1))
def Zge (k:Nat) (kind:Int) (ins:List (Int×Bool)):Bool:=
 if decide (kind=1)=true then decide ((ins.length:Int)=0)
 else if decide (kind=4)=true then decide ((ins.length:Int)=2)
 else if decide (kind=5)=true then decide ((ins.length:Int)=0)||(match ins with|[p]=>decide (p.1=k)&& !p.2|_=>false)
 else inR ins.length 1 8
def ZrS (n:PNet) (k:Nat) (w:PWire):Bool:=ZM (fun _ p=>Zi3 n k p) 0 w.ins&&Zge k w.kind w.ins
theorem ZuZ (n:PNet) (k:Nat) (w:PWire) (hn:n.Fit) (hw:w.Fit):Zgs [Zo n,pI k,Zn w]=some (pB (ZrS n k w)):=by
 show (fun x0 x1 x2=>Zgs [x0,x1,x2]) _ _ _=_
 rw[Ztt]
 simp only[Zo,Zn,EVS]
 have hwl:IntKind.i64.wrap ((n.wires.length:Int) - 1)=(n.wires.length:Int) - 1:=Zaw (by omega) (by have:=hn.wires;unfold ZA at this;omega)
 have hi0:=hw.ins
 unfold ZA at hi0
 refine (congrArg (Zf true) (ZN (R:=PV) w.ins (fun _ p=>Zi3 n k p) (some (pB false)) (some (pB (Zge k w.kind w.ins))) _ hi0 (fun again j p hb=> ?_) (fun again=> ?_))).trans ?_
 ·have hk:=Ze hb
  have hi:Zk (.lst (w.ins.map Zac)) (.int .i64 (j:Int))=some (Zac p):=Zj hb
  simp only[Zr hk,Zi hk hi0,hi,Zac,hwl,ZaJ,Zi3,inR,EVS]
  obtain c1|c1:=(Bool.eq_false_or_eq_true (decide (0≤p.1)&&decide (p.1≤(n.wires.length:Int) - 1))).symm<;>simp only[c1,EVS]
  obtain c2|c2:=(Bool.eq_false_or_eq_true (decide ((n.signals.length:Int)≤(k:Int)))).symm<;>simp only[c2,EVS]
  obtain c3|c3:=(Bool.eq_false_or_eq_true (decide ((k:Int)≤p.1))).symm<;>simp only[c3,EVS]
 ·simp only[ZV,Zge,EVS]
  obtain c1|c1:=(Bool.eq_false_or_eq_true (decide (w.kind=1))).symm<;>simp only[c1,EVS]
  obtain c2|c2:=(Bool.eq_false_or_eq_true (decide (w.kind=4))).symm<;>simp only[c2,EVS]
  obtain c3|c3:=(Bool.eq_false_or_eq_true (decide (w.kind=5))).symm<;>simp only[c3,ZaJ,inR,EVS]
  have h01:decide ((0:Int)=1)=false:=rfl
  have h00:decide ((0:Int)=0)=true:=rfl
  have h11:decide ((1:Int)=1)=true:=rfl
  have h10:decide ((1:Int)=0)=false:=rfl
  rcases hq:w.ins with _|⟨p,_|⟨q,r⟩⟩
  ·simp only[List.length_nil,h00,EVS]
  ·have hi:Zk (.lst ([p].map Zac)) (.int .i64 0)=some (Zac p):=rfl
   simp only[List.length_cons,List.length_nil,Nat.zero_add,h11,h10,hi,Zac,List.drop_zero,List.drop_succ_cons,EVS]
   obtain c4|c4:=(Bool.eq_false_or_eq_true (decide (p.1=(k:Int)))).symm<;>simp only[c4,h11,h10,hi,Zac,List.drop_zero,List.drop_succ_cons,EVS]
  ·have h2:decide (((r.length+1+1:Nat):Int)=0)=false:=by simp;omega
   have h3:decide (((r.length+1+1:Nat):Int)=1)=false:=by simp;omega
   simp only[List.length_cons,h2,h3,EVS]
 ·unfold ZrS
  cases ZM (fun _ p=>Zi3 n k p) 0 w.ins<;>simp only[EVS]
def Zg9 (n:PNet) (k:Nat) (w:PWire):Bool:=match n.signals[k]? with|some s=>decide (w.name=s.1)&&(decide (w.kind=1)==decide (s.2=1))|none=>false
def Zml (n:PNet) (k:Nat) (w:PWire):Bool:=
 let seen:=decide ((k:Int)<(n.signals.length:Int))
 (inR w.kind 1 5&&(seen||decide (w.kind=2)||decide (w.kind=3)))&&(!seen||Zg9 n k w)&&(if decide (w.kind=5)=true then ZpB n.signals.length w.cover else !decide ((0:Int)<w.cover.length))&&(ZaO w.name&&ZrS n k w)
theorem Zu0 (n:PNet) (k:Nat) (w:PWire) (hn:n.Fit) (hw:w.Fit):Zgt [Zo n,pI k,Zn w]=some (pB (Zml n k w)):=by
 have g1:=ZuY n.signals.length w.cover hw.cover hw.cubes
 have g2:=ZpA w.name hw.name
 have g3:=ZuZ n k w hn hw
 have g4:=ZaJ w.kind 1 5
 simp only[Zo,Zn] at g3
 show (fun x0 x1 x2=>Zgt [x0,x1,x2]) _ _ _=_
 rw[Ztv]
 simp only[Zo,Zn,g4,EVS]
 have fin:∀b:Bool,((some (pB (ZaO w.name&&b))))=(some (pB (ZaO w.name&&b))):=fun _=>rfl
 simp only[Zml,inR]
 obtain c1|c1:=(Bool.eq_false_or_eq_true (decide (1≤w.kind)&&decide (w.kind≤5))).symm<;>simp only[c1,EVS]
 obtain c2|c2:=(Bool.eq_false_or_eq_true (decide ((k:Int)<(n.signals.length:Int)))).symm<;>simp only[c2,EVS]
 ·obtain c3|c3:=(Bool.eq_false_or_eq_true (decide (w.kind=2))).symm<;>simp only[c3,EVS]
  ·obtain c4|c4:=(Bool.eq_false_or_eq_true (decide (w.kind=3))).symm<;>simp only[c4,EVS]
   have c5:decide (w.kind=5)=false:=by have:=of_decide_eq_true c4;simp;omega
   simp only[c5,EVS]
   obtain c6|c6:=(Bool.eq_false_or_eq_true (decide ((0:Int)<w.cover.length))).symm<;>simp only[c6,g2,EVS]
   obtain c7|c7:=(Bool.eq_false_or_eq_true (ZaO w.name)).symm<;>simp only[c7,g3,EVS]
  ·have c4:decide (w.kind=3)=false:=by have:=of_decide_eq_true c3;simp;omega
   have c5:decide (w.kind=5)=false:=by have:=of_decide_eq_true c3;simp;omega
   simp only[c4,c5,EVS]
   obtain c6|c6:=(Bool.eq_false_or_eq_true (decide ((0:Int)<w.cover.length))).symm<;>simp only[c6,g2,EVS]
   obtain c7|c7:=(Bool.eq_false_or_eq_true (ZaO w.name)).symm<;>simp only[c7,g3,EVS]
 ·have hk:k<n.signals.length:=by have:=of_decide_eq_true c2;omega
  have hs:n.signals[k]?=some n.signals[k]:=List.getElem?_eq_getElem hk
  have hi:Zk (.lst (n.signals.map ZD)) (.int .i64 (k:Int))=some (ZD n.signals[k]):=Zj hs
  simp only[Zg9,hs,hi,ZD,List.drop_zero,List.drop_succ_cons,EVS]
  obtain c3|c3:=(Bool.eq_false_or_eq_true (decide (w.name=n.signals[k].1))).symm<;>simp only[c3,hi,ZD,List.drop_zero,List.drop_succ_cons,EVS]
  obtain c4|c4:=(Bool.eq_false_or_eq_true (decide (w.kind=1)==decide (n.signals[k].2=1))).symm<;>simp only[bne,c4,hi,ZD,List.drop_zero,List.drop_succ_cons,EVS]
  obtain c5|c5:=(Bool.eq_false_or_eq_true (decide (w.kind=5))).symm<;>simp only[c5,g1,g2,EVS]
  ·obtain c6|c6:=(Bool.eq_false_or_eq_true (decide ((0:Int)<w.cover.length))).symm<;>simp only[c6,g2,EVS]
   obtain c7|c7:=(Bool.eq_false_or_eq_true (ZaO w.name)).symm<;>simp only[c7,g3,EVS]
  ·obtain c6|c6:=(Bool.eq_false_or_eq_true (ZpB n.signals.length w.cover)).symm<;>simp only[c5,c6,g2,EVS]
   obtain c7|c7:=(Bool.eq_false_or_eq_true (ZaO w.name)).symm<;>simp only[c5,c7,g3,EVS]
def ZbK (n:PNet) (k:Nat) (w:PWire):Bool:=Zml n k w&&ZM (fun _ v=> !decide (v.name=w.name)) 0 (n.wires.take k)
def Zdm (n:PNet):Bool:=ZkF n.signals&&(!decide ((n.wires.length:Int)<n.signals.length)&& !decide ((24:Int)<n.wires.length))&&ZM (ZbK n) 0 n.wires
theorem ZpC (x:PWire):Zal 4 (Zn x)=true:=rfl
theorem ZnP (n:PNet) (hn:n.Fit):Ze0 [Zo n]=some (pB (Zdm n)):=by
 have g1:=ZkG n.signals hn.signals hn.names
 have hwl:=hn.wires
 unfold ZA at hwl
 show (fun x0=>Ze0 [x0]) _=_
 rw[Ztw]
 simp only[Zo,g1,EVS]
 unfold Zdm
 obtain c1|c1:=(Bool.eq_false_or_eq_true (ZkF n.signals)).symm<;>simp only[c1,EVS]
 obtain c2|c2:=(Bool.eq_false_or_eq_true (decide ((n.wires.length:Int)<n.signals.length))).symm<;>simp only[c2,EVS]
 obtain c3|c3:=(Bool.eq_false_or_eq_true (decide ((24:Int)<n.wires.length))).symm<;>simp only[c3,EVS]
 refine (congrArg (Zf true) (ZN (R:=PV) n.wires (ZbK n) (some (pB false)) (some (pB true)) _ hwl (fun again k w hb=> ?_) (fun again=> ?_))).trans ?_
 ·have hk:=Ze hb
  have hi:Zk (.lst (n.wires.map Zn)) (.int .i64 (k:Int))=some (Zn w):=Zj hb
  have hc:ZlS 4 (.lst (n.wires.map Zn)) none (some (.int .i64 (k:Int)))=some (.lst ((n.wires.take k).map Zn)):=Zom ZpC (by omega)
  have g3:=Zu0 n k w hn (hn.wire w (List.mem_of_getElem? hb))
  simp only[Zo,Zn] at g3
  simp only[Zr hk,Zi hk hwl,hi,Zn,ZbK,g3,EVS]
  obtain c4|c4:=(Bool.eq_false_or_eq_true (Zml n k w)).symm<;>simp only[c4,hc,EVS]
  refine (ZN (R:=PV) (n.wires.take k) (fun _ v=> !decide (v.name=w.name)) (some (pB false)) (again [pI ((k+1:Nat):Int)]) _ (by simp;omega) (fun again' j y hy=> ?_) (fun again'=> ?_)).trans ?_
  ·have hj:=Ze hy
   have hi':Zk (.lst ((n.wires.take k).map Zn)) (.int .i64 (j:Int))=some (Zn y):=Zj hy
   simp only[Zr hj,Zi hj (by simp;omega),hi',Zn,EVS]
   obtain c5|c5:=(Bool.eq_false_or_eq_true (decide (y.name=w.name))).symm<;>simp only[c5,EVS]
  ·simp only[ZV,Zi hk hwl,EVS]
  ·rfl
 ·simp only[ZV,EVS]
 ·cases ZM (ZbK n) 0 n.wires<;>simp only[EVS]
theorem Zah (n lo hi:Int):Z7 [pI n,pI lo,pI hi]=some (pB (inR n lo hi)):=by
 show (fun x0 x1 x2=>Z7 [x0,x1,x2]) _ _ _=_
 rw[Zvj]
 unfold inR
 by_cases h:lo≤n<;>simp only[h,EVS]
def Zm9 (k:Nat) (b:UInt8):Bool:=(decide ((97:Int)≤b.toNat)&&decide ((b.toNat:Int)≤122))||(!decide ((k:Int)=0)&&(decide ((48:Int)≤b.toNat)&&decide ((b.toNat:Int)≤57)))
def ZsW (s:List UInt8):Bool:=ZM Zm9 0 s&&inR s.length 1 6
theorem ZwW (s:List UInt8) (hs:s.length≤9223372036854775807):Zen [.str s]=some (pB (ZsW s)):=by
 show (fun x0=>Zen [x0]) _=_
 rw[Zvm]
 refine (congrArg (Zf true) (ZN (R:=PV) s Zm9 (some (pB false)) (some (pB (inR s.length 1 6))) _ hs (fun again k b hb=> ?_) (fun again=> ?_))).trans ?_
 ·have hk:=Ze hb
  simp only[Zm9,Zr hk,Zi hk hs,Zq hb,EVS]
  obtain c1|c1:=(Bool.eq_false_or_eq_true (decide ((97:Int)≤b.toNat))).symm<;>simp only[c1,Zq hb,EVS]
  all_goals (obtain c2|c2:=(Bool.eq_false_or_eq_true (decide ((b.toNat:Int)≤122))).symm<;>try simp only[c2,Zq hb,EVS])
  all_goals (obtain c3|c3:=(Bool.eq_false_or_eq_true (decide ((48:Int)≤b.toNat))).symm<;>try simp only[c3,Zq hb,EVS])
  all_goals (obtain c4|c4:=(Bool.eq_false_or_eq_true (decide ((b.toNat:Int)≤57))).symm<;>try simp only[c4,Zq hb,EVS])
  all_goals (obtain c5|c5:=(Bool.eq_false_or_eq_true (decide ((k:Int)=0))).symm<;>try simp only[c5,EVS])
 ·simp only[ZV,Zah,EVS]
 ·unfold ZsW
  cases ZM Zm9 0 s<;>simp only[EVS]
theorem ZpD :∀(l:List UInt8) (k:Nat),Zk0 (k==0) l=ZM Zm9 k l
 |[],_=>rfl
 | b::r,k=>by
  have h:=ZpD r (k+1)
  have h1:(k+1==0)=false:=rfl
  rw[h1] at h
  unfold Zk0 ZM
  rw[h]
  congr 1
  unfold ZBb Zm9
  have e1:decide ((48:Int)≤b.toNat)= !decide ((b.toNat:Int)<48):=by rw[Bool.eq_iff_iff];simp
  have e2:decide ((b.toNat:Int)≤57)= !decide ((57:Int)<b.toNat):=by rw[Bool.eq_iff_iff];simp
  have e3:decide ((k:Int)=0)=(k==0):=by rw[Bool.eq_iff_iff];simp
  rw[e1,e2,e3]
theorem ZB5 (s:List UInt8):ZaO s=ZsW s:=by
 unfold ZaO ZsW inR
 rw[←ZpD s 0]
 rfl
theorem ZnQ (s:List UInt8) (hs:s.length≤9223372036854775807):Zen [.str s]=some (pB (ZaO s)):=(ZwW s hs).trans (by rw[ZB5])
def ZgH (s:List UInt8) (n:Int):Bool:=ZM (fun _ b=>ZnO b) 0 s&&(decide ((s.length:Int)=n)&&inR n 1 8)
theorem ZwX (s:List UInt8) (n:Int) (hs:s.length≤9223372036854775807):ZhZ [.str s,pI n]=some (pB (ZgH s n)):=by
 show (fun x0 x1=>ZhZ [x0,x1]) _ _=_
 rw[Zvo]
 refine (congrArg (Zf true) (ZN (R:=PV) s (fun _ b=>ZnO b) (some (pB false)) (some (pB (decide ((s.length:Int)=n)&&inR n 1 8))) _ hs (fun again k b hb=> ?_) (fun again=> ?_))).trans ?_
 ·have hk:=Ze hb
  simp only[ZnO,Zr hk,Zi hk hs,Zq hb,EVS]
  obtain c1|c1:=(Bool.eq_false_or_eq_true (decide ((b.toNat:Int)=48))).symm<;>simp only[c1,Zq hb,EVS]
  obtain c2|c2:=(Bool.eq_false_or_eq_true (decide ((b.toNat:Int)=49))).symm<;>simp only[c2,Zq hb,EVS]
  obtain c3|c3:=(Bool.eq_false_or_eq_true (decide ((b.toNat:Int)=45))).symm<;>simp only[c3,Zq hb,EVS]
 ·simp only[ZV,EVS]
  obtain c1|c1:=(Bool.eq_false_or_eq_true (decide ((s.length:Int)=n))).symm<;>simp only[c1,Zah,EVS]
 ·unfold ZgH
  cases ZM (fun _ b=>ZnO b) 0 s<;>simp only[EVS]
def ixf {α:Type} (q:α→Bool):Nat→List α→Int
 |_,[]=> -1
 |k,x::r=>if q x=true then (k:Int) else ixf q (k+1) r
theorem ZyE {α:Type} (q:α→Bool):∀(l:List α) (k:Nat),rgo (fun k x=>if q x=true then some (some (pI (k:Int))) else none) (some (pI (-1))) k l=some (pI (ixf q k l))
 |[],k=>rfl
 | x::r,k=>by
  unfold rgo ixf
  cases q x
  ·simp[ZyE q r (k+1)]
  ·simp
theorem Ze3 {α:Type} (q:α→Bool):∀(l:List α) (k:Nat),decide ((0:Int)≤ixf q k l)= !ZM (fun _ x=> !q x) k l
 |[],k=>rfl
 | x::r,k=>by
  unfold ixf ZM
  cases q x
  ·simp[Ze3 q r (k+1)]
  ·simp
theorem Zc4 {α:Type} (l:List α) (q:α→Bool) (f:(List PV→Option PV)→List PV→Option PV) (hl:l.length≤9223372036854775807)
 (h1:∀again k x,l[k]?=some x→f again [pI (Int.ofNat k)]=if q x=true then some (pI (k:Int)) else again [pI (Int.ofNat (k+1))])
 (h2:∀again,f again [pI (Int.ofNat l.length)]=some (pI (-1))):Zm f 18446744073709551616 [pI (Int.ofNat 0)]=some (pI (ixf q 0 l)):=by
 rw[Zsb l (fun k x=>if q x=true then some (some (pI (k:Int))) else none) (some (pI (-1))) f hl (fun again k x hx=> ?_) h2,ZyE]
 rw[h1 again k x hx]
 cases q x<;>simp
theorem ZnR (l:List PV):Zbu 1 (.tup [.agg l])=some [.agg l]:=by simp[Zbu,PV.parts,PV.isU]
theorem Zna (a x:List UInt8×Int):Zc8 [ZD a,ZD x]=some (pB (decide (a.1=x.1))):=by
 show (fun x0 x1=>Zc8 [x0,x1]) _ _=_
 rw[Zmz]
 simp only[ZD,List.drop_zero,EVS]
theorem Zb0 (l:List (List UInt8×Int)) (x:List UInt8×Int) (hl:ZA l):ZG [.lst (l.map ZD),.tup [ZD x]]=some (pI (ixf (fun a=>decide (a.1=x.1)) 0 l)):=by
 show (fun x0 x1=>ZG [x0,x1]) _ _=_
 rw[ZbT]
 unfold ZA at hl
 simp only[EVS]
 refine (congrArg (Zf true) (Zc4 l (fun a=>decide (a.1=x.1)) _ hl (fun again k a hb=> ?_) (fun again=> ?_))).trans ?_
 ·have hk:=Ze hb
  have hi:Zk (.lst (l.map ZD)) (.int .i64 (k:Int))=some (ZD a):=Zj hb
  have g:=Zna a x
  simp only[ZD] at g
  simp only[Zr hk,Zi hk hl,hi,ZD,ZnR,List.cons_append,List.nil_append,g,EVS]
 ·simp only[ZV,EVS]
  rfl
 ·simp only[EVS]
theorem Zbv (l:List (List UInt8×Int)) (x:List UInt8×Int) (hl:ZA l):Zx [.lst (l.map ZD),.tup [ZD x]]=some (pB (!ZM (fun _ a=> !decide (a.1=x.1)) 0 l)):=by
 show (fun x0 x1=>Zx [x0,x1]) _ _=_
 rw[Zbo]
 simp only[Zb0 l x hl,Ze3 (fun a:List UInt8×Int=>decide (a.1=x.1)) l 0,EVS]
theorem ZqR (p:Int×Bool) (n:Nat) (hn:n≤9223372036854775807):ZeD [Zac p,.agg [pI n]]=some (pB (!inR p.1 0 ((n:Int) - 1))):=by
 have hwl:IntKind.i64.wrap ((n:Int) - 1)=(n:Int) - 1:=Zaw (by omega) (by omega)
 show (fun x0 x1=>ZeD [x0,x1]) _ _=_
 rw[Zp4]
 simp only[Zac,hwl,Zah,EVS]
theorem Zc5 (l:List (Int×Bool)) (n:Nat) (hn:n≤9223372036854775807) (hl:ZA l):ZZ [.lst (l.map Zac),.tup [.agg [pI n]]]=some (pI (ixf (fun p=> !inR p.1 0 ((n:Int) - 1)) 0 l)):=by
 show (fun x0 x1=>ZZ [x0,x1]) _ _=_
 rw[ZcS]
 unfold ZA at hl
 simp only[EVS]
 refine (congrArg (Zf true) (Zc4 l (fun p=> !inR p.1 0 ((n:Int) - 1)) _ hl (fun again k a hb=> ?_) (fun again=> ?_))).trans ?_
 ·have hk:=Ze hb
  have hi:Zk (.lst (l.map Zac)) (.int .i64 (k:Int))=some (Zac a):=Zj hb
  have g:=ZqR a n hn
  simp only[Zac] at g
  simp only[Zr hk,Zi hk hl,hi,Zac,ZnR,List.cons_append,List.nil_append,g,EVS]
 ·simp only[ZV,EVS]
  rfl
 ·simp only[EVS]
def Zde (l:List (Int×Bool)) (n:Nat):Bool:=ZM (fun _ p=>inR p.1 0 ((n:Int) - 1)) 0 l
theorem ZnS (l:List (Int×Bool)) (n:Nat) (hn:n≤9223372036854775807) (hl:ZA l):ZeZ [.lst (l.map Zac),pI n]=some (pB (Zde l n)):=by
 have g:ZL [.lst (l.map Zac),.tup [.agg [pI n]]]=some (pB (!ZM (fun _ p=>inR p.1 0 ((n:Int) - 1)) 0 l)):=by
  show (fun x0 x1=>ZL [x0,x1]) _ _=_
  rw[Zcp]
  simp only[Zc5 l n hn hl,Ze3 (fun p:Int×Bool=> !inR p.1 0 ((n:Int) - 1)) l 0,Bool.not_not,EVS]
 show (fun x0 x1=>ZeZ [x0,x1]) _ _=_
 rw[Ztf]
 have lt:∀{R:Type} (l:List PV) (x:Option R),Za [.tup l] x=x:=fun l x=>(Eq.refl _).trans (Eq.refl _)
 simp only[lt,g,List.drop_zero,Bool.not_not,Zde,EVS]
theorem ZsX (w:PWire) (x:List UInt8):Zfr [Zn w,.agg [.str x]]=some (pB (decide (w.name=x))):=by
 show (fun x0 x1=>Zfr [x0,x1]) _ _=_
 rw[Zq8]
 simp only[Zn,List.drop_zero,EVS]
theorem ZwY (l:List PWire) (x:List UInt8) (hl:ZA l):ZhX [.lst (l.map Zn),.str x]=some (pI (ixf (fun w:PWire=>decide (w.name=x)) 0 l)):=by
 unfold ZA at hl
 have g:Z0 [.lst (l.map Zn),.tup [.agg [.str x]]]=some (pI (ixf (fun w:PWire=>decide (w.name=x)) 0 l)):=by
  show (fun x0 x1=>Z0 [x0,x1]) _ _=_
  rw[ZcU]
  simp only[EVS]
  refine (congrArg (Zf true) (Zc4 l (fun w:PWire=>decide (w.name=x)) _ hl (fun again k a hb=> ?_) (fun again=> ?_))).trans ?_
  ·have hk:=Ze hb
   have hi:Zk (.lst (l.map Zn)) (.int .i64 (k:Int))=some (Zn a):=Zj hb
   have g:=ZsX a x
   simp only[Zn] at g
   simp only[Zr hk,Zi hk hl,hi,Zn,ZnR,List.cons_append,List.nil_append,g,EVS]
  ·simp only[ZV,EVS]
   rfl
  ·simp only[EVS]
 show (fun x0 x1=>ZhX [x0,x1]) _ _=_
 rw[Zvl]
 have lt:∀{R:Type} (l:List PV) (x:Option R),Za [.tup l] x=x:=fun l x=>(Eq.refl _).trans (Eq.refl _)
 simp only[lt,g,List.drop_zero,Bool.not_not,EVS]
theorem Zk1 (c:List UInt8) (n:Int) (hc:ZA c):Zcd [.str c,.agg [pI n]]=some (pB (!ZgH c n)):=by
 show (fun x0 x1=>Zcd [x0,x1]) _ _=_
 rw[Zkq]
 simp only[ZwX c n hc,EVS]
theorem Zbz (l:List (List UInt8)) (n:Int) (hl:ZA l) (hc:∀c∈l,ZA c):Zz [.lst (l.map PV.str),.tup [.agg [pI n]]]=some (pI (ixf (fun c:List UInt8=> !ZgH c n) 0 l)):=by
 unfold ZA at hl
 show (fun x0 x1=>Zz [x0,x1]) _ _=_
 rw[Zby]
 simp only[EVS]
 refine (congrArg (Zf true) (Zc4 l (fun c:List UInt8=> !ZgH c n) _ hl (fun again k a hb=> ?_) (fun again=> ?_))).trans ?_
 ·have hk:=Ze hb
  have hi:Zk (.lst (l.map PV.str)) (.int .i64 (k:Int))=some (.str a):=Zj hb
  have g:=Zk1 a n (hc a (List.mem_of_getElem? hb))
  simp only[Zr hk,Zi hk hl,hi,ZnR,List.cons_append,List.nil_append,g,EVS]
 ·simp only[ZV,EVS]
  rfl
 ·simp only[EVS]
theorem eqPin (a c:Int) (b d:Bool):eqV (some [(0,TD.int .i64),(1,TD.bool)]) .struct (.agg [pI a,pB b]) (.agg [pI c,pB d])=some (decide (a=c)&&(b==d)):=by
 simp[eqV,ZoN,scEq,ZgB]
theorem ZB6 :ZC.bool.pv=pB false:=(Eq.refl _).trans (Eq.refl _)
theorem sp12 (a b c:PV):splice [a,b] 0 [c]=[c,b]:=(Eq.refl _).trans (Eq.refl _)
def ZgI (n:Int) (l:List (List UInt8)):Bool:=(inR n 1 8&&decide ((l.length:Int)≤60))&&ZM (fun _ c=>ZgH c n) 0 l
def ZfO (n:PNet) (k:Nat) (w:PWire):Bool:=
 if decide (w.kind=1)=true then decide ((w.ins.length:Int)=0)
 else if (decide (w.kind=2)||decide (w.kind=3))=true then inR w.ins.length 1 8
 else if decide (w.kind=4)=true then decide ((w.ins.length:Int)=2)
 else if decide (w.kind=5)=true then ZgI n.signals.length w.cover&&(decide ((w.ins.length:Int)=0)||(match w.ins with|[p]=>decide (p.1=(k:Int))&&(p.2==false)|_=>false))
 else false
def Zu1 (n:PNet) (k:Nat) (w:PWire):Bool:= !((!decide (w.kind=5)&&decide ((0:Int)<w.cover.length))|| !Zde w.ins n.wires.length)&&ZfO n k w
theorem ZwZ (h160:∀(n:Int) (l:List (List UInt8)),ZA l→(∀c∈l,ZA c)→ZbR [pI n,.lst (l.map PV.str)]=some (pB (ZgI n l))) (n:PNet) (k:Nat) (w:PWire) (hn:n.Fit) (hk:n.wires[k]?=some w):Zh0 [Zo n,pI k]=some (pB (Zu1 n k w)):=by
 have hw:=hn.wire w (List.mem_of_getElem? hk)
 have g1:=h160 n.signals.length w.cover hw.cover hw.cubes
 have hwl:=hn.wires
 unfold ZA at hwl
 have g2:=ZnS w.ins n.wires.length hwl hw.ins
 have hi:Zk (.lst (n.wires.map Zn)) (.int .i64 (k:Int))=some (Zn w):=Zj hk
 show (fun x0 x1=>Zh0 [x0,x1]) _ _=_
 rw[Zvq]
 simp only[Zo,hi,Zn,EVS]
 unfold Zu1
 obtain c1|c1:=(Bool.eq_false_or_eq_true (!decide (w.kind=5))).symm<;>simp only[c1,g2,EVS]
 ·obtain c2|c2:=(Bool.eq_false_or_eq_true (Zde w.ins n.wires.length)).symm<;>simp only[c1,c2,g2,EVS]
  have c5:decide (w.kind=5)=true:=by simpa using c1
  have e1:decide (w.kind=1)=false:=by have:=of_decide_eq_true c5;simp;omega
  have e2:decide (w.kind=2)=false:=by have:=of_decide_eq_true c5;simp;omega
  have e3:decide (w.kind=3)=false:=by have:=of_decide_eq_true c5;simp;omega
  have e4:decide (w.kind=4)=false:=by have:=of_decide_eq_true c5;simp;omega
  simp only[ZeQ,ZfO,e1,e2,e3,e4,c5,g1,EVS]
  obtain c3|c3:=(Bool.eq_false_or_eq_true (ZgI n.signals.length w.cover)).symm<;>simp only[c3,EVS]
  have h01:decide ((0:Int)=1)=false:=rfl
  have h00:decide ((0:Int)=0)=true:=rfl
  have h11:decide ((1:Int)=1)=true:=rfl
  have h10:decide ((1:Int)=0)=false:=rfl
  rcases hq:w.ins with _|⟨p,_|⟨q,r⟩⟩
  ·simp only[List.length_nil,h00,EVS]
  ·have hi:Zk (.lst ([p].map Zac)) (.int .i64 0)=some (Zac p):=rfl
   simp only[List.length_cons,List.length_nil,Nat.zero_add,h11,h10,hi,Zac,ZB6,sp12,eqPin,List.drop_zero,List.drop_succ_cons,EVS]
  ·have h2:decide (((r.length+1+1:Nat):Int)=0)=false:=by simp;omega
   have h3:decide (((r.length+1+1:Nat):Int)=1)=false:=by simp;omega
   simp only[List.length_cons,h2,h3,EVS]
 ·have c5:decide (w.kind=5)=false:=by simpa using c1
  obtain c2|c2:=(Bool.eq_false_or_eq_true (decide ((0:Int)<w.cover.length))).symm<;>simp only[c1,c2,g2,EVS]
  obtain c3|c3:=(Bool.eq_false_or_eq_true (Zde w.ins n.wires.length)).symm<;>simp only[c3,EVS]
  simp only[ZeQ,ZfO,c5,EVS]
  obtain e1|e1:=(Bool.eq_false_or_eq_true (decide (w.kind=1))).symm<;>simp only[e1,EVS]
  obtain e2|e2:=(Bool.eq_false_or_eq_true (decide (w.kind=2))).symm<;>simp only[e2,Zah,EVS]
  obtain e3|e3:=(Bool.eq_false_or_eq_true (decide (w.kind=3))).symm<;>simp only[e3,Zah,EVS]
  obtain e4|e4:=(Bool.eq_false_or_eq_true (decide (w.kind=4))).symm<;>simp only[e4,EVS]
theorem Znb (n:Int) (l:List (List UInt8)) (hl:ZA l) (hc:∀c∈l,ZA c):ZbR [pI n,.lst (l.map PV.str)]=some (pB (ZgI n l)):=by
 have g:Zs [.lst (l.map PV.str),.tup [.agg [pI n]]]=some (pB (!ZM (fun _ c=>ZgH c n) 0 l)):=by
  show (fun x0 x1=>Zs [x0,x1]) _ _=_
  rw[Zba]
  simp only[Zbz l n hl hc,Ze3 (fun c:List UInt8=> !ZgH c n) l 0,Bool.not_not,EVS]
 show (fun x0 x1=>ZbR [x0,x1]) _ _=_
 rw[Zmx]
 simp only[Zah,ZiL,List.drop_zero,ZgI,EVS]
 obtain c1|c1:=(Bool.eq_false_or_eq_true (inR n 1 8)).symm<;>simp only[c1,EVS]
 obtain c2|c2:=(Bool.eq_false_or_eq_true (decide ((l.length:Int)≤60))).symm<;>simp only[c2,ZiL,g,Bool.not_not,EVS]
def Znc (l:List (List UInt8×Int)) (k:Nat) (s:List UInt8×Int):Bool:=(ZaO s.1&&inR s.2 1 3)&&ZM (fun _ a=> !decide (a.1=s.1)) 0 (l.take k)
def ZrT (l:List (List UInt8×Int)):Bool:=ZM (Znc l) 0 l&&inR l.length 1 8
theorem Zi4 (l:List (List UInt8×Int)) (hl:ZA l) (hs:∀s∈l,ZA s.1):ZcV [.lst (l.map ZD)]=some (pB (ZrT l)):=by
 unfold ZA at hl
 show (fun x0=>ZcV [x0]) _=_
 rw[Zod]
 simp only[EVS]
 refine (congrArg (Zf true) (ZN (R:=PV) l (Znc l) (some (pB false)) (some (pB (inR l.length 1 8))) _ hl (fun again k s hb=> ?_) (fun again=> ?_))).trans ?_
 ·have hk:=Ze hb
  have hi:Zk (.lst (l.map ZD)) (.int .i64 (k:Int))=some (ZD s):=Zj hb
  have hc:ZlS 2 (.lst (l.map ZD)) none (some (.int .i64 (k:Int)))=some (.lst ((l.take k).map ZD)):=Zom ZrR (by omega)
  have hn:=ZnQ s.1 (hs s (List.mem_of_getElem? hb))
  have g:=Zbv (l.take k) s (by show (l.take k).length≤_;simp;omega)
  simp only[ZD] at g
  simp only[Zr hk,Zi hk hl,hi,ZD,hn,Znc,EVS]
  obtain c1|c1:=(Bool.eq_false_or_eq_true (ZaO s.1)).symm<;>simp only[c1,Zah,EVS]
  obtain c2|c2:=(Bool.eq_false_or_eq_true (inR s.2 1 3)).symm<;>simp only[c2,EVS]
  simp only[hc,List.drop_zero,ZiL,g,EVS]
  obtain c3|c3:=(Bool.eq_false_or_eq_true (ZM (fun _ (a:List UInt8×Int)=> !decide (a.1=s.1)) 0 (l.take k))).symm<;>simp only[c3,EVS]
 ·simp only[ZV,Zah,EVS]
 ·unfold ZrT
  cases ZM (Znc l) 0 l<;>simp only[EVS]
def ZfP (n:PNet) (k:Nat) (w:PWire):Bool:=
 (Zu1 n k w&&ZaO w.name&&ZM (fun _ v=> !decide (v.name=w.name)) 0 (n.wires.take k))&&
 (if decide ((k:Int)<(n.signals.length:Int))=true then Zg9 n k w else (decide (w.kind=2)||decide (w.kind=3))&&Zde w.ins k)
def netI (n:PNet):Bool:=(ZrT n.signals&&inR n.wires.length n.signals.length 24)&&ZM (ZfP n) 0 n.wires
theorem ZfQ (n:PNet) (hn:n.Fit):Za2 [Zo n]=some (pB (netI n)):=by
 have g1:=Zi4 n.signals hn.signals hn.names
 have hwl:=hn.wires
 unfold ZA at hwl
 show (fun x0=>Za2 [x0]) _=_
 rw[Zkr]
 simp only[Zo,g1,EVS]
 unfold netI
 obtain c1|c1:=(Bool.eq_false_or_eq_true (ZrT n.signals)).symm<;>simp only[c1,Zah,EVS]
 obtain c2|c2:=(Bool.eq_false_or_eq_true (inR n.wires.length n.signals.length 24)).symm<;>simp only[c2,EVS]
 refine (congrArg (Zf true) (ZN (R:=PV) n.wires (ZfP n) (some (pB false)) (some (pB true)) _ hwl (fun again k w hb=> ?_) (fun again=> ?_))).trans ?_
 ·have hk:=Ze hb
  have hw:=hn.wire w (List.mem_of_getElem? hb)
  have hi:Zk (.lst (n.wires.map Zn)) (.int .i64 (k:Int))=some (Zn w):=Zj hb
  have hc:ZlS 4 (.lst (n.wires.map Zn)) none (some (.int .i64 (k:Int)))=some (.lst ((n.wires.take k).map Zn)):=Zom ZpC (by omega)
  have g2:=ZwZ Znb n k w hn hb
  have g3:=ZnQ w.name hw.name
  have g4:=ZwY (n.wires.take k) w.name (by show (n.wires.take k).length≤_;simp;omega)
  have g5:=ZnS w.ins k (by omega) hw.ins
  simp only[Zo] at g2
  simp only[Zr hk,Zi hk hwl,hi,Zn,ZfP,g2,EVS]
  obtain c1|c1:=(Bool.eq_false_or_eq_true (Zu1 n k w)).symm<;>simp only[c1,g3,EVS]
  obtain c2|c2:=(Bool.eq_false_or_eq_true (ZaO w.name)).symm<;>simp only[c2,hc,g4,EVS]
  simp only[Ze3 (fun v:PWire=>decide (v.name=w.name)) (n.wires.take k) 0]
  obtain c3|c3:=(Bool.eq_false_or_eq_true (ZM (fun _ (v:PWire)=> !decide (v.name=w.name)) 0 (n.wires.take k))).symm<;>simp only[c3,ZeQ,EVS]
  obtain c4|c4:=(Bool.eq_false_or_eq_true (decide ((k:Int)<(n.signals.length:Int)))).symm<;>simp only[c4,EVS]
  ·obtain c5|c5:=(Bool.eq_false_or_eq_true (decide (w.kind=2))).symm<;>simp only[c5,g5,EVS]
   ·obtain c6|c6:=(Bool.eq_false_or_eq_true (decide (w.kind=3))).symm<;>simp only[c6,g5,EVS]
    obtain c7|c7:=(Bool.eq_false_or_eq_true (Zde w.ins k)).symm<;>simp only[c7,Zi hk hwl,EVS]
   ·obtain c7|c7:=(Bool.eq_false_or_eq_true (Zde w.ins k)).symm<;>simp only[c7,Zi hk hwl,EVS]
  ·have hks:k<n.signals.length:=by have:=of_decide_eq_true c4;omega
   have hs:n.signals[k]?=some n.signals[k]:=List.getElem?_eq_getElem hks
   have hi2:Zk (.lst (n.signals.map ZD)) (.int .i64 (k:Int))=some (ZD n.signals[k]):=Zj hs
   simp only[Zg9,hs,hi2,ZD,List.drop_zero,List.drop_succ_cons,EVS]
   obtain c5|c5:=(Bool.eq_false_or_eq_true (decide (w.name=n.signals[k].1))).symm<;>simp only[c5,hi2,ZD,List.drop_zero,List.drop_succ_cons,EVS]
   obtain c6|c6:=(Bool.eq_false_or_eq_true (decide (w.kind=1)==decide (n.signals[k].2=1))).symm<;>simp only[bne,c6,Zi hk hwl,EVS]
 ·simp only[ZV,EVS]
 ·cases ZM (ZfP n) 0 n.wires<;>simp only[EVS]
theorem Zaj {α:Type} (q:α→Bool):∀(l:List α) (k:Nat),ZM (fun _ x=>q x) k l=l.all q
 |[],_=>rfl
 |x::r,k=>by unfold ZM;rw[Zaj q r (k+1),List.all_cons]
theorem Zek {α:Type} (f g:Nat→α→Bool) (h:∀k x,f k x=g k x):∀(l:List α) (k:Nat),ZM f k l=ZM g k l
 |[],_=>rfl
 |x::r,k=>by unfold ZM;rw[h k x,Zek f g h r (k+1)]
theorem ZyF (l:List (List UInt8×Int)):ZkF l=ZrT l:=by
 unfold ZkF ZrT
 rw[Zek (ZrQ l) (Znc l) (fun k x=> ?_) l 0]
 unfold ZrQ Znc
 rw[Zek (fun _ (y:List UInt8×Int)=> !decide (x.1=y.1)) (fun _ (y:List UInt8×Int)=> !decide (y.1=x.1)) (fun _ y=>by simp[eq_comm]) _ 0]
theorem ZBc (n:Int) (l:List (List UInt8)):ZpB n l=ZgI n l:=by
 unfold ZpB ZgI Zox
 rw[Bool.and_comm,Bool.eq_iff_iff]
 simp only[Bool.and_eq_true]
 refine and_congr_right fun h=> ?_
 rw[Zek (fun _ c=>Zmk c&&decide ((c.length:Int)=n)) (fun _ c=>ZgH c n) (fun _ c=> ?_) l 0]
 unfold Zmk ZgH inR
 rw[Bool.eq_iff_iff]
 simp only[Bool.and_eq_true,decide_eq_true_eq]
 constructor
 ·rintro ⟨⟨h1,h2,h3⟩,h4⟩
  exact ⟨h1,h4,by omega,by omega⟩
 ·rintro ⟨h1,h2,h3,h4⟩
  exact ⟨⟨h1,by omega,by omega⟩,h2⟩
theorem Zzw (n:PNet) (k:Nat) (l:List (Int×Bool)) (h:k<n.signals.length):ZM (fun _ p=>Zi3 n k p) 0 l=Zde l n.wires.length:=by
 unfold Zde
 refine Zek _ _ (fun _ p=> ?_) l 0
 unfold Zi3
 have:decide ((n.signals.length:Int)≤k)=false:=by simp;omega
 rw[this]
 simp
theorem Zzx (n:PNet) (k:Nat) (l:List (Int×Bool)) (h:¬k<n.signals.length):ZM (fun _ p=>Zi3 n k p) 0 l=(Zde l n.wires.length&&Zde l k):=by
 unfold Zde
 rw[Zaj,Zaj,Zaj,Bool.eq_iff_iff]
 have:decide ((n.signals.length:Int)≤k)=true:=by simp;omega
 simp only[Bool.and_eq_true,List.all_eq_true,Zi3,inR,this,Bool.true_and,Bool.not_eq_true',decide_eq_true_eq,decide_eq_false_iff_not]
 constructor
 ·intro h
  exact ⟨fun p hp=>(h p hp).1,fun p hp=>⟨(h p hp).1.1,by have:=(h p hp).2;omega⟩⟩
 ·rintro ⟨h1,h2⟩ p hp
  exact ⟨h1 p hp,by have:=(h2 p hp).2;omega⟩
theorem ZB8 (n:PNet) (k:Nat) (w:PWire):(inR w.kind 1 5&&((if decide (w.kind=5)=true then ZgI n.signals.length w.cover else !decide ((0:Int)<w.cover.length))&&Zge k w.kind w.ins))=(!(!decide (w.kind=5)&&decide ((0:Int)<w.cover.length))&&ZfO n k w):=by
 unfold Zge ZfO
 by_cases h1:w.kind=1
 ·simp[h1,inR]
 by_cases h2:w.kind=2
 ·simp[h2,inR]
 by_cases h3:w.kind=3
 ·simp[h3,inR]
 by_cases h4:w.kind=4
 ·simp[h4,inR]
 by_cases h5:w.kind=5
 ·obtain ⟨nm,kd,ins,cov⟩:=w
  simp only at h5
  rcases ins with _|⟨p,_|⟨q,r⟩⟩<;>simp[h5,inR]
 ·have:inR w.kind 1 5=false:=by
   unfold inR
   simp only[Bool.and_eq_false_iff,decide_eq_false_iff_not]
   omega
  simp[this,h1,h2,h3,h4,h5]
theorem ZB9 (n:PNet) (k:Nat) (w:PWire):ZbK n k w=ZfP n k w:=by
 unfold ZbK ZfP Zml Zu1 ZrS
 have hf:=ZB8 n k w
 rw[ZBc]
 by_cases hk:k<n.signals.length
 ·have hd:decide ((k:Int)<(n.signals.length:Int))=true:=by simpa using hk
  rw[Zzw n k w.ins hk]
  simp only[hd,if_true,Bool.true_or,Bool.not_true,Bool.false_or,Bool.not_false,Bool.false_eq_true,if_false,Bool.true_and]
  revert hf
  generalize inR w.kind 1 5=a1
  generalize (if decide (w.kind=5)=true then ZgI (↑n.signals.length) w.cover else !decide ((0:Int)<↑w.cover.length))=a2
  generalize Zge k w.kind w.ins=a3
  generalize (!decide (w.kind=5)&&decide ((0:Int)<w.cover.length))=a4
  generalize ZfO n k w=a5
  generalize Zde w.ins n.wires.length=a6
  generalize Zg9 n k w=a7
  generalize ZaO w.name=a8
  generalize ZM (fun _ (v:PWire)=> !decide (v.name=w.name)) 0 (n.wires.take k)=a9
  cases a1<;>cases a2<;>cases a3<;>cases a4<;>cases a5<;>cases a6<;>cases a7<;>cases a8<;>cases a9<;>decide
 ·have hd:decide ((k:Int)<(n.signals.length:Int))=false:=by simpa using hk
  rw[Zzx n k w.ins hk]
  simp only[hd,if_true,Bool.true_or,Bool.not_true,Bool.false_or,Bool.not_false,Bool.false_eq_true,if_false,Bool.true_and]
  revert hf
  generalize inR w.kind 1 5=a1
  generalize (if decide (w.kind=5)=true then ZgI (↑n.signals.length) w.cover else !decide ((0:Int)<↑w.cover.length))=a2
  generalize Zge k w.kind w.ins=a3
  generalize (!decide (w.kind=5)&&decide ((0:Int)<w.cover.length))=a4
  generalize ZfO n k w=a5
  generalize Zde w.ins n.wires.length=a6
  generalize ZaO w.name=a8
  generalize Zde w.ins k=a7
  generalize decide (w.kind=2)=b2
  generalize decide (w.kind=3)=b3
  generalize ZM (fun _ (v:PWire)=> !decide (v.name=w.name)) 0 (n.wires.take k)=a9
  cases a1<;>cases a2<;>cases a3<;>cases a4<;>cases a5<;>cases a6<;>cases a7<;>cases a8<;>cases a9<;>cases b2<;>cases b3<;>decide
theorem ZBd (n:PNet):Zdm n=netI n:=by
 unfold Zdm netI
 rw[ZyF,Zek (ZbK n) (ZfP n) (fun k x=>ZB9 n k x) n.wires 0]
 congr 2
 unfold inR
 rw[Bool.eq_iff_iff]
 simp
def ZfR (b:UInt8):Bool:=decide ((b.toNat:Int)=48)||decide ((b.toNat:Int)=49)
def Z1 (s:List UInt8) (n:Int):Bool:=ZM (fun _ b=>ZfR b) 0 s&&decide ((s.length:Int)=n)
theorem ZpE (s:List UInt8) (n:Int) (hs:ZA s):ZfY [.str s,pI n]=some (pB (Z1 s n)):=by
 unfold ZA at hs
 show (fun x0 x1=>ZfY [x0,x1]) _ _=_
 rw[ZvN]
 refine (congrArg (Zf true) (ZN (R:=PV) s (fun _ b=>ZfR b) (some (pB false)) (some (pB (decide ((s.length:Int)=n)))) _ hs (fun again k b hb=> ?_) (fun again=> ?_))).trans ?_
 ·have hk:=Ze hb
  simp only[ZfR,Zr hk,Zi hk hs,Zq hb,EVS]
  obtain c1|c1:=(Bool.eq_false_or_eq_true (decide ((b.toNat:Int)=48))).symm<;>simp only[c1,Zq hb,EVS]
  obtain c2|c2:=(Bool.eq_false_or_eq_true (decide ((b.toNat:Int)=49))).symm<;>simp only[c2,Zq hb,EVS]
 ·simp only[ZV,EVS]
 ·unfold Z1
  cases ZM (fun _ b=>ZfR b) 0 s<;>simp only[EVS]
theorem ZpF (s:List UInt8) (n:Int) (hs:ZA s):ZfW [.str s,pI n]=some (pB (Z1 s n)):=by
 unfold ZA at hs
 show (fun x0 x1=>ZfW [x0,x1]) _ _=_
 rw[Zvt]
 refine (congrArg (Zf true) (ZN (R:=PV) s (fun _ b=>ZfR b) (some (pB false)) (some (pB (decide ((s.length:Int)=n)))) _ hs (fun again k b hb=> ?_) (fun again=> ?_))).trans ?_
 ·have hk:=Ze hb
  simp only[ZfR,Zr hk,Zi hk hs,Zq hb,EVS]
  obtain c1|c1:=(Bool.eq_false_or_eq_true (decide ((b.toNat:Int)=48))).symm<;>simp only[c1,Zq hb,EVS]
  obtain c2|c2:=(Bool.eq_false_or_eq_true (decide ((b.toNat:Int)=49))).symm<;>simp only[c2,Zq hb,EVS]
 ·simp only[ZV,EVS]
 ·unfold Z1
  cases ZM (fun _ b=>ZfR b) 0 s<;>simp only[EVS]
def Zfk (n:PNet) (s:List UInt8):Bool:=Zdm n&&Z1 s n.wires.length
def Zcu (p:Int×Bool) (s:List UInt8):Bool:=match s[p.1.toNat]? with|some b=>decide ((b.toNat:Int)=49) !=p.2|none=>false
theorem ZBe {p:Int×Bool} {s:List UInt8} (h0:0≤p.1) (h1:p.1<s.length):∃b:UInt8,s[p.1.toNat]?=some b∧Zao (.str s) (pI p.1)=some (pU b):=by
 have h2:p.1.toNat<s.length:=by omega
 refine ⟨s[p.1.toNat],List.getElem?_eq_getElem h2, ?_⟩
 have:=Zq (k:=.i64) (List.getElem?_eq_getElem h2)
 rw[Int.toNat_of_nonneg h0] at this
 exact this
theorem Zk2 (p:Int×Bool) (s:List UInt8) (h0:0≤p.1) (h1:p.1<s.length):Zev [Zac p,.str s]=some (pB (Zcu p s)):=by
 obtain ⟨b,hb,hv⟩:=ZBe h0 h1
 show (fun x0 x1=>Zev [x0,x1]) _ _=_
 rw[ZvT]
 simp only[Zac,hv,Zcu,hb,bne,EVS]
theorem Zfl (p:Int×Bool) (s:List UInt8) (h0:0≤p.1) (h1:p.1<s.length):Zcf [Zac p,.str s]=some (pB (Zcu p s)):=by
 obtain ⟨b,hb,hv⟩:=ZBe h0 h1
 show (fun x0 x1=>Zcf [x0,x1]) _ _=_
 rw[Zro]
 simp only[Zac,hv,Zcu,hb,bne,EVS]
def Zw0 (code:List UInt8) (k:Nat) (b:UInt8):Bool:=decide ((b.toNat:Int)=45)||(match code[k]? with|some c=>decide ((b.toNat:Int)=c.toNat)|none=>false)
def Zn5 (cube code:List UInt8):Bool:=ZM (Zw0 code) 0 cube
theorem Zw1 (cube code:List UInt8) (hs:ZA cube) (hl:cube.length≤code.length):Zin [.str cube,.str code]=some (pB (Zn5 cube code)):=by
 unfold ZA at hs
 show (fun x0 x1=>Zin [x0,x1]) _ _=_
 rw[ZvV]
 refine (congrArg (Zf true) (ZN (R:=PV) cube (Zw0 code) (some (pB false)) (some (pB true)) _ hs (fun again k b hb=> ?_) (fun again=> ?_))).trans ?_
 ·have hk:=Ze hb
  have hc:code[k]?=some code[k]:=List.getElem?_eq_getElem (by omega)
  simp only[Zw0,hc,Zr hk,Zi hk hs,Zq hb,Zq hc,EVS]
  obtain c1|c1:=(Bool.eq_false_or_eq_true (decide ((b.toNat:Int)=45))).symm<;>simp only[c1,Zq hb,Zq hc,EVS]
  obtain c2|c2:=(Bool.eq_false_or_eq_true (decide ((b.toNat:Int)=(code[k].toNat:Int)))).symm<;>simp only[c2,EVS]
 ·simp only[ZV,EVS]
 ·unfold Zn5
  cases ZM (Zw0 code) 0 cube<;>simp only[EVS]
theorem ZsY (cube code:List UInt8) (hs:ZA cube) (hl:cube.length≤code.length):Zfo [.str cube,.str code]=some (pB (Zn5 cube code)):=by
 unfold ZA at hs
 show (fun x0 x1=>Zfo [x0,x1]) _ _=_
 rw[Zq3]
 simp only[EVS]
 refine (congrArg (Zf true) (ZN (R:=PV) cube (Zw0 code) (some (pB false)) (some (pB true)) _ hs (fun again k b hb=> ?_) (fun again=> ?_))).trans ?_
 ·have hk:=Ze hb
  have hc:code[k]?=some code[k]:=List.getElem?_eq_getElem (by omega)
  simp only[Zw0,hc,Zr hk,Zi hk hs,Zq hb,Zq hc,EVS]
  obtain c1|c1:=(Bool.eq_false_or_eq_true (decide ((b.toNat:Int)=45))).symm<;>simp only[c1,Zq hb,Zq hc,EVS]
  obtain c2|c2:=(Bool.eq_false_or_eq_true (decide ((b.toNat:Int)=(code[k].toNat:Int)))).symm<;>simp only[c2,EVS]
 ·simp only[ZV,EVS]
 ·unfold Zn5
  cases ZM (Zw0 code) 0 cube<;>simp only[EVS]
def inP (l:List (List UInt8)) (code:List UInt8):Bool:= !ZM (fun _ c=> !Zn5 c code) 0 l
theorem Zzy (l:List (List UInt8)) (code:List UInt8) (hl:ZA l) (hc:∀c∈l,ZA c∧c.length≤code.length):Zj8 [.lst (l.map PV.str),.str code]=some (pB (inP l code)):=by
 unfold ZA at hl
 show (fun x0 x1=>Zj8 [x0,x1]) _ _=_
 rw[ZxA]
 simp only[EVS]
 refine (congrArg (Zf true) (ZN (R:=PV) l (fun _ c=> !Zn5 c code) (some (pB true)) (some (pB false)) _ hl (fun again k s hb=> ?_) (fun again=> ?_))).trans ?_
 ·have hk:=Ze hb
  have hi:Zk (.lst (l.map PV.str)) (.int .i64 (k:Int))=some (.str s):=Zj hb
  have hh:=hc s (List.mem_of_getElem? hb)
  have g:=Zw1 s code hh.1 hh.2
  simp only[Zr hk,Zi hk hl,hi,g,EVS]
  obtain c1|c1:=(Bool.eq_false_or_eq_true (Zn5 s code)).symm<;>simp only[c1,EVS]
 ·simp only[ZV,EVS]
 ·unfold inP
  cases ZM (fun _ c=> !Zn5 c code) 0 l<;>simp only[EVS]
theorem Zw2 (l:List (List UInt8)) (code:List UInt8) (hl:ZA l) (hc:∀c∈l,ZA c∧c.length≤code.length):ZhQ [.lst (l.map PV.str),.str code]=some (pB (inP l code)):=by
 have g0:ZP [.lst (l.map PV.str),.tup [.agg [.str code]]]=some (pI (ixf (fun c:List UInt8=>Zn5 c code) 0 l)):=by
  unfold ZA at hl
  show (fun x0 x1=>ZP [x0,x1]) _ _=_
  rw[ZcA]
  simp only[EVS]
  refine (congrArg (Zf true) (Zc4 l (fun c:List UInt8=>Zn5 c code) _ hl (fun again k a hb=> ?_) (fun again=> ?_))).trans ?_
  ·have hk:=Ze hb
   have hi:Zk (.lst (l.map PV.str)) (.int .i64 (k:Int))=some (.str a):=Zj hb
   have hh:=hc a (List.mem_of_getElem? hb)
   have g:Zfp [.str a,.agg [.str code]]=some (pB (Zn5 a code)):=by
    show (fun x0 x1=>Zfp [x0,x1]) _ _=_
    rw[Zq5]
    simp only[ZsY a code hh.1 hh.2,EVS]
   simp only[Zr hk,Zi hk hl,hi,ZnR,List.cons_append,List.nil_append,g,EVS]
  ·simp only[ZV,EVS]
   rfl
  ·simp only[EVS]
 have g1:ZH [.lst (l.map PV.str),.tup [.agg [.str code]]]=some (pB (inP l code)):=by
  show (fun x0 x1=>ZH [x0,x1]) _ _=_
  rw[Zb4]
  simp only[g0,inP,Ze3 (fun c:List UInt8=>Zn5 c code) l 0,EVS]
 show (fun x0 x1=>ZhQ [x0,x1]) _ _=_
 rw[Zvf]
 simp only[ZiL,List.drop_zero,g1,EVS]
def Zw3 (l:List (Int×Bool)) (s:List UInt8):Prop:=∀p∈l,0≤p.1∧p.1<s.length
theorem Zcm (l:List (Int×Bool)) (s:List UInt8) (hl:ZA l) (hp:Zw3 l s):ZI [.lst (l.map Zac),.tup [.agg [.str s]]]=some (pB (!ZM (fun _ p=>Zcu p s) 0 l)):=by
 have g0:ZT [.lst (l.map Zac),.tup [.agg [.str s]]]=some (pI (ixf (fun p:Int×Bool=> !Zcu p s) 0 l)):=by
  unfold ZA at hl
  show (fun x0 x1=>ZT [x0,x1]) _ _=_
  rw[ZcI]
  simp only[EVS]
  refine (congrArg (Zf true) (Zc4 l (fun p:Int×Bool=> !Zcu p s) _ hl (fun again k a hb=> ?_) (fun again=> ?_))).trans ?_
  ·have hk:=Ze hb
   have hi:Zk (.lst (l.map Zac)) (.int .i64 (k:Int))=some (Zac a):=Zj hb
   have hh:=hp a (List.mem_of_getElem? hb)
   have g:=Zfl a s hh.1 hh.2
   simp only[Zac] at g
   have g':Zd8 [Zac a,.agg [.str s]]=some (pB (!Zcu a s)):=by
    show (fun x0 x1=>Zd8 [x0,x1]) _ _=_
    rw[Zoi]
    simp only[Zac,g,EVS]
   simp only[Zac] at g'
   simp only[Zr hk,Zi hk hl,hi,Zac,ZnR,List.cons_append,List.nil_append,g',EVS]
  ·simp only[ZV,EVS]
   rfl
  ·simp only[EVS]
 show (fun x0 x1=>ZI [x0,x1]) _ _=_
 rw[Zch]
 simp only[g0,Ze3 (fun p:Int×Bool=> !Zcu p s) l 0,Bool.not_not,EVS]
theorem Zcn (l:List (Int×Bool)) (s:List UInt8) (hl:ZA l) (hp:Zw3 l s):ZJ [.lst (l.map Zac),.tup [.agg [.str s]]]=some (pB (!ZM (fun _ p=> !Zcu p s) 0 l)):=by
 have g0:ZU [.lst (l.map Zac),.tup [.agg [.str s]]]=some (pI (ixf (fun p:Int×Bool=>Zcu p s) 0 l)):=by
  unfold ZA at hl
  show (fun x0 x1=>ZU [x0,x1]) _ _=_
  rw[ZcK]
  simp only[EVS]
  refine (congrArg (Zf true) (Zc4 l (fun p:Int×Bool=>Zcu p s) _ hl (fun again k a hb=> ?_) (fun again=> ?_))).trans ?_
  ·have hk:=Ze hb
   have hi:Zk (.lst (l.map Zac)) (.int .i64 (k:Int))=some (Zac a):=Zj hb
   have hh:=hp a (List.mem_of_getElem? hb)
   have g:=Zfl a s hh.1 hh.2
   simp only[Zac] at g
   have g':Zd9 [Zac a,.agg [.str s]]=some (pB (Zcu a s)):=by
    show (fun x0 x1=>Zd9 [x0,x1]) _ _=_
    rw[Zok]
    simp only[Zac,g,EVS]
   simp only[Zac] at g'
   simp only[Zr hk,Zi hk hl,hi,Zac,ZnR,List.cons_append,List.nil_append,g',EVS]
  ·simp only[ZV,EVS]
   rfl
  ·simp only[EVS]
 show (fun x0 x1=>ZJ [x0,x1]) _ _=_
 rw[Zcj]
 simp only[g0,Ze3 (fun p:Int×Bool=>Zcu p s) l 0,EVS]
def Zha (s:List UInt8) (k:Nat):Bool:=match s[k]? with|some b=>decide ((b.toNat:Int)=49)|none=>false
def ZyG (n:PNet) (s:List UInt8) (k:Nat) (w:PWire):Bool:=
 if decide (w.kind=5)=true then inP w.cover (s.take n.signals.length)
 else if decide (w.kind=4)=true then (match w.ins with|[p,q]=>if (Zcu p s !=Zcu q s)=true then Zcu p s else Zha s k|_=>Zha s k)
 else Zha s k
def ZfS (n:PNet) (s:List UInt8) (k:Nat) (w:PWire):Bool:=
 if decide (w.kind=2)=true then ZM (fun _ p=>Zcu p s) 0 w.ins
 else if decide (w.kind=3)=true then !ZM (fun _ p=> !Zcu p s) 0 w.ins
 else ZyG n s k w
theorem ZpG (s:List UInt8) (k:Nat) (h:k≤s.length):Ziy (.str s) none (some (pI (k:Int)))=some (.str (s.take k)):=by
 have:(0:Int)≤(k:Int)∧(k:Int)≤(s.length:Int):=by omega
 simp[Ziy,ZlR,ZqF,this]
structure At (n:PNet) (s:List UInt8) (k:Nat) (w:PWire):Prop where
 fit:n.Fit
 here:n.wires[k]?=some w
 wire:w.Fit
 fits:ZA s
 lt:k<s.length
 sig:n.signals.length≤s.length
 pins:Zw3 w.ins s
 cubes:w.kind=5→∀c∈w.cover,c.length≤n.signals.length
 two:w.kind=4→w.ins.length=2
theorem loop3 {l:List (Int×Bool)} (s:List UInt8) (E:Bool→Bool→Bool) (f:(List PV→Option PV)→List PV→Option PV) (hl:l.length≤9223372036854775807)
 (h1:∀again (a b:Bool) (k:Nat) x,l[k]?=some x→f again [pB a,pB b,pI (k:Int)]=again [pB (a&&Zcu x s),pB (b||Zcu x s),pI ((k+1:Nat):Int)])
 (h2:∀again (a b:Bool) (k:Nat),¬k<l.length→f again [pB a,pB b,pI (k:Int)]=some (pB (E a b))):
 Zm f 18446744073709551616 [pB true,pB false,pI (0:Int)]=some (pB (E (ZM (fun _ p=>Zcu p s) 0 l) (!ZM (fun _ p=> !Zcu p s) 0 l))):=by
 have key:=ZaP (R:=PV) (fun t:Bool×Bool×Nat=>[pB t.1,pB t.2.1,pI (t.2.2:Int)]) (fun t=>l.length+1 - t.2.2) (fun t=>some (pB (E (t.1&&(l.drop t.2.2).all fun p=>Zcu p s) (t.2.1|| !(l.drop t.2.2).all fun p=> !Zcu p s)))) f (fun again t ih=> ?_) 18446744073709551616 (true,false,0) (by simp only;omega)
 ·simp only[Bool.true_and,Bool.false_or,List.drop_zero] at key
  rw[Zaj,Zaj]
  exact key
 ·obtain ⟨a,b,k⟩:=t
  dsimp only at ih⊢
  by_cases hk:k<l.length
  ·have hx:l[k]?=some l[k]:=List.getElem?_eq_getElem hk
   rw[h1 again a b k _ hx,ih (_,_,k+1) (by simp only;omega),List.drop_eq_getElem_cons hk]
   simp only[List.all_cons,Bool.and_assoc]
   cases Zcu l[k] s<;>simp
  ·rw[h2 again a b k hk,List.drop_eq_nil_of_le (by omega)]
   simp
theorem ZnT (n:PNet) (s:List UInt8) (k:Nat) (w:PWire) (h:At n s k w):Ze1 [Zo n,.str s,pI k]=some (pB (ZfS n s k w)):=by
 have hi:Zk (.lst (n.wires.map Zn)) (.int .i64 (k:Int))=some (Zn w):=Zj h.here
 have hil:=h.wire.ins
 unfold ZA at hil
 show (fun x0 x1 x2=>Ze1 [x0,x1,x2]) _ _ _=_
 rw[Ztx]
 simp only[Zo,hi,Zn,EVS]
 refine (congrArg (Zf true) (loop3 (l:=w.ins) s (fun a b=>if decide (w.kind=2)=true then a else if decide (w.kind=3)=true then b else ZyG n s k w) _ hil (fun again a b j p hb=> ?_) (fun again a b j hj=> ?_))).trans ?_
 ·have hk:=Ze hb
  have hi2:Zk (.lst (w.ins.map Zac)) (.int .i64 (j:Int))=some (Zac p):=Zj hb
  have hp:=h.pins p (List.mem_of_getElem? hb)
  have g:=Zk2 p s hp.1 hp.2
  simp only[Zac] at g
  simp only[Zr hk,Zi hk hil,hi2,Zac,g,EVS]
  cases a<;>cases b<;>simp only[EVS]
 ·have hlt:decide ((j:Int)<(w.ins.length:Int))=false:=by simp;omega
  simp only[hlt,EVS]
  obtain c1|c1:=(Bool.eq_false_or_eq_true (decide (w.kind=2))).symm<;>simp only[c1,EVS]
  obtain c2|c2:=(Bool.eq_false_or_eq_true (decide (w.kind=3))).symm<;>simp only[c2,EVS]
  have hone:Zha s k=decide ((s[k]'h.lt).toNat=(49:Int)):=by unfold Zha;rw[List.getElem?_eq_getElem h.lt]
  have hbv:Zao (.str s) (.int .i64 (k:Int))=some (pU (s[k]'h.lt)):=Zq (List.getElem?_eq_getElem h.lt)
  unfold ZyG
  obtain c5|c5:=(Bool.eq_false_or_eq_true (decide (w.kind=5))).symm<;>simp only[c5,EVS]
  ·obtain c4|c4:=(Bool.eq_false_or_eq_true (decide (w.kind=4))).symm<;>simp only[c4,ZeQ,hbv,hone,EVS]
   have h2:=h.two (of_decide_eq_true c4)
   have hpins:=h.pins
   revert h2 hpins
   rcases w.ins with _|⟨p,_|⟨q,_|⟨r,t⟩⟩⟩
   ·intro h2;simp at h2
   ·intro h2;simp at h2
   ·intro _ hpins
    have i0:Zk (.lst ([p,q].map Zac)) (.int .i64 0)=some (Zac p):=rfl
    have i1:Zk (.lst ([p,q].map Zac)) (.int .i64 1)=some (Zac q):=rfl
    have hp:=hpins p (by simp)
    have hq:=hpins q (by simp)
    have g1:=Zk2 p s hp.1 hp.2
    have g2:=Zk2 q s hq.1 hq.2
    simp only[Zac] at g1 g2
    simp only[i0,i1,Zac,g1,g2,EVS]
    cases Zcu p s<;>cases Zcu q s<;>simp[bne,hbv,ZxX]
   ·intro h2;simp at h2
  ·have hc:=Zzy w.cover (s.take n.signals.length) h.wire.cover (fun c hc=>⟨h.wire.cubes c hc,by have:=h.cubes (of_decide_eq_true c5) c hc;have:=h.sig;simp;omega⟩)
   simp only[ZpG s _ h.sig,hc,EVS]
 ·simp only[ZfS,EVS]
theorem Zmm (n:PNet) (s:List UInt8) (k:Nat) (w:PWire) (h:At n s k w):Zd1 [Zo n,.str s,pI k]=some (pB (ZfS n s k w)):=by
 have hi:Zk (.lst (n.wires.map Zn)) (.int .i64 (k:Int))=some (Zn w):=Zj h.here
 have g2:=Zcm w.ins s h.wire.ins h.pins
 have g3:=Zcn w.ins s h.wire.ins h.pins
 have hone:Zha s k=decide ((s[k]'h.lt).toNat=(49:Int)):=by unfold Zha;rw[List.getElem?_eq_getElem h.lt]
 have hbv:Zao (.str s) (.int .i64 (k:Int))=some (pU (s[k]'h.lt)):=Zq (List.getElem?_eq_getElem h.lt)
 show (fun x0 x1 x2=>Zd1 [x0,x1,x2]) _ _ _=_
 rw[Zq6]
 simp only[Zo,hi,Zn,EVS]
 unfold ZfS
 obtain c2|c2:=(Bool.eq_false_or_eq_true (decide (w.kind=2))).symm<;>simp only[c2,ZiL,List.drop_zero,g2,Bool.not_not,EVS]
 obtain c3|c3:=(Bool.eq_false_or_eq_true (decide (w.kind=3))).symm<;>simp only[c3,ZiL,List.drop_zero,g3,Bool.not_not,EVS]
 unfold ZyG
 obtain c4|c4:=(Bool.eq_false_or_eq_true (decide (w.kind=4))).symm<;>simp only[c4,ZeQ,EVS]
 ·obtain c5|c5:=(Bool.eq_false_or_eq_true (decide (w.kind=5))).symm<;>simp only[c5,hbv,hone,EVS]
  have hc:=Zw2 w.cover (s.take n.signals.length) h.wire.cover (fun c hc=>⟨h.wire.cubes c hc,by have:=h.cubes (of_decide_eq_true c5) c hc;have:=h.sig;simp;omega⟩)
  simp only[ZpG s _ h.sig,hc,EVS]
 ·have c5:decide (w.kind=5)=false:=by have:=of_decide_eq_true c4;simp;omega
  have h2:=h.two (of_decide_eq_true c4)
  have hpins:=h.pins
  simp only[c5,hone,EVS]
  revert h2 hpins
  rcases w.ins with _|⟨p,_|⟨q,_|⟨r,t⟩⟩⟩
  ·intro h2;simp at h2
  ·intro h2;simp at h2
  ·intro _ hpins
   have i0:Zk (.lst ([p,q].map Zac)) (.int .i64 0)=some (Zac p):=rfl
   have i1:Zk (.lst ([p,q].map Zac)) (.int .i64 1)=some (Zac q):=rfl
   have hp:=hpins p (by simp)
   have hq:=hpins q (by simp)
   have g1:=Zfl p s hp.1 hp.2
   have g2:=Zfl q s hq.1 hq.2
   simp only[Zac] at g1 g2
   simp only[i0,i1,Zac,g1,g2,EVS]
   cases Zcu p s<;>cases Zcu q s<;>simp[bne,hbv,ZxX,Zsa]
  ·intro h2;simp at h2
theorem ZjV {α:Type} (q:Nat→α→Bool):∀(l:List α) (j:Nat),ZM q j l=true→∀(i:Nat) (x:α),l[i]?=some x→q (j+i) x=true
 |[],j,_,i,x,hx=>by simp at hx
 | y::r,j,h,i,x,hx=>by
  unfold ZM at h
  rw[Bool.and_eq_true] at h
  cases i with
  |zero=>simp at hx;subst hx;simpa using h.1
  | succ i=>
   have:=ZjV q r (j+1) h.2 i x (by simpa using hx)
   rw[show j+(i+1)=j+1+i by omega]
   exact this
theorem ZpH {α:Type} (q:α→Bool) {l:List α} (h:ZM (fun _ x=>q x) 0 l=true) {x:α} (hx:x∈l):q x=true:=by
 rw[Zaj] at h
 exact List.all_eq_true.1 h x hx
def Zf7 (u:Bool):UInt8:=if u=true then 49 else 48
theorem Zzz (u:Bool):ZfR (Zf7 u)=true:=by cases u<;>decide
theorem ZjW (u:Bool):Zet [pB u]=some (.str [Zf7 u]):=by
 show (fun x0=>Zet [x0]) _=_
 rw[Zxr]
 cases u<;>simp only[EVS]<;>rfl
theorem ZyH (u:Bool):Zmu [pB u]=some (pU (Zf7 u)):=by
 show (fun x0=>Zmu [x0]) _=_
 rw[ZBl]
 cases u<;>simp only[EVS]<;>rfl
theorem ZyI {α:Type} (c:List α) (i:Nat) (b:α) (h:i<c.length):c.take i++[b]++c.drop (i+1)=c.set i b:=by
 rw[List.set_eq_take_append_cons_drop,if_pos h,List.append_assoc]
 rfl
theorem ZjX (c:List UInt8) (i:Nat) (b:UInt8) (h:i<c.length) (hc:ZA c):Zeu [.str c,pI i,.str [b]]=some (.str (c.set i b)):=by
 unfold ZA at hc
 have h1:Ziy (.str c) none (some (.int .i64 (i:Int)))=some (.str (c.take i)):=Zrs (by omega)
 have h2:Ziy (.str c) (some (.int .i64 ((i+1:Nat):Int))) none=some (.str (c.drop (i+1))):=Zrt (by omega)
 show (fun x0 x1 x2=>Zeu [x0,x1,x2]) _ _ _=_
 rw[Zxs]
 have h3:Zd .add TD.str (.str (c.take i)) (.str [b])=some (.str (c.take i++[b])):=ZbH (by simp;omega)
 have h4:Zd .add TD.str (.str (c.take i++[b])) (.str (c.drop (i+1)))=some (.str (c.take i++[b]++c.drop (i+1))):=ZbH (by simp;omega)
 simp only[h1,Zi h hc,h2,h3,h4,ZyI c i b h,EVS]
theorem ZaN {s:List UInt8} {n:Nat}:Z1 s n=true↔(∀b∈s,ZfR b=true)∧s.length=n:=by
 unfold Z1
 rw[Zaj,Bool.and_eq_true,List.all_eq_true,decide_eq_true_eq]
 constructor
 ·rintro ⟨h1,h2⟩;exact ⟨h1,by omega⟩
 ·rintro ⟨h1,h2⟩;exact ⟨h1,by omega⟩
theorem ZpI {v:List UInt8} {N k:Nat} (h:Z1 v N=true) (u:Bool):Z1 (v.set k (Zf7 u)) N=true:=by
 rw[ZaN] at h⊢
 refine ⟨fun b hb=> ?_,by simpa using h.2⟩
 rcases List.mem_or_eq_of_mem_set hb with hb|rfl
 ·exact h.1 b hb
 ·exact Zzz u
theorem ZpJ {c:List UInt8} {m N:Nat} (h:Z1 c m=true) (hm:m≤N):Z1 (c++List.replicate (N - m) 48) N=true:=by
 rw[ZaN] at h⊢
 refine ⟨fun b hb=> ?_,by simp[h.2];omega⟩
 rcases List.mem_append.1 hb with hb|hb
 ·exact h.1 b hb
 ·obtain ⟨_,rfl⟩:=List.mem_replicate.1 hb;decide
theorem Zmn (b:UInt8):ZfR b=true↔b=48∨b=49:=by
 unfold ZfR
 rw[Bool.or_eq_true,decide_eq_true_eq,decide_eq_true_eq]
 have h48:(48:UInt8).toNat=48:=rfl
 have h49:(49:UInt8).toNat=49:=rfl
 constructor
 ·rintro (h|h)
  ·exact .inl (UInt8.toNat_inj.1 (by omega))
  ·exact .inr (UInt8.toNat_inj.1 (by omega))
 ·rintro (rfl|rfl)
  ·exact .inl rfl
  ·exact .inr rfl
theorem ZBf (n:PNet) (s:List UInt8) (k:Nat) (hn:n.Fit) (hs:ZA s) (hv:Zfk n s=true) (hk:k<n.wires.length):At n s k n.wires[k]:=by
 unfold Zfk Zdm Z1 at hv
 simp only[Bool.and_eq_true,decide_eq_true_eq,Bool.not_eq_true',decide_eq_false_iff_not] at hv
 obtain ⟨⟨⟨h1,h2,h3⟩,h4⟩,h5,h6⟩:=hv
 have hx:n.wires[k]?=some n.wires[k]:=List.getElem?_eq_getElem hk
 have hw:=ZjV _ _ _ h4 k _ hx
 rw[Nat.zero_add] at hw
 unfold ZbK Zml ZrS at hw
 simp only[Bool.and_eq_true] at hw
 obtain ⟨⟨⟨⟨hkd,_⟩,hcov⟩,_,hpins,hform⟩,_⟩:=hw
 refine ⟨hn,hx,hn.wire _ (List.getElem_mem hk),hs,by omega,by omega,fun p hp=> ?_,fun hk5 c hc=> ?_,fun hk4=> ?_⟩
 ·have:=ZpH (fun p=>Zi3 n k p) hpins hp
  unfold Zi3 inR at this
  simp only[Bool.and_eq_true,decide_eq_true_eq] at this
  omega
 ·rw[if_pos (by simp[hk5])] at hcov
  unfold ZpB Zox at hcov
  simp only[Bool.and_eq_true] at hcov
  have:=ZpH (fun c=>Zmk c&&decide ((c.length:Int)=n.signals.length)) hcov.1 hc
  simp only[Bool.and_eq_true,decide_eq_true_eq] at this
  omega
 ·unfold Zge at hform
  rw[if_neg (by simp[hk4]),if_pos (by simp[hk4])] at hform
  simp only[decide_eq_true_eq] at hform
  omega
theorem ZCa (s:List UInt8) (h:s.length≤9223372036854775807):Zry (.str s)=some (.lst (s.map pU)):=by
 unfold Zry
 simp only
 rw[if_pos h]
theorem ZjY {α:Type} (f:α→PV) (l:List α) (i:Nat) (x:α):(l.map f).set i (f x)=(l.set i x).map f:=by rw[List.map_set]
structure PArc where
 from_:Int
 sig:Int
 up:Bool
 to_:Int
structure PSG where
 signals:List (List UInt8×Int)
 codes:List (List UInt8)
 arcs:List PArc
def Z2 (a:PArc):PV:=.agg [pI a.from_,pI a.sig,pB a.up,pI a.to_]
def eSG (c:PSG):PV:=.agg [.lst (c.signals.map ZD),.lst (c.codes.map PV.str),.lst (c.arcs.map Z2)]
structure SGFit (c:PSG):Prop where
 sigs:ZA c.signals
 names:∀s∈c.signals,ZA s.1
 codes:ZA c.codes
 each:∀x∈c.codes,ZA x
 arcs:ZA c.arcs
def Zgf (n:Int) (sig:Int) (up:Bool):Bool:=inR sig 0 (n - 1)||(decide (sig= -1)&& !up)
theorem Zu2 (sig:Int) (up:Bool) (n:Nat) (hn:n≤9223372036854775807):Zgp [.agg [pI sig,pB up],pI n]=some (pB (Zgf n sig up)):=by
 have g:=ZaJ sig 0 ((n:Int) - 1)
 have gi:inR sig 0 ((n:Int) - 1)=(decide ((0:Int)≤sig)&&decide (sig≤(n:Int) - 1)):=rfl
 rw[←gi] at g
 have hw:IntKind.i64.wrap ((n:Int) - 1)=(n:Int) - 1:=Zaw (by omega) (by omega)
 show (fun x0 x1=>Zgp [x0,x1]) _ _=_
 rw[Ztn]
 unfold Zgf
 simp only[hw,g,EVS]
 cases inR sig 0 ((n:Int) - 1)<;>simp only[EVS]
 rw[show Int.negSucc 0=(-1:Int) from rfl]
 cases decide (sig= -1)<;>simp only[EVS]
theorem Zw5 (sig:Int) (up:Bool) (n:Nat) (hn:n≤9223372036854775807):Zh2 [.agg [pI sig,pB up],pI n]=some (pB (Zgf n sig up)):=by
 have g:=Zah sig 0 ((n:Int) - 1)
 have hw:IntKind.i64.wrap ((n:Int) - 1)=(n:Int) - 1:=Zaw (by omega) (by omega)
 have he:eqV (some [(0,TD.int IntKind.i64),(1,TD.bool)]) TD.struct (.agg [pI sig,pB up]) (.agg [pI (-1),pB false])=some (decide (sig= -1)&& !up):=by
  rw[eqPin];cases up<;>rfl
 show (fun x0 x1=>Zh2 [x0,x1]) _ _=_
 rw[Zvs]
 unfold Zgf
 simp only[hw,g,EVS]
 cases inR sig 0 ((n:Int) - 1)<;>simp only[EVS]
 rw[show Int.negSucc 0=(-1:Int) from rfl]
 have hsp:splice [ZC.pv (.int .i64),ZC.pv .bool] 0 [pI (-1)]=[pI (-1),pB false]:=rfl
 simp only[hsp,he,EVS]
def Zmo (sig:Int) (up:Bool) (x y:List UInt8):Bool:=
 if decide (sig<0)=true then decide (x=y) else decide (x=y.set sig.toNat (Zf7 (!up)))&&decide (y=x.set sig.toNat (Zf7 up))
def ZkH (sig:Int) (up:Bool) (y:List UInt8) (k:Nat) (b:UInt8):Bool:=
 if decide ((k:Int)=sig)=true then !(decide ((b.toNat:Int)=49)==up)&&decide (((y.getD k 0).toNat:Int)=49)==up else decide ((b.toNat:Int)=(y.getD k 0).toNat)
theorem Zw6 :(false==false)=true:=rfl
theorem Zw7 :(false==true)=false:=rfl
theorem Zw8 :(true==false)=false:=rfl
theorem Zw9 :(true==true)=true:=rfl
theorem bbn (a b:Bool):Zd .neq TD.bool (.bool a) (.bool b)=some (.bool (!(a==b))):=rfl
theorem ZqS (a:PArc) (x y:List UInt8) (hx:ZA x) (hl:y.length=x.length):ZeE [Z2 a,.str x,.str y]=some (pB (ZM (ZkH a.sig a.up y) 0 x)):=by
 unfold ZA at hx
 show (fun x0 x1 x2=>ZeE [x0,x1,x2]) _ _ _=_
 rw[Zp6]
 simp only[Z2,EVS]
 refine (congrArg (fun m:Option PV=>m.bind fun r=>if r.sc=true then some r else none) (ZN (R:=PV) x (ZkH a.sig a.up y) (some (pB false)) (some (pB true)) _ hx (fun again k b hb=> ?_) (fun again=> ?_))).trans ?_
 ·have hk:=Ze hb
  have hy:y[k]?=some (y.getD k 0):=by rw[List.getD_eq_getElem?_getD,List.getElem?_eq_getElem (by omega)];rfl
  have b1:=Zq (k:=.i64) hb
  have b2:=Zq (k:=.i64) hy
  unfold ZkH
  simp only[Zr hk,Zi hk hx,b1,b2,EVS]
  cases c1:decide ((k:Int)=a.sig)
  ·simp only[c1,Zr hk,Zi hk hx,b1,b2,EVS]
   cases decide ((b.toNat:Int)=(y.getD k 0).toNat)<;>simp only[EVS]
  ·simp only[c1,Zr hk,Zi hk hx,b1,b2,EVS]
   cases decide ((b.toNat:Int)=49)<;>cases c3:decide (((y.getD k 0).toNat:Int)=49)<;>cases a.up<;>first|rfl|(simp only[Zw6,Zw7,Zw8,Zw9,b1,b2,EVS];done)|(simp only[Zw6,Zw7,Zw8,Zw9,b1,b2,EVS];rfl)|(simp only[Zw6,Zw7,Zw8,Zw9,bbn,b1,b2,c3,EVS];done)
 ·simp only[ZV,EVS]
 ·cases ZM (ZkH a.sig a.up y) 0 x<;>simp only[EVS]<;>rfl
theorem ZpK {α:Type} (q:Nat→α→Bool):∀(l:List α) (j:Nat),ZM q j l=true↔∀(i:Nat) (x:α),l[i]?=some x→q (j+i) x=true
 |[],j=>by simp[ZM]
 | y::r,j=>by
  refine ⟨fun h=>ZjV q (y::r) j h,fun h=> ?_⟩
  unfold ZM
  rw[Bool.and_eq_true]
  refine ⟨by simpa using h 0 y rfl,(ZpK q r (j+1)).2 fun i x hx=> ?_⟩
  have:=h (i+1) x (by simpa using hx)
  rw[show j+(i+1)=j+1+i by omega] at this
  exact this
theorem ZyJ {b:UInt8} (h:ZfR b=true):b=Zf7 (decide ((b.toNat:Int)=49)):=by
 unfold ZfR at h
 simp only[Bool.or_eq_true,decide_eq_true_eq,Bool.and_eq_true,Bool.not_eq_true',decide_eq_false_iff_not] at h
 by_cases c:(b.toNat:Int)=49
 ·simp only[c,decide_true]
  apply UInt8.toNat_inj.1
  show b.toNat=49
  omega
 ·simp only[c,decide_false]
  apply UInt8.toNat_inj.1
  show b.toNat=48
  omega
theorem ZyK {x:List UInt8} {n:Int} (h:Z1 x n=true) {i:Nat} {b:UInt8} (hi:x[i]?=some b):ZfR b=true:=by
 unfold Z1 at h
 rw[Bool.and_eq_true] at h
 exact ZpH ZfR h.1 (List.mem_of_getElem? hi)
theorem Zhb {x:List UInt8} {n:Nat} (h:Z1 x n=true):x.length=n:=by
 unfold Z1 at h
 rw[Bool.and_eq_true,decide_eq_true_eq] at h
 omega
theorem ZsZ {a b:UInt8}:(a.toNat:Int)=b.toNat↔a=b:=by
 rw[Int.ofNat_inj,UInt8.toNat_inj]
theorem ZCb (sig:Int) (up:Bool) (x y:List UInt8) (n:Nat) (hx:Z1 x n=true) (hy:Z1 y n=true) (he:Zgf n sig up=true):ZM (ZkH sig up y) 0 x=Zmo sig up x y:=by
 have lx:=Zhb hx
 have ly:=Zhb hy
 rw[Bool.eq_iff_iff,ZpK]
 unfold Zgf inR at he
 simp only[Bool.or_eq_true,Bool.and_eq_true,decide_eq_true_eq,Bool.not_eq_true'] at he
 have gy:∀i b,x[i]?=some b→y[i]?=some (y.getD i 0):=fun i b hb=>by
  have:=(List.getElem?_eq_some_iff.1 hb).1
  rw[List.getD_eq_getElem?_getD,List.getElem?_eq_getElem (by omega)];rfl
 unfold Zmo
 by_cases c:sig<0
 ·simp only[c,decide_true,if_true,decide_eq_true_eq]
  constructor
  ·intro h
   apply List.ext_getElem (by omega)
   intro i h1 h2
   have:=h i x[i] (List.getElem?_eq_getElem h1)
   unfold ZkH at this
   have d:decide (((0+i:Nat):Int)=sig)=false:=by simp only[decide_eq_false_iff_not];omega
   rw[d] at this
   simp only[Nat.zero_add,Bool.false_eq_true,if_false,decide_eq_true_eq,ZsZ] at this
   rw[this,List.getD_eq_getElem?_getD,List.getElem?_eq_getElem h2];rfl
  ·rintro rfl i b hb
   unfold ZkH
   have d:decide (((0+i:Nat):Int)=sig)=false:=by simp only[decide_eq_false_iff_not];omega
   rw[d]
   simp only[Nat.zero_add,Bool.false_eq_true,if_false,decide_eq_true_eq,ZsZ]
   rw[List.getD_eq_getElem?_getD,hb];rfl
 ·obtain ⟨s,rfl⟩:=Int.eq_ofNat_of_zero_le (show 0≤sig by omega)
  have hs:s<n:=by omega
  simp only[c,decide_false,Bool.false_eq_true,if_false,Bool.and_eq_true,decide_eq_true_eq,Int.toNat_natCast]
  have hxs:x[s]?=some (x[s]'(by omega)):=List.getElem?_eq_getElem _
  have hys:y[s]?=some (y[s]'(by omega)):=List.getElem?_eq_getElem _
  have gs:y.getD s 0=y[s]'(by omega):=by rw[List.getD_eq_getElem?_getD,hys];rfl
  constructor
  ·intro h
   have h0:=h s _ hxs
   unfold ZkH at h0
   simp only[Nat.zero_add,decide_true,if_true,gs] at h0
   have bx:=ZyJ (ZyK hx hxs)
   have by_:=ZyJ (ZyK hy hys)
   have ho:∀i (h1:i<x.length) (h2:i<y.length),i≠s→x[i]=y[i]:=fun i h1 h2 hn=>by
    have:=h i x[i] (List.getElem?_eq_getElem h1)
    unfold ZkH at this
    have d:decide (((0+i:Nat):Int)=(s:Int))=false:=by simp only[decide_eq_false_iff_not];omega
    rw[d] at this
    simp only[Nat.zero_add,Bool.false_eq_true,if_false,decide_eq_true_eq,ZsZ] at this
    rw[this,List.getD_eq_getElem?_getD,List.getElem?_eq_getElem h2];rfl
   generalize decide (((x[s]'(by omega)).toNat:Int)=49)=p at h0 bx
   generalize decide (((y[s]'(by omega)).toNat:Int)=49)=q at h0 by_
   have hp:p= !up:=by revert h0;cases p<;>cases q<;>cases up<;>decide
   have hq:q=up:=by revert h0;cases p<;>cases q<;>cases up<;>decide
   refine ⟨List.ext_getElem (by simp;omega) fun i h1 h2=> ?_,List.ext_getElem (by simp;omega) fun i h1 h2=> ?_⟩
   ·rw[List.getElem_set]
    split
    ·rename_i e;subst e;rw[bx,hp]
    ·rename_i e;exact ho i h1 (by simpa using h2) (Ne.symm e)
   ·rw[List.getElem_set]
    split
    ·rename_i e;subst e;rw[by_,hq]
    ·rename_i e;exact (ho i (by simpa using h2) h1 (Ne.symm e)).symm
  ·rintro ⟨e1,e2⟩ i b hb
   unfold ZkH
   have hi:=(List.getElem?_eq_some_iff.1 hb).1
   by_cases cs:i=s
   ·subst cs
    simp only[Nat.zero_add,decide_true,if_true,gs]
    have hbx:x[i]?=some (Zf7 (!up)):=by rw[e1,List.getElem?_set];simp;omega
    have hby:y[i]?=some (Zf7 up):=by rw[e2,List.getElem?_set];simp;omega
    rw[hb] at hbx
    rw[hys] at hby
    rw[Option.some.inj hbx,Option.some.inj hby]
    cases up<;>decide
   ·have d:decide (((0+i:Nat):Int)=(s:Int))=false:=by simp only[decide_eq_false_iff_not];omega
    rw[d]
    simp only[Nat.zero_add,Bool.false_eq_true,if_false,decide_eq_true_eq,ZsZ]
    have:y[i]?=x[i]?:=by
     conv=>lhs;rw[e2]
     rw[List.getElem?_set,if_neg (Ne.symm cs)]
    rw[List.getD_eq_getElem?_getD,this,hb];rfl
theorem ZpL (s u:PV):splice (splice [ZC.pv (.int .i64),ZC.pv .bool] 0 [s]) 1 [u]=[s,u]:=rfl
def Zc6 (n:Nat) (last:Int) (a:PArc):Bool:=(inR a.from_ 0 last&&inR a.to_ 0 last)&&Zgf n a.sig a.up
def Zk3 (c:PSG) (a:PArc):Bool:=Zc6 c.signals.length ((c.codes.length:Int) - 1) a&&Zmo a.sig a.up (c.codes.getD a.from_.toNat []) (c.codes.getD a.to_.toNat [])
structure CodesP (c:PSG):Prop where
 one:1≤c.codes.length
 many:c.codes.length≤300
 bits:∀x∈c.codes,Z1 x c.signals.length=true
 arcs:c.arcs.length≤4000
theorem ZpM {c:PSG} {a:PArc} (h:Zc6 c.signals.length ((c.codes.length:Int) - 1) a=true):∃f t x y,a.from_=((f:Nat):Int)∧a.to_=((t:Nat):Int)∧f<c.codes.length∧t<c.codes.length∧c.codes[f]?=some x∧c.codes[t]?=some y∧Zgf c.signals.length a.sig a.up=true:=by
 unfold Zc6 inR at h
 simp only[Bool.and_eq_true,decide_eq_true_eq] at h
 obtain ⟨⟨⟨h1,h2⟩,h3,h4⟩,h5⟩:=h
 obtain ⟨f,hf⟩:=Int.eq_ofNat_of_zero_le h1
 obtain ⟨t,ht⟩:=Int.eq_ofNat_of_zero_le h3
 have l1:f<c.codes.length:=by omega
 have l2:t<c.codes.length:=by omega
 exact ⟨f,t,_,_,hf,ht,l1,l2,List.getElem?_eq_getElem l1,List.getElem?_eq_getElem l2,h5⟩
theorem ZzA (c:PSG) (a:PArc) (hc:SGFit c) (hp:CodesP c):Zj5 [eSG c,Z2 a]=some (pB (Zk3 c a)):=by
 have hsl:=hc.sigs
 unfold ZA at hsl
 have hm:=hp.many
 have g1:=ZaJ a.from_ 0 ((c.codes.length:Int) - 1)
 have g2:=ZaJ a.to_ 0 ((c.codes.length:Int) - 1)
 have gi:∀z:Int,inR z 0 ((c.codes.length:Int) - 1)=(decide ((0:Int)≤z)&&decide (z≤(c.codes.length:Int) - 1)):=fun _=>rfl
 rw[←gi] at g1 g2
 have g3:=Zu2 a.sig a.up c.signals.length hsl
 have hw:IntKind.i64.wrap ((c.codes.length:Int) - 1)=(c.codes.length:Int) - 1:=Zaw (by omega) (by omega)
 show (fun x0 x1=>Zj5 [x0,x1]) _ _=_
 rw[Zxu]
 unfold Zk3
 cases hg:Zc6 c.signals.length ((c.codes.length:Int) - 1) a
 ·unfold Zc6 at hg
  cases c1:inR a.from_ 0 ((c.codes.length:Int) - 1)
  ·simp only[eSG,Z2,List.length_map,hw,g1,c1,EVS]
  cases c2:inR a.to_ 0 ((c.codes.length:Int) - 1)
  ·simp only[eSG,Z2,List.length_map,hw,g1,g2,c1,c2,EVS]
  cases c3:Zgf c.signals.length a.sig a.up
  ·simp only[eSG,Z2,List.length_map,hw,g1,g2,g3,c1,c2,c3,ZpL,EVS]
  ·rw[c1,c2,c3] at hg;cases hg
 ·obtain ⟨f,t,x,y,hf,ht,l1,l2,hx,hy,he⟩:=ZpM hg
  unfold Zc6 at hg
  simp only[Bool.and_eq_true] at hg
  have bx:=hp.bits x (List.mem_of_getElem? hx)
  have by_:=hp.bits y (List.mem_of_getElem? hy)
  have i1:Zk (.lst (c.codes.map PV.str)) (.int .i64 (f:Int))=some (.str x):=Zj hx
  have i2:Zk (.lst (c.codes.map PV.str)) (.int .i64 (t:Int))=some (.str y):=Zj hy
  have e1:c.codes.getD f []=x:=by rw[List.getD_eq_getElem?_getD,hx];rfl
  have e2:c.codes.getD t []=y:=by rw[List.getD_eq_getElem?_getD,hy];rfl
  have c1:=hg.1.1
  have c2:=hg.1.2
  simp only[hf] at g1 c1
  simp only[ht] at g2 c2
  rw[hf,ht,Int.toNat_natCast,Int.toNat_natCast,e1,e2]
  unfold Zmo
  have lx:=Zhb bx
  have ly:=Zhb by_
  by_cases cs:a.sig<0
  ·have d:decide (a.sig<0)=true:=by simpa using cs
   simp only[eSG,Z2,hf,ht,List.length_map,hw,g1,g2,g3,c1,c2,he,ZpL,i1,i2,d,EVS]
  ·have d:decide (a.sig<0)=false:=by simpa using cs
   obtain ⟨s,hs⟩:=Int.eq_ofNat_of_zero_le (show 0≤a.sig by omega)
   have hsn:s<c.signals.length:=by
    unfold Zgf inR at he
    simp only[Bool.or_eq_true,Bool.and_eq_true,decide_eq_true_eq] at he
    omega
   have s1:=ZjX y s (Zf7 (!a.up)) (by omega) (hc.each y (List.mem_of_getElem? hy))
   have s2:=ZjX x s (Zf7 a.up) (by omega) (hc.each x (List.mem_of_getElem? hx))
   have b1:=ZjW (!a.up)
   have b2:=ZjW a.up
   rw[hs] at d g3 he
   simp only[eSG,Z2,hf,ht,hs,List.length_map,hw,g1,g2,g3,c1,c2,he,ZpL,i1,i2,d,s1,b1,Int.toNat_natCast,Bool.false_eq_true,if_false,EVS]
   cases c4:decide (x=y.set s (Zf7 (!a.up)))
   ·simp only[EVS]
   ·simp only[s2,b2,EVS]
def ZpN (c:PSG):List (Nat×Nat):=c.arcs.map fun a=>(a.from_.toNat,a.to_.toNat)
def ZpO (n:Nat) (l:List PArc):Prop:=∀a∈l,inR a.from_ 0 ((n:Int) - 1)=true∧inR a.to_ 0 ((n:Int) - 1)=true
theorem Znd {n:Nat} {l:List PArc} (h:ZpO n l) {a:PArc} (ha:a∈l):∃f t:Nat,a.from_=f∧a.to_=t∧f<n∧t<n:=by
 obtain ⟨h1,h2⟩:=h a ha
 unfold inR at h1 h2
 simp only[Bool.and_eq_true,decide_eq_true_eq] at h1 h2
 obtain ⟨f,hf⟩:=Int.eq_ofNat_of_zero_le h1.1
 obtain ⟨t,ht⟩:=Int.eq_ofNat_of_zero_le h2.1
 exact ⟨f,t,hf,ht,by omega,by omega⟩
theorem ZnU :∀(r:List (Nat×Nat)) (m:List Bool),(ZfA r m).length=m.length
 |[],_=>rfl
 | e::r,m=>by
  unfold ZfA
  rw[ZnU r]
  split<;>simp
theorem se_b (a b:Bool):ZaB 0 1 [.bool a] (.bool a) (.bool b)=some (.bool b):=rfl
theorem ZyL {R:Type} (e:List Bool→Option R):∀(l:List PArc) (k:Nat) (m:List Bool),Z5 (fun (m:List Bool) (_:Nat) (a:PArc)=>.inl (if m.getD a.from_.toNat false=true then m.set a.to_.toNat true else m)) e k m l=e (ZfA (l.map fun a=>(a.from_.toNat,a.to_.toNat)) m)
 |[],k,m=>rfl
 |a::l,k,m=>ZyL e l (k+1) _
theorem ZrU {R:Type} (es:List (Nat×Nat)) (e:List Bool→Option R):∀(l:List (List UInt8)) (k:Nat) (m:List Bool),Z5 (fun (m:List Bool) (_:Nat) (_:List UInt8)=>.inl (ZfA es m)) e k m l=e (metG es l.length m)
 |[],k,m=>rfl
 |a::l,k,m=>ZrU es e l (k+1) _
theorem ZzB (c:PSG) (hc:SGFit c) (hp:CodesP c) (ha:ZpO c.codes.length c.arcs):Zj6 [eSG c]=some (pB ((ZxG c.codes.length (ZpN c) 0).all id)):=by
 have h1:=hp.one
 have h2:=hp.many
 have h3:=hp.arcs
 have hmk:=ZtX (TI.mk 1 1 TD.bool [ZC.bool] [] false) c.codes.length (by omega)
 have hz:Zbb (TI.mk 1 1 TD.bool [ZC.bool] [] false)=.bool false:=rfl
 rw[hz] at hmk
 have hp0:ZaM (List.replicate c.codes.length (PV.bool false)) (.int .i64 ((0:Nat):Int))=some (.int .i64 ((0:Nat):Int)):=ZbG (by simp;omega)
 have hg0:(List.replicate c.codes.length (PV.bool false))[0]?=some (.bool false):=by rw[List.getElem?_replicate,if_pos (by omega)]
 have hs0:(List.replicate c.codes.length (PV.bool false)).set 0 (.bool true)=((List.replicate c.codes.length false).set 0 true).map PV.bool:=by rw[←ZjY,List.map_replicate]
 simp only[Int.natCast_zero] at hp0
 have ht0:Int.toNat 0=0:=rfl
 show (fun x0=>Zj6 [x0]) _=_
 rw[Zxw]
 simp only[eSG,List.length_map,hmk,hp0,ht0,hg0,se_b,hs0,EVS]
 obtain ⟨m0,hm0⟩:∃m0,(List.replicate c.codes.length false).set 0 true=m0:=⟨_,rfl⟩
 have hl0:m0.length=c.codes.length:=by rw[←hm0];simp
 unfold ZxG
 rw[hm0]
 refine (congrArg (fun m:Option PV=>m.bind fun r=>if r.sc=true then some r else none) ((ZaI (R:=PV) c.codes (fun (m:List Bool) k=>[.lst (m.map PV.bool),pI (Int.ofNat k)]) (fun _ m=>m.length=c.codes.length) (fun (m:List Bool) _ _=>.inl (ZfA (ZpN c) m)) (fun m=>some (pB (m.all id))) _ (by omega) (fun m k x m' hm hx he=> ?_) (fun again m k x hm hx=> ?_) (fun again m hm=> ?_) hl0).trans (ZrU _ _ _ _ _))).trans ?_
 ·cases he;rw[ZnU];exact hm
 ·have hk:=Ze hx
  simp only[Zr hk,EVS]
  refine (ZaI (R:=PV) c.arcs (fun (m:List Bool) k=>[.lst (m.map PV.bool),pI (Int.ofNat k)]) (fun _ m=>m.length=c.codes.length) (fun (m:List Bool) _ a=>.inl (if m.getD a.from_.toNat false=true then m.set a.to_.toNat true else m)) (fun m=>again [.lst (m.map PV.bool),pI (Int.ofNat (k+1))]) _ (by omega) (fun m j a m' hm ha' he=> ?_) (fun again' m j a hm ha'=> ?_) (fun again' m hm=> ?_) hm).trans (ZyL _ _ _ _)
  ·cases he;split<;>simp[hm]
  ·have hj:=Ze ha'
   obtain ⟨f,t,hf,ht,l1,l2⟩:=Znd ha (List.mem_of_getElem? ha')
   have hi:Zk (.lst (c.arcs.map Z2)) (.int .i64 (j:Int))=some (Z2 a):=Zj ha'
   have p1:ZaM (m.map PV.bool) (.int .i64 (f:Int))=some (.int .i64 (f:Int)):=ZbG (by rw[List.length_map];omega)
   have p2:ZaM (m.map PV.bool) (.int .i64 (t:Int))=some (.int .i64 (t:Int)):=ZbG (by rw[List.length_map];omega)
   have q1:(m.map PV.bool)[f]?=some (.bool (m.getD f false)):=by rw[List.getElem?_map,List.getD_eq_getElem?_getD,List.getElem?_eq_getElem (by omega)];rfl
   have q2:(m.map PV.bool)[t]?=some (.bool (m.getD t false)):=by rw[List.getElem?_map,List.getD_eq_getElem?_getD,List.getElem?_eq_getElem (by omega)];rfl
   have st:(m.map PV.bool).set t (.bool true)=(m.set t true).map PV.bool:=ZjY PV.bool m t true
   rw[hf,ht,Int.toNat_natCast,Int.toNat_natCast]
   cases hb:m.getD f false<;>simp only[Zr hj,Zi hj (show c.arcs.length≤9223372036854775807 by omega),hi,Z2,hf,ht,p1,p2,q1,q2,hb,se_b,st,Bool.false_eq_true,if_false,if_true,EVS]
  ·simp only[ZV,Zi hk (show c.codes.length≤9223372036854775807 by omega),EVS]
 ·simp only[ZV,EVS]
  refine (ZN (R:=PV) m (fun _ b=>b) (some (pB false)) (some (pB true)) _ (by omega) (fun again k b hb=> ?_) (fun again=> ?_)).trans ?_
  ·have hk:=Ze hb
   have p1:ZaM (m.map PV.bool) (.int .i64 (k:Int))=some (.int .i64 (k:Int)):=ZbG (by rw[List.length_map];omega)
   have q1:(m.map PV.bool)[k]?=some (.bool b):=by rw[List.getElem?_map,hb];rfl
   cases b<;>simp only[List.length_map,Zr hk,Zi hk (show m.length≤9223372036854775807 by omega),p1,q1,Bool.false_eq_true,if_false,if_true,EVS]
  ·simp only[List.length_map,ZV,EVS]
  ·rw[Zaj]
   show _=some (pB (m.all fun b=>b))
   cases m.all (fun b=>b)<;>rfl
 ·simp only[EVS]
theorem ZkI (n s:Nat) (es:List (Nat×Nat)) (hn:n≤1000) (hs:s<n) (hl:es.length≤100000) (hes:∀e∈es,e.1<n∧e.2<n):Zdu [pI (n:Int),.lst (es.map pSt),pI (s:Int)]=some (.lst ((Zbr n es s).map pI)):=by
 have hc:(0:Int)≤(n:Int)∧(n:Int)≤1000∧(0:Int)≤(s:Int)∧(s:Int)<(n:Int)∧es.length≤100000∧(es.all fun e=>decide (e.1<(n:Int).toNat∧e.2<(n:Int).toNat))=true:=by
  refine ⟨by omega,by omega,by omega,by omega,hl,List.all_eq_true.2 fun e he=> ?_⟩
  rw[Int.toNat_natCast]
  exact decide_eq_true (hes e he)
 show (match Zqs (es.map pSt) with
  |some es=>if (0:Int)≤(n:Int)∧(n:Int)≤1000∧(0:Int)≤(s:Int)∧(s:Int)<(n:Int)∧es.length≤100000∧(es.all fun e=>decide (e.1<(n:Int).toNat∧e.2<(n:Int).toNat))=true then some (PV.lst ((Zbr (n:Int).toNat es (s:Int).toNat).map pI)) else none
  |none=>none)=_
 rw[Zr4]
 show (if _ then _ else _)=_
 rw[if_pos hc,Int.toNat_natCast,Int.toNat_natCast]
def Zhc (c:PSG):Bool:=(ZkF c.signals&&inR c.codes.length 1 300)&& !decide ((4000:Int)<c.arcs.length)
def Zs0 (c:PSG):Bool:=c.codes.all fun x=>Z1 x c.signals.length
def ZhB (c:PSG):Bool:=c.arcs.all (Zk3 c)
def Zi5 (c:PSG):Bool:=(ZxG c.codes.length (ZpN c) 0).all id
def sgV (c:PSG):Bool:=(Zhc c&&Zs0 c)&&(ZhB c&&Zi5 c)
theorem Zi6 {c:PSG} (h1:Zhc c=true) (h2:Zs0 c=true):CodesP c:=by
 unfold Zhc inR at h1
 simp only[Bool.and_eq_true,Bool.not_eq_true',decide_eq_true_eq,decide_eq_false_iff_not] at h1
 unfold Zs0 at h2
 exact ⟨by omega,by omega,fun x hx=>List.all_eq_true.1 h2 x hx,by omega⟩
theorem ZrV {c:PSG} (h:ZhB c=true):ZpO c.codes.length c.arcs:=fun a ha=>by
 have:=List.all_eq_true.1 h a ha
 unfold Zk3 Zc6 at this
 simp only[Bool.and_eq_true] at this
 exact this.1.1
theorem Zxa (c:PSG) (hc:SGFit c):Zik [eSG c]=some (pB (sgV c)):=by
 have hcl:=hc.codes
 have hal:=hc.arcs
 unfold ZA at hcl hal
 have g1:=ZkG c.signals hc.sigs hc.names
 have g2:=ZaJ (c.codes.length:Int) 1 300
 have gi:inR (c.codes.length:Int) 1 300=(decide ((1:Int)≤c.codes.length)&&decide ((c.codes.length:Int)≤300)):=rfl
 rw[←gi] at g2
 show (fun x0=>Zik [x0]) _=_
 rw[ZvP]
 unfold sgV
 cases hpre:Zhc c
 ·unfold Zhc at hpre
  cases c1:ZkF c.signals
  ·simp only[eSG,List.length_map,g1,c1,EVS]
  cases c2:inR (c.codes.length:Int) 1 300
  ·simp only[eSG,List.length_map,g1,g2,c1,c2,EVS]
  cases c3:decide ((4000:Int)<c.arcs.length)
  ·rw[c1,c2,c3] at hpre;cases hpre
  ·simp only[eSG,List.length_map,g1,g2,c1,c2,c3,EVS]
 have hpre':=hpre
 unfold Zhc at hpre'
 simp only[Bool.and_eq_true,Bool.not_eq_true'] at hpre'
 obtain ⟨⟨c1,c2⟩,c3⟩:=hpre'
 simp only[eSG,List.length_map,g1,g2,c1,c2,c3,EVS]
 refine (congrArg (fun m:Option PV=>m.bind fun r=>if r.sc=true then some r else none) (ZjP (R:=PV) c.codes (fun _ x=>Z1 x c.signals.length) (some (pB false)) (some (pB (ZhB c&&Zi5 c))) _ hcl (fun again k x hx=> ?_) (fun hall again=> ?_))).trans ?_
 ·have hk:=Ze hx
  have hi:Zk (.lst (c.codes.map PV.str)) (.int .i64 (k:Int))=some (.str x):=Zj hx
  have g:=ZpE x c.signals.length (hc.each x (List.mem_of_getElem? hx))
  cases cb:Z1 x c.signals.length<;>simp only[Zr hk,Zi hk hcl,hi,g,cb,Bool.false_eq_true,if_false,if_true,EVS]
 ·rw[Zaj] at hall
  have hp:=Zi6 hpre hall
  simp only[ZV,EVS]
  refine (ZjP (R:=PV) c.arcs (fun _ a=>Zk3 c a) (some (pB false)) (some (pB (Zi5 c))) _ hal (fun again k a hx=> ?_) (fun hall' again=> ?_)).trans ?_
  ·have hk:=Ze hx
   have hi:Zk (.lst (c.arcs.map Z2)) (.int .i64 (k:Int))=some (Z2 a):=Zj hx
   have g:=ZzA c a hc hp
   simp only[eSG,Z2] at g
   cases cb:Zk3 c a<;>simp only[Z2,Zr hk,Zi hk hal,hi,g,cb,ZR,Zx5,Bool.false_eq_true,if_false,if_true,EVS]
  ·rw[Zaj] at hall'
   have g:=ZzB c hc hp (ZrV hall')
   simp only[eSG] at g
   simp only[ZV,ZR,g,EVS]
   rfl
  ·rw[Zaj]
   show _=some (pB (c.arcs.all (Zk3 c)&&Zi5 c))
   cases c.arcs.all (Zk3 c)<;>rfl
 ·rw[Zaj]
  show _=some (pB ((true&&c.codes.all (fun x=>Z1 x c.signals.length))&&(ZhB c&&Zi5 c)))
  cases c.codes.all (fun x=>Z1 x c.signals.length)<;>simp only[Bool.false_eq_true,if_false,if_true,EVS]<;>rfl
theorem Zi7 (l:List Int) (x:Int) (hl:ZA l):Zbp [.lst (l.map pI),pI x]=some (pI (ixf (fun a=>decide (x=a)) 0 l)):=by
 show (fun x0 x1=>Zbp [x0,x1]) _ _=_
 rw[ZiD]
 unfold ZA at hl
 simp only[EVS]
 refine (congrArg (fun m:Option PV=>m.bind fun r=>if r.sc=true then some r else none) (Zc4 l (fun a=>decide (x=a)) _ hl (fun again k a hb=> ?_) (fun again=> ?_))).trans ?_
 ·have hk:=Ze hb
  have hi:Zk (.lst (l.map pI)) (.int .i64 (k:Int))=some (pI a):=Zj hb
  simp only[Zr hk,Zi hk hl,hi,EVS]
 ·simp only[ZV,EVS]
  rfl
 ·simp only[EVS]
theorem Zhd (l:List Int) (x:Int) (hl:ZA l):ZaS [.lst (l.map pI),pI x]=some (pB (!ZM (fun _ a=> !decide (x=a)) 0 l)):=by
 have g:=Zi7 l x hl
 show (fun x0 x1=>ZaS [x0,x1]) _ _=_
 rw[ZgQ]
 simp only[g,Ze3 (fun a=>decide (x=a)) l 0,EVS]
theorem ZpP {R:Type} (e:List (Nat×Nat)→Option R):∀(l:List PArc) (k:Nat) (acc:List (Nat×Nat)),Z5 (fun (acc:List (Nat×Nat)) (_:Nat) (a:PArc)=>.inl (acc++[(a.from_.toNat,a.to_.toNat)])) e k acc l=e (acc++l.map fun a=>(a.from_.toNat,a.to_.toNat))
 |[],k,acc=>by simp[Z5]
 | a::l,k,acc=>by
  show Z5 _ e (k+1) (acc++[(a.from_.toNat,a.to_.toNat)]) l=_
  rw[ZpP e l]
  simp
theorem ZCc (a b:PV):splice (splice [ZC.pv (.int .i64),ZC.pv (.int .i64)] 0 [a]) 1 [b]=[a,b]:=rfl
theorem Zs1 (n:Nat) (l:List PArc) (ha:ZpO n l) (hl:l.length≤4000):Zfs [.lst (l.map Z2)]=some (.lst ((l.map fun a=>(a.from_.toNat,a.to_.toNat)).map pSt)):=by
 show (fun x0=>Zfs [x0]) _=_
 rw[Zra]
 simp only[List.length_map,EVS]
 refine (ZaI (R:=PV) l (fun (acc:List (Nat×Nat)) k=>[.lst (acc.map pSt),pI (Int.ofNat k)]) (fun k acc=>acc.length=k) (fun (acc:List (Nat×Nat)) _ a=>.inl (acc++[(a.from_.toNat,a.to_.toNat)])) (fun acc=>some (.lst (acc.map pSt))) _ (by omega) (fun acc k x acc' hi hx he=> ?_) (fun again acc k a hi hx=> ?_) (fun again acc hi=> ?_) (b:=[]) rfl).trans ((ZpP _ _ _ _).trans ?_)
 ·cases he;simp;omega
 ·have hk:=Ze hx
  obtain ⟨f,t,hf,ht,l1,l2⟩:=Znd ha (List.mem_of_getElem? hx)
  have hi':Zk (.lst (l.map Z2)) (.int .i64 (k:Int))=some (Z2 a):=Zj hx
  have hla:acc.length+[PV.agg [pI (f:Int),pI (t:Int)]].length≤4294967296∧[PV.agg [pI (f:Int),pI (t:Int)]].all (Zal 2)=true:=⟨by simp;omega,rfl⟩
  have hps:acc.map pSt++[PV.agg [pI (f:Int),pI (t:Int)]]=(acc++[(f,t)]).map pSt:=by simp[pSt]
  simp only[Zr hk,Zi hk (show l.length≤9223372036854775807 by omega),hi',Z2,hf,ht,Int.toNat_natCast,ZCc,List.length_map,if_pos hla,hps,EVS]
 ·simp only[ZV,EVS]
 ·rfl
theorem Zi8 (x:Int):∀(l:List Int) (k:Nat),ZM (fun _ a=> !decide (x=a)) k l= !decide (x∈l)
 |[],k=>by simp[ZM]
 | a::l,k=>by
  unfold ZM
  rw[Zi8 x l (k+1),Bool.eq_iff_iff]
  simp only[Bool.and_eq_true,Bool.not_eq_true',decide_eq_false_iff_not,List.mem_cons,not_or]
theorem Zs2 {c:PSG} (h:ZpO c.codes.length c.arcs):∀e∈ZpN c,e.1<c.codes.length∧e.2<c.codes.length:=fun e he=>by
 unfold ZpN at he
 obtain ⟨a,ha,rfl⟩:=List.mem_map.1 he
 obtain ⟨f,t,hf,ht,l1,l2⟩:=Znd h ha
 simp only[hf,ht,Int.toNat_natCast]
 exact ⟨l1,l2⟩
theorem ZiB (c:PSG) (hc:SGFit c):Za8 [eSG c]=some (pB (sgV c)):=by
 have hcl:=hc.codes
 have hal:=hc.arcs
 have hsl:=hc.sigs
 unfold ZA at hcl hal hsl
 have g1:=Zi4 c.signals hc.sigs hc.names
 rw[←ZyF] at g1
 have g2:=Zah (c.codes.length:Int) 1 300
 show (fun x0=>Za8 [x0]) _=_
 rw[Zh5]
 unfold sgV
 cases hpre:Zhc c
 ·unfold Zhc at hpre
  cases c1:ZkF c.signals
  ·simp only[eSG,List.length_map,g1,c1,EVS]
  cases c2:inR (c.codes.length:Int) 1 300
  ·simp only[eSG,List.length_map,g1,g2,c1,c2,EVS]
  cases c3:decide ((4000:Int)<c.arcs.length)
  ·rw[c1,c2,c3] at hpre;cases hpre
  ·simp only[eSG,List.length_map,g1,g2,c1,c2,c3,EVS]
 have hpre':=hpre
 unfold Zhc at hpre'
 simp only[Bool.and_eq_true,Bool.not_eq_true'] at hpre'
 obtain ⟨⟨c1,c2⟩,c3⟩:=hpre'
 have hw:IntKind.i64.wrap ((c.codes.length:Int) - 1)=(c.codes.length:Int) - 1:=Zaw (by omega) (by omega)
 simp only[eSG,List.length_map,g1,g2,c1,c2,c3,hw,EVS]
 refine (congrArg (fun m:Option PV=>m.bind fun r=>if r.sc=true then some r else none) (ZjP (R:=PV) c.codes (fun _ x=>Z1 x c.signals.length) (some (pB false)) (some (pB (ZhB c&&Zi5 c))) _ hcl (fun again k x hx=> ?_) (fun hall again=> ?_))).trans ?_
 ·have hk:=Ze hx
  have hi:Zk (.lst (c.codes.map PV.str)) (.int .i64 (k:Int))=some (.str x):=Zj hx
  have g:=ZpF x c.signals.length (hc.each x (List.mem_of_getElem? hx))
  cases cb:Z1 x c.signals.length<;>simp only[Zr hk,Zi hk hcl,hi,g,cb,Bool.false_eq_true,if_false,if_true,EVS]
 ·rw [Zaj] at hall
  have hp:=Zi6 hpre hall
  simp only[ZV,EVS]
  refine (ZjP (R:=PV) c.arcs (fun _ a=>Zk3 c a) (some (pB false)) (some (pB (Zi5 c))) _ hal (fun again k a hx=> ?_) (fun hall' again=> ?_)).trans ?_
  ·have hk:=Ze hx
   have hi:Zk (.lst (c.arcs.map Z2)) (.int .i64 (k:Int))=some (Z2 a):=Zj hx
   have g3:=Zah a.from_ 0 ((c.codes.length:Int) - 1)
   have g4:=Zah a.to_ 0 ((c.codes.length:Int) - 1)
   have g5:=Zw5 a.sig a.up c.signals.length hsl
   unfold Zk3
   cases hg:Zc6 c.signals.length ((c.codes.length:Int) - 1) a
   ·unfold Zc6 at hg
    cases d1:inR a.from_ 0 ((c.codes.length:Int) - 1)
    ·simp only[Z2,Zr hk,Zi hk hal,hi,List.length_map,g3,d1,Bool.false_eq_true,if_false,if_true,EVS]
    cases d2:inR a.to_ 0 ((c.codes.length:Int) - 1)
    ·simp only[Z2,Zr hk,Zi hk hal,hi,List.length_map,g3,g4,d1,d2,Bool.false_eq_true,if_false,if_true,EVS]
    cases d3:Zgf c.signals.length a.sig a.up
    ·simp only[Z2,Zr hk,Zi hk hal,hi,List.length_map,g3,g4,g5,d1,d2,d3,ZpL,Bool.false_eq_true,if_false,if_true,EVS]
    ·rw[d1,d2,d3] at hg;cases hg
   ·obtain ⟨f,t,x,y,hf,ht,l1,l2,hx',hy',he⟩:=ZpM hg
    unfold Zc6 at hg
    simp only[Bool.and_eq_true] at hg
    have bx:=hp.bits x (List.mem_of_getElem? hx')
    have by_:=hp.bits y (List.mem_of_getElem? hy')
    have i1:Zk (.lst (c.codes.map PV.str)) (.int .i64 (f:Int))=some (.str x):=Zj hx'
    have i2:Zk (.lst (c.codes.map PV.str)) (.int .i64 (t:Int))=some (.str y):=Zj hy'
    have e1:c.codes.getD f []=x:=by rw[List.getD_eq_getElem?_getD,hx'];rfl
    have e2:c.codes.getD t []=y:=by rw[List.getD_eq_getElem?_getD,hy'];rfl
    have d1:=hg.1.1
    have d2:=hg.1.2
    have lx:=Zhb bx
    have ly:=Zhb by_
    have g6:=ZqS a x y (hc.each x (List.mem_of_getElem? hx')) (by omega)
    rw[ZCb a.sig a.up x y _ bx by_ he] at g6
    simp only[Z2,hf,ht] at g3 g4 g6 d1 d2
    rw[hf,ht,Int.toNat_natCast,Int.toNat_natCast,e1,e2]
    cases d4:Zmo a.sig a.up x y<;>simp only[Z2,hf,ht,Zr hk,Zi hk hal,hi,List.length_map,g3,g4,g5,g6,d1,d2,he,d4,i1,i2,ZpL,Zx5,Bool.false_eq_true,if_false,if_true,EVS]
  ·rw[Zaj] at hall'
   have hin:=ZrV hall'
   have g7:=Zs1 c.codes.length c.arcs hin hp.arcs
   have g8:=ZkI c.codes.length 0 (ZpN c) (by have:=hp.many;omega) hp.one (by have:=hp.arcs;unfold ZpN;rw[List.length_map];omega) (Zs2 hin)
   have hd:=Zhk hp.one (Zs2 hin)
   have g9:=Zhd (Zbr c.codes.length (ZpN c) 0) (-1) (by unfold ZA;rw[hd.len];omega)
   have hme:Zi5 c= !decide ((-1:Int)∈Zbr c.codes.length (ZpN c) 0):=ZBp hp.one (Zs2 hin)
   rw[Zi8] at g9
   unfold ZpN at g8
   simp only[ZV,List.length_map,g7,EVS]
   rw[show (Int.negSucc 0)=(-1:Int) from rfl]
   simp only[Int.natCast_zero] at g8
   simp only[g8,EVS]
   unfold ZpN at g9 hme
   simp only[g9,hme,Bool.not_not,EVS]
  ·rw[Zaj]
   show _=some (pB (c.arcs.all (Zk3 c)&&Zi5 c))
   cases c.arcs.all (Zk3 c)<;>rfl
 ·rw[Zaj]
  show _=some (pB ((true&&c.codes.all (fun x=>Z1 x c.signals.length))&&(ZhB c&&Zi5 c)))
  cases c.codes.all (fun x=>Z1 x c.signals.length)<;>simp only[Bool.false_eq_true,if_false,if_true,EVS]<;>rfl
theorem Zu3 {R α β:Type} (l:List α) (J:β→Nat→List PV) (Inv:Nat→β→Prop) (step:β→Nat→α→Sum β (Option R)) (e:β→Option R) (f:(List PV→Option R)→List PV→Option R) (hl:l.length≤9223372036854775807)
 (hs:∀b k x b',Inv k b→l[k]?=some x→step b k x=.inl b'→Inv (k+1) b')
 (h1:∀again b k x,Inv k b→l[k]?=some x→f again (J b k)=match step b k x with|.inl b'=>again (J b' (k+1))|.inr z=>z)
 (h2:∀again b,Inv l.length b→f again (J b l.length)=e b) {b:β} {k:Nat} (hk:k≤l.length) (hb:Inv k b):Zm f 18446744073709551616 (J b k)=Z5 step e k b (l.drop k):=by
 have key:=ZaP (R:=R) (fun q:{q:β×Nat // Inv q.2 q.1∧q.2≤l.length}=>J q.1.1 q.1.2) (fun q=>l.length+1 - q.1.2) (fun q=>Z5 step e q.1.2 q.1.1 (l.drop q.1.2)) f (fun again q ih=> ?_) 18446744073709551616 ⟨(b,k),hb,hk⟩ (by simp only;omega)
 ·exact key
 ·obtain ⟨⟨b,k⟩,hi,hk⟩:=q
  dsimp only at ih hi hk⊢
  by_cases hlt:k<l.length
  ·have hx:l[k]?=some l[k]:=List.getElem?_eq_getElem hlt
   rw[h1 again b k _ hi hx,List.drop_eq_getElem_cons hlt]
   unfold Z5
   cases hst:step b k l[k] with
   |inl b'=>exact ih ⟨(b',k+1),hs _ _ _ _ hi hx hst,hlt⟩ (by simp only;omega)
   |inr z=>rfl
  ·obtain rfl:k=l.length:=by omega
   rw[h2 again b hi,List.drop_length]
   rfl
theorem capsA0 :Zbu 0 (.tup [])=some []:=by simp[Zbu,PV.parts]
theorem Zki (a:PArc):ZbF [Z2 a]=some (pB (decide (a.sig= -1))):=by
 show (fun x0=>ZbF [x0]) _=_
 rw[Zjp]
 simp only[Z2,EVS]
 rfl
theorem Zb1 (l:List PArc) (hl:ZA l):ZF [.lst (l.map Z2),.tup []]=some (pI (ixf (fun a=>decide (a.sig= -1)) 0 l)):=by
 show (fun x0 x1=>ZF [x0,x1]) _ _=_
 rw[ZbQ]
 unfold ZA at hl
 simp only[EVS]
 refine (congrArg (fun m:Option PV=>m.bind fun r=>if r.sc=true then some r else none) (Zc4 l (fun a=>decide (a.sig= -1)) _ hl (fun again k a hb=> ?_) (fun again=> ?_))).trans ?_
 ·have hk:=Ze hb
  have hi:Zk (.lst (l.map Z2)) (.int .i64 (k:Int))=some (Z2 a):=Zj hb
  have g:=Zki a
  simp only[Z2] at g
  cases hc:decide (a.sig= -1)<;>simp only[Zr hk,Zi hk hl,hi,Z2,g,hc,capsA0,List.append_nil,List.cons_append,List.nil_append,Bool.false_eq_true,if_false,if_true,EVS]
 ·simp only[ZV,EVS]
  rfl
 ·simp only[EVS]
def ZhC (l:List PArc):Bool:=l.any fun a=>decide (a.sig= -1)
theorem Zbw (l:List PArc) (hl:ZA l):Zw [.lst (l.map Z2),.tup []]=some (pB (ZhC l)):=by
 have g:=Zb1 l hl
 show (fun x0 x1=>Zw [x0,x1]) _ _=_
 rw[Zbm]
 simp only[g,Ze3 (fun a:PArc=>decide (a.sig= -1)) l 0,EVS]
 rw[Zaj,List.all_eq_not_any_not]
 simp only[Bool.not_not]
 rfl
theorem Zs3 (c:PSG) (hl:ZA c.arcs):Zfx [eSG c]=some (pB (c.arcs.any fun a=>decide (a.sig<0))):=by
 unfold ZA at hl
 show (fun x0=>Zfx [x0]) _=_
 rw[Zrj]
 simp only[eSG,EVS]
 refine (congrArg (fun m:Option PV=>m.bind fun r=>if r.sc=true then some r else none) (ZN (R:=PV) c.arcs (fun _ a=> !decide (a.sig<0)) (some (pB true)) (some (pB false)) _ hl (fun again k a hx=> ?_) (fun again=> ?_))).trans ?_
 ·have hk:=Ze hx
  have hi:Zk (.lst (c.arcs.map Z2)) (.int .i64 (k:Int))=some (Z2 a):=Zj hx
  cases hc:decide (a.sig<0)<;>simp only[List.length_map,Zr hk,Zi hk hl,hi,Z2,hc,Bool.not_true,Bool.not_false,Bool.false_eq_true,if_false,if_true,EVS]
 ·simp only[List.length_map,ZV,EVS]
 ·rw[Zaj,List.any_eq_not_all_not]
  cases c.arcs.all (fun a=> !decide (a.sig<0))<;>simp only[Bool.not_true,Bool.not_false,Bool.false_eq_true,if_false,if_true,EVS]
theorem Zxb {c:PSG} (h:ZhB c=true):(c.arcs.any fun a=>decide (a.sig<0))=ZhC c.arcs:=by
 unfold ZhC
 rw[Bool.eq_iff_iff,List.any_eq_true,List.any_eq_true]
 constructor
 ·rintro ⟨a,ha,h1⟩
  refine ⟨a,ha, ?_⟩
  have:=List.all_eq_true.1 h a ha
  unfold Zk3 Zc6 Zgf inR at this
  simp only[Bool.and_eq_true,Bool.or_eq_true,decide_eq_true_eq] at this h1⊢
  omega
 ·rintro ⟨a,ha,h1⟩
  refine ⟨a,ha, ?_⟩
  simp only[decide_eq_true_eq] at h1⊢
  omega
theorem ZBg (x y:List UInt8×Int):eqV (some [(0,TD.str),(1,TD.int IntKind.i64)]) TD.struct (.agg [.str x.1,pI x.2]) (.agg [.str y.1,pI y.2])=some (decide (x=y)):=by
 have e:decide (x=y)=((x.1==y.1)&&((x.2==y.2)&&true)):=by
  rw[Bool.eq_iff_iff]
  simp only[decide_eq_true_eq,Bool.and_eq_true,Prod.ext_iff,beq_iff_eq,and_true]
 rw[e]
 show (some (x.1==y.1)).bind (fun b=>(some ((x.2==y.2)&&true)).map fun c=>b&&c)=_
 rfl
def ZhD (l:List (List UInt8×Int)) (k:Nat) (x:List UInt8×Int):Bool:=match l[k]? with|some y=>decide (x=y)|none=>false
theorem ZyM (l m:List (List UInt8×Int)) (h:l.length=m.length):ZM (ZhD m) 0 l=decide (l=m):=by
 rw[Bool.eq_iff_iff,ZpK,decide_eq_true_eq]
 constructor
 ·intro hx
  apply List.ext_getElem h
  intro i h1 h2
  have:=hx i l[i] (List.getElem?_eq_getElem h1)
  unfold ZhD at this
  rw[Nat.zero_add,List.getElem?_eq_getElem h2] at this
  simpa using this
 ·rintro rfl i x hi
  unfold ZhD
  rw[Nat.zero_add,hi]
  simp
theorem Zhe (l m:List (List UInt8×Int)) (hl:ZA l):ZaR [.lst (l.map ZD),.lst (m.map ZD)]=some (pB (decide (l=m))):=by
 unfold ZA at hl
 show (fun x0 x1=>ZaR [x0,x1]) _ _=_
 rw[ZgN]
 by_cases hlen:l.length=m.length
 ·have d:decide ((l.length:Int)=(m.length:Int))=true:=by rw[decide_eq_true_eq];omega
  simp only[List.length_map,d,EVS]
  refine (congrArg (fun m:Option PV=>m.bind fun r=>if r.sc=true then some r else none) (ZN (R:=PV) l (ZhD m) (some (pB false)) (some (pB true)) _ hl (fun again k x hx=> ?_) (fun again=> ?_))).trans ?_
  ·have hk:=Ze hx
   have hy:m[k]?=some (m[k]'(by omega)):=List.getElem?_eq_getElem _
   have hi:Zk (.lst (l.map ZD)) (.int .i64 (k:Int))=some (ZD x):=Zj hx
   have hj:Zk (.lst (m.map ZD)) (.int .i64 (k:Int))=some (ZD (m[k]'(by omega))):=Zj hy
   have hs:ZhD m k x=decide (x=m[k]'(by omega)):=by unfold ZhD;rw[hy]
   have he:=ZBg x (m[k]'(by omega))
   rw[hs]
   cases hc:decide (x=m[k]'(by omega))<;>simp only[List.length_map,Zr hk,Zi hk hl,hi,hj,ZD,ZK,he,hc,Bool.not_true,Bool.not_false,Bool.false_eq_true,if_false,if_true,EVS]
  ·simp only[List.length_map,ZV,EVS]
  ·rw[ZyM l m hlen]
   cases decide (l=m)<;>simp only[Bool.false_eq_true,if_false,if_true,EVS]
 ·have d:decide ((l.length:Int)=(m.length:Int))=false:=by simp only[decide_eq_false_iff_not];omega
  have hne:decide (l=m)=false:=by simp only[decide_eq_false_iff_not];rintro rfl;exact hlen rfl
  simp only[List.length_map,d,hne,EVS]
theorem Zmp (l m:List (List UInt8×Int)) (hl:ZA l):ZcF [.lst (l.map ZD),.lst (m.map ZD)]=some (pB (decide (l=m))):=by
 unfold ZA at hl
 show (fun x0 x1=>ZcF [x0,x1]) _ _=_
 rw[ZlA]
 by_cases hlen:l.length=m.length
 ·have d:decide ((l.length:Int)=(m.length:Int))=true:=by rw[decide_eq_true_eq];omega
  simp only[List.length_map,d,EVS]
  refine (congrArg (fun m:Option PV=>m.bind fun r=>if r.sc=true then some r else none) (ZN (R:=PV) l (ZhD m) (some (pB false)) (some (pB true)) _ hl (fun again k x hx=> ?_) (fun again=> ?_))).trans ?_
  ·have hk:=Ze hx
   have hy:m[k]?=some (m[k]'(by omega)):=List.getElem?_eq_getElem _
   have hi:Zk (.lst (l.map ZD)) (.int .i64 (k:Int))=some (ZD x):=Zj hx
   have hj:Zk (.lst (m.map ZD)) (.int .i64 (k:Int))=some (ZD (m[k]'(by omega))):=Zj hy
   have hs:ZhD m k x=decide (x=m[k]'(by omega)):=by unfold ZhD;rw[hy]
   have he:=ZBg x (m[k]'(by omega))
   rw[hs]
   cases hc:decide (x=m[k]'(by omega))<;>simp only[List.length_map,Zr hk,Zi hk hl,hi,hj,ZD,ZK,he,hc,Bool.not_true,Bool.not_false,Bool.false_eq_true,if_false,if_true,EVS]
  ·simp only[List.length_map,ZV,EVS]
  ·rw[ZyM l m hlen]
   cases decide (l=m)<;>simp only[Bool.false_eq_true,if_false,if_true,EVS]
 ·have d:decide ((l.length:Int)=(m.length:Int))=false:=by simp only[decide_eq_false_iff_not];omega
  have hne:decide (l=m)=false:=by simp only[decide_eq_false_iff_not];rintro rfl;exact hlen rfl
  simp only[List.length_map,d,hne,EVS]
def Zk4 (a b:PArc):Bool:=(((!decide (a.sig= -1))&&decide (b.from_=a.from_))&&decide (b.sig=a.sig))&& !decide (b.to_=a.to_)
def Zs4 (a b:PArc):Bool:=((decide (a.from_=b.from_)&&decide (a.sig=b.sig))&&decide (0≤a.sig))&& !decide (a.to_=b.to_)
def wE (p:Nat×Nat):PV:=.lst [pI p.1,pI p.2]
def ZdG (w:PArc→PArc→Bool) (i:Nat) (a:PArc):Nat→List (Nat×Nat)→List PArc→List (Nat×Nat)
 |_,acc,[]=>acc
 |k,acc,b::l=>ZdG w i a (k+1) (if w a b=true then acc++[(i,k)] else acc) l
def ZhE (w:PArc→PArc→Bool) (arcs:List PArc):Nat→List (Nat×Nat)→List PArc→List (Nat×Nat)
 |_,acc,[]=>acc
 |i,acc,a::l=>ZhE w arcs (i+1) (ZdG w i a (i+1) acc (arcs.drop (i+1))) l
theorem Zi9 {R:Type} (w:PArc→PArc→Bool) (i:Nat) (a:PArc) (e:List (Nat×Nat)→Option R):∀(l:List PArc) (k:Nat) (acc:List (Nat×Nat)),Z5 (fun (acc:List (Nat×Nat)) k b=>.inl (if w a b=true then acc++[(i,k)] else acc)) e k acc l=e (ZdG w i a k acc l)
 |[],k,acc=>rfl
 |b::l,k,acc=>by unfold Z5 ZdG;exact Zi9 w i a e l (k+1) _
theorem Zja {R:Type} (w:PArc→PArc→Bool) (arcs:List PArc) (e:List (Nat×Nat)→Option R):∀(l:List PArc) (k:Nat) (acc:List (Nat×Nat)),Z5 (fun (acc:List (Nat×Nat)) i a=>.inl (ZdG w i a (i+1) acc (arcs.drop (i+1)))) e k acc l=e (ZhE w arcs k acc l)
 |[],k,acc=>rfl
 |b::l,k,acc=>by unfold Z5 ZhE;exact Zja w arcs e l (k+1) _
theorem Zk5 (w:PArc→PArc→Bool) (i:Nat) (a:PArc):∀(l:List PArc) (k:Nat) (acc:List (Nat×Nat)),(ZdG w i a k acc l).length≤acc.length+l.length
 |[],k,acc=>by simp[ZdG]
 | b::l,k,acc=>by
  have:=Zk5 w i a l (k+1) (if w a b=true then acc++[(i,k)] else acc)
  unfold ZdG
  split at this<;>rename_i h
  ·rw[if_pos h];simp at this⊢;omega
  ·rw[if_neg h];simp at this⊢;omega
theorem Zmq {w w':PArc→PArc→Bool} (i:Nat) (a:PArc):∀(l:List PArc) (k:Nat) (acc:List (Nat×Nat)),(∀b∈l,w a b=w' a b)→ZdG w i a k acc l=ZdG w' i a k acc l
 |[],k,acc,h=>rfl
 |b::l,k,acc,h=>by unfold ZdG;rw[h b List.mem_cons_self];exact Zmq i a l _ _ fun b hb=>h b (List.mem_cons_of_mem _ hb)
theorem Zmr {w w':PArc→PArc→Bool} (arcs:List PArc):∀(l:List PArc) (k:Nat) (acc:List (Nat×Nat)),(∀a∈l,∀b∈arcs,w a b=w' a b)→ZhE w arcs k acc l=ZhE w' arcs k acc l
 |[],k,acc,h=>rfl
 | a::l,k,acc,h=>by
  unfold ZhE
  rw[Zmq k a _ _ _ fun b hb=>h a List.mem_cons_self b (List.mem_of_mem_drop hb)]
  exact Zmr arcs l _ _ fun a ha=>h a (List.mem_cons_of_mem _ ha)
def Zjb (w:PArc→PArc→Bool) (c:PSG):List (Nat×Nat):=ZhE w c.arcs 0 [] c.arcs
theorem ZCd {c:PSG} (h:ZhB c=true):Zjb Zs4 c=Zjb Zk4 c:=Zmr _ _ _ _ fun a ha b hb=>by
 have:=List.all_eq_true.1 h a ha
 unfold Zk3 Zc6 Zgf inR at this
 simp only[Bool.and_eq_true,Bool.or_eq_true,decide_eq_true_eq] at this
 have h1:a.sig= -1∨0≤a.sig:=by omega
 unfold Zs4 Zk4
 rw[Bool.eq_iff_iff]
 simp only[Bool.and_eq_true,Bool.not_eq_true',decide_eq_true_eq,decide_eq_false_iff_not]
 omega
theorem Zu4 (c:PSG) (hl:c.arcs.length≤4000):Zgk [eSG c]=some (.lst ((Zjb Zk4 c).map wE)):=by
 show (fun x0=>Zgk [x0]) _=_
 rw[Zte]
 simp only[eSG,EVS]
 refine (ZaI (R:=PV) c.arcs (fun (acc:List (Nat×Nat)) i=>[.lst (acc.map wE),pI (Int.ofNat i)]) (fun i acc=>acc.length≤i * 4000) (fun acc i a=>.inl (ZdG Zk4 i a (i+1) acc (c.arcs.drop (i+1)))) (fun acc=>some (.lst (acc.map wE))) _ (by omega) (fun acc i a acc' hi hx he=> ?_) (fun again acc i a hi hx=> ?_) (fun again acc hi=> ?_) (b:=[]) (by simp)).trans (Zja _ _ _ _ _ _)
 ·cases he
  have:=Zk5 Zk4 i a (c.arcs.drop (i+1)) (i+1) acc
  simp at this
  omega
 ·have hk:=Ze hx
  have hi':Zk (.lst (c.arcs.map Z2)) (.int .i64 (i:Int))=some (Z2 a):=Zj hx
  have hnx:=Zi hk (show c.arcs.length≤9223372036854775807 by omega)
  simp only[List.length_map,Zr hk,hnx,hi',Z2,EVS]
  refine (Zu3 (R:=PV) c.arcs (fun (acc:List (Nat×Nat)) k=>[.lst (acc.map wE),pI (Int.ofNat k)]) (fun k acc=>acc.length≤i * 4000+k) (fun acc k b=>.inl (if Zk4 a b=true then acc++[(i,k)] else acc)) (fun acc=>again [.lst (acc.map wE),pI (Int.ofNat (i+1))]) _ (by omega) (fun acc k b acc' hi hx he=> ?_) (fun again' acc k b hi2 hx2=> ?_) (fun again' acc hi=> ?_) (b:=acc) (k:=i+1) (show i+1≤c.arcs.length from hk) (show acc.length≤i * 4000+(i+1) from Nat.le_trans hi (Nat.le_add_right _ _))).trans (Zi9 _ _ _ _ _ _ _)
  ·cases he
   show (if Zk4 a b=true then acc++[(i,k)] else acc).length≤i * 4000+(k+1)
   have hi:acc.length≤i * 4000+k:=hi
   cases Zk4 a b
   ·rw[if_neg (by decide)];omega
   ·rw[if_pos rfl,List.length_append,List.length_singleton];omega
  ·have hk2:=Ze hx2
   have hj:Zk (.lst (c.arcs.map Z2)) (.int .i64 (k:Int))=some (Z2 b):=Zj hx2
   have hla:acc.length+[PV.lst [pI (i:Int),pI (k:Int)]].length≤4294967296∧[PV.lst [pI (i:Int),pI (k:Int)]].all (Zal 1)=true:=⟨by simp;omega,rfl⟩
   have hps:acc.map wE++[PV.lst [pI (i:Int),pI (k:Int)]]=(acc++[(i,k)]).map wE:=by simp[wE]
   unfold Zk4
   simp only[List.length_map,Zr hk2,Zi hk2 (show c.arcs.length≤9223372036854775807 by omega),hj,Z2,EVS]
   rw[show Int.negSucc 0=(-1:Int) from rfl]
   have hok:([PV.lst [pI (i:Int),pI (k:Int)]].all fun x=>Zal 1 x)=true:=rfl
   cases c1:decide (a.sig= -1)<;>cases c2:decide (b.from_=a.from_)<;>cases c3:decide (b.sig=a.sig)<;>cases c4:decide (b.to_=a.to_)<;>simp only[c1,c2,c3,c4,if_pos hla,hps,if_pos hok,EVS]
  ·simp only[List.length_map,ZV,hnx,EVS]
 ·simp only[List.length_map,ZV,EVS]
end Go.Proofs.YtpceleehbpnchaaGreat
