import Derived.Test.YtkgnjijonikchaaGreatComposeF
import Derived.Test.YtkgnjijonikchaaGreatData
import Derived.Test.YtkgnjijonikchaaGreatDistPure
import Derived.Test.YtkgnjijonikchaaGreatSysPure
namespace Go.Proofs.YtkgnjijonikchaaGreat
open Go.RowKit
set_option linter.unusedVariables false
set_option linter.unusedSimpArgs false
theorem Zbq (n lo hi:Int):ZaQ [pI n,pI lo,pI hi]=some (pB (decide (lo≤n)&&decide (n≤hi))):=by
 show (fun x0 x1 x2=>ZaQ [x0,x1,x2]) _ _ _=_
 rw[ZuS]
 by_cases h:lo≤n<;>simp only[h,EVS]
def Zwa (first:Bool) (b:UInt8):Bool:=(decide ((97:Int)≤b.toNat)&&decide ((b.toNat:Int)≤122))||(!first&&(!decide ((b.toNat:Int)<48)&& !decide ((57:Int)<b.toNat)))
def ZiO :Bool→List UInt8→Bool
 |_,[]=>true
 |f,b::r=>Zwa f b&&ZiO false r
def ZaA (s:List UInt8):Bool:=ZiO true s&&(decide ((1:Int)≤s.length)&&decide ((s.length:Int)≤6))
theorem Zml (s:List UInt8) (hs:s.length≤9223372036854775807):ZeG [.str s]=some (pB (ZaA s)):=by
 show (fun x0=>ZeG [x0]) _=_
 rw[Zq7]
 refine (congrArg (Zf true) (Zbp (R:=PV) (fun k:Nat=>[pI (Int.ofNat k)]) (fun k=>s.length+1 - k) (fun k=>some (pB (ZiO (k==0) (s.drop k)&&(decide ((1:Int)≤s.length)&&decide ((s.length:Int)≤6))))) _ (fun again k ih=> ?_) _ 0 (by omega))).trans ?_
 ·by_cases hk:k<s.length
  ·obtain ⟨b,hb⟩:∃b,s[k]?=some b:=⟨s[k],List.getElem?_eq_getElem hk⟩
   have hd:s.drop k=b::s.drop (k+1):=by
    obtain ⟨h1,rfl⟩:=List.getElem?_eq_some_iff.1 hb
    exact List.drop_eq_getElem_cons h1
   have hlt:decide ((k:Int)<s.length)=true:=by simpa using hk
   have hw:IntKind.i64.wrap ((k:Int)+1)=((k+1:Nat):Int):=by rw[Zdc (by omega) (by omega)];omega
   have hnext:=ih (k+1) (by omega)
   simp only[Int.ofNat_eq_natCast] at hnext
   have hk0:decide ((k:Int)=0)=(k==0):=by rw[Bool.eq_iff_iff];simp
   rw[hd]
   have hk1:(k+1==0)=false:=rfl
   rw[hk1] at hnext
   have ev1:=hlt
   have ev2:=Zr (k:=.i64) hb
   simp only[ZiO,Zwa,hlt,Zr hb,hk0,hw,hnext,EVS]
   by_cases c1:(97:Int)≤b.toNat
   all_goals simp only[c1,Zr hb,EVS]
   by_cases c2:(b.toNat:Int)≤122
   all_goals try simp only[c2,Zr hb,EVS]
   all_goals try simp only[hk0]
   all_goals try (cases c5:(k==0))
   all_goals try simp only[c5,Zr hb,EVS]
   all_goals try (by_cases c3:(b.toNat:Int)<48)
   all_goals try simp only[c3,Zr hb,EVS]
   all_goals try (by_cases c4:(57:Int)<b.toNat)
   all_goals try simp only[c4,Zr hb,EVS]
  ·have hd:s.drop k=[]:=List.drop_eq_nil_of_le (by omega)
   have hlt:decide ((k:Int)<s.length)=false:=by simpa using hk
   rw[hd]
   simp only[ZiO,hlt,Zbq,EVS]
 ·simp only[ZaA,List.drop_zero,beq_self_eq_true,EVS]
def ZkR (b:UInt8):Bool:=decide ((b.toNat:Int)=48)||decide ((b.toNat:Int)=49)||decide ((b.toNat:Int)=45)
def ZjH (s:List UInt8):Bool:=ZU (fun _ b=>ZkR b) 0 s&&(decide ((1:Int)≤s.length)&&decide ((s.length:Int)≤8))
theorem Zh {α:Type} {l:List α} {k:Nat} {x:α} (h:l[k]?=some x):k<l.length:=(List.getElem?_eq_some_iff.1 h).1
theorem Zk {k n:Nat} (h:k<n) (hn:n≤9223372036854775807):IntKind.i64.wrap ((k:Int)+1)=((k+1:Nat):Int):=by rw[Zdc (by omega) (by omega)];omega
theorem Z5 {k n:Nat} (h:k<n):decide ((k:Int)<(n:Int))=true:=by simpa using h
theorem Zau {n:Nat}:decide ((n:Int)<(n:Int))=false:=by simp
theorem ZqC (s:List UInt8) (hs:s.length≤9223372036854775807):Ze6 [.str s]=some (pB (ZjH s)):=by
 show (fun x0=>Ze6 [x0]) _=_
 rw[Zpo]
 refine (congrArg (Zf true) (Z8 (R:=PV) s (fun _ b=>ZkR b) (some (pB false)) (some (pB (decide ((1:Int)≤s.length)&&decide ((s.length:Int)≤8)))) _ hs (fun again k b hb=> ?_) (fun again=> ?_))).trans ?_
 ·have hk:=Zh hb
  cases c1:decide ((b.toNat:Int)=48)<;>cases c2:decide ((b.toNat:Int)=49)<;>cases c3:decide ((b.toNat:Int)=45)<;>
   simp only[ZkR,Z5 hk,Zk hk hs,Zr hb,c1,c2,c3,EVS]
 ·simp only[Zau,Zbq,EVS]
 ·unfold ZjH
  cases ZU (fun _ b=>ZkR b) 0 s<;>simp only[EVS]
abbrev Zaa (s:List UInt8×Int):PV:=.agg [.str s.1,pI s.2]
def inR (n lo hi:Int):Bool:=decide (lo≤n)&&decide (n≤hi)
def Zn8 (l:List (List UInt8×Int)) (k:Nat) (s:List UInt8×Int):Bool:=(ZaA s.1&&inR s.2 1 3)&&ZU (fun _ y=> !decide (s.1=y.1)) 0 (l.take k)
def Zio (l:List (List UInt8×Int)):Bool:=ZU (Zn8 l) 0 l&&inR l.length 1 8
theorem Zn9 (x:List UInt8×Int):ZaG 2 (Zaa x)=true:=rfl
theorem Zip (l:List (List UInt8×Int)) (hl:l.length≤9223372036854775807) (hs:∀s∈l,s.1.length≤9223372036854775807):ZcO [.lst (l.map Zaa)]=some (pB (Zio l)):=by
 show (fun x0=>ZcO [x0]) _=_
 rw[ZmU]
 simp only[EVS]
 refine (congrArg (Zf true) (Z8 (R:=PV) l (Zn8 l) (some (pB false)) (some (pB (inR l.length 1 8))) _ hl (fun again k s hb=> ?_) (fun again=> ?_))).trans ?_
 ·have hk:=Zh hb
  have hi:Zn (.lst (l.map Zaa)) (.int .i64 (k:Int))=some (Zaa s):=Zm hb
  have hc:Zk3 2 (.lst (l.map Zaa)) none (some (.int .i64 (k:Int)))=some (.lst ((l.take k).map Zaa)):=Zll Zn9 (by omega)
  have hn:=Zml s.1 (hs s (List.mem_of_getElem? hb))
  simp only[Z5 hk,Zk hk hl,hi,Zaa,hn,Zbq,Zn8,inR,EVS]
  obtain c1|c1:=(Bool.eq_false_or_eq_true (ZaA s.1)).symm<;>simp only[c1,Zbq,EVS]
  obtain c2|c2:=(Bool.eq_false_or_eq_true (decide (1≤s.2)&&decide (s.2≤3))).symm<;>simp only[c2,EVS]
  simp only[hc,EVS]
  refine (Z8 (R:=PV) (l.take k) (fun _ y=> !decide (s.1=y.1)) (some (pB false)) (again [pI ((k+1:Nat):Int)]) _ (by simp;omega) (fun again' j y hy=> ?_) (fun again'=> ?_)).trans ?_
  ·have hj:=Zh hy
   have hi':Zn (.lst ((l.take k).map Zaa)) (.int .i64 (j:Int))=some (Zaa y):=Zm hy
   simp only[Z5 hj,Zk hj (by simp;omega),hi',Zaa,EVS]
   cases c3:decide (s.1=y.1)<;>simp only[c3,EVS]
  ·simp only[Zau,Zk hk hl,EVS]
  ·rfl
 ·simp only[Zau,Zbq,inR,EVS]
 ·unfold Zio
  cases ZU (Zn8 l) 0 l<;>simp only[EVS]
def Zlu (n:Int) (l:List (List UInt8)):Bool:=ZU (fun _ c=>ZjH c&&decide ((c.length:Int)=n)) 0 l
def Zmm (n:Int) (l:List (List UInt8)):Bool:=Zlu n l&&(inR n 1 8&&decide ((l.length:Int)≤60))
theorem ZqD (n:Int) (l:List (List UInt8)) (hl:l.length≤9223372036854775807) (hs:∀s∈l,s.length≤9223372036854775807):Ze7 [pI n,.lst (l.map PV.str)]=some (pB (Zmm n l)):=by
 show (fun x0 x1=>Ze7 [x0,x1]) _ _=_
 rw[Zpq]
 simp only[EVS]
 refine (congrArg (Zf true) (Z8 (R:=PV) l (fun _ c=>ZjH c&&decide ((c.length:Int)=n)) (some (pB false)) (some (pB (inR n 1 8&&decide ((l.length:Int)≤60)))) _ hl (fun again k s hb=> ?_) (fun again=> ?_))).trans ?_
 ·have hk:=Zh hb
  have hi:Zn (.lst (l.map PV.str)) (.int .i64 (k:Int))=some (.str s):=Zm hb
  have hn:=ZqC s (hs s (List.mem_of_getElem? hb))
  simp only[Z5 hk,Zk hk hl,hi,hn,EVS]
  obtain c1|c1:=(Bool.eq_false_or_eq_true (ZjH s)).symm<;>simp only[c1,EVS]
  obtain c2|c2:=(Bool.eq_false_or_eq_true (decide ((s.length:Int)=n))).symm<;>simp only[c2,EVS]
 ·simp only[Zau,Zbq,inR,EVS]
  obtain c1|c1:=(Bool.eq_false_or_eq_true (decide (1≤n)&&decide (n≤8))).symm<;>simp only[c1,EVS]
 ·unfold Zmm Zlu
  cases ZU (fun _ c=>ZjH c&&decide ((c.length:Int)=n)) 0 l<;>simp only[EVS]
structure PWire where
 name:List UInt8
 kind:Int
 ins:List (Int×Bool)
 cover:List (List UInt8)
structure PNet where
 signals:List (List UInt8×Int)
 wires:List PWire
abbrev Zaq (p:Int×Bool):PV:=.agg [pI p.1,pB p.2]
abbrev Z6 (w:PWire):PV:=.agg [.str w.name,pI w.kind,.lst (w.ins.map Zaq),.lst (w.cover.map PV.str)]
abbrev Z3 (n:PNet):PV:=.agg [.lst (n.signals.map Zaa),.lst (n.wires.map Z6)]
abbrev ZG {α:Type} (l:List α):Prop:=l.length≤9223372036854775807
structure PWire.Fit (w:PWire):Prop where
 name:ZG w.name
 ins:ZG w.ins
 cover:ZG w.cover
 cubes:∀c∈w.cover,ZG c
structure PNet.Fit (n:PNet):Prop where
 signals:ZG n.signals
 names:∀s∈n.signals,ZG s.1
 wires:ZG n.wires
 wire:∀w∈n.wires,w.Fit
def Ziq (n:PNet) (k:Nat) (p:Int×Bool):Bool:=inR p.1 0 ((n.wires.length:Int) - 1)&& !(decide ((n.signals.length:Int)≤k)&&decide ((k:Int)≤p.1))
def ZeX (k:Nat) (kind:Int) (ins:List (Int×Bool)):Bool:=
 if decide (kind=1)=true then decide ((ins.length:Int)=0)
 else if decide (kind=4)=true then decide ((ins.length:Int)=2)
 else if decide (kind=5)=true then decide ((ins.length:Int)=0)||(match ins with|[p]=>decide (p.1=k)&& !p.2|_=>false)
 else inR ins.length 1 8
def ZqE (n:PNet) (k:Nat) (w:PWire):Bool:=ZU (fun _ p=>Ziq n k p) 0 w.ins&&ZeX k w.kind w.ins
theorem ZqF (n:PNet) (k:Nat) (w:PWire) (hn:n.Fit) (hw:w.Fit):Ze8 [Z3 n,pI k,Z6 w]=some (pB (ZqE n k w)):=by
 show (fun x0 x1 x2=>Ze8 [x0,x1,x2]) _ _ _=_
 rw[Zps]
 simp only[Z3,Z6,EVS]
 have hwl:IntKind.i64.wrap ((n.wires.length:Int) - 1)=(n.wires.length:Int) - 1:=Zdc (by omega) (by have:=hn.wires;unfold ZG at this;omega)
 have hi0:=hw.ins
 unfold ZG at hi0
 refine (congrArg (Zf true) (Z8 (R:=PV) w.ins (fun _ p=>Ziq n k p) (some (pB false)) (some (pB (ZeX k w.kind w.ins))) _ hi0 (fun again j p hb=> ?_) (fun again=> ?_))).trans ?_
 ·have hk:=Zh hb
  have hi:Zn (.lst (w.ins.map Zaq)) (.int .i64 (j:Int))=some (Zaq p):=Zm hb
  simp only[Z5 hk,Zk hk hi0,hi,Zaq,hwl,Zbq,Ziq,inR,EVS]
  obtain c1|c1:=(Bool.eq_false_or_eq_true (decide (0≤p.1)&&decide (p.1≤(n.wires.length:Int) - 1))).symm<;>simp only[c1,EVS]
  obtain c2|c2:=(Bool.eq_false_or_eq_true (decide ((n.signals.length:Int)≤(k:Int)))).symm<;>simp only[c2,EVS]
  obtain c3|c3:=(Bool.eq_false_or_eq_true (decide ((k:Int)≤p.1))).symm<;>simp only[c3,EVS]
 ·simp only[Zau,ZeX,EVS]
  obtain c1|c1:=(Bool.eq_false_or_eq_true (decide (w.kind=1))).symm<;>simp only[c1,EVS]
  obtain c2|c2:=(Bool.eq_false_or_eq_true (decide (w.kind=4))).symm<;>simp only[c2,EVS]
  obtain c3|c3:=(Bool.eq_false_or_eq_true (decide (w.kind=5))).symm<;>simp only[c3,Zbq,inR,EVS]
  have h01:decide ((0:Int)=1)=false:=rfl
  have h00:decide ((0:Int)=0)=true:=rfl
  have h11:decide ((1:Int)=1)=true:=rfl
  have h10:decide ((1:Int)=0)=false:=rfl
  rcases hq:w.ins with _|⟨p,_|⟨q,r⟩⟩
  ·simp only[List.length_nil,h00,EVS]
  ·have hi:Zn (.lst ([p].map Zaq)) (.int .i64 0)=some (Zaq p):=rfl
   simp only[List.length_cons,List.length_nil,Nat.zero_add,h11,h10,hi,Zaq,List.drop_zero,List.drop_succ_cons,EVS]
   obtain c4|c4:=(Bool.eq_false_or_eq_true (decide (p.1=(k:Int)))).symm<;>simp only[c4,h11,h10,hi,Zaq,List.drop_zero,List.drop_succ_cons,EVS]
  ·have h2:decide (((r.length+1+1:Nat):Int)=0)=false:=by simp;omega
   have h3:decide (((r.length+1+1:Nat):Int)=1)=false:=by simp;omega
   simp only[List.length_cons,h2,h3,EVS]
 ·unfold ZqE
  cases ZU (fun _ p=>Ziq n k p) 0 w.ins<;>simp only[EVS]
def ZfH (n:PNet) (k:Nat) (w:PWire):Bool:=match n.signals[k]? with|some s=>decide (w.name=s.1)&&(decide (w.kind=1)==decide (s.2=1))|none=>false
def Zmn (n:PNet) (k:Nat) (w:PWire):Bool:=
 let seen:=decide ((k:Int)<(n.signals.length:Int))
 (inR w.kind 1 5&&(seen||decide (w.kind=2)||decide (w.kind=3)))&&(!seen||ZfH n k w)&&(if decide (w.kind=5)=true then Zmm n.signals.length w.cover else !decide ((0:Int)<w.cover.length))&&(ZaA w.name&&ZqE n k w)
theorem ZqG (n:PNet) (k:Nat) (w:PWire) (hn:n.Fit) (hw:w.Fit):Ze9 [Z3 n,pI k,Z6 w]=some (pB (Zmn n k w)):=by
 have g1:=ZqD n.signals.length w.cover hw.cover hw.cubes
 have g2:=Zml w.name hw.name
 have g3:=ZqF n k w hn hw
 have g4:=Zbq w.kind 1 5
 simp only[Z3,Z6] at g3
 show (fun x0 x1 x2=>Ze9 [x0,x1,x2]) _ _ _=_
 rw[Zpu]
 simp only[Z3,Z6,g4,EVS]
 have fin:∀b:Bool,((some (pB (ZaA w.name&&b))))=(some (pB (ZaA w.name&&b))):=fun _=>rfl
 simp only[Zmn,inR]
 obtain c1|c1:=(Bool.eq_false_or_eq_true (decide (1≤w.kind)&&decide (w.kind≤5))).symm<;>simp only[c1,EVS]
 obtain c2|c2:=(Bool.eq_false_or_eq_true (decide ((k:Int)<(n.signals.length:Int)))).symm<;>simp only[c2,EVS]
 ·obtain c3|c3:=(Bool.eq_false_or_eq_true (decide (w.kind=2))).symm<;>simp only[c3,EVS]
  ·obtain c4|c4:=(Bool.eq_false_or_eq_true (decide (w.kind=3))).symm<;>simp only[c4,EVS]
   have c5:decide (w.kind=5)=false:=by have:=of_decide_eq_true c4;simp;omega
   simp only[c5,EVS]
   obtain c6|c6:=(Bool.eq_false_or_eq_true (decide ((0:Int)<w.cover.length))).symm<;>simp only[c6,g2,EVS]
   obtain c7|c7:=(Bool.eq_false_or_eq_true (ZaA w.name)).symm<;>simp only[c7,g3,EVS]
  ·have c4:decide (w.kind=3)=false:=by have:=of_decide_eq_true c3;simp;omega
   have c5:decide (w.kind=5)=false:=by have:=of_decide_eq_true c3;simp;omega
   simp only[c4,c5,EVS]
   obtain c6|c6:=(Bool.eq_false_or_eq_true (decide ((0:Int)<w.cover.length))).symm<;>simp only[c6,g2,EVS]
   obtain c7|c7:=(Bool.eq_false_or_eq_true (ZaA w.name)).symm<;>simp only[c7,g3,EVS]
 ·have hk:k<n.signals.length:=by have:=of_decide_eq_true c2;omega
  have hs:n.signals[k]?=some n.signals[k]:=List.getElem?_eq_getElem hk
  have hi:Zn (.lst (n.signals.map Zaa)) (.int .i64 (k:Int))=some (Zaa n.signals[k]):=Zm hs
  simp only[ZfH,hs,hi,Zaa,List.drop_zero,List.drop_succ_cons,EVS]
  obtain c3|c3:=(Bool.eq_false_or_eq_true (decide (w.name=n.signals[k].1))).symm<;>simp only[c3,hi,Zaa,List.drop_zero,List.drop_succ_cons,EVS]
  obtain c4|c4:=(Bool.eq_false_or_eq_true (decide (w.kind=1)==decide (n.signals[k].2=1))).symm<;>simp only[bne,c4,hi,Zaa,List.drop_zero,List.drop_succ_cons,EVS]
  obtain c5|c5:=(Bool.eq_false_or_eq_true (decide (w.kind=5))).symm<;>simp only[c5,g1,g2,EVS]
  ·obtain c6|c6:=(Bool.eq_false_or_eq_true (decide ((0:Int)<w.cover.length))).symm<;>simp only[c6,g2,EVS]
   obtain c7|c7:=(Bool.eq_false_or_eq_true (ZaA w.name)).symm<;>simp only[c7,g3,EVS]
  ·obtain c6|c6:=(Bool.eq_false_or_eq_true (Zmm n.signals.length w.cover)).symm<;>simp only[c5,c6,g2,EVS]
   obtain c7|c7:=(Bool.eq_false_or_eq_true (ZaA w.name)).symm<;>simp only[c5,c7,g3,EVS]
def Zcx (n:PNet) (k:Nat) (w:PWire):Bool:=Zmn n k w&&ZU (fun _ v=> !decide (v.name=w.name)) 0 (n.wires.take k)
def Zfn (n:PNet):Bool:=Zio n.signals&&(!decide ((n.wires.length:Int)<n.signals.length)&& !decide ((24:Int)<n.wires.length))&&ZU (Zcx n) 0 n.wires
theorem Zmo (x:PWire):ZaG 4 (Z6 x)=true:=rfl
theorem ZqH (n:PNet) (hn:n.Fit):Zfa [Z3 n]=some (pB (Zfn n)):=by
 have g1:=Zip n.signals hn.signals hn.names
 have hwl:=hn.wires
 unfold ZG at hwl
 show (fun x0=>Zfa [x0]) _=_
 rw[Zpw]
 simp only[Z3,g1,EVS]
 unfold Zfn
 obtain c1|c1:=(Bool.eq_false_or_eq_true (Zio n.signals)).symm<;>simp only[c1,EVS]
 obtain c2|c2:=(Bool.eq_false_or_eq_true (decide ((n.wires.length:Int)<n.signals.length))).symm<;>simp only[c2,EVS]
 obtain c3|c3:=(Bool.eq_false_or_eq_true (decide ((24:Int)<n.wires.length))).symm<;>simp only[c3,EVS]
 refine (congrArg (Zf true) (Z8 (R:=PV) n.wires (Zcx n) (some (pB false)) (some (pB true)) _ hwl (fun again k w hb=> ?_) (fun again=> ?_))).trans ?_
 ·have hk:=Zh hb
  have hi:Zn (.lst (n.wires.map Z6)) (.int .i64 (k:Int))=some (Z6 w):=Zm hb
  have hc:Zk3 4 (.lst (n.wires.map Z6)) none (some (.int .i64 (k:Int)))=some (.lst ((n.wires.take k).map Z6)):=Zll Zmo (by omega)
  have g3:=ZqG n k w hn (hn.wire w (List.mem_of_getElem? hb))
  simp only[Z3,Z6] at g3
  simp only[Z5 hk,Zk hk hwl,hi,Z6,Zcx,g3,EVS]
  obtain c4|c4:=(Bool.eq_false_or_eq_true (Zmn n k w)).symm<;>simp only[c4,hc,EVS]
  refine (Z8 (R:=PV) (n.wires.take k) (fun _ v=> !decide (v.name=w.name)) (some (pB false)) (again [pI ((k+1:Nat):Int)]) _ (by simp;omega) (fun again' j y hy=> ?_) (fun again'=> ?_)).trans ?_
  ·have hj:=Zh hy
   have hi':Zn (.lst ((n.wires.take k).map Z6)) (.int .i64 (j:Int))=some (Z6 y):=Zm hy
   simp only[Z5 hj,Zk hj (by simp;omega),hi',Z6,EVS]
   obtain c5|c5:=(Bool.eq_false_or_eq_true (decide (y.name=w.name))).symm<;>simp only[c5,EVS]
  ·simp only[Zau,Zk hk hwl,EVS]
  ·rfl
 ·simp only[Zau,EVS]
 ·cases ZU (Zcx n) 0 n.wires<;>simp only[EVS]
theorem Zav (n lo hi:Int):Zal [pI n,pI lo,pI hi]=some (pB (inR n lo hi)):=by
 show (fun x0 x1 x2=>Zal [x0,x1,x2]) _ _ _=_
 rw[ZqV]
 unfold inR
 by_cases h:lo≤n<;>simp only[h,EVS]
def Zkq (k:Nat) (b:UInt8):Bool:=(decide ((97:Int)≤b.toNat)&&decide ((b.toNat:Int)≤122))||(!decide ((k:Int)=0)&&(decide ((48:Int)≤b.toNat)&&decide ((b.toNat:Int)≤57)))
def Zo1 (s:List UInt8):Bool:=ZU Zkq 0 s&&inR s.length 1 6
theorem Zsh (s:List UInt8) (hs:s.length≤9223372036854775807):ZdC [.str s]=some (pB (Zo1 s)):=by
 show (fun x0=>ZdC [x0]) _=_
 rw[ZqY]
 refine (congrArg (Zf true) (Z8 (R:=PV) s Zkq (some (pB false)) (some (pB (inR s.length 1 6))) _ hs (fun again k b hb=> ?_) (fun again=> ?_))).trans ?_
 ·have hk:=Zh hb
  simp only[Zkq,Z5 hk,Zk hk hs,Zr hb,EVS]
  obtain c1|c1:=(Bool.eq_false_or_eq_true (decide ((97:Int)≤b.toNat))).symm<;>simp only[c1,Zr hb,EVS]
  all_goals (obtain c2|c2:=(Bool.eq_false_or_eq_true (decide ((b.toNat:Int)≤122))).symm<;>try simp only[c2,Zr hb,EVS])
  all_goals (obtain c3|c3:=(Bool.eq_false_or_eq_true (decide ((48:Int)≤b.toNat))).symm<;>try simp only[c3,Zr hb,EVS])
  all_goals (obtain c4|c4:=(Bool.eq_false_or_eq_true (decide ((b.toNat:Int)≤57))).symm<;>try simp only[c4,Zr hb,EVS])
  all_goals (obtain c5|c5:=(Bool.eq_false_or_eq_true (decide ((k:Int)=0))).symm<;>try simp only[c5,EVS])
 ·simp only[Zau,Zav,EVS]
 ·unfold Zo1
  cases ZU Zkq 0 s<;>simp only[EVS]
theorem Zmp :∀(l:List UInt8) (k:Nat),ZiO (k==0) l=ZU Zkq k l
 |[],_=>rfl
 | b::r,k=>by
  have h:=Zmp r (k+1)
  have h1:(k+1==0)=false:=rfl
  rw[h1] at h
  unfold ZiO ZU
  rw[h]
  congr 1
  unfold Zwa Zkq
  have e1:decide ((48:Int)≤b.toNat)= !decide ((b.toNat:Int)<48):=by rw[Bool.eq_iff_iff];simp
  have e2:decide ((b.toNat:Int)≤57)= !decide ((57:Int)<b.toNat):=by rw[Bool.eq_iff_iff];simp
  have e3:decide ((k:Int)=0)=(k==0):=by rw[Bool.eq_iff_iff];simp
  rw[e1,e2,e3]
theorem ZwZ (s:List UInt8):ZaA s=Zo1 s:=by
 unfold ZaA Zo1 inR
 rw[←Zmp s 0]
 rfl
theorem ZkS (s:List UInt8) (hs:s.length≤9223372036854775807):ZdC [.str s]=some (pB (ZaA s)):=(Zsh s hs).trans (by rw[ZwZ])
def Zfo (s:List UInt8) (n:Int):Bool:=ZU (fun _ b=>ZkR b) 0 s&&(decide ((s.length:Int)=n)&&inR n 1 8)
theorem Zsi (s:List UInt8) (n:Int) (hs:s.length≤9223372036854775807):Zgq [.str s,pI n]=some (pB (Zfo s n)):=by
 show (fun x0 x1=>Zgq [x0,x1]) _ _=_
 rw[Zq0]
 refine (congrArg (Zf true) (Z8 (R:=PV) s (fun _ b=>ZkR b) (some (pB false)) (some (pB (decide ((s.length:Int)=n)&&inR n 1 8))) _ hs (fun again k b hb=> ?_) (fun again=> ?_))).trans ?_
 ·have hk:=Zh hb
  simp only[ZkR,Z5 hk,Zk hk hs,Zr hb,EVS]
  obtain c1|c1:=(Bool.eq_false_or_eq_true (decide ((b.toNat:Int)=48))).symm<;>simp only[c1,Zr hb,EVS]
  obtain c2|c2:=(Bool.eq_false_or_eq_true (decide ((b.toNat:Int)=49))).symm<;>simp only[c2,Zr hb,EVS]
  obtain c3|c3:=(Bool.eq_false_or_eq_true (decide ((b.toNat:Int)=45))).symm<;>simp only[c3,Zr hb,EVS]
 ·simp only[Zau,EVS]
  obtain c1|c1:=(Bool.eq_false_or_eq_true (decide ((s.length:Int)=n))).symm<;>simp only[c1,Zav,EVS]
 ·unfold Zfo
  cases ZU (fun _ b=>ZkR b) 0 s<;>simp only[EVS]
def ixf {α:Type} (q:α→Bool):Nat→List α→Int
 |_,[]=> -1
 |k,x::r=>if q x=true then (k:Int) else ixf q (k+1) r
theorem ZtL {α:Type} (q:α→Bool):∀(l:List α) (k:Nat),rgo (fun k x=>if q x=true then some (some (pI (k:Int))) else none) (some (pI (-1))) k l=some (pI (ixf q k l))
 |[],k=>rfl
 | x::r,k=>by
  unfold rgo ixf
  cases q x
  ·simp[ZtL q r (k+1)]
  ·simp
theorem Zfp {α:Type} (q:α→Bool):∀(l:List α) (k:Nat),decide ((0:Int)≤ixf q k l)= !ZU (fun _ x=> !q x) k l
 |[],k=>rfl
 | x::r,k=>by
  unfold ixf ZU
  cases q x
  ·simp[Zfp q r (k+1)]
  ·simp
theorem ZdM {α:Type} (l:List α) (q:α→Bool) (f:(List PV→Option PV)→List PV→Option PV) (hl:l.length≤9223372036854775807)
 (h1:∀again k x,l[k]?=some x→f again [pI (Int.ofNat k)]=if q x=true then some (pI (k:Int)) else again [pI (Int.ofNat (k+1))])
 (h2:∀again,f again [pI (Int.ofNat l.length)]=some (pI (-1))):Zs f 18446744073709551616 [pI (Int.ofNat 0)]=some (pI (ixf q 0 l)):=by
 rw[ZrM l (fun k x=>if q x=true then some (some (pI (k:Int))) else none) (some (pI (-1))) f hl (fun again k x hx=> ?_) h2,ZtL]
 rw[h1 again k x hx]
 cases q x<;>simp
theorem Zmq (l:List PV):Zde 1 (.tup [.agg l])=some [.agg l]:=by simp[Zde,PV.parts,PV.isU]
theorem Zkr (a x:List UInt8×Int):ZcA [Zaa a,Zaa x]=some (pB (decide (a.1=x.1))):=by
 show (fun x0 x1=>ZcA [x0,x1]) _ _=_
 rw[ZjV]
 simp only[Zaa,List.drop_zero,EVS]
theorem Zbz (l:List (List UInt8×Int)) (x:List UInt8×Int) (hl:ZG l):Zy [.lst (l.map Zaa),.tup [Zaa x]]=some (pI (ixf (fun a=>decide (a.1=x.1)) 0 l)):=by
 show (fun x0 x1=>Zy [x0,x1]) _ _=_
 rw[Zbt]
 unfold ZG at hl
 simp only[EVS]
 refine (congrArg (Zf true) (ZdM l (fun a=>decide (a.1=x.1)) _ hl (fun again k a hb=> ?_) (fun again=> ?_))).trans ?_
 ·have hk:=Zh hb
  have hi:Zn (.lst (l.map Zaa)) (.int .i64 (k:Int))=some (Zaa a):=Zm hb
  have g:=Zkr a x
  simp only[Zaa] at g
  simp only[Z5 hk,Zk hk hl,hi,Zaa,Zmq,List.cons_append,List.nil_append,g,EVS]
 ·simp only[Zau,EVS]
  rfl
 ·simp only[EVS]
theorem Zbc (l:List (List UInt8×Int)) (x:List UInt8×Int) (hl:ZG l):Zu [.lst (l.map Zaa),.tup [Zaa x]]=some (pB (!ZU (fun _ a=> !decide (a.1=x.1)) 0 l)):=by
 show (fun x0 x1=>Zu [x0,x1]) _ _=_
 rw[Za6]
 simp only[Zbz l x hl,Zfp (fun a:List UInt8×Int=>decide (a.1=x.1)) l 0,EVS]
theorem Znp (p:Int×Bool) (n:Nat) (hn:n≤9223372036854775807):ZdO [Zaq p,.agg [pI n]]=some (pB (!inR p.1 0 ((n:Int) - 1))):=by
 have hwl:IntKind.i64.wrap ((n:Int) - 1)=(n:Int) - 1:=Zdc (by omega) (by omega)
 show (fun x0 x1=>ZdO [x0,x1]) _ _=_
 rw[ZmR]
 simp only[Zaq,hwl,Zav,EVS]
theorem Zcy (l:List (Int×Bool)) (n:Nat) (hn:n≤9223372036854775807) (hl:ZG l):ZR [.lst (l.map Zaq),.tup [.agg [pI n]]]=some (pI (ixf (fun p=> !inR p.1 0 ((n:Int) - 1)) 0 l)):=by
 show (fun x0 x1=>ZR [x0,x1]) _ _=_
 rw[Zco]
 unfold ZG at hl
 simp only[EVS]
 refine (congrArg (Zf true) (ZdM l (fun p=> !inR p.1 0 ((n:Int) - 1)) _ hl (fun again k a hb=> ?_) (fun again=> ?_))).trans ?_
 ·have hk:=Zh hb
  have hi:Zn (.lst (l.map Zaq)) (.int .i64 (k:Int))=some (Zaq a):=Zm hb
  have g:=Znp a n hn
  simp only[Zaq] at g
  simp only[Z5 hk,Zk hk hl,hi,Zaq,Zmq,List.cons_append,List.nil_append,g,EVS]
 ·simp only[Zau,EVS]
  rfl
 ·simp only[EVS]
def ZcE (l:List (Int×Bool)) (n:Nat):Bool:=ZU (fun _ p=>inR p.1 0 ((n:Int) - 1)) 0 l
theorem ZkT (l:List (Int×Bool)) (n:Nat) (hn:n≤9223372036854775807) (hl:ZG l):ZdZ [.lst (l.map Zaq),pI n]=some (pB (ZcE l n)):=by
 have g:ZH [.lst (l.map Zaq),.tup [.agg [pI n]]]=some (pB (!ZU (fun _ p=>inR p.1 0 ((n:Int) - 1)) 0 l)):=by
  show (fun x0 x1=>ZH [x0,x1]) _ _=_
  rw[Zb0]
  simp only[Zcy l n hn hl,Zfp (fun p:Int×Bool=> !inR p.1 0 ((n:Int) - 1)) l 0,Bool.not_not,EVS]
 show (fun x0 x1=>ZdZ [x0,x1]) _ _=_
 rw[Zpi]
 have lt:∀{R:Type} (l:List PV) (x:Option R),Za [.tup l] x=x:=fun l x=>(Eq.refl _).trans (Eq.refl _)
 simp only[lt,g,List.drop_zero,Bool.not_not,ZcE,EVS]
theorem Zo2 (w:PWire) (x:List UInt8):Zeb [Z6 w,.agg [.str x]]=some (pB (decide (w.name=x))):=by
 show (fun x0 x1=>Zeb [x0,x1]) _ _=_
 rw[Znw]
 simp only[Z6,List.drop_zero,EVS]
theorem Zsj (l:List PWire) (x:List UInt8) (hl:ZG l):Zgo [.lst (l.map Z6),.str x]=some (pI (ixf (fun w:PWire=>decide (w.name=x)) 0 l)):=by
 unfold ZG at hl
 have g:ZS [.lst (l.map Z6),.tup [.agg [.str x]]]=some (pI (ixf (fun w:PWire=>decide (w.name=x)) 0 l)):=by
  show (fun x0 x1=>ZS [x0,x1]) _ _=_
  rw[Zcq]
  simp only[EVS]
  refine (congrArg (Zf true) (ZdM l (fun w:PWire=>decide (w.name=x)) _ hl (fun again k a hb=> ?_) (fun again=> ?_))).trans ?_
  ·have hk:=Zh hb
   have hi:Zn (.lst (l.map Z6)) (.int .i64 (k:Int))=some (Z6 a):=Zm hb
   have g:=Zo2 a x
   simp only[Z6] at g
   simp only[Z5 hk,Zk hk hl,hi,Z6,Zmq,List.cons_append,List.nil_append,g,EVS]
  ·simp only[Zau,EVS]
   rfl
  ·simp only[EVS]
 show (fun x0 x1=>Zgo [x0,x1]) _ _=_
 rw[ZqX]
 have lt:∀{R:Type} (l:List PV) (x:Option R),Za [.tup l] x=x:=fun l x=>(Eq.refl _).trans (Eq.refl _)
 simp only[lt,g,List.drop_zero,Bool.not_not,EVS]
theorem ZiP (c:List UInt8) (n:Int) (hc:ZG c):ZbK [.str c,.agg [pI n]]=some (pB (!Zfo c n)):=by
 show (fun x0 x1=>ZbK [x0,x1]) _ _=_
 rw[Zib]
 simp only[Zsi c n hc,EVS]
theorem Zbi (l:List (List UInt8)) (n:Int) (hl:ZG l) (hc:∀c∈l,ZG c):Zw [.lst (l.map PV.str),.tup [.agg [pI n]]]=some (pI (ixf (fun c:List UInt8=> !Zfo c n) 0 l)):=by
 unfold ZG at hl
 show (fun x0 x1=>Zw [x0,x1]) _ _=_
 rw[Zbf]
 simp only[EVS]
 refine (congrArg (Zf true) (ZdM l (fun c:List UInt8=> !Zfo c n) _ hl (fun again k a hb=> ?_) (fun again=> ?_))).trans ?_
 ·have hk:=Zh hb
  have hi:Zn (.lst (l.map PV.str)) (.int .i64 (k:Int))=some (.str a):=Zm hb
  have g:=ZiP a n (hc a (List.mem_of_getElem? hb))
  simp only[Z5 hk,Zk hk hl,hi,Zmq,List.cons_append,List.nil_append,g,EVS]
 ·simp only[Zau,EVS]
  rfl
 ·simp only[EVS]
theorem eqPin (a c:Int) (b d:Bool):eqV (some [(0,TD.int .i64),(1,TD.bool)]) .struct (.agg [pI a,pB b]) (.agg [pI c,pB d])=some (decide (a=c)&&(b==d)):=by
 simp[eqV,ZlW,scEq,Zfi]
theorem Zw0 :ZC.bool.pv=pB false:=(Eq.refl _).trans (Eq.refl _)
theorem sp12 (a b c:PV):splice [a,b] 0 [c]=[c,b]:=(Eq.refl _).trans (Eq.refl _)
def Zfq (n:Int) (l:List (List UInt8)):Bool:=(inR n 1 8&&decide ((l.length:Int)≤60))&&ZU (fun _ c=>Zfo c n) 0 l
def ZeD (n:PNet) (k:Nat) (w:PWire):Bool:=
 if decide (w.kind=1)=true then decide ((w.ins.length:Int)=0)
 else if (decide (w.kind=2)||decide (w.kind=3))=true then inR w.ins.length 1 8
 else if decide (w.kind=4)=true then decide ((w.ins.length:Int)=2)
 else if decide (w.kind=5)=true then Zfq n.signals.length w.cover&&(decide ((w.ins.length:Int)=0)||(match w.ins with|[p]=>decide (p.1=(k:Int))&&(p.2==false)|_=>false))
 else false
def ZqI (n:PNet) (k:Nat) (w:PWire):Bool:= !((!decide (w.kind=5)&&decide ((0:Int)<w.cover.length))|| !ZcE w.ins n.wires.length)&&ZeD n k w
theorem Zsk (h160:∀(n:Int) (l:List (List UInt8)),ZG l→(∀c∈l,ZG c)→Zbr [pI n,.lst (l.map PV.str)]=some (pB (Zfq n l))) (n:PNet) (k:Nat) (w:PWire) (hn:n.Fit) (hk:n.wires[k]?=some w):Zgr [Z3 n,pI k]=some (pB (ZqI n k w)):=by
 have hw:=hn.wire w (List.mem_of_getElem? hk)
 have g1:=h160 n.signals.length w.cover hw.cover hw.cubes
 have hwl:=hn.wires
 unfold ZG at hwl
 have g2:=ZkT w.ins n.wires.length hwl hw.ins
 have hi:Zn (.lst (n.wires.map Z6)) (.int .i64 (k:Int))=some (Z6 w):=Zm hk
 show (fun x0 x1=>Zgr [x0,x1]) _ _=_
 rw[Zq2]
 simp only[Z3,hi,Z6,EVS]
 unfold ZqI
 obtain c1|c1:=(Bool.eq_false_or_eq_true (!decide (w.kind=5))).symm<;>simp only[c1,g2,EVS]
 ·obtain c2|c2:=(Bool.eq_false_or_eq_true (ZcE w.ins n.wires.length)).symm<;>simp only[c1,c2,g2,EVS]
  have c5:decide (w.kind=5)=true:=by simpa using c1
  have e1:decide (w.kind=1)=false:=by have:=of_decide_eq_true c5;simp;omega
  have e2:decide (w.kind=2)=false:=by have:=of_decide_eq_true c5;simp;omega
  have e3:decide (w.kind=3)=false:=by have:=of_decide_eq_true c5;simp;omega
  have e4:decide (w.kind=4)=false:=by have:=of_decide_eq_true c5;simp;omega
  simp only[ZdT,ZeD,e1,e2,e3,e4,c5,g1,EVS]
  obtain c3|c3:=(Bool.eq_false_or_eq_true (Zfq n.signals.length w.cover)).symm<;>simp only[c3,EVS]
  have h01:decide ((0:Int)=1)=false:=rfl
  have h00:decide ((0:Int)=0)=true:=rfl
  have h11:decide ((1:Int)=1)=true:=rfl
  have h10:decide ((1:Int)=0)=false:=rfl
  rcases hq:w.ins with _|⟨p,_|⟨q,r⟩⟩
  ·simp only[List.length_nil,h00,EVS]
  ·have hi:Zn (.lst ([p].map Zaq)) (.int .i64 0)=some (Zaq p):=rfl
   simp only[List.length_cons,List.length_nil,Nat.zero_add,h11,h10,hi,Zaq,Zw0,sp12,eqPin,List.drop_zero,List.drop_succ_cons,EVS]
  ·have h2:decide (((r.length+1+1:Nat):Int)=0)=false:=by simp;omega
   have h3:decide (((r.length+1+1:Nat):Int)=1)=false:=by simp;omega
   simp only[List.length_cons,h2,h3,EVS]
 ·have c5:decide (w.kind=5)=false:=by simpa using c1
  obtain c2|c2:=(Bool.eq_false_or_eq_true (decide ((0:Int)<w.cover.length))).symm<;>simp only[c1,c2,g2,EVS]
  obtain c3|c3:=(Bool.eq_false_or_eq_true (ZcE w.ins n.wires.length)).symm<;>simp only[c3,EVS]
  simp only[ZdT,ZeD,c5,EVS]
  obtain e1|e1:=(Bool.eq_false_or_eq_true (decide (w.kind=1))).symm<;>simp only[e1,EVS]
  obtain e2|e2:=(Bool.eq_false_or_eq_true (decide (w.kind=2))).symm<;>simp only[e2,Zav,EVS]
  obtain e3|e3:=(Bool.eq_false_or_eq_true (decide (w.kind=3))).symm<;>simp only[e3,Zav,EVS]
  obtain e4|e4:=(Bool.eq_false_or_eq_true (decide (w.kind=4))).symm<;>simp only[e4,EVS]
theorem Zks (n:Int) (l:List (List UInt8)) (hl:ZG l) (hc:∀c∈l,ZG c):Zbr [pI n,.lst (l.map PV.str)]=some (pB (Zfq n l)):=by
 have g:Zt [.lst (l.map PV.str),.tup [.agg [pI n]]]=some (pB (!ZU (fun _ c=>Zfo c n) 0 l)):=by
  show (fun x0 x1=>Zt [x0,x1]) _ _=_
  rw[ZaZ]
  simp only[Zbi l n hl hc,Zfp (fun c:List UInt8=> !Zfo c n) l 0,Bool.not_not,EVS]
 show (fun x0 x1=>Zbr [x0,x1]) _ _=_
 rw[ZjT]
 simp only[Zav,Zhc,List.drop_zero,Zfq,EVS]
 obtain c1|c1:=(Bool.eq_false_or_eq_true (inR n 1 8)).symm<;>simp only[c1,EVS]
 obtain c2|c2:=(Bool.eq_false_or_eq_true (decide ((l.length:Int)≤60))).symm<;>simp only[c2,Zhc,g,Bool.not_not,EVS]
def Zkt (l:List (List UInt8×Int)) (k:Nat) (s:List UInt8×Int):Bool:=(ZaA s.1&&inR s.2 1 3)&&ZU (fun _ a=> !decide (a.1=s.1)) 0 (l.take k)
def Zoa (l:List (List UInt8×Int)):Bool:=ZU (Zkt l) 0 l&&inR l.length 1 8
theorem Zhq (l:List (List UInt8×Int)) (hl:ZG l) (hs:∀s∈l,ZG s.1):Zcr [.lst (l.map Zaa)]=some (pB (Zoa l)):=by
 unfold ZG at hl
 show (fun x0=>Zcr [x0]) _=_
 rw[Zk9]
 simp only[EVS]
 refine (congrArg (Zf true) (Z8 (R:=PV) l (Zkt l) (some (pB false)) (some (pB (inR l.length 1 8))) _ hl (fun again k s hb=> ?_) (fun again=> ?_))).trans ?_
 ·have hk:=Zh hb
  have hi:Zn (.lst (l.map Zaa)) (.int .i64 (k:Int))=some (Zaa s):=Zm hb
  have hc:Zk3 2 (.lst (l.map Zaa)) none (some (.int .i64 (k:Int)))=some (.lst ((l.take k).map Zaa)):=Zll Zn9 (by omega)
  have hn:=ZkS s.1 (hs s (List.mem_of_getElem? hb))
  have g:=Zbc (l.take k) s (by show (l.take k).length≤_;simp;omega)
  simp only[Zaa] at g
  simp only[Z5 hk,Zk hk hl,hi,Zaa,hn,Zkt,EVS]
  obtain c1|c1:=(Bool.eq_false_or_eq_true (ZaA s.1)).symm<;>simp only[c1,Zav,EVS]
  obtain c2|c2:=(Bool.eq_false_or_eq_true (inR s.2 1 3)).symm<;>simp only[c2,EVS]
  simp only[hc,List.drop_zero,Zhc,g,EVS]
  obtain c3|c3:=(Bool.eq_false_or_eq_true (ZU (fun _ (a:List UInt8×Int)=> !decide (a.1=s.1)) 0 (l.take k))).symm<;>simp only[c3,EVS]
 ·simp only[Zau,Zav,EVS]
 ·unfold Zoa
  cases ZU (Zkt l) 0 l<;>simp only[EVS]
def ZeE (n:PNet) (k:Nat) (w:PWire):Bool:=
 (ZqI n k w&&ZaA w.name&&ZU (fun _ v=> !decide (v.name=w.name)) 0 (n.wires.take k))&&
 (if decide ((k:Int)<(n.signals.length:Int))=true then ZfH n k w else (decide (w.kind=2)||decide (w.kind=3))&&ZcE w.ins k)
def netI (n:PNet):Bool:=(Zoa n.signals&&inR n.wires.length n.signals.length 24)&&ZU (ZeE n) 0 n.wires
theorem ZiQ (n:PNet) (hn:n.Fit):ZbL [Z3 n]=some (pB (netI n)):=by
 have g1:=Zhq n.signals hn.signals hn.names
 have hwl:=hn.wires
 unfold ZG at hwl
 show (fun x0=>ZbL [x0]) _=_
 rw[Zid]
 simp only[Z3,g1,EVS]
 unfold netI
 obtain c1|c1:=(Bool.eq_false_or_eq_true (Zoa n.signals)).symm<;>simp only[c1,Zav,EVS]
 obtain c2|c2:=(Bool.eq_false_or_eq_true (inR n.wires.length n.signals.length 24)).symm<;>simp only[c2,EVS]
 refine (congrArg (Zf true) (Z8 (R:=PV) n.wires (ZeE n) (some (pB false)) (some (pB true)) _ hwl (fun again k w hb=> ?_) (fun again=> ?_))).trans ?_
 ·have hk:=Zh hb
  have hw:=hn.wire w (List.mem_of_getElem? hb)
  have hi:Zn (.lst (n.wires.map Z6)) (.int .i64 (k:Int))=some (Z6 w):=Zm hb
  have hc:Zk3 4 (.lst (n.wires.map Z6)) none (some (.int .i64 (k:Int)))=some (.lst ((n.wires.take k).map Z6)):=Zll Zmo (by omega)
  have g2:=Zsk Zks n k w hn hb
  have g3:=ZkS w.name hw.name
  have g4:=Zsj (n.wires.take k) w.name (by show (n.wires.take k).length≤_;simp;omega)
  have g5:=ZkT w.ins k (by omega) hw.ins
  simp only[Z3] at g2
  simp only[Z5 hk,Zk hk hwl,hi,Z6,ZeE,g2,EVS]
  obtain c1|c1:=(Bool.eq_false_or_eq_true (ZqI n k w)).symm<;>simp only[c1,g3,EVS]
  obtain c2|c2:=(Bool.eq_false_or_eq_true (ZaA w.name)).symm<;>simp only[c2,hc,g4,EVS]
  simp only[Zfp (fun v:PWire=>decide (v.name=w.name)) (n.wires.take k) 0]
  obtain c3|c3:=(Bool.eq_false_or_eq_true (ZU (fun _ (v:PWire)=> !decide (v.name=w.name)) 0 (n.wires.take k))).symm<;>simp only[c3,ZdT,EVS]
  obtain c4|c4:=(Bool.eq_false_or_eq_true (decide ((k:Int)<(n.signals.length:Int)))).symm<;>simp only[c4,EVS]
  ·obtain c5|c5:=(Bool.eq_false_or_eq_true (decide (w.kind=2))).symm<;>simp only[c5,g5,EVS]
   ·obtain c6|c6:=(Bool.eq_false_or_eq_true (decide (w.kind=3))).symm<;>simp only[c6,g5,EVS]
    obtain c7|c7:=(Bool.eq_false_or_eq_true (ZcE w.ins k)).symm<;>simp only[c7,Zk hk hwl,EVS]
   ·obtain c7|c7:=(Bool.eq_false_or_eq_true (ZcE w.ins k)).symm<;>simp only[c7,Zk hk hwl,EVS]
  ·have hks:k<n.signals.length:=by have:=of_decide_eq_true c4;omega
   have hs:n.signals[k]?=some n.signals[k]:=List.getElem?_eq_getElem hks
   have hi2:Zn (.lst (n.signals.map Zaa)) (.int .i64 (k:Int))=some (Zaa n.signals[k]):=Zm hs
   simp only[ZfH,hs,hi2,Zaa,List.drop_zero,List.drop_succ_cons,EVS]
   obtain c5|c5:=(Bool.eq_false_or_eq_true (decide (w.name=n.signals[k].1))).symm<;>simp only[c5,hi2,Zaa,List.drop_zero,List.drop_succ_cons,EVS]
   obtain c6|c6:=(Bool.eq_false_or_eq_true (decide (w.kind=1)==decide (n.signals[k].2=1))).symm<;>simp only[bne,c6,Zk hk hwl,EVS]
 ·simp only[Zau,EVS]
 ·cases ZU (ZeE n) 0 n.wires<;>simp only[EVS]
theorem Zar {α:Type} (q:α→Bool):∀(l:List α) (k:Nat),ZU (fun _ x=>q x) k l=l.all q
 |[],_=>rfl
 |x::r,k=>by unfold ZU;rw[Zar q r (k+1),List.all_cons]
theorem ZdB {α:Type} (f g:Nat→α→Bool) (h:∀k x,f k x=g k x):∀(l:List α) (k:Nat),ZU f k l=ZU g k l
 |[],_=>rfl
 |x::r,k=>by unfold ZU;rw[h k x,ZdB f g h r (k+1)]
theorem ZtM (l:List (List UInt8×Int)):Zio l=Zoa l:=by
 unfold Zio Zoa
 rw[ZdB (Zn8 l) (Zkt l) (fun k x=> ?_) l 0]
 unfold Zn8 Zkt
 rw[ZdB (fun _ (y:List UInt8×Int)=> !decide (x.1=y.1)) (fun _ (y:List UInt8×Int)=> !decide (y.1=x.1)) (fun _ y=>by simp[eq_comm]) _ 0]
theorem Zwb (n:Int) (l:List (List UInt8)):Zmm n l=Zfq n l:=by
 unfold Zmm Zfq Zlu
 rw[Bool.and_comm,Bool.eq_iff_iff]
 simp only[Bool.and_eq_true]
 refine and_congr_right fun h=> ?_
 rw[ZdB (fun _ c=>ZjH c&&decide ((c.length:Int)=n)) (fun _ c=>Zfo c n) (fun _ c=> ?_) l 0]
 unfold ZjH Zfo inR
 rw[Bool.eq_iff_iff]
 simp only[Bool.and_eq_true,decide_eq_true_eq]
 constructor
 ·rintro ⟨⟨h1,h2,h3⟩,h4⟩
  exact ⟨h1,h4,by omega,by omega⟩
 ·rintro ⟨h1,h2,h3,h4⟩
  exact ⟨⟨h1,by omega,by omega⟩,h2⟩
theorem ZuH (n:PNet) (k:Nat) (l:List (Int×Bool)) (h:k<n.signals.length):ZU (fun _ p=>Ziq n k p) 0 l=ZcE l n.wires.length:=by
 unfold ZcE
 refine ZdB _ _ (fun _ p=> ?_) l 0
 unfold Ziq
 have:decide ((n.signals.length:Int)≤k)=false:=by simp;omega
 rw[this]
 simp
theorem ZuI (n:PNet) (k:Nat) (l:List (Int×Bool)) (h:¬k<n.signals.length):ZU (fun _ p=>Ziq n k p) 0 l=(ZcE l n.wires.length&&ZcE l k):=by
 unfold ZcE
 rw[Zar,Zar,Zar,Bool.eq_iff_iff]
 have:decide ((n.signals.length:Int)≤k)=true:=by simp;omega
 simp only[Bool.and_eq_true,List.all_eq_true,Ziq,inR,this,Bool.true_and,Bool.not_eq_true',decide_eq_true_eq,decide_eq_false_iff_not]
 constructor
 ·intro h
  exact ⟨fun p hp=>(h p hp).1,fun p hp=>⟨(h p hp).1.1,by have:=(h p hp).2;omega⟩⟩
 ·rintro ⟨h1,h2⟩ p hp
  exact ⟨h1 p hp,by have:=(h2 p hp).2;omega⟩
theorem Zw2 (n:PNet) (k:Nat) (w:PWire):(inR w.kind 1 5&&((if decide (w.kind=5)=true then Zfq n.signals.length w.cover else !decide ((0:Int)<w.cover.length))&&ZeX k w.kind w.ins))=(!(!decide (w.kind=5)&&decide ((0:Int)<w.cover.length))&&ZeD n k w):=by
 unfold ZeX ZeD
 by_cases h1:w.kind=1
 ·simp[h1,inR]
 by_cases h2:w.kind=2
 ·simp[h2,inR]
 by_cases h3:w.kind=3
 ·simp[h3,inR]
 by_cases h4:w.kind=4
 ·simp[h4,inR]
 by_cases h5:w.kind=5
 ·obtain ⟨nm,kd,ins,cov⟩:=w
  simp only at h5
  rcases ins with _|⟨p,_|⟨q,r⟩⟩<;>simp[h5,inR]
 ·have:inR w.kind 1 5=false:=by
   unfold inR
   simp only[Bool.and_eq_false_iff,decide_eq_false_iff_not]
   omega
  simp[this,h1,h2,h3,h4,h5]
theorem Zw3 (n:PNet) (k:Nat) (w:PWire):Zcx n k w=ZeE n k w:=by
 unfold Zcx ZeE Zmn ZqI ZqE
 have hf:=Zw2 n k w
 rw[Zwb]
 by_cases hk:k<n.signals.length
 ·have hd:decide ((k:Int)<(n.signals.length:Int))=true:=by simpa using hk
  rw[ZuH n k w.ins hk]
  simp only[hd,if_true,Bool.true_or,Bool.not_true,Bool.false_or,Bool.not_false,Bool.false_eq_true,if_false,Bool.true_and]
  revert hf
  generalize inR w.kind 1 5=a1
  generalize (if decide (w.kind=5)=true then Zfq (↑n.signals.length) w.cover else !decide ((0:Int)<↑w.cover.length))=a2
  generalize ZeX k w.kind w.ins=a3
  generalize (!decide (w.kind=5)&&decide ((0:Int)<w.cover.length))=a4
  generalize ZeD n k w=a5
  generalize ZcE w.ins n.wires.length=a6
  generalize ZfH n k w=a7
  generalize ZaA w.name=a8
  generalize ZU (fun _ (v:PWire)=> !decide (v.name=w.name)) 0 (n.wires.take k)=a9
  cases a1<;>cases a2<;>cases a3<;>cases a4<;>cases a5<;>cases a6<;>cases a7<;>cases a8<;>cases a9<;>decide
 ·have hd:decide ((k:Int)<(n.signals.length:Int))=false:=by simpa using hk
  rw[ZuI n k w.ins hk]
  simp only[hd,if_true,Bool.true_or,Bool.not_true,Bool.false_or,Bool.not_false,Bool.false_eq_true,if_false,Bool.true_and]
  revert hf
  generalize inR w.kind 1 5=a1
  generalize (if decide (w.kind=5)=true then Zfq (↑n.signals.length) w.cover else !decide ((0:Int)<↑w.cover.length))=a2
  generalize ZeX k w.kind w.ins=a3
  generalize (!decide (w.kind=5)&&decide ((0:Int)<w.cover.length))=a4
  generalize ZeD n k w=a5
  generalize ZcE w.ins n.wires.length=a6
  generalize ZaA w.name=a8
  generalize ZcE w.ins k=a7
  generalize decide (w.kind=2)=b2
  generalize decide (w.kind=3)=b3
  generalize ZU (fun _ (v:PWire)=> !decide (v.name=w.name)) 0 (n.wires.take k)=a9
  cases a1<;>cases a2<;>cases a3<;>cases a4<;>cases a5<;>cases a6<;>cases a7<;>cases a8<;>cases a9<;>cases b2<;>cases b3<;>decide
theorem net_eq (n:PNet):Zfn n=netI n:=by
 unfold Zfn netI
 rw[ZtM,ZdB (Zcx n) (ZeE n) (fun k x=>Zw3 n k x) n.wires 0]
 congr 2
 unfold inR
 rw[Bool.eq_iff_iff]
 simp
def Zgd (b:UInt8):Bool:=decide ((b.toNat:Int)=48)||decide ((b.toNat:Int)=49)
def ZX (s:List UInt8) (n:Int):Bool:=ZU (fun _ b=>Zgd b) 0 s&&decide ((s.length:Int)=n)
theorem Zsl (s:List UInt8) (n:Int) (hs:ZG s):Zgy [.str s,pI n]=some (pB (ZX s n)):=by
 unfold ZG at hs
 show (fun x0 x1=>Zgy [x0,x1]) _ _=_
 rw[Zq9]
 refine (congrArg (Zf true) (Z8 (R:=PV) s (fun _ b=>Zgd b) (some (pB false)) (some (pB (decide ((s.length:Int)=n)))) _ hs (fun again k b hb=> ?_) (fun again=> ?_))).trans ?_
 ·have hk:=Zh hb
  simp only[Zgd,Z5 hk,Zk hk hs,Zr hb,EVS]
  obtain c1|c1:=(Bool.eq_false_or_eq_true (decide ((b.toNat:Int)=48))).symm<;>simp only[c1,Zr hb,EVS]
  obtain c2|c2:=(Bool.eq_false_or_eq_true (decide ((b.toNat:Int)=49))).symm<;>simp only[c2,Zr hb,EVS]
 ·simp only[Zau,EVS]
 ·unfold ZX
  cases ZU (fun _ b=>Zgd b) 0 s<;>simp only[EVS]
theorem Zsm (s:List UInt8) (n:Int) (hs:ZG s):Zgu [.str s,pI n]=some (pB (ZX s n)):=by
 unfold ZG at hs
 show (fun x0 x1=>Zgu [x0,x1]) _ _=_
 rw[Zq6]
 refine (congrArg (Zf true) (Z8 (R:=PV) s (fun _ b=>Zgd b) (some (pB false)) (some (pB (decide ((s.length:Int)=n)))) _ hs (fun again k b hb=> ?_) (fun again=> ?_))).trans ?_
 ·have hk:=Zh hb
  simp only[Zgd,Z5 hk,Zk hk hs,Zr hb,EVS]
  obtain c1|c1:=(Bool.eq_false_or_eq_true (decide ((b.toNat:Int)=48))).symm<;>simp only[c1,Zr hb,EVS]
  obtain c2|c2:=(Bool.eq_false_or_eq_true (decide ((b.toNat:Int)=49))).symm<;>simp only[c2,Zr hb,EVS]
 ·simp only[Zau,EVS]
 ·unfold ZX
  cases ZU (fun _ b=>Zgd b) 0 s<;>simp only[EVS]
def ZeY (n:PNet) (s:List UInt8):Bool:=Zfn n&&ZX s n.wires.length
def Zc8 (p:Int×Bool) (s:List UInt8):Bool:=match s[p.1.toNat]? with|some b=>decide ((b.toNat:Int)=49) !=p.2|none=>false
theorem Zwc {p:Int×Bool} {s:List UInt8} (h0:0≤p.1) (h1:p.1<s.length):∃b:UInt8,s[p.1.toNat]?=some b∧Zaj (.str s) (pI p.1)=some (pU b):=by
 have h2:p.1.toNat<s.length:=by omega
 refine ⟨s[p.1.toNat],List.getElem?_eq_getElem h2, ?_⟩
 have:=Zr (k:=.i64) (List.getElem?_eq_getElem h2)
 rw[Int.toNat_of_nonneg h0] at this
 exact this
theorem ZiR (p:Int×Bool) (s:List UInt8) (h0:0≤p.1) (h1:p.1<s.length):ZdH [Zaq p,.str s]=some (pB (Zc8 p s)):=by
 obtain ⟨b,hb,hv⟩:=Zwc h0 h1
 show (fun x0 x1=>ZdH [x0,x1]) _ _=_
 rw[Zrf]
 simp only[Zaq,hv,Zc8,hb,bne,EVS]
theorem Zd9 (p:Int×Bool) (s:List UInt8) (h0:0≤p.1) (h1:p.1<s.length):ZbM [Zaq p,.str s]=some (pB (Zc8 p s)):=by
 obtain ⟨b,hb,hv⟩:=Zwc h0 h1
 show (fun x0 x1=>ZbM [x0,x1]) _ _=_
 rw[ZnG]
 simp only[Zaq,hv,Zc8,hb,bne,EVS]
def Zsn (code:List UInt8) (k:Nat) (b:UInt8):Bool:=decide ((b.toNat:Int)=45)||(match code[k]? with|some c=>decide ((b.toNat:Int)=c.toNat)|none=>false)
def Zk5 (cube code:List UInt8):Bool:=ZU (Zsn code) 0 cube
theorem Zso (cube code:List UInt8) (hs:ZG cube) (hl:cube.length≤code.length):ZgC [.str cube,.str code]=some (pB (Zk5 cube code)):=by
 unfold ZG at hs
 show (fun x0 x1=>ZgC [x0,x1]) _ _=_
 rw[Zrh]
 refine (congrArg (Zf true) (Z8 (R:=PV) cube (Zsn code) (some (pB false)) (some (pB true)) _ hs (fun again k b hb=> ?_) (fun again=> ?_))).trans ?_
 ·have hk:=Zh hb
  have hc:code[k]?=some code[k]:=List.getElem?_eq_getElem (by omega)
  simp only[Zsn,hc,Z5 hk,Zk hk hs,Zr hb,Zr hc,EVS]
  obtain c1|c1:=(Bool.eq_false_or_eq_true (decide ((b.toNat:Int)=45))).symm<;>simp only[c1,Zr hb,Zr hc,EVS]
  obtain c2|c2:=(Bool.eq_false_or_eq_true (decide ((b.toNat:Int)=(code[k].toNat:Int)))).symm<;>simp only[c2,EVS]
 ·simp only[Zau,EVS]
 ·unfold Zk5
  cases ZU (Zsn code) 0 cube<;>simp only[EVS]
theorem Zo3 (cube code:List UInt8) (hs:ZG cube) (hl:cube.length≤code.length):Zeh [.str cube,.str code]=some (pB (Zk5 cube code)):=by
 unfold ZG at hs
 show (fun x0 x1=>Zeh [x0,x1]) _ _=_
 rw[ZnI]
 simp only[EVS]
 refine (congrArg (Zf true) (Z8 (R:=PV) cube (Zsn code) (some (pB false)) (some (pB true)) _ hs (fun again k b hb=> ?_) (fun again=> ?_))).trans ?_
 ·have hk:=Zh hb
  have hc:code[k]?=some code[k]:=List.getElem?_eq_getElem (by omega)
  simp only[Zsn,hc,Z5 hk,Zk hk hs,Zr hb,Zr hc,EVS]
  obtain c1|c1:=(Bool.eq_false_or_eq_true (decide ((b.toNat:Int)=45))).symm<;>simp only[c1,Zr hb,Zr hc,EVS]
  obtain c2|c2:=(Bool.eq_false_or_eq_true (decide ((b.toNat:Int)=(code[k].toNat:Int)))).symm<;>simp only[c2,EVS]
 ·simp only[Zau,EVS]
 ·unfold Zk5
  cases ZU (Zsn code) 0 cube<;>simp only[EVS]
def inP (l:List (List UInt8)) (code:List UInt8):Bool:= !ZU (fun _ c=> !Zk5 c code) 0 l
theorem ZuJ (l:List (List UInt8)) (code:List UInt8) (hl:ZG l) (hc:∀c∈l,ZG c∧c.length≤code.length):Zh4 [.lst (l.map PV.str),.str code]=some (pB (inP l code)):=by
 unfold ZG at hl
 show (fun x0 x1=>Zh4 [x0,x1]) _ _=_
 rw[ZsN]
 simp only[EVS]
 refine (congrArg (Zf true) (Z8 (R:=PV) l (fun _ c=> !Zk5 c code) (some (pB true)) (some (pB false)) _ hl (fun again k s hb=> ?_) (fun again=> ?_))).trans ?_
 ·have hk:=Zh hb
  have hi:Zn (.lst (l.map PV.str)) (.int .i64 (k:Int))=some (.str s):=Zm hb
  have hh:=hc s (List.mem_of_getElem? hb)
  have g:=Zso s code hh.1 hh.2
  simp only[Z5 hk,Zk hk hl,hi,g,EVS]
  obtain c1|c1:=(Bool.eq_false_or_eq_true (Zk5 s code)).symm<;>simp only[c1,EVS]
 ·simp only[Zau,EVS]
 ·unfold inP
  cases ZU (fun _ c=> !Zk5 c code) 0 l<;>simp only[EVS]
theorem Zsp (l:List (List UInt8)) (code:List UInt8) (hl:ZG l) (hc:∀c∈l,ZG c∧c.length≤code.length):ZgH [.lst (l.map PV.str),.str code]=some (pB (inP l code)):=by
 have g0:ZJ [.lst (l.map PV.str),.tup [.agg [.str code]]]=some (pI (ixf (fun c:List UInt8=>Zk5 c code) 0 l)):=by
  unfold ZG at hl
  show (fun x0 x1=>ZJ [x0,x1]) _ _=_
  rw[Zb7]
  simp only[EVS]
  refine (congrArg (Zf true) (ZdM l (fun c:List UInt8=>Zk5 c code) _ hl (fun again k a hb=> ?_) (fun again=> ?_))).trans ?_
  ·have hk:=Zh hb
   have hi:Zn (.lst (l.map PV.str)) (.int .i64 (k:Int))=some (.str a):=Zm hb
   have hh:=hc a (List.mem_of_getElem? hb)
   have g:Zei [.str a,.agg [.str code]]=some (pB (Zk5 a code)):=by
    show (fun x0 x1=>Zei [x0,x1]) _ _=_
    rw[ZnK]
    simp only[Zo3 a code hh.1 hh.2,EVS]
   simp only[Z5 hk,Zk hk hl,hi,Zmq,List.cons_append,List.nil_append,g,EVS]
  ·simp only[Zau,EVS]
   rfl
  ·simp only[EVS]
 have g1:ZD [.lst (l.map PV.str),.tup [.agg [.str code]]]=some (pB (inP l code)):=by
  show (fun x0 x1=>ZD [x0,x1]) _ _=_
  rw[ZbC]
  simp only[g0,inP,Zfp (fun c:List UInt8=>Zk5 c code) l 0,EVS]
 show (fun x0 x1=>ZgH [x0,x1]) _ _=_
 rw[Zrj]
 simp only[Zhc,List.drop_zero,g1,EVS]
def Zsq (l:List (Int×Bool)) (s:List UInt8):Prop:=∀p∈l,0≤p.1∧p.1<s.length
theorem ZbX (l:List (Int×Bool)) (s:List UInt8) (hl:ZG l) (hp:Zsq l s):ZE [.lst (l.map Zaq),.tup [.agg [.str s]]]=some (pB (!ZU (fun _ p=>Zc8 p s) 0 l)):=by
 have g0:ZN [.lst (l.map Zaq),.tup [.agg [.str s]]]=some (pI (ixf (fun p:Int×Bool=> !Zc8 p s) 0 l)):=by
  unfold ZG at hl
  show (fun x0 x1=>ZN [x0,x1]) _ _=_
  rw[Zcf]
  simp only[EVS]
  refine (congrArg (Zf true) (ZdM l (fun p:Int×Bool=> !Zc8 p s) _ hl (fun again k a hb=> ?_) (fun again=> ?_))).trans ?_
  ·have hk:=Zh hb
   have hi:Zn (.lst (l.map Zaq)) (.int .i64 (k:Int))=some (Zaq a):=Zm hb
   have hh:=hp a (List.mem_of_getElem? hb)
   have g:=Zd9 a s hh.1 hh.2
   simp only[Zaq] at g
   have g':Zdo [Zaq a,.agg [.str s]]=some (pB (!Zc8 a s)):=by
    show (fun x0 x1=>Zdo [x0,x1]) _ _=_
    rw[Zlf]
    simp only[Zaq,g,EVS]
   simp only[Zaq] at g'
   simp only[Z5 hk,Zk hk hl,hi,Zaq,Zmq,List.cons_append,List.nil_append,g',EVS]
  ·simp only[Zau,EVS]
   rfl
  ·simp only[EVS]
 show (fun x0 x1=>ZE [x0,x1]) _ _=_
 rw[ZbO]
 simp only[g0,Zfp (fun p:Int×Bool=> !Zc8 p s) l 0,Bool.not_not,EVS]
theorem ZbY (l:List (Int×Bool)) (s:List UInt8) (hl:ZG l) (hp:Zsq l s):ZF [.lst (l.map Zaq),.tup [.agg [.str s]]]=some (pB (!ZU (fun _ p=> !Zc8 p s) 0 l)):=by
 have g0:ZO [.lst (l.map Zaq),.tup [.agg [.str s]]]=some (pI (ixf (fun p:Int×Bool=>Zc8 p s) 0 l)):=by
  unfold ZG at hl
  show (fun x0 x1=>ZO [x0,x1]) _ _=_
  rw[Zch]
  simp only[EVS]
  refine (congrArg (Zf true) (ZdM l (fun p:Int×Bool=>Zc8 p s) _ hl (fun again k a hb=> ?_) (fun again=> ?_))).trans ?_
  ·have hk:=Zh hb
   have hi:Zn (.lst (l.map Zaq)) (.int .i64 (k:Int))=some (Zaq a):=Zm hb
   have hh:=hp a (List.mem_of_getElem? hb)
   have g:=Zd9 a s hh.1 hh.2
   simp only[Zaq] at g
   have g':Zdp [Zaq a,.agg [.str s]]=some (pB (Zc8 a s)):=by
    show (fun x0 x1=>Zdp [x0,x1]) _ _=_
    rw[Zlh]
    simp only[Zaq,g,EVS]
   simp only[Zaq] at g'
   simp only[Z5 hk,Zk hk hl,hi,Zaq,Zmq,List.cons_append,List.nil_append,g',EVS]
  ·simp only[Zau,EVS]
   rfl
  ·simp only[EVS]
 show (fun x0 x1=>ZF [x0,x1]) _ _=_
 rw[ZbQ]
 simp only[g0,Zfp (fun p:Int×Bool=>Zc8 p s) l 0,EVS]
def Zk6 (s:List UInt8) (k:Nat):Bool:=match s[k]? with|some b=>decide ((b.toNat:Int)=49)|none=>false
def ZtN (n:PNet) (s:List UInt8) (k:Nat) (w:PWire):Bool:=
 if decide (w.kind=5)=true then inP w.cover (s.take n.signals.length)
 else if decide (w.kind=4)=true then (match w.ins with|[p,q]=>if (Zc8 p s !=Zc8 q s)=true then Zc8 p s else Zk6 s k|_=>Zk6 s k)
 else Zk6 s k
def Zhr (n:PNet) (s:List UInt8) (k:Nat) (w:PWire):Bool:=
 if decide (w.kind=2)=true then ZU (fun _ p=>Zc8 p s) 0 w.ins
 else if decide (w.kind=3)=true then !ZU (fun _ p=> !Zc8 p s) 0 w.ins
 else ZtN n s k w
theorem Zmr (s:List UInt8) (k:Nat) (h:k≤s.length):ZgZ (.str s) none (some (pI (k:Int)))=some (.str (s.take k)):=by
 have:(0:Int)≤(k:Int)∧(k:Int)≤(s.length:Int):=by omega
 simp[ZgZ,Zkf,ZoC,this]
structure At (n:PNet) (s:List UInt8) (k:Nat) (w:PWire):Prop where
 fit:n.Fit
 here:n.wires[k]?=some w
 wire:w.Fit
 fits:ZG s
 lt:k<s.length
 sig:n.signals.length≤s.length
 pins:Zsq w.ins s
 cubes:w.kind=5→∀c∈w.cover,c.length≤n.signals.length
 two:w.kind=4→w.ins.length=2
theorem loop3 {l:List (Int×Bool)} (s:List UInt8) (E:Bool→Bool→Bool) (f:(List PV→Option PV)→List PV→Option PV) (hl:l.length≤9223372036854775807)
 (h1:∀again (a b:Bool) (k:Nat) x,l[k]?=some x→f again [pB a,pB b,pI (k:Int)]=again [pB (a&&Zc8 x s),pB (b||Zc8 x s),pI ((k+1:Nat):Int)])
 (h2:∀again (a b:Bool) (k:Nat),¬k<l.length→f again [pB a,pB b,pI (k:Int)]=some (pB (E a b))):
 Zs f 18446744073709551616 [pB true,pB false,pI (0:Int)]=some (pB (E (ZU (fun _ p=>Zc8 p s) 0 l) (!ZU (fun _ p=> !Zc8 p s) 0 l))):=by
 have key:=Zbp (R:=PV) (fun t:Bool×Bool×Nat=>[pB t.1,pB t.2.1,pI (t.2.2:Int)]) (fun t=>l.length+1 - t.2.2) (fun t=>some (pB (E (t.1&&(l.drop t.2.2).all fun p=>Zc8 p s) (t.2.1|| !(l.drop t.2.2).all fun p=> !Zc8 p s)))) f (fun again t ih=> ?_) 18446744073709551616 (true,false,0) (by simp only;omega)
 ·simp only[Bool.true_and,Bool.false_or,List.drop_zero] at key
  rw[Zar,Zar]
  exact key
 ·obtain ⟨a,b,k⟩:=t
  dsimp only at ih⊢
  by_cases hk:k<l.length
  ·have hx:l[k]?=some l[k]:=List.getElem?_eq_getElem hk
   rw[h1 again a b k _ hx,ih (_,_,k+1) (by simp only;omega),List.drop_eq_getElem_cons hk]
   simp only[List.all_cons,Bool.and_assoc]
   cases Zc8 l[k] s<;>simp
  ·rw[h2 again a b k hk,List.drop_eq_nil_of_le (by omega)]
   simp
theorem ZkU (n:PNet) (s:List UInt8) (k:Nat) (w:PWire) (h:At n s k w):Zd0 [Z3 n,.str s,pI k]=some (pB (Zhr n s k w)):=by
 have hi:Zn (.lst (n.wires.map Z6)) (.int .i64 (k:Int))=some (Z6 w):=Zm h.here
 have hil:=h.wire.ins
 unfold ZG at hil
 show (fun x0 x1 x2=>Zd0 [x0,x1,x2]) _ _ _=_
 rw[Zpx]
 simp only[Z3,hi,Z6,EVS]
 refine (congrArg (Zf true) (loop3 (l:=w.ins) s (fun a b=>if decide (w.kind=2)=true then a else if decide (w.kind=3)=true then b else ZtN n s k w) _ hil (fun again a b j p hb=> ?_) (fun again a b j hj=> ?_))).trans ?_
 ·have hk:=Zh hb
  have hi2:Zn (.lst (w.ins.map Zaq)) (.int .i64 (j:Int))=some (Zaq p):=Zm hb
  have hp:=h.pins p (List.mem_of_getElem? hb)
  have g:=ZiR p s hp.1 hp.2
  simp only[Zaq] at g
  simp only[Z5 hk,Zk hk hil,hi2,Zaq,g,EVS]
  cases a<;>cases b<;>simp only[EVS]
 ·have hlt:decide ((j:Int)<(w.ins.length:Int))=false:=by simp;omega
  simp only[hlt,EVS]
  obtain c1|c1:=(Bool.eq_false_or_eq_true (decide (w.kind=2))).symm<;>simp only[c1,EVS]
  obtain c2|c2:=(Bool.eq_false_or_eq_true (decide (w.kind=3))).symm<;>simp only[c2,EVS]
  have hone:Zk6 s k=decide ((s[k]'h.lt).toNat=(49:Int)):=by unfold Zk6;rw[List.getElem?_eq_getElem h.lt]
  have hbv:Zaj (.str s) (.int .i64 (k:Int))=some (pU (s[k]'h.lt)):=Zr (List.getElem?_eq_getElem h.lt)
  unfold ZtN
  obtain c5|c5:=(Bool.eq_false_or_eq_true (decide (w.kind=5))).symm<;>simp only[c5,EVS]
  ·obtain c4|c4:=(Bool.eq_false_or_eq_true (decide (w.kind=4))).symm<;>simp only[c4,ZdT,hbv,hone,EVS]
   have h2:=h.two (of_decide_eq_true c4)
   have hpins:=h.pins
   revert h2 hpins
   rcases w.ins with _|⟨p,_|⟨q,_|⟨r,t⟩⟩⟩
   ·intro h2;simp at h2
   ·intro h2;simp at h2
   ·intro _ hpins
    have i0:Zn (.lst ([p,q].map Zaq)) (.int .i64 0)=some (Zaq p):=rfl
    have i1:Zn (.lst ([p,q].map Zaq)) (.int .i64 1)=some (Zaq q):=rfl
    have hp:=hpins p (by simp)
    have hq:=hpins q (by simp)
    have g1:=ZiR p s hp.1 hp.2
    have g2:=ZiR q s hq.1 hq.2
    simp only[Zaq] at g1 g2
    simp only[i0,i1,Zaq,g1,g2,EVS]
    cases Zc8 p s<;>cases Zc8 q s<;>simp[bne,hbv,Ztc]
   ·intro h2;simp at h2
  ·have hc:=ZuJ w.cover (s.take n.signals.length) h.wire.cover (fun c hc=>⟨h.wire.cubes c hc,by have:=h.cubes (of_decide_eq_true c5) c hc;have:=h.sig;simp;omega⟩)
   simp only[Zmr s _ h.sig,hc,EVS]
 ·simp only[Zhr,EVS]
theorem ZjI (n:PNet) (s:List UInt8) (k:Nat) (w:PWire) (h:At n s k w):Zdq [Z3 n,.str s,pI k]=some (pB (Zhr n s k w)):=by
 have hi:Zn (.lst (n.wires.map Z6)) (.int .i64 (k:Int))=some (Z6 w):=Zm h.here
 have g2:=ZbX w.ins s h.wire.ins h.pins
 have g3:=ZbY w.ins s h.wire.ins h.pins
 have hone:Zk6 s k=decide ((s[k]'h.lt).toNat=(49:Int)):=by unfold Zk6;rw[List.getElem?_eq_getElem h.lt]
 have hbv:Zaj (.str s) (.int .i64 (k:Int))=some (pU (s[k]'h.lt)):=Zr (List.getElem?_eq_getElem h.lt)
 show (fun x0 x1 x2=>Zdq [x0,x1,x2]) _ _ _=_
 rw[ZnL]
 simp only[Z3,hi,Z6,EVS]
 unfold Zhr
 obtain c2|c2:=(Bool.eq_false_or_eq_true (decide (w.kind=2))).symm<;>simp only[c2,Zhc,List.drop_zero,g2,Bool.not_not,EVS]
 obtain c3|c3:=(Bool.eq_false_or_eq_true (decide (w.kind=3))).symm<;>simp only[c3,Zhc,List.drop_zero,g3,Bool.not_not,EVS]
 unfold ZtN
 obtain c4|c4:=(Bool.eq_false_or_eq_true (decide (w.kind=4))).symm<;>simp only[c4,ZdT,EVS]
 ·obtain c5|c5:=(Bool.eq_false_or_eq_true (decide (w.kind=5))).symm<;>simp only[c5,hbv,hone,EVS]
  have hc:=Zsp w.cover (s.take n.signals.length) h.wire.cover (fun c hc=>⟨h.wire.cubes c hc,by have:=h.cubes (of_decide_eq_true c5) c hc;have:=h.sig;simp;omega⟩)
  simp only[Zmr s _ h.sig,hc,EVS]
 ·have c5:decide (w.kind=5)=false:=by have:=of_decide_eq_true c4;simp;omega
  have h2:=h.two (of_decide_eq_true c4)
  have hpins:=h.pins
  simp only[c5,hone,EVS]
  revert h2 hpins
  rcases w.ins with _|⟨p,_|⟨q,_|⟨r,t⟩⟩⟩
  ·intro h2;simp at h2
  ·intro h2;simp at h2
  ·intro _ hpins
   have i0:Zn (.lst ([p,q].map Zaq)) (.int .i64 0)=some (Zaq p):=rfl
   have i1:Zn (.lst ([p,q].map Zaq)) (.int .i64 1)=some (Zaq q):=rfl
   have hp:=hpins p (by simp)
   have hq:=hpins q (by simp)
   have g1:=Zd9 p s hp.1 hp.2
   have g2:=Zd9 q s hq.1 hq.2
   simp only[Zaq] at g1 g2
   simp only[i0,i1,Zaq,g1,g2,EVS]
   cases Zc8 p s<;>cases Zc8 q s<;>simp[bne,hbv,Ztc,ZoA]
  ·intro h2;simp at h2
theorem ZjJ {α:Type} (q:Nat→α→Bool):∀(l:List α) (j:Nat),ZU q j l=true→∀(i:Nat) (x:α),l[i]?=some x→q (j+i) x=true
 |[],j,_,i,x,hx=>by simp at hx
 | y::r,j,h,i,x,hx=>by
  unfold ZU at h
  rw[Bool.and_eq_true] at h
  cases i with
  |zero=>simp at hx;subst hx;simpa using h.1
  | succ i=>
   have:=ZjJ q r (j+1) h.2 i x (by simpa using hx)
   rw[show j+(i+1)=j+1+i by omega]
   exact this
theorem Zms {α:Type} (q:α→Bool) {l:List α} (h:ZU (fun _ x=>q x) 0 l=true) {x:α} (hx:x∈l):q x=true:=by
 rw[Zar] at h
 exact List.all_eq_true.1 h x hx
def ZeO (u:Bool):UInt8:=if u=true then 49 else 48
theorem ZuK (u:Bool):Zgd (ZeO u)=true:=by cases u<;>decide
theorem ZhY (u:Bool):ZdF [pB u]=some (.str [ZeO u]):=by
 show (fun x0=>ZdF [x0]) _=_
 rw[ZsE]
 cases u<;>simp only[EVS]<;>rfl
theorem ZtO (u:Bool):ZjY [pB u]=some (pU (ZeO u)):=by
 show (fun x0=>ZjY [x0]) _=_
 rw[Zwo]
 cases u<;>simp only[EVS]<;>rfl
theorem ZtP {α:Type} (c:List α) (i:Nat) (b:α) (h:i<c.length):c.take i++[b]++c.drop (i+1)=c.set i b:=by
 rw[List.set_eq_take_append_cons_drop,if_pos h,List.append_assoc]
 rfl
theorem ZhZ (c:List UInt8) (i:Nat) (b:UInt8) (h:i<c.length) (hc:ZG c):ZdG [.str c,pI i,.str [b]]=some (.str (c.set i b)):=by
 unfold ZG at hc
 have h1:ZgZ (.str c) none (some (.int .i64 (i:Int)))=some (.str (c.take i)):=ZnS (by omega)
 have h2:ZgZ (.str c) (some (.int .i64 ((i+1:Nat):Int))) none=some (.str (c.drop (i+1))):=ZnT (by omega)
 show (fun x0 x1 x2=>ZdG [x0,x1,x2]) _ _ _=_
 rw[ZsF]
 have h3:Zd .add TD.str (.str (c.take i)) (.str [b])=some (.str (c.take i++[b])):=Zj9 (by simp;omega)
 have h4:Zd .add TD.str (.str (c.take i++[b])) (.str (c.drop (i+1)))=some (.str (c.take i++[b]++c.drop (i+1))):=Zj9 (by simp;omega)
 simp only[h1,Zk h hc,h2,h3,h4,ZtP c i b h,EVS]
theorem Zb2 {s:List UInt8} {n:Nat}:ZX s n=true↔(∀b∈s,Zgd b=true)∧s.length=n:=by
 unfold ZX
 rw[Zar,Bool.and_eq_true,List.all_eq_true,decide_eq_true_eq]
 constructor
 ·rintro ⟨h1,h2⟩;exact ⟨h1,by omega⟩
 ·rintro ⟨h1,h2⟩;exact ⟨h1,by omega⟩
theorem Zmt {v:List UInt8} {N k:Nat} (h:ZX v N=true) (u:Bool):ZX (v.set k (ZeO u)) N=true:=by
 rw[Zb2] at h⊢
 refine ⟨fun b hb=> ?_,by simpa using h.2⟩
 rcases List.mem_or_eq_of_mem_set hb with hb|rfl
 ·exact h.1 b hb
 ·exact ZuK u
theorem Zmu {c:List UInt8} {m N:Nat} (h:ZX c m=true) (hm:m≤N):ZX (c++List.replicate (N - m) 48) N=true:=by
 rw[Zb2] at h⊢
 refine ⟨fun b hb=> ?_,by simp[h.2];omega⟩
 rcases List.mem_append.1 hb with hb|hb
 ·exact h.1 b hb
 ·obtain ⟨_,rfl⟩:=List.mem_replicate.1 hb;decide
theorem Zwd (b:UInt8):Zgd b=true↔b=48∨b=49:=by
 unfold Zgd
 rw[Bool.or_eq_true,decide_eq_true_eq,decide_eq_true_eq]
 have h48:(48:UInt8).toNat=48:=rfl
 have h49:(49:UInt8).toNat=49:=rfl
 constructor
 ·rintro (h|h)
  ·exact .inl (UInt8.toNat_inj.1 (by omega))
  ·exact .inr (UInt8.toNat_inj.1 (by omega))
 ·rintro (rfl|rfl)
  ·exact .inl rfl
  ·exact .inr rfl
theorem Zwe (n:PNet) (s:List UInt8) (k:Nat) (hn:n.Fit) (hs:ZG s) (hv:ZeY n s=true) (hk:k<n.wires.length):At n s k n.wires[k]:=by
 unfold ZeY Zfn ZX at hv
 simp only[Bool.and_eq_true,decide_eq_true_eq,Bool.not_eq_true',decide_eq_false_iff_not] at hv
 obtain ⟨⟨⟨h1,h2,h3⟩,h4⟩,h5,h6⟩:=hv
 have hx:n.wires[k]?=some n.wires[k]:=List.getElem?_eq_getElem hk
 have hw:=ZjJ _ _ _ h4 k _ hx
 rw[Nat.zero_add] at hw
 unfold Zcx Zmn ZqE at hw
 simp only[Bool.and_eq_true] at hw
 obtain ⟨⟨⟨⟨hkd,_⟩,hcov⟩,_,hpins,hform⟩,_⟩:=hw
 refine ⟨hn,hx,hn.wire _ (List.getElem_mem hk),hs,by omega,by omega,fun p hp=> ?_,fun hk5 c hc=> ?_,fun hk4=> ?_⟩
 ·have:=Zms (fun p=>Ziq n k p) hpins hp
  unfold Ziq inR at this
  simp only[Bool.and_eq_true,decide_eq_true_eq] at this
  omega
 ·rw[if_pos (by simp[hk5])] at hcov
  unfold Zmm Zlu at hcov
  simp only[Bool.and_eq_true] at hcov
  have:=Zms (fun c=>ZjH c&&decide ((c.length:Int)=n.signals.length)) hcov.1 hc
  simp only[Bool.and_eq_true,decide_eq_true_eq] at this
  omega
 ·unfold ZeX at hform
  rw[if_neg (by simp[hk4]),if_pos (by simp[hk4])] at hform
  simp only[decide_eq_true_eq] at hform
  omega
theorem Zw4 (s:List UInt8) (h:s.length≤9223372036854775807):ZnZ (.str s)=some (.lst (s.map pU)):=by
 unfold ZnZ
 simp only
 rw[if_pos h]
theorem Zo4 {α:Type} (f:α→PV) (l:List α) (i:Nat) (x:α):(l.map f).set i (f x)=(l.set i x).map f:=by rw[List.map_set]
structure PArc where
 from_:Int
 sig:Int
 up:Bool
 to_:Int
structure PSG where
 signals:List (List UInt8×Int)
 codes:List (List UInt8)
 arcs:List PArc
def Zan (a:PArc):PV:=.agg [pI a.from_,pI a.sig,pB a.up,pI a.to_]
def eSG (c:PSG):PV:=.agg [.lst (c.signals.map Zaa),.lst (c.codes.map PV.str),.lst (c.arcs.map Zan)]
structure SGFit (c:PSG):Prop where
 sigs:ZG c.signals
 names:∀s∈c.signals,ZG s.1
 codes:ZG c.codes
 each:∀x∈c.codes,ZG x
 arcs:ZG c.arcs
def ZeZ (n:Int) (sig:Int) (up:Bool):Bool:=inR sig 0 (n - 1)||(decide (sig= -1)&& !up)
theorem ZqJ (sig:Int) (up:Bool) (n:Nat) (hn:n≤9223372036854775807):Ze5 [.agg [pI sig,pB up],pI n]=some (pB (ZeZ n sig up)):=by
 have g:=Zbq sig 0 ((n:Int) - 1)
 have gi:inR sig 0 ((n:Int) - 1)=(decide ((0:Int)≤sig)&&decide (sig≤(n:Int) - 1)):=rfl
 rw[←gi] at g
 have hw:IntKind.i64.wrap ((n:Int) - 1)=(n:Int) - 1:=Zdc (by omega) (by omega)
 show (fun x0 x1=>Ze5 [x0,x1]) _ _=_
 rw[Zpm]
 unfold ZeZ
 simp only[hw,g,EVS]
 cases inR sig 0 ((n:Int) - 1)<;>simp only[EVS]
 rw[show Int.negSucc 0=(-1:Int) from rfl]
 cases decide (sig= -1)<;>simp only[EVS]
theorem Zsr (sig:Int) (up:Bool) (n:Nat) (hn:n≤9223372036854775807):Zgt [.agg [pI sig,pB up],pI n]=some (pB (ZeZ n sig up)):=by
 have g:=Zav sig 0 ((n:Int) - 1)
 have hw:IntKind.i64.wrap ((n:Int) - 1)=(n:Int) - 1:=Zdc (by omega) (by omega)
 have he:eqV (some [(0,TD.int IntKind.i64),(1,TD.bool)]) TD.struct (.agg [pI sig,pB up]) (.agg [pI (-1),pB false])=some (decide (sig= -1)&& !up):=by
  rw[eqPin];cases up<;>rfl
 show (fun x0 x1=>Zgt [x0,x1]) _ _=_
 rw[Zq4]
 unfold ZeZ
 simp only[hw,g,EVS]
 cases inR sig 0 ((n:Int) - 1)<;>simp only[EVS]
 rw[show Int.negSucc 0=(-1:Int) from rfl]
 have hsp:splice [ZC.pv (.int .i64),ZC.pv .bool] 0 [pI (-1)]=[pI (-1),pB false]:=rfl
 simp only[hsp,he,EVS]
def ZjK (sig:Int) (up:Bool) (x y:List UInt8):Bool:=
 if decide (sig<0)=true then decide (x=y) else decide (x=y.set sig.toNat (ZeO (!up)))&&decide (y=x.set sig.toNat (ZeO up))
def Zir (sig:Int) (up:Bool) (y:List UInt8) (k:Nat) (b:UInt8):Bool:=
 if decide ((k:Int)=sig)=true then !(decide ((b.toNat:Int)=49)==up)&&decide (((y.getD k 0).toNat:Int)=49)==up else decide ((b.toNat:Int)=(y.getD k 0).toNat)
theorem Zss :(false==false)=true:=rfl
theorem Zst :(false==true)=false:=rfl
theorem Zsu :(true==false)=false:=rfl
theorem Zsv :(true==true)=true:=rfl
theorem bbn (a b:Bool):Zd .neq TD.bool (.bool a) (.bool b)=some (.bool (!(a==b))):=rfl
theorem Znq (a:PArc) (x y:List UInt8) (hx:ZG x) (hl:y.length=x.length):ZdP [Zan a,.str x,.str y]=some (pB (ZU (Zir a.sig a.up y) 0 x)):=by
 unfold ZG at hx
 show (fun x0 x1 x2=>ZdP [x0,x1,x2]) _ _ _=_
 rw[ZmT]
 simp only[Zan,EVS]
 refine (congrArg (fun m:Option PV=>m.bind fun r=>if r.sc=true then some r else none) (Z8 (R:=PV) x (Zir a.sig a.up y) (some (pB false)) (some (pB true)) _ hx (fun again k b hb=> ?_) (fun again=> ?_))).trans ?_
 ·have hk:=Zh hb
  have hy:y[k]?=some (y.getD k 0):=by rw[List.getD_eq_getElem?_getD,List.getElem?_eq_getElem (by omega)];rfl
  have b1:=Zr (k:=.i64) hb
  have b2:=Zr (k:=.i64) hy
  unfold Zir
  simp only[Z5 hk,Zk hk hx,b1,b2,EVS]
  cases c1:decide ((k:Int)=a.sig)
  ·simp only[c1,Z5 hk,Zk hk hx,b1,b2,EVS]
   cases decide ((b.toNat:Int)=(y.getD k 0).toNat)<;>simp only[EVS]
  ·simp only[c1,Z5 hk,Zk hk hx,b1,b2,EVS]
   cases decide ((b.toNat:Int)=49)<;>cases c3:decide (((y.getD k 0).toNat:Int)=49)<;>cases a.up<;>first|rfl|(simp only[Zss,Zst,Zsu,Zsv,b1,b2,EVS];done)|(simp only[Zss,Zst,Zsu,Zsv,b1,b2,EVS];rfl)|(simp only[Zss,Zst,Zsu,Zsv,bbn,b1,b2,c3,EVS];done)
 ·simp only[Zau,EVS]
 ·cases ZU (Zir a.sig a.up y) 0 x<;>simp only[EVS]<;>rfl
theorem Zmv {α:Type} (q:Nat→α→Bool):∀(l:List α) (j:Nat),ZU q j l=true↔∀(i:Nat) (x:α),l[i]?=some x→q (j+i) x=true
 |[],j=>by simp[ZU]
 | y::r,j=>by
  refine ⟨fun h=>ZjJ q (y::r) j h,fun h=> ?_⟩
  unfold ZU
  rw[Bool.and_eq_true]
  refine ⟨by simpa using h 0 y rfl,(Zmv q r (j+1)).2 fun i x hx=> ?_⟩
  have:=h (i+1) x (by simpa using hx)
  rw[show j+(i+1)=j+1+i by omega] at this
  exact this
theorem ZtQ {b:UInt8} (h:Zgd b=true):b=ZeO (decide ((b.toNat:Int)=49)):=by
 unfold Zgd at h
 simp only[Bool.or_eq_true,decide_eq_true_eq,Bool.and_eq_true,Bool.not_eq_true',decide_eq_false_iff_not] at h
 by_cases c:(b.toNat:Int)=49
 ·simp only[c,decide_true]
  apply UInt8.toNat_inj.1
  show b.toNat=49
  omega
 ·simp only[c,decide_false]
  apply UInt8.toNat_inj.1
  show b.toNat=48
  omega
theorem ZtR {x:List UInt8} {n:Int} (h:ZX x n=true) {i:Nat} {b:UInt8} (hi:x[i]?=some b):Zgd b=true:=by
 unfold ZX at h
 rw[Bool.and_eq_true] at h
 exact Zms Zgd h.1 (List.mem_of_getElem? hi)
theorem ZfI {x:List UInt8} {n:Nat} (h:ZX x n=true):x.length=n:=by
 unfold ZX at h
 rw[Bool.and_eq_true,decide_eq_true_eq] at h
 omega
theorem Zo5 {a b:UInt8}:(a.toNat:Int)=b.toNat↔a=b:=by
 rw[Int.ofNat_inj,UInt8.toNat_inj]
theorem Zw5 (sig:Int) (up:Bool) (x y:List UInt8) (n:Nat) (hx:ZX x n=true) (hy:ZX y n=true) (he:ZeZ n sig up=true):ZU (Zir sig up y) 0 x=ZjK sig up x y:=by
 have lx:=ZfI hx
 have ly:=ZfI hy
 rw[Bool.eq_iff_iff,Zmv]
 unfold ZeZ inR at he
 simp only[Bool.or_eq_true,Bool.and_eq_true,decide_eq_true_eq,Bool.not_eq_true'] at he
 have gy:∀i b,x[i]?=some b→y[i]?=some (y.getD i 0):=fun i b hb=>by
  have:=(List.getElem?_eq_some_iff.1 hb).1
  rw[List.getD_eq_getElem?_getD,List.getElem?_eq_getElem (by omega)];rfl
 unfold ZjK
 by_cases c:sig<0
 ·simp only[c,decide_true,if_true,decide_eq_true_eq]
  constructor
  ·intro h
   apply List.ext_getElem (by omega)
   intro i h1 h2
   have:=h i x[i] (List.getElem?_eq_getElem h1)
   unfold Zir at this
   have d:decide (((0+i:Nat):Int)=sig)=false:=by simp only[decide_eq_false_iff_not];omega
   rw[d] at this
   simp only[Nat.zero_add,Bool.false_eq_true,if_false,decide_eq_true_eq,Zo5] at this
   rw[this,List.getD_eq_getElem?_getD,List.getElem?_eq_getElem h2];rfl
  ·rintro rfl i b hb
   unfold Zir
   have d:decide (((0+i:Nat):Int)=sig)=false:=by simp only[decide_eq_false_iff_not];omega
   rw[d]
   simp only[Nat.zero_add,Bool.false_eq_true,if_false,decide_eq_true_eq,Zo5]
   rw[List.getD_eq_getElem?_getD,hb];rfl
 ·obtain ⟨s,rfl⟩:=Int.eq_ofNat_of_zero_le (show 0≤sig by omega)
  have hs:s<n:=by omega
  simp only[c,decide_false,Bool.false_eq_true,if_false,Bool.and_eq_true,decide_eq_true_eq,Int.toNat_natCast]
  have hxs:x[s]?=some (x[s]'(by omega)):=List.getElem?_eq_getElem _
  have hys:y[s]?=some (y[s]'(by omega)):=List.getElem?_eq_getElem _
  have gs:y.getD s 0=y[s]'(by omega):=by rw[List.getD_eq_getElem?_getD,hys];rfl
  constructor
  ·intro h
   have h0:=h s _ hxs
   unfold Zir at h0
   simp only[Nat.zero_add,decide_true,if_true,gs] at h0
   have bx:=ZtQ (ZtR hx hxs)
   have by_:=ZtQ (ZtR hy hys)
   have ho:∀i (h1:i<x.length) (h2:i<y.length),i≠s→x[i]=y[i]:=fun i h1 h2 hn=>by
    have:=h i x[i] (List.getElem?_eq_getElem h1)
    unfold Zir at this
    have d:decide (((0+i:Nat):Int)=(s:Int))=false:=by simp only[decide_eq_false_iff_not];omega
    rw[d] at this
    simp only[Nat.zero_add,Bool.false_eq_true,if_false,decide_eq_true_eq,Zo5] at this
    rw[this,List.getD_eq_getElem?_getD,List.getElem?_eq_getElem h2];rfl
   generalize decide (((x[s]'(by omega)).toNat:Int)=49)=p at h0 bx
   generalize decide (((y[s]'(by omega)).toNat:Int)=49)=q at h0 by_
   have hp:p= !up:=by revert h0;cases p<;>cases q<;>cases up<;>decide
   have hq:q=up:=by revert h0;cases p<;>cases q<;>cases up<;>decide
   refine ⟨List.ext_getElem (by simp;omega) fun i h1 h2=> ?_,List.ext_getElem (by simp;omega) fun i h1 h2=> ?_⟩
   ·rw[List.getElem_set]
    split
    ·rename_i e;subst e;rw[bx,hp]
    ·rename_i e;exact ho i h1 (by simpa using h2) (Ne.symm e)
   ·rw[List.getElem_set]
    split
    ·rename_i e;subst e;rw[by_,hq]
    ·rename_i e;exact (ho i (by simpa using h2) h1 (Ne.symm e)).symm
  ·rintro ⟨e1,e2⟩ i b hb
   unfold Zir
   have hi:=(List.getElem?_eq_some_iff.1 hb).1
   by_cases cs:i=s
   ·subst cs
    simp only[Nat.zero_add,decide_true,if_true,gs]
    have hbx:x[i]?=some (ZeO (!up)):=by rw[e1,List.getElem?_set];simp;omega
    have hby:y[i]?=some (ZeO up):=by rw[e2,List.getElem?_set];simp;omega
    rw[hb] at hbx
    rw[hys] at hby
    rw[Option.some.inj hbx,Option.some.inj hby]
    cases up<;>decide
   ·have d:decide (((0+i:Nat):Int)=(s:Int))=false:=by simp only[decide_eq_false_iff_not];omega
    rw[d]
    simp only[Nat.zero_add,Bool.false_eq_true,if_false,decide_eq_true_eq,Zo5]
    have:y[i]?=x[i]?:=by
     conv=>lhs;rw[e2]
     rw[List.getElem?_set,if_neg (Ne.symm cs)]
    rw[List.getD_eq_getElem?_getD,this,hb];rfl
theorem Zmw (s u:PV):splice (splice [ZC.pv (.int .i64),ZC.pv .bool] 0 [s]) 1 [u]=[s,u]:=rfl
def Zcz (n:Nat) (last:Int) (a:PArc):Bool:=(inR a.from_ 0 last&&inR a.to_ 0 last)&&ZeZ n a.sig a.up
def ZiS (c:PSG) (a:PArc):Bool:=Zcz c.signals.length ((c.codes.length:Int) - 1) a&&ZjK a.sig a.up (c.codes.getD a.from_.toNat []) (c.codes.getD a.to_.toNat [])
structure CodesP (c:PSG):Prop where
 one:1≤c.codes.length
 many:c.codes.length≤300
 bits:∀x∈c.codes,ZX x c.signals.length=true
 arcs:c.arcs.length≤4000
theorem Zmx {c:PSG} {a:PArc} (h:Zcz c.signals.length ((c.codes.length:Int) - 1) a=true):∃f t x y,a.from_=((f:Nat):Int)∧a.to_=((t:Nat):Int)∧f<c.codes.length∧t<c.codes.length∧c.codes[f]?=some x∧c.codes[t]?=some y∧ZeZ c.signals.length a.sig a.up=true:=by
 unfold Zcz inR at h
 simp only[Bool.and_eq_true,decide_eq_true_eq] at h
 obtain ⟨⟨⟨h1,h2⟩,h3,h4⟩,h5⟩:=h
 obtain ⟨f,hf⟩:=Int.eq_ofNat_of_zero_le h1
 obtain ⟨t,ht⟩:=Int.eq_ofNat_of_zero_le h3
 have l1:f<c.codes.length:=by omega
 have l2:t<c.codes.length:=by omega
 exact ⟨f,t,_,_,hf,ht,l1,l2,List.getElem?_eq_getElem l1,List.getElem?_eq_getElem l2,h5⟩
theorem ZuL (c:PSG) (a:PArc) (hc:SGFit c) (hp:CodesP c):Zh1 [eSG c,Zan a]=some (pB (ZiS c a)):=by
 have hsl:=hc.sigs
 unfold ZG at hsl
 have hm:=hp.many
 have g1:=Zbq a.from_ 0 ((c.codes.length:Int) - 1)
 have g2:=Zbq a.to_ 0 ((c.codes.length:Int) - 1)
 have gi:∀z:Int,inR z 0 ((c.codes.length:Int) - 1)=(decide ((0:Int)≤z)&&decide (z≤(c.codes.length:Int) - 1)):=fun _=>rfl
 rw[←gi] at g1 g2
 have g3:=ZqJ a.sig a.up c.signals.length hsl
 have hw:IntKind.i64.wrap ((c.codes.length:Int) - 1)=(c.codes.length:Int) - 1:=Zdc (by omega) (by omega)
 show (fun x0 x1=>Zh1 [x0,x1]) _ _=_
 rw[ZsH]
 unfold ZiS
 cases hg:Zcz c.signals.length ((c.codes.length:Int) - 1) a
 ·unfold Zcz at hg
  cases c1:inR a.from_ 0 ((c.codes.length:Int) - 1)
  ·simp only[eSG,Zan,List.length_map,hw,g1,c1,EVS]
  cases c2:inR a.to_ 0 ((c.codes.length:Int) - 1)
  ·simp only[eSG,Zan,List.length_map,hw,g1,g2,c1,c2,EVS]
  cases c3:ZeZ c.signals.length a.sig a.up
  ·simp only[eSG,Zan,List.length_map,hw,g1,g2,g3,c1,c2,c3,Zmw,EVS]
  ·rw[c1,c2,c3] at hg;cases hg
 ·obtain ⟨f,t,x,y,hf,ht,l1,l2,hx,hy,he⟩:=Zmx hg
  unfold Zcz at hg
  simp only[Bool.and_eq_true] at hg
  have bx:=hp.bits x (List.mem_of_getElem? hx)
  have by_:=hp.bits y (List.mem_of_getElem? hy)
  have i1:Zn (.lst (c.codes.map PV.str)) (.int .i64 (f:Int))=some (.str x):=Zm hx
  have i2:Zn (.lst (c.codes.map PV.str)) (.int .i64 (t:Int))=some (.str y):=Zm hy
  have e1:c.codes.getD f []=x:=by rw[List.getD_eq_getElem?_getD,hx];rfl
  have e2:c.codes.getD t []=y:=by rw[List.getD_eq_getElem?_getD,hy];rfl
  have c1:=hg.1.1
  have c2:=hg.1.2
  simp only[hf] at g1 c1
  simp only[ht] at g2 c2
  rw[hf,ht,Int.toNat_natCast,Int.toNat_natCast,e1,e2]
  unfold ZjK
  have lx:=ZfI bx
  have ly:=ZfI by_
  by_cases cs:a.sig<0
  ·have d:decide (a.sig<0)=true:=by simpa using cs
   simp only[eSG,Zan,hf,ht,List.length_map,hw,g1,g2,g3,c1,c2,he,Zmw,i1,i2,d,EVS]
  ·have d:decide (a.sig<0)=false:=by simpa using cs
   obtain ⟨s,hs⟩:=Int.eq_ofNat_of_zero_le (show 0≤a.sig by omega)
   have hsn:s<c.signals.length:=by
    unfold ZeZ inR at he
    simp only[Bool.or_eq_true,Bool.and_eq_true,decide_eq_true_eq] at he
    omega
   have s1:=ZhZ y s (ZeO (!a.up)) (by omega) (hc.each y (List.mem_of_getElem? hy))
   have s2:=ZhZ x s (ZeO a.up) (by omega) (hc.each x (List.mem_of_getElem? hx))
   have b1:=ZhY (!a.up)
   have b2:=ZhY a.up
   rw[hs] at d g3 he
   simp only[eSG,Zan,hf,ht,hs,List.length_map,hw,g1,g2,g3,c1,c2,he,Zmw,i1,i2,d,s1,b1,Int.toNat_natCast,Bool.false_eq_true,if_false,EVS]
   cases c4:decide (x=y.set s (ZeO (!a.up)))
   ·simp only[EVS]
   ·simp only[s2,b2,EVS]
def Zmy (c:PSG):List (Nat×Nat):=c.arcs.map fun a=>(a.from_.toNat,a.to_.toNat)
def Zmz (n:Nat) (l:List PArc):Prop:=∀a∈l,inR a.from_ 0 ((n:Int) - 1)=true∧inR a.to_ 0 ((n:Int) - 1)=true
theorem Zku {n:Nat} {l:List PArc} (h:Zmz n l) {a:PArc} (ha:a∈l):∃f t:Nat,a.from_=f∧a.to_=t∧f<n∧t<n:=by
 obtain ⟨h1,h2⟩:=h a ha
 unfold inR at h1 h2
 simp only[Bool.and_eq_true,decide_eq_true_eq] at h1 h2
 obtain ⟨f,hf⟩:=Int.eq_ofNat_of_zero_le h1.1
 obtain ⟨t,ht⟩:=Int.eq_ofNat_of_zero_le h2.1
 exact ⟨f,t,hf,ht,by omega,by omega⟩
theorem ZkV :∀(r:List (Nat×Nat)) (m:List Bool),(Zek r m).length=m.length
 |[],_=>rfl
 | e::r,m=>by
  unfold Zek
  rw[ZkV r]
  split<;>simp
theorem se_b (a b:Bool):ZbJ 0 1 [.bool a] (.bool a) (.bool b)=some (.bool b):=rfl
theorem ZtS {R:Type} (e:List Bool→Option R):∀(l:List PArc) (k:Nat) (m:List Bool),Za0 (fun (m:List Bool) (_:Nat) (a:PArc)=>.inl (if m.getD a.from_.toNat false=true then m.set a.to_.toNat true else m)) e k m l=e (Zek (l.map fun a=>(a.from_.toNat,a.to_.toNat)) m)
 |[],k,m=>rfl
 |a::l,k,m=>ZtS e l (k+1) _
theorem Zob {R:Type} (es:List (Nat×Nat)) (e:List Bool→Option R):∀(l:List (List UInt8)) (k:Nat) (m:List Bool),Za0 (fun (m:List Bool) (_:Nat) (_:List UInt8)=>.inl (Zek es m)) e k m l=e (metG es l.length m)
 |[],k,m=>rfl
 |a::l,k,m=>Zob es e l (k+1) _
theorem ZuM (c:PSG) (hc:SGFit c) (hp:CodesP c) (ha:Zmz c.codes.length c.arcs):Zh2 [eSG c]=some (pB ((ZsU c.codes.length (Zmy c) 0).all id)):=by
 have h1:=hp.one
 have h2:=hp.many
 have h3:=hp.arcs
 have hmk:=mk_v (TI.mk 1 1 TD.bool [ZC.bool] [] false) c.codes.length (by omega)
 have hz:ZaN (TI.mk 1 1 TD.bool [ZC.bool] [] false)=.bool false:=rfl
 rw[hz] at hmk
 have hp0:Zdt (List.replicate c.codes.length (PV.bool false)) (.int .i64 ((0:Nat):Int))=some (.int .i64 ((0:Nat):Int)):=Zfj (by simp;omega)
 have hg0:(List.replicate c.codes.length (PV.bool false))[0]?=some (.bool false):=by rw[List.getElem?_replicate,if_pos (by omega)]
 have hs0:(List.replicate c.codes.length (PV.bool false)).set 0 (.bool true)=((List.replicate c.codes.length false).set 0 true).map PV.bool:=by rw[←Zo4,List.map_replicate]
 simp only[Int.natCast_zero] at hp0
 have ht0:Int.toNat 0=0:=rfl
 show (fun x0=>Zh2 [x0]) _=_
 rw[ZsJ]
 simp only[eSG,List.length_map,hmk,hp0,ht0,hg0,se_b,hs0,EVS]
 obtain ⟨m0,hm0⟩:∃m0,(List.replicate c.codes.length false).set 0 true=m0:=⟨_,rfl⟩
 have hl0:m0.length=c.codes.length:=by rw[←hm0];simp
 unfold ZsU
 rw[hm0]
 refine (congrArg (fun m:Option PV=>m.bind fun r=>if r.sc=true then some r else none) ((Zdd (R:=PV) c.codes (fun (m:List Bool) k=>[.lst (m.map PV.bool),pI (Int.ofNat k)]) (fun _ m=>m.length=c.codes.length) (fun (m:List Bool) _ _=>.inl (Zek (Zmy c) m)) (fun m=>some (pB (m.all id))) _ (by omega) (fun m k x m' hm hx he=> ?_) (fun again m k x hm hx=> ?_) (fun again m hm=> ?_) hl0).trans (Zob _ _ _ _ _))).trans ?_
 ·cases he;rw[ZkV];exact hm
 ·have hk:=Zh hx
  simp only[Z5 hk,EVS]
  refine (Zdd (R:=PV) c.arcs (fun (m:List Bool) k=>[.lst (m.map PV.bool),pI (Int.ofNat k)]) (fun _ m=>m.length=c.codes.length) (fun (m:List Bool) _ a=>.inl (if m.getD a.from_.toNat false=true then m.set a.to_.toNat true else m)) (fun m=>again [.lst (m.map PV.bool),pI (Int.ofNat (k+1))]) _ (by omega) (fun m j a m' hm ha' he=> ?_) (fun again' m j a hm ha'=> ?_) (fun again' m hm=> ?_) hm).trans (ZtS _ _ _ _)
  ·cases he;split<;>simp[hm]
  ·have hj:=Zh ha'
   obtain ⟨f,t,hf,ht,l1,l2⟩:=Zku ha (List.mem_of_getElem? ha')
   have hi:Zn (.lst (c.arcs.map Zan)) (.int .i64 (j:Int))=some (Zan a):=Zm ha'
   have p1:Zdt (m.map PV.bool) (.int .i64 (f:Int))=some (.int .i64 (f:Int)):=Zfj (by rw[List.length_map];omega)
   have p2:Zdt (m.map PV.bool) (.int .i64 (t:Int))=some (.int .i64 (t:Int)):=Zfj (by rw[List.length_map];omega)
   have q1:(m.map PV.bool)[f]?=some (.bool (m.getD f false)):=by rw[List.getElem?_map,List.getD_eq_getElem?_getD,List.getElem?_eq_getElem (by omega)];rfl
   have q2:(m.map PV.bool)[t]?=some (.bool (m.getD t false)):=by rw[List.getElem?_map,List.getD_eq_getElem?_getD,List.getElem?_eq_getElem (by omega)];rfl
   have st:(m.map PV.bool).set t (.bool true)=(m.set t true).map PV.bool:=Zo4 PV.bool m t true
   rw[hf,ht,Int.toNat_natCast,Int.toNat_natCast]
   cases hb:m.getD f false<;>simp only[Z5 hj,Zk hj (show c.arcs.length≤9223372036854775807 by omega),hi,Zan,hf,ht,p1,p2,q1,q2,hb,se_b,st,Bool.false_eq_true,if_false,if_true,EVS]
  ·simp only[Zau,Zk hk (show c.codes.length≤9223372036854775807 by omega),EVS]
 ·simp only[Zau,EVS]
  refine (Z8 (R:=PV) m (fun _ b=>b) (some (pB false)) (some (pB true)) _ (by omega) (fun again k b hb=> ?_) (fun again=> ?_)).trans ?_
  ·have hk:=Zh hb
   have p1:Zdt (m.map PV.bool) (.int .i64 (k:Int))=some (.int .i64 (k:Int)):=Zfj (by rw[List.length_map];omega)
   have q1:(m.map PV.bool)[k]?=some (.bool b):=by rw[List.getElem?_map,hb];rfl
   cases b<;>simp only[List.length_map,Z5 hk,Zk hk (show m.length≤9223372036854775807 by omega),p1,q1,Bool.false_eq_true,if_false,if_true,EVS]
  ·simp only[List.length_map,Zau,EVS]
  ·rw[Zar]
   show _=some (pB (m.all fun b=>b))
   cases m.all (fun b=>b)<;>rfl
 ·simp only[EVS]
theorem Znr (n s:Nat) (es:List (Nat×Nat)) (hn:n≤1000) (hs:s<n) (hl:es.length≤100000) (hes:∀e∈es,e.1<n∧e.2<n):ZdS [pI (n:Int),.lst (es.map pSt),pI (s:Int)]=some (.lst ((Zdr n es s).map pI)):=by
 have hc:(0:Int)≤(n:Int)∧(n:Int)≤1000∧(0:Int)≤(s:Int)∧(s:Int)<(n:Int)∧es.length≤100000∧(es.all fun e=>decide (e.1<(n:Int).toNat∧e.2<(n:Int).toNat))=true:=by
  refine ⟨by omega,by omega,by omega,by omega,hl,List.all_eq_true.2 fun e he=> ?_⟩
  rw[Int.toNat_natCast]
  exact decide_eq_true (hes e he)
 show (match Zm3 (es.map pSt) with
  |some es=>if (0:Int)≤(n:Int)∧(n:Int)≤1000∧(0:Int)≤(s:Int)∧(s:Int)<(n:Int)∧es.length≤100000∧(es.all fun e=>decide (e.1<(n:Int).toNat∧e.2<(n:Int).toNat))=true then some (PV.lst ((Zdr (n:Int).toNat es (s:Int).toNat).map pI)) else none
  |none=>none)=_
 rw[Zon]
 show (if _ then _ else _)=_
 rw[if_pos hc,Int.toNat_natCast,Int.toNat_natCast]
def ZfJ (c:PSG):Bool:=(Zio c.signals&&inR c.codes.length 1 300)&& !decide ((4000:Int)<c.arcs.length)
def Zo6 (c:PSG):Bool:=c.codes.all fun x=>ZX x c.signals.length
def Zge (c:PSG):Bool:=c.arcs.all (ZiS c)
def Zhs (c:PSG):Bool:=(ZsU c.codes.length (Zmy c) 0).all id
def sgV (c:PSG):Bool:=(ZfJ c&&Zo6 c)&&(Zge c&&Zhs c)
theorem Zht {c:PSG} (h1:ZfJ c=true) (h2:Zo6 c=true):CodesP c:=by
 unfold ZfJ inR at h1
 simp only[Bool.and_eq_true,Bool.not_eq_true',decide_eq_true_eq,decide_eq_false_iff_not] at h1
 unfold Zo6 at h2
 exact ⟨by omega,by omega,fun x hx=>List.all_eq_true.1 h2 x hx,by omega⟩
theorem Zoc {c:PSG} (h:Zge c=true):Zmz c.codes.length c.arcs:=fun a ha=>by
 have:=List.all_eq_true.1 h a ha
 unfold ZiS Zcz at this
 simp only[Bool.and_eq_true] at this
 exact this.1.1
theorem Zsw (c:PSG) (hc:SGFit c):Zgz [eSG c]=some (pB (sgV c)):=by
 have hcl:=hc.codes
 have hal:=hc.arcs
 unfold ZG at hcl hal
 have g1:=Zip c.signals hc.sigs hc.names
 have g2:=Zbq (c.codes.length:Int) 1 300
 have gi:inR (c.codes.length:Int) 1 300=(decide ((1:Int)≤c.codes.length)&&decide ((c.codes.length:Int)≤300)):=rfl
 rw[←gi] at g2
 show (fun x0=>Zgz [x0]) _=_
 rw[Zrb]
 unfold sgV
 cases hpre:ZfJ c
 ·unfold ZfJ at hpre
  cases c1:Zio c.signals
  ·simp only[eSG,List.length_map,g1,c1,EVS]
  cases c2:inR (c.codes.length:Int) 1 300
  ·simp only[eSG,List.length_map,g1,g2,c1,c2,EVS]
  cases c3:decide ((4000:Int)<c.arcs.length)
  ·rw[c1,c2,c3] at hpre;cases hpre
  ·simp only[eSG,List.length_map,g1,g2,c1,c2,c3,EVS]
 have hpre':=hpre
 unfold ZfJ at hpre'
 simp only[Bool.and_eq_true,Bool.not_eq_true'] at hpre'
 obtain ⟨⟨c1,c2⟩,c3⟩:=hpre'
 simp only[eSG,List.length_map,g1,g2,c1,c2,c3,EVS]
 refine (congrArg (fun m:Option PV=>m.bind fun r=>if r.sc=true then some r else none) (ZhT (R:=PV) c.codes (fun _ x=>ZX x c.signals.length) (some (pB false)) (some (pB (Zge c&&Zhs c))) _ hcl (fun again k x hx=> ?_) (fun hall again=> ?_))).trans ?_
 ·have hk:=Zh hx
  have hi:Zn (.lst (c.codes.map PV.str)) (.int .i64 (k:Int))=some (.str x):=Zm hx
  have g:=Zsl x c.signals.length (hc.each x (List.mem_of_getElem? hx))
  cases cb:ZX x c.signals.length<;>simp only[Z5 hk,Zk hk hcl,hi,g,cb,Bool.false_eq_true,if_false,if_true,EVS]
 ·rw[Zar] at hall
  have hp:=Zht hpre hall
  simp only[Zau,EVS]
  refine (ZhT (R:=PV) c.arcs (fun _ a=>ZiS c a) (some (pB false)) (some (pB (Zhs c))) _ hal (fun again k a hx=> ?_) (fun hall' again=> ?_)).trans ?_
  ·have hk:=Zh hx
   have hi:Zn (.lst (c.arcs.map Zan)) (.int .i64 (k:Int))=some (Zan a):=Zm hx
   have g:=ZuL c a hc hp
   simp only[eSG,Zan] at g
   cases cb:ZiS c a<;>simp only[Zan,Z5 hk,Zk hk hal,hi,g,cb,Zay,Ztk,Bool.false_eq_true,if_false,if_true,EVS]
  ·rw[Zar] at hall'
   have g:=ZuM c hc hp (Zoc hall')
   simp only[eSG] at g
   simp only[Zau,Zay,g,EVS]
   rfl
  ·rw[Zar]
   show _=some (pB (c.arcs.all (ZiS c)&&Zhs c))
   cases c.arcs.all (ZiS c)<;>rfl
 ·rw[Zar]
  show _=some (pB ((true&&c.codes.all (fun x=>ZX x c.signals.length))&&(Zge c&&Zhs c)))
  cases c.codes.all (fun x=>ZX x c.signals.length)<;>simp only[Bool.false_eq_true,if_false,if_true,EVS]<;>rfl
theorem Zhu (l:List Int) (x:Int) (hl:ZG l):Za7 [.lst (l.map pI),pI x]=some (pI (ixf (fun a=>decide (x=a)) 0 l)):=by
 show (fun x0 x1=>Za7 [x0,x1]) _ _=_
 rw[Zg3]
 unfold ZG at hl
 simp only[EVS]
 refine (congrArg (fun m:Option PV=>m.bind fun r=>if r.sc=true then some r else none) (ZdM l (fun a=>decide (x=a)) _ hl (fun again k a hb=> ?_) (fun again=> ?_))).trans ?_
 ·have hk:=Zh hb
  have hi:Zn (.lst (l.map pI)) (.int .i64 (k:Int))=some (pI a):=Zm hb
  simp only[Z5 hk,Zk hk hl,hi,EVS]
 ·simp only[Zau,EVS]
  rfl
 ·simp only[EVS]
theorem ZfK (l:List Int) (x:Int) (hl:ZG l):ZaB [.lst (l.map pI),pI x]=some (pB (!ZU (fun _ a=> !decide (x=a)) 0 l)):=by
 have g:=Zhu l x hl
 show (fun x0 x1=>ZaB [x0,x1]) _ _=_
 rw[Zfu]
 simp only[g,Zfp (fun a=>decide (x=a)) l 0,EVS]
theorem ZmA {R:Type} (e:List (Nat×Nat)→Option R):∀(l:List PArc) (k:Nat) (acc:List (Nat×Nat)),Za0 (fun (acc:List (Nat×Nat)) (_:Nat) (a:PArc)=>.inl (acc++[(a.from_.toNat,a.to_.toNat)])) e k acc l=e (acc++l.map fun a=>(a.from_.toNat,a.to_.toNat))
 |[],k,acc=>by simp[Za0]
 | a::l,k,acc=>by
  show Za0 _ e (k+1) (acc++[(a.from_.toNat,a.to_.toNat)]) l=_
  rw[ZmA e l]
  simp
theorem Zw6 (a b:PV):splice (splice [ZC.pv (.int .i64),ZC.pv (.int .i64)] 0 [a]) 1 [b]=[a,b]:=rfl
theorem Zo7 (n:Nat) (l:List PArc) (ha:Zmz n l) (hl:l.length≤4000):Zec [.lst (l.map Zan)]=some (.lst ((l.map fun a=>(a.from_.toNat,a.to_.toNat)).map pSt)):=by
 show (fun x0=>Zec [x0]) _=_
 rw[Zny]
 simp only[List.length_map,EVS]
 refine (Zdd (R:=PV) l (fun (acc:List (Nat×Nat)) k=>[.lst (acc.map pSt),pI (Int.ofNat k)]) (fun k acc=>acc.length=k) (fun (acc:List (Nat×Nat)) _ a=>.inl (acc++[(a.from_.toNat,a.to_.toNat)])) (fun acc=>some (.lst (acc.map pSt))) _ (by omega) (fun acc k x acc' hi hx he=> ?_) (fun again acc k a hi hx=> ?_) (fun again acc hi=> ?_) (b:=[]) rfl).trans ((ZmA _ _ _ _).trans ?_)
 ·cases he;simp;omega
 ·have hk:=Zh hx
  obtain ⟨f,t,hf,ht,l1,l2⟩:=Zku ha (List.mem_of_getElem? hx)
  have hi':Zn (.lst (l.map Zan)) (.int .i64 (k:Int))=some (Zan a):=Zm hx
  have hla:acc.length+[PV.agg [pI (f:Int),pI (t:Int)]].length≤4294967296∧[PV.agg [pI (f:Int),pI (t:Int)]].all (ZaG 2)=true:=⟨by simp;omega,rfl⟩
  have hps:acc.map pSt++[PV.agg [pI (f:Int),pI (t:Int)]]=(acc++[(f,t)]).map pSt:=by simp[pSt]
  simp only[Z5 hk,Zk hk (show l.length≤9223372036854775807 by omega),hi',Zan,hf,ht,Int.toNat_natCast,Zw6,List.length_map,if_pos hla,hps,EVS]
 ·simp only[Zau,EVS]
 ·rfl
theorem Zhv (x:Int):∀(l:List Int) (k:Nat),ZU (fun _ a=> !decide (x=a)) k l= !decide (x∈l)
 |[],k=>by simp[ZU]
 | a::l,k=>by
  unfold ZU
  rw[Zhv x l (k+1),Bool.eq_iff_iff]
  simp only[Bool.and_eq_true,Bool.not_eq_true',decide_eq_false_iff_not,List.mem_cons,not_or]
theorem Zo8 {c:PSG} (h:Zmz c.codes.length c.arcs):∀e∈Zmy c,e.1<c.codes.length∧e.2<c.codes.length:=fun e he=>by
 unfold Zmy at he
 obtain ⟨a,ha,rfl⟩:=List.mem_map.1 he
 obtain ⟨f,t,hf,ht,l1,l2⟩:=Zku h ha
 simp only[hf,ht,Int.toNat_natCast]
 exact ⟨l1,l2⟩
theorem Zg1 (c:PSG) (hc:SGFit c):ZaV [eSG c]=some (pB (sgV c)):=by
 have hcl:=hc.codes
 have hal:=hc.arcs
 have hsl:=hc.sigs
 unfold ZG at hcl hal hsl
 have g1:=Zhq c.signals hc.sigs hc.names
 rw[←ZtM] at g1
 have g2:=Zav (c.codes.length:Int) 1 300
 show (fun x0=>ZaV [x0]) _=_
 rw[Zgw]
 unfold sgV
 cases hpre:ZfJ c
 ·unfold ZfJ at hpre
  cases c1:Zio c.signals
  ·simp only[eSG,List.length_map,g1,c1,EVS]
  cases c2:inR (c.codes.length:Int) 1 300
  ·simp only[eSG,List.length_map,g1,g2,c1,c2,EVS]
  cases c3:decide ((4000:Int)<c.arcs.length)
  ·rw[c1,c2,c3] at hpre;cases hpre
  ·simp only[eSG,List.length_map,g1,g2,c1,c2,c3,EVS]
 have hpre':=hpre
 unfold ZfJ at hpre'
 simp only[Bool.and_eq_true,Bool.not_eq_true'] at hpre'
 obtain ⟨⟨c1,c2⟩,c3⟩:=hpre'
 have hw:IntKind.i64.wrap ((c.codes.length:Int) - 1)=(c.codes.length:Int) - 1:=Zdc (by omega) (by omega)
 simp only[eSG,List.length_map,g1,g2,c1,c2,c3,hw,EVS]
 refine (congrArg (fun m:Option PV=>m.bind fun r=>if r.sc=true then some r else none) (ZhT (R:=PV) c.codes (fun _ x=>ZX x c.signals.length) (some (pB false)) (some (pB (Zge c&&Zhs c))) _ hcl (fun again k x hx=> ?_) (fun hall again=> ?_))).trans ?_
 ·have hk:=Zh hx
  have hi:Zn (.lst (c.codes.map PV.str)) (.int .i64 (k:Int))=some (.str x):=Zm hx
  have g:=Zsm x c.signals.length (hc.each x (List.mem_of_getElem? hx))
  cases cb:ZX x c.signals.length<;>simp only[Z5 hk,Zk hk hcl,hi,g,cb,Bool.false_eq_true,if_false,if_true,EVS]
 ·rw [Zar] at hall
  have hp:=Zht hpre hall
  simp only[Zau,EVS]
  refine (ZhT (R:=PV) c.arcs (fun _ a=>ZiS c a) (some (pB false)) (some (pB (Zhs c))) _ hal (fun again k a hx=> ?_) (fun hall' again=> ?_)).trans ?_
  ·have hk:=Zh hx
   have hi:Zn (.lst (c.arcs.map Zan)) (.int .i64 (k:Int))=some (Zan a):=Zm hx
   have g3:=Zav a.from_ 0 ((c.codes.length:Int) - 1)
   have g4:=Zav a.to_ 0 ((c.codes.length:Int) - 1)
   have g5:=Zsr a.sig a.up c.signals.length hsl
   unfold ZiS
   cases hg:Zcz c.signals.length ((c.codes.length:Int) - 1) a
   ·unfold Zcz at hg
    cases d1:inR a.from_ 0 ((c.codes.length:Int) - 1)
    ·simp only[Zan,Z5 hk,Zk hk hal,hi,List.length_map,g3,d1,Bool.false_eq_true,if_false,if_true,EVS]
    cases d2:inR a.to_ 0 ((c.codes.length:Int) - 1)
    ·simp only[Zan,Z5 hk,Zk hk hal,hi,List.length_map,g3,g4,d1,d2,Bool.false_eq_true,if_false,if_true,EVS]
    cases d3:ZeZ c.signals.length a.sig a.up
    ·simp only[Zan,Z5 hk,Zk hk hal,hi,List.length_map,g3,g4,g5,d1,d2,d3,Zmw,Bool.false_eq_true,if_false,if_true,EVS]
    ·rw[d1,d2,d3] at hg;cases hg
   ·obtain ⟨f,t,x,y,hf,ht,l1,l2,hx',hy',he⟩:=Zmx hg
    unfold Zcz at hg
    simp only[Bool.and_eq_true] at hg
    have bx:=hp.bits x (List.mem_of_getElem? hx')
    have by_:=hp.bits y (List.mem_of_getElem? hy')
    have i1:Zn (.lst (c.codes.map PV.str)) (.int .i64 (f:Int))=some (.str x):=Zm hx'
    have i2:Zn (.lst (c.codes.map PV.str)) (.int .i64 (t:Int))=some (.str y):=Zm hy'
    have e1:c.codes.getD f []=x:=by rw[List.getD_eq_getElem?_getD,hx'];rfl
    have e2:c.codes.getD t []=y:=by rw[List.getD_eq_getElem?_getD,hy'];rfl
    have d1:=hg.1.1
    have d2:=hg.1.2
    have lx:=ZfI bx
    have ly:=ZfI by_
    have g6:=Znq a x y (hc.each x (List.mem_of_getElem? hx')) (by omega)
    rw[Zw5 a.sig a.up x y _ bx by_ he] at g6
    simp only[Zan,hf,ht] at g3 g4 g6 d1 d2
    rw[hf,ht,Int.toNat_natCast,Int.toNat_natCast,e1,e2]
    cases d4:ZjK a.sig a.up x y<;>simp only[Zan,hf,ht,Z5 hk,Zk hk hal,hi,List.length_map,g3,g4,g5,g6,d1,d2,he,d4,i1,i2,Zmw,Ztk,Bool.false_eq_true,if_false,if_true,EVS]
  ·rw[Zar] at hall'
   have hin:=Zoc hall'
   have g7:=Zo7 c.codes.length c.arcs hin hp.arcs
   have g8:=Znr c.codes.length 0 (Zmy c) (by have:=hp.many;omega) hp.one (by have:=hp.arcs;unfold Zmy;rw[List.length_map];omega) (Zo8 hin)
   have hd:=Zm2 hp.one (Zo8 hin)
   have g9:=ZfK (Zdr c.codes.length (Zmy c) 0) (-1) (by unfold ZG;rw[hd.len];omega)
   have hme:Zhs c= !decide ((-1:Int)∈Zdr c.codes.length (Zmy c) 0):=Zwu hp.one (Zo8 hin)
   rw[Zhv] at g9
   unfold Zmy at g8
   simp only[Zau,List.length_map,g7,EVS]
   rw[show (Int.negSucc 0)=(-1:Int) from rfl]
   simp only[Int.natCast_zero] at g8
   simp only[g8,EVS]
   unfold Zmy at g9 hme
   simp only[g9,hme,Bool.not_not,EVS]
  ·rw[Zar]
   show _=some (pB (c.arcs.all (ZiS c)&&Zhs c))
   cases c.arcs.all (ZiS c)<;>rfl
 ·rw[Zar]
  show _=some (pB ((true&&c.codes.all (fun x=>ZX x c.signals.length))&&(Zge c&&Zhs c)))
  cases c.codes.all (fun x=>ZX x c.signals.length)<;>simp only[Bool.false_eq_true,if_false,if_true,EVS]<;>rfl
theorem ZqK {R α β:Type} (l:List α) (J:β→Nat→List PV) (Inv:Nat→β→Prop) (step:β→Nat→α→Sum β (Option R)) (e:β→Option R) (f:(List PV→Option R)→List PV→Option R) (hl:l.length≤9223372036854775807)
 (hs:∀b k x b',Inv k b→l[k]?=some x→step b k x=.inl b'→Inv (k+1) b')
 (h1:∀again b k x,Inv k b→l[k]?=some x→f again (J b k)=match step b k x with|.inl b'=>again (J b' (k+1))|.inr z=>z)
 (h2:∀again b,Inv l.length b→f again (J b l.length)=e b) {b:β} {k:Nat} (hk:k≤l.length) (hb:Inv k b):Zs f 18446744073709551616 (J b k)=Za0 step e k b (l.drop k):=by
 have key:=Zbp (R:=R) (fun q:{q:β×Nat // Inv q.2 q.1∧q.2≤l.length}=>J q.1.1 q.1.2) (fun q=>l.length+1 - q.1.2) (fun q=>Za0 step e q.1.2 q.1.1 (l.drop q.1.2)) f (fun again q ih=> ?_) 18446744073709551616 ⟨(b,k),hb,hk⟩ (by simp only;omega)
 ·exact key
 ·obtain ⟨⟨b,k⟩,hi,hk⟩:=q
  dsimp only at ih hi hk⊢
  by_cases hlt:k<l.length
  ·have hx:l[k]?=some l[k]:=List.getElem?_eq_getElem hlt
   rw[h1 again b k _ hi hx,List.drop_eq_getElem_cons hlt]
   unfold Za0
   cases hst:step b k l[k] with
   |inl b'=>exact ih ⟨(b',k+1),hs _ _ _ _ hi hx hst,hlt⟩ (by simp only;omega)
   |inr z=>rfl
  ·obtain rfl:k=l.length:=by omega
   rw[h2 again b hi,List.drop_length]
   rfl
theorem capsA0 :Zde 0 (.tup [])=some []:=by simp[Zde,PV.parts]
theorem Zh9 (a:PArc):Zbl [Zan a]=some (pB (decide (a.sig= -1))):=by
 show (fun x0=>Zbl [x0]) _=_
 rw[ZhO]
 simp only[Zan,EVS]
 rfl
theorem ZbA (l:List PArc) (hl:ZG l):Zz [.lst (l.map Zan),.tup []]=some (pI (ixf (fun a=>decide (a.sig= -1)) 0 l)):=by
 show (fun x0 x1=>Zz [x0,x1]) _ _=_
 rw[Zbx]
 unfold ZG at hl
 simp only[EVS]
 refine (congrArg (fun m:Option PV=>m.bind fun r=>if r.sc=true then some r else none) (ZdM l (fun a=>decide (a.sig= -1)) _ hl (fun again k a hb=> ?_) (fun again=> ?_))).trans ?_
 ·have hk:=Zh hb
  have hi:Zn (.lst (l.map Zan)) (.int .i64 (k:Int))=some (Zan a):=Zm hb
  have g:=Zh9 a
  simp only[Zan] at g
  cases hc:decide (a.sig= -1)<;>simp only[Z5 hk,Zk hk hl,hi,Zan,g,hc,capsA0,List.append_nil,List.cons_append,List.nil_append,Bool.false_eq_true,if_false,if_true,EVS]
 ·simp only[Zau,EVS]
  rfl
 ·simp only[EVS]
def Zgf (l:List PArc):Bool:=l.any fun a=>decide (a.sig= -1)
theorem Zbd (l:List PArc) (hl:ZG l):Zv [.lst (l.map Zan),.tup []]=some (pB (Zgf l)):=by
 have g:=ZbA l hl
 show (fun x0 x1=>Zv [x0,x1]) _ _=_
 rw[Zba]
 simp only[g,Zfp (fun a:PArc=>decide (a.sig= -1)) l 0,EVS]
 rw[Zar,List.all_eq_not_any_not]
 simp only[Bool.not_not]
 rfl
theorem Zo9 (c:PSG) (hl:ZG c.arcs):Zee [eSG c]=some (pB (c.arcs.any fun a=>decide (a.sig<0))):=by
 unfold ZG at hl
 show (fun x0=>Zee [x0]) _=_
 rw[ZnB]
 simp only[eSG,EVS]
 refine (congrArg (fun m:Option PV=>m.bind fun r=>if r.sc=true then some r else none) (Z8 (R:=PV) c.arcs (fun _ a=> !decide (a.sig<0)) (some (pB true)) (some (pB false)) _ hl (fun again k a hx=> ?_) (fun again=> ?_))).trans ?_
 ·have hk:=Zh hx
  have hi:Zn (.lst (c.arcs.map Zan)) (.int .i64 (k:Int))=some (Zan a):=Zm hx
  cases hc:decide (a.sig<0)<;>simp only[List.length_map,Z5 hk,Zk hk hl,hi,Zan,hc,Bool.not_true,Bool.not_false,Bool.false_eq_true,if_false,if_true,EVS]
 ·simp only[List.length_map,Zau,EVS]
 ·rw[Zar,List.any_eq_not_all_not]
  cases c.arcs.all (fun a=> !decide (a.sig<0))<;>simp only[Bool.not_true,Bool.not_false,Bool.false_eq_true,if_false,if_true,EVS]
theorem Zsx {c:PSG} (h:Zge c=true):(c.arcs.any fun a=>decide (a.sig<0))=Zgf c.arcs:=by
 unfold Zgf
 rw[Bool.eq_iff_iff,List.any_eq_true,List.any_eq_true]
 constructor
 ·rintro ⟨a,ha,h1⟩
  refine ⟨a,ha, ?_⟩
  have:=List.all_eq_true.1 h a ha
  unfold ZiS Zcz ZeZ inR at this
  simp only[Bool.and_eq_true,Bool.or_eq_true,decide_eq_true_eq] at this h1⊢
  omega
 ·rintro ⟨a,ha,h1⟩
  refine ⟨a,ha, ?_⟩
  simp only[decide_eq_true_eq] at h1⊢
  omega
theorem Zwf (x y:List UInt8×Int):eqV (some [(0,TD.str),(1,TD.int IntKind.i64)]) TD.struct (.agg [.str x.1,pI x.2]) (.agg [.str y.1,pI y.2])=some (decide (x=y)):=by
 have e:decide (x=y)=((x.1==y.1)&&((x.2==y.2)&&true)):=by
  rw[Bool.eq_iff_iff]
  simp only[decide_eq_true_eq,Bool.and_eq_true,Prod.ext_iff,beq_iff_eq,and_true]
 rw[e]
 show (some (x.1==y.1)).bind (fun b=>(some ((x.2==y.2)&&true)).map fun c=>b&&c)=_
 rfl
def Zgg (l:List (List UInt8×Int)) (k:Nat) (x:List UInt8×Int):Bool:=match l[k]? with|some y=>decide (x=y)|none=>false
theorem ZtT (l m:List (List UInt8×Int)) (h:l.length=m.length):ZU (Zgg m) 0 l=decide (l=m):=by
 rw[Bool.eq_iff_iff,Zmv,decide_eq_true_eq]
 constructor
 ·intro hx
  apply List.ext_getElem h
  intro i h1 h2
  have:=hx i l[i] (List.getElem?_eq_getElem h1)
  unfold Zgg at this
  rw[Nat.zero_add,List.getElem?_eq_getElem h2] at this
  simpa using this
 ·rintro rfl i x hi
  unfold Zgg
  rw[Nat.zero_add,hi]
  simp
theorem ZfL (l m:List (List UInt8×Int)) (hl:ZG l):ZaD [.lst (l.map Zaa),.lst (m.map Zaa)]=some (pB (decide (l=m))):=by
 unfold ZG at hl
 show (fun x0 x1=>ZaD [x0,x1]) _ _=_
 rw[Zfz]
 by_cases hlen:l.length=m.length
 ·have d:decide ((l.length:Int)=(m.length:Int))=true:=by rw[decide_eq_true_eq];omega
  simp only[List.length_map,d,EVS]
  refine (congrArg (fun m:Option PV=>m.bind fun r=>if r.sc=true then some r else none) (Z8 (R:=PV) l (Zgg m) (some (pB false)) (some (pB true)) _ hl (fun again k x hx=> ?_) (fun again=> ?_))).trans ?_
  ·have hk:=Zh hx
   have hy:m[k]?=some (m[k]'(by omega)):=List.getElem?_eq_getElem _
   have hi:Zn (.lst (l.map Zaa)) (.int .i64 (k:Int))=some (Zaa x):=Zm hx
   have hj:Zn (.lst (m.map Zaa)) (.int .i64 (k:Int))=some (Zaa (m[k]'(by omega))):=Zm hy
   have hs:Zgg m k x=decide (x=m[k]'(by omega)):=by unfold Zgg;rw[hy]
   have he:=Zwf x (m[k]'(by omega))
   rw[hs]
   cases hc:decide (x=m[k]'(by omega))<;>simp only[List.length_map,Z5 hk,Zk hk hl,hi,hj,Zaa,ZaF,he,hc,Bool.not_true,Bool.not_false,Bool.false_eq_true,if_false,if_true,EVS]
  ·simp only[List.length_map,Zau,EVS]
  ·rw[ZtT l m hlen]
   cases decide (l=m)<;>simp only[Bool.false_eq_true,if_false,if_true,EVS]
 ·have d:decide ((l.length:Int)=(m.length:Int))=false:=by simp only[decide_eq_false_iff_not];omega
  have hne:decide (l=m)=false:=by simp only[decide_eq_false_iff_not];rintro rfl;exact hlen rfl
  simp only[List.length_map,d,hne,EVS]
theorem ZjL (l m:List (List UInt8×Int)) (hl:ZG l):Zcc [.lst (l.map Zaa),.lst (m.map Zaa)]=some (pB (decide (l=m))):=by
 unfold ZG at hl
 show (fun x0 x1=>Zcc [x0,x1]) _ _=_
 rw[Zjc]
 by_cases hlen:l.length=m.length
 ·have d:decide ((l.length:Int)=(m.length:Int))=true:=by rw[decide_eq_true_eq];omega
  simp only[List.length_map,d,EVS]
  refine (congrArg (fun m:Option PV=>m.bind fun r=>if r.sc=true then some r else none) (Z8 (R:=PV) l (Zgg m) (some (pB false)) (some (pB true)) _ hl (fun again k x hx=> ?_) (fun again=> ?_))).trans ?_
  ·have hk:=Zh hx
   have hy:m[k]?=some (m[k]'(by omega)):=List.getElem?_eq_getElem _
   have hi:Zn (.lst (l.map Zaa)) (.int .i64 (k:Int))=some (Zaa x):=Zm hx
   have hj:Zn (.lst (m.map Zaa)) (.int .i64 (k:Int))=some (Zaa (m[k]'(by omega))):=Zm hy
   have hs:Zgg m k x=decide (x=m[k]'(by omega)):=by unfold Zgg;rw[hy]
   have he:=Zwf x (m[k]'(by omega))
   rw[hs]
   cases hc:decide (x=m[k]'(by omega))<;>simp only[List.length_map,Z5 hk,Zk hk hl,hi,hj,Zaa,ZaF,he,hc,Bool.not_true,Bool.not_false,Bool.false_eq_true,if_false,if_true,EVS]
  ·simp only[List.length_map,Zau,EVS]
  ·rw[ZtT l m hlen]
   cases decide (l=m)<;>simp only[Bool.false_eq_true,if_false,if_true,EVS]
 ·have d:decide ((l.length:Int)=(m.length:Int))=false:=by simp only[decide_eq_false_iff_not];omega
  have hne:decide (l=m)=false:=by simp only[decide_eq_false_iff_not];rintro rfl;exact hlen rfl
  simp only[List.length_map,d,hne,EVS]
def ZiT (a b:PArc):Bool:=(((!decide (a.sig= -1))&&decide (b.from_=a.from_))&&decide (b.sig=a.sig))&& !decide (b.to_=a.to_)
def Zpa (a b:PArc):Bool:=((decide (a.from_=b.from_)&&decide (a.sig=b.sig))&&decide (0≤a.sig))&& !decide (a.to_=b.to_)
def wE (p:Nat×Nat):PV:=.lst [pI p.1,pI p.2]
def ZcX (w:PArc→PArc→Bool) (i:Nat) (a:PArc):Nat→List (Nat×Nat)→List PArc→List (Nat×Nat)
 |_,acc,[]=>acc
 |k,acc,b::l=>ZcX w i a (k+1) (if w a b=true then acc++[(i,k)] else acc) l
def Zgh (w:PArc→PArc→Bool) (arcs:List PArc):Nat→List (Nat×Nat)→List PArc→List (Nat×Nat)
 |_,acc,[]=>acc
 |i,acc,a::l=>Zgh w arcs (i+1) (ZcX w i a (i+1) acc (arcs.drop (i+1))) l
theorem Zhw {R:Type} (w:PArc→PArc→Bool) (i:Nat) (a:PArc) (e:List (Nat×Nat)→Option R):∀(l:List PArc) (k:Nat) (acc:List (Nat×Nat)),Za0 (fun (acc:List (Nat×Nat)) k b=>.inl (if w a b=true then acc++[(i,k)] else acc)) e k acc l=e (ZcX w i a k acc l)
 |[],k,acc=>rfl
 |b::l,k,acc=>by unfold Za0 ZcX;exact Zhw w i a e l (k+1) _
theorem Zhx {R:Type} (w:PArc→PArc→Bool) (arcs:List PArc) (e:List (Nat×Nat)→Option R):∀(l:List PArc) (k:Nat) (acc:List (Nat×Nat)),Za0 (fun (acc:List (Nat×Nat)) i a=>.inl (ZcX w i a (i+1) acc (arcs.drop (i+1)))) e k acc l=e (Zgh w arcs k acc l)
 |[],k,acc=>rfl
 |b::l,k,acc=>by unfold Za0 Zgh;exact Zhx w arcs e l (k+1) _
theorem ZiU (w:PArc→PArc→Bool) (i:Nat) (a:PArc):∀(l:List PArc) (k:Nat) (acc:List (Nat×Nat)),(ZcX w i a k acc l).length≤acc.length+l.length
 |[],k,acc=>by simp[ZcX]
 | b::l,k,acc=>by
  have:=ZiU w i a l (k+1) (if w a b=true then acc++[(i,k)] else acc)
  unfold ZcX
  split at this<;>rename_i h
  ·rw[if_pos h];simp at this⊢;omega
  ·rw[if_neg h];simp at this⊢;omega
theorem ZjM {w w':PArc→PArc→Bool} (i:Nat) (a:PArc):∀(l:List PArc) (k:Nat) (acc:List (Nat×Nat)),(∀b∈l,w a b=w' a b)→ZcX w i a k acc l=ZcX w' i a k acc l
 |[],k,acc,h=>rfl
 |b::l,k,acc,h=>by unfold ZcX;rw[h b List.mem_cons_self];exact ZjM i a l _ _ fun b hb=>h b (List.mem_cons_of_mem _ hb)
theorem ZjN {w w':PArc→PArc→Bool} (arcs:List PArc):∀(l:List PArc) (k:Nat) (acc:List (Nat×Nat)),(∀a∈l,∀b∈arcs,w a b=w' a b)→Zgh w arcs k acc l=Zgh w' arcs k acc l
 |[],k,acc,h=>rfl
 | a::l,k,acc,h=>by
  unfold Zgh
  rw[ZjM k a _ _ _ fun b hb=>h a List.mem_cons_self b (List.mem_of_mem_drop hb)]
  exact ZjN arcs l _ _ fun a ha=>h a (List.mem_cons_of_mem _ ha)
def Zhy (w:PArc→PArc→Bool) (c:PSG):List (Nat×Nat):=Zgh w c.arcs 0 [] c.arcs
theorem Zw7 {c:PSG} (h:Zge c=true):Zhy Zpa c=Zhy ZiT c:=ZjN _ _ _ _ fun a ha b hb=>by
 have:=List.all_eq_true.1 h a ha
 unfold ZiS Zcz ZeZ inR at this
 simp only[Bool.and_eq_true,Bool.or_eq_true,decide_eq_true_eq] at this
 have h1:a.sig= -1∨0≤a.sig:=by omega
 unfold Zpa ZiT
 rw[Bool.eq_iff_iff]
 simp only[Bool.and_eq_true,Bool.not_eq_true',decide_eq_true_eq,decide_eq_false_iff_not]
 omega
theorem ZqL (c:PSG) (hl:c.arcs.length≤4000):Zff [eSG c]=some (.lst ((Zhy ZiT c).map wE)):=by
 show (fun x0=>Zff [x0]) _=_
 rw[ZpF]
 simp only[eSG,EVS]
 refine (Zdd (R:=PV) c.arcs (fun (acc:List (Nat×Nat)) i=>[.lst (acc.map wE),pI (Int.ofNat i)]) (fun i acc=>acc.length≤i * 4000) (fun acc i a=>.inl (ZcX ZiT i a (i+1) acc (c.arcs.drop (i+1)))) (fun acc=>some (.lst (acc.map wE))) _ (by omega) (fun acc i a acc' hi hx he=> ?_) (fun again acc i a hi hx=> ?_) (fun again acc hi=> ?_) (b:=[]) (by simp)).trans (Zhx _ _ _ _ _ _)
 ·cases he
  have:=ZiU ZiT i a (c.arcs.drop (i+1)) (i+1) acc
  simp at this
  omega
 ·have hk:=Zh hx
  have hi':Zn (.lst (c.arcs.map Zan)) (.int .i64 (i:Int))=some (Zan a):=Zm hx
  have hnx:=Zk hk (show c.arcs.length≤9223372036854775807 by omega)
  simp only[List.length_map,Z5 hk,hnx,hi',Zan,EVS]
  refine (ZqK (R:=PV) c.arcs (fun (acc:List (Nat×Nat)) k=>[.lst (acc.map wE),pI (Int.ofNat k)]) (fun k acc=>acc.length≤i * 4000+k) (fun acc k b=>.inl (if ZiT a b=true then acc++[(i,k)] else acc)) (fun acc=>again [.lst (acc.map wE),pI (Int.ofNat (i+1))]) _ (by omega) (fun acc k b acc' hi hx he=> ?_) (fun again' acc k b hi2 hx2=> ?_) (fun again' acc hi=> ?_) (b:=acc) (k:=i+1) (show i+1≤c.arcs.length from hk) (show acc.length≤i * 4000+(i+1) from Nat.le_trans hi (Nat.le_add_right _ _))).trans (Zhw _ _ _ _ _ _ _)
  ·cases he
   show (if ZiT a b=true then acc++[(i,k)] else acc).length≤i * 4000+(k+1)
   have hi:acc.length≤i * 4000+k:=hi
   cases ZiT a b
   ·rw[if_neg (by decide)];omega
   ·rw[if_pos rfl,List.length_append,List.length_singleton];omega
  ·have hk2:=Zh hx2
   have hj:Zn (.lst (c.arcs.map Zan)) (.int .i64 (k:Int))=some (Zan b):=Zm hx2
   have hla:acc.length+[PV.lst [pI (i:Int),pI (k:Int)]].length≤4294967296∧[PV.lst [pI (i:Int),pI (k:Int)]].all (ZaG 1)=true:=⟨by simp;omega,rfl⟩
   have hps:acc.map wE++[PV.lst [pI (i:Int),pI (k:Int)]]=(acc++[(i,k)]).map wE:=by simp[wE]
   unfold ZiT
   simp only[List.length_map,Z5 hk2,Zk hk2 (show c.arcs.length≤9223372036854775807 by omega),hj,Zan,EVS]
   rw[show Int.negSucc 0=(-1:Int) from rfl]
   have hok:([PV.lst [pI (i:Int),pI (k:Int)]].all fun x=>ZaG 1 x)=true:=rfl
   cases c1:decide (a.sig= -1)<;>cases c2:decide (b.from_=a.from_)<;>cases c3:decide (b.sig=a.sig)<;>cases c4:decide (b.to_=a.to_)<;>simp only[c1,c2,c3,c4,if_pos hla,hps,if_pos hok,EVS]
  ·simp only[List.length_map,Zau,hnx,EVS]
 ·simp only[List.length_map,Zau,EVS]
theorem Zsy (c:PSG) (hl:c.arcs.length≤4000):ZgB [eSG c]=some (.lst ((Zhy Zpa c).map wE)):=by
 show (fun x0=>ZgB [x0]) _=_
 rw[Zrd]
 simp only[eSG,EVS]
 refine (Zdd (R:=PV) c.arcs (fun (acc:List (Nat×Nat)) i=>[.lst (acc.map wE),pI (Int.ofNat i)]) (fun i acc=>acc.length≤i * 4000) (fun acc i a=>.inl (ZcX Zpa i a (i+1) acc (c.arcs.drop (i+1)))) (fun acc=>some (.lst (acc.map wE))) _ (by omega) (fun acc i a acc' hi hx he=> ?_) (fun again acc i a hi hx=> ?_) (fun again acc hi=> ?_) (b:=[]) (by simp)).trans (Zhx _ _ _ _ _ _)
 ·cases he
  have:=ZiU Zpa i a (c.arcs.drop (i+1)) (i+1) acc
  simp at this
  omega
 ·have hk:=Zh hx
  have hi':Zn (.lst (c.arcs.map Zan)) (.int .i64 (i:Int))=some (Zan a):=Zm hx
  have hnx:=Zk hk (show c.arcs.length≤9223372036854775807 by omega)
  simp only[List.length_map,Z5 hk,hnx,hi',Zan,EVS]
  refine (ZqK (R:=PV) c.arcs (fun (acc:List (Nat×Nat)) k=>[.lst (acc.map wE),pI (Int.ofNat k)]) (fun k acc=>acc.length≤i * 4000+k) (fun acc k b=>.inl (if Zpa a b=true then acc++[(i,k)] else acc)) (fun acc=>again [.lst (acc.map wE),pI (Int.ofNat (i+1))]) _ (by omega) (fun acc k b acc' hi hx he=> ?_) (fun again' acc k b hi2 hx2=> ?_) (fun again' acc hi=> ?_) (b:=acc) (k:=i+1) (show i+1≤c.arcs.length from hk) (show acc.length≤i * 4000+(i+1) from Nat.le_trans hi (Nat.le_add_right _ _))).trans (Zhw _ _ _ _ _ _ _)
  ·cases he
   show (if Zpa a b=true then acc++[(i,k)] else acc).length≤i * 4000+(k+1)
   have hi:acc.length≤i * 4000+k:=hi
   cases Zpa a b
   ·rw[if_neg (by decide)];omega
   ·rw[if_pos rfl,List.length_append,List.length_singleton];omega
  ·have hk2:=Zh hx2
   have hj:Zn (.lst (c.arcs.map Zan)) (.int .i64 (k:Int))=some (Zan b):=Zm hx2
   have hla:acc.length+[PV.lst [pI (i:Int),pI (k:Int)]].length≤4294967296∧[PV.lst [pI (i:Int),pI (k:Int)]].all (ZaG 1)=true:=⟨by simp;omega,rfl⟩
   have hps:acc.map wE++[PV.lst [pI (i:Int),pI (k:Int)]]=(acc++[(i,k)]).map wE:=by simp[wE]
   unfold Zpa
   simp only[List.length_map,Z5 hk2,Zk hk2 (show c.arcs.length≤9223372036854775807 by omega),hj,Zan,EVS]
   have hok:([PV.lst [pI (i:Int),pI (k:Int)]].all fun x=>ZaG 1 x)=true:=rfl
   cases c1:decide (a.from_=b.from_)<;>cases c2:decide (a.sig=b.sig)<;>cases c3:decide (0≤a.sig)<;>cases c4:decide (a.to_=b.to_)<;>simp only[c1,c2,c3,c4,if_pos hla,hps,if_pos hok,EVS]
  ·simp only[List.length_map,Zau,hnx,EVS]
 ·simp only[List.length_map,Zau,EVS]
theorem Zh0 {c:PSG} (h:sgV c=true):ZfJ c=true∧Zo6 c=true∧Zge c=true∧Zhs c=true:=by
 unfold sgV at h
 simp only[Bool.and_eq_true] at h
 exact ⟨h.1.1,h.1.2,h.2.1,h.2.2⟩
theorem ZqM {c:PSG} (h:sgV c=true):c.arcs.length≤4000:=by
 have:=(Zh0 h).1
 unfold ZfJ at this
 simp only[Bool.and_eq_true,Bool.not_eq_true',decide_eq_false_iff_not] at this
 omega
def ZtU (c:PSG) (n:PNet):Bool:=((!Zgf c.arcs)&&decide (((Zhy ZiT c).length:Int)=0))&&decide (c.signals=n.signals)
def goP (c:PSG) (n:PNet):Bool:=(sgV c&&Zfn n)&&ZtU c n
theorem ZuN (c:PSG) (n:PNet) (hc:SGFit c) (hn:n.Fit):Zh3 [eSG c,Z3 n]=some (pB (goP c n)):=by
 have g1:=Zsw c hc
 have g2:=ZqH n hn
 show (fun x0 x1=>Zh3 [x0,x1]) _ _=_
 rw[ZsL]
 unfold goP ZtU
 simp only[eSG,Z3] at g1 g2
 cases c1:sgV c
 ·rw[c1] at g1;simp only[eSG,Z3,ZaF,Zay,g1,EVS]
 cases c2:Zfn n
 ·rw[c1] at g1;rw[c2] at g2;simp only[eSG,Z3,ZaF,Zay,g1,g2,EVS]
 rw[c1] at g1;rw[c2] at g2
 have g3:=Zo9 c hc.arcs
 rw[Zsx (Zh0 c1).2.2.1] at g3
 have g4:=Zsy c (ZqM c1)
 rw[Zw7 (Zh0 c1).2.2.1] at g4
 have g5:=ZjL c.signals n.signals hc.sigs
 simp only[eSG] at g3 g4
 cases c3:Zgf c.arcs
 ·rw[c3] at g3
  cases c4:decide (((Zhy ZiT c).length:Int)=0)
  ·simp only[eSG,Z3,ZaF,Zay,g1,g2,g3,g4,c4,List.length_map,EVS]
  ·simp only[eSG,Z3,ZaF,Zay,g1,g2,g3,g4,g5,c4,List.length_map,EVS]
 ·rw[c3] at g3;simp only[eSG,Z3,ZaF,Zay,g1,g2,g3,EVS]
theorem ZiV (c:PSG) (n:PNet) (hc:SGFit c) (hn:n.Fit):Za8 [eSG c,Z3 n]=some (.tup [pB (goP c n),pB (sgV c&&Zfn n)]):=by
 have g1:=Zg1 c hc
 have g2:=ZiQ n hn
 rw[←net_eq] at g2
 have g3:=Zbd c.arcs hc.arcs
 have g5:=ZfL c.signals n.signals hc.sigs
 show (fun x0 x1=>Za8 [x0,x1]) _ _=_
 rw[Zi5]
 unfold goP ZtU
 simp only[eSG,Z3] at g1 g2
 cases c1:sgV c
 ·rw[c1] at g1;simp only[eSG,Z3,ZaF,Zay,g1,EVS];rfl
 cases c2:Zfn n
 ·rw[c1] at g1;rw[c2] at g2;simp only[eSG,Z3,ZaF,Zay,g1,g2,EVS];rfl
 rw[c1] at g1;rw[c2] at g2
 have g4:=ZqL c (ZqM c1)
 simp only[eSG] at g4
 cases c3:Zgf c.arcs
 ·rw[c3] at g3
  cases c4:decide (((Zhy ZiT c).length:Int)=0)
  ·simp only[eSG,Z3,ZaF,Zay,g1,g2,g3,g4,c4,List.length_map,EVS];rfl
  ·simp only[eSG,Z3,ZaF,Zay,g1,g2,g3,g4,g5,c4,List.length_map,EVS];rfl
 ·rw[c3] at g3;simp only[eSG,Z3,ZaF,Zay,g1,g2,g3,EVS];rfl
theorem Zgi {R:Type} (a b:Nat) (st:Nat→List PV) (e:Option R) (f:(List PV→Option R)→List PV→Option R) (hm:b≤9223372036854775807)
 (h1:∀again k,a≤k→k<b→f again (st k)=again (st (k+1)))
 (h2:∀again,f again (st b)=e) (hab:a≤b) (J:List PV) (hJ:st a=J):Zs f 18446744073709551616 J=e:=by
 subst hJ
 have key:=Zbp (R:=R) (fun k:{k:Nat // a≤k∧k≤b}=>st k.1) (fun k=>b+1 - k.1) (fun _=>e) f (fun again k ih=> ?_) 18446744073709551616 ⟨a,Nat.le_refl _,hab⟩ (by simp only;omega)
 ·exact key
 ·obtain ⟨k,hk,hk2⟩:=k
  dsimp only at ih⊢
  by_cases c:k<b
  ·rw[h1 again k hk c]
   exact ih ⟨k+1,by omega,c⟩ (by simp only;omega)
  ·obtain rfl:k=b:=by omega
   exact h2 again
def ZcF (good:Nat→Bool) (k:Nat):List Int:=((List.range k).filter good).map fun (i:Nat)=>Int.ofNat i
theorem ZmB (good:Nat→Bool) (k:Nat):(ZcF good k).length≤k:=by
 unfold ZcF
 rw[List.length_map]
 exact Nat.le_trans (List.length_filter_le _ _) (by simp)
theorem Zsz {good:Nat→Bool} {k:Nat} (h:good k=true):ZcF good (k+1)=ZcF good k++[(k:Int)]:=by
 unfold ZcF
 rw[List.range_succ,List.filter_append]
 simp[h]
theorem ZuO {good:Nat→Bool} {k:Nat} (h:good k=false):ZcF good (k+1)=ZcF good k:=by
 unfold ZcF
 rw[List.range_succ,List.filter_append]
 simp[h]
def ZM (n:PNet) (s:List UInt8) (k:Nat):Bool:=match n.wires[k]? with|some w=>Zhr n s k w !=Zk6 s k|none=>false
theorem ZmC (n:PNet) (s:List UInt8) (hn:n.Fit) (hs:ZG s) (hv:ZeY n s=true) (hb:n.wires.length≤1048576):Zdl [Z3 n,.str s]=some (.lst ((ZcF (ZM n s) n.wires.length).map pI)):=by
 show (fun x0 x1=>Zdl [x0,x1]) _ _=_
 rw[Zlb]
 simp only[Z3,EVS]
 refine (congrArg (fun m:Option PV=>m) (Zgi (R:=PV) 0 n.wires.length (fun k=>[.lst ((ZcF (ZM n s) k).map pI),pI (Int.ofNat k)]) (some (.lst ((ZcF (ZM n s) n.wires.length).map pI))) _ (by omega) (fun again k h1 h2=> ?_) (fun again=> ?_) (Nat.zero_le _) _ (by simp[ZcF]))).trans ?_
 ·have ha:=Zwe n s k hn hs hv h2
  have a1:=ZkU n s k _ ha
  simp only[Z3] at a1
  have hk:k<s.length:=ha.lt
  have hby:=Zr (k:=.i64) (List.getElem?_eq_getElem hk)
  have ho:Zk6 s k=decide ((s[k].toNat:Int)=49):=by unfold Zk6;rw[List.getElem?_eq_getElem hk]
  have he:ZM n s k=(Zhr n s k n.wires[k] !=Zk6 s k):=by unfold ZM;rw[List.getElem?_eq_getElem h2]
  have hl:(ZcF (ZM n s) k).length+[pI (k:Int)].length≤4294967296∧[pI (k:Int)].all (ZaG 1)=true:=⟨by have:=ZmB (ZM n s) k;simp;omega,rfl⟩
  have he':(!Zhr n s k n.wires[k]==decide ((s[k].toNat:Int)=49))=ZM n s k:=by rw[he,ho];rfl
  have hm:n.wires.length≤9223372036854775807:=by omega
  simp only[Z5 h2,hby,a1,he',EVS]
  cases hE:ZM n s k
  ·simp only[Zk h2 hm,ZuO hE,EVS]
  ·simp only[if_pos hl,Zk h2 hm,Zsz hE,List.map_append,List.map_cons,List.map_nil,EVS]
 ·simp only[Zau,EVS]
 ·rfl
theorem Ze0 (n:PNet) (s:List UInt8) (k:Nat) (hn:n.Fit) (hs:ZG s) (hv:ZeY n s=true) (h2:k<n.wires.length):ZaC [Z3 n,.str s,pI k]=some (pB (ZM n s k)):=by
 have ha:=Zwe n s k hn hs hv h2
 have a1:=ZjI n s k _ ha
 simp only[Z3] at a1
 have hk:k<s.length:=ha.lt
 have hby:=Zr (k:=.i64) (List.getElem?_eq_getElem hk)
 have he:ZM n s k=(Zhr n s k n.wires[k] !=decide ((s[k].toNat:Int)=49)):=by unfold ZM Zk6;rw[List.getElem?_eq_getElem h2,List.getElem?_eq_getElem hk]
 have hbit:Zgd s[k]=true:=by
  unfold ZeY ZX at hv
  simp only[Bool.and_eq_true] at hv
  exact ZjJ _ _ _ hv.2.1 k _ (List.getElem?_eq_getElem hk)
 unfold Zgd at hbit
 simp only[Bool.or_eq_true,decide_eq_true_eq] at hbit
 show (fun x0 x1 x2=>ZaC [x0,x1,x2]) _ _ _=_
 rw[Zjh]
 simp only[Z3,a1,hby,ZtO,he,EVS]
 cases Zhr n s k n.wires[k]<;>rcases hbit with h|h<;>rw[h]<;>rfl
def Zfr (n:PNet) (v:List UInt8) (k:Nat):Bool:=match n.wires[k]? with|some w=>Zhr n v k w|none=>false
def ZfM (n:PNet):Nat→Nat→List UInt8→List UInt8
 |0,_,v=>v
 |c+1,k,v=>ZfM n c (k+1) (v.set k (ZeO (Zfr n v k)))
def ZdN (n:PNet) (code:List UInt8):List UInt8:=ZfM n (n.wires.length - n.signals.length) n.signals.length (code++List.replicate (n.wires.length - n.signals.length) 48)
theorem Zb3 {n:PNet} (h:Zfn n=true):n.signals.length≤n.wires.length∧n.wires.length≤24:=by
 unfold Zfn at h
 simp only[Bool.and_eq_true,Bool.not_eq_true',decide_eq_false_iff_not] at h
 omega
theorem ZtV {n:PNet} {v:List UInt8} {k:Nat} (hn:n.Fit) (hv:Zfn n=true) (hb:ZX v n.wires.length=true) (hk:k<n.wires.length):At n v k n.wires[k]∧Zhr n v k n.wires[k]=Zfr n v k:=by
 have hl:=(Zb2.1 hb).2
 refine ⟨Zwe n v k hn (by unfold ZG;have:=(Zb3 hv).2;omega) (by unfold ZeY;rw[hv,hb];rfl) hk, ?_⟩
 unfold Zfr
 rw[List.getElem?_eq_getElem hk]
theorem Zns (n:PNet) (code:List UInt8) (hn:n.Fit) (hv:Zfn n=true) (hc:ZX code n.signals.length=true):ZdR [Z3 n,.str code]=some (.str (ZdN n code)):=by
 obtain ⟨hs1,hs2⟩:=Zb3 hv
 have hcl:=(Zb2.1 hc).2
 obtain ⟨N,hN⟩:∃N,n.wires.length=N:=⟨_,rfl⟩
 obtain ⟨m,hm⟩:∃m,n.signals.length=m:=⟨_,rfl⟩
 show (fun x0 x1=>ZdR [x0,x1]) _ _=_
 rw[ZmW]
 simp only[Z3,EVS]
 have key:=Zbp (R:=PV) (fun j:{j:Nat // j≤N - m}=>[.str (code++List.replicate j.1 48)]) (fun j=>N - m+1 - j.1) (fun _=>some (.str (ZdN n code)))
 have key':∀f:(List PV→Option PV)→List PV→Option PV,(∀again (a:{j:Nat // j≤N - m}),(∀a':{j:Nat // j≤N - m},N - m+1 - a'.1<N - m+1 - a.1→again [.str (code++List.replicate a'.1 48)]=some (.str (ZdN n code)))→f again [.str (code++List.replicate a.1 48)]=some (.str (ZdN n code)))→Zs f 18446744073709551616 [.str code]=some (.str (ZdN n code)):=fun f hf=>by
  have:=key f hf 18446744073709551616 ⟨0,Nat.zero_le _⟩ (by simp only;omega)
  simpa using this
 refine (congrArg (fun m:Option PV=>m.bind fun r=>if r.sc=true then some r else none) (key' _ (fun again j ih=> ?_))).trans rfl
 obtain ⟨j,hj⟩:=j
 dsimp only at ih⊢
 have hlen:(code++List.replicate j (48:UInt8)).length=m+j:=by simp;omega
 by_cases c1:m+j<N
 ·have h1:decide (((m+j:Nat):Int)<(N:Int))=true:=by simp;omega
  have h0:Zd .add TD.str (.str (code++List.replicate j (48:UInt8))) (.str [48])=some (.str (code++List.replicate (j+1) (48:UInt8))):=by
   rw[Zj9 (by simp at hlen⊢;omega),List.append_assoc,←List.replicate_succ']
  have h5:Zd .add TD.str (.str (code++List.replicate j (48:UInt8))) (.str [(48:UInt8)])=some (.str (code++List.replicate (j+1) (48:UInt8))):=h0
  simp only[hN,hlen,h1,h0,h5,List.length_map,EVS]
  exact ih ⟨j+1,by omega⟩ (by simp only;omega)
 ·obtain rfl:j=N - m:=by omega
  have h1:decide (((m+(N - m):Nat):Int)<(N:Int))=false:=by simp;omega
  simp only[hN,hm,hlen,h1,List.length_map,EVS]
  have key2:=Zbp (R:=PV) (fun q:{q:List UInt8×Nat // ZX q.1 N=true∧q.2≤N}=>[.str q.1.1,pI (Int.ofNat q.1.2)]) (fun q=>N+1 - q.1.2) (fun q=>some (.str (ZfM n (N - q.1.2) q.1.2 q.1.1)))
  have hb0:ZX (code++List.replicate (N - m) (48:UInt8)) N=true:=Zmu (by rw[←hm];exact hc) (by omega)
  refine (key2 _ (fun again q ih=> ?_) 18446744073709551616 ⟨(code++List.replicate (N - m) 48,m),hb0,by omega⟩ (by simp only;omega)).trans ?_
  ·obtain ⟨⟨v,k⟩,hb,hk⟩:=q
   dsimp only at ih hb hk⊢
   have hvl:=(Zb2.1 hb).2
   by_cases c2:k<N
   ·obtain ⟨a1,a2⟩:=ZtV (k:=k) hn hv (by rw[hN];exact hb) (by omega)
    have a3:=ZkU n v k _ a1
    rw[a2] at a3
    simp only[Z3] at a3
    have a4:=ZhZ v k (ZeO (Zfr n v k)) (by omega) (by unfold ZG;omega)
    have h3:decide ((k:Int)<(N:Int))=true:=by simpa using c2
    have hw:IntKind.i64.wrap ((k:Int)+1)=((k+1:Nat):Int):=by rw[Zdc (by omega) (by omega)];omega
    simp only[hN,h3,a3,ZhY,a4,hw,List.length_map,EVS]
    have h4:=ih ⟨(v.set k (ZeO (Zfr n v k)),k+1),Zmt hb _,by omega⟩ (by simp only;omega)
    rw[show N - k=(N - (k+1))+1 by omega]
    exact h4
   ·obtain rfl:k=N:=by omega
    have h3:decide ((k:Int)<(k:Int))=false:=by simp
    simp only[hN,h3,List.length_map,EVS]
    rw[Nat.sub_self]
    rfl
  ·unfold ZdN
   rw[hN,hm]
theorem ZqN (c:UInt8):∀k,Lib.repeatL [c] k=List.replicate k c
 |0=>rfl
 |k+1=>by rw[Lib.repeatL,ZqN c k];rfl
theorem ZiW (c:UInt8) (k:Nat) (h:k≤1048576):ZaR [.str [c],pI k]=some (.str (List.replicate k c)):=by
 have h1:(0:Int)≤(k:Int)∧(k:Int)≤9223372036854775807∧(([c]:List UInt8).length:Int) * (k:Int)≤140737488355328:=by simp;omega
 show (if (0:Int)≤(k:Int)∧(k:Int)≤9223372036854775807∧(([c]:List UInt8).length:Int) * (k:Int)≤140737488355328 then some (PV.str (Lib.repeatL [c] (Int.toNat (k:Int)))) else none)=_
 rw[if_pos h1,Int.toNat_natCast,ZqN]
theorem ZsA (n:PNet) (code:List UInt8) (hn:n.Fit) (hv:Zfn n=true) (hc:ZX code n.signals.length=true):ZgI [Z3 n,.str code]=some (.str (ZdN n code)):=by
 obtain ⟨hs1,hs2⟩:=Zb3 hv
 have hcl:=(Zb2.1 hc).2
 obtain ⟨N,hN⟩:∃N,n.wires.length=N:=⟨_,rfl⟩
 obtain ⟨m,hm⟩:∃m,n.signals.length=m:=⟨_,rfl⟩
 have hb0:ZX (code++List.replicate (N - m) (48:UInt8)) N=true:=Zmu (by rw[←hm];exact hc) (by omega)
 show (fun x0 x1=>ZgI [x0,x1]) _ _=_
 rw[Zrm]
 have hw1:IntKind.i64.wrap ((N:Int) - (m:Int))=((N - m:Nat):Int):=by rw[Zdc (by omega) (by omega)];omega
 have hr:ZaR [.str [(48:UInt8)],pI ((N - m:Nat):Int)]=some (.str (List.replicate (N - m) 48)):=ZiW 48 (N - m) (by omega)
 have hcl':code.length=m:=by omega
 have h0:Zd .add TD.str (.str code) (.str (List.replicate (N - m) (48:UInt8)))=some (.str (code++List.replicate (N - m) (48:UInt8))):=Zj9 (by simp;omega)
 simp only[Z3,hN,hcl',hw1,hr,h0,List.length_map,EVS]
 have key2:=Zbp (R:=PV) (fun q:{q:List UInt8×Nat // ZX q.1 N=true∧q.2≤N}=>[.str q.1.1,pI (Int.ofNat q.1.2)]) (fun q=>N+1 - q.1.2) (fun q=>some (.str (ZfM n (N - q.1.2) q.1.2 q.1.1)))
 refine (congrArg (fun m:Option PV=>m.bind fun r=>if r.sc=true then some r else none) (key2 _ (fun again q ih=> ?_) 18446744073709551616 ⟨(code++List.replicate (N - m) 48,m),hb0,by omega⟩ (by simp only;omega))).trans ?_
 ·obtain ⟨⟨v,k⟩,hb,hk⟩:=q
  dsimp only at ih hb hk⊢
  have hvl:=(Zb2.1 hb).2
  by_cases c2:k<N
  ·obtain ⟨a1,a2⟩:=ZtV (k:=k) hn hv (by rw[hN];exact hb) (by omega)
   have a3:=ZjI n v k _ a1
   rw[a2] at a3
   simp only[Z3] at a3
   have h3:decide ((k:Int)<(N:Int))=true:=by simpa using c2
   have hw:IntKind.i64.wrap ((k:Int)+1)=((k+1:Nat):Int):=by rw[Zdc (by omega) (by omega)];omega
   have h4:ZgZ (.str v) none (some (.int .i64 (k:Int)))=some (.str (v.take k)):=ZnS (by omega)
   have h5:ZgZ (.str v) (some (.int .i64 ((k+1:Nat):Int))) none=some (.str (v.drop (k+1))):=ZnT (by omega)
   have h6:Zd .add TD.str (.str (v.take k)) (.str [ZeO (Zfr n v k)])=some (.str (v.take k++[ZeO (Zfr n v k)])):=Zj9 (by simp;omega)
   have h7:Zd .add TD.str (.str (v.take k++[ZeO (Zfr n v k)])) (.str (v.drop (k+1)))=some (.str (v.take k++[ZeO (Zfr n v k)]++v.drop (k+1))):=Zj9 (by simp;omega)
   simp only[hvl,h3,h4,a3,ZtO,h6,hw,h5,h7,ZtP v k _ (show k<v.length by omega),EVS]
   have h8:=ih ⟨(v.set k (ZeO (Zfr n v k)),k+1),Zmt hb _,by omega⟩ (by simp only;omega)
   rw[show N - k=(N - (k+1))+1 by omega]
   exact h8
  ·obtain rfl:k=N:=by omega
   have h3:decide ((k:Int)<(k:Int))=false:=by simp
   simp only[hvl,h3,EVS]
   rw[Nat.sub_self]
   rfl
 ·unfold ZdN
  rw[hN,hm]
  rfl
def ZqO (a:PArc):Zel:=(a.from_,a.sig,a.up,a.to_)
def ZmD (c:PSG):List (List Int):=Zc3 c.codes.length c.signals.length (c.arcs.map ZqO)
def toC (c:PSG) (k s:Nat):Int:=Zd4 (ZmD c) k s
structure Go1 (c:PSG) (n:PNet):Prop where
 net:Zfn n=true
 one:1≤c.codes.length
 many:c.codes.length≤300
 sone:1≤c.signals.length
 smany:c.signals.length≤8
 few:c.arcs.length≤4000
 bits:∀x∈c.codes,ZX x c.signals.length=true
 arcs:∀a∈c.arcs,0≤a.from_∧a.from_<c.codes.length∧0≤a.to_∧a.to_<c.codes.length∧0≤a.sig∧a.sig<c.signals.length
 det:∀a∈c.arcs,∀b∈c.arcs,a.from_=b.from_→a.sig=b.sig→a.to_=b.to_
 same:c.signals=n.signals
 fitc:SGFit c
 fitn:n.Fit
theorem ZmE (w:PArc→PArc→Bool) (i:Nat) (a:PArc):∀(l:List PArc) (k:Nat) (acc:List (Nat×Nat)),ZcX w i a k acc l=[]→acc=[]∧∀b∈l,w a b=false
 |[],k,acc,h=>⟨h,by simp⟩
 | b::l,k,acc,h=>by
  unfold ZcX at h
  obtain ⟨h1,h2⟩:=ZmE w i a l (k+1) _ h
  cases c:w a b
  ·rw[c] at h1
   simp only[Bool.false_eq_true,if_false] at h1
   refine ⟨h1,fun x hx=> ?_⟩
   rcases List.mem_cons.1 hx with rfl|hx
   ·exact c
   ·exact h2 x hx
  ·rw[c] at h1
   simp at h1
theorem ZmF (w:PArc→PArc→Bool) (arcs:List PArc):∀(l:List PArc) (k:Nat) (acc:List (Nat×Nat)),Zgh w arcs k acc l=[]→acc=[]∧∀(i:Nat) (a:PArc),l[i]?=some a→∀b∈arcs.drop (k+i+1),w a b=false
 |[],k,acc,h=>⟨h,by simp⟩
 | a::l,k,acc,h=>by
  unfold Zgh at h
  obtain ⟨h1,h2⟩:=ZmF w arcs l (k+1) _ h
  obtain ⟨h3,h4⟩:=ZmE w _ a _ _ _ h1
  refine ⟨h3,fun i x hx=> ?_⟩
  cases i with
  |zero=>simp at hx;subst hx;exact h4
  | succ i=>
   have:=h2 i x (by simpa using hx)
   rwa[show k+1+i+1=k+(i+1)+1 by omega] at this
theorem ZuP {c:PSG} (h:ZfJ c=true):1≤c.signals.length∧c.signals.length≤8:=by
 unfold ZfJ Zio inR at h
 simp only[Bool.and_eq_true,decide_eq_true_eq] at h
 omega
theorem ZmG {c:PSG} {n:PNet} (h:goP c n=true) (hc:SGFit c) (hn:n.Fit):Go1 c n:=by
 unfold goP ZtU at h
 simp only[Bool.and_eq_true,Bool.not_eq_true',decide_eq_true_eq] at h
 obtain ⟨⟨hs,hnet⟩,⟨hh,hw⟩,hsame⟩:=h
 obtain ⟨h1,h2,h3,h4⟩:=Zh0 hs
 have hp:=Zht h1 h2
 have hsg:=ZuP h1
 have harc:∀a∈c.arcs,0≤a.from_∧a.from_<c.codes.length∧0≤a.to_∧a.to_<c.codes.length∧0≤a.sig∧a.sig<c.signals.length:=fun a ha=>by
  have h5:=List.all_eq_true.1 h3 a ha
  have h6:a.sig≠ -1:=fun e=>by
   have:Zgf c.arcs=true:=List.any_eq_true.2 ⟨a,ha,decide_eq_true e⟩
   rw[this] at hh;cases hh
  unfold ZiS Zcz ZeZ inR at h5
  simp only[Bool.and_eq_true,Bool.or_eq_true,decide_eq_true_eq] at h5
  omega
 refine ⟨hnet,hp.one,hp.many,hsg.1,hsg.2,hp.arcs,hp.bits,harc, ?_,hsame,hc,hn⟩
 have hways:Zhy ZiT c=[]:=List.length_eq_zero_iff.1 (by omega)
 have hkey:=(ZmF ZiT c.arcs c.arcs 0 [] hways).2
 have hlt:∀(i j:Nat) (a b:PArc),i<j→c.arcs[i]?=some a→c.arcs[j]?=some b→a.from_=b.from_→a.sig=b.sig→a.to_=b.to_:=fun i j a b hij hi hj e1 e2=>by
  have:=hkey i a hi b (by
   rw[Nat.zero_add]
   refine List.mem_of_getElem? (i:=j - (i+1)) ?_
   rw[List.getElem?_drop,show i+1+(j - (i+1))=j by omega]
   exact hj)
  have h6:=(harc a (List.mem_of_getElem? hi)).2.2.2.2.1
  unfold ZiT at this
  simp only[e1,e2,decide_true,Bool.and_true,Bool.true_and] at this
  have hn1:decide (b.sig= -1)=false:=by simp only[decide_eq_false_iff_not];omega
  rw[hn1] at this
  simp only[Bool.not_false,Bool.true_and,Bool.not_eq_false',decide_eq_true_eq] at this
  exact this.symm
 intro a ha b hb e1 e2
 obtain ⟨i,hi⟩:=List.getElem?_of_mem ha
 obtain ⟨j,hj⟩:=List.getElem?_of_mem hb
 rcases Nat.lt_trichotomy i j with h|h|h
 ·exact hlt i j a b h hi hj e1 e2
 ·subst h;rw[hi] at hj;cases hj;rfl
 ·exact (hlt j i b a h hj hi e1.symm e2.symm).symm
theorem ZmH {c:PSG} {n:PNet} (h:Go1 c n) {k s:Nat} (hk:k<c.codes.length) (hs:s<c.signals.length):
 (∃a∈c.arcs,(a.from_=(k:Int)∧a.sig=(s:Int))∧toC c k s=a.to_)∨(toC c k s= -1∧∀a∈c.arcs,¬(a.from_=(k:Int)∧a.sig=(s:Int))):=by
 rcases Zru hk hs (c.arcs.map ZqO) with ⟨q,hq,h1,h2⟩|⟨h1,h2⟩
 ·obtain ⟨a,ha,rfl⟩:=List.mem_map.1 hq
  have:=h.arcs a ha
  refine .inl ⟨a,ha, ?_,h2⟩
  unfold ZqO at h1
  dsimp only at h1
  omega
 ·refine .inr ⟨h1,fun a ha hc=> ?_⟩
  have:=h.arcs a ha
  refine h2 (ZqO a) (List.mem_map.2 ⟨a,ha,rfl⟩) ?_
  unfold ZqO
  dsimp only
  omega
theorem toC_in {c:PSG} {n:PNet} (h:Go1 c n) {k s:Nat} (hk:k<c.codes.length) (hs:s<c.signals.length): -1≤toC c k s∧toC c k s<c.codes.length:=by
 rcases ZmH h hk hs with ⟨a,ha,_,h2⟩|⟨h1,_⟩
 ·have:=h.arcs a ha;omega
 ·have:=h.one;omega
theorem ZqP {R:Type} (q:PArc→Bool) (z:PArc→Option R) (e:Option R):∀(l:List PArc) (k:Nat),rgo (fun _ a=>if q a=true then some (z a) else none) e k l=match l.find? q with|some a=>z a|none=>e
 |[],k=>rfl
 | a::l,k=>by
  unfold rgo
  rw[List.find?_cons]
  cases c:q a
  ·simp only[Bool.false_eq_true,if_false]
   exact ZqP q z e l (k+1)
  ·simp
theorem ZuQ (c:PSG) (n:PNet) (k s:Nat) (h:Go1 c n) (hk:k<c.codes.length) (hs:s<c.signals.length):Zh5 [eSG c,pI (k:Int),pI (s:Int)]=some (pI (toC c k s)):=by
 have hl:=h.few
 show (fun x0 x1 x2=>Zh5 [x0,x1,x2]) _ _ _=_
 rw[ZsP]
 simp only[eSG,List.length_map,EVS]
 refine (congrArg (fun m:Option PV=>m.bind fun r=>if r.sc=true then some r else none) ((ZrM (R:=PV) c.arcs (fun _ a=>if (decide (a.from_=(k:Int))&&decide (a.sig=(s:Int)))=true then some (some (pI a.to_)) else none) (some (pI (-1))) _ (by omega) (fun again j a ha=> ?_) (fun again=> ?_)).trans (ZqP _ _ _ _ _))).trans ?_
 ·have hj:=Zh ha
  have hi:Zn (.lst (c.arcs.map Zan)) (.int .i64 (j:Int))=some (Zan a):=Zm ha
  cases c1:decide (a.from_=(k:Int))<;>cases c2:decide (a.sig=(s:Int))<;>simp only[Z5 hj,Zk hj (show c.arcs.length≤9223372036854775807 by omega),hi,Zan,c1,c2,Bool.false_eq_true,if_false,if_true,EVS]
 ·simp only[Zau,EVS]
  rfl
 ·cases hf:c.arcs.find? (fun a=>decide (a.from_=(k:Int))&&decide (a.sig=(s:Int))) with
  | none=>
   have hno:=List.find?_eq_none.1 hf
   rcases ZmH h hk hs with ⟨a,ha,h1,h2⟩|⟨h1,h2⟩
   ·exact absurd (by simp[h1]) (hno a ha)
   ·rw[h1];rfl
  | some a=>
   have ha:=List.mem_of_find?_eq_some hf
   have hq:=List.find?_some hf
   simp only[Bool.and_eq_true,decide_eq_true_eq] at hq
   rcases ZmH h hk hs with ⟨b,hb,h1,h2⟩|⟨h1,h2⟩
   ·rw[h2,h.det b hb a ha (by omega) (by omega)];rfl
   ·exact absurd hq (h2 a ha)
def Zgj (c:PSG) (n:PNet):PV:=.agg [.lst (c.signals.map Zaa),.lst (c.codes.map PV.str),.lst (c.arcs.map Zan),.lst (n.signals.map Zaa),.lst (n.wires.map Z6),.lst ((ZmD c).map Zrw)]
def zSys :PV:=.agg [.lst [],.lst [],.lst [],.lst [],.lst [],.lst []]
set_option maxRecDepth 20000 in
theorem Znt (c:PSG) (n:PNet) (hc:SGFit c) (hn:n.Fit):Zed [eSG c,Z3 n]=some (.tup [if goP c n=true then Zgj c n else zSys,pB (goP c n)]):=by
 have g:=ZiV c n hc hn
 show (match Za8 [eSG c,Z3 n] with
  | some (.tup [.bool is,.bool ok])=>
   match ok&&is with
   | true=>match ZgO (c.arcs.map Zan) with
    |some ars=>if 1≤(c.signals.map Zaa).length∧(c.signals.map Zaa).length≤1048576∧(c.codes.map PV.str).length≤1000000∧(ars.all (Zj1 (c.codes.map PV.str).length (c.signals.map Zaa).length))=true then some (PV.tup [.agg [.lst (c.signals.map Zaa),.lst (c.codes.map PV.str),.lst (c.arcs.map Zan),.lst (n.signals.map Zaa),.lst (n.wires.map Z6),.lst ((Zc3 (c.codes.map PV.str).length (c.signals.map Zaa).length ars).map Zrw)],.bool true]) else none
    |none=>none
   |false=>some (PV.tup [.agg [.lst [],.lst [],.lst [],.lst [],.lst [],.lst []],.bool false])
  |_=>none)=_
 rw[g]
 have hgo:((sgV c&&Zfn n)&&goP c n)=goP c n:=by
  unfold goP
  cases sgV c<;>cases Zfn n<;>simp
 show (match ((sgV c&&Zfn n)&&goP c n) with
  | true=>match ZgO (c.arcs.map Zan) with
   |some ars=>if 1≤(c.signals.map Zaa).length∧(c.signals.map Zaa).length≤1048576∧(c.codes.map PV.str).length≤1000000∧(ars.all (Zj1 (c.codes.map PV.str).length (c.signals.map Zaa).length))=true then some (PV.tup [.agg [.lst (c.signals.map Zaa),.lst (c.codes.map PV.str),.lst (c.arcs.map Zan),.lst (n.signals.map Zaa),.lst (n.wires.map Z6),.lst ((Zc3 (c.codes.map PV.str).length (c.signals.map Zaa).length ars).map Zrw)],.bool true]) else none
   |none=>none
  |false=>some (PV.tup [.agg [.lst [],.lst [],.lst [],.lst [],.lst [],.lst []],.bool false]))=_
 rw[hgo]
 cases hg:goP c n
 ·rfl
 ·have h:=ZmG hg hc hn
  have ha:ZgO (c.arcs.map Zan)=some (c.arcs.map ZqO):=by
   have:c.arcs.map Zan=(c.arcs.map ZqO).map pArc:=by rw[List.map_map];rfl
   rw[this,Zm5]
  dsimp only
  rw[ha]
  dsimp only
  rw[if_pos]
  ·simp only[if_true,List.length_map];rfl
  ·simp only[List.length_map]
   have h1:=h.sone
   have h2:=h.smany
   have h3:=h.many
   refine ⟨h1,by omega,by omega,List.all_eq_true.2 fun q hq=> ?_⟩
   obtain ⟨a,ha,rfl⟩:=List.mem_map.1 hq
   have:=h.arcs a ha
   unfold Zj1 ZqO
   simp only[decide_eq_true_eq]
   omega
def ePs (b:PSt):PV:=.agg [pI b.state,.str b.values]
def eFl (f:Flip):PV:=.agg [pI f.from_,pI f.wire,pI f.to]
def ePr (p:ProdG):PV:=.agg [.lst (p.states.map ePs),.lst (p.flips.map eFl),.lst (p.extra.map eFl)]
theorem ZmI (a b c d e f:PV):Zb true 3 2 [a,b,c,d,e,f]=some (.agg [d,e]):=rfl
theorem spl6' (a b c d e f a' b' c' d' e' f':PV):splice [a,b,c,d,e,f] 0 [a',b',c',d',e',f']=[a',b',c',d',e',f']:=rfl
theorem ZsB (a b c d e f:PV):Zb true 0 6 [a,b,c,d,e,f]=some (.agg [a,b,c,d,e,f]):=rfl
theorem Go1.vals {c:PSG} {n:PNet} (h:Go1 c n) {v:List UInt8} (hb:ZX v n.wires.length=true):ZeY n v=true∧ZG v∧v.length=n.wires.length∧n.wires.length≤24∧n.signals.length≤n.wires.length∧n.signals.length=c.signals.length:=by
 have h1:=Zb3 h.net
 have h2:=(Zb2.1 hb).2
 refine ⟨by unfold ZeY;rw[h.net,hb];rfl,by unfold ZG;omega,h2,h1.2,h1.1,by rw[h.same]⟩
theorem Go1.code {c:PSG} {n:PNet} (h:Go1 c n):∃x,c.codes[0]?=some x∧ZX x n.signals.length=true:=by
 have h1:=h.one
 refine ⟨c.codes[0],List.getElem?_eq_getElem (by omega), ?_⟩
 rw[←h.same]
 exact h.bits _ (List.getElem_mem _)
def Zgk (c:PSG) (n:PNet):PSt:=⟨0,ZdN n (c.codes.getD 0 [])⟩
theorem Zpb (c:PSG) (n:PNet) (h:Go1 c n):Zef [eSG c,Z3 n]=some (ePs (Zgk c n)):=by
 obtain ⟨x,hx,hb⟩:=h.code
 have g:=Zns n x h.fitn h.net hb
 have hi:Zn (.lst (c.codes.map PV.str)) (.int .i64 ((0:Nat):Int))=some (.str x):=Zm hx
 show (fun x0 x1=>Zef [x0,x1]) _ _=_
 rw[ZnD]
 unfold Zgk
 rw[List.getD_eq_getElem?_getD,hx]
 simp only[Int.natCast_zero] at hi
 simp only[Z3] at g
 simp only[eSG,Z3,ZaF,hi,g,EVS]
 rfl
theorem ZqQ (c:PSG) (n:PNet) (h:Go1 c n):ZbR [Zgj c n]=some (ePs (Zgk c n)):=by
 obtain ⟨x,hx,hb⟩:=h.code
 have g:=ZsA n x h.fitn h.net hb
 have hi:Zn (.lst (c.codes.map PV.str)) (.int .i64 ((0:Nat):Int))=some (.str x):=Zm hx
 show (fun x0=>ZbR [x0]) _=_
 rw[Zif]
 unfold Zgk
 rw[List.getD_eq_getElem?_getD,hx]
 simp only[Int.natCast_zero] at hi
 simp only[Z3] at g
 simp only[Zgj,ZmI,hi,g,EVS]
 rfl
theorem Zw8 (c:PSG) {k:Nat} (hk:k<c.codes.length):∃row,(ZmD c)[k]?=some row∧row.length=c.signals.length∧∀s,toC c k s=row.getD s (-1):=by
 have hl:(ZmD c).length=c.codes.length:=ZsW _ _ _
 refine ⟨(ZmD c)[k]'(by omega),List.getElem?_eq_getElem _,ZsX _ _ _ _ (List.getElem_mem _),fun s=> ?_⟩
 unfold toC Zd4
 rw[List.getD_eq_getElem?_getD (l:=ZmD c),List.getElem?_eq_getElem (by omega)]
 rfl
theorem ZmJ (c:PSG) {k s:Nat} (hk:k<c.codes.length) (hs:s<c.signals.length):∃row:List PV,Zn (.lst ((ZmD c).map Zrw)) (.int .i64 (k:Int))=some (.lst row)∧Zn (.lst row) (.int .i64 (s:Int))=some (pI (toC c k s)):=by
 obtain ⟨row,h1,h2,h3⟩:=Zw8 c hk
 refine ⟨row.map pI,Zm h1, ?_⟩
 refine Ztb ?_
 rw[h3 s,List.getElem?_map,List.getElem?_eq_getElem (by omega),List.getD_eq_getElem?_getD,List.getElem?_eq_getElem (by omega)]
 rfl
def Zhz (n:PNet) (k:Nat):Int:=match n.wires[k]? with|some w=>w.kind|none=>0
def inAt (n:PNet) (k:Nat):Bool:=match n.signals[k]? with|some s=>decide (s.2=1)|none=>false
theorem Zxa {n:PNet} (hv:Zfn n=true) {k:Nat} (hk:k<n.signals.length):decide (Zhz n k=1)=inAt n k:=by
 have hs:=(Zb3 hv).1
 have hw:n.wires[k]?=some n.wires[k]:=List.getElem?_eq_getElem (by omega)
 have hsg:n.signals[k]?=some n.signals[k]:=List.getElem?_eq_getElem hk
 unfold Zhz inAt
 rw[hw,hsg]
 unfold Zfn at hv
 simp only[Bool.and_eq_true] at hv
 have h1:=ZjJ _ _ _ hv.2 k _ hw
 rw[Nat.zero_add] at h1
 unfold Zcx Zmn ZfH at h1
 have hd:decide ((k:Int)<(n.signals.length:Int))=true:=by simp only[decide_eq_true_eq];omega
 rw[hd,hsg] at h1
 simp only[Bool.and_eq_true,Bool.not_true,Bool.false_or,beq_iff_eq] at h1
 exact h1.1.1.1.2.2
def ZjO (c:PSG) (n:PNet) (s:Nat) (v:List UInt8) (k:Nat):Bool:=if n.signals.length≤k then ZM n v k else decide (0≤toC c s k)&&(decide (Zhz n k=1)||ZM n v k)
theorem ZqR (c:PSG) (n:PNet) (h:Go1 c n) (s:Nat) (v:List UInt8) (k:Nat) (hs:s<c.codes.length) (hb:ZX v n.wires.length=true) (hk:k<n.wires.length):ZbS [Zgj c n,ePs ⟨s,v⟩,pI (k:Int)]=some (pB (ZjO c n s v k)):=by
 obtain ⟨h1,h2,h3,h4,h5,h6⟩:=h.vals hb
 have g:=Ze0 n v k h.fitn h2 h1 hk
 simp only[Z3] at g
 show (fun x0 x1 x2=>ZbS [x0,x1,x2]) _ _ _=_
 rw[Zih]
 unfold ZjO
 by_cases c1:n.signals.length≤k
 ·have hd:decide ((n.signals.length:Int)≤(k:Int))=true:=by simp only[decide_eq_true_eq];omega
  rw[if_pos c1]
  simp only[Zgj,ePs,List.length_map,hd,ZmI,g,EVS]
 ·have hd:decide ((n.signals.length:Int)≤(k:Int))=false:=by simp only[decide_eq_false_iff_not];omega
  obtain ⟨row,r1,r2⟩:=ZmJ c hs (show k<c.signals.length by omega)
  have hw:Zn (.lst (n.wires.map Z6)) (.int .i64 (k:Int))=some (Z6 n.wires[k]):=Zm (List.getElem?_eq_getElem hk)
  have hkd:Zhz n k=n.wires[k].kind:=by unfold Zhz;rw[List.getElem?_eq_getElem hk]
  rw[if_neg c1,hkd]
  cases c2:decide (0≤toC c s k)<;>cases c3:decide (n.wires[k].kind=1)<;>simp only[Zgj,ePs,List.length_map,hd,ZmI,r1,r2,c2,c3,hw,Z6,List.drop_succ_cons,List.drop_zero,g,EVS]
def flB (b:UInt8):UInt8:=if b=48 then 49 else 48
def Ze1 (v:List UInt8) (k:Nat):List UInt8:=v.set k (flB (v.getD k 48))
def Zas (c:PSG) (n:PNet) (s:Nat) (v:List UInt8) (k:Nat):PSt:=⟨if k<n.signals.length then toC c s k else s,Ze1 v k⟩
theorem Zxb (b:UInt8):Zgd (flB b)=true:=by unfold flB;split<;>decide
theorem ZmK {v:List UInt8} {N k:Nat} (h:ZX v N=true):ZX (Ze1 v k) N=true:=by
 rw[Zb2] at h⊢
 refine ⟨fun b hb=> ?_,by unfold Ze1;rw[List.length_set];exact h.2⟩
 unfold Ze1 at hb
 rcases List.mem_or_eq_of_mem_set hb with hb|rfl
 ·exact h.1 b hb
 ·exact Zxb _
theorem Zxc {b:UInt8} (h:Zgd b=true):Zd .xor (TD.int .u8) (pU b) (.int .u8 1)=some (pU (flB b)):=by
 rcases (Zwd b).1 h with rfl|rfl<;>rfl
theorem Zwg (c:PSG) (n:PNet) (h:Go1 c n) (s:Nat) (v:List UInt8) (k:Nat) (hs:s<c.codes.length) (hb:ZX v n.wires.length=true) (hk:k<n.wires.length):ZcU [Zgj c n,ePs ⟨s,v⟩,pI (k:Int)]=some (ePs (Zas c n s v k)):=by
 obtain ⟨h1,h2,h3,h4,h5,h6⟩:=h.vals hb
 have hc:=Zw4 v h2
 have hvk:v[k]?=some v[k]:=List.getElem?_eq_getElem (by omega)
 have p1:Zdt (v.map pU) (.int .i64 (k:Int))=some (.int .i64 (k:Int)):=Zfj (by rw[List.length_map];omega)
 have q1:(v.map pU)[k]?=some (pU v[k]):=by rw[List.getElem?_map,hvk];rfl
 have hx:=Zxc ((Zb2.1 hb).1 v[k] (List.getElem_mem _))
 have hse:ZbJ 0 1 [pU v[k]] (pU v[k]) (pU (flB v[k]))=some (pU (flB v[k])):=rfl
 have st:(v.map pU).set k (pU (flB v[k]))=(v.set k (flB v[k])).map pU:=Zo4 pU v k _
 have hbo:=Zhd (v.set k (flB v[k]))
 have hfv:Ze1 v k=v.set k (flB v[k]):=by unfold Ze1;rw[List.getD_eq_getElem?_getD,hvk];rfl
 show (fun x0 x1 x2=>ZcU [x0,x1,x2]) _ _ _=_
 rw[ZkD]
 unfold Zas
 rw[hfv]
 by_cases c1:k<n.signals.length
 ·have hd:decide ((k:Int)<(n.signals.length:Int))=true:=by simp only[decide_eq_true_eq];omega
  obtain ⟨row,r1,r2⟩:=ZmJ c hs (show k<c.signals.length by omega)
  rw[if_pos c1]
  simp only[Zgj,ePs,List.length_map,hc,p1,q1,Int.toNat_natCast,hx,hse,st,hbo,hd,r1,r2,EVS]
 ·have hd:decide ((k:Int)<(n.signals.length:Int))=false:=by simp only[decide_eq_false_iff_not];omega
  rw[if_neg c1]
  simp only[Zgj,ePs,List.length_map,hc,p1,q1,Int.toNat_natCast,hx,hse,st,hbo,hd,EVS]
theorem Zpc (v:List UInt8) (k:Nat) (hk:k<v.length) (hv:ZG v):Zeg [.str v,pI (k:Int)]=some (.str (Ze1 v k)):=by
 have hvk:v[k]?=some v[k]:=List.getElem?_eq_getElem hk
 have hb:Zaj (.str v) (.int .i64 (k:Int))=some (pU v[k]):=Zr hvk
 have g1:=ZhY (decide ((v[k].toNat:Int)=48))
 have g2:=ZhZ v k (ZeO (decide ((v[k].toNat:Int)=48))) hk hv
 have hfb:ZeO (decide ((v[k].toNat:Int)=48))=flB v[k]:=by
  unfold flB
  have:((v[k].toNat:Int)=48)↔v[k]=48:=by rw[←UInt8.toNat_inj];exact Int.ofNat_inj
  by_cases c:v[k]=48
  ·rw[if_pos c,decide_eq_true (this.2 c)];rfl
  ·rw[if_neg c,decide_eq_false (fun e=>c (this.1 e))];rfl
 show (fun x0 x1=>Zeg [x0,x1]) _ _=_
 rw[ZnF]
 unfold Ze1
 rw[List.getD_eq_getElem?_getD,hvk,Option.getD_some,←hfb]
 simp only[hb,g1,g2,EVS]
theorem ZuR (l:List Int) (x:Int) (hl:ZG l):Zh6 [.lst (l.map pI),pI x]=some (pB (decide (x∈l))):=by
 unfold ZG at hl
 show (fun x0 x1=>Zh6 [x0,x1]) _ _=_
 rw[ZsR]
 simp only[EVS]
 refine (congrArg (fun m:Option PV=>m.bind fun r=>if r.sc=true then some r else none) (Z8 (R:=PV) l (fun _ y=> !decide (x=y)) (some (pB true)) (some (pB false)) _ hl (fun again k y hx=> ?_) (fun again=> ?_))).trans ?_
 ·have hk:=Zh hx
  have hi:Zn (.lst (l.map pI)) (.int .i64 (k:Int))=some (pI y):=Zm hx
  have he:decide (y=x)=decide (x=y):=by rw[Bool.eq_iff_iff,decide_eq_true_eq,decide_eq_true_eq];exact eq_comm
  simp only[Z5 hk,Zk hk hl,hi,he,EVS]
  cases decide (x=y)<;>simp only[EVS]
 ·simp only[Zau,EVS]
 ·rw[Zhv]
  cases decide (x∈l)<;>rfl
theorem ZsC (good:Nat→Bool) (N k:Nat) (hk:k<N):decide ((k:Int)∈ZcF good N)=good k:=by
 unfold ZcF
 rw[Bool.eq_iff_iff,decide_eq_true_eq,List.mem_map]
 constructor
 ·rintro ⟨i,hi,he⟩
  rw[List.mem_filter] at hi
  have:i=k:=by have:(i:Int)=(k:Int):=he;omega
  rw[←this]
  exact hi.2
 ·intro h
  exact ⟨k,List.mem_filter.2 ⟨List.mem_range.2 hk,h⟩,rfl⟩
def ZaH (c:PSG) (n:PNet) (s:Nat) (v:List UInt8) (k:Nat):List Nat:=(List.range k).filter (ZjO c n s v)
def Zgl (c:PSG) (n:PNet) (s:Nat) (v:List UInt8) (k:Nat):Bool:=decide (k<n.signals.length)&&((!decide (Zhz n k=1)&&decide (toC c s k<0))&&ZM n v k)
def Zab (c:PSG) (n:PNet) (s:Nat) (v:List UInt8) (k:Nat):List Nat:=(List.range k).filter (Zgl c n s v)
def eNn (i:Nat):PV:=pI (i:Int)
theorem ZeF {good:Nat→Bool} {k:Nat} (h:good k=true):(List.range (k+1)).filter good=(List.range k).filter good++[k]:=by
 rw[List.range_succ,List.filter_append];simp[h]
theorem Zdh {good:Nat→Bool} {k:Nat} (h:good k=false):(List.range (k+1)).filter good=(List.range k).filter good:=by
 rw[List.range_succ,List.filter_append];simp[h]
theorem ZfN (good:Nat→Bool) (k:Nat):((List.range k).filter good).length≤k:=by
 have:=List.length_filter_le good (List.range k)
 simpa using this
theorem ZmL (c:PSG) (n:PNet) (h:Go1 c n) (s:Nat) (v:List UInt8) (hs:s<c.codes.length) (hb:ZX v n.wires.length=true):
 ZaW [Zgj c n,ePs ⟨s,v⟩]=some (.tup [.lst ((ZaH c n s v n.wires.length).map fun k=>ePs (Zas c n s v k)),.lst ((ZaH c n s v n.wires.length).map eNn)]):=by
 obtain ⟨h1,h2,h3,h4,h5,h6⟩:=h.vals hb
 show (fun x0 x1=>ZaW [x0,x1]) _ _=_
 rw[ZgK]
 simp only[Zgj,ePs,List.length_map,EVS]
 refine (Zgi (R:=PV) 0 n.wires.length (fun k=>[.lst ((ZaH c n s v k).map eNn),.lst ((ZaH c n s v k).map fun k=>ePs (Zas c n s v k)),pI (Int.ofNat k)]) (some (.tup [.lst ((ZaH c n s v n.wires.length).map fun k=>ePs (Zas c n s v k)),.lst ((ZaH c n s v n.wires.length).map eNn)])) _ (by omega) (fun again k k1 k2=> ?_) (fun again=> ?_) (Nat.zero_le _) _ (by simp[ZaH]))
 ·have a1:=ZqR c n h s v k hs hb k2
  have a2:=Zwg c n h s v k hs hb k2
  have hcl:(ZaH c n s v k).length≤k:=ZfN _ k
  simp only[Zgj,ePs] at a1 a2
  have hm:n.wires.length≤9223372036854775807:=by omega
  have hla:(ZaH c n s v k).length+[ePs (Zas c n s v k)].length≤4294967296∧[ePs (Zas c n s v k)].all (ZaG 2)=true:=⟨by simp;omega,rfl⟩
  have hlb:(ZaH c n s v k).length+[pI (k:Int)].length≤4294967296∧[pI (k:Int)].all (ZaG 1)=true:=⟨by simp;omega,rfl⟩
  simp only[ePs] at hla
  simp only[Z5 k2,ZsB,a1,EVS]
  cases hE:ZjO c n s v k
  ·have e1:ZaH c n s v (k+1)=ZaH c n s v k:=Zdh hE
   simp only[Zk k2 hm,e1,EVS]
  ·have e1:ZaH c n s v (k+1)=ZaH c n s v k++[k]:=ZeF hE
   simp only[a2,if_pos hla,if_pos hlb,Zk k2 hm,e1,ZsB,List.map_append,List.map_cons,List.map_nil,eNn,EVS]
   rfl
 ·simp only[Zau,EVS]
theorem ZsD (c:PSG) (n:PNet) (s:Nat) (v:List UInt8):∀(k:Nat),n.signals.length≤k→Zab c n s v k=Zab c n s v n.signals.length:=by
 intro k hk
 induction k with
 | zero => have:n.signals.length=0:=by omega
           rw[this]
 | succ k ih=>
  by_cases c1:n.signals.length≤k
  ·have:Zgl c n s v k=false:=by unfold Zgl;rw[decide_eq_false (by omega)];rfl
   rw[←ih c1]
   exact Zdh this
  ·rw[show n.signals.length=k+1 by omega]
theorem ZmM (c:PSG) (n:PNet) (h:Go1 c n) (s:Nat) (v:List UInt8) (hs:s<c.codes.length) (hb:ZX v n.wires.length=true):
 ZaX [Zgj c n,ePs ⟨s,v⟩]=some (.lst ((Zab c n s v n.wires.length).map eNn)):=by
 obtain ⟨h1,h2,h3,h4,h5,h6⟩:=h.vals hb
 rw[ZsD c n s v _ h5]
 show (fun x0 x1=>ZaX [x0,x1]) _ _=_
 rw[ZgM]
 simp only[Zgj,ePs,List.length_map,EVS]
 refine (Zgi (R:=PV) 0 n.signals.length (fun k=>[.lst ((Zab c n s v k).map eNn),pI (Int.ofNat k)]) (some (.lst ((Zab c n s v n.signals.length).map eNn))) _ (by omega) (fun again k k1 k2=> ?_) (fun again=> ?_) (Nat.zero_le _) _ (by simp[Zab]))
 ·have hkw:k<n.wires.length:=by omega
  have g:=Ze0 n v k h.fitn h2 h1 hkw
  simp only[Z3] at g
  have hcl:(Zab c n s v k).length≤k:=ZfN _ k
  have hm:n.signals.length≤9223372036854775807:=by omega
  have hlb:(Zab c n s v k).length+[pI (k:Int)].length≤4294967296∧[pI (k:Int)].all (ZaG 1)=true:=⟨by simp;omega,rfl⟩
  obtain ⟨row,r1,r2⟩:=ZmJ c hs (show k<c.signals.length by omega)
  have hw:Zn (.lst (n.wires.map Z6)) (.int .i64 (k:Int))=some (Z6 n.wires[k]):=Zm (List.getElem?_eq_getElem hkw)
  have hkd:Zhz n k=n.wires[k].kind:=by unfold Zhz;rw[List.getElem?_eq_getElem hkw]
  have hE:Zgl c n s v k=((!decide (n.wires[k].kind=1)&&decide (toC c s k<0))&&ZM n v k):=by unfold Zgl;rw[decide_eq_true k2,hkd];rfl
  cases c2:decide (n.wires[k].kind=1)<;>cases c3:decide (toC c s k<0)<;>cases c4:ZM n v k<;>rw[c2,c3,c4] at hE<;>
   simp only[Bool.not_true,Bool.not_false,Bool.and_true,Bool.and_false,Bool.true_and,Bool.false_and] at hE
  all_goals first
   | (have e1:Zab c n s v (k+1)=Zab c n s v k:=Zdh hE
      simp only[Z5 k2,hw,Z6,List.drop_succ_cons,List.drop_zero,c2,c3,c4,r1,r2,ZmI,g,Zk k2 hm,e1,EVS])
   | (have e1:Zab c n s v (k+1)=Zab c n s v k++[k]:=ZeF hE
      simp only[Z5 k2,hw,Z6,List.drop_succ_cons,List.drop_zero,c2,c3,c4,r1,r2,ZmI,g,if_pos hlb,Zk k2 hm,e1,List.map_append,List.map_cons,List.map_nil,eNn,EVS])
 ·simp only[Zau,EVS]
theorem ZqS (c:PSG) (n:PNet) (h:Go1 c n) (s:Nat) (v:List UInt8) (hs:s<c.codes.length) (hb:ZX v n.wires.length=true):
 Zfc [eSG c,Z3 n,ePs ⟨s,v⟩]=some (.tup [.lst ((ZaH c n s v n.wires.length).map fun k=>ePs (Zas c n s v k)),.lst ((ZaH c n s v n.wires.length).map eNn),.lst ((Zab c n s v n.wires.length).map eNn)]):=by
 obtain ⟨h1,h2,h3,h4,h5,h6⟩:=h.vals hb
 have g0:=ZmC n v h.fitn h2 h1 (by omega)
 simp only[Z3] at g0
 show (fun x0 x1 x2=>Zfc [x0,x1,x2]) _ _ _=_
 rw[Zpz]
 simp only[eSG,Z3,ePs,ZaF,g0,List.length_map,EVS]
 refine (Zgi (R:=PV) 0 n.wires.length (fun k=>[.lst ((ZaH c n s v k).map fun k=>ePs (Zas c n s v k)),.lst ((ZaH c n s v k).map eNn),.lst ((Zab c n s v k).map eNn),pI (Int.ofNat k)]) (some (.tup [.lst ((ZaH c n s v n.wires.length).map fun k=>ePs (Zas c n s v k)),.lst ((ZaH c n s v n.wires.length).map eNn),.lst ((Zab c n s v n.wires.length).map eNn)])) _ (by omega) (fun again k k1 k2=> ?_) (fun again=> ?_) (Nat.zero_le _) _ (by simp[ZaH,Zab]))
 ·have g1:=ZuR (ZcF (ZM n v) n.wires.length) k (by unfold ZG;have:=ZmB (ZM n v) n.wires.length;omega)
  rw[ZsC _ _ _ k2] at g1
  have g2:=Zpc v k (by omega) h2
  have hcl:(ZaH c n s v k).length≤k:=ZfN _ k
  have hcx:(Zab c n s v k).length≤k:=ZfN _ k
  have hm:n.wires.length≤9223372036854775807:=by omega
  have hlb:(ZaH c n s v k).length+[pI (k:Int)].length≤4294967296∧[pI (k:Int)].all (ZaG 1)=true:=⟨by simp;omega,rfl⟩
  have hlx:(Zab c n s v k).length+[pI (k:Int)].length≤4294967296∧[pI (k:Int)].all (ZaG 1)=true:=⟨by simp;omega,rfl⟩
  by_cases c1:k<n.signals.length
  ·have hd:=Z5 c1
   have hsg:Zn (.lst (n.signals.map Zaa)) (.int .i64 (k:Int))=some (Zaa n.signals[k]):=Zm (List.getElem?_eq_getElem c1)
   have hin:inAt n k=decide (n.signals[k].2=1):=by unfold inAt;rw[List.getElem?_eq_getElem c1]
   have hki:=Zxa h.net c1
   rw[hin] at hki
   have g3:=ZuQ c n s k h hs (by omega)
   simp only[eSG] at g3
   have hla:(ZaH c n s v k).length+[PV.agg [pI (toC c s k),.str (Ze1 v k)]].length≤4294967296∧[PV.agg [pI (toC c s k),.str (Ze1 v k)]].all (ZaG 2)=true:=⟨by simp;omega,rfl⟩
   have hfl:Zas c n s v k=⟨toC c s k,Ze1 v k⟩:=by unfold Zas;rw[if_pos c1]
   have hE:ZjO c n s v k=(decide (0≤toC c s k)&&(decide (n.signals[k].2=1)||ZM n v k)):=by unfold ZjO;rw[if_neg (by omega),hki]
   have hX:Zgl c n s v k=((!decide (n.signals[k].2=1)&&decide (toC c s k<0))&&ZM n v k):=by unfold Zgl;rw[decide_eq_true c1,hki];rfl
   by_cases c3:0≤toC c s k
   ·have c3':decide (0≤toC c s k)=true:=decide_eq_true c3
    have c3'':decide (toC c s k<0)=false:=decide_eq_false (by omega)
    rw[c3'] at hE
    rw[c3''] at hX
    simp only[Bool.and_false,Bool.false_and,Bool.true_and] at hE hX
    have e2:Zab c n s v (k+1)=Zab c n s v k:=Zdh hX
    cases c2:decide (n.signals[k].2=1)<;>cases c4:ZM n v k<;>rw[c2,c4] at hE<;>rw[c4] at g1<;>simp only[Bool.or_true,Bool.or_false,Bool.true_or,Bool.false_or] at hE
    ·have e1:ZaH c n s v (k+1)=ZaH c n s v k:=Zdh hE
     simp only[Z5 k2,hd,hsg,Zay,g3,g1,c2,c3',List.drop_succ_cons,List.drop_zero,Zk k2 hm,e1,e2,EVS]
    ·have e1:ZaH c n s v (k+1)=ZaH c n s v k++[k]:=ZeF hE
     simp only[Z5 k2,hd,hsg,Zay,g3,g2,g1,c2,c3',List.drop_succ_cons,List.drop_zero,if_pos hla,if_pos hlb,Zk k2 hm,e1,e2,hfl,ePs,List.map_append,List.map_cons,List.map_nil,eNn,EVS]
    ·have e1:ZaH c n s v (k+1)=ZaH c n s v k++[k]:=ZeF hE
     simp only[Z5 k2,hd,hsg,Zay,g3,g2,g1,c2,c3',List.drop_succ_cons,List.drop_zero,if_pos hla,if_pos hlb,Zk k2 hm,e1,e2,hfl,ePs,List.map_append,List.map_cons,List.map_nil,eNn,EVS]
    ·have e1:ZaH c n s v (k+1)=ZaH c n s v k++[k]:=ZeF hE
     simp only[Z5 k2,hd,hsg,Zay,g3,g2,g1,c2,c3',List.drop_succ_cons,List.drop_zero,if_pos hla,if_pos hlb,Zk k2 hm,e1,e2,hfl,ePs,List.map_append,List.map_cons,List.map_nil,eNn,EVS]
   ·have c3':decide (0≤toC c s k)=false:=decide_eq_false c3
    have c3'':decide (toC c s k<0)=true:=decide_eq_true (by omega)
    rw[c3'] at hE
    rw[c3''] at hX
    simp only[Bool.and_true,Bool.false_and,Bool.true_and] at hE hX
    have e1:ZaH c n s v (k+1)=ZaH c n s v k:=Zdh hE
    cases c2:decide (n.signals[k].2=1)<;>cases c4:ZM n v k<;>rw[c2,c4] at hX<;>rw[c4] at g1<;>simp only[Bool.not_true,Bool.not_false,Bool.and_true,Bool.and_false,Bool.true_and,Bool.false_and] at hX
    ·have e2:Zab c n s v (k+1)=Zab c n s v k:=Zdh hX
     simp only[Z5 k2,hd,hsg,Zay,g3,g1,c2,c3',List.drop_succ_cons,List.drop_zero,Zk k2 hm,e1,e2,EVS]
    ·have e2:Zab c n s v (k+1)=Zab c n s v k++[k]:=ZeF hX
     simp only[Z5 k2,hd,hsg,Zay,g3,g1,c2,c3',List.drop_succ_cons,List.drop_zero,if_pos hlx,Zk k2 hm,e1,e2,List.map_append,List.map_cons,List.map_nil,eNn,EVS]
    ·have e2:Zab c n s v (k+1)=Zab c n s v k:=Zdh hX
     simp only[Z5 k2,hd,hsg,Zay,g3,g1,c2,c3',List.drop_succ_cons,List.drop_zero,Zk k2 hm,e1,e2,EVS]
    ·have e2:Zab c n s v (k+1)=Zab c n s v k:=Zdh hX
     simp only[Z5 k2,hd,hsg,Zay,g3,g1,c2,c3',List.drop_succ_cons,List.drop_zero,Zk k2 hm,e1,e2,EVS]
  ·have hd:decide ((k:Int)<(n.signals.length:Int))=false:=by simp only[decide_eq_false_iff_not];omega
   have hE:ZjO c n s v k=ZM n v k:=by unfold ZjO;rw[if_pos (by omega)]
   have hX:Zgl c n s v k=false:=by unfold Zgl;rw[decide_eq_false c1];rfl
   have e2:Zab c n s v (k+1)=Zab c n s v k:=Zdh hX
   have hfl:Zas c n s v k=⟨(s:Int),Ze1 v k⟩:=by unfold Zas;rw[if_neg c1]
   have hla:(ZaH c n s v k).length+[PV.agg [pI (s:Int),.str (Ze1 v k)]].length≤4294967296∧[PV.agg [pI (s:Int),.str (Ze1 v k)]].all (ZaG 2)=true:=⟨by simp;omega,rfl⟩
   have hge:decide (0≤(s:Int))=true:=decide_eq_true (by omega)
   cases c4:ZM n v k<;>rw[c4] at hE g1
   ·have e1:ZaH c n s v (k+1)=ZaH c n s v k:=Zdh hE
    simp only[Z5 k2,hd,Zay,g1,hge,Zk k2 hm,e1,e2,EVS]
   ·have e1:ZaH c n s v (k+1)=ZaH c n s v k++[k]:=ZeF hE
    simp only[Z5 k2,hd,Zay,g2,g1,hge,if_pos hla,if_pos hlb,Zk k2 hm,e1,e2,hfl,ePs,List.map_append,List.map_cons,List.map_nil,eNn,EVS]
 ·simp only[Zau,EVS]
def StB (c:PSG) (n:PNet) (b:PSt):Prop:=∃s:Nat,b.state=s∧s<c.codes.length∧ZX b.values n.wires.length=true
def Zea (k:Nat) (P:ProdG) (w:Nat) (b:PSt):ProdG:=
 if b∈P.states then ⟨P.states,P.flips++[⟨k,w,(P.states.idxOf b:Nat)⟩],P.extra⟩ else ⟨P.states++[b],P.flips++[⟨k,w,(P.states.length:Nat)⟩],P.extra⟩
def inU (c:PSG) (n:PNet) (k s:Nat) (v:List UInt8):List Nat→ProdG→ProdG
 |[],P=>P
 |w::r,P=>inU c n k s v r (Zea k P w (Zas c n s v w))
def exU (k:Nat) (l:List Nat) (P:ProdG):ProdG:=⟨P.states,P.flips,P.extra++l.map fun w:Nat=>⟨(k:Int),(w:Int), -1⟩⟩
def rdU (c:PSG) (n:PNet) (k:Nat) (b:PSt) (P:ProdG):ProdG:=
 exU k (Zab c n b.state.toNat b.values n.wires.length) (inU c n k b.state.toNat b.values (ZaH c n b.state.toNat b.values n.wires.length) P)
def Zk7 (c:PSG) (n:PNet):Nat→Nat→ProdG→Option ProdG
 |0,_,P=>some P
 | f+1,k,P=>match P.states[k]? with
  |none=>some P
  |some b=>if 600<(rdU c n k b P).states.length then none else Zk7 c n f (k+1) (rdU c n k b P)
def ZjP (c:PSG) (n:PNet):Option ProdG:=Zk7 c n 601 0 ⟨[Zgk c n],[],[]⟩
theorem ZjQ (k:Nat) (P:ProdG) (w:Nat) (b:PSt):P.states.length≤(Zea k P w b).states.length∧(Zea k P w b).states.length≤P.states.length+1∧(Zea k P w b).flips.length=P.flips.length+1∧(Zea k P w b).extra=P.extra:=by
 unfold Zea
 split<;>simp
theorem Zgm (c:PSG) (n:PNet) (k s:Nat) (v:List UInt8):∀(l:List Nat) (P:ProdG),P.states.length≤(inU c n k s v l P).states.length∧(inU c n k s v l P).states.length≤P.states.length+l.length∧(inU c n k s v l P).flips.length=P.flips.length+l.length∧(inU c n k s v l P).extra=P.extra
 |[],P=>by simp[inU]
 | w::r,P=>by
  unfold inU
  obtain ⟨h1,h2,h3,h4⟩:=ZjQ k P w (Zas c n s v w)
  obtain ⟨g1,g2,g3,g4⟩:=Zgm c n k s v r (Zea k P w (Zas c n s v w))
  simp only[List.length_cons]
  refine ⟨by omega,by omega,by omega,g4.trans h4⟩
theorem Zxd {k:Nat} {P:ProdG} {w:Nat} {b x:PSt} {i:Nat} (h:P.states[i]?=some x):(Zea k P w b).states[i]?=some x:=by
 unfold Zea
 split
 ·exact h
 ·have:=(List.getElem?_eq_some_iff.1 h).1
  show (P.states++[b])[i]?=_
  rw[List.getElem?_append_left this]
  exact h
theorem Zlv {c:PSG} {n:PNet} {s:Nat} {v:List UInt8} {N w:Nat} (h:w∈ZaH c n s v N):w<N∧ZjO c n s v w=true:=by
 unfold ZaH at h
 rw[List.mem_filter] at h
 exact ⟨List.mem_range.1 h.1,h.2⟩
theorem Zwh {c:PSG} {n:PNet} (h:Go1 c n) {s:Nat} {v:List UInt8} {w:Nat} (hs:s<c.codes.length) (hb:ZX v n.wires.length=true) (hw:ZjO c n s v w=true):StB c n (Zas c n s v w):=by
 unfold Zas
 by_cases c1:w<n.signals.length
 ·rw[if_pos c1]
  unfold ZjO at hw
  rw[if_neg (by omega),Bool.and_eq_true,decide_eq_true_eq] at hw
  have hsl:w<c.signals.length:=by rw[h.same];exact c1
  have:=toC_in h hs hsl
  exact ⟨(toC c s w).toNat,by show toC c s w=_;omega,by omega,ZmK hb⟩
 ·rw[if_neg c1]
  exact ⟨s,rfl,hs,ZmK hb⟩
theorem Zxe {c:PSG} {n:PNet} {k:Nat} {P:ProdG} {w:Nat} {b:PSt} (hP:∀x∈P.states,StB c n x) (hb:StB c n b):∀x∈(Zea k P w b).states,StB c n x:=by
 unfold Zea
 split
 ·exact hP
 ·intro x hx
  rcases List.mem_append.1 hx with hx|hx
  ·exact hP x hx
  ·rw[List.mem_singleton] at hx;subst hx;exact hb
theorem Zwi {c:PSG} {n:PNet} (h:Go1 c n) {k s:Nat} {v:List UInt8} (hs:s<c.codes.length) (hb:ZX v n.wires.length=true):∀(l:List Nat) (P:ProdG),(∀w∈l,ZjO c n s v w=true)→(∀x∈P.states,StB c n x)→∀x∈(inU c n k s v l P).states,StB c n x
 |[],P,_,hP=>hP
 |w::r,P,hl,hP=>Zwi h hs hb r _ (fun x hx=>hl x (List.mem_cons_of_mem _ hx)) (Zxe hP (Zwh h hs hb (hl w List.mem_cons_self)))
theorem rdU_ok {c:PSG} {n:PNet} (h:Go1 c n) {k:Nat} {b:PSt} {P:ProdG} (hb:StB c n b) (hP:∀x∈P.states,StB c n x):∀x∈(rdU c n k b P).states,StB c n x:=by
 obtain ⟨s,h1,h2,h3⟩:=hb
 unfold rdU exU
 rw[h1,Int.toNat_natCast]
 exact Zwi h h2 h3 _ _ (fun w hw=>(Zlv hw).2) hP
theorem Zis {n:PNet} {N:Nat}:∀(f k:Nat) (v:List UInt8),ZX v N=true→ZX (ZfM n f k v) N=true
 |0,k,v,h=>h
 | f+1,k,v,h=>by
  unfold ZfM
  exact Zis f _ _ (Zmt h _)
theorem Zkv {c:PSG} {n:PNet} (h:Go1 c n):StB c n (Zgk c n):=by
 obtain ⟨x,hx,hb⟩:=h.code
 refine ⟨0,rfl,by have:=h.one;omega, ?_⟩
 unfold Zgk ZdN
 rw[List.getD_eq_getElem?_getD,hx]
 exact Zis _ _ _ (Zmu hb (Zb3 h.net).1)
theorem StB.mk' {c:PSG} {n:PNet} {b:PSt} (h:StB c n b):∃s:Nat,b=⟨(s:Int),b.values⟩∧s<c.codes.length∧ZX b.values n.wires.length=true:=by
 obtain ⟨s,h1,h2,h3⟩:=h
 refine ⟨s, ?_,h2,h3⟩
 cases b
 simp only at h1
 rw[h1]
structure Pi (c:PSG) (n:PNet) (k:Nat) (P:ProdG):Prop where
 ok:∀x∈P.states,StB c n x
 len:P.states.length≤600
 fl:P.flips.length≤24 * k
 ex:P.extra.length≤24 * k
theorem ZiX (c:PSG) (n:PNet) (s:Nat) (v:List UInt8) (N:Nat):(Zab c n s v N).length≤N:=ZfN _ _
theorem ZmN (c:PSG) (n:PNet) (s:Nat) (v:List UInt8) (N:Nat):(ZaH c n s v N).length≤N:=ZfN _ _
theorem Pi.next {c:PSG} {n:PNet} (h:Go1 c n) {k:Nat} {P:ProdG} (hP:Pi c n k P) {b:PSt} (hb:P.states[k]?=some b) (hl:¬600<(rdU c n k b P).states.length):Pi c n (k+1) (rdU c n k b P):=by
 have hbs:=hP.ok b (List.mem_of_getElem? hb)
 have hn:=(Zb3 h.net).2
 have h1:=ZmN c n b.state.toNat b.values n.wires.length
 have h2:=ZiX c n b.state.toNat b.values n.wires.length
 obtain ⟨g1,g2,g3,g4⟩:=Zgm c n k b.state.toNat b.values (ZaH c n b.state.toNat b.values n.wires.length) P
 have h3:=hP.fl
 have h4:=hP.ex
 refine ⟨rdU_ok h hbs hP.ok,by omega, ?_, ?_⟩
 ·show (inU c n k b.state.toNat b.values _ P).flips.length≤_
  omega
 ·show ((inU c n k b.state.toNat b.values _ P).extra++List.map _ _).length≤_
  rw[g4,List.length_append,List.length_map]
  omega
theorem Zwj (x y:PSt):eqV (some [(0,TD.int IntKind.i64),(1,TD.str)]) TD.struct (.agg [pI x.state,.str x.values]) (.agg [pI y.state,.str y.values])=some (decide (x=y)):=by
 have e:decide (x=y)=((x.state==y.state)&&((x.values==y.values)&&true)):=by
  rw[Bool.eq_iff_iff]
  cases x;cases y
  simp only[decide_eq_true_eq,Bool.and_eq_true,PSt.mk.injEq,beq_iff_eq,and_true]
 rw[e]
 show (some (x.state==y.state)).bind (fun b=>(some ((x.values==y.values)&&true)).map fun c=>b&&c)=_
 rfl
theorem Zod (b:PSt):∀(l:List PSt) (k:Nat),ixf (fun x=>decide (x=b)) k l=if b∈l then ((k+l.idxOf b:Nat):Int) else -1
 |[],k=>by simp[ixf]
 | x::r,k=>by
  unfold ixf
  by_cases c:x=b
  ·subst c
   simp
  ·have h:(x::r).idxOf b=r.idxOf b+1:=by rw[List.idxOf_cons,beq_eq_false_iff_ne.2 c];rfl
   have hm:b∈x::r↔b∈r:=by rw[List.mem_cons];exact ⟨fun h=>h.resolve_left (fun e=>c e.symm),.inr⟩
   rw[decide_eq_false c,if_neg (by simp),Zod b r (k+1),h]
   simp only[hm]
   rw[show k+1+r.idxOf b=k+(r.idxOf b+1) by omega]
theorem ZqT (l:List PSt) (b:PSt) (hl:ZG l):Zfd [.lst (l.map ePs),ePs b]=some (pI (if b∈l then (l.idxOf b:Nat) else -1)):=by
 unfold ZG at hl
 show (fun x0 x1=>Zfd [x0,x1]) _ _=_
 rw[ZpB]
 simp only[ePs,EVS]
 refine (congrArg (fun m:Option PV=>m.bind fun r=>if r.sc=true then some r else none) (ZdM l (fun x=>decide (x=b)) _ hl (fun again k x hx=> ?_) (fun again=> ?_))).trans ?_
 ·have hk:=Zh hx
  have hi:Zn (.lst (l.map ePs)) (.int .i64 (k:Int))=some (ePs x):=Zm hx
  have he:=Zwj x b
  have hf:(fun b:PSt=>PV.agg [pI b.state,PV.str b.values])=ePs:=rfl
  simp only[ePs] at hi
  cases c:decide (x=b)<;>rw[c] at he<;>simp only[Z5 hk,Zk hk hl,hi,ZaF,sp2,he,Bool.false_eq_true,if_false,if_true,EVS]
 ·simp only[Zau,EVS]
  rfl
 ·rw[Zod,Nat.zero_add]
  rfl
def Zoe :PV:=.agg [.lst [],.lst [],.lst []]
def ZqU {R:Type} (c:PSG) (n:PNet) (k s:Nat) (v:List UInt8) (z:Option R) (P:ProdG) (_:Nat) (w:Nat):Sum ProdG (Option R):=
 if Zas c n s v w∉P.states∧P.states.length=600 then .inr z else .inl (Zea k P w (Zas c n s v w))
theorem ZmO {R:Type} (c:PSG) (n:PNet) (k s:Nat) (v:List UInt8) (z:Option R) (e:ProdG→Option R):∀(l:List Nat) (i:Nat) (P:ProdG),P.states.length≤600→
 Za0 (ZqU c n k s v z) e i P l=if (inU c n k s v l P).states.length≤600 then e (inU c n k s v l P) else z
 |[],i,P,h=>by rw[show inU c n k s v [] P=P from rfl,if_pos h];rfl
 | w ::r,i,P,h=>by
  unfold Za0 ZqU inU
  by_cases c1:Zas c n s v w∉P.states∧P.states.length=600
  ·rw[if_pos c1]
   have h1:(Zea k P w (Zas c n s v w)).states.length=601:=by unfold Zea;rw[if_neg c1.1];simp[c1.2]
   have h2:=(Zgm c n k s v r (Zea k P w (Zas c n s v w))).1
   rw[if_neg (by omega)]
  ·rw [if_neg c1]
   have h1:(Zea k P w (Zas c n s v w)).states.length≤600:=by
    unfold Zea
    split
    ·exact h
    ·rename_i hm
     have:P.states.length≠600:=fun e=>c1 ⟨hm,e⟩
     simp
     omega
   exact ZmO c n k s v z e r (i+1) _ h1
theorem Zpd {R:Type} (k:Nat) (e:ProdG→Option R):∀(l:List Nat) (i:Nat) (P:ProdG),Za0 (fun (P:ProdG) (_:Nat) (w:Nat)=>.inl ⟨P.states,P.flips,P.extra++[⟨(k:Int),(w:Int), -1⟩]⟩) e i P l=e (exU k l P)
 |[],i,P=>by cases P;simp[Za0,exU]
 | w::r,i,P=>by
  show Za0 _ e (i+1) _ r=_
  rw[Zpd k e r]
  unfold exU
  simp[List.append_assoc]
theorem Zof (a b c x y z:PV):splice (splice (splice [a,b,c] 0 [x]) 1 [y]) 2 [z]=[x,y,z]:=rfl
theorem ZhA (a b c x y z:PV):ZkQ [a,b,c] 0 (.agg [x,y,z])=some (.agg [x,y,z]):=rfl
theorem Zk8 (a b c x y z:PV):splice [a,b,c] 0 [x,y,z]=[x,y,z]:=rfl
def prR (r:Option ProdG):PV:=match r with|some P=>.tup [ePr P,pB true]|none=>.tup [Zoe,pB false]
theorem ZmP (c:PSG) (n:PNet) (h:Go1 c n):Zdm [eSG c,Z3 n]=some (prR (ZjP c n)):=by
 have g0:=Zpb c n h
 have hn24:=(Zb3 h.net).2
 show (fun x0 x1=>Zdm [x0,x1]) _ _=_
 rw[Zld]
 simp only[eSG,Z3,ePs] at g0
 simp only[eSG,Z3,ZaF,Zay,g0,Zk8,ZhA,EVS]
 unfold ZjP
 refine (Zbp (R:=PV) (fun q:{q:ProdG×Nat // Pi c n q.2 q.1∧q.2≤q.1.states.length}=>[ePr q.1.1,pI (Int.ofNat q.1.2)]) (fun q=>601 - q.1.2) (fun q=>some (prR (Zk7 c n (601 - q.1.2) q.1.2 q.1.1))) _ (fun again q ih=> ?_) _ ⟨(⟨[Zgk c n],[],[]⟩,0),⟨fun x hx=>by rw[List.mem_singleton] at hx;subst hx;exact Zkv h,by simp,by simp,by simp⟩,by simp⟩ (by simp only;omega))
 obtain ⟨⟨P,k⟩,hP,hk⟩:=q
 dsimp only at ih hP hk⊢
 have hlen:=hP.len
 by_cases ck:k<P.states.length
 ·obtain ⟨b,hb⟩:∃b,P.states[k]?=some b:=⟨P.states[k],List.getElem?_eq_getElem ck⟩
  obtain ⟨s,hbe,hs,hbits⟩:=(hP.ok b (List.mem_of_getElem? hb)).mk'
  obtain ⟨v,hv⟩:∃v,b.values=v:=⟨_,rfl⟩
  rw[hv] at hbe hbits
  subst hbe
  have g1:=ZqS c n h s v hs hbits
  have p1:Zdt (P.states.map ePs) (.int .i64 (k:Int))=some (.int .i64 (k:Int)):=Zfj (by rw[List.length_map];exact ck)
  have q1:(P.states.map ePs)[k]?=some (.agg [pI (s:Int),.str v]):=by rw[List.getElem?_map,hb];rfl
  have hcl:=ZmN c n s v n.wires.length
  have hxl:=ZiX c n s v n.wires.length
  simp only[eSG,Z3,ePs] at g1
  simp only[ePr,List.length_map,Z5 ck,p1,q1,Int.toNat_natCast,ZaF,Zay,g1,EVS]
  have hst:Zk7 c n (601 - k) k P=if 600<(rdU c n k ⟨(s:Int),v⟩ P).states.length then none else Zk7 c n (600 - k) (k+1) (rdU c n k ⟨(s:Int),v⟩ P):=by
   rw[show 601 - k=(600 - k)+1 by omega]
   show (match P.states[k]? with|none=>some P|some b=>_)=_
   rw[hb]
  rw[hst]
  obtain ⟨L,hL⟩:∃L,ZaH c n s v n.wires.length=L:=⟨_,rfl⟩
  obtain ⟨X,hX⟩:∃X,Zab c n s v n.wires.length=X:=⟨_,rfl⟩
  have hrd:rdU c n k ⟨(s:Int),v⟩ P=exU k X (inU c n k s v L P):=by unfold rdU;rw[Int.toNat_natCast,hL,hX]
  have hLok:∀w∈L,ZjO c n s v w=true:=fun w hw=>by rw[←hL] at hw;exact (Zlv hw).2
  rw[hrd,hL,hX]
  rw[hL] at hcl
  rw[hX] at hxl
  refine (Zdd (R:=PV) L (fun (P:ProdG) i=>[ePr P,pI (Int.ofNat i)]) (fun i Q=>Q.states.length≤600∧Q.flips.length=P.flips.length+i∧Q.extra=P.extra) (ZqU c n k s v (some (.tup [Zoe,pB false]))) (fun Q=>again [ePr (exU k X Q),pI (Int.ofNat (k+1))]) _ (by omega) (fun Q i w Q' hi hw he=> ?_) (fun again1 Q i w hi hw=> ?_) (fun again1 Q hi=> ?_) (b:=P) ⟨hlen,rfl,rfl⟩).trans ((ZmO c n k s v _ _ L 0 P hlen).trans ?_)
  ·unfold ZqU at he
   split at he
   ·cases he
   ·rename_i c1
    cases he
    obtain ⟨a1,a2,a3,a4⟩:=ZjQ k Q w (Zas c n s v w)
    refine ⟨?_,by omega,a4.trans hi.2.2⟩
    unfold Zea
    split
    ·exact hi.1
    ·rename_i hm
     have:Q.states.length≠600:=fun e=>c1 ⟨hm,e⟩
     have:=hi.1
     simp
     omega
  ·have hil:=Zh hw
   obtain ⟨i1,i2,i3⟩:=hi
   have hPf:=hP.fl
   have hix:Zn (.lst (L.map fun k=>ePs (Zas c n s v k))) (.int .i64 (i:Int))=some (ePs (Zas c n s v w)):=Zm (enc:=fun k=>ePs (Zas c n s v k)) hw
   have hiw:Zn (.lst (L.map eNn)) (.int .i64 (i:Int))=some (pI (w:Int)):=Zm (enc:=eNn) hw
   have g2:=ZqT Q.states (Zas c n s v w) (by unfold ZG;omega)
   obtain ⟨bb,hbb⟩:∃bb,Zas c n s v w=bb:=⟨_,rfl⟩
   rw[hbb] at hix g2
   have hnx:=Zk hil (show L.length≤9223372036854775807 by omega)
   have hlb:Q.states.length+[PV.agg [pI bb.state,.str bb.values]].length≤4294967296∧[PV.agg [pI bb.state,.str bb.values]].all (ZaG 2)=true:=⟨by simp;omega,rfl⟩
   have hla:∀t:Int,Q.flips.length+[PV.agg [pI (k:Int),pI (w:Int),pI t]].length≤4294967296∧[PV.agg [pI (k:Int),pI (w:Int),pI t]].all (ZaG 3)=true:=fun t=>⟨by simp;omega,rfl⟩
   unfold ZqU Zea
   rw[hbb]
   simp only[ePs] at hix g2
   by_cases c1:bb∈Q.states
   ·rw[if_neg (fun h=>h.1 c1),if_pos c1]
    rw[if_pos c1] at g2
    have hneg:decide (((Q.states.idxOf bb:Nat):Int)<0)=false:=by simp only[decide_eq_false_iff_not];omega
    simp only[ePr,List.length_map,Z5 hil,hix,ZaF,sp2,g2,hneg,hiw,Zof,if_pos (hla _),hnx,List.map_append,List.map_cons,List.map_nil,eFl,EVS]
   ·rw[if_neg c1] at g2
    have hneg:decide ((-1:Int)<0)=true:=rfl
    by_cases c2:Q.states.length=600
    ·rw[if_pos ⟨c1,c2⟩]
     have h6:decide ((Q.states.length:Int)=600)=true:=by simp only[decide_eq_true_eq];omega
     simp only[ePr,List.length_map,Z5 hil,hix,ZaF,sp2,g2,hneg,h6,Zk8,EVS]
     rfl
    ·rw[if_neg (fun h=>c2 h.2),if_neg c1]
     have h6:decide ((Q.states.length:Int)=600)=false:=by simp only[decide_eq_false_iff_not];omega
     simp only[ePr,List.length_map,Z5 hil,hix,ZaF,sp2,g2,hneg,h6,hiw,Zof,if_pos hlb,if_pos (hla _),hnx,List.map_append,List.map_cons,List.map_nil,eFl,EVS]
     rfl
  ·have hxx:X.length≤9223372036854775807:=by omega
   have hPe:=hP.ex
   simp only[List.length_map,Zau,EVS]
   refine (Zdd (R:=PV) X (fun (P:ProdG) i=>[ePr P,pI (Int.ofNat i)]) (fun i Q'=>Q'.states.length≤600∧Q'.extra.length=P.extra.length+i) (fun (P:ProdG) (_:Nat) (w:Nat)=>.inl ⟨P.states,P.flips,P.extra++[⟨(k:Int),(w:Int), -1⟩]⟩) (fun Q=>again [ePr Q,pI (Int.ofNat (k+1))]) _ hxx (fun Q' i w Q2 hi' hw he=> ?_) (fun again2 Q' i w hi' hw=> ?_) (fun again2 Q' hi'=> ?_) (b:=Q) ⟨hi.1,by rw[hi.2.2];rfl⟩).trans (Zpd k _ X 0 Q)
   ·cases he
    exact ⟨hi'.1,by simp;omega⟩
   ·have hil:=Zh hw
    have hiw:Zn (.lst (X.map eNn)) (.int .i64 (i:Int))=some (pI (w:Int)):=Zm (enc:=eNn) hw
    have hla:Q'.extra.length+[PV.agg [pI (k:Int),pI (w:Int),pI (-1)]].length≤4294967296∧[PV.agg [pI (k:Int),pI (w:Int),pI (-1)]].all (ZaG 3)=true:=⟨by simp;omega,rfl⟩
    have hneg:(Int.negSucc 0)=(-1:Int):=rfl
    simp only[ePr,List.length_map,Z5 hil,hiw,Zof,hneg,if_pos hla,Zk hil hxx,List.map_append,List.map_cons,List.map_nil,eFl,EVS]
   ·simp only[Zau,Zk ck (show P.states.length≤9223372036854775807 by omega),EVS]
  ·by_cases c6:(inU c n k s v L P).states.length≤600
   ·have hx6:¬600<(exU k X (inU c n k s v L P)).states.length:=by show ¬600<(inU c n k s v L P).states.length;omega
    rw[if_pos c6,if_neg hx6]
    have hnx:=Pi.next h hP hb (by rw[hrd];exact hx6)
    rw[hrd] at hnx
    have hkl:k+1≤(exU k X (inU c n k s v L P)).states.length:=by
     have:=(Zgm c n k s v L P).1
     show k+1≤(inU c n k s v L P).states.length
     omega
    have:=ih ⟨(exU k X (inU c n k s v L P),k+1),hnx,hkl⟩ (by simp only;omega)
    rw[show 601 - (k+1)=600 - k by omega] at this
    exact this
   ·rw[if_neg c6,if_pos (show 600<(exU k X (inU c n k s v L P)).states.length by show 600<(inU c n k s v L P).states.length;omega)]
    rfl
 ·obtain rfl:k=P.states.length:=by omega
  have hst:Zk7 c n (601 - P.states.length) P.states.length P=some P:=by
   rw[show 601 - P.states.length=(600 - P.states.length)+1 by omega]
   show (match P.states[P.states.length]? with|none=>some P|some b=>_)=_
   rw[List.getElem?_eq_none (by omega)]
  rw[hst]
  simp only[ePr,List.length_map,Zau,Zay,Zk8,EVS]
  rfl
theorem ZiY (a b c d e f a' b' c' d' e' f':PV):ZkQ [a,b,c,d,e,f] 0 (.agg [a',b',c',d',e',f'])=some (.agg [a',b',c',d',e',f']):=rfl
theorem ZcY (b:Bool):one1 (.bool b)=some (.bool b):=rfl
def Zpe (g:Nat→PV):Nat→List PSt→List (PV×PV)
 |_,[]=>[]
 |k,b::r=>(ePs b,g k)::Zpe g (k+1) r
theorem Zog (g:Nat→PV) (a:PSt):∀(l:List PSt) (k:Nat),Zpe g k (l++[a])=Zpe g k l++[(ePs a,g (k+l.length))]
 |[],k=>rfl
 | x::r,k=>by
  show (ePs x,g k)::Zpe g (k+1) (r++[a])=_
  rw[Zog g a r (k+1)]
  simp only[Zpe,List.length_cons,List.cons_append]
  rw[show k+1+r.length=k+(r.length+1) by omega]
theorem findP (g:Nat→PV) (s:PSt):∀(l:List PSt) (k i:Nat),Zd5 (some [(0,TD.int IntKind.i64),(1,TD.str)]) TD.struct (Zpe g k l) (.agg [pI s.state,.str s.values]) i=some (if s∈l then some (i+l.idxOf s,g (k+l.idxOf s)) else none)
 |[],k,i=>rfl
 | x::r,k,i=>by
  unfold Zpe Zd5
  rw[show ePs x=.agg [pI x.state,.str x.values] from rfl,Zwj]
  by_cases c:x=s
  ·subst c
   simp
  ·have h:(x::r).idxOf s=r.idxOf s+1:=by rw[List.idxOf_cons,beq_eq_false_iff_ne.2 c];rfl
   have hm:s∈x::r↔s∈r:=by rw[List.mem_cons];exact ⟨fun h=>h.resolve_left (fun e=>c e.symm),.inr⟩
   simp only[obs,c,show ¬s=x from fun e=>c e.symm,decide_false,Bool.false_eq_true,if_false,findP g s r (k+1) (i+1),hm,h]
   by_cases c2:s∈r
   ·rw[if_pos c2,if_pos c2,show i+1+r.idxOf s=i+(r.idxOf s+1) by omega,show k+1+r.idxOf s=k+(r.idxOf s+1) by omega]
   ·rw[if_neg c2,if_neg c2]
theorem keyP (a:PSt):((eqV (some [(0,TD.int IntKind.i64),(1,TD.str)]) TD.struct (.agg [pI a.state,.str a.values]) (.agg [pI a.state,.str a.values])).elim false fun x=>true)=true:=by rw[Zwj];rfl
theorem Zwk (l:List (PV×PV)):Zqe (.map l)=some l:=rfl
theorem zpInt' :ZaN (TI.mk 1 8 (TD.int .i64) [ZC.int .i64] [] false)=.int .i64 0:=rfl
def ixP (l:List PSt):PV:=.map (Zpe (fun i=>pI i) 0 l)
theorem Zwl (l:List PSt) (a:PSt):PV.map (Zpe (fun i=>pI i) 0 l++[(.agg [pI a.state,.str a.values],pI (l.length:Int))])=ixP (l++[a]):=by
 unfold ixP
 rw[Zog,Nat.zero_add]
 rfl
theorem Zoh {R:Type} (c:PSG) (n:PNet) (k s:Nat) (v:List UInt8) (e:ProdG→Option R):∀(l:List Nat) (i:Nat) (P:ProdG),Za0 (fun (P:ProdG) (_:Nat) (w:Nat)=>.inl (Zea k P w (Zas c n s v w))) e i P l=e (inU c n k s v l P)
 |[],i,P=>rfl
 |w::r,i,P=>Zoh c n k s v e r (i+1) _
theorem Zpf (c:PSG) (n:PNet) (h:Go1 c n):Zbk [Zgj c n]=some (prR (ZjP c n)):=by
 have g0:=ZqQ c n h
 have hn24:=(Zb3 h.net).2
 obtain ⟨f0,hf0⟩:∃f0,Zgk c n=f0:=⟨_,rfl⟩
 have p00:Zdt [PV.agg [pI f0.state,.str f0.values]] (.int .i64 ((0:Nat):Int))=some (.int .i64 ((0:Nat):Int)):=Zfj (by simp)
 have hk0:=keyP f0
 have hix0:PV.map ([]++[(PV.agg [pI f0.state,.str f0.values],pI 0)])=ixP [f0]:=rfl
 simp only[Int.natCast_zero] at p00
 show (fun x0=>Zbk [x0]) _=_
 rw[ZhL]
 rw[hf0] at g0
 simp only[Zgj,ePs] at g0
 simp only[Zgj,ZsB,g0,Zk8,ZhA,p00,Int.toNat_zero,List.getElem?_cons_zero,ZaF,hk0,hix0,if_true,ZhA,ZiY,ZcY,PV.parts,EVS]
 unfold ZjP
 rw[hf0]
 refine (Zbp (R:=PV) (fun q:{q:ProdG×Nat // Pi c n q.2 q.1∧q.2≤q.1.states.length}=>[ixP q.1.1.states,ePr q.1.1,pI (Int.ofNat q.1.2)]) (fun q=>601 - q.1.2) (fun q=>some (prR (Zk7 c n (601 - q.1.2) q.1.2 q.1.1))) _ (fun again q ih=> ?_) _ ⟨(⟨[f0],[],[]⟩,0),⟨fun x hx=>by rw[List.mem_singleton] at hx;subst hx;rw[←hf0];exact Zkv h,by simp,by simp,by simp⟩,by simp⟩ (by simp only;omega))
 obtain ⟨⟨P,k⟩,hP,hk⟩:=q
 dsimp only at ih hP hk⊢
 have hlen:=hP.len
 by_cases ck:k<P.states.length
 ·obtain ⟨b,hb⟩:∃b,P.states[k]?=some b:=⟨P.states[k],List.getElem?_eq_getElem ck⟩
  obtain ⟨s,hbe,hs,hbits⟩:=(hP.ok b (List.mem_of_getElem? hb)).mk'
  obtain ⟨v,hv⟩:∃v,b.values=v:=⟨_,rfl⟩
  rw[hv] at hbe hbits
  subst hbe
  have g1:=ZmL c n h s v hs hbits
  have g3:=ZmM c n h s v hs hbits
  have p1:Zdt (P.states.map ePs) (.int .i64 (k:Int))=some (.int .i64 (k:Int)):=Zfj (by rw[List.length_map];exact ck)
  have q1:(P.states.map ePs)[k]?=some (.agg [pI (s:Int),.str v]):=by rw[List.getElem?_map,hb];rfl
  have hcl:=ZmN c n s v n.wires.length
  have hxl:=ZiX c n s v n.wires.length
  simp only[Zgj,ePs] at g1 g3
  simp only[ePr,List.length_map,Z5 ck,p1,q1,Int.toNat_natCast,ZsB,ZaF,g1,ZhA,ZiY,ZcY,PV.parts,EVS]
  have hst:Zk7 c n (601 - k) k P=if 600<(rdU c n k ⟨(s:Int),v⟩ P).states.length then none else Zk7 c n (600 - k) (k+1) (rdU c n k ⟨(s:Int),v⟩ P):=by
   rw[show 601 - k=(600 - k)+1 by omega]
   show (match P.states[k]? with|none=>some P|some b=>_)=_
   rw[hb]
  rw[hst]
  obtain ⟨L,hL⟩:∃L,ZaH c n s v n.wires.length=L:=⟨_,rfl⟩
  obtain ⟨X,hX⟩:∃X,Zab c n s v n.wires.length=X:=⟨_,rfl⟩
  have hrd:rdU c n k ⟨(s:Int),v⟩ P=exU k X (inU c n k s v L P):=by unfold rdU;rw[Int.toNat_natCast,hL,hX]
  have hLok:∀w∈L,ZjO c n s v w=true:=fun w hw=>by rw[←hL] at hw;exact (Zlv hw).2
  rw[hX] at g3
  rw[hrd,hL]
  rw[hL] at hcl
  rw[hX] at hxl
  refine (Zdd (R:=PV) L (fun (P:ProdG) i=>[ixP P.states,ePr P,pI (Int.ofNat i)]) (fun i Q=>(Q.states.length≤P.states.length+i∧Q.states[k]?=some ⟨(s:Int),v⟩)∧Q.flips.length=P.flips.length+i∧Q.extra=P.extra) (fun (P:ProdG) (_:Nat) (w:Nat)=>.inl (Zea k P w (Zas c n s v w))) (fun Q=>if 600<Q.states.length then some (.tup [Zoe,pB false]) else again [ixP Q.states,ePr (exU k X Q),pI (Int.ofNat (k+1))]) _ (by omega) (fun Q i w Q' hi hw he=> ?_) (fun again1 Q i w hi hw=> ?_) (fun again1 Q hi=> ?_) (b:=P) ⟨⟨by omega,hb⟩,rfl,rfl⟩).trans ((Zoh c n k s v _ L 0 P).trans ?_)
  ·cases he
   obtain ⟨a1,a2,a3,a4⟩:=ZjQ k Q w (Zas c n s v w)
   exact ⟨⟨by omega,Zxd hi.1.2⟩,by omega,a4.trans hi.2.2⟩
  ·have hil:=Zh hw
   obtain ⟨⟨i1,i0⟩,i2,i3⟩:=hi
   have hPf:=hP.fl
   have hix:Zn (.lst (L.map fun k=>ePs (Zas c n s v k))) (.int .i64 (i:Int))=some (ePs (Zas c n s v w)):=Zm (enc:=fun k=>ePs (Zas c n s v k)) hw
   have hiw:Zn (.lst (L.map eNn)) (.int .i64 (i:Int))=some (pI (w:Int)):=Zm (enc:=eNn) hw
   obtain ⟨bb,hbb⟩:∃bb,Zas c n s v w=bb:=⟨_,rfl⟩
   rw[hbb] at hix
   have g2:=findP (fun i=>pI i) bb Q.states 0 0
   have hkk:=keyP bb
   have hnx:=Zk hil (show L.length≤9223372036854775807 by omega)
   have hlb:Q.states.length+[PV.agg [pI bb.state,.str bb.values]].length≤4294967296∧[PV.agg [pI bb.state,.str bb.values]].all (ZaG 2)=true:=⟨by simp;omega,rfl⟩
   have hla:∀t:Int,Q.flips.length+[PV.agg [pI (k:Int),pI (w:Int),pI t]].length≤4294967296∧[PV.agg [pI (k:Int),pI (w:Int),pI t]].all (ZaG 3)=true:=fun t=>⟨by simp;omega,rfl⟩
   unfold Zea
   rw[hbb]
   simp only[ePs] at hix
   by_cases c1:bb∈Q.states
   ·rw[if_pos c1]
    rw[if_pos c1] at g2
    simp only[Nat.zero_add] at g2
    simp only[ePr,ixP,List.length_map,Z5 hil,hix,ZaF,sp2,Zwk,hkk,g2,hiw,Zof,Option.elim_some,if_pos (hla _),hnx,List.map_append,List.map_cons,List.map_nil,eFl,if_true,ZhA,ZiY,ZcY,PV.parts,EVS]
   ·rw[if_neg c1]
    rw[if_neg c1] at g2
    have hN:=Zwl Q.states bb
    unfold ixP at hN
    simp only[ePr,ixP,List.length_map,Z5 hil,hix,ZaF,sp2,Zwk,hkk,g2,hiw,Zof,zpInt',Option.elim_none,if_pos hlb,if_pos (hla _),hnx,hN,List.map_append,List.map_cons,List.map_nil,eFl,if_true,ZhA,ZiY,ZcY,PV.parts,EVS]
    rfl
  ·obtain ⟨⟨i1,i0⟩,i2,i3⟩:=hi
   have hxx:X.length≤9223372036854775807:=by omega
   have hPe:=hP.ex
   have p2:Zdt (Q.states.map ePs) (.int .i64 (k:Int))=some (.int .i64 (k:Int)):=Zfj (by rw[List.length_map];exact (List.getElem?_eq_some_iff.1 i0).1)
   have q2:(Q.states.map ePs)[k]?=some (.agg [pI (s:Int),.str v]):=by rw[List.getElem?_map,i0];rfl
   simp only[ePr,List.length_map,Zau,p2,q2,Int.toNat_natCast,ZsB,ZaF,g3,ZhA,ZiY,ZcY,PV.parts,EVS]
   refine (Zdd (R:=PV) X (fun (P:ProdG) i=>[ePr P,pI (Int.ofNat i)]) (fun i Q'=>Q'.states=Q.states∧Q'.extra.length=P.extra.length+i) (fun (P:ProdG) (_:Nat) (w:Nat)=>.inl ⟨P.states,P.flips,P.extra++[⟨(k:Int),(w:Int), -1⟩]⟩) (fun Q'=>if 600<Q'.states.length then some (.tup [Zoe,pB false]) else again [ixP Q'.states,ePr Q',pI (Int.ofNat (k+1))]) _ hxx (fun Q' i w Q2 hi' hw he=> ?_) (fun again2 Q' i w hi' hw=> ?_) (fun again2 Q' hi'=> ?_) (b:=Q) ⟨rfl,by rw[i3];rfl⟩).trans (Zpd k _ X 0 Q)
   ·cases he
    exact ⟨hi'.1,by simp;omega⟩
   ·have hil:=Zh hw
    have p3:Zdt (X.map eNn) (.int .i64 (i:Int))=some (.int .i64 (i:Int)):=Zfj (by rw[List.length_map];exact hil)
    have q3:(X.map eNn)[i]?=some (pI (w:Int)):=by rw[List.getElem?_map,hw];rfl
    have hla:Q'.extra.length+[PV.agg [pI (k:Int),pI (w:Int),pI (-1)]].length≤4294967296∧[PV.agg [pI (k:Int),pI (w:Int),pI (-1)]].all (ZaG 3)=true:=⟨by simp;omega,rfl⟩
    have hneg:(Int.negSucc 0)=(-1:Int):=rfl
    simp only[ePr,List.length_map,Z5 hil,p3,q3,Int.toNat_natCast,Zof,hneg,if_pos hla,Zk hil hxx,List.map_append,List.map_cons,List.map_nil,eFl,ZhA,ZiY,ZcY,PV.parts,EVS]
   ·have hks:=(List.getElem?_eq_some_iff.1 i0).1
    by_cases c6:600<Q'.states.length
    ·have c6':decide ((600:Int)<(Q'.states.length:Int))=true:=by simp only[decide_eq_true_eq];omega
     rw[if_pos c6]
     simp only[ePr,List.length_map,Zau,c6',Zk8,ZhA,ZiY,ZcY,PV.parts,EVS]
     rfl
    ·have c6':decide ((600:Int)<(Q'.states.length:Int))=false:=by simp only[decide_eq_false_iff_not];omega
     rw[if_neg c6]
     rw[hi'.1] at c6'
     simp only[ePr,List.length_map,Zau,c6',Zk ck (show P.states.length≤9223372036854775807 by omega),hi'.1,ZhA,ZiY,ZcY,PV.parts,EVS]
  ·by_cases c6:(inU c n k s v L P).states.length≤600
   ·have hx6:¬600<(exU k X (inU c n k s v L P)).states.length:=by show ¬600<(inU c n k s v L P).states.length;omega
    rw[if_neg (show ¬600<(inU c n k s v L P).states.length by omega),if_neg hx6]
    have hnx:=Pi.next h hP hb (by rw[hrd];exact hx6)
    rw[hrd] at hnx
    have hkl:k+1≤(exU k X (inU c n k s v L P)).states.length:=by
     have:=(Zgm c n k s v L P).1
     show k+1≤(inU c n k s v L P).states.length
     omega
    have:=ih ⟨(exU k X (inU c n k s v L P),k+1),hnx,hkl⟩ (by simp only;omega)
    rw[show 601 - (k+1)=600 - k by omega] at this
    exact this
   ·rw[if_pos (show 600<(inU c n k s v L P).states.length by omega),if_pos (show 600<(exU k X (inU c n k s v L P)).states.length by show 600<(inU c n k s v L P).states.length;omega)]
    rfl
 ·obtain rfl:k=P.states.length:=by omega
  have hst:Zk7 c n (601 - P.states.length) P.states.length P=some P:=by
   rw[show 601 - P.states.length=(600 - P.states.length)+1 by omega]
   show (match P.states[P.states.length]? with|none=>some P|some b=>_)=_
   rw[List.getElem?_eq_none (by omega)]
  rw[hst]
  simp only[ePr,List.length_map,Zau,Zay,Zk8,ZhA,ZiY,ZcY,PV.parts,EVS]
  rfl
structure PrU (c:PSG) (n:PNet) (P:ProdG):Prop where
 ok:∀x∈P.states,StB c n x
 one:1≤P.states.length
 len:P.states.length≤600
 few:P.flips.length≤14400
 xfew:P.extra.length≤14400
 fl:∀f∈P.flips,0≤f.from_∧f.from_<P.states.length∧0≤f.to∧f.to<P.states.length∧0≤f.wire∧f.wire<n.wires.length
 xl:∀f∈P.extra,0≤f.from_∧f.from_<P.states.length∧f.to= -1∧0≤f.wire∧f.wire<n.wires.length
structure Pj (n:PNet) (P:ProdG):Prop where
 fl:∀f∈P.flips,0≤f.from_∧f.from_<P.states.length∧0≤f.to∧f.to<P.states.length∧0≤f.wire∧f.wire<n.wires.length
 xl:∀f∈P.extra,0≤f.from_∧f.from_<P.states.length∧f.to= -1∧0≤f.wire∧f.wire<n.wires.length
theorem Pj.add {n:PNet} {P:ProdG} (h:Pj n P) {k w:Nat} {b:PSt} (hk:k<P.states.length) (hw:w<n.wires.length):Pj n (Zea k P w b):=by
 unfold Zea
 split
 ·rename_i hm
  refine ⟨fun f hf=> ?_,h.xl⟩
  rcases List.mem_append.1 hf with hf|hf
  ·exact h.fl f hf
  ·rw[List.mem_singleton] at hf
   subst hf
   have:=List.idxOf_lt_length_of_mem hm
   dsimp only
   omega
 ·refine ⟨fun f hf=> ?_,fun f hf=> ?_⟩
  ·rcases List.mem_append.1 hf with hf|hf
   ·have:=h.fl f hf
    simp only[List.length_append,List.length_singleton]
    omega
   ·rw[List.mem_singleton] at hf
    subst hf
    simp only[List.length_append,List.length_singleton]
    omega
  ·have:=h.xl f hf
   simp only[List.length_append,List.length_singleton]
   omega
theorem Pj.ins {c:PSG} {n:PNet} {k s:Nat} {v:List UInt8}:∀(l:List Nat) (P:ProdG),Pj n P→k<P.states.length→(∀w∈l,w<n.wires.length)→Pj n (inU c n k s v l P)
 |[],P,h,_,_=>h
 | w::r,P,h,hk,hl=>by
  unfold inU
  refine Pj.ins r _ (h.add hk (hl w List.mem_cons_self)) ?_ fun x hx=>hl x (List.mem_cons_of_mem _ hx)
  have:=(ZjQ k P w (Zas c n s v w)).1
  omega
theorem Pj.rd {c:PSG} {n:PNet} {k:Nat} {b:PSt} {P:ProdG} (h:Pj n P) (hk:k<P.states.length):Pj n (rdU c n k b P):=by
 have h1:=Pj.ins (c:=c) (s:=b.state.toNat) (v:=b.values) (ZaH c n b.state.toNat b.values n.wires.length) P h hk fun w hw=>(Zlv hw).1
 have h2:=(Zgm c n k b.state.toNat b.values (ZaH c n b.state.toNat b.values n.wires.length) P).1
 unfold rdU exU
 refine ⟨h1.fl,fun f hf=> ?_⟩
 rcases List.mem_append.1 hf with hf|hf
 ·exact h1.xl f hf
 ·obtain ⟨w,hw,rfl⟩:=List.mem_map.1 hf
  unfold Zab at hw
  have:=List.mem_range.1 (List.mem_filter.1 hw).1
  dsimp only
  omega
theorem ZtW {c:PSG} {n:PNet} (h:Go1 c n):∀(f k:Nat) (P Q:ProdG),Pi c n k P→Pj n P→k≤P.states.length→1≤P.states.length→k+f≤601→Zk7 c n f k P=some Q→PrU c n Q
 | 0,k,P,Q,hP,hj,hk,h1,hf,he=>by
  cases he
  have:=hP.fl
  have:=hP.ex
  have:=hP.len
  exact ⟨hP.ok,h1,hP.len,by omega,by omega,hj.fl,hj.xl⟩
 | f +1,k,P,Q,hP,hj,hk,h1,hf,he=>by
  unfold Zk7 at he
  split at he
  ·cases he
   have:=hP.fl
   have:=hP.ex
   have:=hP.len
   exact ⟨hP.ok,h1,hP.len,by omega,by omega,hj.fl,hj.xl⟩
  ·rename_i b hb
   split at he
   ·cases he
   ·rename_i hl
    have hkl:=(List.getElem?_eq_some_iff.1 hb).1
    have hn:=Pi.next h hP hb hl
    have hm:=(Zgm c n k b.state.toNat b.values (ZaH c n b.state.toNat b.values n.wires.length) P).1
    have hst:(rdU c n k b P).states=(inU c n k b.state.toNat b.values (ZaH c n b.state.toNat b.values n.wires.length) P).states:=rfl
    exact ZtW h f (k+1) _ Q hn (hj.rd hkl) (by rw[hst];omega) (by rw[hst];omega) (by omega) he
theorem Zwm {c:PSG} {n:PNet} (h:Go1 c n) {P:ProdG} (he:ZjP c n=some P):PrU c n P:=by
 unfold ZjP at he
 exact ZtW h 601 0 _ P ⟨fun x hx=>by rw[List.mem_singleton] at hx;subst hx;exact Zkv h,by simp,by simp,by simp⟩ ⟨by simp,by simp⟩ (by simp) (by simp) (by omega) he
def ZkW (c:PSG) (n:PNet):Option ProdG:=if goP c n=true then ZjP c n else none
theorem Zwn {c:PSG} {n:PNet} (hc:SGFit c) (hn:n.Fit) {P:ProdG} (h:ZkW c n=some P):goP c n=true∧PrU c n P:=by
 unfold ZkW at h
 split at h
 ·rename_i hg;exact ⟨hg,Zwm (ZmG hg hc hn) h⟩
 ·cases h
theorem Zpg (c:PSG) (n:PNet) (hc:SGFit c) (hn:n.Fit):Zd1 [eSG c,Z3 n]=some (prR (ZkW c n)):=by
 have g0:=ZuN c n hc hn
 show (fun x0 x1=>Zd1 [x0,x1]) _ _=_
 rw[ZpD]
 unfold ZkW
 cases c0:goP c n
 ·rw[c0] at g0
  simp only[eSG,Z3] at g0
  simp only[eSG,Z3,ZaF,Zay,g0,Zk8,Bool.false_eq_true,if_false,ZhA,ZiY,ZcY,PV.parts,EVS]
  rfl
 ·rw[c0] at g0
  have g1:=ZmP c n (ZmG c0 hc hn)
  simp only[eSG,Z3] at g0 g1
  rw[if_pos rfl]
  cases hp:ZjP c n with
  | none=>
   rw[hp] at g1
   simp only[prR,Zoe] at g1
   simp only[eSG,Z3,ZaF,Zay,g0,g1,Zk8,ZhA,ZiY,ZcY,PV.parts,EVS]
   rfl
  | some P=>
   rw[hp] at g1
   simp only[prR,ePr] at g1
   simp only[eSG,Z3,ZaF,Zay,g0,g1,Zk8,ZhA,ZiY,ZcY,PV.parts,EVS]
   rfl
def cpQ (c:PSG) (n:PNet):ProdG×Bool:=match ZkW c n with|some P=>(P,true)|none=>(⟨[],[],[]⟩,false)
theorem Zph (c:PSG) (n:PNet) (hc:SGFit c) (hn:n.Fit):Ze4 [eSG c,Z3 n]=some (.tup [ePr (cpQ c n).1,pB (cpQ c n).2]):=by
 have g0:=Znt c n hc hn
 show (fun x0 x1=>Ze4 [x0,x1]) _ _=_
 rw[Zpk]
 unfold cpQ ZkW
 cases c0:goP c n
 ·rw[c0] at g0
  simp only[eSG,Z3,zSys,Bool.false_eq_true,if_false] at g0
  simp only[eSG,Z3,ZaF,Zay,g0,Zk8,ZhA,ZiY,ZcY,PV.parts,Bool.false_eq_true,if_false,EVS]
  try rfl
 ·rw[c0] at g0
  have g1:=Zpf c n (ZmG c0 hc hn)
  simp only[eSG,Z3,Zgj,if_true] at g0 g1
  cases hp:ZjP c n with
  | none=>
   rw[hp] at g1
   simp only[prR,Zoe] at g1
   simp only[eSG,Z3,ZaF,Zay,ZsB,g0,g1,spl6',Zk8,ZhA,ZiY,ZcY,PV.parts,if_true,EVS]
   try rfl
  | some P=>
   rw[hp] at g1
   simp only[prR,ePr] at g1
   simp only[eSG,Z3,ZaF,Zay,ZsB,g0,g1,spl6',Zk8,ZhA,ZiY,ZcY,PV.parts,if_true,EVS]
   try rfl
theorem Znu (c:PSG) (n:PNet) (hc:SGFit c) (hn:n.Fit):Zd1 [eSG c,Z3 n]=some (.tup [ePr (cpQ c n).1,pB (cpQ c n).2]):=by
 rw[Zpg c n hc hn]
 unfold cpQ
 cases ZkW c n<;>rfl
theorem cpQ_in {c:PSG} {n:PNet} (hc:SGFit c) (hn:n.Fit):(∀b∈(cpQ c n).1.states,0≤b.state∧b.state<300∧b.values.length≤24)∧(∀f∈(cpQ c n).1.flips,0≤f.from_∧f.from_<600∧0≤f.wire∧f.wire<24∧0≤f.to∧f.to<600)∧
 (∀f∈(cpQ c n).1.extra,0≤f.from_∧f.from_<600∧0≤f.wire∧f.wire<24∧f.to= -1)∧(cpQ c n).1.states.length≤600∧(cpQ c n).1.flips.length≤14400∧(cpQ c n).1.extra.length≤14400:=by
 unfold cpQ
 cases hp:ZkW c n with
 |none=>simp
 | some P=>
  obtain ⟨hg,hP⟩:=Zwn hc hn hp
  have h1:=ZmG hg hc hn
  have e4:=(Zb3 h1.net).2
  have h5:=h1.many
  have hlen:=hP.len
  refine ⟨fun b hb=> ?_,fun f hf=> ?_,fun f hf=> ?_,hlen,hP.few,hP.xfew⟩
  ·obtain ⟨s,e1,e2,e3⟩:=hP.ok b hb
   have e5:(b.values.length:Int)=(n.wires.length:Int):=by
    unfold ZX at e3
    simp only[Bool.and_eq_true,decide_eq_true_eq] at e3
    exact e3.2
   omega
  ·obtain ⟨q1,q2,q3,q4,q5,q6⟩:=hP.fl f hf
   omega
  ·obtain ⟨q1,q2,q3,q4,q5⟩:=hP.xl f hf
   omega
end Go.Proofs.YtkgnjijonikchaaGreat
