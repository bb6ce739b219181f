import Derived.Test.YtmfplddmccggkaaGreatSuccessorsF
import Derived.Test.YtmfplddmccggkaaGreatData
import Derived.Test.YtmfplddmccggkaaGreatDistPure
import Derived.Test.YtmfplddmccggkaaGreatSysPure
namespace Go.Proofs.YtmfplddmccggkaaGreat
open Go.RowKit
set_option linter.unusedVariables false
set_option linter.unusedSimpArgs false
theorem ZaO (n lo hi:Int):ZaA [pI n,pI lo,pI hi]=some (pB (decide (lo≤n)&&decide (n≤hi))):=by
 show (fun x0 x1 x2=>ZaA [x0,x1,x2]) _ _ _=_
 rw[ZrL]
 by_cases h:lo≤n<;>simp only[h,EVS]
def ZsY (first:Bool) (b:UInt8):Bool:=(decide ((97:Int)≤b.toNat)&&decide ((b.toNat:Int)≤122))||(!first&&(!decide ((b.toNat:Int)<48)&& !decide ((57:Int)<b.toNat)))
def Zhn :Bool→List UInt8→Bool
 |_,[]=>true
 |f,b::r=>ZsY f b&&Zhn false r
def Zat (s:List UInt8):Bool:=Zhn true s&&(decide ((1:Int)≤s.length)&&decide ((s.length:Int)≤6))
theorem ZkH (s:List UInt8) (hs:s.length≤9223372036854775807):ZdT [.str s]=some (pB (Zat s)):=by
 show (fun x0=>ZdT [x0]) _=_
 rw[ZoA]
 refine (congrArg (Zf true) (Zdh (R:=PV) (fun k:Nat=>[pI (Int.ofNat k)]) (fun k=>s.length+1 - k) (fun k=>some (pB (Zhn (k==0) (s.drop k)&&(decide ((1:Int)≤s.length)&&decide ((s.length:Int)≤6))))) _ (fun again k ih=> ?_) _ 0 (by omega))).trans ?_
 ·by_cases hk:k<s.length
  ·obtain ⟨b,hb⟩:∃b,s[k]?=some b:=⟨s[k],List.getElem?_eq_getElem hk⟩
   have hd:s.drop k=b::s.drop (k+1):=by
    obtain ⟨h1,rfl⟩:=List.getElem?_eq_some_iff.1 hb
    exact List.drop_eq_getElem_cons h1
   have hlt:decide ((k:Int)<s.length)=true:=by simpa using hk
   have hw:IntKind.i64.wrap ((k:Int)+1)=((k+1:Nat):Int):=by rw[Zdc (by omega) (by omega)];omega
   have hnext:=ih (k+1) (by omega)
   simp only[Int.ofNat_eq_natCast] at hnext
   have hk0:decide ((k:Int)=0)=(k==0):=by rw[Bool.eq_iff_iff];simp
   rw[hd]
   have hk1:(k+1==0)=false:=rfl
   rw[hk1] at hnext
   have ev1:=hlt
   have ev2:=Zr (k:=.i64) hb
   simp only[Zhn,ZsY,hlt,Zr hb,hk0,hw,hnext,EVS]
   by_cases c1:(97:Int)≤b.toNat
   all_goals simp only[c1,Zr hb,EVS]
   by_cases c2:(b.toNat:Int)≤122
   all_goals try simp only[c2,Zr hb,EVS]
   all_goals try simp only[hk0]
   all_goals try (cases c5:(k==0))
   all_goals try simp only[c5,Zr hb,EVS]
   all_goals try (by_cases c3:(b.toNat:Int)<48)
   all_goals try simp only[c3,Zr hb,EVS]
   all_goals try (by_cases c4:(57:Int)<b.toNat)
   all_goals try simp only[c4,Zr hb,EVS]
  ·have hd:s.drop k=[]:=List.drop_eq_nil_of_le (by omega)
   have hlt:decide ((k:Int)<s.length)=false:=by simpa using hk
   rw[hd]
   simp only[Zhn,hlt,ZaO,EVS]
 ·simp only[Zat,List.drop_zero,beq_self_eq_true,EVS]
def Zjd (b:UInt8):Bool:=decide ((b.toNat:Int)=48)||decide ((b.toNat:Int)=49)||decide ((b.toNat:Int)=45)
def Zic (s:List UInt8):Bool:=ZR (fun _ b=>Zjd b) 0 s&&(decide ((1:Int)≤s.length)&&decide ((s.length:Int)≤8))
theorem Zg {α:Type} {l:List α} {k:Nat} {x:α} (h:l[k]?=some x):k<l.length:=(List.getElem?_eq_some_iff.1 h).1
theorem Zl {k n:Nat} (h:k<n) (hn:n≤9223372036854775807):IntKind.i64.wrap ((k:Int)+1)=((k+1:Nat):Int):=by rw[Zdc (by omega) (by omega)];omega
theorem Zam {k n:Nat} (h:k<n):decide ((k:Int)<(n:Int))=true:=by simpa using h
theorem ZaI {n:Nat}:decide ((n:Int)<(n:Int))=false:=by simp
theorem Zoe (s:List UInt8) (hs:s.length≤9223372036854775807):Zee [.str s]=some (pB (Zic s)):=by
 show (fun x0=>Zee [x0]) _=_
 rw[Zm8]
 refine (congrArg (Zf true) (Z5 (R:=PV) s (fun _ b=>Zjd b) (some (pB false)) (some (pB (decide ((1:Int)≤s.length)&&decide ((s.length:Int)≤8)))) _ hs (fun again k b hb=> ?_) (fun again=> ?_))).trans ?_
 ·have hk:=Zg hb
  cases c1:decide ((b.toNat:Int)=48)<;>cases c2:decide ((b.toNat:Int)=49)<;>cases c3:decide ((b.toNat:Int)=45)<;>
   simp only[Zjd,Zam hk,Zl hk hs,Zr hb,c1,c2,c3,EVS]
 ·simp only[ZaI,ZaO,EVS]
 ·unfold Zic
  cases ZR (fun _ b=>Zjd b) 0 s<;>simp only[EVS]
abbrev Z6 (s:List UInt8×Int):PV:=.agg [.str s.1,pI s.2]
def inR (n lo hi:Int):Bool:=decide (lo≤n)&&decide (n≤hi)
def Zl7 (l:List (List UInt8×Int)) (k:Nat) (s:List UInt8×Int):Bool:=(Zat s.1&&inR s.2 1 3)&&ZR (fun _ y=> !decide (s.1=y.1)) 0 (l.take k)
def Zg2 (l:List (List UInt8×Int)):Bool:=ZR (Zl7 l) 0 l&&inR l.length 1 8
theorem Zl8 (x:List UInt8×Int):ZbP 2 (Z6 x)=true:=rfl
theorem Zg3 (l:List (List UInt8×Int)) (hl:l.length≤9223372036854775807) (hs:∀s∈l,s.1.length≤9223372036854775807):Zcp [.lst (l.map Z6)]=some (pB (Zg2 l)):=by
 show (fun x0=>Zcp [x0]) _=_
 rw[Zlb]
 simp only[EVS]
 refine (congrArg (Zf true) (Z5 (R:=PV) l (Zl7 l) (some (pB false)) (some (pB (inR l.length 1 8))) _ hl (fun again k s hb=> ?_) (fun again=> ?_))).trans ?_
 ·have hk:=Zg hb
  have hi:Zo (.lst (l.map Z6)) (.int .i64 (k:Int))=some (Z6 s):=Zn hb
  have hc:Zjp 2 (.lst (l.map Z6)) none (some (.int .i64 (k:Int)))=some (.lst ((l.take k).map Z6)):=ZjL Zl8 (by omega)
  have hn:=ZkH s.1 (hs s (List.mem_of_getElem? hb))
  simp only[Zam hk,Zl hk hl,hi,Z6,hn,ZaO,Zl7,inR,EVS]
  obtain c1|c1:=(Bool.eq_false_or_eq_true (Zat s.1)).symm<;>simp only[c1,ZaO,EVS]
  obtain c2|c2:=(Bool.eq_false_or_eq_true (decide (1≤s.2)&&decide (s.2≤3))).symm<;>simp only[c2,EVS]
  simp only[hc,EVS]
  refine (Z5 (R:=PV) (l.take k) (fun _ y=> !decide (s.1=y.1)) (some (pB false)) (again [pI ((k+1:Nat):Int)]) _ (by simp;omega) (fun again' j y hy=> ?_) (fun again'=> ?_)).trans ?_
  ·have hj:=Zg hy
   have hi':Zo (.lst ((l.take k).map Z6)) (.int .i64 (j:Int))=some (Z6 y):=Zn hy
   simp only[Zam hj,Zl hj (by simp;omega),hi',Z6,EVS]
   cases c3:decide (s.1=y.1)<;>simp only[c3,EVS]
  ·simp only[ZaI,Zl hk hl,EVS]
  ·rfl
 ·simp only[ZaI,ZaO,inR,EVS]
 ·unfold Zg2
  cases ZR (Zl7 l) 0 l<;>simp only[EVS]
def ZjU (n:Int) (l:List (List UInt8)):Bool:=ZR (fun _ c=>Zic c&&decide ((c.length:Int)=n)) 0 l
def ZkI (n:Int) (l:List (List UInt8)):Bool:=ZjU n l&&(inR n 1 8&&decide ((l.length:Int)≤60))
theorem Zof (n:Int) (l:List (List UInt8)) (hl:l.length≤9223372036854775807) (hs:∀s∈l,s.length≤9223372036854775807):Zef [pI n,.lst (l.map PV.str)]=some (pB (ZkI n l)):=by
 show (fun x0 x1=>Zef [x0,x1]) _ _=_
 rw[Zna]
 simp only[EVS]
 refine (congrArg (Zf true) (Z5 (R:=PV) l (fun _ c=>Zic c&&decide ((c.length:Int)=n)) (some (pB false)) (some (pB (inR n 1 8&&decide ((l.length:Int)≤60)))) _ hl (fun again k s hb=> ?_) (fun again=> ?_))).trans ?_
 ·have hk:=Zg hb
  have hi:Zo (.lst (l.map PV.str)) (.int .i64 (k:Int))=some (.str s):=Zn hb
  have hn:=Zoe s (hs s (List.mem_of_getElem? hb))
  simp only[Zam hk,Zl hk hl,hi,hn,EVS]
  obtain c1|c1:=(Bool.eq_false_or_eq_true (Zic s)).symm<;>simp only[c1,EVS]
  obtain c2|c2:=(Bool.eq_false_or_eq_true (decide ((s.length:Int)=n))).symm<;>simp only[c2,EVS]
 ·simp only[ZaI,ZaO,inR,EVS]
  obtain c1|c1:=(Bool.eq_false_or_eq_true (decide (1≤n)&&decide (n≤8))).symm<;>simp only[c1,EVS]
 ·unfold ZkI ZjU
  cases ZR (fun _ c=>Zic c&&decide ((c.length:Int)=n)) 0 l<;>simp only[EVS]
structure PWire where
 name:List UInt8
 kind:Int
 ins:List (Int×Bool)
 cover:List (List UInt8)
structure PNet where
 signals:List (List UInt8×Int)
 wires:List PWire
abbrev Zap (p:Int×Bool):PV:=.agg [pI p.1,pB p.2]
abbrev Zac (w:PWire):PV:=.agg [.str w.name,pI w.kind,.lst (w.ins.map Zap),.lst (w.cover.map PV.str)]
abbrev Zak (n:PNet):PV:=.agg [.lst (n.signals.map Z6),.lst (n.wires.map Zac)]
abbrev Zx {α:Type} (l:List α):Prop:=l.length≤9223372036854775807
structure PWire.Fit (w:PWire):Prop where
 name:Zx w.name
 ins:Zx w.ins
 cover:Zx w.cover
 cubes:∀c∈w.cover,Zx c
structure PNet.Fit (n:PNet):Prop where
 signals:Zx n.signals
 names:∀s∈n.signals,Zx s.1
 wires:Zx n.wires
 wire:∀w∈n.wires,w.Fit
def Zg4 (n:PNet) (k:Nat) (p:Int×Bool):Bool:=inR p.1 0 ((n.wires.length:Int) - 1)&& !(decide ((n.signals.length:Int)≤k)&&decide ((k:Int)≤p.1))
def Zd8 (k:Nat) (kind:Int) (ins:List (Int×Bool)):Bool:=
 if decide (kind=1)=true then decide ((ins.length:Int)=0)
 else if decide (kind=4)=true then decide ((ins.length:Int)=2)
 else if decide (kind=5)=true then decide ((ins.length:Int)=0)||(match ins with|[p]=>decide (p.1=k)&& !p.2|_=>false)
 else inR ins.length 1 8
def Zog (n:PNet) (k:Nat) (w:PWire):Bool:=ZR (fun _ p=>Zg4 n k p) 0 w.ins&&Zd8 k w.kind w.ins
theorem Zoh (n:PNet) (k:Nat) (w:PWire) (hn:n.Fit) (hw:w.Fit):Zeg [Zak n,pI k,Zac w]=some (pB (Zog n k w)):=by
 show (fun x0 x1 x2=>Zeg [x0,x1,x2]) _ _ _=_
 rw[Znc]
 simp only[Zak,Zac,EVS]
 have hwl:IntKind.i64.wrap ((n.wires.length:Int) - 1)=(n.wires.length:Int) - 1:=Zdc (by omega) (by have:=hn.wires;unfold Zx at this;omega)
 have hi0:=hw.ins
 unfold Zx at hi0
 refine (congrArg (Zf true) (Z5 (R:=PV) w.ins (fun _ p=>Zg4 n k p) (some (pB false)) (some (pB (Zd8 k w.kind w.ins))) _ hi0 (fun again j p hb=> ?_) (fun again=> ?_))).trans ?_
 ·have hk:=Zg hb
  have hi:Zo (.lst (w.ins.map Zap)) (.int .i64 (j:Int))=some (Zap p):=Zn hb
  simp only[Zam hk,Zl hk hi0,hi,Zap,hwl,ZaO,Zg4,inR,EVS]
  obtain c1|c1:=(Bool.eq_false_or_eq_true (decide (0≤p.1)&&decide (p.1≤(n.wires.length:Int) - 1))).symm<;>simp only[c1,EVS]
  obtain c2|c2:=(Bool.eq_false_or_eq_true (decide ((n.signals.length:Int)≤(k:Int)))).symm<;>simp only[c2,EVS]
  obtain c3|c3:=(Bool.eq_false_or_eq_true (decide ((k:Int)≤p.1))).symm<;>simp only[c3,EVS]
 ·simp only[ZaI,Zd8,EVS]
  obtain c1|c1:=(Bool.eq_false_or_eq_true (decide (w.kind=1))).symm<;>simp only[c1,EVS]
  obtain c2|c2:=(Bool.eq_false_or_eq_true (decide (w.kind=4))).symm<;>simp only[c2,EVS]
  obtain c3|c3:=(Bool.eq_false_or_eq_true (decide (w.kind=5))).symm<;>simp only[c3,ZaO,inR,EVS]
  have h01:decide ((0:Int)=1)=false:=rfl
  have h00:decide ((0:Int)=0)=true:=rfl
  have h11:decide ((1:Int)=1)=true:=rfl
  have h10:decide ((1:Int)=0)=false:=rfl
  rcases hq:w.ins with _|⟨p,_|⟨q,r⟩⟩
  ·simp only[List.length_nil,h00,EVS]
  ·have hi:Zo (.lst ([p].map Zap)) (.int .i64 0)=some (Zap p):=rfl
   simp only[List.length_cons,List.length_nil,Nat.zero_add,h11,h10,hi,Zap,List.drop_zero,List.drop_succ_cons,EVS]
   obtain c4|c4:=(Bool.eq_false_or_eq_true (decide (p.1=(k:Int)))).symm<;>simp only[c4,h11,h10,hi,Zap,List.drop_zero,List.drop_succ_cons,EVS]
  ·have h2:decide (((r.length+1+1:Nat):Int)=0)=false:=by simp;omega
   have h3:decide (((r.length+1+1:Nat):Int)=1)=false:=by simp;omega
   simp only[List.length_cons,h2,h3,EVS]
 ·unfold Zog
  cases ZR (fun _ p=>Zg4 n k p) 0 w.ins<;>simp only[EVS]
def ZeJ (n:PNet) (k:Nat) (w:PWire):Bool:=match n.signals[k]? with|some s=>decide (w.name=s.1)&&(decide (w.kind=1)==decide (s.2=1))|none=>false
def ZkJ (n:PNet) (k:Nat) (w:PWire):Bool:=
 let seen:=decide ((k:Int)<(n.signals.length:Int))
 (inR w.kind 1 5&&(seen||decide (w.kind=2)||decide (w.kind=3)))&&(!seen||ZeJ n k w)&&(if decide (w.kind=5)=true then ZkI n.signals.length w.cover else !decide ((0:Int)<w.cover.length))&&(Zat w.name&&Zog n k w)
theorem Zoi (n:PNet) (k:Nat) (w:PWire) (hn:n.Fit) (hw:w.Fit):Zeh [Zak n,pI k,Zac w]=some (pB (ZkJ n k w)):=by
 have g1:=Zof n.signals.length w.cover hw.cover hw.cubes
 have g2:=ZkH w.name hw.name
 have g3:=Zoh n k w hn hw
 have g4:=ZaO w.kind 1 5
 simp only[Zak,Zac] at g3
 show (fun x0 x1 x2=>Zeh [x0,x1,x2]) _ _ _=_
 rw[Zne]
 simp only[Zak,Zac,g4,EVS]
 have fin:∀b:Bool,((some (pB (Zat w.name&&b))))=(some (pB (Zat w.name&&b))):=fun _=>rfl
 simp only[ZkJ,inR]
 obtain c1|c1:=(Bool.eq_false_or_eq_true (decide (1≤w.kind)&&decide (w.kind≤5))).symm<;>simp only[c1,EVS]
 obtain c2|c2:=(Bool.eq_false_or_eq_true (decide ((k:Int)<(n.signals.length:Int)))).symm<;>simp only[c2,EVS]
 ·obtain c3|c3:=(Bool.eq_false_or_eq_true (decide (w.kind=2))).symm<;>simp only[c3,EVS]
  ·obtain c4|c4:=(Bool.eq_false_or_eq_true (decide (w.kind=3))).symm<;>simp only[c4,EVS]
   have c5:decide (w.kind=5)=false:=by have:=of_decide_eq_true c4;simp;omega
   simp only[c5,EVS]
   obtain c6|c6:=(Bool.eq_false_or_eq_true (decide ((0:Int)<w.cover.length))).symm<;>simp only[c6,g2,EVS]
   obtain c7|c7:=(Bool.eq_false_or_eq_true (Zat w.name)).symm<;>simp only[c7,g3,EVS]
  ·have c4:decide (w.kind=3)=false:=by have:=of_decide_eq_true c3;simp;omega
   have c5:decide (w.kind=5)=false:=by have:=of_decide_eq_true c3;simp;omega
   simp only[c4,c5,EVS]
   obtain c6|c6:=(Bool.eq_false_or_eq_true (decide ((0:Int)<w.cover.length))).symm<;>simp only[c6,g2,EVS]
   obtain c7|c7:=(Bool.eq_false_or_eq_true (Zat w.name)).symm<;>simp only[c7,g3,EVS]
 ·have hk:k<n.signals.length:=by have:=of_decide_eq_true c2;omega
  have hs:n.signals[k]?=some n.signals[k]:=List.getElem?_eq_getElem hk
  have hi:Zo (.lst (n.signals.map Z6)) (.int .i64 (k:Int))=some (Z6 n.signals[k]):=Zn hs
  simp only[ZeJ,hs,hi,Z6,List.drop_zero,List.drop_succ_cons,EVS]
  obtain c3|c3:=(Bool.eq_false_or_eq_true (decide (w.name=n.signals[k].1))).symm<;>simp only[c3,hi,Z6,List.drop_zero,List.drop_succ_cons,EVS]
  obtain c4|c4:=(Bool.eq_false_or_eq_true (decide (w.kind=1)==decide (n.signals[k].2=1))).symm<;>simp only[bne,c4,hi,Z6,List.drop_zero,List.drop_succ_cons,EVS]
  obtain c5|c5:=(Bool.eq_false_or_eq_true (decide (w.kind=5))).symm<;>simp only[c5,g1,g2,EVS]
  ·obtain c6|c6:=(Bool.eq_false_or_eq_true (decide ((0:Int)<w.cover.length))).symm<;>simp only[c6,g2,EVS]
   obtain c7|c7:=(Bool.eq_false_or_eq_true (Zat w.name)).symm<;>simp only[c7,g3,EVS]
  ·obtain c6|c6:=(Bool.eq_false_or_eq_true (ZkI n.signals.length w.cover)).symm<;>simp only[c5,c6,g2,EVS]
   obtain c7|c7:=(Bool.eq_false_or_eq_true (Zat w.name)).symm<;>simp only[c5,c7,g3,EVS]
def Zb6 (n:PNet) (k:Nat) (w:PWire):Bool:=ZkJ n k w&&ZR (fun _ v=> !decide (v.name=w.name)) 0 (n.wires.take k)
def ZfI (n:PNet):Bool:=Zg2 n.signals&&(!decide ((n.wires.length:Int)<n.signals.length)&& !decide ((24:Int)<n.wires.length))&&ZR (Zb6 n) 0 n.wires
theorem ZkK (x:PWire):ZbP 4 (Zac x)=true:=rfl
theorem Zoj (n:PNet) (hn:n.Fit):Zei [Zak n]=some (pB (ZfI n)):=by
 have g1:=Zg3 n.signals hn.signals hn.names
 have hwl:=hn.wires
 unfold Zx at hwl
 show (fun x0=>Zei [x0]) _=_
 rw[Zng]
 simp only[Zak,g1,EVS]
 unfold ZfI
 obtain c1|c1:=(Bool.eq_false_or_eq_true (Zg2 n.signals)).symm<;>simp only[c1,EVS]
 obtain c2|c2:=(Bool.eq_false_or_eq_true (decide ((n.wires.length:Int)<n.signals.length))).symm<;>simp only[c2,EVS]
 obtain c3|c3:=(Bool.eq_false_or_eq_true (decide ((24:Int)<n.wires.length))).symm<;>simp only[c3,EVS]
 refine (congrArg (Zf true) (Z5 (R:=PV) n.wires (Zb6 n) (some (pB false)) (some (pB true)) _ hwl (fun again k w hb=> ?_) (fun again=> ?_))).trans ?_
 ·have hk:=Zg hb
  have hi:Zo (.lst (n.wires.map Zac)) (.int .i64 (k:Int))=some (Zac w):=Zn hb
  have hc:Zjp 4 (.lst (n.wires.map Zac)) none (some (.int .i64 (k:Int)))=some (.lst ((n.wires.take k).map Zac)):=ZjL ZkK (by omega)
  have g3:=Zoi n k w hn (hn.wire w (List.mem_of_getElem? hb))
  simp only[Zak,Zac] at g3
  simp only[Zam hk,Zl hk hwl,hi,Zac,Zb6,g3,EVS]
  obtain c4|c4:=(Bool.eq_false_or_eq_true (ZkJ n k w)).symm<;>simp only[c4,hc,EVS]
  refine (Z5 (R:=PV) (n.wires.take k) (fun _ v=> !decide (v.name=w.name)) (some (pB false)) (again [pI ((k+1:Nat):Int)]) _ (by simp;omega) (fun again' j y hy=> ?_) (fun again'=> ?_)).trans ?_
  ·have hj:=Zg hy
   have hi':Zo (.lst ((n.wires.take k).map Zac)) (.int .i64 (j:Int))=some (Zac y):=Zn hy
   simp only[Zam hj,Zl hj (by simp;omega),hi',Zac,EVS]
   obtain c5|c5:=(Bool.eq_false_or_eq_true (decide (y.name=w.name))).symm<;>simp only[c5,EVS]
  ·simp only[ZaI,Zl hk hwl,EVS]
  ·rfl
 ·simp only[ZaI,EVS]
 ·cases ZR (Zb6 n) 0 n.wires<;>simp only[EVS]
theorem Zaq (n lo hi:Int):Zae [pI n,pI lo,pI hi]=some (pB (inR n lo hi)):=by
 show (fun x0 x1 x2=>Zae [x0,x1,x2]) _ _ _=_
 rw[ZoM]
 unfold inR
 by_cases h:lo≤n<;>simp only[h,EVS]
def ZiK (k:Nat) (b:UInt8):Bool:=(decide ((97:Int)≤b.toNat)&&decide ((b.toNat:Int)≤122))||(!decide ((k:Int)=0)&&(decide ((48:Int)≤b.toNat)&&decide ((b.toNat:Int)≤57)))
def ZmO (s:List UInt8):Bool:=ZR ZiK 0 s&&inR s.length 1 6
theorem ZpH (s:List UInt8) (hs:s.length≤9223372036854775807):Zc8 [.str s]=some (pB (ZmO s)):=by
 show (fun x0=>Zc8 [x0]) _=_
 rw[ZoP]
 refine (congrArg (Zf true) (Z5 (R:=PV) s ZiK (some (pB false)) (some (pB (inR s.length 1 6))) _ hs (fun again k b hb=> ?_) (fun again=> ?_))).trans ?_
 ·have hk:=Zg hb
  simp only[ZiK,Zam hk,Zl hk hs,Zr hb,EVS]
  obtain c1|c1:=(Bool.eq_false_or_eq_true (decide ((97:Int)≤b.toNat))).symm<;>simp only[c1,Zr hb,EVS]
  all_goals (obtain c2|c2:=(Bool.eq_false_or_eq_true (decide ((b.toNat:Int)≤122))).symm<;>try simp only[c2,Zr hb,EVS])
  all_goals (obtain c3|c3:=(Bool.eq_false_or_eq_true (decide ((48:Int)≤b.toNat))).symm<;>try simp only[c3,Zr hb,EVS])
  all_goals (obtain c4|c4:=(Bool.eq_false_or_eq_true (decide ((b.toNat:Int)≤57))).symm<;>try simp only[c4,Zr hb,EVS])
  all_goals (obtain c5|c5:=(Bool.eq_false_or_eq_true (decide ((k:Int)=0))).symm<;>try simp only[c5,EVS])
 ·simp only[ZaI,Zaq,EVS]
 ·unfold ZmO
  cases ZR ZiK 0 s<;>simp only[EVS]
theorem ZkL :∀(l:List UInt8) (k:Nat),Zhn (k==0) l=ZR ZiK k l
 |[],_=>rfl
 | b::r,k=>by
  have h:=ZkL r (k+1)
  have h1:(k+1==0)=false:=rfl
  rw[h1] at h
  unfold Zhn ZR
  rw[h]
  congr 1
  unfold ZsY ZiK
  have e1:decide ((48:Int)≤b.toNat)= !decide ((b.toNat:Int)<48):=by rw[Bool.eq_iff_iff];simp
  have e2:decide ((b.toNat:Int)≤57)= !decide ((57:Int)<b.toNat):=by rw[Bool.eq_iff_iff];simp
  have e3:decide ((k:Int)=0)=(k==0):=by rw[Bool.eq_iff_iff];simp
  rw[e1,e2,e3]
theorem ZtA (s:List UInt8):Zat s=ZmO s:=by
 unfold Zat ZmO inR
 rw[←ZkL s 0]
 rfl
theorem Zje (s:List UInt8) (hs:s.length≤9223372036854775807):Zc8 [.str s]=some (pB (Zat s)):=(ZpH s hs).trans (by rw[ZtA])
def Zet (s:List UInt8) (n:Int):Bool:=ZR (fun _ b=>Zjd b) 0 s&&(decide ((s.length:Int)=n)&&inR n 1 8)
theorem ZpI (s:List UInt8) (n:Int) (hs:s.length≤9223372036854775807):Zfz [.str s,pI n]=some (pB (Zet s n)):=by
 show (fun x0 x1=>Zfz [x0,x1]) _ _=_
 rw[ZoR]
 refine (congrArg (Zf true) (Z5 (R:=PV) s (fun _ b=>Zjd b) (some (pB false)) (some (pB (decide ((s.length:Int)=n)&&inR n 1 8))) _ hs (fun again k b hb=> ?_) (fun again=> ?_))).trans ?_
 ·have hk:=Zg hb
  simp only[Zjd,Zam hk,Zl hk hs,Zr hb,EVS]
  obtain c1|c1:=(Bool.eq_false_or_eq_true (decide ((b.toNat:Int)=48))).symm<;>simp only[c1,Zr hb,EVS]
  obtain c2|c2:=(Bool.eq_false_or_eq_true (decide ((b.toNat:Int)=49))).symm<;>simp only[c2,Zr hb,EVS]
  obtain c3|c3:=(Bool.eq_false_or_eq_true (decide ((b.toNat:Int)=45))).symm<;>simp only[c3,Zr hb,EVS]
 ·simp only[ZaI,EVS]
  obtain c1|c1:=(Bool.eq_false_or_eq_true (decide ((s.length:Int)=n))).symm<;>simp only[c1,Zaq,EVS]
 ·unfold Zet
  cases ZR (fun _ b=>Zjd b) 0 s<;>simp only[EVS]
def ixf {α:Type} (q:α→Bool):Nat→List α→Int
 |_,[]=> -1
 |k,x::r=>if q x=true then (k:Int) else ixf q (k+1) r
theorem ZqT {α:Type} (q:α→Bool):∀(l:List α) (k:Nat),rgo (fun k x=>if q x=true then some (some (pI (k:Int))) else none) (some (pI (-1))) k l=some (pI (ixf q k l))
 |[],k=>rfl
 | x::r,k=>by
  unfold rgo ixf
  cases q x
  ·simp[ZqT q r (k+1)]
  ·simp
theorem Zeu {α:Type} (q:α→Bool):∀(l:List α) (k:Nat),decide ((0:Int)≤ixf q k l)= !ZR (fun _ x=> !q x) k l
 |[],k=>rfl
 | x::r,k=>by
  unfold ixf ZR
  cases q x
  ·simp[Zeu q r (k+1)]
  ·simp
theorem Zdu {α:Type} (l:List α) (q:α→Bool) (f:(List PV→Option PV)→List PV→Option PV) (hl:l.length≤9223372036854775807)
 (h1:∀again k x,l[k]?=some x→f again [pI (Int.ofNat k)]=if q x=true then some (pI (k:Int)) else again [pI (Int.ofNat (k+1))])
 (h2:∀again,f again [pI (Int.ofNat l.length)]=some (pI (-1))):ZA f 18446744073709551616 [pI (Int.ofNat 0)]=some (pI (ixf q 0 l)):=by
 rw[Zpa l (fun k x=>if q x=true then some (some (pI (k:Int))) else none) (some (pI (-1))) f hl (fun again k x hx=> ?_) h2,ZqT]
 rw[h1 again k x hx]
 cases q x<;>simp
theorem ZkM (l:List PV):ZcH 1 (.tup [.agg l])=some [.agg l]:=by simp[ZcH,PV.parts,PV.isU]
theorem ZiL (a x:List UInt8×Int):Zb9 [Z6 a,Z6 x]=some (pB (decide (a.1=x.1))):=by
 show (fun x0 x1=>Zb9 [x0,x1]) _ _=_
 rw[Ziq]
 simp only[Z6,List.drop_zero,EVS]
theorem Zbf (l:List (List UInt8×Int)) (x:List UInt8×Int) (hl:Zx l):Zz [.lst (l.map Z6),.tup [Z6 x]]=some (pI (ixf (fun a=>decide (a.1=x.1)) 0 l)):=by
 show (fun x0 x1=>Zz [x0,x1]) _ _=_
 rw[Zbd]
 unfold Zx at hl
 simp only[EVS]
 refine (congrArg (Zf true) (Zdu l (fun a=>decide (a.1=x.1)) _ hl (fun again k a hb=> ?_) (fun again=> ?_))).trans ?_
 ·have hk:=Zg hb
  have hi:Zo (.lst (l.map Z6)) (.int .i64 (k:Int))=some (Z6 a):=Zn hb
  have g:=ZiL a x
  simp only[Z6] at g
  simp only[Zam hk,Zl hk hl,hi,Z6,ZkM,List.cons_append,List.nil_append,g,EVS]
 ·simp only[ZaI,EVS]
  rfl
 ·simp only[EVS]
theorem ZaY (l:List (List UInt8×Int)) (x:List UInt8×Int) (hl:Zx l):Zu [.lst (l.map Z6),.tup [Z6 x]]=some (pB (!ZR (fun _ a=> !decide (a.1=x.1)) 0 l)):=by
 show (fun x0 x1=>Zu [x0,x1]) _ _=_
 rw[ZaW]
 simp only[Zbf l x hl,Zeu (fun a:List UInt8×Int=>decide (a.1=x.1)) l 0,EVS]
theorem Zly (p:Int×Bool) (n:Nat) (hn:n≤9223372036854775807):Zdf [Zap p,.agg [pI n]]=some (pB (!inR p.1 0 ((n:Int) - 1))):=by
 have hwl:IntKind.i64.wrap ((n:Int) - 1)=(n:Int) - 1:=Zdc (by omega) (by omega)
 show (fun x0 x1=>Zdf [x0,x1]) _ _=_
 rw[Zlf]
 simp only[Zap,hwl,Zaq,EVS]
theorem Zb7 (l:List (Int×Bool)) (n:Nat) (hn:n≤9223372036854775807) (hl:Zx l):ZN [.lst (l.map Zap),.tup [.agg [pI n]]]=some (pI (ixf (fun p=> !inR p.1 0 ((n:Int) - 1)) 0 l)):=by
 show (fun x0 x1=>ZN [x0,x1]) _ _=_
 rw[Zb0]
 unfold Zx at hl
 simp only[EVS]
 refine (congrArg (Zf true) (Zdu l (fun p=> !inR p.1 0 ((n:Int) - 1)) _ hl (fun again k a hb=> ?_) (fun again=> ?_))).trans ?_
 ·have hk:=Zg hb
  have hi:Zo (.lst (l.map Zap)) (.int .i64 (k:Int))=some (Zap a):=Zn hb
  have g:=Zly a n hn
  simp only[Zap] at g
  simp only[Zam hk,Zl hk hl,hi,Zap,ZkM,List.cons_append,List.nil_append,g,EVS]
 ·simp only[ZaI,EVS]
  rfl
 ·simp only[EVS]
def Zcg (l:List (Int×Bool)) (n:Nat):Bool:=ZR (fun _ p=>inR p.1 0 ((n:Int) - 1)) 0 l
theorem Zjf (l:List (Int×Bool)) (n:Nat) (hn:n≤9223372036854775807) (hl:Zx l):Zdm [.lst (l.map Zap),pI n]=some (pB (Zcg l n)):=by
 have g:ZG [.lst (l.map Zap),.tup [.agg [pI n]]]=some (pB (!ZR (fun _ p=>inR p.1 0 ((n:Int) - 1)) 0 l)):=by
  show (fun x0 x1=>ZG [x0,x1]) _ _=_
  rw[ZbC]
  simp only[Zb7 l n hn hl,Zeu (fun p:Int×Bool=> !inR p.1 0 ((n:Int) - 1)) l 0,Bool.not_not,EVS]
 show (fun x0 x1=>Zdm [x0,x1]) _ _=_
 rw[Znm]
 have lt:∀{R:Type} (l:List PV) (x:Option R),Za [.tup l] x=x:=fun l x=>(Eq.refl _).trans (Eq.refl _)
 simp only[lt,g,List.drop_zero,Bool.not_not,Zcg,EVS]
theorem ZmP (w:PWire) (x:List UInt8):ZdE [Zac w,.agg [.str x]]=some (pB (decide (w.name=x))):=by
 show (fun x0 x1=>ZdE [x0,x1]) _ _=_
 rw[ZlS]
 simp only[Zac,List.drop_zero,EVS]
theorem ZpJ (l:List PWire) (x:List UInt8) (hl:Zx l):Zfx [.lst (l.map Zac),.str x]=some (pI (ixf (fun w:PWire=>decide (w.name=x)) 0 l)):=by
 unfold Zx at hl
 have g:ZO [.lst (l.map Zac),.tup [.agg [.str x]]]=some (pI (ixf (fun w:PWire=>decide (w.name=x)) 0 l)):=by
  show (fun x0 x1=>ZO [x0,x1]) _ _=_
  rw[Zb2]
  simp only[EVS]
  refine (congrArg (Zf true) (Zdu l (fun w:PWire=>decide (w.name=x)) _ hl (fun again k a hb=> ?_) (fun again=> ?_))).trans ?_
  ·have hk:=Zg hb
   have hi:Zo (.lst (l.map Zac)) (.int .i64 (k:Int))=some (Zac a):=Zn hb
   have g:=ZmP a x
   simp only[Zac] at g
   simp only[Zam hk,Zl hk hl,hi,Zac,ZkM,List.cons_append,List.nil_append,g,EVS]
  ·simp only[ZaI,EVS]
   rfl
  ·simp only[EVS]
 show (fun x0 x1=>Zfx [x0,x1]) _ _=_
 rw[ZoO]
 have lt:∀{R:Type} (l:List PV) (x:Option R),Za [.tup l] x=x:=fun l x=>(Eq.refl _).trans (Eq.refl _)
 simp only[lt,g,List.drop_zero,Bool.not_not,EVS]
theorem Zho (c:List UInt8) (n:Int) (hc:Zx c):Zbw [.str c,.agg [pI n]]=some (pB (!Zet c n)):=by
 show (fun x0 x1=>Zbw [x0,x1]) _ _=_
 rw[ZgV]
 simp only[ZpI c n hc,EVS]
theorem Za2 (l:List (List UInt8)) (n:Int) (hl:Zx l) (hc:∀c∈l,Zx c):Zv [.lst (l.map PV.str),.tup [.agg [pI n]]]=some (pI (ixf (fun c:List UInt8=> !Zet c n) 0 l)):=by
 unfold Zx at hl
 show (fun x0 x1=>Zv [x0,x1]) _ _=_
 rw[Za1]
 simp only[EVS]
 refine (congrArg (Zf true) (Zdu l (fun c:List UInt8=> !Zet c n) _ hl (fun again k a hb=> ?_) (fun again=> ?_))).trans ?_
 ·have hk:=Zg hb
  have hi:Zo (.lst (l.map PV.str)) (.int .i64 (k:Int))=some (.str a):=Zn hb
  have g:=Zho a n (hc a (List.mem_of_getElem? hb))
  simp only[Zam hk,Zl hk hl,hi,ZkM,List.cons_append,List.nil_append,g,EVS]
 ·simp only[ZaI,EVS]
  rfl
 ·simp only[EVS]
theorem eqPin (a c:Int) (b d:Bool):eqV (some [(0,TD.int .i64),(1,TD.bool)]) .struct (.agg [pI a,pB b]) (.agg [pI c,pB d])=some (decide (a=c)&&(b==d)):=by
 simp[eqV,Zkb,scEq,Zen]
theorem ZtB :ZC.bool.pv=pB false:=(Eq.refl _).trans (Eq.refl _)
theorem sp12 (a b c:PV):splice [a,b] 0 [c]=[c,b]:=(Eq.refl _).trans (Eq.refl _)
def Zev (n:Int) (l:List (List UInt8)):Bool:=(inR n 1 8&&decide ((l.length:Int)≤60))&&ZR (fun _ c=>Zet c n) 0 l
def ZdP (n:PNet) (k:Nat) (w:PWire):Bool:=
 if decide (w.kind=1)=true then decide ((w.ins.length:Int)=0)
 else if (decide (w.kind=2)||decide (w.kind=3))=true then inR w.ins.length 1 8
 else if decide (w.kind=4)=true then decide ((w.ins.length:Int)=2)
 else if decide (w.kind=5)=true then Zev n.signals.length w.cover&&(decide ((w.ins.length:Int)=0)||(match w.ins with|[p]=>decide (p.1=(k:Int))&&(p.2==false)|_=>false))
 else false
def Zok (n:PNet) (k:Nat) (w:PWire):Bool:= !((!decide (w.kind=5)&&decide ((0:Int)<w.cover.length))|| !Zcg w.ins n.wires.length)&&ZdP n k w
theorem ZpK (h160:∀(n:Int) (l:List (List UInt8)),Zx l→(∀c∈l,Zx c)→Zbb [pI n,.lst (l.map PV.str)]=some (pB (Zev n l))) (n:PNet) (k:Nat) (w:PWire) (hn:n.Fit) (hk:n.wires[k]?=some w):ZfA [Zak n,pI k]=some (pB (Zok n k w)):=by
 have hw:=hn.wire w (List.mem_of_getElem? hk)
 have g1:=h160 n.signals.length w.cover hw.cover hw.cubes
 have hwl:=hn.wires
 unfold Zx at hwl
 have g2:=Zjf w.ins n.wires.length hwl hw.ins
 have hi:Zo (.lst (n.wires.map Zac)) (.int .i64 (k:Int))=some (Zac w):=Zn hk
 show (fun x0 x1=>ZfA [x0,x1]) _ _=_
 rw[ZoT]
 simp only[Zak,hi,Zac,EVS]
 unfold Zok
 obtain c1|c1:=(Bool.eq_false_or_eq_true (!decide (w.kind=5))).symm<;>simp only[c1,g2,EVS]
 ·obtain c2|c2:=(Bool.eq_false_or_eq_true (Zcg w.ins n.wires.length)).symm<;>simp only[c1,c2,g2,EVS]
  have c5:decide (w.kind=5)=true:=by simpa using c1
  have e1:decide (w.kind=1)=false:=by have:=of_decide_eq_true c5;simp;omega
  have e2:decide (w.kind=2)=false:=by have:=of_decide_eq_true c5;simp;omega
  have e3:decide (w.kind=3)=false:=by have:=of_decide_eq_true c5;simp;omega
  have e4:decide (w.kind=4)=false:=by have:=of_decide_eq_true c5;simp;omega
  simp only[Zdi,ZdP,e1,e2,e3,e4,c5,g1,EVS]
  obtain c3|c3:=(Bool.eq_false_or_eq_true (Zev n.signals.length w.cover)).symm<;>simp only[c3,EVS]
  have h01:decide ((0:Int)=1)=false:=rfl
  have h00:decide ((0:Int)=0)=true:=rfl
  have h11:decide ((1:Int)=1)=true:=rfl
  have h10:decide ((1:Int)=0)=false:=rfl
  rcases hq:w.ins with _|⟨p,_|⟨q,r⟩⟩
  ·simp only[List.length_nil,h00,EVS]
  ·have hi:Zo (.lst ([p].map Zap)) (.int .i64 0)=some (Zap p):=rfl
   simp only[List.length_cons,List.length_nil,Nat.zero_add,h11,h10,hi,Zap,ZtB,sp12,eqPin,List.drop_zero,List.drop_succ_cons,EVS]
  ·have h2:decide (((r.length+1+1:Nat):Int)=0)=false:=by simp;omega
   have h3:decide (((r.length+1+1:Nat):Int)=1)=false:=by simp;omega
   simp only[List.length_cons,h2,h3,EVS]
 ·have c5:decide (w.kind=5)=false:=by simpa using c1
  obtain c2|c2:=(Bool.eq_false_or_eq_true (decide ((0:Int)<w.cover.length))).symm<;>simp only[c1,c2,g2,EVS]
  obtain c3|c3:=(Bool.eq_false_or_eq_true (Zcg w.ins n.wires.length)).symm<;>simp only[c3,EVS]
  simp only[Zdi,ZdP,c5,EVS]
  obtain e1|e1:=(Bool.eq_false_or_eq_true (decide (w.kind=1))).symm<;>simp only[e1,EVS]
  obtain e2|e2:=(Bool.eq_false_or_eq_true (decide (w.kind=2))).symm<;>simp only[e2,Zaq,EVS]
  obtain e3|e3:=(Bool.eq_false_or_eq_true (decide (w.kind=3))).symm<;>simp only[e3,Zaq,EVS]
  obtain e4|e4:=(Bool.eq_false_or_eq_true (decide (w.kind=4))).symm<;>simp only[e4,EVS]
theorem ZiM (n:Int) (l:List (List UInt8)) (hl:Zx l) (hc:∀c∈l,Zx c):Zbb [pI n,.lst (l.map PV.str)]=some (pB (Zev n l)):=by
 have g:Zs [.lst (l.map PV.str),.tup [.agg [pI n]]]=some (pB (!ZR (fun _ c=>Zet c n) 0 l)):=by
  show (fun x0 x1=>Zs [x0,x1]) _ _=_
  rw[ZaK]
  simp only[Za2 l n hl hc,Zeu (fun c:List UInt8=> !Zet c n) l 0,Bool.not_not,EVS]
 show (fun x0 x1=>Zbb [x0,x1]) _ _=_
 rw[Zio]
 simp only[Zaq,ZfT,List.drop_zero,Zev,EVS]
 obtain c1|c1:=(Bool.eq_false_or_eq_true (inR n 1 8)).symm<;>simp only[c1,EVS]
 obtain c2|c2:=(Bool.eq_false_or_eq_true (decide ((l.length:Int)≤60))).symm<;>simp only[c2,ZfT,g,Bool.not_not,EVS]
def ZiN (l:List (List UInt8×Int)) (k:Nat) (s:List UInt8×Int):Bool:=(Zat s.1&&inR s.2 1 3)&&ZR (fun _ a=> !decide (a.1=s.1)) 0 (l.take k)
def Zl9 (l:List (List UInt8×Int)):Bool:=ZR (ZiN l) 0 l&&inR l.length 1 8
theorem Zf7 (l:List (List UInt8×Int)) (hl:Zx l) (hs:∀s∈l,Zx s.1):ZbX [.lst (l.map Z6)]=some (pB (Zl9 l)):=by
 unfold Zx at hl
 show (fun x0=>ZbX [x0]) _=_
 rw[Zjy]
 simp only[EVS]
 refine (congrArg (Zf true) (Z5 (R:=PV) l (ZiN l) (some (pB false)) (some (pB (inR l.length 1 8))) _ hl (fun again k s hb=> ?_) (fun again=> ?_))).trans ?_
 ·have hk:=Zg hb
  have hi:Zo (.lst (l.map Z6)) (.int .i64 (k:Int))=some (Z6 s):=Zn hb
  have hc:Zjp 2 (.lst (l.map Z6)) none (some (.int .i64 (k:Int)))=some (.lst ((l.take k).map Z6)):=ZjL Zl8 (by omega)
  have hn:=Zje s.1 (hs s (List.mem_of_getElem? hb))
  have g:=ZaY (l.take k) s (by show (l.take k).length≤_;simp;omega)
  simp only[Z6] at g
  simp only[Zam hk,Zl hk hl,hi,Z6,hn,ZiN,EVS]
  obtain c1|c1:=(Bool.eq_false_or_eq_true (Zat s.1)).symm<;>simp only[c1,Zaq,EVS]
  obtain c2|c2:=(Bool.eq_false_or_eq_true (inR s.2 1 3)).symm<;>simp only[c2,EVS]
  simp only[hc,List.drop_zero,ZfT,g,EVS]
  obtain c3|c3:=(Bool.eq_false_or_eq_true (ZR (fun _ (a:List UInt8×Int)=> !decide (a.1=s.1)) 0 (l.take k))).symm<;>simp only[c3,EVS]
 ·simp only[ZaI,Zaq,EVS]
 ·unfold Zl9
  cases ZR (ZiN l) 0 l<;>simp only[EVS]
def ZdQ (n:PNet) (k:Nat) (w:PWire):Bool:=
 (Zok n k w&&Zat w.name&&ZR (fun _ v=> !decide (v.name=w.name)) 0 (n.wires.take k))&&
 (if decide ((k:Int)<(n.signals.length:Int))=true then ZeJ n k w else (decide (w.kind=2)||decide (w.kind=3))&&Zcg w.ins k)
def netI (n:PNet):Bool:=(Zl9 n.signals&&inR n.wires.length n.signals.length 24)&&ZR (ZdQ n) 0 n.wires
theorem Zhp (n:PNet) (hn:n.Fit):Zbo [Zak n]=some (pB (netI n)):=by
 have g1:=Zf7 n.signals hn.signals hn.names
 have hwl:=hn.wires
 unfold Zx at hwl
 show (fun x0=>Zbo [x0]) _=_
 rw[ZgP]
 simp only[Zak,g1,EVS]
 unfold netI
 obtain c1|c1:=(Bool.eq_false_or_eq_true (Zl9 n.signals)).symm<;>simp only[c1,Zaq,EVS]
 obtain c2|c2:=(Bool.eq_false_or_eq_true (inR n.wires.length n.signals.length 24)).symm<;>simp only[c2,EVS]
 refine (congrArg (Zf true) (Z5 (R:=PV) n.wires (ZdQ n) (some (pB false)) (some (pB true)) _ hwl (fun again k w hb=> ?_) (fun again=> ?_))).trans ?_
 ·have hk:=Zg hb
  have hw:=hn.wire w (List.mem_of_getElem? hb)
  have hi:Zo (.lst (n.wires.map Zac)) (.int .i64 (k:Int))=some (Zac w):=Zn hb
  have hc:Zjp 4 (.lst (n.wires.map Zac)) none (some (.int .i64 (k:Int)))=some (.lst ((n.wires.take k).map Zac)):=ZjL ZkK (by omega)
  have g2:=ZpK ZiM n k w hn hb
  have g3:=Zje w.name hw.name
  have g4:=ZpJ (n.wires.take k) w.name (by show (n.wires.take k).length≤_;simp;omega)
  have g5:=Zjf w.ins k (by omega) hw.ins
  simp only[Zak] at g2
  simp only[Zam hk,Zl hk hwl,hi,Zac,ZdQ,g2,EVS]
  obtain c1|c1:=(Bool.eq_false_or_eq_true (Zok n k w)).symm<;>simp only[c1,g3,EVS]
  obtain c2|c2:=(Bool.eq_false_or_eq_true (Zat w.name)).symm<;>simp only[c2,hc,g4,EVS]
  simp only[Zeu (fun v:PWire=>decide (v.name=w.name)) (n.wires.take k) 0]
  obtain c3|c3:=(Bool.eq_false_or_eq_true (ZR (fun _ (v:PWire)=> !decide (v.name=w.name)) 0 (n.wires.take k))).symm<;>simp only[c3,Zdi,EVS]
  obtain c4|c4:=(Bool.eq_false_or_eq_true (decide ((k:Int)<(n.signals.length:Int)))).symm<;>simp only[c4,EVS]
  ·obtain c5|c5:=(Bool.eq_false_or_eq_true (decide (w.kind=2))).symm<;>simp only[c5,g5,EVS]
   ·obtain c6|c6:=(Bool.eq_false_or_eq_true (decide (w.kind=3))).symm<;>simp only[c6,g5,EVS]
    obtain c7|c7:=(Bool.eq_false_or_eq_true (Zcg w.ins k)).symm<;>simp only[c7,Zl hk hwl,EVS]
   ·obtain c7|c7:=(Bool.eq_false_or_eq_true (Zcg w.ins k)).symm<;>simp only[c7,Zl hk hwl,EVS]
  ·have hks:k<n.signals.length:=by have:=of_decide_eq_true c4;omega
   have hs:n.signals[k]?=some n.signals[k]:=List.getElem?_eq_getElem hks
   have hi2:Zo (.lst (n.signals.map Z6)) (.int .i64 (k:Int))=some (Z6 n.signals[k]):=Zn hs
   simp only[ZeJ,hs,hi2,Z6,List.drop_zero,List.drop_succ_cons,EVS]
   obtain c5|c5:=(Bool.eq_false_or_eq_true (decide (w.name=n.signals[k].1))).symm<;>simp only[c5,hi2,Z6,List.drop_zero,List.drop_succ_cons,EVS]
   obtain c6|c6:=(Bool.eq_false_or_eq_true (decide (w.kind=1)==decide (n.signals[k].2=1))).symm<;>simp only[bne,c6,Zl hk hwl,EVS]
 ·simp only[ZaI,EVS]
 ·cases ZR (ZdQ n) 0 n.wires<;>simp only[EVS]
theorem Zar {α:Type} (q:α→Bool):∀(l:List α) (k:Nat),ZR (fun _ x=>q x) k l=l.all q
 |[],_=>rfl
 |x::r,k=>by unfold ZR;rw[Zar q r (k+1),List.all_cons]
theorem Zc6 {α:Type} (f g:Nat→α→Bool) (h:∀k x,f k x=g k x):∀(l:List α) (k:Nat),ZR f k l=ZR g k l
 |[],_=>rfl
 |x::r,k=>by unfold ZR;rw[h k x,Zc6 f g h r (k+1)]
theorem ZqU (l:List (List UInt8×Int)):Zg2 l=Zl9 l:=by
 unfold Zg2 Zl9
 rw[Zc6 (Zl7 l) (ZiN l) (fun k x=> ?_) l 0]
 unfold Zl7 ZiN
 rw[Zc6 (fun _ (y:List UInt8×Int)=> !decide (x.1=y.1)) (fun _ (y:List UInt8×Int)=> !decide (y.1=x.1)) (fun _ y=>by simp[eq_comm]) _ 0]
theorem ZsZ (n:Int) (l:List (List UInt8)):ZkI n l=Zev n l:=by
 unfold ZkI Zev ZjU
 rw[Bool.and_comm,Bool.eq_iff_iff]
 simp only[Bool.and_eq_true]
 refine and_congr_right fun h=> ?_
 rw[Zc6 (fun _ c=>Zic c&&decide ((c.length:Int)=n)) (fun _ c=>Zet c n) (fun _ c=> ?_) l 0]
 unfold Zic Zet inR
 rw[Bool.eq_iff_iff]
 simp only[Bool.and_eq_true,decide_eq_true_eq]
 constructor
 ·rintro ⟨⟨h1,h2,h3⟩,h4⟩
  exact ⟨h1,h4,by omega,by omega⟩
 ·rintro ⟨h1,h2,h3,h4⟩
  exact ⟨⟨h1,by omega,by omega⟩,h2⟩
theorem ZrB (n:PNet) (k:Nat) (l:List (Int×Bool)) (h:k<n.signals.length):ZR (fun _ p=>Zg4 n k p) 0 l=Zcg l n.wires.length:=by
 unfold Zcg
 refine Zc6 _ _ (fun _ p=> ?_) l 0
 unfold Zg4
 have:decide ((n.signals.length:Int)≤k)=false:=by simp;omega
 rw[this]
 simp
theorem ZrC (n:PNet) (k:Nat) (l:List (Int×Bool)) (h:¬k<n.signals.length):ZR (fun _ p=>Zg4 n k p) 0 l=(Zcg l n.wires.length&&Zcg l k):=by
 unfold Zcg
 rw[Zar,Zar,Zar,Bool.eq_iff_iff]
 have:decide ((n.signals.length:Int)≤k)=true:=by simp;omega
 simp only[Bool.and_eq_true,List.all_eq_true,Zg4,inR,this,Bool.true_and,Bool.not_eq_true',decide_eq_true_eq,decide_eq_false_iff_not]
 constructor
 ·intro h
  exact ⟨fun p hp=>(h p hp).1,fun p hp=>⟨(h p hp).1.1,by have:=(h p hp).2;omega⟩⟩
 ·rintro ⟨h1,h2⟩ p hp
  exact ⟨h1 p hp,by have:=(h2 p hp).2;omega⟩
theorem ZtD (n:PNet) (k:Nat) (w:PWire):(inR w.kind 1 5&&((if decide (w.kind=5)=true then Zev n.signals.length w.cover else !decide ((0:Int)<w.cover.length))&&Zd8 k w.kind w.ins))=(!(!decide (w.kind=5)&&decide ((0:Int)<w.cover.length))&&ZdP n k w):=by
 unfold Zd8 ZdP
 by_cases h1:w.kind=1
 ·simp[h1,inR]
 by_cases h2:w.kind=2
 ·simp[h2,inR]
 by_cases h3:w.kind=3
 ·simp[h3,inR]
 by_cases h4:w.kind=4
 ·simp[h4,inR]
 by_cases h5:w.kind=5
 ·obtain ⟨nm,kd,ins,cov⟩:=w
  simp only at h5
  rcases ins with _|⟨p,_|⟨q,r⟩⟩<;>simp[h5,inR]
 ·have:inR w.kind 1 5=false:=by
   unfold inR
   simp only[Bool.and_eq_false_iff,decide_eq_false_iff_not]
   omega
  simp[this,h1,h2,h3,h4,h5]
theorem ZtE (n:PNet) (k:Nat) (w:PWire):Zb6 n k w=ZdQ n k w:=by
 unfold Zb6 ZdQ ZkJ Zok Zog
 have hf:=ZtD n k w
 rw[ZsZ]
 by_cases hk:k<n.signals.length
 ·have hd:decide ((k:Int)<(n.signals.length:Int))=true:=by simpa using hk
  rw[ZrB n k w.ins hk]
  simp only[hd,if_true,Bool.true_or,Bool.not_true,Bool.false_or,Bool.not_false,Bool.false_eq_true,if_false,Bool.true_and]
  revert hf
  generalize inR w.kind 1 5=a1
  generalize (if decide (w.kind=5)=true then Zev (↑n.signals.length) w.cover else !decide ((0:Int)<↑w.cover.length))=a2
  generalize Zd8 k w.kind w.ins=a3
  generalize (!decide (w.kind=5)&&decide ((0:Int)<w.cover.length))=a4
  generalize ZdP n k w=a5
  generalize Zcg w.ins n.wires.length=a6
  generalize ZeJ n k w=a7
  generalize Zat w.name=a8
  generalize ZR (fun _ (v:PWire)=> !decide (v.name=w.name)) 0 (n.wires.take k)=a9
  cases a1<;>cases a2<;>cases a3<;>cases a4<;>cases a5<;>cases a6<;>cases a7<;>cases a8<;>cases a9<;>decide
 ·have hd:decide ((k:Int)<(n.signals.length:Int))=false:=by simpa using hk
  rw[ZrC n k w.ins hk]
  simp only[hd,if_true,Bool.true_or,Bool.not_true,Bool.false_or,Bool.not_false,Bool.false_eq_true,if_false,Bool.true_and]
  revert hf
  generalize inR w.kind 1 5=a1
  generalize (if decide (w.kind=5)=true then Zev (↑n.signals.length) w.cover else !decide ((0:Int)<↑w.cover.length))=a2
  generalize Zd8 k w.kind w.ins=a3
  generalize (!decide (w.kind=5)&&decide ((0:Int)<w.cover.length))=a4
  generalize ZdP n k w=a5
  generalize Zcg w.ins n.wires.length=a6
  generalize Zat w.name=a8
  generalize Zcg w.ins k=a7
  generalize decide (w.kind=2)=b2
  generalize decide (w.kind=3)=b3
  generalize ZR (fun _ (v:PWire)=> !decide (v.name=w.name)) 0 (n.wires.take k)=a9
  cases a1<;>cases a2<;>cases a3<;>cases a4<;>cases a5<;>cases a6<;>cases a7<;>cases a8<;>cases a9<;>cases b2<;>cases b3<;>decide
theorem net_eq (n:PNet):ZfI n=netI n:=by
 unfold ZfI netI
 rw[ZqU,Zc6 (Zb6 n) (ZdQ n) (fun k x=>ZtE n k x) n.wires 0]
 congr 2
 unfold inR
 rw[Bool.eq_iff_iff]
 simp
def ZfJ (b:UInt8):Bool:=decide ((b.toNat:Int)=48)||decide ((b.toNat:Int)=49)
def Zao (s:List UInt8) (n:Int):Bool:=ZR (fun _ b=>ZfJ b) 0 s&&decide ((s.length:Int)=n)
theorem ZkN (s:List UInt8) (n:Int) (hs:Zx s):ZdU [.str s,pI n]=some (pB (Zao s n)):=by
 unfold Zx at hs
 show (fun x0 x1=>ZdU [x0,x1]) _ _=_
 rw[ZoB]
 refine (congrArg (Zf true) (Z5 (R:=PV) s (fun _ b=>ZfJ b) (some (pB false)) (some (pB (decide ((s.length:Int)=n)))) _ hs (fun again k b hb=> ?_) (fun again=> ?_))).trans ?_
 ·have hk:=Zg hb
  simp only[ZfJ,Zam hk,Zl hk hs,Zr hb,EVS]
  obtain c1|c1:=(Bool.eq_false_or_eq_true (decide ((b.toNat:Int)=48))).symm<;>simp only[c1,Zr hb,EVS]
  obtain c2|c2:=(Bool.eq_false_or_eq_true (decide ((b.toNat:Int)=49))).symm<;>simp only[c2,Zr hb,EVS]
 ·simp only[ZaI,EVS]
 ·unfold Zao
  cases ZR (fun _ b=>ZfJ b) 0 s<;>simp only[EVS]
theorem ZkO (s:List UInt8) (n:Int) (hs:Zx s):ZdR [.str s,pI n]=some (pB (Zao s n)):=by
 unfold Zx at hs
 show (fun x0 x1=>ZdR [x0,x1]) _ _=_
 rw[Zoz]
 refine (congrArg (Zf true) (Z5 (R:=PV) s (fun _ b=>ZfJ b) (some (pB false)) (some (pB (decide ((s.length:Int)=n)))) _ hs (fun again k b hb=> ?_) (fun again=> ?_))).trans ?_
 ·have hk:=Zg hb
  simp only[ZfJ,Zam hk,Zl hk hs,Zr hb,EVS]
  obtain c1|c1:=(Bool.eq_false_or_eq_true (decide ((b.toNat:Int)=48))).symm<;>simp only[c1,Zr hb,EVS]
  obtain c2|c2:=(Bool.eq_false_or_eq_true (decide ((b.toNat:Int)=49))).symm<;>simp only[c2,Zr hb,EVS]
 ·simp only[ZaI,EVS]
 ·unfold Zao
  cases ZR (fun _ b=>ZfJ b) 0 s<;>simp only[EVS]
def Ze7 (n:PNet) (s:List UInt8):Bool:=ZfI n&&Zao s n.wires.length
def ZcG (p:Int×Bool) (s:List UInt8):Bool:=match s[p.1.toNat]? with|some b=>decide ((b.toNat:Int)=49) !=p.2|none=>false
theorem Zs0 {p:Int×Bool} {s:List UInt8} (h0:0≤p.1) (h1:p.1<s.length):∃b:UInt8,s[p.1.toNat]?=some b∧Zaf (.str s) (pI p.1)=some (pU b):=by
 have h2:p.1.toNat<s.length:=by omega
 refine ⟨s[p.1.toNat],List.getElem?_eq_getElem h2, ?_⟩
 have:=Zr (k:=.i64) (List.getElem?_eq_getElem h2)
 rw[Int.toNat_of_nonneg h0] at this
 exact this
theorem Zhq (p:Int×Bool) (s:List UInt8) (h0:0≤p.1) (h1:p.1<s.length):Zc7 [Zap p,.str s]=some (pB (ZcG p s)):=by
 obtain ⟨b,hb,hv⟩:=Zs0 h0 h1
 show (fun x0 x1=>Zc7 [x0,x1]) _ _=_
 rw[ZoH]
 simp only[Zap,hv,ZcG,hb,bne,EVS]
theorem Zdv (p:Int×Bool) (s:List UInt8) (h0:0≤p.1) (h1:p.1<s.length):Zbr [Zap p,.str s]=some (pB (ZcG p s)):=by
 obtain ⟨b,hb,hv⟩:=Zs0 h0 h1
 show (fun x0 x1=>Zbr [x0,x1]) _ _=_
 rw[ZlK]
 simp only[Zap,hv,ZcG,hb,bne,EVS]
def ZpL (code:List UInt8) (k:Nat) (b:UInt8):Bool:=decide ((b.toNat:Int)=45)||(match code[k]? with|some c=>decide ((b.toNat:Int)=c.toNat)|none=>false)
def Zjs (cube code:List UInt8):Bool:=ZR (ZpL code) 0 cube
theorem ZpM (cube code:List UInt8) (hs:Zx cube) (hl:cube.length≤code.length):Zfr [.str cube,.str code]=some (pB (Zjs cube code)):=by
 unfold Zx at hs
 show (fun x0 x1=>Zfr [x0,x1]) _ _=_
 rw[ZoJ]
 refine (congrArg (Zf true) (Z5 (R:=PV) cube (ZpL code) (some (pB false)) (some (pB true)) _ hs (fun again k b hb=> ?_) (fun again=> ?_))).trans ?_
 ·have hk:=Zg hb
  have hc:code[k]?=some code[k]:=List.getElem?_eq_getElem (by omega)
  simp only[ZpL,hc,Zam hk,Zl hk hs,Zr hb,Zr hc,EVS]
  obtain c1|c1:=(Bool.eq_false_or_eq_true (decide ((b.toNat:Int)=45))).symm<;>simp only[c1,Zr hb,Zr hc,EVS]
  obtain c2|c2:=(Bool.eq_false_or_eq_true (decide ((b.toNat:Int)=(code[k].toNat:Int)))).symm<;>simp only[c2,EVS]
 ·simp only[ZaI,EVS]
 ·unfold Zjs
  cases ZR (ZpL code) 0 cube<;>simp only[EVS]
theorem ZmQ (cube code:List UInt8) (hs:Zx cube) (hl:cube.length≤code.length):ZdB [.str cube,.str code]=some (pB (Zjs cube code)):=by
 unfold Zx at hs
 show (fun x0 x1=>ZdB [x0,x1]) _ _=_
 rw[ZlM]
 simp only[EVS]
 refine (congrArg (Zf true) (Z5 (R:=PV) cube (ZpL code) (some (pB false)) (some (pB true)) _ hs (fun again k b hb=> ?_) (fun again=> ?_))).trans ?_
 ·have hk:=Zg hb
  have hc:code[k]?=some code[k]:=List.getElem?_eq_getElem (by omega)
  simp only[ZpL,hc,Zam hk,Zl hk hs,Zr hb,Zr hc,EVS]
  obtain c1|c1:=(Bool.eq_false_or_eq_true (decide ((b.toNat:Int)=45))).symm<;>simp only[c1,Zr hb,Zr hc,EVS]
  obtain c2|c2:=(Bool.eq_false_or_eq_true (decide ((b.toNat:Int)=(code[k].toNat:Int)))).symm<;>simp only[c2,EVS]
 ·simp only[ZaI,EVS]
 ·unfold Zjs
  cases ZR (ZpL code) 0 cube<;>simp only[EVS]
def inP (l:List (List UInt8)) (code:List UInt8):Bool:= !ZR (fun _ c=> !Zjs c code) 0 l
theorem ZrD (l:List (List UInt8)) (code:List UInt8) (hl:Zx l) (hc:∀c∈l,Zx c∧c.length≤code.length):ZgJ [.lst (l.map PV.str),.str code]=some (pB (inP l code)):=by
 unfold Zx at hl
 show (fun x0 x1=>ZgJ [x0,x1]) _ _=_
 rw[Zqc]
 simp only[EVS]
 refine (congrArg (Zf true) (Z5 (R:=PV) l (fun _ c=> !Zjs c code) (some (pB true)) (some (pB false)) _ hl (fun again k s hb=> ?_) (fun again=> ?_))).trans ?_
 ·have hk:=Zg hb
  have hi:Zo (.lst (l.map PV.str)) (.int .i64 (k:Int))=some (.str s):=Zn hb
  have hh:=hc s (List.mem_of_getElem? hb)
  have g:=ZpM s code hh.1 hh.2
  simp only[Zam hk,Zl hk hl,hi,g,EVS]
  obtain c1|c1:=(Bool.eq_false_or_eq_true (Zjs s code)).symm<;>simp only[c1,EVS]
 ·simp only[ZaI,EVS]
 ·unfold inP
  cases ZR (fun _ c=> !Zjs c code) 0 l<;>simp only[EVS]
theorem ZpN (l:List (List UInt8)) (code:List UInt8) (hl:Zx l) (hc:∀c∈l,Zx c∧c.length≤code.length):Zfu [.lst (l.map PV.str),.str code]=some (pB (inP l code)):=by
 have g0:ZH [.lst (l.map PV.str),.tup [.agg [.str code]]]=some (pI (ixf (fun c:List UInt8=>Zjs c code) 0 l)):=by
  unfold Zx at hl
  show (fun x0 x1=>ZH [x0,x1]) _ _=_
  rw[ZbL]
  simp only[EVS]
  refine (congrArg (Zf true) (Zdu l (fun c:List UInt8=>Zjs c code) _ hl (fun again k a hb=> ?_) (fun again=> ?_))).trans ?_
  ·have hk:=Zg hb
   have hi:Zo (.lst (l.map PV.str)) (.int .i64 (k:Int))=some (.str a):=Zn hb
   have hh:=hc a (List.mem_of_getElem? hb)
   have g:ZdC [.str a,.agg [.str code]]=some (pB (Zjs a code)):=by
    show (fun x0 x1=>ZdC [x0,x1]) _ _=_
    rw[ZlO]
    simp only[ZmQ a code hh.1 hh.2,EVS]
   simp only[Zam hk,Zl hk hl,hi,ZkM,List.cons_append,List.nil_append,g,EVS]
  ·simp only[ZaI,EVS]
   rfl
  ·simp only[EVS]
 have g1:ZB [.lst (l.map PV.str),.tup [.agg [.str code]]]=some (pB (inP l code)):=by
  show (fun x0 x1=>ZB [x0,x1]) _ _=_
  rw[Zbi]
  simp only[g0,inP,Zeu (fun c:List UInt8=>Zjs c code) l 0,EVS]
 show (fun x0 x1=>Zfu [x0,x1]) _ _=_
 rw[ZoL]
 simp only[ZfT,List.drop_zero,g1,EVS]
def ZpO (l:List (Int×Bool)) (s:List UInt8):Prop:=∀p∈l,0≤p.1∧p.1<s.length
theorem Zby (l:List (Int×Bool)) (s:List UInt8) (hl:Zx l) (hp:ZpO l s):ZE [.lst (l.map Zap),.tup [.agg [.str s]]]=some (pB (!ZR (fun _ p=>ZcG p s) 0 l)):=by
 have g0:ZJ [.lst (l.map Zap),.tup [.agg [.str s]]]=some (pI (ixf (fun p:Int×Bool=> !ZcG p s) 0 l)):=by
  unfold Zx at hl
  show (fun x0 x1=>ZJ [x0,x1]) _ _=_
  rw[ZbR]
  simp only[EVS]
  refine (congrArg (Zf true) (Zdu l (fun p:Int×Bool=> !ZcG p s) _ hl (fun again k a hb=> ?_) (fun again=> ?_))).trans ?_
  ·have hk:=Zg hb
   have hi:Zo (.lst (l.map Zap)) (.int .i64 (k:Int))=some (Zap a):=Zn hb
   have hh:=hp a (List.mem_of_getElem? hb)
   have g:=Zdv a s hh.1 hh.2
   simp only[Zap] at g
   have g':ZcV [Zap a,.agg [.str s]]=some (pB (!ZcG a s)):=by
    show (fun x0 x1=>ZcV [x0,x1]) _ _=_
    rw[ZjG]
    simp only[Zap,g,EVS]
   simp only[Zap] at g'
   simp only[Zam hk,Zl hk hl,hi,Zap,ZkM,List.cons_append,List.nil_append,g',EVS]
  ·simp only[ZaI,EVS]
   rfl
  ·simp only[EVS]
 show (fun x0 x1=>ZE [x0,x1]) _ _=_
 rw[Zbt]
 simp only[g0,Zeu (fun p:Int×Bool=> !ZcG p s) l 0,Bool.not_not,EVS]
theorem Zbz (l:List (Int×Bool)) (s:List UInt8) (hl:Zx l) (hp:ZpO l s):ZF [.lst (l.map Zap),.tup [.agg [.str s]]]=some (pB (!ZR (fun _ p=> !ZcG p s) 0 l)):=by
 have g0:ZK [.lst (l.map Zap),.tup [.agg [.str s]]]=some (pI (ixf (fun p:Int×Bool=>ZcG p s) 0 l)):=by
  unfold Zx at hl
  show (fun x0 x1=>ZK [x0,x1]) _ _=_
  rw[ZbT]
  simp only[EVS]
  refine (congrArg (Zf true) (Zdu l (fun p:Int×Bool=>ZcG p s) _ hl (fun again k a hb=> ?_) (fun again=> ?_))).trans ?_
  ·have hk:=Zg hb
   have hi:Zo (.lst (l.map Zap)) (.int .i64 (k:Int))=some (Zap a):=Zn hb
   have hh:=hp a (List.mem_of_getElem? hb)
   have g:=Zdv a s hh.1 hh.2
   simp only[Zap] at g
   have g':ZcW [Zap a,.agg [.str s]]=some (pB (ZcG a s)):=by
    show (fun x0 x1=>ZcW [x0,x1]) _ _=_
    rw[ZjI]
    simp only[Zap,g,EVS]
   simp only[Zap] at g'
   simp only[Zam hk,Zl hk hl,hi,Zap,ZkM,List.cons_append,List.nil_append,g',EVS]
  ·simp only[ZaI,EVS]
   rfl
  ·simp only[EVS]
 show (fun x0 x1=>ZF [x0,x1]) _ _=_
 rw[Zbv]
 simp only[g0,Zeu (fun p:Int×Bool=>ZcG p s) l 0,EVS]
def Zjt (s:List UInt8) (k:Nat):Bool:=match s[k]? with|some b=>decide ((b.toNat:Int)=49)|none=>false
def ZqV (n:PNet) (s:List UInt8) (k:Nat) (w:PWire):Bool:=
 if decide (w.kind=5)=true then inP w.cover (s.take n.signals.length)
 else if decide (w.kind=4)=true then (match w.ins with|[p,q]=>if (ZcG p s !=ZcG q s)=true then ZcG p s else Zjt s k|_=>Zjt s k)
 else Zjt s k
def Zid (n:PNet) (s:List UInt8) (k:Nat) (w:PWire):Bool:=
 if decide (w.kind=2)=true then ZR (fun _ p=>ZcG p s) 0 w.ins
 else if decide (w.kind=3)=true then !ZR (fun _ p=> !ZcG p s) 0 w.ins
 else ZqV n s k w
theorem ZkP (s:List UInt8) (k:Nat) (h:k≤s.length):ZfG (.str s) none (some (pI (k:Int)))=some (.str (s.take k)):=by
 have:(0:Int)≤(k:Int)∧(k:Int)≤(s.length:Int):=by omega
 simp[ZfG,ZiB,Zmm,this]
structure At (n:PNet) (s:List UInt8) (k:Nat) (w:PWire):Prop where
 fit:n.Fit
 here:n.wires[k]?=some w
 wire:w.Fit
 fits:Zx s
 lt:k<s.length
 sig:n.signals.length≤s.length
 pins:ZpO w.ins s
 cubes:w.kind=5→∀c∈w.cover,c.length≤n.signals.length
 two:w.kind=4→w.ins.length=2
theorem loop3 {l:List (Int×Bool)} (s:List UInt8) (E:Bool→Bool→Bool) (f:(List PV→Option PV)→List PV→Option PV) (hl:l.length≤9223372036854775807)
 (h1:∀again (a b:Bool) (k:Nat) x,l[k]?=some x→f again [pB a,pB b,pI (k:Int)]=again [pB (a&&ZcG x s),pB (b||ZcG x s),pI ((k+1:Nat):Int)])
 (h2:∀again (a b:Bool) (k:Nat),¬k<l.length→f again [pB a,pB b,pI (k:Int)]=some (pB (E a b))):
 ZA f 18446744073709551616 [pB true,pB false,pI (0:Int)]=some (pB (E (ZR (fun _ p=>ZcG p s) 0 l) (!ZR (fun _ p=> !ZcG p s) 0 l))):=by
 have key:=Zdh (R:=PV) (fun t:Bool×Bool×Nat=>[pB t.1,pB t.2.1,pI (t.2.2:Int)]) (fun t=>l.length+1 - t.2.2) (fun t=>some (pB (E (t.1&&(l.drop t.2.2).all fun p=>ZcG p s) (t.2.1|| !(l.drop t.2.2).all fun p=> !ZcG p s)))) f (fun again t ih=> ?_) 18446744073709551616 (true,false,0) (by simp only;omega)
 ·simp only[Bool.true_and,Bool.false_or,List.drop_zero] at key
  rw[Zar,Zar]
  exact key
 ·obtain ⟨a,b,k⟩:=t
  dsimp only at ih⊢
  by_cases hk:k<l.length
  ·have hx:l[k]?=some l[k]:=List.getElem?_eq_getElem hk
   rw[h1 again a b k _ hx,ih (_,_,k+1) (by simp only;omega),List.drop_eq_getElem_cons hk]
   simp only[List.all_cons,Bool.and_assoc]
   cases ZcG l[k] s<;>simp
  ·rw[h2 again a b k hk,List.drop_eq_nil_of_le (by omega)]
   simp
theorem Zol (n:PNet) (s:List UInt8) (k:Nat) (w:PWire) (h:At n s k w):Zej [Zak n,.str s,pI k]=some (pB (Zid n s k w)):=by
 have hi:Zo (.lst (n.wires.map Zac)) (.int .i64 (k:Int))=some (Zac w):=Zn h.here
 have hil:=h.wire.ins
 unfold Zx at hil
 show (fun x0 x1 x2=>Zej [x0,x1,x2]) _ _ _=_
 rw[Zni]
 simp only[Zak,hi,Zac,EVS]
 refine (congrArg (Zf true) (loop3 (l:=w.ins) s (fun a b=>if decide (w.kind=2)=true then a else if decide (w.kind=3)=true then b else ZqV n s k w) _ hil (fun again a b j p hb=> ?_) (fun again a b j hj=> ?_))).trans ?_
 ·have hk:=Zg hb
  have hi2:Zo (.lst (w.ins.map Zap)) (.int .i64 (j:Int))=some (Zap p):=Zn hb
  have hp:=h.pins p (List.mem_of_getElem? hb)
  have g:=Zhq p s hp.1 hp.2
  simp only[Zap] at g
  simp only[Zam hk,Zl hk hil,hi2,Zap,g,EVS]
  cases a<;>cases b<;>simp only[EVS]
 ·have hlt:decide ((j:Int)<(w.ins.length:Int))=false:=by simp;omega
  simp only[hlt,EVS]
  obtain c1|c1:=(Bool.eq_false_or_eq_true (decide (w.kind=2))).symm<;>simp only[c1,EVS]
  obtain c2|c2:=(Bool.eq_false_or_eq_true (decide (w.kind=3))).symm<;>simp only[c2,EVS]
  have hone:Zjt s k=decide ((s[k]'h.lt).toNat=(49:Int)):=by unfold Zjt;rw[List.getElem?_eq_getElem h.lt]
  have hbv:Zaf (.str s) (.int .i64 (k:Int))=some (pU (s[k]'h.lt)):=Zr (List.getElem?_eq_getElem h.lt)
  unfold ZqV
  obtain c5|c5:=(Bool.eq_false_or_eq_true (decide (w.kind=5))).symm<;>simp only[c5,EVS]
  ·obtain c4|c4:=(Bool.eq_false_or_eq_true (decide (w.kind=4))).symm<;>simp only[c4,Zdi,hbv,hone,EVS]
   have h2:=h.two (of_decide_eq_true c4)
   have hpins:=h.pins
   revert h2 hpins
   rcases w.ins with _|⟨p,_|⟨q,_|⟨r,t⟩⟩⟩
   ·intro h2;simp at h2
   ·intro h2;simp at h2
   ·intro _ hpins
    have i0:Zo (.lst ([p,q].map Zap)) (.int .i64 0)=some (Zap p):=rfl
    have i1:Zo (.lst ([p,q].map Zap)) (.int .i64 1)=some (Zap q):=rfl
    have hp:=hpins p (by simp)
    have hq:=hpins q (by simp)
    have g1:=Zhq p s hp.1 hp.2
    have g2:=Zhq q s hq.1 hq.2
    simp only[Zap] at g1 g2
    simp only[i0,i1,Zap,g1,g2,EVS]
    cases ZcG p s<;>cases ZcG q s<;>simp[bne,hbv,Zqn]
   ·intro h2;simp at h2
  ·have hc:=ZrD w.cover (s.take n.signals.length) h.wire.cover (fun c hc=>⟨h.wire.cubes c hc,by have:=h.cubes (of_decide_eq_true c5) c hc;have:=h.sig;simp;omega⟩)
   simp only[ZkP s _ h.sig,hc,EVS]
 ·simp only[Zid,EVS]
theorem ZmR (n:PNet) (s:List UInt8) (k:Nat) (w:PWire) (h:At n s k w):ZdD [Zak n,.str s,pI k]=some (pB (Zid n s k w)):=by
 have hi:Zo (.lst (n.wires.map Zac)) (.int .i64 (k:Int))=some (Zac w):=Zn h.here
 have g2:=Zby w.ins s h.wire.ins h.pins
 have g3:=Zbz w.ins s h.wire.ins h.pins
 have hone:Zjt s k=decide ((s[k]'h.lt).toNat=(49:Int)):=by unfold Zjt;rw[List.getElem?_eq_getElem h.lt]
 have hbv:Zaf (.str s) (.int .i64 (k:Int))=some (pU (s[k]'h.lt)):=Zr (List.getElem?_eq_getElem h.lt)
 show (fun x0 x1 x2=>ZdD [x0,x1,x2]) _ _ _=_
 rw[ZlQ]
 simp only[Zak,hi,Zac,EVS]
 unfold Zid
 obtain c2|c2:=(Bool.eq_false_or_eq_true (decide (w.kind=2))).symm<;>simp only[c2,ZfT,List.drop_zero,g2,Bool.not_not,EVS]
 obtain c3|c3:=(Bool.eq_false_or_eq_true (decide (w.kind=3))).symm<;>simp only[c3,ZfT,List.drop_zero,g3,Bool.not_not,EVS]
 unfold ZqV
 obtain c4|c4:=(Bool.eq_false_or_eq_true (decide (w.kind=4))).symm<;>simp only[c4,Zdi,EVS]
 ·obtain c5|c5:=(Bool.eq_false_or_eq_true (decide (w.kind=5))).symm<;>simp only[c5,hbv,hone,EVS]
  have hc:=ZpN w.cover (s.take n.signals.length) h.wire.cover (fun c hc=>⟨h.wire.cubes c hc,by have:=h.cubes (of_decide_eq_true c5) c hc;have:=h.sig;simp;omega⟩)
  simp only[ZkP s _ h.sig,hc,EVS]
 ·have c5:decide (w.kind=5)=false:=by have:=of_decide_eq_true c4;simp;omega
  have h2:=h.two (of_decide_eq_true c4)
  have hpins:=h.pins
  simp only[c5,hone,EVS]
  revert h2 hpins
  rcases w.ins with _|⟨p,_|⟨q,_|⟨r,t⟩⟩⟩
  ·intro h2;simp at h2
  ·intro h2;simp at h2
  ·intro _ hpins
   have i0:Zo (.lst ([p,q].map Zap)) (.int .i64 0)=some (Zap p):=rfl
   have i1:Zo (.lst ([p,q].map Zap)) (.int .i64 1)=some (Zap q):=rfl
   have hp:=hpins p (by simp)
   have hq:=hpins q (by simp)
   have g1:=Zdv p s hp.1 hp.2
   have g2:=Zdv q s hq.1 hq.2
   simp only[Zap] at g1 g2
   simp only[i0,i1,Zap,g1,g2,EVS]
   cases ZcG p s<;>cases ZcG q s<;>simp[bne,hbv,Zqn,Zmk]
  ·intro h2;simp at h2
theorem Zie {α:Type} (q:Nat→α→Bool):∀(l:List α) (j:Nat),ZR q j l=true→∀(i:Nat) (x:α),l[i]?=some x→q (j+i) x=true
 |[],j,_,i,x,hx=>by simp at hx
 | y::r,j,h,i,x,hx=>by
  unfold ZR at h
  rw[Bool.and_eq_true] at h
  cases i with
  |zero=>simp at hx;subst hx;simpa using h.1
  | succ i=>
   have:=Zie q r (j+1) h.2 i x (by simpa using hx)
   rw[show j+(i+1)=j+1+i by omega]
   exact this
theorem ZkQ {α:Type} (q:α→Bool) {l:List α} (h:ZR (fun _ x=>q x) 0 l=true) {x:α} (hx:x∈l):q x=true:=by
 rw[Zar] at h
 exact List.all_eq_true.1 h x hx
def Zju (u:Bool):UInt8:=if u=true then 49 else 48
theorem ZiO (u:Bool):ZdK [pB u]=some (.str [Zju u]):=by
 show (fun x0=>ZdK [x0]) _=_
 rw[Zp3]
 cases u<;>simp only[EVS]<;>rfl
theorem ZtF (u:Bool):ZjV [pB u]=some (pU (Zju u)):=by
 show (fun x0=>ZjV [x0]) _=_
 rw[Zs9]
 cases u<;>simp only[EVS]<;>rfl
theorem ZtG {α:Type} (c:List α) (i:Nat) (b:α) (h:i<c.length):c.take i++[b]++c.drop (i+1)=c.set i b:=by
 rw[List.set_eq_take_append_cons_drop,if_pos h,List.append_assoc]
 rfl
theorem ZiP (c:List UInt8) (i:Nat) (b:UInt8) (h:i<c.length) (hc:Zx c):ZdL [.str c,pI i,.str [b]]=some (.str (c.set i b)):=by
 unfold Zx at hc
 have h1:ZfG (.str c) none (some (.int .i64 (i:Int)))=some (.str (c.take i)):=Ziw (by omega)
 have h2:ZfG (.str c) (some (.int .i64 ((i+1:Nat):Int))) none=some (.str (c.drop (i+1))):=Zrc (by omega)
 show (fun x0 x1 x2=>ZdL [x0,x1,x2]) _ _ _=_
 rw[Zp4]
 have h3:Ze .add TD.str (.str (c.take i)) (.str [b])=some (.str (c.take i++[b])):=Zsq (by simp;omega)
 have h4:Ze .add TD.str (.str (c.take i++[b])) (.str (c.drop (i+1)))=some (.str (c.take i++[b]++c.drop (i+1))):=Zsq (by simp;omega)
 simp only[h1,Zl h hc,h2,h3,h4,ZtG c i b h,EVS]
theorem ZeK {s:List UInt8} {n:Nat}:Zao s n=true↔(∀b∈s,ZfJ b=true)∧s.length=n:=by
 unfold Zao
 rw[Zar,Bool.and_eq_true,List.all_eq_true,decide_eq_true_eq]
 constructor
 ·rintro ⟨h1,h2⟩;exact ⟨h1,by omega⟩
 ·rintro ⟨h1,h2⟩;exact ⟨h1,by omega⟩
theorem Zs1 (b:UInt8):ZfJ b=true↔b=48∨b=49:=by
 unfold ZfJ
 rw[Bool.or_eq_true,decide_eq_true_eq,decide_eq_true_eq]
 have h48:(48:UInt8).toNat=48:=rfl
 have h49:(49:UInt8).toNat=49:=rfl
 constructor
 ·rintro (h|h)
  ·exact .inl (UInt8.toNat_inj.1 (by omega))
  ·exact .inr (UInt8.toNat_inj.1 (by omega))
 ·rintro (rfl|rfl)
  ·exact .inl rfl
  ·exact .inr rfl
theorem at_of (n:PNet) (s:List UInt8) (k:Nat) (hn:n.Fit) (hs:Zx s) (hv:Ze7 n s=true) (hk:k<n.wires.length):At n s k n.wires[k]:=by
 unfold Ze7 ZfI Zao at hv
 simp only[Bool.and_eq_true,decide_eq_true_eq,Bool.not_eq_true',decide_eq_false_iff_not] at hv
 obtain ⟨⟨⟨h1,h2,h3⟩,h4⟩,h5,h6⟩:=hv
 have hx:n.wires[k]?=some n.wires[k]:=List.getElem?_eq_getElem hk
 have hw:=Zie _ _ _ h4 k _ hx
 rw[Nat.zero_add] at hw
 unfold Zb6 ZkJ Zog at hw
 simp only[Bool.and_eq_true] at hw
 obtain ⟨⟨⟨⟨hkd,_⟩,hcov⟩,_,hpins,hform⟩,_⟩:=hw
 refine ⟨hn,hx,hn.wire _ (List.getElem_mem hk),hs,by omega,by omega,fun p hp=> ?_,fun hk5 c hc=> ?_,fun hk4=> ?_⟩
 ·have:=ZkQ (fun p=>Zg4 n k p) hpins hp
  unfold Zg4 inR at this
  simp only[Bool.and_eq_true,decide_eq_true_eq] at this
  omega
 ·rw[if_pos (by simp[hk5])] at hcov
  unfold ZkI ZjU at hcov
  simp only[Bool.and_eq_true] at hcov
  have:=ZkQ (fun c=>Zic c&&decide ((c.length:Int)=n.signals.length)) hcov.1 hc
  simp only[Bool.and_eq_true,decide_eq_true_eq] at this
  omega
 ·unfold Zd8 at hform
  rw[if_neg (by simp[hk4]),if_pos (by simp[hk4])] at hform
  simp only[decide_eq_true_eq] at hform
  omega
theorem ZtH (s:List UInt8) (h:s.length≤9223372036854775807):ZlZ (.str s)=some (.lst (s.map pU)):=by
 unfold ZlZ
 simp only
 rw[if_pos h]
theorem ZmS {α:Type} (f:α→PV) (l:List α) (i:Nat) (x:α):(l.map f).set i (f x)=(l.set i x).map f:=by rw[List.map_set]
structure PArc where
 from_:Int
 sig:Int
 up:Bool
 to_:Int
structure PSG where
 signals:List (List UInt8×Int)
 codes:List (List UInt8)
 arcs:List PArc
def Zan (a:PArc):PV:=.agg [pI a.from_,pI a.sig,pB a.up,pI a.to_]
def eSG (c:PSG):PV:=.agg [.lst (c.signals.map Z6),.lst (c.codes.map PV.str),.lst (c.arcs.map Zan)]
structure SGFit (c:PSG):Prop where
 sigs:Zx c.signals
 names:∀s∈c.signals,Zx s.1
 codes:Zx c.codes
 each:∀x∈c.codes,Zx x
 arcs:Zx c.arcs
def Zd9 (n:Int) (sig:Int) (up:Bool):Bool:=inR sig 0 (n - 1)||(decide (sig= -1)&& !up)
theorem Zom (sig:Int) (up:Bool) (n:Nat) (hn:n≤9223372036854775807):Zed [.agg [pI sig,pB up],pI n]=some (pB (Zd9 n sig up)):=by
 have g:=ZaO sig 0 ((n:Int) - 1)
 have gi:inR sig 0 ((n:Int) - 1)=(decide ((0:Int)≤sig)&&decide (sig≤(n:Int) - 1)):=rfl
 rw[←gi] at g
 have hw:IntKind.i64.wrap ((n:Int) - 1)=(n:Int) - 1:=Zdc (by omega) (by omega)
 show (fun x0 x1=>Zed [x0,x1]) _ _=_
 rw[Zm6]
 unfold Zd9
 simp only[hw,g,EVS]
 cases inR sig 0 ((n:Int) - 1)<;>simp only[EVS]
 rw[show Int.negSucc 0=(-1:Int) from rfl]
 cases decide (sig= -1)<;>simp only[EVS]
theorem ZpP (sig:Int) (up:Bool) (n:Nat) (hn:n≤9223372036854775807):Zfd [.agg [pI sig,pB up],pI n]=some (pB (Zd9 n sig up)):=by
 have g:=Zaq sig 0 ((n:Int) - 1)
 have hw:IntKind.i64.wrap ((n:Int) - 1)=(n:Int) - 1:=Zdc (by omega) (by omega)
 have he:eqV (some [(0,TD.int IntKind.i64),(1,TD.bool)]) TD.struct (.agg [pI sig,pB up]) (.agg [pI (-1),pB false])=some (decide (sig= -1)&& !up):=by
  rw[eqPin];cases up<;>rfl
 show (fun x0 x1=>Zfd [x0,x1]) _ _=_
 rw[Zoy]
 unfold Zd9
 simp only[hw,g,EVS]
 cases inR sig 0 ((n:Int) - 1)<;>simp only[EVS]
 rw[show Int.negSucc 0=(-1:Int) from rfl]
 have hsp:splice [ZC.pv (.int .i64),ZC.pv .bool] 0 [pI (-1)]=[pI (-1),pB false]:=rfl
 simp only[hsp,he,EVS]
def Zif (sig:Int) (up:Bool) (x y:List UInt8):Bool:=
 if decide (sig<0)=true then decide (x=y) else decide (x=y.set sig.toNat (Zju (!up)))&&decide (y=x.set sig.toNat (Zju up))
def Zg5 (sig:Int) (up:Bool) (y:List UInt8) (k:Nat) (b:UInt8):Bool:=
 if decide ((k:Int)=sig)=true then !(decide ((b.toNat:Int)=49)==up)&&decide (((y.getD k 0).toNat:Int)=49)==up else decide ((b.toNat:Int)=(y.getD k 0).toNat)
theorem ZpQ :(false==false)=true:=rfl
theorem ZpR :(false==true)=false:=rfl
theorem ZpS :(true==false)=false:=rfl
theorem ZpT :(true==true)=true:=rfl
theorem bbn (a b:Bool):Ze .neq TD.bool (.bool a) (.bool b)=some (.bool (!(a==b))):=rfl
theorem Zlz (a:PArc) (x y:List UInt8) (hx:Zx x) (hl:y.length=x.length):Zdd [Zan a,.str x,.str y]=some (pB (ZR (Zg5 a.sig a.up y) 0 x)):=by
 unfold Zx at hx
 show (fun x0 x1 x2=>Zdd [x0,x1,x2]) _ _ _=_
 rw[Zla]
 simp only[Zan,EVS]
 refine (congrArg (fun m:Option PV=>m.bind fun r=>if r.sc=true then some r else none) (Z5 (R:=PV) x (Zg5 a.sig a.up y) (some (pB false)) (some (pB true)) _ hx (fun again k b hb=> ?_) (fun again=> ?_))).trans ?_
 ·have hk:=Zg hb
  have hy:y[k]?=some (y.getD k 0):=by rw[List.getD_eq_getElem?_getD,List.getElem?_eq_getElem (by omega)];rfl
  have b1:=Zr (k:=.i64) hb
  have b2:=Zr (k:=.i64) hy
  unfold Zg5
  simp only[Zam hk,Zl hk hx,b1,b2,EVS]
  cases c1:decide ((k:Int)=a.sig)
  ·simp only[c1,Zam hk,Zl hk hx,b1,b2,EVS]
   cases decide ((b.toNat:Int)=(y.getD k 0).toNat)<;>simp only[EVS]
  ·simp only[c1,Zam hk,Zl hk hx,b1,b2,EVS]
   cases decide ((b.toNat:Int)=49)<;>cases c3:decide (((y.getD k 0).toNat:Int)=49)<;>cases a.up<;>first|rfl|(simp only[ZpQ,ZpR,ZpS,ZpT,b1,b2,EVS];done)|(simp only[ZpQ,ZpR,ZpS,ZpT,b1,b2,EVS];rfl)|(simp only[ZpQ,ZpR,ZpS,ZpT,bbn,b1,b2,c3,EVS];done)
 ·simp only[ZaI,EVS]
 ·cases ZR (Zg5 a.sig a.up y) 0 x<;>simp only[EVS]<;>rfl
theorem ZkR {α:Type} (q:Nat→α→Bool):∀(l:List α) (j:Nat),ZR q j l=true↔∀(i:Nat) (x:α),l[i]?=some x→q (j+i) x=true
 |[],j=>by simp[ZR]
 | y::r,j=>by
  refine ⟨fun h=>Zie q (y::r) j h,fun h=> ?_⟩
  unfold ZR
  rw[Bool.and_eq_true]
  refine ⟨by simpa using h 0 y rfl,(ZkR q r (j+1)).2 fun i x hx=> ?_⟩
  have:=h (i+1) x (by simpa using hx)
  rw[show j+(i+1)=j+1+i by omega] at this
  exact this
theorem ZqW {b:UInt8} (h:ZfJ b=true):b=Zju (decide ((b.toNat:Int)=49)):=by
 unfold ZfJ at h
 simp only[Bool.or_eq_true,decide_eq_true_eq,Bool.and_eq_true,Bool.not_eq_true',decide_eq_false_iff_not] at h
 by_cases c:(b.toNat:Int)=49
 ·simp only[c,decide_true]
  apply UInt8.toNat_inj.1
  show b.toNat=49
  omega
 ·simp only[c,decide_false]
  apply UInt8.toNat_inj.1
  show b.toNat=48
  omega
theorem ZqX {x:List UInt8} {n:Int} (h:Zao x n=true) {i:Nat} {b:UInt8} (hi:x[i]?=some b):ZfJ b=true:=by
 unfold Zao at h
 rw[Bool.and_eq_true] at h
 exact ZkQ ZfJ h.1 (List.mem_of_getElem? hi)
theorem ZeL {x:List UInt8} {n:Nat} (h:Zao x n=true):x.length=n:=by
 unfold Zao at h
 rw[Bool.and_eq_true,decide_eq_true_eq] at h
 omega
theorem ZmT {a b:UInt8}:(a.toNat:Int)=b.toNat↔a=b:=by
 rw[Int.ofNat_inj,UInt8.toNat_inj]
theorem ZtI (sig:Int) (up:Bool) (x y:List UInt8) (n:Nat) (hx:Zao x n=true) (hy:Zao y n=true) (he:Zd9 n sig up=true):ZR (Zg5 sig up y) 0 x=Zif sig up x y:=by
 have lx:=ZeL hx
 have ly:=ZeL hy
 rw[Bool.eq_iff_iff,ZkR]
 unfold Zd9 inR at he
 simp only[Bool.or_eq_true,Bool.and_eq_true,decide_eq_true_eq,Bool.not_eq_true'] at he
 have gy:∀i b,x[i]?=some b→y[i]?=some (y.getD i 0):=fun i b hb=>by
  have:=(List.getElem?_eq_some_iff.1 hb).1
  rw[List.getD_eq_getElem?_getD,List.getElem?_eq_getElem (by omega)];rfl
 unfold Zif
 by_cases c:sig<0
 ·simp only[c,decide_true,if_true,decide_eq_true_eq]
  constructor
  ·intro h
   apply List.ext_getElem (by omega)
   intro i h1 h2
   have:=h i x[i] (List.getElem?_eq_getElem h1)
   unfold Zg5 at this
   have d:decide (((0+i:Nat):Int)=sig)=false:=by simp only[decide_eq_false_iff_not];omega
   rw[d] at this
   simp only[Nat.zero_add,Bool.false_eq_true,if_false,decide_eq_true_eq,ZmT] at this
   rw[this,List.getD_eq_getElem?_getD,List.getElem?_eq_getElem h2];rfl
  ·rintro rfl i b hb
   unfold Zg5
   have d:decide (((0+i:Nat):Int)=sig)=false:=by simp only[decide_eq_false_iff_not];omega
   rw[d]
   simp only[Nat.zero_add,Bool.false_eq_true,if_false,decide_eq_true_eq,ZmT]
   rw[List.getD_eq_getElem?_getD,hb];rfl
 ·obtain ⟨s,rfl⟩:=Int.eq_ofNat_of_zero_le (show 0≤sig by omega)
  have hs:s<n:=by omega
  simp only[c,decide_false,Bool.false_eq_true,if_false,Bool.and_eq_true,decide_eq_true_eq,Int.toNat_natCast]
  have hxs:x[s]?=some (x[s]'(by omega)):=List.getElem?_eq_getElem _
  have hys:y[s]?=some (y[s]'(by omega)):=List.getElem?_eq_getElem _
  have gs:y.getD s 0=y[s]'(by omega):=by rw[List.getD_eq_getElem?_getD,hys];rfl
  constructor
  ·intro h
   have h0:=h s _ hxs
   unfold Zg5 at h0
   simp only[Nat.zero_add,decide_true,if_true,gs] at h0
   have bx:=ZqW (ZqX hx hxs)
   have by_:=ZqW (ZqX hy hys)
   have ho:∀i (h1:i<x.length) (h2:i<y.length),i≠s→x[i]=y[i]:=fun i h1 h2 hn=>by
    have:=h i x[i] (List.getElem?_eq_getElem h1)
    unfold Zg5 at this
    have d:decide (((0+i:Nat):Int)=(s:Int))=false:=by simp only[decide_eq_false_iff_not];omega
    rw[d] at this
    simp only[Nat.zero_add,Bool.false_eq_true,if_false,decide_eq_true_eq,ZmT] at this
    rw[this,List.getD_eq_getElem?_getD,List.getElem?_eq_getElem h2];rfl
   generalize decide (((x[s]'(by omega)).toNat:Int)=49)=p at h0 bx
   generalize decide (((y[s]'(by omega)).toNat:Int)=49)=q at h0 by_
   have hp:p= !up:=by revert h0;cases p<;>cases q<;>cases up<;>decide
   have hq:q=up:=by revert h0;cases p<;>cases q<;>cases up<;>decide
   refine ⟨List.ext_getElem (by simp;omega) fun i h1 h2=> ?_,List.ext_getElem (by simp;omega) fun i h1 h2=> ?_⟩
   ·rw[List.getElem_set]
    split
    ·rename_i e;subst e;rw[bx,hp]
    ·rename_i e;exact ho i h1 (by simpa using h2) (Ne.symm e)
   ·rw[List.getElem_set]
    split
    ·rename_i e;subst e;rw[by_,hq]
    ·rename_i e;exact (ho i (by simpa using h2) h1 (Ne.symm e)).symm
  ·rintro ⟨e1,e2⟩ i b hb
   unfold Zg5
   have hi:=(List.getElem?_eq_some_iff.1 hb).1
   by_cases cs:i=s
   ·subst cs
    simp only[Nat.zero_add,decide_true,if_true,gs]
    have hbx:x[i]?=some (Zju (!up)):=by rw[e1,List.getElem?_set];simp;omega
    have hby:y[i]?=some (Zju up):=by rw[e2,List.getElem?_set];simp;omega
    rw[hb] at hbx
    rw[hys] at hby
    rw[Option.some.inj hbx,Option.some.inj hby]
    cases up<;>decide
   ·have d:decide (((0+i:Nat):Int)=(s:Int))=false:=by simp only[decide_eq_false_iff_not];omega
    rw[d]
    simp only[Nat.zero_add,Bool.false_eq_true,if_false,decide_eq_true_eq,ZmT]
    have:y[i]?=x[i]?:=by
     conv=>lhs;rw[e2]
     rw[List.getElem?_set,if_neg (Ne.symm cs)]
    rw[List.getD_eq_getElem?_getD,this,hb];rfl
theorem ZkS (s u:PV):splice (splice [ZC.pv (.int .i64),ZC.pv .bool] 0 [s]) 1 [u]=[s,u]:=rfl
def Zb8 (n:Nat) (last:Int) (a:PArc):Bool:=(inR a.from_ 0 last&&inR a.to_ 0 last)&&Zd9 n a.sig a.up
def Zhr (c:PSG) (a:PArc):Bool:=Zb8 c.signals.length ((c.codes.length:Int) - 1) a&&Zif a.sig a.up (c.codes.getD a.from_.toNat []) (c.codes.getD a.to_.toNat [])
structure CodesP (c:PSG):Prop where
 one:1≤c.codes.length
 many:c.codes.length≤300
 bits:∀x∈c.codes,Zao x c.signals.length=true
 arcs:c.arcs.length≤4000
theorem ZkT {c:PSG} {a:PArc} (h:Zb8 c.signals.length ((c.codes.length:Int) - 1) a=true):∃f t x y,a.from_=((f:Nat):Int)∧a.to_=((t:Nat):Int)∧f<c.codes.length∧t<c.codes.length∧c.codes[f]?=some x∧c.codes[t]?=some y∧Zd9 c.signals.length a.sig a.up=true:=by
 unfold Zb8 inR at h
 simp only[Bool.and_eq_true,decide_eq_true_eq] at h
 obtain ⟨⟨⟨h1,h2⟩,h3,h4⟩,h5⟩:=h
 obtain ⟨f,hf⟩:=Int.eq_ofNat_of_zero_le h1
 obtain ⟨t,ht⟩:=Int.eq_ofNat_of_zero_le h3
 have l1:f<c.codes.length:=by omega
 have l2:t<c.codes.length:=by omega
 exact ⟨f,t,_,_,hf,ht,l1,l2,List.getElem?_eq_getElem l1,List.getElem?_eq_getElem l2,h5⟩
theorem ZrE (c:PSG) (a:PArc) (hc:SGFit c) (hp:CodesP c):ZgG [eSG c,Zan a]=some (pB (Zhr c a)):=by
 have hsl:=hc.sigs
 unfold Zx at hsl
 have hm:=hp.many
 have g1:=ZaO a.from_ 0 ((c.codes.length:Int) - 1)
 have g2:=ZaO a.to_ 0 ((c.codes.length:Int) - 1)
 have gi:∀z:Int,inR z 0 ((c.codes.length:Int) - 1)=(decide ((0:Int)≤z)&&decide (z≤(c.codes.length:Int) - 1)):=fun _=>rfl
 rw[←gi] at g1 g2
 have g3:=Zom a.sig a.up c.signals.length hsl
 have hw:IntKind.i64.wrap ((c.codes.length:Int) - 1)=(c.codes.length:Int) - 1:=Zdc (by omega) (by omega)
 show (fun x0 x1=>ZgG [x0,x1]) _ _=_
 rw[Zp6]
 unfold Zhr
 cases hg:Zb8 c.signals.length ((c.codes.length:Int) - 1) a
 ·unfold Zb8 at hg
  cases c1:inR a.from_ 0 ((c.codes.length:Int) - 1)
  ·simp only[eSG,Zan,List.length_map,hw,g1,c1,EVS]
  cases c2:inR a.to_ 0 ((c.codes.length:Int) - 1)
  ·simp only[eSG,Zan,List.length_map,hw,g1,g2,c1,c2,EVS]
  cases c3:Zd9 c.signals.length a.sig a.up
  ·simp only[eSG,Zan,List.length_map,hw,g1,g2,g3,c1,c2,c3,ZkS,EVS]
  ·rw[c1,c2,c3] at hg;cases hg
 ·obtain ⟨f,t,x,y,hf,ht,l1,l2,hx,hy,he⟩:=ZkT hg
  unfold Zb8 at hg
  simp only[Bool.and_eq_true] at hg
  have bx:=hp.bits x (List.mem_of_getElem? hx)
  have by_:=hp.bits y (List.mem_of_getElem? hy)
  have i1:Zo (.lst (c.codes.map PV.str)) (.int .i64 (f:Int))=some (.str x):=Zn hx
  have i2:Zo (.lst (c.codes.map PV.str)) (.int .i64 (t:Int))=some (.str y):=Zn hy
  have e1:c.codes.getD f []=x:=by rw[List.getD_eq_getElem?_getD,hx];rfl
  have e2:c.codes.getD t []=y:=by rw[List.getD_eq_getElem?_getD,hy];rfl
  have c1:=hg.1.1
  have c2:=hg.1.2
  simp only[hf] at g1 c1
  simp only[ht] at g2 c2
  rw[hf,ht,Int.toNat_natCast,Int.toNat_natCast,e1,e2]
  unfold Zif
  have lx:=ZeL bx
  have ly:=ZeL by_
  by_cases cs:a.sig<0
  ·have d:decide (a.sig<0)=true:=by simpa using cs
   simp only[eSG,Zan,hf,ht,List.length_map,hw,g1,g2,g3,c1,c2,he,ZkS,i1,i2,d,EVS]
  ·have d:decide (a.sig<0)=false:=by simpa using cs
   obtain ⟨s,hs⟩:=Int.eq_ofNat_of_zero_le (show 0≤a.sig by omega)
   have hsn:s<c.signals.length:=by
    unfold Zd9 inR at he
    simp only[Bool.or_eq_true,Bool.and_eq_true,decide_eq_true_eq] at he
    omega
   have s1:=ZiP y s (Zju (!a.up)) (by omega) (hc.each y (List.mem_of_getElem? hy))
   have s2:=ZiP x s (Zju a.up) (by omega) (hc.each x (List.mem_of_getElem? hx))
   have b1:=ZiO (!a.up)
   have b2:=ZiO a.up
   rw[hs] at d g3 he
   simp only[eSG,Zan,hf,ht,hs,List.length_map,hw,g1,g2,g3,c1,c2,he,ZkS,i1,i2,d,s1,b1,Int.toNat_natCast,Bool.false_eq_true,if_false,EVS]
   cases c4:decide (x=y.set s (Zju (!a.up)))
   ·simp only[EVS]
   ·simp only[s2,b2,EVS]
def ZkU (c:PSG):List (Nat×Nat):=c.arcs.map fun a=>(a.from_.toNat,a.to_.toNat)
def ZkV (n:Nat) (l:List PArc):Prop:=∀a∈l,inR a.from_ 0 ((n:Int) - 1)=true∧inR a.to_ 0 ((n:Int) - 1)=true
theorem ZiQ {n:Nat} {l:List PArc} (h:ZkV n l) {a:PArc} (ha:a∈l):∃f t:Nat,a.from_=f∧a.to_=t∧f<n∧t<n:=by
 obtain ⟨h1,h2⟩:=h a ha
 unfold inR at h1 h2
 simp only[Bool.and_eq_true,decide_eq_true_eq] at h1 h2
 obtain ⟨f,hf⟩:=Int.eq_ofNat_of_zero_le h1.1
 obtain ⟨t,ht⟩:=Int.eq_ofNat_of_zero_le h2.1
 exact ⟨f,t,hf,ht,by omega,by omega⟩
theorem Zjg :∀(r:List (Nat×Nat)) (m:List Bool),(ZdF r m).length=m.length
 |[],_=>rfl
 | e::r,m=>by
  unfold ZdF
  rw[Zjg r]
  split<;>simp
theorem se_b (a b:Bool):Zbn 0 1 [.bool a] (.bool a) (.bool b)=some (.bool b):=rfl
theorem ZqY {R:Type} (e:List Bool→Option R):∀(l:List PArc) (k:Nat) (m:List Bool),Zcd (fun (m:List Bool) (_:Nat) (a:PArc)=>.inl (if m.getD a.from_.toNat false=true then m.set a.to_.toNat true else m)) e k m l=e (ZdF (l.map fun a=>(a.from_.toNat,a.to_.toNat)) m)
 |[],k,m=>rfl
 |a::l,k,m=>ZqY e l (k+1) _
theorem Zma {R:Type} (es:List (Nat×Nat)) (e:List Bool→Option R):∀(l:List (List UInt8)) (k:Nat) (m:List Bool),Zcd (fun (m:List Bool) (_:Nat) (_:List UInt8)=>.inl (ZdF es m)) e k m l=e (metG es l.length m)
 |[],k,m=>rfl
 |a::l,k,m=>Zma es e l (k+1) _
theorem ZrF (c:PSG) (hc:SGFit c) (hp:CodesP c) (ha:ZkV c.codes.length c.arcs):ZgH [eSG c]=some (pB ((Zqd c.codes.length (ZkU c) 0).all id)):=by
 have h1:=hp.one
 have h2:=hp.many
 have h3:=hp.arcs
 have hmk:=mk_v (TI.mk 1 1 TD.bool [ZC.bool] [] false) c.codes.length (by omega)
 have hz:ZbF (TI.mk 1 1 TD.bool [ZC.bool] [] false)=.bool false:=rfl
 rw[hz] at hmk
 have hp0:ZfH (List.replicate c.codes.length (PV.bool false)) (.int .i64 ((0:Nat):Int))=some (.int .i64 ((0:Nat):Int)):=Zj4 (by simp;omega)
 have hg0:(List.replicate c.codes.length (PV.bool false))[0]?=some (.bool false):=by rw[List.getElem?_replicate,if_pos (by omega)]
 have hs0:(List.replicate c.codes.length (PV.bool false)).set 0 (.bool true)=((List.replicate c.codes.length false).set 0 true).map PV.bool:=by rw[←ZmS,List.map_replicate]
 simp only[Int.natCast_zero] at hp0
 have ht0:Int.toNat 0=0:=rfl
 show (fun x0=>ZgH [x0]) _=_
 rw[Zp8]
 simp only[eSG,List.length_map,hmk,hp0,ht0,hg0,se_b,hs0,EVS]
 obtain ⟨m0,hm0⟩:∃m0,(List.replicate c.codes.length false).set 0 true=m0:=⟨_,rfl⟩
 have hl0:m0.length=c.codes.length:=by rw[←hm0];simp
 unfold Zqd
 rw[hm0]
 refine (congrArg (fun m:Option PV=>m.bind fun r=>if r.sc=true then some r else none) ((ZfV (R:=PV) c.codes (fun (m:List Bool) k=>[.lst (m.map PV.bool),pI (Int.ofNat k)]) (fun _ m=>m.length=c.codes.length) (fun (m:List Bool) _ _=>.inl (ZdF (ZkU c) m)) (fun m=>some (pB (m.all id))) _ (by omega) (fun m k x m' hm hx he=> ?_) (fun again m k x hm hx=> ?_) (fun again m hm=> ?_) hl0).trans (Zma _ _ _ _ _))).trans ?_
 ·cases he;rw[Zjg];exact hm
 ·have hk:=Zg hx
  simp only[Zam hk,EVS]
  refine (ZfV (R:=PV) c.arcs (fun (m:List Bool) k=>[.lst (m.map PV.bool),pI (Int.ofNat k)]) (fun _ m=>m.length=c.codes.length) (fun (m:List Bool) _ a=>.inl (if m.getD a.from_.toNat false=true then m.set a.to_.toNat true else m)) (fun m=>again [.lst (m.map PV.bool),pI (Int.ofNat (k+1))]) _ (by omega) (fun m j a m' hm ha' he=> ?_) (fun again' m j a hm ha'=> ?_) (fun again' m hm=> ?_) hm).trans (ZqY _ _ _ _)
  ·cases he;split<;>simp[hm]
  ·have hj:=Zg ha'
   obtain ⟨f,t,hf,ht,l1,l2⟩:=ZiQ ha (List.mem_of_getElem? ha')
   have hi:Zo (.lst (c.arcs.map Zan)) (.int .i64 (j:Int))=some (Zan a):=Zn ha'
   have p1:ZfH (m.map PV.bool) (.int .i64 (f:Int))=some (.int .i64 (f:Int)):=Zj4 (by rw[List.length_map];omega)
   have p2:ZfH (m.map PV.bool) (.int .i64 (t:Int))=some (.int .i64 (t:Int)):=Zj4 (by rw[List.length_map];omega)
   have q1:(m.map PV.bool)[f]?=some (.bool (m.getD f false)):=by rw[List.getElem?_map,List.getD_eq_getElem?_getD,List.getElem?_eq_getElem (by omega)];rfl
   have q2:(m.map PV.bool)[t]?=some (.bool (m.getD t false)):=by rw[List.getElem?_map,List.getD_eq_getElem?_getD,List.getElem?_eq_getElem (by omega)];rfl
   have st:(m.map PV.bool).set t (.bool true)=(m.set t true).map PV.bool:=ZmS PV.bool m t true
   rw[hf,ht,Int.toNat_natCast,Int.toNat_natCast]
   cases hb:m.getD f false<;>simp only[Zam hj,Zl hj (show c.arcs.length≤9223372036854775807 by omega),hi,Zan,hf,ht,p1,p2,q1,q2,hb,se_b,st,Bool.false_eq_true,if_false,if_true,EVS]
  ·simp only[ZaI,Zl hk (show c.codes.length≤9223372036854775807 by omega),EVS]
 ·simp only[ZaI,EVS]
  refine (Z5 (R:=PV) m (fun _ b=>b) (some (pB false)) (some (pB true)) _ (by omega) (fun again k b hb=> ?_) (fun again=> ?_)).trans ?_
  ·have hk:=Zg hb
   have p1:ZfH (m.map PV.bool) (.int .i64 (k:Int))=some (.int .i64 (k:Int)):=Zj4 (by rw[List.length_map];omega)
   have q1:(m.map PV.bool)[k]?=some (.bool b):=by rw[List.getElem?_map,hb];rfl
   cases b<;>simp only[List.length_map,Zam hk,Zl hk (show m.length≤9223372036854775807 by omega),p1,q1,Bool.false_eq_true,if_false,if_true,EVS]
  ·simp only[List.length_map,ZaI,EVS]
  ·rw[Zar]
   show _=some (pB (m.all fun b=>b))
   cases m.all (fun b=>b)<;>rfl
 ·simp only[EVS]
theorem ZlA (n s:Nat) (es:List (Nat×Nat)) (hn:n≤1000) (hs:s<n) (hl:es.length≤100000) (hes:∀e∈es,e.1<n∧e.2<n):Zdg [pI (n:Int),.lst (es.map pSt),pI (s:Int)]=some (.lst ((ZcX n es s).map pI)):=by
 have hc:(0:Int)≤(n:Int)∧(n:Int)≤1000∧(0:Int)≤(s:Int)∧(s:Int)<(n:Int)∧es.length≤100000∧(es.all fun e=>decide (e.1<(n:Int).toNat∧e.2<(n:Int).toNat))=true:=by
  refine ⟨by omega,by omega,by omega,by omega,hl,List.all_eq_true.2 fun e he=> ?_⟩
  rw[Int.toNat_natCast]
  exact decide_eq_true (hes e he)
 show (match Zlk (es.map pSt) with
  |some es=>if (0:Int)≤(n:Int)∧(n:Int)≤1000∧(0:Int)≤(s:Int)∧(s:Int)<(n:Int)∧es.length≤100000∧(es.all fun e=>decide (e.1<(n:Int).toNat∧e.2<(n:Int).toNat))=true then some (PV.lst ((ZcX (n:Int).toNat es (s:Int).toNat).map pI)) else none
  |none=>none)=_
 rw[Zmg]
 show (if _ then _ else _)=_
 rw[if_pos hc,Int.toNat_natCast,Int.toNat_natCast]
def ZeM (c:PSG):Bool:=(Zg2 c.signals&&inR c.codes.length 1 300)&& !decide ((4000:Int)<c.arcs.length)
def ZmU (c:PSG):Bool:=c.codes.all fun x=>Zao x c.signals.length
def Ze8 (c:PSG):Bool:=c.arcs.all (Zhr c)
def Zf8 (c:PSG):Bool:=(Zqd c.codes.length (ZkU c) 0).all id
def sgV (c:PSG):Bool:=(ZeM c&&ZmU c)&&(Ze8 c&&Zf8 c)
theorem Zf9 {c:PSG} (h1:ZeM c=true) (h2:ZmU c=true):CodesP c:=by
 unfold ZeM inR at h1
 simp only[Bool.and_eq_true,Bool.not_eq_true',decide_eq_true_eq,decide_eq_false_iff_not] at h1
 unfold ZmU at h2
 exact ⟨by omega,by omega,fun x hx=>List.all_eq_true.1 h2 x hx,by omega⟩
theorem Zmb {c:PSG} (h:Ze8 c=true):ZkV c.codes.length c.arcs:=fun a ha=>by
 have:=List.all_eq_true.1 h a ha
 unfold Zhr Zb8 at this
 simp only[Bool.and_eq_true] at this
 exact this.1.1
theorem ZpU (c:PSG) (hc:SGFit c):Zfo [eSG c]=some (pB (sgV c)):=by
 have hcl:=hc.codes
 have hal:=hc.arcs
 unfold Zx at hcl hal
 have g1:=Zg3 c.signals hc.sigs hc.names
 have g2:=ZaO (c.codes.length:Int) 1 300
 have gi:inR (c.codes.length:Int) 1 300=(decide ((1:Int)≤c.codes.length)&&decide ((c.codes.length:Int)≤300)):=rfl
 rw[←gi] at g2
 show (fun x0=>Zfo [x0]) _=_
 rw[ZoD]
 unfold sgV
 cases hpre:ZeM c
 ·unfold ZeM at hpre
  cases c1:Zg2 c.signals
  ·simp only[eSG,List.length_map,g1,c1,EVS]
  cases c2:inR (c.codes.length:Int) 1 300
  ·simp only[eSG,List.length_map,g1,g2,c1,c2,EVS]
  cases c3:decide ((4000:Int)<c.arcs.length)
  ·rw[c1,c2,c3] at hpre;cases hpre
  ·simp only[eSG,List.length_map,g1,g2,c1,c2,c3,EVS]
 have hpre':=hpre
 unfold ZeM at hpre'
 simp only[Bool.and_eq_true,Bool.not_eq_true'] at hpre'
 obtain ⟨⟨c1,c2⟩,c3⟩:=hpre'
 simp only[eSG,List.length_map,g1,g2,c1,c2,c3,EVS]
 refine (congrArg (fun m:Option PV=>m.bind fun r=>if r.sc=true then some r else none) (Zgw (R:=PV) c.codes (fun _ x=>Zao x c.signals.length) (some (pB false)) (some (pB (Ze8 c&&Zf8 c))) _ hcl (fun again k x hx=> ?_) (fun hall again=> ?_))).trans ?_
 ·have hk:=Zg hx
  have hi:Zo (.lst (c.codes.map PV.str)) (.int .i64 (k:Int))=some (.str x):=Zn hx
  have g:=ZkN x c.signals.length (hc.each x (List.mem_of_getElem? hx))
  cases cb:Zao x c.signals.length<;>simp only[Zam hk,Zl hk hcl,hi,g,cb,Bool.false_eq_true,if_false,if_true,EVS]
 ·rw[Zar] at hall
  have hp:=Zf9 hpre hall
  simp only[ZaI,EVS]
  refine (Zgw (R:=PV) c.arcs (fun _ a=>Zhr c a) (some (pB false)) (some (pB (Zf8 c))) _ hal (fun again k a hx=> ?_) (fun hall' again=> ?_)).trans ?_
  ·have hk:=Zg hx
   have hi:Zo (.lst (c.arcs.map Zan)) (.int .i64 (k:Int))=some (Zan a):=Zn hx
   have g:=ZrE c a hc hp
   simp only[eSG,Zan] at g
   cases cb:Zhr c a<;>simp only[Zan,Zam hk,Zl hk hal,hi,g,cb,Zaz,Zqv,Bool.false_eq_true,if_false,if_true,EVS]
  ·rw[Zar] at hall'
   have g:=ZrF c hc hp (Zmb hall')
   simp only[eSG] at g
   simp only[ZaI,Zaz,g,EVS]
   rfl
  ·rw[Zar]
   show _=some (pB (c.arcs.all (Zhr c)&&Zf8 c))
   cases c.arcs.all (Zhr c)<;>rfl
 ·rw[Zar]
  show _=some (pB ((true&&c.codes.all (fun x=>Zao x c.signals.length))&&(Ze8 c&&Zf8 c)))
  cases c.codes.all (fun x=>Zao x c.signals.length)<;>simp only[Bool.false_eq_true,if_false,if_true,EVS]<;>rfl
theorem Zga (l:List Int) (x:Int) (hl:Zx l):ZaQ [.lst (l.map pI),pI x]=some (pI (ixf (fun a=>decide (x=a)) 0 l)):=by
 show (fun x0 x1=>ZaQ [x0,x1]) _ _=_
 rw[ZfM]
 unfold Zx at hl
 simp only[EVS]
 refine (congrArg (fun m:Option PV=>m.bind fun r=>if r.sc=true then some r else none) (Zdu l (fun a=>decide (x=a)) _ hl (fun again k a hb=> ?_) (fun again=> ?_))).trans ?_
 ·have hk:=Zg hb
  have hi:Zo (.lst (l.map pI)) (.int .i64 (k:Int))=some (pI a):=Zn hb
  simp only[Zam hk,Zl hk hl,hi,EVS]
 ·simp only[ZaI,EVS]
  rfl
 ·simp only[EVS]
theorem ZeN (l:List Int) (x:Int) (hl:Zx l):Zau [.lst (l.map pI),pI x]=some (pB (!ZR (fun _ a=> !decide (x=a)) 0 l)):=by
 have g:=Zga l x hl
 show (fun x0 x1=>Zau [x0,x1]) _ _=_
 rw[Zex]
 simp only[g,Zeu (fun a=>decide (x=a)) l 0,EVS]
theorem ZkW {R:Type} (e:List (Nat×Nat)→Option R):∀(l:List PArc) (k:Nat) (acc:List (Nat×Nat)),Zcd (fun (acc:List (Nat×Nat)) (_:Nat) (a:PArc)=>.inl (acc++[(a.from_.toNat,a.to_.toNat)])) e k acc l=e (acc++l.map fun a=>(a.from_.toNat,a.to_.toNat))
 |[],k,acc=>by simp[Zcd]
 | a::l,k,acc=>by
  show Zcd _ e (k+1) (acc++[(a.from_.toNat,a.to_.toNat)]) l=_
  rw[ZkW e l]
  simp
theorem ZtJ (a b:PV):splice (splice [ZC.pv (.int .i64),ZC.pv (.int .i64)] 0 [a]) 1 [b]=[a,b]:=rfl
theorem ZmV (n:Nat) (l:List PArc) (ha:ZkV n l) (hl:l.length≤4000):Zdx [.lst (l.map Zan)]=some (.lst ((l.map fun a=>(a.from_.toNat,a.to_.toNat)).map pSt)):=by
 show (fun x0=>Zdx [x0]) _=_
 rw[ZlE]
 simp only[List.length_map,EVS]
 refine (ZfV (R:=PV) l (fun (acc:List (Nat×Nat)) k=>[.lst (acc.map pSt),pI (Int.ofNat k)]) (fun k acc=>acc.length=k) (fun (acc:List (Nat×Nat)) _ a=>.inl (acc++[(a.from_.toNat,a.to_.toNat)])) (fun acc=>some (.lst (acc.map pSt))) _ (by omega) (fun acc k x acc' hi hx he=> ?_) (fun again acc k a hi hx=> ?_) (fun again acc hi=> ?_) (b:=[]) rfl).trans ((ZkW _ _ _ _).trans ?_)
 ·cases he;simp;omega
 ·have hk:=Zg hx
  obtain ⟨f,t,hf,ht,l1,l2⟩:=ZiQ ha (List.mem_of_getElem? hx)
  have hi':Zo (.lst (l.map Zan)) (.int .i64 (k:Int))=some (Zan a):=Zn hx
  have hla:acc.length+[PV.agg [pI (f:Int),pI (t:Int)]].length≤4294967296∧[PV.agg [pI (f:Int),pI (t:Int)]].all (ZbP 2)=true:=⟨by simp;omega,rfl⟩
  have hps:acc.map pSt++[PV.agg [pI (f:Int),pI (t:Int)]]=(acc++[(f,t)]).map pSt:=by simp[pSt]
  simp only[Zam hk,Zl hk (show l.length≤9223372036854775807 by omega),hi',Zan,hf,ht,Int.toNat_natCast,ZtJ,List.length_map,if_pos hla,hps,EVS]
 ·simp only[ZaI,EVS]
 ·rfl
theorem Zgb (x:Int):∀(l:List Int) (k:Nat),ZR (fun _ a=> !decide (x=a)) k l= !decide (x∈l)
 |[],k=>by simp[ZR]
 | a::l,k=>by
  unfold ZR
  rw[Zgb x l (k+1),Bool.eq_iff_iff]
  simp only[Bool.and_eq_true,Bool.not_eq_true',decide_eq_false_iff_not,List.mem_cons,not_or]
theorem ZmW {c:PSG} (h:ZkV c.codes.length c.arcs):∀e∈ZkU c,e.1<c.codes.length∧e.2<c.codes.length:=fun e he=>by
 unfold ZkU at he
 obtain ⟨a,ha,rfl⟩:=List.mem_map.1 he
 obtain ⟨f,t,hf,ht,l1,l2⟩:=ZiQ h ha
 simp only[hf,ht,Int.toNat_natCast]
 exact ⟨l1,l2⟩
theorem ZfK (c:PSG) (hc:SGFit c):ZaF [eSG c]=some (pB (sgV c)):=by
 have hcl:=hc.codes
 have hal:=hc.arcs
 have hsl:=hc.sigs
 unfold Zx at hcl hal hsl
 have g1:=Zf7 c.signals hc.sigs hc.names
 rw[←ZqU] at g1
 have g2:=Zaq (c.codes.length:Int) 1 300
 show (fun x0=>ZaF [x0]) _=_
 rw[Zfg]
 unfold sgV
 cases hpre:ZeM c
 ·unfold ZeM at hpre
  cases c1:Zg2 c.signals
  ·simp only[eSG,List.length_map,g1,c1,EVS]
  cases c2:inR (c.codes.length:Int) 1 300
  ·simp only[eSG,List.length_map,g1,g2,c1,c2,EVS]
  cases c3:decide ((4000:Int)<c.arcs.length)
  ·rw[c1,c2,c3] at hpre;cases hpre
  ·simp only[eSG,List.length_map,g1,g2,c1,c2,c3,EVS]
 have hpre':=hpre
 unfold ZeM at hpre'
 simp only[Bool.and_eq_true,Bool.not_eq_true'] at hpre'
 obtain ⟨⟨c1,c2⟩,c3⟩:=hpre'
 have hw:IntKind.i64.wrap ((c.codes.length:Int) - 1)=(c.codes.length:Int) - 1:=Zdc (by omega) (by omega)
 simp only[eSG,List.length_map,g1,g2,c1,c2,c3,hw,EVS]
 refine (congrArg (fun m:Option PV=>m.bind fun r=>if r.sc=true then some r else none) (Zgw (R:=PV) c.codes (fun _ x=>Zao x c.signals.length) (some (pB false)) (some (pB (Ze8 c&&Zf8 c))) _ hcl (fun again k x hx=> ?_) (fun hall again=> ?_))).trans ?_
 ·have hk:=Zg hx
  have hi:Zo (.lst (c.codes.map PV.str)) (.int .i64 (k:Int))=some (.str x):=Zn hx
  have g:=ZkO x c.signals.length (hc.each x (List.mem_of_getElem? hx))
  cases cb:Zao x c.signals.length<;>simp only[Zam hk,Zl hk hcl,hi,g,cb,Bool.false_eq_true,if_false,if_true,EVS]
 ·rw [Zar] at hall
  have hp:=Zf9 hpre hall
  simp only[ZaI,EVS]
  refine (Zgw (R:=PV) c.arcs (fun _ a=>Zhr c a) (some (pB false)) (some (pB (Zf8 c))) _ hal (fun again k a hx=> ?_) (fun hall' again=> ?_)).trans ?_
  ·have hk:=Zg hx
   have hi:Zo (.lst (c.arcs.map Zan)) (.int .i64 (k:Int))=some (Zan a):=Zn hx
   have g3:=Zaq a.from_ 0 ((c.codes.length:Int) - 1)
   have g4:=Zaq a.to_ 0 ((c.codes.length:Int) - 1)
   have g5:=ZpP a.sig a.up c.signals.length hsl
   unfold Zhr
   cases hg:Zb8 c.signals.length ((c.codes.length:Int) - 1) a
   ·unfold Zb8 at hg
    cases d1:inR a.from_ 0 ((c.codes.length:Int) - 1)
    ·simp only[Zan,Zam hk,Zl hk hal,hi,List.length_map,g3,d1,Bool.false_eq_true,if_false,if_true,EVS]
    cases d2:inR a.to_ 0 ((c.codes.length:Int) - 1)
    ·simp only[Zan,Zam hk,Zl hk hal,hi,List.length_map,g3,g4,d1,d2,Bool.false_eq_true,if_false,if_true,EVS]
    cases d3:Zd9 c.signals.length a.sig a.up
    ·simp only[Zan,Zam hk,Zl hk hal,hi,List.length_map,g3,g4,g5,d1,d2,d3,ZkS,Bool.false_eq_true,if_false,if_true,EVS]
    ·rw[d1,d2,d3] at hg;cases hg
   ·obtain ⟨f,t,x,y,hf,ht,l1,l2,hx',hy',he⟩:=ZkT hg
    unfold Zb8 at hg
    simp only[Bool.and_eq_true] at hg
    have bx:=hp.bits x (List.mem_of_getElem? hx')
    have by_:=hp.bits y (List.mem_of_getElem? hy')
    have i1:Zo (.lst (c.codes.map PV.str)) (.int .i64 (f:Int))=some (.str x):=Zn hx'
    have i2:Zo (.lst (c.codes.map PV.str)) (.int .i64 (t:Int))=some (.str y):=Zn hy'
    have e1:c.codes.getD f []=x:=by rw[List.getD_eq_getElem?_getD,hx'];rfl
    have e2:c.codes.getD t []=y:=by rw[List.getD_eq_getElem?_getD,hy'];rfl
    have d1:=hg.1.1
    have d2:=hg.1.2
    have lx:=ZeL bx
    have ly:=ZeL by_
    have g6:=Zlz a x y (hc.each x (List.mem_of_getElem? hx')) (by omega)
    rw[ZtI a.sig a.up x y _ bx by_ he] at g6
    simp only[Zan,hf,ht] at g3 g4 g6 d1 d2
    rw[hf,ht,Int.toNat_natCast,Int.toNat_natCast,e1,e2]
    cases d4:Zif a.sig a.up x y<;>simp only[Zan,hf,ht,Zam hk,Zl hk hal,hi,List.length_map,g3,g4,g5,g6,d1,d2,he,d4,i1,i2,ZkS,Zqv,Bool.false_eq_true,if_false,if_true,EVS]
  ·rw[Zar] at hall'
   have hin:=Zmb hall'
   have g7:=ZmV c.codes.length c.arcs hin hp.arcs
   have g8:=ZlA c.codes.length 0 (ZkU c) (by have:=hp.many;omega) hp.one (by have:=hp.arcs;unfold ZkU;rw[List.length_map];omega) (ZmW hin)
   have hd:=Zlj hp.one (ZmW hin)
   have g9:=ZeN (ZcX c.codes.length (ZkU c) 0) (-1) (by unfold Zx;rw[hd.len];omega)
   have hme:Zf8 c= !decide ((-1:Int)∈ZcX c.codes.length (ZkU c) 0):=Ztc hp.one (ZmW hin)
   rw[Zgb] at g9
   unfold ZkU at g8
   simp only[ZaI,List.length_map,g7,EVS]
   rw[show (Int.negSucc 0)=(-1:Int) from rfl]
   simp only[Int.natCast_zero] at g8
   simp only[g8,EVS]
   unfold ZkU at g9 hme
   simp only[g9,hme,Bool.not_not,EVS]
  ·rw[Zar]
   show _=some (pB (c.arcs.all (Zhr c)&&Zf8 c))
   cases c.arcs.all (Zhr c)<;>rfl
 ·rw[Zar]
  show _=some (pB ((true&&c.codes.all (fun x=>Zao x c.signals.length))&&(Ze8 c&&Zf8 c)))
  cases c.codes.all (fun x=>Zao x c.signals.length)<;>simp only[Bool.false_eq_true,if_false,if_true,EVS]<;>rfl
theorem Zon {R α β:Type} (l:List α) (J:β→Nat→List PV) (Inv:Nat→β→Prop) (step:β→Nat→α→Sum β (Option R)) (e:β→Option R) (f:(List PV→Option R)→List PV→Option R) (hl:l.length≤9223372036854775807)
 (hs:∀b k x b',Inv k b→l[k]?=some x→step b k x=.inl b'→Inv (k+1) b')
 (h1:∀again b k x,Inv k b→l[k]?=some x→f again (J b k)=match step b k x with|.inl b'=>again (J b' (k+1))|.inr z=>z)
 (h2:∀again b,Inv l.length b→f again (J b l.length)=e b) {b:β} {k:Nat} (hk:k≤l.length) (hb:Inv k b):ZA f 18446744073709551616 (J b k)=Zcd step e k b (l.drop k):=by
 have key:=Zdh (R:=R) (fun q:{q:β×Nat // Inv q.2 q.1∧q.2≤l.length}=>J q.1.1 q.1.2) (fun q=>l.length+1 - q.1.2) (fun q=>Zcd step e q.1.2 q.1.1 (l.drop q.1.2)) f (fun again q ih=> ?_) 18446744073709551616 ⟨(b,k),hb,hk⟩ (by simp only;omega)
 ·exact key
 ·obtain ⟨⟨b,k⟩,hi,hk⟩:=q
  dsimp only at ih hi hk⊢
  by_cases hlt:k<l.length
  ·have hx:l[k]?=some l[k]:=List.getElem?_eq_getElem hlt
   rw[h1 again b k _ hi hx,List.drop_eq_getElem_cons hlt]
   unfold Zcd
   cases hst:step b k l[k] with
   |inl b'=>exact ih ⟨(b',k+1),hs _ _ _ _ hi hx hst,hlt⟩ (by simp only;omega)
   |inr z=>rfl
  ·obtain rfl:k=l.length:=by omega
   rw[h2 again b hi,List.drop_length]
   rfl
theorem capsA0 :ZcH 0 (.tup [])=some []:=by simp[ZcH,PV.parts]
theorem ZgN (a:PArc):Za3 [Zan a]=some (pB (decide (a.sig= -1))):=by
 show (fun x0=>Za3 [x0]) _=_
 rw[Zgs]
 simp only[Zan,EVS]
 rfl
theorem Zbg (l:List PArc) (hl:Zx l):Zy [.lst (l.map Zan),.tup []]=some (pI (ixf (fun a=>decide (a.sig= -1)) 0 l)):=by
 show (fun x0 x1=>Zy [x0,x1]) _ _=_
 rw[Zba]
 unfold Zx at hl
 simp only[EVS]
 refine (congrArg (fun m:Option PV=>m.bind fun r=>if r.sc=true then some r else none) (Zdu l (fun a=>decide (a.sig= -1)) _ hl (fun again k a hb=> ?_) (fun again=> ?_))).trans ?_
 ·have hk:=Zg hb
  have hi:Zo (.lst (l.map Zan)) (.int .i64 (k:Int))=some (Zan a):=Zn hb
  have g:=ZgN a
  simp only[Zan] at g
  cases hc:decide (a.sig= -1)<;>simp only[Zam hk,Zl hk hl,hi,Zan,g,hc,capsA0,List.append_nil,List.cons_append,List.nil_append,Bool.false_eq_true,if_false,if_true,EVS]
 ·simp only[ZaI,EVS]
  rfl
 ·simp only[EVS]
def Ze9 (l:List PArc):Bool:=l.any fun a=>decide (a.sig= -1)
theorem ZaZ (l:List PArc) (hl:Zx l):Zt [.lst (l.map Zan),.tup []]=some (pB (Ze9 l)):=by
 have g:=Zbg l hl
 show (fun x0 x1=>Zt [x0,x1]) _ _=_
 rw[ZaU]
 simp only[g,Zeu (fun a:PArc=>decide (a.sig= -1)) l 0,EVS]
 rw[Zar,List.all_eq_not_any_not]
 simp only[Bool.not_not]
 rfl
theorem ZmX (c:PSG) (hl:Zx c.arcs):ZdA [eSG c]=some (pB (c.arcs.any fun a=>decide (a.sig<0))):=by
 unfold Zx at hl
 show (fun x0=>ZdA [x0]) _=_
 rw[ZlJ]
 simp only[eSG,EVS]
 refine (congrArg (fun m:Option PV=>m.bind fun r=>if r.sc=true then some r else none) (Z5 (R:=PV) c.arcs (fun _ a=> !decide (a.sig<0)) (some (pB true)) (some (pB false)) _ hl (fun again k a hx=> ?_) (fun again=> ?_))).trans ?_
 ·have hk:=Zg hx
  have hi:Zo (.lst (c.arcs.map Zan)) (.int .i64 (k:Int))=some (Zan a):=Zn hx
  cases hc:decide (a.sig<0)<;>simp only[List.length_map,Zam hk,Zl hk hl,hi,Zan,hc,Bool.not_true,Bool.not_false,Bool.false_eq_true,if_false,if_true,EVS]
 ·simp only[List.length_map,ZaI,EVS]
 ·rw[Zar,List.any_eq_not_all_not]
  cases c.arcs.all (fun a=> !decide (a.sig<0))<;>simp only[Bool.not_true,Bool.not_false,Bool.false_eq_true,if_false,if_true,EVS]
theorem ZpV {c:PSG} (h:Ze8 c=true):(c.arcs.any fun a=>decide (a.sig<0))=Ze9 c.arcs:=by
 unfold Ze9
 rw[Bool.eq_iff_iff,List.any_eq_true,List.any_eq_true]
 constructor
 ·rintro ⟨a,ha,h1⟩
  refine ⟨a,ha, ?_⟩
  have:=List.all_eq_true.1 h a ha
  unfold Zhr Zb8 Zd9 inR at this
  simp only[Bool.and_eq_true,Bool.or_eq_true,decide_eq_true_eq] at this h1⊢
  omega
 ·rintro ⟨a,ha,h1⟩
  refine ⟨a,ha, ?_⟩
  simp only[decide_eq_true_eq] at h1⊢
  omega
theorem Zs2 (x y:List UInt8×Int):eqV (some [(0,TD.str),(1,TD.int IntKind.i64)]) TD.struct (.agg [.str x.1,pI x.2]) (.agg [.str y.1,pI y.2])=some (decide (x=y)):=by
 have e:decide (x=y)=((x.1==y.1)&&((x.2==y.2)&&true)):=by
  rw[Bool.eq_iff_iff]
  simp only[decide_eq_true_eq,Bool.and_eq_true,Prod.ext_iff,beq_iff_eq,and_true]
 rw[e]
 show (some (x.1==y.1)).bind (fun b=>(some ((x.2==y.2)&&true)).map fun c=>b&&c)=_
 rfl
def Zfa (l:List (List UInt8×Int)) (k:Nat) (x:List UInt8×Int):Bool:=match l[k]? with|some y=>decide (x=y)|none=>false
theorem ZqZ (l m:List (List UInt8×Int)) (h:l.length=m.length):ZR (Zfa m) 0 l=decide (l=m):=by
 rw[Bool.eq_iff_iff,ZkR,decide_eq_true_eq]
 constructor
 ·intro hx
  apply List.ext_getElem h
  intro i h1 h2
  have:=hx i l[i] (List.getElem?_eq_getElem h1)
  unfold Zfa at this
  rw[Nat.zero_add,List.getElem?_eq_getElem h2] at this
  simpa using this
 ·rintro rfl i x hi
  unfold Zfa
  rw[Nat.zero_add,hi]
  simp
theorem ZeO (l m:List (List UInt8×Int)) (hl:Zx l):Zav [.lst (l.map Z6),.lst (m.map Z6)]=some (pB (decide (l=m))):=by
 unfold Zx at hl
 show (fun x0 x1=>Zav [x0,x1]) _ _=_
 rw[ZeB]
 by_cases hlen:l.length=m.length
 ·have d:decide ((l.length:Int)=(m.length:Int))=true:=by rw[decide_eq_true_eq];omega
  simp only[List.length_map,d,EVS]
  refine (congrArg (fun m:Option PV=>m.bind fun r=>if r.sc=true then some r else none) (Z5 (R:=PV) l (Zfa m) (some (pB false)) (some (pB true)) _ hl (fun again k x hx=> ?_) (fun again=> ?_))).trans ?_
  ·have hk:=Zg hx
   have hy:m[k]?=some (m[k]'(by omega)):=List.getElem?_eq_getElem _
   have hi:Zo (.lst (l.map Z6)) (.int .i64 (k:Int))=some (Z6 x):=Zn hx
   have hj:Zo (.lst (m.map Z6)) (.int .i64 (k:Int))=some (Z6 (m[k]'(by omega))):=Zn hy
   have hs:Zfa m k x=decide (x=m[k]'(by omega)):=by unfold Zfa;rw[hy]
   have he:=Zs2 x (m[k]'(by omega))
   rw[hs]
   cases hc:decide (x=m[k]'(by omega))<;>simp only[List.length_map,Zam hk,Zl hk hl,hi,hj,Z6,ZbM,he,hc,Bool.not_true,Bool.not_false,Bool.false_eq_true,if_false,if_true,EVS]
  ·simp only[List.length_map,ZaI,EVS]
  ·rw[ZqZ l m hlen]
   cases decide (l=m)<;>simp only[Bool.false_eq_true,if_false,if_true,EVS]
 ·have d:decide ((l.length:Int)=(m.length:Int))=false:=by simp only[decide_eq_false_iff_not];omega
  have hne:decide (l=m)=false:=by simp only[decide_eq_false_iff_not];rintro rfl;exact hlen rfl
  simp only[List.length_map,d,hne,EVS]
theorem Zig (l m:List (List UInt8×Int)) (hl:Zx l):ZbO [.lst (l.map Z6),.lst (m.map Z6)]=some (pB (decide (l=m))):=by
 unfold Zx at hl
 show (fun x0 x1=>ZbO [x0,x1]) _ _=_
 rw[ZhE]
 by_cases hlen:l.length=m.length
 ·have d:decide ((l.length:Int)=(m.length:Int))=true:=by rw[decide_eq_true_eq];omega
  simp only[List.length_map,d,EVS]
  refine (congrArg (fun m:Option PV=>m.bind fun r=>if r.sc=true then some r else none) (Z5 (R:=PV) l (Zfa m) (some (pB false)) (some (pB true)) _ hl (fun again k x hx=> ?_) (fun again=> ?_))).trans ?_
  ·have hk:=Zg hx
   have hy:m[k]?=some (m[k]'(by omega)):=List.getElem?_eq_getElem _
   have hi:Zo (.lst (l.map Z6)) (.int .i64 (k:Int))=some (Z6 x):=Zn hx
   have hj:Zo (.lst (m.map Z6)) (.int .i64 (k:Int))=some (Z6 (m[k]'(by omega))):=Zn hy
   have hs:Zfa m k x=decide (x=m[k]'(by omega)):=by unfold Zfa;rw[hy]
   have he:=Zs2 x (m[k]'(by omega))
   rw[hs]
   cases hc:decide (x=m[k]'(by omega))<;>simp only[List.length_map,Zam hk,Zl hk hl,hi,hj,Z6,ZbM,he,hc,Bool.not_true,Bool.not_false,Bool.false_eq_true,if_false,if_true,EVS]
  ·simp only[List.length_map,ZaI,EVS]
  ·rw[ZqZ l m hlen]
   cases decide (l=m)<;>simp only[Bool.false_eq_true,if_false,if_true,EVS]
 ·have d:decide ((l.length:Int)=(m.length:Int))=false:=by simp only[decide_eq_false_iff_not];omega
  have hne:decide (l=m)=false:=by simp only[decide_eq_false_iff_not];rintro rfl;exact hlen rfl
  simp only[List.length_map,d,hne,EVS]
def Zhs (a b:PArc):Bool:=(((!decide (a.sig= -1))&&decide (b.from_=a.from_))&&decide (b.sig=a.sig))&& !decide (b.to_=a.to_)
def ZmY (a b:PArc):Bool:=((decide (a.from_=b.from_)&&decide (a.sig=b.sig))&&decide (0≤a.sig))&& !decide (a.to_=b.to_)
def wE (p:Nat×Nat):PV:=.lst [pI p.1,pI p.2]
def Zcw (w:PArc→PArc→Bool) (i:Nat) (a:PArc):Nat→List (Nat×Nat)→List PArc→List (Nat×Nat)
 |_,acc,[]=>acc
 |k,acc,b::l=>Zcw w i a (k+1) (if w a b=true then acc++[(i,k)] else acc) l
def Zfb (w:PArc→PArc→Bool) (arcs:List PArc):Nat→List (Nat×Nat)→List PArc→List (Nat×Nat)
 |_,acc,[]=>acc
 |i,acc,a::l=>Zfb w arcs (i+1) (Zcw w i a (i+1) acc (arcs.drop (i+1))) l
theorem Zgc {R:Type} (w:PArc→PArc→Bool) (i:Nat) (a:PArc) (e:List (Nat×Nat)→Option R):∀(l:List PArc) (k:Nat) (acc:List (Nat×Nat)),Zcd (fun (acc:List (Nat×Nat)) k b=>.inl (if w a b=true then acc++[(i,k)] else acc)) e k acc l=e (Zcw w i a k acc l)
 |[],k,acc=>rfl
 |b::l,k,acc=>by unfold Zcd Zcw;exact Zgc w i a e l (k+1) _
theorem Zgd {R:Type} (w:PArc→PArc→Bool) (arcs:List PArc) (e:List (Nat×Nat)→Option R):∀(l:List PArc) (k:Nat) (acc:List (Nat×Nat)),Zcd (fun (acc:List (Nat×Nat)) i a=>.inl (Zcw w i a (i+1) acc (arcs.drop (i+1)))) e k acc l=e (Zfb w arcs k acc l)
 |[],k,acc=>rfl
 |b::l,k,acc=>by unfold Zcd Zfb;exact Zgd w arcs e l (k+1) _
theorem Zht (w:PArc→PArc→Bool) (i:Nat) (a:PArc):∀(l:List PArc) (k:Nat) (acc:List (Nat×Nat)),(Zcw w i a k acc l).length≤acc.length+l.length
 |[],k,acc=>by simp[Zcw]
 | b::l,k,acc=>by
  have:=Zht w i a l (k+1) (if w a b=true then acc++[(i,k)] else acc)
  unfold Zcw
  split at this<;>rename_i h
  ·rw[if_pos h];simp at this⊢;omega
  ·rw[if_neg h];simp at this⊢;omega
theorem Zih {w w':PArc→PArc→Bool} (i:Nat) (a:PArc):∀(l:List PArc) (k:Nat) (acc:List (Nat×Nat)),(∀b∈l,w a b=w' a b)→Zcw w i a k acc l=Zcw w' i a k acc l
 |[],k,acc,h=>rfl
 |b::l,k,acc,h=>by unfold Zcw;rw[h b List.mem_cons_self];exact Zih i a l _ _ fun b hb=>h b (List.mem_cons_of_mem _ hb)
theorem Zii {w w':PArc→PArc→Bool} (arcs:List PArc):∀(l:List PArc) (k:Nat) (acc:List (Nat×Nat)),(∀a∈l,∀b∈arcs,w a b=w' a b)→Zfb w arcs k acc l=Zfb w' arcs k acc l
 |[],k,acc,h=>rfl
 | a::l,k,acc,h=>by
  unfold Zfb
  rw[Zih k a _ _ _ fun b hb=>h a List.mem_cons_self b (List.mem_of_mem_drop hb)]
  exact Zii arcs l _ _ fun a ha=>h a (List.mem_cons_of_mem _ ha)
def Zge (w:PArc→PArc→Bool) (c:PSG):List (Nat×Nat):=Zfb w c.arcs 0 [] c.arcs
theorem ZtK {c:PSG} (h:Ze8 c=true):Zge ZmY c=Zge Zhs c:=Zii _ _ _ _ fun a ha b hb=>by
 have:=List.all_eq_true.1 h a ha
 unfold Zhr Zb8 Zd9 inR at this
 simp only[Bool.and_eq_true,Bool.or_eq_true,decide_eq_true_eq] at this
 have h1:a.sig= -1∨0≤a.sig:=by omega
 unfold ZmY Zhs
 rw[Bool.eq_iff_iff]
 simp only[Bool.and_eq_true,Bool.not_eq_true',decide_eq_true_eq,decide_eq_false_iff_not]
 omega
theorem Zoo (c:PSG) (hl:c.arcs.length≤4000):Zek [eSG c]=some (.lst ((Zge Zhs c).map wE)):=by
 show (fun x0=>Zek [x0]) _=_
 rw[Znl]
 simp only[eSG,EVS]
 refine (ZfV (R:=PV) c.arcs (fun (acc:List (Nat×Nat)) i=>[.lst (acc.map wE),pI (Int.ofNat i)]) (fun i acc=>acc.length≤i * 4000) (fun acc i a=>.inl (Zcw Zhs i a (i+1) acc (c.arcs.drop (i+1)))) (fun acc=>some (.lst (acc.map wE))) _ (by omega) (fun acc i a acc' hi hx he=> ?_) (fun again acc i a hi hx=> ?_) (fun again acc hi=> ?_) (b:=[]) (by simp)).trans (Zgd _ _ _ _ _ _)
 ·cases he
  have:=Zht Zhs i a (c.arcs.drop (i+1)) (i+1) acc
  simp at this
  omega
 ·have hk:=Zg hx
  have hi':Zo (.lst (c.arcs.map Zan)) (.int .i64 (i:Int))=some (Zan a):=Zn hx
  have hnx:=Zl hk (show c.arcs.length≤9223372036854775807 by omega)
  simp only[List.length_map,Zam hk,hnx,hi',Zan,EVS]
  refine (Zon (R:=PV) c.arcs (fun (acc:List (Nat×Nat)) k=>[.lst (acc.map wE),pI (Int.ofNat k)]) (fun k acc=>acc.length≤i * 4000+k) (fun acc k b=>.inl (if Zhs a b=true then acc++[(i,k)] else acc)) (fun acc=>again [.lst (acc.map wE),pI (Int.ofNat (i+1))]) _ (by omega) (fun acc k b acc' hi hx he=> ?_) (fun again' acc k b hi2 hx2=> ?_) (fun again' acc hi=> ?_) (b:=acc) (k:=i+1) (show i+1≤c.arcs.length from hk) (show acc.length≤i * 4000+(i+1) from Nat.le_trans hi (Nat.le_add_right _ _))).trans (Zgc _ _ _ _ _ _ _)
  ·cases he
   show (if Zhs a b=true then acc++[(i,k)] else acc).length≤i * 4000+(k+1)
   have hi:acc.length≤i * 4000+k:=hi
   cases Zhs a b
   ·rw[if_neg (by decide)];omega
   ·rw[if_pos rfl,List.length_append,List.length_singleton];omega
  ·have hk2:=Zg hx2
   have hj:Zo (.lst (c.arcs.map Zan)) (.int .i64 (k:Int))=some (Zan b):=Zn hx2
   have hla:acc.length+[PV.lst [pI (i:Int),pI (k:Int)]].length≤4294967296∧[PV.lst [pI (i:Int),pI (k:Int)]].all (ZbP 1)=true:=⟨by simp;omega,rfl⟩
   have hps:acc.map wE++[PV.lst [pI (i:Int),pI (k:Int)]]=(acc++[(i,k)]).map wE:=by simp[wE]
   unfold Zhs
   simp only[List.length_map,Zam hk2,Zl hk2 (show c.arcs.length≤9223372036854775807 by omega),hj,Zan,EVS]
   rw[show Int.negSucc 0=(-1:Int) from rfl]
   have hok:([PV.lst [pI (i:Int),pI (k:Int)]].all fun x=>ZbP 1 x)=true:=rfl
   cases c1:decide (a.sig= -1)<;>cases c2:decide (b.from_=a.from_)<;>cases c3:decide (b.sig=a.sig)<;>cases c4:decide (b.to_=a.to_)<;>simp only[c1,c2,c3,c4,if_pos hla,hps,if_pos hok,EVS]
  ·simp only[List.length_map,ZaI,hnx,EVS]
 ·simp only[List.length_map,ZaI,EVS]
theorem ZpW (c:PSG) (hl:c.arcs.length≤4000):Zfq [eSG c]=some (.lst ((Zge ZmY c).map wE)):=by
 show (fun x0=>Zfq [x0]) _=_
 rw[ZoF]
 simp only[eSG,EVS]
 refine (ZfV (R:=PV) c.arcs (fun (acc:List (Nat×Nat)) i=>[.lst (acc.map wE),pI (Int.ofNat i)]) (fun i acc=>acc.length≤i * 4000) (fun acc i a=>.inl (Zcw ZmY i a (i+1) acc (c.arcs.drop (i+1)))) (fun acc=>some (.lst (acc.map wE))) _ (by omega) (fun acc i a acc' hi hx he=> ?_) (fun again acc i a hi hx=> ?_) (fun again acc hi=> ?_) (b:=[]) (by simp)).trans (Zgd _ _ _ _ _ _)
 ·cases he
  have:=Zht ZmY i a (c.arcs.drop (i+1)) (i+1) acc
  simp at this
  omega
 ·have hk:=Zg hx
  have hi':Zo (.lst (c.arcs.map Zan)) (.int .i64 (i:Int))=some (Zan a):=Zn hx
  have hnx:=Zl hk (show c.arcs.length≤9223372036854775807 by omega)
  simp only[List.length_map,Zam hk,hnx,hi',Zan,EVS]
  refine (Zon (R:=PV) c.arcs (fun (acc:List (Nat×Nat)) k=>[.lst (acc.map wE),pI (Int.ofNat k)]) (fun k acc=>acc.length≤i * 4000+k) (fun acc k b=>.inl (if ZmY a b=true then acc++[(i,k)] else acc)) (fun acc=>again [.lst (acc.map wE),pI (Int.ofNat (i+1))]) _ (by omega) (fun acc k b acc' hi hx he=> ?_) (fun again' acc k b hi2 hx2=> ?_) (fun again' acc hi=> ?_) (b:=acc) (k:=i+1) (show i+1≤c.arcs.length from hk) (show acc.length≤i * 4000+(i+1) from Nat.le_trans hi (Nat.le_add_right _ _))).trans (Zgc _ _ _ _ _ _ _)
  ·cases he
   show (if ZmY a b=true then acc++[(i,k)] else acc).length≤i * 4000+(k+1)
   have hi:acc.length≤i * 4000+k:=hi
   cases ZmY a b
   ·rw[if_neg (by decide)];omega
   ·rw[if_pos rfl,List.length_append,List.length_singleton];omega
  ·have hk2:=Zg hx2
   have hj:Zo (.lst (c.arcs.map Zan)) (.int .i64 (k:Int))=some (Zan b):=Zn hx2
   have hla:acc.length+[PV.lst [pI (i:Int),pI (k:Int)]].length≤4294967296∧[PV.lst [pI (i:Int),pI (k:Int)]].all (ZbP 1)=true:=⟨by simp;omega,rfl⟩
   have hps:acc.map wE++[PV.lst [pI (i:Int),pI (k:Int)]]=(acc++[(i,k)]).map wE:=by simp[wE]
   unfold ZmY
   simp only[List.length_map,Zam hk2,Zl hk2 (show c.arcs.length≤9223372036854775807 by omega),hj,Zan,EVS]
   have hok:([PV.lst [pI (i:Int),pI (k:Int)]].all fun x=>ZbP 1 x)=true:=rfl
   cases c1:decide (a.from_=b.from_)<;>cases c2:decide (a.sig=b.sig)<;>cases c3:decide (0≤a.sig)<;>cases c4:decide (a.to_=b.to_)<;>simp only[c1,c2,c3,c4,if_pos hla,hps,if_pos hok,EVS]
  ·simp only[List.length_map,ZaI,hnx,EVS]
 ·simp only[List.length_map,ZaI,EVS]
theorem ZgB {c:PSG} (h:sgV c=true):ZeM c=true∧ZmU c=true∧Ze8 c=true∧Zf8 c=true:=by
 unfold sgV at h
 simp only[Bool.and_eq_true] at h
 exact ⟨h.1.1,h.1.2,h.2.1,h.2.2⟩
theorem Zop {c:PSG} (h:sgV c=true):c.arcs.length≤4000:=by
 have:=(ZgB h).1
 unfold ZeM at this
 simp only[Bool.and_eq_true,Bool.not_eq_true',decide_eq_false_iff_not] at this
 omega
def Zq0 (c:PSG) (n:PNet):Bool:=((!Ze9 c.arcs)&&decide (((Zge Zhs c).length:Int)=0))&&decide (c.signals=n.signals)
def goP (c:PSG) (n:PNet):Bool:=(sgV c&&ZfI n)&&Zq0 c n
theorem ZrG (c:PSG) (n:PNet) (hc:SGFit c) (hn:n.Fit):ZgI [eSG c,Zak n]=some (pB (goP c n)):=by
 have g1:=ZpU c hc
 have g2:=Zoj n hn
 show (fun x0 x1=>ZgI [x0,x1]) _ _=_
 rw[Zqa]
 unfold goP Zq0
 simp only[eSG,Zak] at g1 g2
 cases c1:sgV c
 ·rw[c1] at g1;simp only[eSG,Zak,ZbM,Zaz,g1,EVS]
 cases c2:ZfI n
 ·rw[c1] at g1;rw[c2] at g2;simp only[eSG,Zak,ZbM,Zaz,g1,g2,EVS]
 rw[c1] at g1;rw[c2] at g2
 have g3:=ZmX c hc.arcs
 rw[ZpV (ZgB c1).2.2.1] at g3
 have g4:=ZpW c (Zop c1)
 rw[ZtK (ZgB c1).2.2.1] at g4
 have g5:=Zig c.signals n.signals hc.sigs
 simp only[eSG] at g3 g4
 cases c3:Ze9 c.arcs
 ·rw[c3] at g3
  cases c4:decide (((Zge Zhs c).length:Int)=0)
  ·simp only[eSG,Zak,ZbM,Zaz,g1,g2,g3,g4,c4,List.length_map,EVS]
  ·simp only[eSG,Zak,ZbM,Zaz,g1,g2,g3,g4,g5,c4,List.length_map,EVS]
 ·rw[c3] at g3;simp only[eSG,Zak,ZbM,Zaz,g1,g2,g3,EVS]
theorem Zhu (c:PSG) (n:PNet) (hc:SGFit c) (hn:n.Fit):ZaR [eSG c,Zak n]=some (.tup [pB (goP c n),pB (sgV c&&ZfI n)]):=by
 have g1:=ZfK c hc
 have g2:=Zhp n hn
 rw[←net_eq] at g2
 have g3:=ZaZ c.arcs hc.arcs
 have g5:=ZeO c.signals n.signals hc.sigs
 show (fun x0 x1=>ZaR [x0,x1]) _ _=_
 rw[Zhy]
 unfold goP Zq0
 simp only[eSG,Zak] at g1 g2
 cases c1:sgV c
 ·rw[c1] at g1;simp only[eSG,Zak,ZbM,Zaz,g1,EVS];rfl
 cases c2:ZfI n
 ·rw[c1] at g1;rw[c2] at g2;simp only[eSG,Zak,ZbM,Zaz,g1,g2,EVS];rfl
 rw[c1] at g1;rw[c2] at g2
 have g4:=Zoo c (Zop c1)
 simp only[eSG] at g4
 cases c3:Ze9 c.arcs
 ·rw[c3] at g3
  cases c4:decide (((Zge Zhs c).length:Int)=0)
  ·simp only[eSG,Zak,ZbM,Zaz,g1,g2,g3,g4,c4,List.length_map,EVS];rfl
  ·simp only[eSG,Zak,ZbM,Zaz,g1,g2,g3,g4,g5,c4,List.length_map,EVS];rfl
 ·rw[c3] at g3;simp only[eSG,Zak,ZbM,Zaz,g1,g2,g3,EVS];rfl
theorem Zhv {R:Type} (a b:Nat) (st:Nat→List PV) (e:Option R) (f:(List PV→Option R)→List PV→Option R) (hm:b≤9223372036854775807)
 (h1:∀again k,a≤k→k<b→f again (st k)=again (st (k+1)))
 (h2:∀again,f again (st b)=e) (hab:a≤b) (J:List PV) (hJ:st a=J):ZA f 18446744073709551616 J=e:=by
 subst hJ
 have key:=Zdh (R:=R) (fun k:{k:Nat // a≤k∧k≤b}=>st k.1) (fun k=>b+1 - k.1) (fun _=>e) f (fun again k ih=> ?_) 18446744073709551616 ⟨a,Nat.le_refl _,hab⟩ (by simp only;omega)
 ·exact key
 ·obtain ⟨k,hk,hk2⟩:=k
  dsimp only at ih⊢
  by_cases c:k<b
  ·rw[h1 again k hk c]
   exact ih ⟨k+1,by omega,c⟩ (by simp only;omega)
  ·obtain rfl:k=b:=by omega
   exact h2 again
def Zch (good:Nat→Bool) (k:Nat):List Int:=((List.range k).filter good).map fun (i:Nat)=>Int.ofNat i
theorem ZkX (good:Nat→Bool) (k:Nat):(Zch good k).length≤k:=by
 unfold Zch
 rw[List.length_map]
 exact Nat.le_trans (List.length_filter_le _ _) (by simp)
theorem ZpX {good:Nat→Bool} {k:Nat} (h:good k=true):Zch good (k+1)=Zch good k++[(k:Int)]:=by
 unfold Zch
 rw[List.range_succ,List.filter_append]
 simp[h]
theorem ZrH {good:Nat→Bool} {k:Nat} (h:good k=false):Zch good (k+1)=Zch good k:=by
 unfold Zch
 rw[List.range_succ,List.filter_append]
 simp[h]
def ZQ (n:PNet) (s:List UInt8) (k:Nat):Bool:=match n.wires[k]? with|some w=>Zid n s k w !=Zjt s k|none=>false
theorem ZkY (n:PNet) (s:List UInt8) (hn:n.Fit) (hs:Zx s) (hv:Ze7 n s=true) (hb:n.wires.length≤1048576):ZcN [Zak n,.str s]=some (.lst ((Zch (ZQ n s) n.wires.length).map pI)):=by
 show (fun x0 x1=>ZcN [x0,x1]) _ _=_
 rw[ZjA]
 simp only[Zak,EVS]
 refine (congrArg (fun m:Option PV=>m) (Zhv (R:=PV) 0 n.wires.length (fun k=>[.lst ((Zch (ZQ n s) k).map pI),pI (Int.ofNat k)]) (some (.lst ((Zch (ZQ n s) n.wires.length).map pI))) _ (by omega) (fun again k h1 h2=> ?_) (fun again=> ?_) (Nat.zero_le _) _ (by simp[Zch]))).trans ?_
 ·have ha:=at_of n s k hn hs hv h2
  have a1:=Zol n s k _ ha
  simp only[Zak] at a1
  have hk:k<s.length:=ha.lt
  have hby:=Zr (k:=.i64) (List.getElem?_eq_getElem hk)
  have ho:Zjt s k=decide ((s[k].toNat:Int)=49):=by unfold Zjt;rw[List.getElem?_eq_getElem hk]
  have he:ZQ n s k=(Zid n s k n.wires[k] !=Zjt s k):=by unfold ZQ;rw[List.getElem?_eq_getElem h2]
  have hl:(Zch (ZQ n s) k).length+[pI (k:Int)].length≤4294967296∧[pI (k:Int)].all (ZbP 1)=true:=⟨by have:=ZkX (ZQ n s) k;simp;omega,rfl⟩
  have he':(!Zid n s k n.wires[k]==decide ((s[k].toNat:Int)=49))=ZQ n s k:=by rw[he,ho];rfl
  have hm:n.wires.length≤9223372036854775807:=by omega
  simp only[Zam h2,hby,a1,he',EVS]
  cases hE:ZQ n s k
  ·simp only[Zl h2 hm,ZrH hE,EVS]
  ·simp only[if_pos hl,Zl h2 hm,ZpX hE,List.map_append,List.map_cons,List.map_nil,EVS]
 ·simp only[ZaI,EVS]
 ·rfl
theorem Zij (n:PNet) (s:List UInt8) (k:Nat) (hn:n.Fit) (hs:Zx s) (hv:Ze7 n s=true) (h2:k<n.wires.length):ZaS [Zak n,.str s,pI k]=some (pB (ZQ n s k)):=by
 have ha:=at_of n s k hn hs hv h2
 have a1:=ZmR n s k _ ha
 simp only[Zak] at a1
 have hk:k<s.length:=ha.lt
 have hby:=Zr (k:=.i64) (List.getElem?_eq_getElem hk)
 have he:ZQ n s k=(Zid n s k n.wires[k] !=decide ((s[k].toNat:Int)=49)):=by unfold ZQ Zjt;rw[List.getElem?_eq_getElem h2,List.getElem?_eq_getElem hk]
 have hbit:ZfJ s[k]=true:=by
  unfold Ze7 Zao at hv
  simp only[Bool.and_eq_true] at hv
  exact Zie _ _ _ hv.2.1 k _ (List.getElem?_eq_getElem hk)
 unfold ZfJ at hbit
 simp only[Bool.or_eq_true,decide_eq_true_eq] at hbit
 show (fun x0 x1 x2=>ZaS [x0,x1,x2]) _ _ _=_
 rw[ZhA]
 simp only[Zak,a1,hby,ZtF,he,EVS]
 cases Zid n s k n.wires[k]<;>rcases hbit with h|h<;>rw[h]<;>rfl
theorem ZiR {n:PNet} (h:ZfI n=true):n.signals.length≤n.wires.length∧n.wires.length≤24:=by
 unfold ZfI at h
 simp only[Bool.and_eq_true,Bool.not_eq_true',decide_eq_false_iff_not] at h
 omega
def Zoq (a:PArc):ZdG:=(a.from_,a.sig,a.up,a.to_)
def ZkZ (c:PSG):List (List Int):=ZcB c.codes.length c.signals.length (c.arcs.map Zoq)
def toC (c:PSG) (k s:Nat):Int:=Zdq (ZkZ c) k s
structure Go1 (c:PSG) (n:PNet):Prop where
 net:ZfI n=true
 one:1≤c.codes.length
 many:c.codes.length≤300
 sone:1≤c.signals.length
 smany:c.signals.length≤8
 few:c.arcs.length≤4000
 bits:∀x∈c.codes,Zao x c.signals.length=true
 arcs:∀a∈c.arcs,0≤a.from_∧a.from_<c.codes.length∧0≤a.to_∧a.to_<c.codes.length∧0≤a.sig∧a.sig<c.signals.length
 det:∀a∈c.arcs,∀b∈c.arcs,a.from_=b.from_→a.sig=b.sig→a.to_=b.to_
 same:c.signals=n.signals
 fitc:SGFit c
 fitn:n.Fit
theorem Zk0 (w:PArc→PArc→Bool) (i:Nat) (a:PArc):∀(l:List PArc) (k:Nat) (acc:List (Nat×Nat)),Zcw w i a k acc l=[]→acc=[]∧∀b∈l,w a b=false
 |[],k,acc,h=>⟨h,by simp⟩
 | b::l,k,acc,h=>by
  unfold Zcw at h
  obtain ⟨h1,h2⟩:=Zk0 w i a l (k+1) _ h
  cases c:w a b
  ·rw[c] at h1
   simp only[Bool.false_eq_true,if_false] at h1
   refine ⟨h1,fun x hx=> ?_⟩
   rcases List.mem_cons.1 hx with rfl|hx
   ·exact c
   ·exact h2 x hx
  ·rw[c] at h1
   simp at h1
theorem Zk1 (w:PArc→PArc→Bool) (arcs:List PArc):∀(l:List PArc) (k:Nat) (acc:List (Nat×Nat)),Zfb w arcs k acc l=[]→acc=[]∧∀(i:Nat) (a:PArc),l[i]?=some a→∀b∈arcs.drop (k+i+1),w a b=false
 |[],k,acc,h=>⟨h,by simp⟩
 | a::l,k,acc,h=>by
  unfold Zfb at h
  obtain ⟨h1,h2⟩:=Zk1 w arcs l (k+1) _ h
  obtain ⟨h3,h4⟩:=Zk0 w _ a _ _ _ h1
  refine ⟨h3,fun i x hx=> ?_⟩
  cases i with
  |zero=>simp at hx;subst hx;exact h4
  | succ i=>
   have:=h2 i x (by simpa using hx)
   rwa[show k+1+i+1=k+(i+1)+1 by omega] at this
theorem ZrI {c:PSG} (h:ZeM c=true):1≤c.signals.length∧c.signals.length≤8:=by
 unfold ZeM Zg2 inR at h
 simp only[Bool.and_eq_true,decide_eq_true_eq] at h
 omega
theorem Zk2 {c:PSG} {n:PNet} (h:goP c n=true) (hc:SGFit c) (hn:n.Fit):Go1 c n:=by
 unfold goP Zq0 at h
 simp only[Bool.and_eq_true,Bool.not_eq_true',decide_eq_true_eq] at h
 obtain ⟨⟨hs,hnet⟩,⟨hh,hw⟩,hsame⟩:=h
 obtain ⟨h1,h2,h3,h4⟩:=ZgB hs
 have hp:=Zf9 h1 h2
 have hsg:=ZrI h1
 have harc:∀a∈c.arcs,0≤a.from_∧a.from_<c.codes.length∧0≤a.to_∧a.to_<c.codes.length∧0≤a.sig∧a.sig<c.signals.length:=fun a ha=>by
  have h5:=List.all_eq_true.1 h3 a ha
  have h6:a.sig≠ -1:=fun e=>by
   have:Ze9 c.arcs=true:=List.any_eq_true.2 ⟨a,ha,decide_eq_true e⟩
   rw[this] at hh;cases hh
  unfold Zhr Zb8 Zd9 inR at h5
  simp only[Bool.and_eq_true,Bool.or_eq_true,decide_eq_true_eq] at h5
  omega
 refine ⟨hnet,hp.one,hp.many,hsg.1,hsg.2,hp.arcs,hp.bits,harc, ?_,hsame,hc,hn⟩
 have hways:Zge Zhs c=[]:=List.length_eq_zero_iff.1 (by omega)
 have hkey:=(Zk1 Zhs c.arcs c.arcs 0 [] hways).2
 have hlt:∀(i j:Nat) (a b:PArc),i<j→c.arcs[i]?=some a→c.arcs[j]?=some b→a.from_=b.from_→a.sig=b.sig→a.to_=b.to_:=fun i j a b hij hi hj e1 e2=>by
  have:=hkey i a hi b (by
   rw[Nat.zero_add]
   refine List.mem_of_getElem? (i:=j - (i+1)) ?_
   rw[List.getElem?_drop,show i+1+(j - (i+1))=j by omega]
   exact hj)
  have h6:=(harc a (List.mem_of_getElem? hi)).2.2.2.2.1
  unfold Zhs at this
  simp only[e1,e2,decide_true,Bool.and_true,Bool.true_and] at this
  have hn1:decide (b.sig= -1)=false:=by simp only[decide_eq_false_iff_not];omega
  rw[hn1] at this
  simp only[Bool.not_false,Bool.true_and,Bool.not_eq_false',decide_eq_true_eq] at this
  exact this.symm
 intro a ha b hb e1 e2
 obtain ⟨i,hi⟩:=List.getElem?_of_mem ha
 obtain ⟨j,hj⟩:=List.getElem?_of_mem hb
 rcases Nat.lt_trichotomy i j with h|h|h
 ·exact hlt i j a b h hi hj e1 e2
 ·subst h;rw[hi] at hj;cases hj;rfl
 ·exact (hlt j i b a h hj hi e1.symm e2.symm).symm
theorem Zk3 {c:PSG} {n:PNet} (h:Go1 c n) {k s:Nat} (hk:k<c.codes.length) (hs:s<c.signals.length):
 (∃a∈c.arcs,(a.from_=(k:Int)∧a.sig=(s:Int))∧toC c k s=a.to_)∨(toC c k s= -1∧∀a∈c.arcs,¬(a.from_=(k:Int)∧a.sig=(s:Int))):=by
 rcases Zo0 hk hs (c.arcs.map Zoq) with ⟨q,hq,h1,h2⟩|⟨h1,h2⟩
 ·obtain ⟨a,ha,rfl⟩:=List.mem_map.1 hq
  have:=h.arcs a ha
  refine .inl ⟨a,ha, ?_,h2⟩
  unfold Zoq at h1
  dsimp only at h1
  omega
 ·refine .inr ⟨h1,fun a ha hc=> ?_⟩
  have:=h.arcs a ha
  refine h2 (Zoq a) (List.mem_map.2 ⟨a,ha,rfl⟩) ?_
  unfold Zoq
  dsimp only
  omega
theorem toC_in {c:PSG} {n:PNet} (h:Go1 c n) {k s:Nat} (hk:k<c.codes.length) (hs:s<c.signals.length): -1≤toC c k s∧toC c k s<c.codes.length:=by
 rcases Zk3 h hk hs with ⟨a,ha,_,h2⟩|⟨h1,_⟩
 ·have:=h.arcs a ha;omega
 ·have:=h.one;omega
theorem Zor {R:Type} (q:PArc→Bool) (z:PArc→Option R) (e:Option R):∀(l:List PArc) (k:Nat),rgo (fun _ a=>if q a=true then some (z a) else none) e k l=match l.find? q with|some a=>z a|none=>e
 |[],k=>rfl
 | a::l,k=>by
  unfold rgo
  rw[List.find?_cons]
  cases c:q a
  ·simp only[Bool.false_eq_true,if_false]
   exact Zor q z e l (k+1)
  ·simp
theorem ZrJ (c:PSG) (n:PNet) (k s:Nat) (h:Go1 c n) (hk:k<c.codes.length) (hs:s<c.signals.length):ZgC [eSG c,pI (k:Int),pI (s:Int)]=some (pI (toC c k s)):=by
 have hl:=h.few
 show (fun x0 x1 x2=>ZgC [x0,x1,x2]) _ _ _=_
 rw[Zp0]
 simp only[eSG,List.length_map,EVS]
 refine (congrArg (fun m:Option PV=>m.bind fun r=>if r.sc=true then some r else none) ((Zpa (R:=PV) c.arcs (fun _ a=>if (decide (a.from_=(k:Int))&&decide (a.sig=(s:Int)))=true then some (some (pI a.to_)) else none) (some (pI (-1))) _ (by omega) (fun again j a ha=> ?_) (fun again=> ?_)).trans (Zor _ _ _ _ _))).trans ?_
 ·have hj:=Zg ha
  have hi:Zo (.lst (c.arcs.map Zan)) (.int .i64 (j:Int))=some (Zan a):=Zn ha
  cases c1:decide (a.from_=(k:Int))<;>cases c2:decide (a.sig=(s:Int))<;>simp only[Zam hj,Zl hj (show c.arcs.length≤9223372036854775807 by omega),hi,Zan,c1,c2,Bool.false_eq_true,if_false,if_true,EVS]
 ·simp only[ZaI,EVS]
  rfl
 ·cases hf:c.arcs.find? (fun a=>decide (a.from_=(k:Int))&&decide (a.sig=(s:Int))) with
  | none=>
   have hno:=List.find?_eq_none.1 hf
   rcases Zk3 h hk hs with ⟨a,ha,h1,h2⟩|⟨h1,h2⟩
   ·exact absurd (by simp[h1]) (hno a ha)
   ·rw[h1];rfl
  | some a=>
   have ha:=List.mem_of_find?_eq_some hf
   have hq:=List.find?_some hf
   simp only[Bool.and_eq_true,decide_eq_true_eq] at hq
   rcases Zk3 h hk hs with ⟨b,hb,h1,h2⟩|⟨h1,h2⟩
   ·rw[h2,h.det b hb a ha (by omega) (by omega)];rfl
   ·exact absurd hq (h2 a ha)
def Zgf (c:PSG) (n:PNet):PV:=.agg [.lst (c.signals.map Z6),.lst (c.codes.map PV.str),.lst (c.arcs.map Zan),.lst (n.signals.map Z6),.lst (n.wires.map Zac),.lst ((ZkZ c).map Zo2)]
def zSys :PV:=.agg [.lst [],.lst [],.lst [],.lst [],.lst [],.lst []]
set_option maxRecDepth 20000 in
theorem ZlB (c:PSG) (n:PNet) (hc:SGFit c) (hn:n.Fit):Zdy [eSG c,Zak n]=some (.tup [if goP c n=true then Zgf c n else zSys,pB (goP c n)]):=by
 have g:=Zhu c n hc hn
 show (match ZaR [eSG c,Zak n] with
  | some (.tup [.bool is,.bool ok])=>
   match ok&&is with
   | true=>match ZfB (c.arcs.map Zan) with
    |some ars=>if 1≤(c.signals.map Z6).length∧(c.signals.map Z6).length≤1048576∧(c.codes.map PV.str).length≤1000000∧(ars.all (Zis (c.codes.map PV.str).length (c.signals.map Z6).length))=true then some (PV.tup [.agg [.lst (c.signals.map Z6),.lst (c.codes.map PV.str),.lst (c.arcs.map Zan),.lst (n.signals.map Z6),.lst (n.wires.map Zac),.lst ((ZcB (c.codes.map PV.str).length (c.signals.map Z6).length ars).map Zo2)],.bool true]) else none
    |none=>none
   |false=>some (PV.tup [.agg [.lst [],.lst [],.lst [],.lst [],.lst [],.lst []],.bool false])
  |_=>none)=_
 rw[g]
 have hgo:((sgV c&&ZfI n)&&goP c n)=goP c n:=by
  unfold goP
  cases sgV c<;>cases ZfI n<;>simp
 show (match ((sgV c&&ZfI n)&&goP c n) with
  | true=>match ZfB (c.arcs.map Zan) with
   |some ars=>if 1≤(c.signals.map Z6).length∧(c.signals.map Z6).length≤1048576∧(c.codes.map PV.str).length≤1000000∧(ars.all (Zis (c.codes.map PV.str).length (c.signals.map Z6).length))=true then some (PV.tup [.agg [.lst (c.signals.map Z6),.lst (c.codes.map PV.str),.lst (c.arcs.map Zan),.lst (n.signals.map Z6),.lst (n.wires.map Zac),.lst ((ZcB (c.codes.map PV.str).length (c.signals.map Z6).length ars).map Zo2)],.bool true]) else none
   |none=>none
  |false=>some (PV.tup [.agg [.lst [],.lst [],.lst [],.lst [],.lst [],.lst []],.bool false]))=_
 rw[hgo]
 cases hg:goP c n
 ·rfl
 ·have h:=Zk2 hg hc hn
  have ha:ZfB (c.arcs.map Zan)=some (c.arcs.map Zoq):=by
   have:c.arcs.map Zan=(c.arcs.map Zoq).map pArc:=by rw[List.map_map];rfl
   rw[this,Zlm]
  dsimp only
  rw[ha]
  dsimp only
  rw[if_pos]
  ·simp only[if_true,List.length_map];rfl
  ·simp only[List.length_map]
   have h1:=h.sone
   have h2:=h.smany
   have h3:=h.many
   refine ⟨h1,by omega,by omega,List.all_eq_true.2 fun q hq=> ?_⟩
   obtain ⟨a,ha,rfl⟩:=List.mem_map.1 hq
   have:=h.arcs a ha
   unfold Zis Zoq
   simp only[decide_eq_true_eq]
   omega
def ePs (b:PSt):PV:=.agg [pI b.state,.str b.values]
theorem Zs3 (a b c d e f:PV):Zc true 3 2 [a,b,c,d,e,f]=some (.agg [d,e]):=rfl
theorem Zs4 (a b c d e f a' b' c' d' e' f':PV):splice [a,b,c,d,e,f] 0 [a',b',c',d',e',f']=[a',b',c',d',e',f']:=rfl
theorem pv_6 (a b c d e f:PV):Zc true 0 6 [a,b,c,d,e,f]=some (.agg [a,b,c,d,e,f]):=rfl
theorem Go1.vals {c:PSG} {n:PNet} (h:Go1 c n) {v:List UInt8} (hb:Zao v n.wires.length=true):Ze7 n v=true∧Zx v∧v.length=n.wires.length∧n.wires.length≤24∧n.signals.length≤n.wires.length∧n.signals.length=c.signals.length:=by
 have h1:=ZiR h.net
 have h2:=(ZeK.1 hb).2
 refine ⟨by unfold Ze7;rw[h.net,hb];rfl,by unfold Zx;omega,h2,h1.2,h1.1,by rw[h.same]⟩
theorem Go1.code {c:PSG} {n:PNet} (h:Go1 c n):∃x,c.codes[0]?=some x∧Zao x n.signals.length=true:=by
 have h1:=h.one
 refine ⟨c.codes[0],List.getElem?_eq_getElem (by omega), ?_⟩
 rw[←h.same]
 exact h.bits _ (List.getElem_mem _)
theorem ZtM (c:PSG) {k:Nat} (hk:k<c.codes.length):∃row,(ZkZ c)[k]?=some row∧row.length=c.signals.length∧∀s,toC c k s=row.getD s (-1):=by
 have hl:(ZkZ c).length=c.codes.length:=Zqf _ _ _
 refine ⟨(ZkZ c)[k]'(by omega),List.getElem?_eq_getElem _,Zqg _ _ _ _ (List.getElem_mem _),fun s=> ?_⟩
 unfold toC Zdq
 rw[List.getD_eq_getElem?_getD (l:=ZkZ c),List.getElem?_eq_getElem (by omega)]
 rfl
theorem Zos (c:PSG) {k s:Nat} (hk:k<c.codes.length) (hs:s<c.signals.length):∃row:List PV,Zo (.lst ((ZkZ c).map Zo2)) (.int .i64 (k:Int))=some (.lst row)∧Zo (.lst row) (.int .i64 (s:Int))=some (pI (toC c k s)):=by
 obtain ⟨row,h1,h2,h3⟩:=ZtM c hk
 refine ⟨row.map pI,Zn h1, ?_⟩
 refine Zqm ?_
 rw[h3 s,List.getElem?_map,List.getElem?_eq_getElem (by omega),List.getD_eq_getElem?_getD,List.getElem?_eq_getElem (by omega)]
 rfl
def ZiS (n:PNet) (k:Nat):Int:=match n.wires[k]? with|some w=>w.kind|none=>0
def inAt (n:PNet) (k:Nat):Bool:=match n.signals[k]? with|some s=>decide (s.2=1)|none=>false
theorem ZtO {n:PNet} (hv:ZfI n=true) {k:Nat} (hk:k<n.signals.length):decide (ZiS n k=1)=inAt n k:=by
 have hs:=(ZiR hv).1
 have hw:n.wires[k]?=some n.wires[k]:=List.getElem?_eq_getElem (by omega)
 have hsg:n.signals[k]?=some n.signals[k]:=List.getElem?_eq_getElem hk
 unfold ZiS inAt
 rw[hw,hsg]
 unfold ZfI at hv
 simp only[Bool.and_eq_true] at hv
 have h1:=Zie _ _ _ hv.2 k _ hw
 rw[Nat.zero_add] at h1
 unfold Zb6 ZkJ ZeJ at h1
 have hd:decide ((k:Int)<(n.signals.length:Int))=true:=by simp only[decide_eq_true_eq];omega
 rw[hd,hsg] at h1
 simp only[Bool.and_eq_true,Bool.not_true,Bool.false_or,beq_iff_eq] at h1
 exact h1.1.1.1.2.2
def Zk4 (c:PSG) (n:PNet) (s:Nat) (v:List UInt8) (k:Nat):Bool:=if n.signals.length≤k then ZQ n v k else decide (0≤toC c s k)&&(decide (ZiS n k=1)||ZQ n v k)
theorem Zot (c:PSG) (n:PNet) (h:Go1 c n) (s:Nat) (v:List UInt8) (k:Nat) (hs:s<c.codes.length) (hb:Zao v n.wires.length=true) (hk:k<n.wires.length):Zbq [Zgf c n,ePs ⟨s,v⟩,pI (k:Int)]=some (pB (Zk4 c n s v k)):=by
 obtain ⟨h1,h2,h3,h4,h5,h6⟩:=h.vals hb
 have g:=Zij n v k h.fitn h2 h1 hk
 simp only[Zak] at g
 show (fun x0 x1 x2=>Zbq [x0,x1,x2]) _ _ _=_
 rw[ZgT]
 unfold Zk4
 by_cases c1:n.signals.length≤k
 ·have hd:decide ((n.signals.length:Int)≤(k:Int))=true:=by simp only[decide_eq_true_eq];omega
  rw[if_pos c1]
  simp only[Zgf,ePs,List.length_map,hd,Zs3,g,EVS]
 ·have hd:decide ((n.signals.length:Int)≤(k:Int))=false:=by simp only[decide_eq_false_iff_not];omega
  obtain ⟨row,r1,r2⟩:=Zos c hs (show k<c.signals.length by omega)
  have hw:Zo (.lst (n.wires.map Zac)) (.int .i64 (k:Int))=some (Zac n.wires[k]):=Zn (List.getElem?_eq_getElem hk)
  have hkd:ZiS n k=n.wires[k].kind:=by unfold ZiS;rw[List.getElem?_eq_getElem hk]
  rw[if_neg c1,hkd]
  cases c2:decide (0≤toC c s k)<;>cases c3:decide (n.wires[k].kind=1)<;>simp only[Zgf,ePs,List.length_map,hd,Zs3,r1,r2,c2,c3,hw,Zac,List.drop_succ_cons,List.drop_zero,g,EVS]
def flB (b:UInt8):UInt8:=if b=48 then 49 else 48
def Zea (v:List UInt8) (k:Nat):List UInt8:=v.set k (flB (v.getD k 48))
def Zdl (c:PSG) (n:PNet) (s:Nat) (v:List UInt8) (k:Nat):PSt:=⟨if k<n.signals.length then toC c s k else s,Zea v k⟩
theorem ZtP (b:UInt8):ZfJ (flB b)=true:=by unfold flB;split<;>decide
theorem Zk5 {v:List UInt8} {N k:Nat} (h:Zao v N=true):Zao (Zea v k) N=true:=by
 rw[ZeK] at h⊢
 refine ⟨fun b hb=> ?_,by unfold Zea;rw[List.length_set];exact h.2⟩
 unfold Zea at hb
 rcases List.mem_or_eq_of_mem_set hb with hb|rfl
 ·exact h.1 b hb
 ·exact ZtP _
theorem ZtQ {b:UInt8} (h:ZfJ b=true):Ze .xor (TD.int .u8) (pU b) (.int .u8 1)=some (pU (flB b)):=by
 rcases (Zs1 b).1 h with rfl|rfl<;>rfl
theorem Zs5 (c:PSG) (n:PNet) (h:Go1 c n) (s:Nat) (v:List UInt8) (k:Nat) (hs:s<c.codes.length) (hb:Zao v n.wires.length=true) (hk:k<n.wires.length):Zcs [Zgf c n,ePs ⟨s,v⟩,pI (k:Int)]=some (ePs (Zdl c n s v k)):=by
 obtain ⟨h1,h2,h3,h4,h5,h6⟩:=h.vals hb
 have hc:=ZtH v h2
 have hvk:v[k]?=some v[k]:=List.getElem?_eq_getElem (by omega)
 have p1:ZfH (v.map pU) (.int .i64 (k:Int))=some (.int .i64 (k:Int)):=Zj4 (by rw[List.length_map];omega)
 have q1:(v.map pU)[k]?=some (pU v[k]):=by rw[List.getElem?_map,hvk];rfl
 have hx:=ZtQ ((ZeK.1 hb).1 v[k] (List.getElem_mem _))
 have hse:Zbn 0 1 [pU v[k]] (pU v[k]) (pU (flB v[k]))=some (pU (flB v[k])):=rfl
 have st:(v.map pU).set k (pU (flB v[k]))=(v.set k (flB v[k])).map pU:=ZmS pU v k _
 have hbo:=ZfU (v.set k (flB v[k]))
 have hfv:Zea v k=v.set k (flB v[k]):=by unfold Zea;rw[List.getD_eq_getElem?_getD,hvk];rfl
 show (fun x0 x1 x2=>Zcs [x0,x1,x2]) _ _ _=_
 rw[ZiW]
 unfold Zdl
 rw[hfv]
 by_cases c1:k<n.signals.length
 ·have hd:decide ((k:Int)<(n.signals.length:Int))=true:=by simp only[decide_eq_true_eq];omega
  obtain ⟨row,r1,r2⟩:=Zos c hs (show k<c.signals.length by omega)
  rw[if_pos c1]
  simp only[Zgf,ePs,List.length_map,hc,p1,q1,Int.toNat_natCast,hx,hse,st,hbo,hd,r1,r2,EVS]
 ·have hd:decide ((k:Int)<(n.signals.length:Int))=false:=by simp only[decide_eq_false_iff_not];omega
  rw[if_neg c1]
  simp only[Zgf,ePs,List.length_map,hc,p1,q1,Int.toNat_natCast,hx,hse,st,hbo,hd,EVS]
theorem ZmZ (v:List UInt8) (k:Nat) (hk:k<v.length) (hv:Zx v):Zdz [.str v,pI (k:Int)]=some (.str (Zea v k)):=by
 have hvk:v[k]?=some v[k]:=List.getElem?_eq_getElem hk
 have hb:Zaf (.str v) (.int .i64 (k:Int))=some (pU v[k]):=Zr hvk
 have g1:=ZiO (decide ((v[k].toNat:Int)=48))
 have g2:=ZiP v k (Zju (decide ((v[k].toNat:Int)=48))) hk hv
 have hfb:Zju (decide ((v[k].toNat:Int)=48))=flB v[k]:=by
  unfold flB
  have:((v[k].toNat:Int)=48)↔v[k]=48:=by rw[←UInt8.toNat_inj];exact Int.ofNat_inj
  by_cases c:v[k]=48
  ·rw[if_pos c,decide_eq_true (this.2 c)];rfl
  ·rw[if_neg c,decide_eq_false (fun e=>c (this.1 e))];rfl
 show (fun x0 x1=>Zdz [x0,x1]) _ _=_
 rw[ZlH]
 unfold Zea
 rw[List.getD_eq_getElem?_getD,hvk,Option.getD_some,←hfb]
 simp only[hb,g1,g2,EVS]
theorem ZrK (l:List Int) (x:Int) (hl:Zx l):ZgD [.lst (l.map pI),pI x]=some (pB (decide (x∈l))):=by
 unfold Zx at hl
 show (fun x0 x1=>ZgD [x0,x1]) _ _=_
 rw[Zp2]
 simp only[EVS]
 refine (congrArg (fun m:Option PV=>m.bind fun r=>if r.sc=true then some r else none) (Z5 (R:=PV) l (fun _ y=> !decide (x=y)) (some (pB true)) (some (pB false)) _ hl (fun again k y hx=> ?_) (fun again=> ?_))).trans ?_
 ·have hk:=Zg hx
  have hi:Zo (.lst (l.map pI)) (.int .i64 (k:Int))=some (pI y):=Zn hx
  have he:decide (y=x)=decide (x=y):=by rw[Bool.eq_iff_iff,decide_eq_true_eq,decide_eq_true_eq];exact eq_comm
  simp only[Zam hk,Zl hk hl,hi,he,EVS]
  cases decide (x=y)<;>simp only[EVS]
 ·simp only[ZaI,EVS]
 ·rw[Zgb]
  cases decide (x∈l)<;>rfl
theorem ZpY (good:Nat→Bool) (N k:Nat) (hk:k<N):decide ((k:Int)∈Zch good N)=good k:=by
 unfold Zch
 rw[Bool.eq_iff_iff,decide_eq_true_eq,List.mem_map]
 constructor
 ·rintro ⟨i,hi,he⟩
  rw[List.mem_filter] at hi
  have:i=k:=by have:(i:Int)=(k:Int):=he;omega
  rw[←this]
  exact hi.2
 ·intro h
  exact ⟨k,List.mem_filter.2 ⟨List.mem_range.2 hk,h⟩,rfl⟩
def ZaP (c:PSG) (n:PNet) (s:Nat) (v:List UInt8) (k:Nat):List Nat:=(List.range k).filter (Zk4 c n s v)
def Zk6 (c:PSG) (n:PNet) (s:Nat) (v:List UInt8) (k:Nat):Bool:=decide (k<n.signals.length)&&((!decide (ZiS n k=1)&&decide (toC c s k<0))&&ZQ n v k)
def ZbG (c:PSG) (n:PNet) (s:Nat) (v:List UInt8) (k:Nat):List Nat:=(List.range k).filter (Zk6 c n s v)
def eNn (i:Nat):PV:=pI (i:Int)
theorem ZeP {good:Nat→Bool} {k:Nat} (h:good k=true):(List.range (k+1)).filter good=(List.range k).filter good++[k]:=by
 rw[List.range_succ,List.filter_append];simp[h]
theorem Zdw {good:Nat→Bool} {k:Nat} (h:good k=false):(List.range (k+1)).filter good=(List.range k).filter good:=by
 rw[List.range_succ,List.filter_append];simp[h]
theorem Zik (good:Nat→Bool) (k:Nat):((List.range k).filter good).length≤k:=by
 have:=List.length_filter_le good (List.range k)
 simpa using this
theorem Zk7 (c:PSG) (n:PNet) (h:Go1 c n) (s:Nat) (v:List UInt8) (hs:s<c.codes.length) (hb:Zao v n.wires.length=true):
 ZaH [Zgf c n,ePs ⟨s,v⟩]=some (.tup [.lst ((ZaP c n s v n.wires.length).map fun k=>ePs (Zdl c n s v k)),.lst ((ZaP c n s v n.wires.length).map eNn)]):=by
 obtain ⟨h1,h2,h3,h4,h5,h6⟩:=h.vals hb
 show (fun x0 x1=>ZaH [x0,x1]) _ _=_
 rw[Zfl]
 simp only[Zgf,ePs,List.length_map,EVS]
 refine (Zhv (R:=PV) 0 n.wires.length (fun k=>[.lst ((ZaP c n s v k).map eNn),.lst ((ZaP c n s v k).map fun k=>ePs (Zdl c n s v k)),pI (Int.ofNat k)]) (some (.tup [.lst ((ZaP c n s v n.wires.length).map fun k=>ePs (Zdl c n s v k)),.lst ((ZaP c n s v n.wires.length).map eNn)])) _ (by omega) (fun again k k1 k2=> ?_) (fun again=> ?_) (Nat.zero_le _) _ (by simp[ZaP]))
 ·have a1:=Zot c n h s v k hs hb k2
  have a2:=Zs5 c n h s v k hs hb k2
  have hcl:(ZaP c n s v k).length≤k:=Zik _ k
  simp only[Zgf,ePs] at a1 a2
  have hm:n.wires.length≤9223372036854775807:=by omega
  have hla:(ZaP c n s v k).length+[ePs (Zdl c n s v k)].length≤4294967296∧[ePs (Zdl c n s v k)].all (ZbP 2)=true:=⟨by simp;omega,rfl⟩
  have hlb:(ZaP c n s v k).length+[pI (k:Int)].length≤4294967296∧[pI (k:Int)].all (ZbP 1)=true:=⟨by simp;omega,rfl⟩
  simp only[ePs] at hla
  simp only[Zam k2,pv_6,a1,EVS]
  cases hE:Zk4 c n s v k
  ·have e1:ZaP c n s v (k+1)=ZaP c n s v k:=Zdw hE
   simp only[Zl k2 hm,e1,EVS]
  ·have e1:ZaP c n s v (k+1)=ZaP c n s v k++[k]:=ZeP hE
   simp only[a2,if_pos hla,if_pos hlb,Zl k2 hm,e1,pv_6,List.map_append,List.map_cons,List.map_nil,eNn,EVS]
   rfl
 ·simp only[ZaI,EVS]
theorem Zou (c:PSG) (n:PNet) (h:Go1 c n) (s:Nat) (v:List UInt8) (hs:s<c.codes.length) (hb:Zao v n.wires.length=true):
 Zec [eSG c,Zak n,ePs ⟨s,v⟩]=some (.tup [.lst ((ZaP c n s v n.wires.length).map fun k=>ePs (Zdl c n s v k)),.lst ((ZaP c n s v n.wires.length).map eNn),.lst ((ZbG c n s v n.wires.length).map eNn)]):=by
 obtain ⟨h1,h2,h3,h4,h5,h6⟩:=h.vals hb
 have g0:=ZkY n v h.fitn h2 h1 (by omega)
 simp only[Zak] at g0
 show (fun x0 x1 x2=>Zec [x0,x1,x2]) _ _ _=_
 rw[Zm4]
 simp only[eSG,Zak,ePs,ZbM,g0,List.length_map,EVS]
 refine (Zhv (R:=PV) 0 n.wires.length (fun k=>[.lst ((ZaP c n s v k).map fun k=>ePs (Zdl c n s v k)),.lst ((ZaP c n s v k).map eNn),.lst ((ZbG c n s v k).map eNn),pI (Int.ofNat k)]) (some (.tup [.lst ((ZaP c n s v n.wires.length).map fun k=>ePs (Zdl c n s v k)),.lst ((ZaP c n s v n.wires.length).map eNn),.lst ((ZbG c n s v n.wires.length).map eNn)])) _ (by omega) (fun again k k1 k2=> ?_) (fun again=> ?_) (Nat.zero_le _) _ (by simp[ZaP,ZbG]))
 ·have g1:=ZrK (Zch (ZQ n v) n.wires.length) k (by unfold Zx;have:=ZkX (ZQ n v) n.wires.length;omega)
  rw[ZpY _ _ _ k2] at g1
  have g2:=ZmZ v k (by omega) h2
  have hcl:(ZaP c n s v k).length≤k:=Zik _ k
  have hcx:(ZbG c n s v k).length≤k:=Zik _ k
  have hm:n.wires.length≤9223372036854775807:=by omega
  have hlb:(ZaP c n s v k).length+[pI (k:Int)].length≤4294967296∧[pI (k:Int)].all (ZbP 1)=true:=⟨by simp;omega,rfl⟩
  have hlx:(ZbG c n s v k).length+[pI (k:Int)].length≤4294967296∧[pI (k:Int)].all (ZbP 1)=true:=⟨by simp;omega,rfl⟩
  by_cases c1:k<n.signals.length
  ·have hd:=Zam c1
   have hsg:Zo (.lst (n.signals.map Z6)) (.int .i64 (k:Int))=some (Z6 n.signals[k]):=Zn (List.getElem?_eq_getElem c1)
   have hin:inAt n k=decide (n.signals[k].2=1):=by unfold inAt;rw[List.getElem?_eq_getElem c1]
   have hki:=ZtO h.net c1
   rw[hin] at hki
   have g3:=ZrJ c n s k h hs (by omega)
   simp only[eSG] at g3
   have hla:(ZaP c n s v k).length+[PV.agg [pI (toC c s k),.str (Zea v k)]].length≤4294967296∧[PV.agg [pI (toC c s k),.str (Zea v k)]].all (ZbP 2)=true:=⟨by simp;omega,rfl⟩
   have hfl:Zdl c n s v k=⟨toC c s k,Zea v k⟩:=by unfold Zdl;rw[if_pos c1]
   have hE:Zk4 c n s v k=(decide (0≤toC c s k)&&(decide (n.signals[k].2=1)||ZQ n v k)):=by unfold Zk4;rw[if_neg (by omega),hki]
   have hX:Zk6 c n s v k=((!decide (n.signals[k].2=1)&&decide (toC c s k<0))&&ZQ n v k):=by unfold Zk6;rw[decide_eq_true c1,hki];rfl
   by_cases c3:0≤toC c s k
   ·have c3':decide (0≤toC c s k)=true:=decide_eq_true c3
    have c3'':decide (toC c s k<0)=false:=decide_eq_false (by omega)
    rw[c3'] at hE
    rw[c3''] at hX
    simp only[Bool.and_false,Bool.false_and,Bool.true_and] at hE hX
    have e2:ZbG c n s v (k+1)=ZbG c n s v k:=Zdw hX
    cases c2:decide (n.signals[k].2=1)<;>cases c4:ZQ n v k<;>rw[c2,c4] at hE<;>rw[c4] at g1<;>simp only[Bool.or_true,Bool.or_false,Bool.true_or,Bool.false_or] at hE
    ·have e1:ZaP c n s v (k+1)=ZaP c n s v k:=Zdw hE
     simp only[Zam k2,hd,hsg,Zaz,g3,g1,c2,c3',List.drop_succ_cons,List.drop_zero,Zl k2 hm,e1,e2,EVS]
    ·have e1:ZaP c n s v (k+1)=ZaP c n s v k++[k]:=ZeP hE
     simp only[Zam k2,hd,hsg,Zaz,g3,g2,g1,c2,c3',List.drop_succ_cons,List.drop_zero,if_pos hla,if_pos hlb,Zl k2 hm,e1,e2,hfl,ePs,List.map_append,List.map_cons,List.map_nil,eNn,EVS]
    ·have e1:ZaP c n s v (k+1)=ZaP c n s v k++[k]:=ZeP hE
     simp only[Zam k2,hd,hsg,Zaz,g3,g2,g1,c2,c3',List.drop_succ_cons,List.drop_zero,if_pos hla,if_pos hlb,Zl k2 hm,e1,e2,hfl,ePs,List.map_append,List.map_cons,List.map_nil,eNn,EVS]
    ·have e1:ZaP c n s v (k+1)=ZaP c n s v k++[k]:=ZeP hE
     simp only[Zam k2,hd,hsg,Zaz,g3,g2,g1,c2,c3',List.drop_succ_cons,List.drop_zero,if_pos hla,if_pos hlb,Zl k2 hm,e1,e2,hfl,ePs,List.map_append,List.map_cons,List.map_nil,eNn,EVS]
   ·have c3':decide (0≤toC c s k)=false:=decide_eq_false c3
    have c3'':decide (toC c s k<0)=true:=decide_eq_true (by omega)
    rw[c3'] at hE
    rw[c3''] at hX
    simp only[Bool.and_true,Bool.false_and,Bool.true_and] at hE hX
    have e1:ZaP c n s v (k+1)=ZaP c n s v k:=Zdw hE
    cases c2:decide (n.signals[k].2=1)<;>cases c4:ZQ n v k<;>rw[c2,c4] at hX<;>rw[c4] at g1<;>simp only[Bool.not_true,Bool.not_false,Bool.and_true,Bool.and_false,Bool.true_and,Bool.false_and] at hX
    ·have e2:ZbG c n s v (k+1)=ZbG c n s v k:=Zdw hX
     simp only[Zam k2,hd,hsg,Zaz,g3,g1,c2,c3',List.drop_succ_cons,List.drop_zero,Zl k2 hm,e1,e2,EVS]
    ·have e2:ZbG c n s v (k+1)=ZbG c n s v k++[k]:=ZeP hX
     simp only[Zam k2,hd,hsg,Zaz,g3,g1,c2,c3',List.drop_succ_cons,List.drop_zero,if_pos hlx,Zl k2 hm,e1,e2,List.map_append,List.map_cons,List.map_nil,eNn,EVS]
    ·have e2:ZbG c n s v (k+1)=ZbG c n s v k:=Zdw hX
     simp only[Zam k2,hd,hsg,Zaz,g3,g1,c2,c3',List.drop_succ_cons,List.drop_zero,Zl k2 hm,e1,e2,EVS]
    ·have e2:ZbG c n s v (k+1)=ZbG c n s v k:=Zdw hX
     simp only[Zam k2,hd,hsg,Zaz,g3,g1,c2,c3',List.drop_succ_cons,List.drop_zero,Zl k2 hm,e1,e2,EVS]
  ·have hd:decide ((k:Int)<(n.signals.length:Int))=false:=by simp only[decide_eq_false_iff_not];omega
   have hE:Zk4 c n s v k=ZQ n v k:=by unfold Zk4;rw[if_pos (by omega)]
   have hX:Zk6 c n s v k=false:=by unfold Zk6;rw[decide_eq_false c1];rfl
   have e2:ZbG c n s v (k+1)=ZbG c n s v k:=Zdw hX
   have hfl:Zdl c n s v k=⟨(s:Int),Zea v k⟩:=by unfold Zdl;rw[if_neg c1]
   have hla:(ZaP c n s v k).length+[PV.agg [pI (s:Int),.str (Zea v k)]].length≤4294967296∧[PV.agg [pI (s:Int),.str (Zea v k)]].all (ZbP 2)=true:=⟨by simp;omega,rfl⟩
   have hge:decide (0≤(s:Int))=true:=decide_eq_true (by omega)
   cases c4:ZQ n v k<;>rw[c4] at hE g1
   ·have e1:ZaP c n s v (k+1)=ZaP c n s v k:=Zdw hE
    simp only[Zam k2,hd,Zaz,g1,hge,Zl k2 hm,e1,e2,EVS]
   ·have e1:ZaP c n s v (k+1)=ZaP c n s v k++[k]:=ZeP hE
    simp only[Zam k2,hd,Zaz,g2,g1,hge,if_pos hla,if_pos hlb,Zl k2 hm,e1,e2,hfl,ePs,List.map_append,List.map_cons,List.map_nil,eNn,EVS]
 ·simp only[ZaI,EVS]
def Zjh (c:PSG) (n:PNet) (b:PSt):Bool:=(inR b.state 0 ((c.codes.length:Int) - 1)&&Zao b.values n.wires.length)&&decide (b.values.take n.signals.length=c.codes.getD b.state.toNat [])
theorem Zk8 (v p:List UInt8) (hv:Zx v) (hp:Zx p):ZV [.str v,.str p]=some (pB (decide (p.length≤v.length)&&decide (v.take p.length=p))):=by
 unfold Zx at hv hp
 show (fun x0 x1=>ZV [x0,x1]) _ _=_
 rw[Zco]
 by_cases c1:p.length≤v.length
 ·have h1:decide ((p.length:Int)≤(v.length:Int))=true:=by simp only[decide_eq_true_eq];omega
  have h2:ZfG (.str v) none (some (.int .i64 (p.length:Int)))=some (.str (v.take p.length)):=Ziw c1
  simp only[h1,h2,c1,EVS]
 ·have h1:decide ((p.length:Int)≤(v.length:Int))=false:=by simp only[decide_eq_false_iff_not];omega
  simp only[h1,c1,EVS]
theorem ZlC (v p:List UInt8) (hv:Zx v) (hp:Zx p):ZaG [.str v,.str p]=some (pB (decide (p.length≤v.length)&&decide (v.take p.length=p))):=by
 have g:=Zk8 v p hv hp
 show (fun x0 x1=>ZaG [x0,x1]) _ _=_
 rw[Zfj]
 simp only[g,EVS]
theorem Zov (c:PSG) (n:PNet) (h:Go1 c n) (b:PSt) (hv:Zx b.values):Zbp [Zgf c n,ePs b]=some (pB (Zjh c n b)):=by
 have h1:=h.one
 have h2:=h.many
 have hw:IntKind.i64.wrap ((c.codes.length:Int) - 1)=(c.codes.length:Int) - 1:=Zdc (by omega) (by omega)
 have g1:=Zaq b.state 0 ((c.codes.length:Int) - 1)
 have g2:=ZkO b.values n.wires.length hv
 show (fun x0 x1=>Zbp [x0,x1]) _ _=_
 rw[ZgR]
 unfold Zjh
 cases c1:inR b.state 0 ((c.codes.length:Int) - 1)
 ·rw[c1] at g1
  simp only[Zgf,ePs,List.length_map,hw,g1,EVS]
 ·cases c2:Zao b.values n.wires.length
  ·rw[c1] at g1;rw[c2] at g2
   simp only[Zgf,ePs,List.length_map,hw,g1,g2,EVS]
  ·rw[c1] at g1;rw[c2] at g2
   have c1':=c1
   unfold inR at c1'
   simp only[Bool.and_eq_true,decide_eq_true_eq] at c1'
   obtain ⟨s,hs⟩:∃s:Nat,b.state=s:=⟨b.state.toNat,by omega⟩
   have hsl:s<c.codes.length:=by omega
   have hc:c.codes[s]?=some c.codes[s]:=List.getElem?_eq_getElem hsl
   have hi:Zo (.lst (c.codes.map PV.str)) (.int .i64 (s:Int))=some (.str c.codes[s]):=Zn hc
   have hcb:=(ZeK.1 (h.bits _ (List.getElem_mem hsl))).2
   obtain ⟨v1,v2,v3,v4,v5,v6⟩:=h.vals c2
   have g3:=ZlC b.values c.codes[s] hv (by unfold Zx;omega)
   rw[hcb,←v6,decide_eq_true (show n.signals.length≤b.values.length by omega),Bool.true_and] at g3
   have hd:c.codes.getD s []=c.codes[s]:=by rw[List.getD_eq_getElem?_getD,hc];rfl
   simp only[hs] at g1
   rw[hs,Int.toNat_natCast,hd]
   simp only[Zgf,ePs,hs,List.length_map,hw,g1,g2,hi,g3,EVS]
theorem Zow (c:PSG) (n:PNet) (hc:SGFit c) (hn:n.Fit) (b:PSt) (hv:Zx b.values):Zeb [eSG c,Zak n,ePs b]=some (pB (goP c n&&Zjh c n b)):=by
 have g0:=ZrG c n hc hn
 have hcl:=hc.codes
 unfold Zx at hcl
 have hw:IntKind.i64.wrap ((c.codes.length:Int) - 1)=(c.codes.length:Int) - 1:=Zdc (by omega) (by omega)
 have g1:=ZaO b.state 0 ((c.codes.length:Int) - 1)
 have g2:=ZkN b.values n.wires.length hv
 simp only[eSG,Zak] at g0
 show (fun x0 x1 x2=>Zeb [x0,x1,x2]) _ _ _=_
 rw[Zm2]
 unfold Zjh
 cases c0:goP c n
 ·rw[c0] at g0
  simp only[eSG,Zak,ePs,ZbM,Zaz,g0,EVS]
 rw[c0] at g0
 have h:=Zk2 c0 hc hn
 cases c1:inR b.state 0 ((c.codes.length:Int) - 1)
 ·have c1':=c1
  unfold inR at c1'
  rw[c1'] at g1
  simp only[eSG,Zak,ePs,ZbM,Zaz,List.length_map,hw,g0,g1,EVS]
 ·have c1':=c1
  unfold inR at c1'
  rw[c1'] at g1
  cases c2:Zao b.values n.wires.length
  ·rw[c2] at g2
   simp only[eSG,Zak,ePs,ZbM,Zaz,List.length_map,hw,g0,g1,g2,EVS]
  ·rw[c2] at g2
   simp only[Bool.and_eq_true,decide_eq_true_eq] at c1'
   obtain ⟨s,hs⟩:∃s:Nat,b.state=s:=⟨b.state.toNat,by omega⟩
   have hsl:s<c.codes.length:=by omega
   have hcs:c.codes[s]?=some c.codes[s]:=List.getElem?_eq_getElem hsl
   have hi:Zo (.lst (c.codes.map PV.str)) (.int .i64 (s:Int))=some (.str c.codes[s]):=Zn hcs
   obtain ⟨v1,v2,v3,v4,v5,v6⟩:=h.vals c2
   have hcut:ZfG (.str b.values) none (some (.int .i64 (n.signals.length:Int)))=some (.str (b.values.take n.signals.length)):=Ziw (by omega)
   have hd:c.codes.getD s []=c.codes[s]:=by rw[List.getD_eq_getElem?_getD,hcs];rfl
   simp only[hs] at g1
   rw[hs,Int.toNat_natCast,hd]
   simp only[eSG,Zak,ePs,hs,ZbM,Zaz,List.length_map,hw,g0,g1,g2,hcut,hi,EVS]
theorem Zm0 {c:PSG} {n:PNet} {b:PSt} (h:Zjh c n b=true):∃s:Nat,b=⟨(s:Int),b.values⟩∧s<c.codes.length∧Zao b.values n.wires.length=true:=by
 unfold Zjh inR at h
 simp only[Bool.and_eq_true,decide_eq_true_eq] at h
 obtain ⟨⟨h1,h2⟩,_⟩:=h
 refine ⟨b.state.toNat, ?_,by omega,h2⟩
 cases b
 simp only[PSt.mk.injEq,and_true]
 dsimp only at h1
 omega
def ZfE (c:PSG) (n:PNet) (b:PSt):Bool:=goP c n&&Zjh c n b
def Zjv (c:PSG) (n:PNet) (b:PSt):List PSt×List Int:=if ZfE c n b=true then ((ZaP c n b.state.toNat b.values n.wires.length).map (Zdl c n b.state.toNat b.values),(ZaP c n b.state.toNat b.values n.wires.length).map fun k:Nat=>(k:Int)) else ([],[])
theorem Zjw (c:PSG) (n:PNet) (b:PSt) (hc:SGFit c) (hn:n.Fit) (hv:Zx b.values):ZcQ [eSG c,Zak n,ePs b]=some (.tup [.lst ((Zjv c n b).1.map ePs),.lst ((Zjv c n b).2.map pI),pB (ZfE c n b)]):=by
 have g0:=Zow c n hc hn b hv
 show (fun x0 x1 x2=>ZcQ [x0,x1,x2]) _ _ _=_
 rw[ZjC]
 unfold Zjv
 cases c0:ZfE c n b
 ·have c0':=c0
  unfold ZfE at c0'
  rw[c0'] at g0
  simp only[eSG,Zak,ePs] at g0
  simp only[eSG,Zak,ePs,ZbM,Zaz,g0,Bool.false_eq_true,if_false,EVS]
  rfl
 ·have c0':=c0
  unfold ZfE at c0'
  rw[c0'] at g0
  rw[Bool.and_eq_true] at c0'
  obtain ⟨s,hb,hs,hbits⟩:=Zm0 c0'.2
  obtain ⟨v,hvv⟩:∃v,b.values=v:=⟨_,rfl⟩
  rw[hvv] at hb hbits
  subst hb
  have g1:=Zou c n (Zk2 c0'.1 hc hn) s v hs hbits
  simp only[eSG,Zak,ePs] at g0 g1
  simp only[eSG,Zak,ePs,ZbM,Zaz,g0,g1,Int.toNat_natCast,if_true,List.map_map,EVS]
  rfl
theorem Zjx (c:PSG) (n:PNet) (b:PSt) (hc:SGFit c) (hn:n.Fit) (hv:Zx b.values):ZcS [eSG c,Zak n,ePs b]=some (.tup [.lst ((Zjv c n b).1.map ePs),.lst ((Zjv c n b).2.map pI),pB (ZfE c n b)]):=by
 have g0:=ZlB c n hc hn
 show (fun x0 x1 x2=>ZcS [x0,x1,x2]) _ _ _=_
 rw[ZjE]
 unfold Zjv ZfE
 cases c0:goP c n
 ·rw[c0] at g0
  simp only[eSG,Zak,zSys,Bool.false_eq_true,if_false] at g0
  simp only[eSG,Zak,ePs,ZbM,Zaz,g0,Zs4,Bool.false_eq_true,if_false,EVS]
  rfl
 ·rw[c0] at g0
  have h:=Zk2 c0 hc hn
  have g2:=Zov c n h b hv
  simp only[eSG,Zak,Zgf,if_true] at g0
  cases c1:Zjh c n b
  ·rw[c1] at g2
   simp only[Zgf,ePs] at g2
   simp only[eSG,Zak,ePs,ZbM,Zaz,g0,g2,Zs4,pv_6,Bool.false_eq_true,if_false,EVS]
   rfl
  ·rw[c1] at g2
   obtain ⟨s,hb,hs,hbits⟩:=Zm0 c1
   obtain ⟨v,hvv⟩:∃v,b.values=v:=⟨_,rfl⟩
   rw[hvv] at hb hbits
   subst hb
   have g1:=Zk7 c n h s v hs hbits
   simp only[Zgf,ePs] at g1 g2
   simp only[eSG,Zak,ePs,ZbM,Zaz,g0,g1,g2,Zs4,pv_6,Int.toNat_natCast,if_true,List.map_map,EVS]
   rfl
theorem Zs6 {c:PSG} {n:PNet} {b:PSt} (h:ZfE c n b=true):n.wires.length≤24:=by
 unfold ZfE goP at h
 simp only[Bool.and_eq_true] at h
 exact (ZiR h.1.1.2).2
def StB (c:PSG) (n:PNet) (b:PSt):Prop:=∃s:Nat,b.state=s∧s<c.codes.length∧Zao b.values n.wires.length=true
theorem Zq1 {c:PSG} {n:PNet} {s:Nat} {v:List UInt8} {N w:Nat} (h:w∈ZaP c n s v N):w<N∧Zk4 c n s v w=true:=by
 unfold ZaP at h
 rw[List.mem_filter] at h
 exact ⟨List.mem_range.1 h.1,h.2⟩
theorem Zs7 {c:PSG} {n:PNet} (h:Go1 c n) {s:Nat} {v:List UInt8} {w:Nat} (hs:s<c.codes.length) (hb:Zao v n.wires.length=true) (hw:Zk4 c n s v w=true):StB c n (Zdl c n s v w):=by
 unfold Zdl
 by_cases c1:w<n.signals.length
 ·rw[if_pos c1]
  unfold Zk4 at hw
  rw[if_neg (by omega),Bool.and_eq_true,decide_eq_true_eq] at hw
  have hsl:w<c.signals.length:=by rw[h.same];exact c1
  have:=toC_in h hs hsl
  exact ⟨(toC c s w).toNat,by show toC c s w=_;omega,by omega,Zk5 hb⟩
 ·rw[if_neg c1]
  exact ⟨s,rfl,hs,Zk5 hb⟩
theorem Zq2 {c:PSG} {n:PNet} {b:PSt} (hc:SGFit c) (hn:n.Fit):(∀x∈(Zjv c n b).1,0≤x.state∧x.state<300∧x.values.length≤24)∧(∀k∈(Zjv c n b).2,0≤k∧k<24)∧(Zjv c n b).1.length≤24∧(Zjv c n b).2.length≤24:=by
 unfold Zjv
 cases hb:ZfE c n b
 ·simp
 ·rw[if_pos rfl]
  have h24:=Zs6 hb
  unfold ZfE at hb
  rw[Bool.and_eq_true] at hb
  have h:=Zk2 hb.1 hc hn
  obtain ⟨s,hbs,hs,hbits⟩:=Zm0 hb.2
  have hlen:(ZaP c n b.state.toNat b.values n.wires.length).length≤n.wires.length:=Zik _ _
  refine ⟨fun x hx=> ?_,fun k hk=> ?_, ?_, ?_⟩
  ·obtain ⟨w,hw,rfl⟩:=List.mem_map.1 hx
   obtain ⟨hw1,hw2⟩:=Zq1 hw
   obtain ⟨v,hvv⟩:∃v,b.values=v:=⟨_,rfl⟩
   rw[hvv] at hbs hbits hw2⊢
   subst hbs
   simp only[Int.toNat_natCast] at hw2⊢
   obtain ⟨t,e1,e2,e3⟩:=Zs7 h hs hbits hw2
   have:=h.many
   have:=(ZeK.1 e3).2
   omega
  ·obtain ⟨w,hw,rfl⟩:=List.mem_map.1 hk
   have:=(Zq1 hw).1
   omega
  ·rw[List.length_map];omega
  ·rw[List.length_map];omega
end Go.Proofs.YtmfplddmccggkaaGreat
