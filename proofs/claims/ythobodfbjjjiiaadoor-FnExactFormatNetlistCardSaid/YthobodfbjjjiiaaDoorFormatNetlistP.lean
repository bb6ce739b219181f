import Derived.Test.YthobodfbjjjiiaaDoorFormatNetlistF
namespace Go.Proofs.YthobodfbjjjiiaaDoor
open Go.RowKit
set_option linter.unusedVariables false
set_option linter.unusedSimpArgs false
theorem Zkq (n lo hi:Int):Zdk [pI n,pI lo,pI hi]=some (pB (decide (lo≤n)&&decide (n≤hi))):=by
 show (fun x0 x1 x2=>Zdk [x0,x1,x2]) _ _ _=_
 rw[Zjf]
 by_cases h:lo≤n<;>simp only[h,EVS]
def Zqt (first:Bool) (b:UInt8):Bool:=(decide ((97:Int)≤b.toNat)&&decide ((b.toNat:Int)≤122))||(!first&&(!decide ((b.toNat:Int)<48)&& !decide ((57:Int)<b.toNat)))
def ZmP :Bool→List UInt8→Bool
 |_,[]=>true
 |f,b::r=>Zqt f b&&ZmP false r
def Zkt (s:List UInt8):Bool:=ZmP true s&&(decide ((1:Int)≤s.length)&&decide ((s.length:Int)≤6))
theorem ZnL (s:List UInt8) (hs:s.length≤9223372036854775807):ZlK [.str s]=some (pB (Zkt s)):=by
 show (fun x0=>ZlK [x0]) _=_
 rw[Zpm]
 refine (congrArg (ZQ true) (Zej (R:=PV) (fun k:Nat=>[pI (Int.ofNat k)]) (fun k=>s.length+1 - k) (fun k=>some (pB (ZmP (k==0) (s.drop k)&&(decide ((1:Int)≤s.length)&&decide ((s.length:Int)≤6))))) _ (fun again k ih=> ?_) _ 0 (by omega))).trans ?_
 ·by_cases hk:k<s.length
  ·obtain ⟨b,hb⟩:∃b,s[k]?=some b:=⟨s[k],List.getElem?_eq_getElem hk⟩
   have hd:s.drop k=b::s.drop (k+1):=by
    obtain ⟨h1,rfl⟩:=List.getElem?_eq_some_iff.1 hb
    exact List.drop_eq_getElem_cons h1
   have hlt:decide ((k:Int)<s.length)=true:=by simpa using hk
   have hw:IntKind.i64.wrap ((k:Int)+1)=((k+1:Nat):Int):=by rw[ZdY (by omega) (by omega)];omega
   have hnext:=ih (k+1) (by omega)
   simp only[Int.ofNat_eq_natCast] at hnext
   have hk0:decide ((k:Int)=0)=(k==0):=by rw[Bool.eq_iff_iff];simp
   rw[hd]
   have hk1:(k+1==0)=false:=rfl
   rw[hk1] at hnext
   have ev1:=hlt
   have ev2:=ZkA (k:=.i64) hb
   simp only[ZmP,Zqt,hlt,ZkA hb,hk0,hw,hnext,EVS]
   by_cases c1:(97:Int)≤b.toNat
   all_goals simp only[c1,ZkA hb,EVS]
   by_cases c2:(b.toNat:Int)≤122
   all_goals try simp only[c2,ZkA hb,EVS]
   all_goals try simp only[hk0]
   all_goals try (cases c5:(k==0))
   all_goals try simp only[c5,ZkA hb,EVS]
   all_goals try (by_cases c3:(b.toNat:Int)<48)
   all_goals try simp only[c3,ZkA hb,EVS]
   all_goals try (by_cases c4:(57:Int)<b.toNat)
   all_goals try simp only[c4,ZkA hb,EVS]
  ·have hd:s.drop k=[]:=List.drop_eq_nil_of_le (by omega)
   have hlt:decide ((k:Int)<s.length)=false:=by simpa using hk
   rw[hd]
   simp only[ZmP,hlt,Zkq,EVS]
 ·simp only[Zkt,List.drop_zero,beq_self_eq_true,EVS]
def Znr (b:UInt8):Bool:=decide ((b.toNat:Int)=48)||decide ((b.toNat:Int)=49)||decide ((b.toNat:Int)=45)
def Zna (s:List UInt8):Bool:=ZdQ (fun _ b=>Znr b) 0 s&&(decide ((1:Int)≤s.length)&&decide ((s.length:Int)≤8))
theorem ZK {α:Type} {l:List α} {k:Nat} {x:α} (h:l[k]?=some x):k<l.length:=(List.getElem?_eq_some_iff.1 h).1
theorem ZcL {k n:Nat} (h:k<n) (hn:n≤9223372036854775807):IntKind.i64.wrap ((k:Int)+1)=((k+1:Nat):Int):=by rw[ZdY (by omega) (by omega)];omega
theorem ZeO {k n:Nat} (h:k<n):decide ((k:Int)<(n:Int))=true:=by simpa using h
theorem Zle {n:Nat}:decide ((n:Int)<(n:Int))=false:=by simp
theorem Zo2 (s:List UInt8) (hs:s.length≤9223372036854775807):ZlR [.str s]=some (pB (Zna s)):=by
 show (fun x0=>ZlR [x0]) _=_
 rw[ZoK]
 refine (congrArg (ZQ true) (Zek (R:=PV) s (fun _ b=>Znr b) (some (pB false)) (some (pB (decide ((1:Int)≤s.length)&&decide ((s.length:Int)≤8)))) _ hs (fun again k b hb=> ?_) (fun again=> ?_))).trans ?_
 ·have hk:=ZK hb
  cases c1:decide ((b.toNat:Int)=48)<;>cases c2:decide ((b.toNat:Int)=49)<;>cases c3:decide ((b.toNat:Int)=45)<;>
   simp only[Znr,ZeO hk,ZcL hk hs,ZkA hb,c1,c2,c3,EVS]
 ·simp only[Zle,Zkq,EVS]
 ·unfold Zna
  cases ZdQ (fun _ b=>Znr b) 0 s<;>simp only[EVS]
abbrev Zj8 (s:List UInt8×Int):PV:=.agg [.str s.1,pI s.2]
def inR (n lo hi:Int):Bool:=decide (lo≤n)&&decide (n≤hi)
def ZnM (l:List (List UInt8×Int)) (k:Nat) (s:List UInt8×Int):Bool:=(Zkt s.1&&inR s.2 1 3)&&ZdQ (fun _ y=> !decide (s.1=y.1)) 0 (l.take k)
def ZnN (l:List (List UInt8×Int)):Bool:=ZdQ (ZnM l) 0 l&&inR l.length 1 8
theorem Zow (x:List UInt8×Int):Zc3 2 (Zj8 x)=true:=rfl
theorem Zoi (l:List (List UInt8×Int)) (hl:l.length≤9223372036854775807) (hs:∀s∈l,s.1.length≤9223372036854775807):Zlv [.lst (l.map Zj8)]=some (pB (ZnN l)):=by
 show (fun x0=>Zlv [x0]) _=_
 rw[Zn9]
 simp only[EVS]
 refine (congrArg (ZQ true) (Zek (R:=PV) l (ZnM l) (some (pB false)) (some (pB (inR l.length 1 8))) _ hl (fun again k s hb=> ?_) (fun again=> ?_))).trans ?_
 ·have hk:=ZK hb
  have hi:ZaW (.lst (l.map Zj8)) (.int .i64 (k:Int))=some (Zj8 s):=Za3 hb
  have hc:Znx 2 (.lst (l.map Zj8)) none (some (.int .i64 (k:Int)))=some (.lst ((l.take k).map Zj8)):=ZnB Zow (by omega)
  have hn:=ZnL s.1 (hs s (List.mem_of_getElem? hb))
  simp only[ZeO hk,ZcL hk hl,hi,Zj8,hn,Zkq,ZnM,inR,EVS]
  obtain c1|c1:=(Bool.eq_false_or_eq_true (Zkt s.1)).symm<;>simp only[c1,Zkq,EVS]
  obtain c2|c2:=(Bool.eq_false_or_eq_true (decide (1≤s.2)&&decide (s.2≤3))).symm<;>simp only[c2,EVS]
  simp only[hc,EVS]
  refine (Zek (R:=PV) (l.take k) (fun _ y=> !decide (s.1=y.1)) (some (pB false)) (again [pI ((k+1:Nat):Int)]) _ (by simp;omega) (fun again' j y hy=> ?_) (fun again'=> ?_)).trans ?_
  ·have hj:=ZK hy
   have hi':ZaW (.lst ((l.take k).map Zj8)) (.int .i64 (j:Int))=some (Zj8 y):=Za3 hy
   simp only[ZeO hj,ZcL hj (by simp;omega),hi',Zj8,EVS]
   cases c3:decide (s.1=y.1)<;>simp only[c3,EVS]
  ·simp only[Zle,ZcL hk hl,EVS]
  ·rfl
 ·simp only[Zle,Zkq,inR,EVS]
 ·unfold ZnN
  cases ZdQ (ZnM l) 0 l<;>simp only[EVS]
def ZnC (n:Int) (l:List (List UInt8)):Bool:=ZdQ (fun _ c=>Zna c&&decide ((c.length:Int)=n)) 0 l
def ZnO (n:Int) (l:List (List UInt8)):Bool:=ZnC n l&&(inR n 1 8&&decide ((l.length:Int)≤60))
theorem Zo3 (n:Int) (l:List (List UInt8)) (hl:l.length≤9223372036854775807) (hs:∀s∈l,s.length≤9223372036854775807):ZlS [pI n,.lst (l.map PV.str)]=some (pB (ZnO n l)):=by
 show (fun x0 x1=>ZlS [x0,x1]) _ _=_
 rw[ZoM]
 simp only[EVS]
 refine (congrArg (ZQ true) (Zek (R:=PV) l (fun _ c=>Zna c&&decide ((c.length:Int)=n)) (some (pB false)) (some (pB (inR n 1 8&&decide ((l.length:Int)≤60)))) _ hl (fun again k s hb=> ?_) (fun again=> ?_))).trans ?_
 ·have hk:=ZK hb
  have hi:ZaW (.lst (l.map PV.str)) (.int .i64 (k:Int))=some (.str s):=Za3 hb
  have hn:=Zo2 s (hs s (List.mem_of_getElem? hb))
  simp only[ZeO hk,ZcL hk hl,hi,hn,EVS]
  obtain c1|c1:=(Bool.eq_false_or_eq_true (Zna s)).symm<;>simp only[c1,EVS]
  obtain c2|c2:=(Bool.eq_false_or_eq_true (decide ((s.length:Int)=n))).symm<;>simp only[c2,EVS]
 ·simp only[Zle,Zkq,inR,EVS]
  obtain c1|c1:=(Bool.eq_false_or_eq_true (decide (1≤n)&&decide (n≤8))).symm<;>simp only[c1,EVS]
 ·unfold ZnO ZnC
  cases ZdQ (fun _ c=>Zna c&&decide ((c.length:Int)=n)) 0 l<;>simp only[EVS]
structure PWire where
 name:List UInt8
 kind:Int
 ins:List (Int×Bool)
 cover:List (List UInt8)
structure PNet where
 signals:List (List UInt8×Int)
 wires:List PWire
abbrev ZkE (p:Int×Bool):PV:=.agg [pI p.1,pB p.2]
abbrev ZiK (w:PWire):PV:=.agg [.str w.name,pI w.kind,.lst (w.ins.map ZkE),.lst (w.cover.map PV.str)]
abbrev Zla (n:PNet):PV:=.agg [.lst (n.signals.map Zj8),.lst (n.wires.map ZiK)]
abbrev Zg8 {α:Type} (l:List α):Prop:=l.length≤9223372036854775807
structure PWire.Fit (w:PWire):Prop where
 name:Zg8 w.name
 ins:Zg8 w.ins
 cover:Zg8 w.cover
 cubes:∀c∈w.cover,Zg8 c
structure PNet.Fit (n:PNet):Prop where
 signals:Zg8 n.signals
 names:∀s∈n.signals,Zg8 s.1
 wires:Zg8 n.wires
 wire:∀w∈n.wires,w.Fit
def ZmN (n:PNet) (k:Nat) (p:Int×Bool):Bool:=inR p.1 0 ((n.wires.length:Int) - 1)&& !(decide ((n.signals.length:Int)≤k)&&decide ((k:Int)≤p.1))
def ZlO (k:Nat) (kind:Int) (ins:List (Int×Bool)):Bool:=
 if decide (kind=1)=true then decide ((ins.length:Int)=0)
 else if decide (kind=4)=true then decide ((ins.length:Int)=2)
 else if decide (kind=5)=true then decide ((ins.length:Int)=0)||(match ins with|[p]=>decide (p.1=k)&& !p.2|_=>false)
 else inR ins.length 1 8
def Zo4 (n:PNet) (k:Nat) (w:PWire):Bool:=ZdQ (fun _ p=>ZmN n k p) 0 w.ins&&ZlO k w.kind w.ins
theorem Zo5 (n:PNet) (k:Nat) (w:PWire) (hn:n.Fit) (hw:w.Fit):ZlT [Zla n,pI k,ZiK w]=some (pB (Zo4 n k w)):=by
 show (fun x0 x1 x2=>ZlT [x0,x1,x2]) _ _ _=_
 rw[ZoO]
 simp only[Zla,ZiK,EVS]
 have hwl:IntKind.i64.wrap ((n.wires.length:Int) - 1)=(n.wires.length:Int) - 1:=ZdY (by omega) (by have:=hn.wires;unfold Zg8 at this;omega)
 have hi0:=hw.ins
 unfold Zg8 at hi0
 refine (congrArg (ZQ true) (Zek (R:=PV) w.ins (fun _ p=>ZmN n k p) (some (pB false)) (some (pB (ZlO k w.kind w.ins))) _ hi0 (fun again j p hb=> ?_) (fun again=> ?_))).trans ?_
 ·have hk:=ZK hb
  have hi:ZaW (.lst (w.ins.map ZkE)) (.int .i64 (j:Int))=some (ZkE p):=Za3 hb
  simp only[ZeO hk,ZcL hk hi0,hi,ZkE,hwl,Zkq,ZmN,inR,EVS]
  obtain c1|c1:=(Bool.eq_false_or_eq_true (decide (0≤p.1)&&decide (p.1≤(n.wires.length:Int) - 1))).symm<;>simp only[c1,EVS]
  obtain c2|c2:=(Bool.eq_false_or_eq_true (decide ((n.signals.length:Int)≤(k:Int)))).symm<;>simp only[c2,EVS]
  obtain c3|c3:=(Bool.eq_false_or_eq_true (decide ((k:Int)≤p.1))).symm<;>simp only[c3,EVS]
 ·simp only[Zle,ZlO,EVS]
  obtain c1|c1:=(Bool.eq_false_or_eq_true (decide (w.kind=1))).symm<;>simp only[c1,EVS]
  obtain c2|c2:=(Bool.eq_false_or_eq_true (decide (w.kind=4))).symm<;>simp only[c2,EVS]
  obtain c3|c3:=(Bool.eq_false_or_eq_true (decide (w.kind=5))).symm<;>simp only[c3,Zkq,inR,EVS]
  have h01:decide ((0:Int)=1)=false:=rfl
  have h00:decide ((0:Int)=0)=true:=rfl
  have h11:decide ((1:Int)=1)=true:=rfl
  have h10:decide ((1:Int)=0)=false:=rfl
  rcases hq:w.ins with _|⟨p,_|⟨q,r⟩⟩
  ·simp only[List.length_nil,h00,EVS]
  ·have hi:ZaW (.lst ([p].map ZkE)) (.int .i64 0)=some (ZkE p):=rfl
   simp only[List.length_cons,List.length_nil,Nat.zero_add,h11,h10,hi,ZkE,List.drop_zero,List.drop_succ_cons,EVS]
   obtain c4|c4:=(Bool.eq_false_or_eq_true (decide (p.1=(k:Int)))).symm<;>simp only[c4,h11,h10,hi,ZkE,List.drop_zero,List.drop_succ_cons,EVS]
  ·have h2:decide (((r.length+1+1:Nat):Int)=0)=false:=by simp;omega
   have h3:decide (((r.length+1+1:Nat):Int)=1)=false:=by simp;omega
   simp only[List.length_cons,h2,h3,EVS]
 ·unfold Zo4
  cases ZdQ (fun _ p=>ZmN n k p) 0 w.ins<;>simp only[EVS]
def Zmv (n:PNet) (k:Nat) (w:PWire):Bool:=match n.signals[k]? with|some s=>decide (w.name=s.1)&&(decide (w.kind=1)==decide (s.2=1))|none=>false
def ZnP (n:PNet) (k:Nat) (w:PWire):Bool:=
 let seen:=decide ((k:Int)<(n.signals.length:Int))
 (inR w.kind 1 5&&(seen||decide (w.kind=2)||decide (w.kind=3)))&&(!seen||Zmv n k w)&&(if decide (w.kind=5)=true then ZnO n.signals.length w.cover else !decide ((0:Int)<w.cover.length))&&(Zkt w.name&&Zo4 n k w)
theorem Zo6 (n:PNet) (k:Nat) (w:PWire) (hn:n.Fit) (hw:w.Fit):ZlU [Zla n,pI k,ZiK w]=some (pB (ZnP n k w)):=by
 have g1:=Zo3 n.signals.length w.cover hw.cover hw.cubes
 have g2:=ZnL w.name hw.name
 have g3:=Zo5 n k w hn hw
 have g4:=Zkq w.kind 1 5
 simp only[Zla,ZiK] at g3
 show (fun x0 x1 x2=>ZlU [x0,x1,x2]) _ _ _=_
 rw[ZoQ]
 simp only[Zla,ZiK,g4,EVS]
 have fin:∀b:Bool,((some (pB (Zkt w.name&&b))))=(some (pB (Zkt w.name&&b))):=fun _=>rfl
 simp only[ZnP,inR]
 obtain c1|c1:=(Bool.eq_false_or_eq_true (decide (1≤w.kind)&&decide (w.kind≤5))).symm<;>simp only[c1,EVS]
 obtain c2|c2:=(Bool.eq_false_or_eq_true (decide ((k:Int)<(n.signals.length:Int)))).symm<;>simp only[c2,EVS]
 ·obtain c3|c3:=(Bool.eq_false_or_eq_true (decide (w.kind=2))).symm<;>simp only[c3,EVS]
  ·obtain c4|c4:=(Bool.eq_false_or_eq_true (decide (w.kind=3))).symm<;>simp only[c4,EVS]
   have c5:decide (w.kind=5)=false:=by have:=of_decide_eq_true c4;simp;omega
   simp only[c5,EVS]
   obtain c6|c6:=(Bool.eq_false_or_eq_true (decide ((0:Int)<w.cover.length))).symm<;>simp only[c6,g2,EVS]
   obtain c7|c7:=(Bool.eq_false_or_eq_true (Zkt w.name)).symm<;>simp only[c7,g3,EVS]
  ·have c4:decide (w.kind=3)=false:=by have:=of_decide_eq_true c3;simp;omega
   have c5:decide (w.kind=5)=false:=by have:=of_decide_eq_true c3;simp;omega
   simp only[c4,c5,EVS]
   obtain c6|c6:=(Bool.eq_false_or_eq_true (decide ((0:Int)<w.cover.length))).symm<;>simp only[c6,g2,EVS]
   obtain c7|c7:=(Bool.eq_false_or_eq_true (Zkt w.name)).symm<;>simp only[c7,g3,EVS]
 ·have hk:k<n.signals.length:=by have:=of_decide_eq_true c2;omega
  have hs:n.signals[k]?=some n.signals[k]:=List.getElem?_eq_getElem hk
  have hi:ZaW (.lst (n.signals.map Zj8)) (.int .i64 (k:Int))=some (Zj8 n.signals[k]):=Za3 hs
  simp only[Zmv,hs,hi,Zj8,List.drop_zero,List.drop_succ_cons,EVS]
  obtain c3|c3:=(Bool.eq_false_or_eq_true (decide (w.name=n.signals[k].1))).symm<;>simp only[c3,hi,Zj8,List.drop_zero,List.drop_succ_cons,EVS]
  obtain c4|c4:=(Bool.eq_false_or_eq_true (decide (w.kind=1)==decide (n.signals[k].2=1))).symm<;>simp only[bne,c4,hi,Zj8,List.drop_zero,List.drop_succ_cons,EVS]
  obtain c5|c5:=(Bool.eq_false_or_eq_true (decide (w.kind=5))).symm<;>simp only[c5,g1,g2,EVS]
  ·obtain c6|c6:=(Bool.eq_false_or_eq_true (decide ((0:Int)<w.cover.length))).symm<;>simp only[c6,g2,EVS]
   obtain c7|c7:=(Bool.eq_false_or_eq_true (Zkt w.name)).symm<;>simp only[c7,g3,EVS]
  ·obtain c6|c6:=(Bool.eq_false_or_eq_true (ZnO n.signals.length w.cover)).symm<;>simp only[c5,c6,g2,EVS]
   obtain c7|c7:=(Bool.eq_false_or_eq_true (Zkt w.name)).symm<;>simp only[c5,c7,g3,EVS]
def Zlb (n:PNet) (k:Nat) (w:PWire):Bool:=ZnP n k w&&ZdQ (fun _ v=> !decide (v.name=w.name)) 0 (n.wires.take k)
def Zmd (n:PNet):Bool:=ZnN n.signals&&(!decide ((n.wires.length:Int)<n.signals.length)&& !decide ((24:Int)<n.wires.length))&&ZdQ (Zlb n) 0 n.wires
theorem ZnQ (x:PWire):Zc3 4 (ZiK x)=true:=rfl
theorem Zo7 (n:PNet) (hn:n.Fit):ZlV [Zla n]=some (pB (Zmd n)):=by
 have g1:=Zoi n.signals hn.signals hn.names
 have hwl:=hn.wires
 unfold Zg8 at hwl
 show (fun x0=>ZlV [x0]) _=_
 rw[ZoS]
 simp only[Zla,g1,EVS]
 unfold Zmd
 obtain c1|c1:=(Bool.eq_false_or_eq_true (ZnN n.signals)).symm<;>simp only[c1,EVS]
 obtain c2|c2:=(Bool.eq_false_or_eq_true (decide ((n.wires.length:Int)<n.signals.length))).symm<;>simp only[c2,EVS]
 obtain c3|c3:=(Bool.eq_false_or_eq_true (decide ((24:Int)<n.wires.length))).symm<;>simp only[c3,EVS]
 refine (congrArg (ZQ true) (Zek (R:=PV) n.wires (Zlb n) (some (pB false)) (some (pB true)) _ hwl (fun again k w hb=> ?_) (fun again=> ?_))).trans ?_
 ·have hk:=ZK hb
  have hi:ZaW (.lst (n.wires.map ZiK)) (.int .i64 (k:Int))=some (ZiK w):=Za3 hb
  have hc:Znx 4 (.lst (n.wires.map ZiK)) none (some (.int .i64 (k:Int)))=some (.lst ((n.wires.take k).map ZiK)):=ZnB ZnQ (by omega)
  have g3:=Zo6 n k w hn (hn.wire w (List.mem_of_getElem? hb))
  simp only[Zla,ZiK] at g3
  simp only[ZeO hk,ZcL hk hwl,hi,ZiK,Zlb,g3,EVS]
  obtain c4|c4:=(Bool.eq_false_or_eq_true (ZnP n k w)).symm<;>simp only[c4,hc,EVS]
  refine (Zek (R:=PV) (n.wires.take k) (fun _ v=> !decide (v.name=w.name)) (some (pB false)) (again [pI ((k+1:Nat):Int)]) _ (by simp;omega) (fun again' j y hy=> ?_) (fun again'=> ?_)).trans ?_
  ·have hj:=ZK hy
   have hi':ZaW (.lst ((n.wires.take k).map ZiK)) (.int .i64 (j:Int))=some (ZiK y):=Za3 hy
   simp only[ZeO hj,ZcL hj (by simp;omega),hi',ZiK,EVS]
   obtain c5|c5:=(Bool.eq_false_or_eq_true (decide (y.name=w.name))).symm<;>simp only[c5,EVS]
  ·simp only[Zle,ZcL hk hwl,EVS]
  ·rfl
 ·simp only[Zle,EVS]
 ·cases ZdQ (Zlb n) 0 n.wires<;>simp only[EVS]
theorem ZhT (n lo hi:Int):ZbF [pI n,pI lo,pI hi]=some (pB (inR n lo hi)):=by
 show (fun x0 x1 x2=>ZbF [x0,x1,x2]) _ _ _=_
 rw[Zhe]
 unfold inR
 by_cases h:lo≤n<;>simp only[h,EVS]
def Znj (k:Nat) (b:UInt8):Bool:=(decide ((97:Int)≤b.toNat)&&decide ((b.toNat:Int)≤122))||(!decide ((k:Int)=0)&&(decide ((48:Int)≤b.toNat)&&decide ((b.toNat:Int)≤57)))
def ZoD (s:List UInt8):Bool:=ZdQ Znj 0 s&&inR s.length 1 6
theorem ZpG (s:List UInt8) (hs:s.length≤9223372036854775807):Zln [.str s]=some (pB (ZoD s)):=by
 show (fun x0=>Zln [x0]) _=_
 rw[Zpn]
 refine (congrArg (ZQ true) (Zek (R:=PV) s Znj (some (pB false)) (some (pB (inR s.length 1 6))) _ hs (fun again k b hb=> ?_) (fun again=> ?_))).trans ?_
 ·have hk:=ZK hb
  simp only[Znj,ZeO hk,ZcL hk hs,ZkA hb,EVS]
  obtain c1|c1:=(Bool.eq_false_or_eq_true (decide ((97:Int)≤b.toNat))).symm<;>simp only[c1,ZkA hb,EVS]
  all_goals (obtain c2|c2:=(Bool.eq_false_or_eq_true (decide ((b.toNat:Int)≤122))).symm<;>try simp only[c2,ZkA hb,EVS])
  all_goals (obtain c3|c3:=(Bool.eq_false_or_eq_true (decide ((48:Int)≤b.toNat))).symm<;>try simp only[c3,ZkA hb,EVS])
  all_goals (obtain c4|c4:=(Bool.eq_false_or_eq_true (decide ((b.toNat:Int)≤57))).symm<;>try simp only[c4,ZkA hb,EVS])
  all_goals (obtain c5|c5:=(Bool.eq_false_or_eq_true (decide ((k:Int)=0))).symm<;>try simp only[c5,EVS])
 ·simp only[Zle,ZhT,EVS]
 ·unfold ZoD
  cases ZdQ Znj 0 s<;>simp only[EVS]
theorem ZnR :∀(l:List UInt8) (k:Nat),ZmP (k==0) l=ZdQ Znj k l
 |[],_=>rfl
 | b::r,k=>by
  have h:=ZnR r (k+1)
  have h1:(k+1==0)=false:=rfl
  rw[h1] at h
  unfold ZmP ZdQ
  rw[h]
  congr 1
  unfold Zqt Znj
  have e1:decide ((48:Int)≤b.toNat)= !decide ((b.toNat:Int)<48):=by rw[Bool.eq_iff_iff];simp
  have e2:decide ((b.toNat:Int)≤57)= !decide ((57:Int)<b.toNat):=by rw[Bool.eq_iff_iff];simp
  have e3:decide ((k:Int)=0)=(k==0):=by rw[Bool.eq_iff_iff];simp
  rw[e1,e2,e3]
theorem ZqL (s:List UInt8):Zkt s=ZoD s:=by
 unfold Zkt ZoD inR
 rw[←ZnR s 0]
 rfl
theorem Zns (s:List UInt8) (hs:s.length≤9223372036854775807):Zln [.str s]=some (pB (Zkt s)):=(ZpG s hs).trans (by rw[ZqL])
def Zl0 (s:List UInt8) (n:Int):Bool:=ZdQ (fun _ b=>Znr b) 0 s&&(decide ((s.length:Int)=n)&&inR n 1 8)
theorem ZpH (s:List UInt8) (n:Int) (hs:s.length≤9223372036854775807):Zmm [.str s,pI n]=some (pB (Zl0 s n)):=by
 show (fun x0 x1=>Zmm [x0,x1]) _ _=_
 rw[Zpp]
 refine (congrArg (ZQ true) (Zek (R:=PV) s (fun _ b=>Znr b) (some (pB false)) (some (pB (decide ((s.length:Int)=n)&&inR n 1 8))) _ hs (fun again k b hb=> ?_) (fun again=> ?_))).trans ?_
 ·have hk:=ZK hb
  simp only[Znr,ZeO hk,ZcL hk hs,ZkA hb,EVS]
  obtain c1|c1:=(Bool.eq_false_or_eq_true (decide ((b.toNat:Int)=48))).symm<;>simp only[c1,ZkA hb,EVS]
  obtain c2|c2:=(Bool.eq_false_or_eq_true (decide ((b.toNat:Int)=49))).symm<;>simp only[c2,ZkA hb,EVS]
  obtain c3|c3:=(Bool.eq_false_or_eq_true (decide ((b.toNat:Int)=45))).symm<;>simp only[c3,ZkA hb,EVS]
 ·simp only[Zle,EVS]
  obtain c1|c1:=(Bool.eq_false_or_eq_true (decide ((s.length:Int)=n))).symm<;>simp only[c1,ZhT,EVS]
 ·unfold Zl0
  cases ZdQ (fun _ b=>Znr b) 0 s<;>simp only[EVS]
def ixf {α:Type} (q:α→Bool):Nat→List α→Int
 |_,[]=> -1
 |k,x::r=>if q x=true then (k:Int) else ixf q (k+1) r
theorem ZpZ {α:Type} (q:α→Bool):∀(l:List α) (k:Nat),rgo (fun k x=>if q x=true then some (some (pI (k:Int))) else none) (some (pI (-1))) k l=some (pI (ixf q k l))
 |[],k=>rfl
 | x::r,k=>by
  unfold rgo ixf
  cases q x
  ·simp[ZpZ q r (k+1)]
  ·simp
theorem ZnS {α:Type} (q:α→Bool):∀(l:List α) (k:Nat),decide ((0:Int)≤ixf q k l)= !ZdQ (fun _ x=> !q x) k l
 |[],k=>rfl
 | x::r,k=>by
  unfold ixf ZdQ
  cases q x
  ·simp[ZnS q r (k+1)]
  ·simp
theorem ZnD {α:Type} (l:List α) (q:α→Bool) (f:(List PV→Option PV)→List PV→Option PV) (hl:l.length≤9223372036854775807)
 (h1:∀again k x,l[k]?=some x→f again [pI (Int.ofNat k)]=if q x=true then some (pI (k:Int)) else again [pI (Int.ofNat (k+1))])
 (h2:∀again,f again [pI (Int.ofNat l.length)]=some (pI (-1))):Zar f 18446744073709551616 [pI (Int.ofNat 0)]=some (pI (ixf q 0 l)):=by
 rw[Zql l (fun k x=>if q x=true then some (some (pI (k:Int))) else none) (some (pI (-1))) f hl (fun again k x hx=> ?_) h2,ZpZ]
 rw[h1 again k x hx]
 cases q x<;>simp
theorem Zp0 (l:List PV):Zj7 1 (.tup [.agg l])=some [.agg l]:=by simp[Zj7,PV.parts,PV.isU]
theorem Znk (a x:List UInt8×Int):Zld [Zj8 a,Zj8 x]=some (pB (decide (a.1=x.1))):=by
 show (fun x0 x1=>Zld [x0,x1]) _ _=_
 rw[Zne]
 simp only[Zj8,List.drop_zero,EVS]
theorem ZkX (l:List (List UInt8×Int)) (x:List UInt8×Int) (hl:Zg8 l):ZiS [.lst (l.map Zj8),.tup [Zj8 x]]=some (pI (ixf (fun a=>decide (a.1=x.1)) 0 l)):=by
 show (fun x0 x1=>ZiS [x0,x1]) _ _=_
 rw[ZkV]
 unfold Zg8 at hl
 simp only[EVS]
 refine (congrArg (ZQ true) (ZnD l (fun a=>decide (a.1=x.1)) _ hl (fun again k a hb=> ?_) (fun again=> ?_))).trans ?_
 ·have hk:=ZK hb
  have hi:ZaW (.lst (l.map Zj8)) (.int .i64 (k:Int))=some (Zj8 a):=Za3 hb
  have g:=Znk a x
  simp only[Zj8] at g
  simp only[ZeO hk,ZcL hk hl,hi,Zj8,Zp0,List.cons_append,List.nil_append,g,EVS]
 ·simp only[Zle,EVS]
  rfl
 ·simp only[EVS]
theorem ZkQ (l:List (List UInt8×Int)) (x:List UInt8×Int) (hl:Zg8 l):ZiJ [.lst (l.map Zj8),.tup [Zj8 x]]=some (pB (!ZdQ (fun _ a=> !decide (a.1=x.1)) 0 l)):=by
 show (fun x0 x1=>ZiJ [x0,x1]) _ _=_
 rw[ZkP]
 simp only[ZkX l x hl,ZnS (fun a:List UInt8×Int=>decide (a.1=x.1)) l 0,EVS]
theorem Zoj (p:Int×Bool) (n:Nat) (hn:n≤9223372036854775807):Zlw [ZkE p,.agg [pI n]]=some (pB (!inR p.1 0 ((n:Int) - 1))):=by
 have hwl:IntKind.i64.wrap ((n:Int) - 1)=(n:Int) - 1:=ZdY (by omega) (by omega)
 show (fun x0 x1=>Zlw [x0,x1]) _ _=_
 rw[Zob]
 simp only[ZkE,hwl,ZhT,EVS]
theorem Zlc (l:List (Int×Bool)) (n:Nat) (hn:n≤9223372036854775807) (hl:Zg8 l):Zji [.lst (l.map ZkE),.tup [.agg [pI n]]]=some (pI (ixf (fun p=> !inR p.1 0 ((n:Int) - 1)) 0 l)):=by
 show (fun x0 x1=>Zji [x0,x1]) _ _=_
 rw[Zk7]
 unfold Zg8 at hl
 simp only[EVS]
 refine (congrArg (ZQ true) (ZnD l (fun p=> !inR p.1 0 ((n:Int) - 1)) _ hl (fun again k a hb=> ?_) (fun again=> ?_))).trans ?_
 ·have hk:=ZK hb
  have hi:ZaW (.lst (l.map ZkE)) (.int .i64 (k:Int))=some (ZkE a):=Za3 hb
  have g:=Zoj a n hn
  simp only[ZkE] at g
  simp only[ZeO hk,ZcL hk hl,hi,ZkE,Zp0,List.cons_append,List.nil_append,g,EVS]
 ·simp only[Zle,EVS]
  rfl
 ·simp only[EVS]
def Zlf (l:List (Int×Bool)) (n:Nat):Bool:=ZdQ (fun _ p=>inR p.1 0 ((n:Int) - 1)) 0 l
theorem Znt (l:List (Int×Bool)) (n:Nat) (hn:n≤9223372036854775807) (hl:Zg8 l):ZlA [.lst (l.map ZkE),pI n]=some (pB (Zlf l n)):=by
 have g:ZiT [.lst (l.map ZkE),.tup [.agg [pI n]]]=some (pB (!ZdQ (fun _ p=>inR p.1 0 ((n:Int) - 1)) 0 l)):=by
  show (fun x0 x1=>ZiT [x0,x1]) _ _=_
  rw[Zk2]
  simp only[Zlc l n hn hl,ZnS (fun p:Int×Bool=> !inR p.1 0 ((n:Int) - 1)) l 0,Bool.not_not,EVS]
 show (fun x0 x1=>ZlA [x0,x1]) _ _=_
 rw[ZoT]
 have lt:∀{R:Type} (l:List PV) (x:Option R),Zb [.tup l] x=x:=fun l x=>(Eq.refl _).trans (Eq.refl _)
 simp only[lt,g,List.drop_zero,Bool.not_not,Zlf,EVS]
theorem ZoE (w:PWire) (x:List UInt8):ZlE [ZiK w,.agg [.str x]]=some (pB (decide (w.name=x))):=by
 show (fun x0 x1=>ZlE [x0,x1]) _ _=_
 rw[Zop]
 simp only[ZiK,List.drop_zero,EVS]
theorem ZpI (l:List PWire) (x:List UInt8) (hl:Zg8 l):Zmp [.lst (l.map ZiK),.str x]=some (pI (ixf (fun w:PWire=>decide (w.name=x)) 0 l)):=by
 unfold Zg8 at hl
 have g:Zjq [.lst (l.map ZiK),.tup [.agg [.str x]]]=some (pI (ixf (fun w:PWire=>decide (w.name=x)) 0 l)):=by
  show (fun x0 x1=>Zjq [x0,x1]) _ _=_
  rw[Zk9]
  simp only[EVS]
  refine (congrArg (ZQ true) (ZnD l (fun w:PWire=>decide (w.name=x)) _ hl (fun again k a hb=> ?_) (fun again=> ?_))).trans ?_
  ·have hk:=ZK hb
   have hi:ZaW (.lst (l.map ZiK)) (.int .i64 (k:Int))=some (ZiK a):=Za3 hb
   have g:=ZoE a x
   simp only[ZiK] at g
   simp only[ZeO hk,ZcL hk hl,hi,ZiK,Zp0,List.cons_append,List.nil_append,g,EVS]
  ·simp only[Zle,EVS]
   rfl
  ·simp only[EVS]
 show (fun x0 x1=>Zmp [x0,x1]) _ _=_
 rw[Zpt]
 have lt:∀{R:Type} (l:List PV) (x:Option R),Zb [.tup l] x=x:=fun l x=>(Eq.refl _).trans (Eq.refl _)
 simp only[lt,g,List.drop_zero,Bool.not_not,EVS]
theorem ZmQ (c:List UInt8) (n:Int) (hc:Zg8 c):ZkZ [.str c,.agg [pI n]]=some (pB (!Zl0 c n)):=by
 show (fun x0 x1=>ZkZ [x0,x1]) _ _=_
 rw[ZmK]
 simp only[ZpH c n hc,EVS]
theorem ZkT (l:List (List UInt8)) (n:Int) (hl:Zg8 l) (hc:∀c∈l,Zg8 c):ZiL [.lst (l.map PV.str),.tup [.agg [pI n]]]=some (pI (ixf (fun c:List UInt8=> !Zl0 c n) 0 l)):=by
 unfold Zg8 at hl
 show (fun x0 x1=>ZiL [x0,x1]) _ _=_
 rw[ZkS]
 simp only[EVS]
 refine (congrArg (ZQ true) (ZnD l (fun c:List UInt8=> !Zl0 c n) _ hl (fun again k a hb=> ?_) (fun again=> ?_))).trans ?_
 ·have hk:=ZK hb
  have hi:ZaW (.lst (l.map PV.str)) (.int .i64 (k:Int))=some (.str a):=Za3 hb
  have g:=ZmQ a n (hc a (List.mem_of_getElem? hb))
  simp only[ZeO hk,ZcL hk hl,hi,Zp0,List.cons_append,List.nil_append,g,EVS]
 ·simp only[Zle,EVS]
  rfl
 ·simp only[EVS]
theorem eqPin (a c:Int) (b d:Bool):eqV (some [(0,TD.int .i64),(1,TD.bool)]) .struct (.agg [pI a,pB b]) (.agg [pI c,pB d])=some (decide (a=c)&&(b==d)):=by
 simp[eqV,Ze4,scEq,Zcu]
theorem ZqM :ZC.bool.pv=pB false:=(Eq.refl _).trans (Eq.refl _)
theorem sp12 (a b c:PV):splice [a,b] 0 [c]=[c,b]:=(Eq.refl _).trans (Eq.refl _)
def Zl1 (n:Int) (l:List (List UInt8)):Bool:=(inR n 1 8&&decide ((l.length:Int)≤60))&&ZdQ (fun _ c=>Zl0 c n) 0 l
def ZlH (n:PNet) (k:Nat) (w:PWire):Bool:=
 if decide (w.kind=1)=true then decide ((w.ins.length:Int)=0)
 else if (decide (w.kind=2)||decide (w.kind=3))=true then inR w.ins.length 1 8
 else if decide (w.kind=4)=true then decide ((w.ins.length:Int)=2)
 else if decide (w.kind=5)=true then Zl1 n.signals.length w.cover&&(decide ((w.ins.length:Int)=0)||(match w.ins with|[p]=>decide (p.1=(k:Int))&&(p.2==false)|_=>false))
 else false
def Zo8 (n:PNet) (k:Nat) (w:PWire):Bool:= !((!decide (w.kind=5)&&decide ((0:Int)<w.cover.length))|| !Zlf w.ins n.wires.length)&&ZlH n k w
theorem ZpJ (h160:∀(n:Int) (l:List (List UInt8)),Zg8 l→(∀c∈l,Zg8 c)→ZkW [pI n,.lst (l.map PV.str)]=some (pB (Zl1 n l))) (n:PNet) (k:Nat) (w:PWire) (hn:n.Fit) (hk:n.wires[k]?=some w):Zmn [Zla n,pI k]=some (pB (Zo8 n k w)):=by
 have hw:=hn.wire w (List.mem_of_getElem? hk)
 have g1:=h160 n.signals.length w.cover hw.cover hw.cubes
 have hwl:=hn.wires
 unfold Zg8 at hwl
 have g2:=Znt w.ins n.wires.length hwl hw.ins
 have hi:ZaW (.lst (n.wires.map ZiK)) (.int .i64 (k:Int))=some (ZiK w):=Za3 hk
 show (fun x0 x1=>Zmn [x0,x1]) _ _=_
 rw[Zpr]
 simp only[Zla,hi,ZiK,EVS]
 unfold Zo8
 obtain c1|c1:=(Bool.eq_false_or_eq_true (!decide (w.kind=5))).symm<;>simp only[c1,g2,EVS]
 ·obtain c2|c2:=(Bool.eq_false_or_eq_true (Zlf w.ins n.wires.length)).symm<;>simp only[c1,c2,g2,EVS]
  have c5:decide (w.kind=5)=true:=by simpa using c1
  have e1:decide (w.kind=1)=false:=by have:=of_decide_eq_true c5;simp;omega
  have e2:decide (w.kind=2)=false:=by have:=of_decide_eq_true c5;simp;omega
  have e3:decide (w.kind=3)=false:=by have:=of_decide_eq_true c5;simp;omega
  have e4:decide (w.kind=4)=false:=by have:=of_decide_eq_true c5;simp;omega
  simp only[Zeb,ZlH,e1,e2,e3,e4,c5,g1,EVS]
  obtain c3|c3:=(Bool.eq_false_or_eq_true (Zl1 n.signals.length w.cover)).symm<;>simp only[c3,EVS]
  have h01:decide ((0:Int)=1)=false:=rfl
  have h00:decide ((0:Int)=0)=true:=rfl
  have h11:decide ((1:Int)=1)=true:=rfl
  have h10:decide ((1:Int)=0)=false:=rfl
  rcases hq:w.ins with _|⟨p,_|⟨q,r⟩⟩
  ·simp only[List.length_nil,h00,EVS]
  ·have hi:ZaW (.lst ([p].map ZkE)) (.int .i64 0)=some (ZkE p):=rfl
   simp only[List.length_cons,List.length_nil,Nat.zero_add,h11,h10,hi,ZkE,ZqM,sp12,eqPin,List.drop_zero,List.drop_succ_cons,EVS]
  ·have h2:decide (((r.length+1+1:Nat):Int)=0)=false:=by simp;omega
   have h3:decide (((r.length+1+1:Nat):Int)=1)=false:=by simp;omega
   simp only[List.length_cons,h2,h3,EVS]
 ·have c5:decide (w.kind=5)=false:=by simpa using c1
  obtain c2|c2:=(Bool.eq_false_or_eq_true (decide ((0:Int)<w.cover.length))).symm<;>simp only[c1,c2,g2,EVS]
  obtain c3|c3:=(Bool.eq_false_or_eq_true (Zlf w.ins n.wires.length)).symm<;>simp only[c3,EVS]
  simp only[Zeb,ZlH,c5,EVS]
  obtain e1|e1:=(Bool.eq_false_or_eq_true (decide (w.kind=1))).symm<;>simp only[e1,EVS]
  obtain e2|e2:=(Bool.eq_false_or_eq_true (decide (w.kind=2))).symm<;>simp only[e2,ZhT,EVS]
  obtain e3|e3:=(Bool.eq_false_or_eq_true (decide (w.kind=3))).symm<;>simp only[e3,ZhT,EVS]
  obtain e4|e4:=(Bool.eq_false_or_eq_true (decide (w.kind=4))).symm<;>simp only[e4,EVS]
theorem Znl (n:Int) (l:List (List UInt8)) (hl:Zg8 l) (hc:∀c∈l,Zg8 c):ZkW [pI n,.lst (l.map PV.str)]=some (pB (Zl1 n l)):=by
 have g:Zh [.lst (l.map PV.str),.tup [.agg [pI n]]]=some (pB (!ZdQ (fun _ c=>Zl0 c n) 0 l)):=by
  show (fun x0 x1=>Zh [x0,x1]) _ _=_
  rw[ZkH]
  simp only[ZkT l n hl hc,ZnS (fun c:List UInt8=> !Zl0 c n) l 0,Bool.not_not,EVS]
 show (fun x0 x1=>ZkW [x0,x1]) _ _=_
 rw[Znh]
 simp only[ZhT,ZjU,List.drop_zero,Zl1,EVS]
 obtain c1|c1:=(Bool.eq_false_or_eq_true (inR n 1 8)).symm<;>simp only[c1,EVS]
 obtain c2|c2:=(Bool.eq_false_or_eq_true (decide ((l.length:Int)≤60))).symm<;>simp only[c2,ZjU,g,Bool.not_not,EVS]
def Znm (l:List (List UInt8×Int)) (k:Nat) (s:List UInt8×Int):Bool:=(Zkt s.1&&inR s.2 1 3)&&ZdQ (fun _ a=> !decide (a.1=s.1)) 0 (l.take k)
def Zox (l:List (List UInt8×Int)):Bool:=ZdQ (Znm l) 0 l&&inR l.length 1 8
theorem ZnT (l:List (List UInt8×Int)) (hl:Zg8 l) (hs:∀s∈l,Zg8 s.1):Zlj [.lst (l.map Zj8)]=some (pB (Zox l)):=by
 unfold Zg8 at hl
 show (fun x0=>Zlj [x0]) _=_
 rw[ZnA]
 simp only[EVS]
 refine (congrArg (ZQ true) (Zek (R:=PV) l (Znm l) (some (pB false)) (some (pB (inR l.length 1 8))) _ hl (fun again k s hb=> ?_) (fun again=> ?_))).trans ?_
 ·have hk:=ZK hb
  have hi:ZaW (.lst (l.map Zj8)) (.int .i64 (k:Int))=some (Zj8 s):=Za3 hb
  have hc:Znx 2 (.lst (l.map Zj8)) none (some (.int .i64 (k:Int)))=some (.lst ((l.take k).map Zj8)):=ZnB Zow (by omega)
  have hn:=Zns s.1 (hs s (List.mem_of_getElem? hb))
  have g:=ZkQ (l.take k) s (by show (l.take k).length≤_;simp;omega)
  simp only[Zj8] at g
  simp only[ZeO hk,ZcL hk hl,hi,Zj8,hn,Znm,EVS]
  obtain c1|c1:=(Bool.eq_false_or_eq_true (Zkt s.1)).symm<;>simp only[c1,ZhT,EVS]
  obtain c2|c2:=(Bool.eq_false_or_eq_true (inR s.2 1 3)).symm<;>simp only[c2,EVS]
  simp only[hc,List.drop_zero,ZjU,g,EVS]
  obtain c3|c3:=(Bool.eq_false_or_eq_true (ZdQ (fun _ (a:List UInt8×Int)=> !decide (a.1=s.1)) 0 (l.take k))).symm<;>simp only[c3,EVS]
 ·simp only[Zle,ZhT,EVS]
 ·unfold Zox
  cases ZdQ (Znm l) 0 l<;>simp only[EVS]
def ZlI (n:PNet) (k:Nat) (w:PWire):Bool:=
 (Zo8 n k w&&Zkt w.name&&ZdQ (fun _ v=> !decide (v.name=w.name)) 0 (n.wires.take k))&&
 (if decide ((k:Int)<(n.signals.length:Int))=true then Zmv n k w else (decide (w.kind=2)||decide (w.kind=3))&&Zlf w.ins k)
def netI (n:PNet):Bool:=(Zox n.signals&&inR n.wires.length n.signals.length 24)&&ZdQ (ZlI n) 0 n.wires
theorem ZmR (n:PNet) (hn:n.Fit):Zk0 [Zla n]=some (pB (netI n)):=by
 have g1:=ZnT n.signals hn.signals hn.names
 have hwl:=hn.wires
 unfold Zg8 at hwl
 show (fun x0=>Zk0 [x0]) _=_
 rw[ZmM]
 simp only[Zla,g1,EVS]
 unfold netI
 obtain c1|c1:=(Bool.eq_false_or_eq_true (Zox n.signals)).symm<;>simp only[c1,ZhT,EVS]
 obtain c2|c2:=(Bool.eq_false_or_eq_true (inR n.wires.length n.signals.length 24)).symm<;>simp only[c2,EVS]
 refine (congrArg (ZQ true) (Zek (R:=PV) n.wires (ZlI n) (some (pB false)) (some (pB true)) _ hwl (fun again k w hb=> ?_) (fun again=> ?_))).trans ?_
 ·have hk:=ZK hb
  have hw:=hn.wire w (List.mem_of_getElem? hb)
  have hi:ZaW (.lst (n.wires.map ZiK)) (.int .i64 (k:Int))=some (ZiK w):=Za3 hb
  have hc:Znx 4 (.lst (n.wires.map ZiK)) none (some (.int .i64 (k:Int)))=some (.lst ((n.wires.take k).map ZiK)):=ZnB ZnQ (by omega)
  have g2:=ZpJ Znl n k w hn hb
  have g3:=Zns w.name hw.name
  have g4:=ZpI (n.wires.take k) w.name (by show (n.wires.take k).length≤_;simp;omega)
  have g5:=Znt w.ins k (by omega) hw.ins
  simp only[Zla] at g2
  simp only[ZeO hk,ZcL hk hwl,hi,ZiK,ZlI,g2,EVS]
  obtain c1|c1:=(Bool.eq_false_or_eq_true (Zo8 n k w)).symm<;>simp only[c1,g3,EVS]
  obtain c2|c2:=(Bool.eq_false_or_eq_true (Zkt w.name)).symm<;>simp only[c2,hc,g4,EVS]
  simp only[ZnS (fun v:PWire=>decide (v.name=w.name)) (n.wires.take k) 0]
  obtain c3|c3:=(Bool.eq_false_or_eq_true (ZdQ (fun _ (v:PWire)=> !decide (v.name=w.name)) 0 (n.wires.take k))).symm<;>simp only[c3,Zeb,EVS]
  obtain c4|c4:=(Bool.eq_false_or_eq_true (decide ((k:Int)<(n.signals.length:Int)))).symm<;>simp only[c4,EVS]
  ·obtain c5|c5:=(Bool.eq_false_or_eq_true (decide (w.kind=2))).symm<;>simp only[c5,g5,EVS]
   ·obtain c6|c6:=(Bool.eq_false_or_eq_true (decide (w.kind=3))).symm<;>simp only[c6,g5,EVS]
    obtain c7|c7:=(Bool.eq_false_or_eq_true (Zlf w.ins k)).symm<;>simp only[c7,ZcL hk hwl,EVS]
   ·obtain c7|c7:=(Bool.eq_false_or_eq_true (Zlf w.ins k)).symm<;>simp only[c7,ZcL hk hwl,EVS]
  ·have hks:k<n.signals.length:=by have:=of_decide_eq_true c4;omega
   have hs:n.signals[k]?=some n.signals[k]:=List.getElem?_eq_getElem hks
   have hi2:ZaW (.lst (n.signals.map Zj8)) (.int .i64 (k:Int))=some (Zj8 n.signals[k]):=Za3 hs
   simp only[Zmv,hs,hi2,Zj8,List.drop_zero,List.drop_succ_cons,EVS]
   obtain c5|c5:=(Bool.eq_false_or_eq_true (decide (w.name=n.signals[k].1))).symm<;>simp only[c5,hi2,Zj8,List.drop_zero,List.drop_succ_cons,EVS]
   obtain c6|c6:=(Bool.eq_false_or_eq_true (decide (w.kind=1)==decide (n.signals[k].2=1))).symm<;>simp only[bne,c6,ZcL hk hwl,EVS]
 ·simp only[Zle,EVS]
 ·cases ZdQ (ZlI n) 0 n.wires<;>simp only[EVS]
theorem Zmw {α:Type} (q:α→Bool):∀(l:List α) (k:Nat),ZdQ (fun _ x=>q x) k l=l.all q
 |[],_=>rfl
 |x::r,k=>by unfold ZdQ;rw[Zmw q r (k+1),List.all_cons]
theorem Zlm {α:Type} (f g:Nat→α→Bool) (h:∀k x,f k x=g k x):∀(l:List α) (k:Nat),ZdQ f k l=ZdQ g k l
 |[],_=>rfl
 |x::r,k=>by unfold ZdQ;rw[h k x,Zlm f g h r (k+1)]
theorem ZqO (l:List (List UInt8×Int)):ZnN l=Zox l:=by
 unfold ZnN Zox
 rw[Zlm (ZnM l) (Znm l) (fun k x=> ?_) l 0]
 unfold ZnM Znm
 rw[Zlm (fun _ (y:List UInt8×Int)=> !decide (x.1=y.1)) (fun _ (y:List UInt8×Int)=> !decide (y.1=x.1)) (fun _ y=>by simp[eq_comm]) _ 0]
theorem Zqu (n:Int) (l:List (List UInt8)):ZnO n l=Zl1 n l:=by
 unfold ZnO Zl1 ZnC
 rw[Bool.and_comm,Bool.eq_iff_iff]
 simp only[Bool.and_eq_true]
 refine and_congr_right fun h=> ?_
 rw[Zlm (fun _ c=>Zna c&&decide ((c.length:Int)=n)) (fun _ c=>Zl0 c n) (fun _ c=> ?_) l 0]
 unfold Zna Zl0 inR
 rw[Bool.eq_iff_iff]
 simp only[Bool.and_eq_true,decide_eq_true_eq]
 constructor
 ·rintro ⟨⟨h1,h2,h3⟩,h4⟩
  exact ⟨h1,h4,by omega,by omega⟩
 ·rintro ⟨h1,h2,h3,h4⟩
  exact ⟨⟨h1,by omega,by omega⟩,h2⟩
theorem Zp9 (n:PNet) (k:Nat) (l:List (Int×Bool)) (h:k<n.signals.length):ZdQ (fun _ p=>ZmN n k p) 0 l=Zlf l n.wires.length:=by
 unfold Zlf
 refine Zlm _ _ (fun _ p=> ?_) l 0
 unfold ZmN
 have:decide ((n.signals.length:Int)≤k)=false:=by simp;omega
 rw[this]
 simp
theorem Zqa (n:PNet) (k:Nat) (l:List (Int×Bool)) (h:¬k<n.signals.length):ZdQ (fun _ p=>ZmN n k p) 0 l=(Zlf l n.wires.length&&Zlf l k):=by
 unfold Zlf
 rw[Zmw,Zmw,Zmw,Bool.eq_iff_iff]
 have:decide ((n.signals.length:Int)≤k)=true:=by simp;omega
 simp only[Bool.and_eq_true,List.all_eq_true,ZmN,inR,this,Bool.true_and,Bool.not_eq_true',decide_eq_true_eq,decide_eq_false_iff_not]
 constructor
 ·intro h
  exact ⟨fun p hp=>(h p hp).1,fun p hp=>⟨(h p hp).1.1,by have:=(h p hp).2;omega⟩⟩
 ·rintro ⟨h1,h2⟩ p hp
  exact ⟨h1 p hp,by have:=(h2 p hp).2;omega⟩
theorem ZqP (n:PNet) (k:Nat) (w:PWire):(inR w.kind 1 5&&((if decide (w.kind=5)=true then Zl1 n.signals.length w.cover else !decide ((0:Int)<w.cover.length))&&ZlO k w.kind w.ins))=(!(!decide (w.kind=5)&&decide ((0:Int)<w.cover.length))&&ZlH n k w):=by
 unfold ZlO ZlH
 by_cases h1:w.kind=1
 ·simp[h1,inR]
 by_cases h2:w.kind=2
 ·simp[h2,inR]
 by_cases h3:w.kind=3
 ·simp[h3,inR]
 by_cases h4:w.kind=4
 ·simp[h4,inR]
 by_cases h5:w.kind=5
 ·obtain ⟨nm,kd,ins,cov⟩:=w
  simp only at h5
  rcases ins with _|⟨p,_|⟨q,r⟩⟩<;>simp[h5,inR]
 ·have:inR w.kind 1 5=false:=by
   unfold inR
   simp only[Bool.and_eq_false_iff,decide_eq_false_iff_not]
   omega
  simp[this,h1,h2,h3,h4,h5]
theorem ZqQ (n:PNet) (k:Nat) (w:PWire):Zlb n k w=ZlI n k w:=by
 unfold Zlb ZlI ZnP Zo8 Zo4
 have hf:=ZqP n k w
 rw[Zqu]
 by_cases hk:k<n.signals.length
 ·have hd:decide ((k:Int)<(n.signals.length:Int))=true:=by simpa using hk
  rw[Zp9 n k w.ins hk]
  simp only[hd,if_true,Bool.true_or,Bool.not_true,Bool.false_or,Bool.not_false,Bool.false_eq_true,if_false,Bool.true_and]
  revert hf
  generalize inR w.kind 1 5=a1
  generalize (if decide (w.kind=5)=true then Zl1 (↑n.signals.length) w.cover else !decide ((0:Int)<↑w.cover.length))=a2
  generalize ZlO k w.kind w.ins=a3
  generalize (!decide (w.kind=5)&&decide ((0:Int)<w.cover.length))=a4
  generalize ZlH n k w=a5
  generalize Zlf w.ins n.wires.length=a6
  generalize Zmv n k w=a7
  generalize Zkt w.name=a8
  generalize ZdQ (fun _ (v:PWire)=> !decide (v.name=w.name)) 0 (n.wires.take k)=a9
  cases a1<;>cases a2<;>cases a3<;>cases a4<;>cases a5<;>cases a6<;>cases a7<;>cases a8<;>cases a9<;>decide
 ·have hd:decide ((k:Int)<(n.signals.length:Int))=false:=by simpa using hk
  rw[Zqa n k w.ins hk]
  simp only[hd,if_true,Bool.true_or,Bool.not_true,Bool.false_or,Bool.not_false,Bool.false_eq_true,if_false,Bool.true_and]
  revert hf
  generalize inR w.kind 1 5=a1
  generalize (if decide (w.kind=5)=true then Zl1 (↑n.signals.length) w.cover else !decide ((0:Int)<↑w.cover.length))=a2
  generalize ZlO k w.kind w.ins=a3
  generalize (!decide (w.kind=5)&&decide ((0:Int)<w.cover.length))=a4
  generalize ZlH n k w=a5
  generalize Zlf w.ins n.wires.length=a6
  generalize Zkt w.name=a8
  generalize Zlf w.ins k=a7
  generalize decide (w.kind=2)=b2
  generalize decide (w.kind=3)=b3
  generalize ZdQ (fun _ (v:PWire)=> !decide (v.name=w.name)) 0 (n.wires.take k)=a9
  cases a1<;>cases a2<;>cases a3<;>cases a4<;>cases a5<;>cases a6<;>cases a7<;>cases a8<;>cases a9<;>cases b2<;>cases b3<;>decide
theorem net_eq (n:PNet):Zmd n=netI n:=by
 unfold Zmd netI
 rw[ZqO,Zlm (Zlb n) (ZlI n) (fun k x=>ZqQ n k x) n.wires 0]
 congr 2
 unfold inR
 rw[Bool.eq_iff_iff]
 simp
theorem ZnE {α:Type} (q:Nat→α→Bool):∀(l:List α) (j:Nat),ZdQ q j l=true→∀(i:Nat) (x:α),l[i]?=some x→q (j+i) x=true
 |[],j,_,i,x,hx=>by simp at hx
 | y::r,j,h,i,x,hx=>by
  unfold ZdQ at h
  rw[Bool.and_eq_true] at h
  cases i with
  |zero=>simp at hx;subst hx;simpa using h.1
  | succ i=>
   have:=ZnE q r (j+1) h.2 i x (by simpa using hx)
   rw[show j+(i+1)=j+1+i by omega]
   exact this
theorem Zo9 {α:Type} (q:α→Bool) {l:List α} (h:ZdQ (fun _ x=>q x) 0 l=true) {x:α} (hx:x∈l):q x=true:=by
 rw[Zmw] at h
 exact List.all_eq_true.1 h x hx
theorem ZnF {n:PNet} (h:Zmd n=true):∀w∈n.wires,w.name.length≤6:=by
 intro w hw
 obtain ⟨k,hk⟩:=List.mem_iff_getElem?.1 hw
 unfold Zmd at h
 simp only[Bool.and_eq_true] at h
 have:=ZnE _ _ _ h.2 k _ hk
 rw[Nat.zero_add] at this
 unfold Zlb ZnP at this
 simp only[Bool.and_eq_true] at this
 have hn:=this.1.2.1
 unfold Zkt at hn
 simp only[Bool.and_eq_true,decide_eq_true_eq] at hn
 omega
theorem ZmS {l:List (List UInt8)} (h:l≠[]) (x:List UInt8):Lib.join (l++[x]) [32]=Lib.join l [32]++32::x:=by
 cases l with
 |nil=>exact absurd rfl h
 | cons a r=>
  simp only[List.cons_append,Lib.join_cons,Lib.joinTail,List.map_append,List.flatten_append,List.map_cons,List.map_nil,List.flatten_cons,List.flatten_nil,List.append_nil,List.append_assoc,List.nil_append]
theorem ZlJ (l:List (List UInt8)) (h:∀x∈l,x.length≤8):(Lib.join l [32]).length≤9 * l.length:=by
 cases l with
 |nil=>simp[Lib.join_nil]
 | cons a r=>
  rw[Lib.join_cons]
  have h1:=h a List.mem_cons_self
  have h2:(Lib.joinTail [32] r).length≤9 * r.length:=by
   have hr:∀x∈r,x.length≤8:=fun x hx=>h x (List.mem_cons_of_mem _ hx)
   clear h
   induction r with
   |nil=>simp[Lib.joinTail]
   | cons b r ih=>
    have:=ih fun x hx=>hr x (List.mem_cons_of_mem _ hx)
    have hb:=hr b List.mem_cons_self
    unfold Lib.joinTail at this⊢
    simp only[List.map_cons,List.flatten_cons,List.length_append,List.length_cons,List.length_nil] at this⊢
    omega
  simp only[List.length_append,List.length_cons]
  omega
def ZkY :List (List UInt8):=[[],[105,110],[97,110,100],[111,114],[104,111,108,100],[99,111,118,101,114]]
def Zmu :List (List UInt8):=[[],[],[33],[63]]
def Zoy (n:PNet) (i:Int):List UInt8:=match n.wires[i.toNat]? with|some w=>w.name|none=>[]
def Zny (n:PNet) (p:Int×Bool):List UInt8:=if p.2=true then Zoy n p.1++[39] else Zoy n p.1
def ZkK (n:PNet) (k:Nat) (w:PWire):List UInt8:=match n.signals[k]? with
 |some s=>ZkY.getD w.kind.toNat []++Zmu.getD s.2.toNat []
 |none=>ZkY.getD w.kind.toNat []
def ZmT (w:PWire):List (List UInt8):=if w.kind=5 then [61]::w.cover else []
def ZmU (n:PNet) (k:Nat) (w:PWire):List (List UInt8):=[ZkK n k w,w.name]++w.ins.map (Zny n)++ZmT w
def Znu (n:PNet) (k:Nat) (w:PWire):List UInt8:=Lib.join (ZmU n k w) [32]++[10]
def ZnU (n:PNet):Nat→List PWire→List UInt8→List UInt8
 |_,[],a=>a
 |k,w::r,a=>ZnU n (k+1) r (a++Znu n k w)
def fnP (n:PNet):List UInt8×Bool:=if Zmd n=true then (ZnU n 0 n.wires [],true) else ([],false)
theorem Znn {R:Type} (n:PNet) (e:List UInt8→Option R):∀(l:List PWire) (k:Nat) (a:List UInt8),ZcB (R:=R) (fun a k w=>.inl (a++Znu n k w)) e k a l=e (ZnU n k l a)
 |[],k,a=>rfl
 | w::r,k,a=>by
  unfold ZcB ZnU
  exact Znn n e r (k+1) _
structure WOk (n:PNet) (k:Nat) (w:PWire):Prop where
 kind:1≤w.kind∧w.kind≤5
 name:w.name.length≤6
 ins:w.ins.length≤8
 pin:∀p∈w.ins,0≤p.1∧p.1<n.wires.length
 cover:w.kind=5→w.cover.length≤60∧∀c∈w.cover,c.length≤8
 sig:∀s,n.signals[k]?=some s→1≤s.2∧s.2≤3
theorem w_ok {n:PNet} (h:Zmd n=true) {k:Nat} {w:PWire} (hw:n.wires[k]?=some w):WOk n k w:=by
 have h6:=ZnF h w (List.mem_of_getElem? hw)
 unfold Zmd at h
 simp only[Bool.and_eq_true] at h
 have hk:=ZnE _ _ _ h.2 k _ hw
 rw[Nat.zero_add] at hk
 unfold Zlb ZnP Zo4 inR at hk
 simp only[Bool.and_eq_true,decide_eq_true_eq] at hk
 obtain ⟨⟨⟨⟨⟨hkd,_⟩,_⟩,hcov⟩,_,hpins,hform⟩,_⟩:=hk
 refine ⟨hkd,h6, ?_,fun p hp=> ?_,fun h5=> ?_,fun s hs=> ?_⟩
 ·unfold ZlO inR at hform
  split at hform
  ·simp only[decide_eq_true_eq] at hform;omega
  ·split at hform
   ·simp only[decide_eq_true_eq] at hform;omega
   ·split at hform
    ·simp only[Bool.or_eq_true,decide_eq_true_eq] at hform
     rcases hform with h0|h1
     ·omega
     ·split at h1
      ·rename_i he;rw[he];simp
      ·cases h1
    ·simp only[Bool.and_eq_true,decide_eq_true_eq] at hform;omega
 ·have:=Zo9 (fun p=>ZmN n k p) hpins hp
  unfold ZmN inR at this
  simp only[Bool.and_eq_true,decide_eq_true_eq] at this
  omega
 ·rw[if_pos h5] at hcov
  unfold ZnO ZnC inR at hcov
  simp only[Bool.and_eq_true,decide_eq_true_eq] at hcov
  refine ⟨by omega,fun c hc=> ?_⟩
  have:=Zo9 (fun c=>Zna c&&decide ((c.length:Int)=n.signals.length)) hcov.1 hc
  simp only[Bool.and_eq_true,decide_eq_true_eq] at this
  omega
 ·have hsg:=h.1.1
  unfold ZnN at hsg
  rw[Bool.and_eq_true] at hsg
  have:=ZnE _ _ _ hsg.1 k _ hs
  rw[Nat.zero_add] at this
  unfold ZnM inR at this
  simp only[Bool.and_eq_true,decide_eq_true_eq] at this
  omega
theorem ZpK :∀i:Fin 6,(ZkY.getD i.1 []).length≤5:=by decide
theorem ZpL :∀i:Fin 4,(Zmu.getD i.1 []).length≤1:=by decide
theorem Zqc {n:PNet} (h:Zmd n=true) (i:Int):(Zoy n i).length≤6:=by
 unfold Zoy
 split
 ·rename_i w hw;exact ZnF h w (List.mem_of_getElem? hw)
 ·simp
theorem ZnV {n:PNet} (h:Zmd n=true) (p:Int×Bool):(Zny n p).length≤7:=by
 have:=Zqc h p.1
 unfold Zny
 split<;>simp<;>omega
theorem Zno {n:PNet} {k:Nat} {w:PWire} (h:WOk n k w):(ZkK n k w).length≤6:=by
 have hk:=ZpK ⟨w.kind.toNat,by have:=h.kind;omega⟩
 dsimp only at hk
 unfold ZkK
 split
 ·rename_i s hs
  have:=h.sig s hs
  have hm:=ZpL ⟨s.2.toNat,by omega⟩
  dsimp only at hm
  rw[List.length_append];omega
 ·omega
theorem Zoz {n:PNet} (hn:Zmd n=true) {k:Nat} {w:PWire} (h:WOk n k w):(∀x∈ZmU n k w,x.length≤8)∧(ZmU n k w).length≤71:=by
 have hh:=Zno h
 have h1:=h.name
 have h2:=h.ins
 constructor
 ·intro x hx
  unfold ZmU at hx
  simp only[List.cons_append,List.nil_append,List.mem_cons,List.mem_append,List.mem_map] at hx
  rcases hx with rfl|rfl|⟨p,_,rfl⟩|hx
  ·omega
  ·omega
  ·have:=ZnV hn p;omega
  ·unfold ZmT at hx
   split at hx
   ·rename_i h5
    rcases List.mem_cons.1 hx with rfl|hx
    ·simp
    ·exact (h.cover h5).2 x hx
   ·cases hx
 ·unfold ZmU ZmT
  simp only[List.length_append,List.length_cons,List.length_nil,List.length_map]
  split
  ·rename_i h5
   have:=(h.cover h5).1
   simp only[List.length_cons];omega
  ·simp only[List.length_nil];omega
theorem Zpa {n:PNet} (hn:Zmd n=true) {k:Nat} {w:PWire} (h:WOk n k w):(Znu n k w).length≤640:=by
 obtain ⟨h1,h2⟩:=Zoz hn h
 have:=ZlJ _ h1
 unfold Znu
 simp only[List.length_append,List.length_cons,List.length_nil]
 omega
theorem kw_at {m:Nat} (h:m<6):Zg4 (ZkY.map PV.str) (.int .i64 (m:Int))=some (.int .i64 (m:Int))∧(ZkY.map PV.str)[m]?=some (.str (ZkY.getD m [])):=by
 constructor
 ·exact ZnJ (by rw[List.length_map];exact h)
 ·rw[List.getElem?_map]
  have:ZkY[m]?=some (ZkY.getD m []):=by
   rw[List.getD_eq_getElem?_getD,List.getElem?_eq_getElem (show m<ZkY.length from h)];rfl
  rw[this];rfl
theorem Znb :ZlG []=some (.lst (ZkY.map PV.str)):=by
 rw[show ZlG []=_ from Zot]
 rfl
theorem Zpb (m:Nat) (h:m<4):ZlY [pI (m:Int)]=some (.str (Zmu.getD m [])):=by
 show (fun x0=>ZlY [x0]) _=_
 rw[ZoX]
 match m,h with
 |0,_=>rfl
 |1,_=>rfl
 |2,_=>rfl
 |3,_=>rfl
theorem Zpc {n:PNet} {i:Nat} {w:PWire} (h:n.wires[i]?=some w):Zoy n (i:Int)=w.name:=by
 unfold Zoy;rw[Int.toNat_natCast,h]
theorem ZnG {R α:Type} (g:α→List UInt8) (e:List (List UInt8)→Option R):∀(l:List α) (k:Nat) (a:List (List UInt8)),ZcB (R:=R) (fun a _ x=>.inl (a++[g x])) e k a l=e (a++l.map g)
 |[],k,a=>by simp[ZcB]
 | x::r,k,a=>by
  unfold ZcB
  dsimp only
  rw[ZnG g e r (k+1) _,List.append_assoc]
  rfl
theorem Zpd (n:PNet) (hn:n.Fit) (h:Zmd n=true):ZlZ [Zla n]=some (.str (ZnU n 0 n.wires [])):=by
 have h24:n.wires.length≤24:=by
  unfold Zmd at h;simp only[Bool.and_eq_true,Bool.not_eq_true',decide_eq_false_iff_not] at h;omega
 have hsl:n.signals.length≤24:=by
  unfold Zmd at h;simp only[Bool.and_eq_true,Bool.not_eq_true',decide_eq_false_iff_not] at h;omega
 show (fun x0=>ZlZ [x0]) _=_
 rw[ZoZ]
 simp only[Zla,List.length_map,EVS]
 refine (congrArg (fun m:Option PV=>m.bind fun r=>if r.sc=true then some r else none) ((ZgG (R:=PV) n.wires (fun (a:List UInt8) k=>[.str a,pI (Int.ofNat k)]) (fun k a=>a.length≤640 * k) (fun (a:List UInt8) k w=>.inl (a++Znu n k w)) (fun a=>some (.str a)) _ (by omega) (fun a k w a' hi hf he=> ?_) (fun again a k w hi hf=> ?_) (fun again a hi=> ?_) (b:=[]) (by simp)).trans (Znn n _ _ _ _))).trans ?_
 ·cases he
  have:=Zpa h (w_ok h hf)
  rw[List.length_append];omega
 ·have hk:=ZK hf
  have hw:=w_ok h hf
  have hix:ZaW (.lst (n.wires.map ZiK)) (.int .i64 (k:Int))=some (ZiK w):=Za3 hf
  have hs4:∀a b c d a' b' c' d':PV,splice [a,b,c,d] 0 [a',b',c',d']=[a',b',c',d']:=fun _ _ _ _ _ _ _ _=>rfl
  obtain ⟨hw1,hw2,hw3,hw4,hw5,hw6⟩:=hw
  obtain ⟨m,hm⟩:∃m:Nat,w.kind=m:=⟨w.kind.toNat,by omega⟩
  obtain ⟨q1,q2⟩:=kw_at (m:=m) (by omega)
  have hkl:=ZpK ⟨m,by omega⟩
  dsimp only at hkl
  have a1:Zg .add TD.str (.str a) (.str (ZkY.getD m []))=some (.str (a++ZkY.getD m [])):=Zba (by omega)
  have a2:Zg .add TD.str (.str [32]) (.str w.name)=some (.str (32::w.name)):=Zba (by simp;omega)
  dsimp only
  have hwr:IntKind.i64.wrap ((k:Int)+1)=((k+1:Nat):Int):=ZcL hk (by omega)
  have hsp:∀a b a' b':PV,splice [a,b] 0 [a',b']=[a',b']:=fun _ _ _ _=>rfl
  have hhl:=Zno (w_ok h hf)
  have hj0:∀X:List UInt8,X=ZkK n k w→a++X++32::w.name=a++Lib.join ([ZkK n k w,w.name]++[]) [32]:=fun X e=>by
   rw[e]
   simp[Lib.join_cons,Lib.joinTail]
  by_cases c:k<n.signals.length
  case' pos=>
   have hsk:n.signals[k]?=some n.signals[k]:=List.getElem?_eq_getElem c
   obtain ⟨s1,s2⟩:=hw6 _ hsk
   obtain ⟨q,hq⟩:∃q:Nat,(n.signals[k]).2=q:=⟨(n.signals[k]).2.toNat,by omega⟩
   have hsx:ZaW (.lst (n.signals.map Zj8)) (.int .i64 (k:Int))=some (Zj8 n.signals[k]):=Za3 hsk
   have g1:=Zpb q (by omega)
   have hml:=ZpL ⟨q,by omega⟩
   dsimp only at hml
   have hd:ZkK n k w=ZkY.getD m []++Zmu.getD q []:=by
    unfold ZkK;rw[hsk];dsimp only;rw[hq,hm,Int.toNat_natCast,Int.toNat_natCast]
   have a3:Zg .add TD.str (.str (a++ZkY.getD m [])) (.str (Zmu.getD q []))=some (.str (a++ZkY.getD m []++Zmu.getD q [])):=Zba (by simp only[List.length_append];omega)
   have a4:Zg .add TD.str (.str (a++ZkY.getD m []++Zmu.getD q [])) (.str (32::w.name))=some (.str (a++ZkY.getD m []++Zmu.getD q []++32::w.name)):=Zba (by simp only[List.length_append,List.length_cons];omega)
   have hc:decide ((k:Int)<(n.signals.length:Int))=true:=by simpa using c
   simp only[ZeO hk,hix,ZiK,hs4,Znb,hm,q1,q2,a1,a2,hc,hsx,Zj8,hq,g1,a3,a4,hwr,List.length_map,List.drop_succ_cons,List.drop_zero,if_true,EVS]
   rw[List.append_assoc a (ZkY.getD m []),hj0 _ hd.symm]
  case' neg=>
   have hsk:n.signals[k]?=none:=List.getElem?_eq_none (by omega)
   have hd:ZkK n k w=ZkY.getD m []:=by
    unfold ZkK;rw[hsk];dsimp only;rw[hm,Int.toNat_natCast]
   have a4:Zg .add TD.str (.str (a++ZkY.getD m [])) (.str (32::w.name))=some (.str (a++ZkY.getD m []++32::w.name)):=Zba (by simp only[List.length_append,List.length_cons];omega)
   have hc:decide ((k:Int)<(n.signals.length:Int))=false:=by simpa using c
   simp only[ZeO hk,hix,ZiK,hs4,Znb,hm,q1,q2,a1,a2,hc,a4,hwr,List.length_map,Bool.false_eq_true,if_false,EVS]
   rw[hj0 _ hd.symm]
  all_goals
   refine ((ZgG (R:=PV) w.ins (fun (b:List (List UInt8)) i=>[.str (a++Lib.join ([ZkK n k w,w.name]++b) [32]),pI (Int.ofNat i)]) (fun i b=>b.length=i∧∀x∈b,x.length≤7) (fun (b:List (List UInt8)) _ p=>.inl (b++[Zny n p])) (fun b=>again [.str (a++Lib.join ([ZkK n k w,w.name]++b++ZmT w) [32]++[10]),pI ((k+1:Nat):Int)]) _ (by omega) (fun b i p b' hi hf he=> ?_) (fun again' b i p hi hf=> ?_) (fun again' b hi=> ?_) (b:=[]) ⟨rfl,by simp⟩).trans (ZnG (Zny n) _ _ _ _)).trans ?_
   ·cases he
    refine ⟨by simp[hi.1],fun y hy=> ?_⟩
    rcases List.mem_append.1 hy with hy|hy
    ·exact hi.2 y hy
    ·rw[List.mem_singleton] at hy;subst hy;exact ZnV h p
   ·have hi8:i<w.ins.length:=ZK hf
    have hpx:ZaW (.lst (w.ins.map ZkE)) (.int .i64 (i:Int))=some (ZkE p):=Za3 hf
    obtain ⟨p0,p1⟩:=hw4 p (List.mem_of_getElem? hf)
    obtain ⟨j,hj⟩:∃j:Nat,p.1=j:=⟨p.1.toNat,by omega⟩
    have hjl:j<n.wires.length:=by omega
    have hjw:n.wires[j]?=some n.wires[j]:=List.getElem?_eq_getElem hjl
    have hjx:ZaW (.lst (n.wires.map ZiK)) (.int .i64 (j:Int))=some (ZiK n.wires[j]):=Za3 hjw
    have hnl:=ZnF h _ (List.mem_of_getElem? hjw)
    have hLl:([ZkK n k w,w.name]++b).length=i+2:=by have:=hi.1;simp;omega
    have hLe:=ZlJ ([ZkK n k w,w.name]++b) (fun x hx=>by
     simp only[List.cons_append,List.nil_append,List.mem_cons] at hx
     rcases hx with rfl|rfl|hx
     ·omega
     ·omega
     ·have:=hi.2 x hx;omega)
    rw[hLl] at hLe
    have hsn:=ZmS (l:=[ZkK n k w,w.name]++b) (by simp) (Zny n p)
    have hpw:Zny n p=if p.2=true then (n.wires[j]).name++[39] else (n.wires[j]).name:=by
     unfold Zny;rw[hj,Zpc hjw]
    obtain ⟨L,hL⟩:∃L,Lib.join ([ZkK n k w,w.name]++b) [32]=L:=⟨_,rfl⟩
    rw[hL] at hsn hLe
    dsimp only
    rw[←List.append_assoc,hsn,hpw,hL]
    have a5:Zg .add TD.str (.str [32]) (.str (n.wires[j]).name)=some (.str (32::(n.wires[j]).name)):=Zba (by simp;omega)
    have a6:Zg .add TD.str (.str (a++L)) (.str (32::(n.wires[j]).name))=some (.str (a++L++32::(n.wires[j]).name)):=Zba (by simp only[List.length_append,List.length_cons];omega)
    have a7:Zg .add TD.str (.str (a++(L++32::(n.wires[j]).name))) (.str [39])=some (.str (a++(L++32::((n.wires[j]).name++[39])))):=by
     rw[Zba (by simp only[List.length_append,List.length_cons,List.length_nil];omega)]
     simp
    cases cp:p.2<;>simp only[ZeO hi8,ZcL hi8 (show w.ins.length≤9223372036854775807 by omega),hpx,ZkE,hsp,hj,hjx,ZiK,a5,a6,a7,cp,List.drop_zero,Bool.false_eq_true,if_false,if_true,List.append_assoc,List.cons_append,EVS]
   ·obtain ⟨hb1,hb2⟩:=hi
    have hLl:([ZkK n k w,w.name]++b).length=w.ins.length+2:=by simp;omega
    have hLm:∀x∈[ZkK n k w,w.name]++b,x.length≤8:=fun x hx=>by
     simp only[List.cons_append,List.nil_append,List.mem_cons] at hx
     rcases hx with rfl|rfl|hx
     ·omega
     ·omega
     ·have:=hb2 x hx;omega
    have hLe:=ZlJ ([ZkK n k w,w.name]++b) hLm
    rw[hLl] at hLe
    obtain ⟨LL,hLL⟩:∃LL,[ZkK n k w,w.name]++b=LL:=⟨_,rfl⟩
    have hne:LL≠[]:=by rw[←hLL];simp
    rw[hLL] at hLe hLm hLl⊢
    by_cases c5:m=5
    ·have hc5:decide ((m:Int)=5)=true:=by simp;omega
     have hcov:ZmT w=[61]::w.cover:=by unfold ZmT;rw[if_pos (by omega)]
     obtain ⟨v1,v2⟩:=hw5 (by omega)
     have hsn:=ZmS hne [61]
     have a5:Zg .add TD.str (.str (a++Lib.join LL [32])) (.str [32,61])=some (.str (a++Lib.join (LL++[[61]]++[]) [32])):=by
      rw[List.append_nil,hsn,Zba (by simp only[List.length_append,List.length_cons,List.length_nil];omega),List.append_assoc]
     simp only[Zle,hc5,a5,if_true,EVS]
     refine ((ZgG (R:=PV) w.cover (fun (v:List (List UInt8)) i=>[.str (a++Lib.join (LL++[[61]]++v) [32]),pI (Int.ofNat i)]) (fun i v=>v.length=i∧∀x∈v,x.length≤8) (fun (v:List (List UInt8)) _ x=>.inl (v++[x])) (fun v=>again [.str (a++Lib.join (LL++[[61]]++v) [32]++[10]),pI ((k+1:Nat):Int)]) _ (by omega) (fun v i x v' hi hf he=> ?_) (fun again'' v i x hi hf=> ?_) (fun again'' v hi=> ?_) (b:=[]) ⟨rfl,by simp⟩).trans (ZnG id _ _ _ _)).trans ?_
     ·cases he
      refine ⟨by simp[hi.1],fun y hy=> ?_⟩
      rcases List.mem_append.1 hy with hy|hy
      ·exact hi.2 y hy
      ·rw[List.mem_singleton] at hy;subst hy;exact v2 _ (List.mem_of_getElem? hf)
     ·have hi8:i<w.cover.length:=ZK hf
      have hpx:ZaW (.lst (w.cover.map PV.str)) (.int .i64 (i:Int))=some (.str x):=Za3 hf
      have hxl:=v2 _ (List.mem_of_getElem? hf)
      have hVe:=ZlJ (LL++[[61]]++v) (fun y hy=>by
       rcases List.mem_append.1 hy with hy|hy
       ·rcases List.mem_append.1 hy with hy|hy
        ·exact hLm y hy
        ·rw[List.mem_singleton] at hy;subst hy;simp
       ·exact hi.2 y hy)
      have hVl:(LL++[[61]]++v).length=w.ins.length+3+i:=by have:=hi.1;simp only[List.length_append,List.length_cons,List.length_nil];omega
      rw[hVl] at hVe
      have hsx:=ZmS (l:=LL++[[61]]++v) (by simp) x
      obtain ⟨V,hV⟩:∃V,Lib.join (LL++[[61]]++v) [32]=V:=⟨_,rfl⟩
      rw[hV] at hsx hVe
      dsimp only
      rw[←List.append_assoc,hsx,hV]
      have a6:Zg .add TD.str (.str [32]) (.str x)=some (.str (32::x)):=Zba (by simp;omega)
      have a7:Zg .add TD.str (.str (a++V)) (.str (32::x))=some (.str (a++(V++32::x))):=by
       rw[Zba (by simp only[List.length_append,List.length_cons];omega),List.append_assoc]
      simp only[ZeO hi8,ZcL hi8 (show w.cover.length≤9223372036854775807 by omega),hpx,a6,a7,EVS]
     ·have hVe:=ZlJ (LL++[[61]]++v) (fun y hy=>by
       rcases List.mem_append.1 hy with hy|hy
       ·rcases List.mem_append.1 hy with hy|hy
        ·exact hLm y hy
        ·rw[List.mem_singleton] at hy;subst hy;simp
       ·exact hi.2 y hy)
      have hVl:(LL++[[61]]++v).length=w.ins.length+3+w.cover.length:=by have:=hi.1;simp only[List.length_append,List.length_cons,List.length_nil];omega
      rw[hVl] at hVe
      have a6:Zg .add TD.str (.str (a++Lib.join (LL++[[61]]++v) [32])) (.str [10])=some (.str (a++Lib.join (LL++[[61]]++v) [32]++[10])):=Zba (by simp only[List.length_append,List.length_cons,List.length_nil];omega)
      simp only[Zle,a6,EVS]
     ·rw[hcov]
      simp only[List.map_id,List.nil_append,List.append_assoc,List.cons_append]
    ·have hc5:decide ((m:Int)=5)=false:=by simp;omega
     have hcov:ZmT w=[]:=by unfold ZmT;rw[if_neg (by omega)]
     have a6:Zg .add TD.str (.str (a++Lib.join LL [32])) (.str [10])=some (.str (a++Lib.join LL [32]++[10])):=Zba (by simp only[List.length_append,List.length_cons,List.length_nil];omega)
     simp only[Zle,hc5,a6,hcov,List.append_nil,Bool.false_eq_true,if_false,EVS]
   ·unfold Znu ZmU
    simp only[List.nil_append,List.append_assoc]
 ·simp only[Zle,EVS]
 ·simp only[EVS]
theorem tab_0 {m:Nat} (h:m<6):ZpE 0 (.int .i64 (m:Int))=some (.str (ZkY.getD m [])):=by
 match m,h with
 |0,_=>rfl
 |1,_=>rfl
 |2,_=>rfl
 |3,_=>rfl
 |4,_=>rfl
 |5,_=>rfl
theorem tab_1 {m:Nat} (h:m<4):ZpE 1 (.int .i64 (m:Int))=some (.str (Zmu.getD m [])):=by
 match m,h with
 |0,_=>rfl
 |1,_=>rfl
 |2,_=>rfl
 |3,_=>rfl
theorem Zqv (acc:List (List UInt8)) (hn:acc.length≤100) (hi:∀x∈acc,x.length≤8):Z0 [.lst (acc.map PV.str),.str [32]]=some (.str (Lib.join acc [32])):=by
 have hj:=ZlJ acc hi
 show (match ZcS (acc.map PV.str) with
  |some xs=>if xs.length≤140737488355328∧(Lib.join xs [32]).length≤140737488355328 then some (PV.str (Lib.join xs [32])) else none
  |none=>none)=_
 rw[ZeT]
 show (if _ then _ else _)=_
 rw[if_pos ⟨by omega,by omega⟩]
theorem ZmV (n:PNet) (hn:n.Fit):Zk5 [Zla n]=some (.tup [.str (fnP n).1,pB (fnP n).2]):=by
 have g1:=ZmR n hn
 rw[←net_eq] at g1
 simp only[Zla] at g1
 show (fun x0=>Zk5 [x0]) _=_
 rw[Zm9]
 unfold fnP
 simp only[Zla,Zov,g1,List.length_map,EVS]
 obtain h|h:=(Bool.eq_false_or_eq_true (Zmd n)).symm
 ·simp only[h,Bool.not_false,Bool.false_eq_true,if_false,if_true,EVS]
  rfl
 have h24:n.wires.length≤24:=by
  have h:=h
  unfold Zmd at h;simp only[Bool.and_eq_true,Bool.not_eq_true',decide_eq_false_iff_not] at h;omega
 have hsl:n.signals.length≤24:=by
  have h:=h
  unfold Zmd at h;simp only[Bool.and_eq_true,Bool.not_eq_true',decide_eq_false_iff_not] at h;omega
 simp only[h,Bool.not_true,Bool.false_eq_true,if_false,if_true,EVS]
 refine (congrArg (fun m:Option PV=>m.bind fun r=>if r.sc=true then some r else none) ((ZgG (R:=PV) n.wires (fun (a:List UInt8) k=>[.str a,pI (Int.ofNat k)]) (fun k a=>a.length≤640 * k) (fun (a:List UInt8) k w=>.inl (a++Znu n k w)) (fun a=>some (.tup [.str a,pB true])) _ (by omega) (fun a k w a' hi hf he=> ?_) (fun again a k w hi hf=> ?_) (fun again a hi=> ?_) (b:=[]) (by simp)).trans (Znn n _ _ _ _))).trans ?_
 ·cases he
  have:=Zpa h (w_ok h hf)
  rw[List.length_append];omega
 ·have hk:=ZK hf
  have hw:=w_ok h hf
  have hix:ZaW (.lst (n.wires.map ZiK)) (.int .i64 (k:Int))=some (ZiK w):=Za3 hf
  have hs4:∀a b c d a' b' c' d':PV,splice [a,b,c,d] 0 [a',b',c',d']=[a',b',c',d']:=fun _ _ _ _ _ _ _ _=>rfl
  have hwl:=Zoz h hw
  obtain ⟨hw1,hw2,hw3,hw4,hw5,hw6⟩:=hw
  obtain ⟨m,hm⟩:∃m:Nat,w.kind=m:=⟨w.kind.toNat,by omega⟩
  have q1:=tab_0 (m:=m) (by omega)
  have hkl:=ZpK ⟨m,by omega⟩
  dsimp only at hkl
  dsimp only
  have hwr:IntKind.i64.wrap ((k:Int)+1)=((k+1:Nat):Int):=ZcL hk (by omega)
  have hsp:∀a b a' b':PV,splice [a,b] 0 [a',b']=[a',b']:=fun _ _ _ _=>rfl
  have hhl:=Zno (w_ok h hf)
  by_cases c:k<n.signals.length
  case' pos=>
   have hsk:n.signals[k]?=some n.signals[k]:=List.getElem?_eq_getElem c
   obtain ⟨s1,s2⟩:=hw6 _ hsk
   obtain ⟨q,hq⟩:∃q:Nat,(n.signals[k]).2=q:=⟨(n.signals[k]).2.toNat,by omega⟩
   have hsx:ZaW (.lst (n.signals.map Zj8)) (.int .i64 (k:Int))=some (Zj8 n.signals[k]):=Za3 hsk
   have g1:=tab_1 (m:=q) (by omega)
   have hml:=ZpL ⟨q,by omega⟩
   dsimp only at hml
   have hd:ZkK n k w=ZkY.getD m []++Zmu.getD q []:=by
    unfold ZkK;rw[hsk];dsimp only;rw[hq,hm,Int.toNat_natCast,Int.toNat_natCast]
   have a3:Zg .add TD.str (.str (ZkY.getD m [])) (.str (Zmu.getD q []))=some (.str (ZkY.getD m []++Zmu.getD q [])):=Zba (by omega)
   have hc:decide ((k:Int)<(n.signals.length:Int))=true:=by simpa using c
   simp only[ZeO hk,hix,ZiK,hs4,hm,q1,hc,hsx,Zj8,hq,g1,a3,hwr,List.length_map,List.drop_succ_cons,List.drop_zero,if_true,EVS]
   rw[←hd]
  case' neg=>
   have hsk:n.signals[k]?=none:=List.getElem?_eq_none (by omega)
   have hd:ZkK n k w=ZkY.getD m []:=by
    unfold ZkK;rw[hsk];dsimp only;rw[hm,Int.toNat_natCast]
   have hc:decide ((k:Int)<(n.signals.length:Int))=false:=by simpa using c
   simp only[ZeO hk,hix,ZiK,hs4,hm,q1,hc,hwr,List.length_map,Bool.false_eq_true,if_false,EVS]
   rw[←hd]
  all_goals
   refine ((ZgG (R:=PV) w.ins (fun (b:List (List UInt8)) i=>[.lst (([ZkK n k w,w.name]++b).map PV.str),pI (Int.ofNat i)]) (fun i b=>b.length=i∧∀x∈b,x.length≤7) (fun (b:List (List UInt8)) _ p=>.inl (b++[Zny n p])) (fun b=>again [.str (a++(Lib.join ([ZkK n k w,w.name]++b++ZmT w) [32]++[10])),pI ((k+1:Nat):Int)]) _ (by omega) (fun b i p b' hi hf he=> ?_) (fun again' b i p hi hf=> ?_) (fun again' b hi=> ?_) (b:=[]) ⟨rfl,by simp⟩).trans (ZnG (Zny n) _ _ _ _)).trans ?_
   ·cases he
    refine ⟨by simp[hi.1],fun y hy=> ?_⟩
    rcases List.mem_append.1 hy with hy|hy
    ·exact hi.2 y hy
    ·rw[List.mem_singleton] at hy;subst hy;exact ZnV h p
   ·have hi8:i<w.ins.length:=ZK hf
    have hpx:ZaW (.lst (w.ins.map ZkE)) (.int .i64 (i:Int))=some (ZkE p):=Za3 hf
    obtain ⟨p0,p1⟩:=hw4 p (List.mem_of_getElem? hf)
    obtain ⟨j,hj⟩:∃j:Nat,p.1=j:=⟨p.1.toNat,by omega⟩
    have hjl:j<n.wires.length:=by omega
    have hjw:n.wires[j]?=some n.wires[j]:=List.getElem?_eq_getElem hjl
    have hjx:ZaW (.lst (n.wires.map ZiK)) (.int .i64 (j:Int))=some (ZiK n.wires[j]):=Za3 hjw
    have hnl:=ZnF h _ (List.mem_of_getElem? hjw)
    have hpw:Zny n p=if p.2=true then (n.wires[j]).name++[39] else (n.wires[j]).name:=by
     unfold Zny;rw[hj,Zpc hjw]
    have hal:([ZkK n k w,w.name]++b).length=i+2:=by have:=hi.1;simp;omega
    dsimp only
    rw[←List.append_assoc,hpw]
    obtain ⟨acc,hacc⟩:∃acc,[ZkK n k w,w.name]++b=acc:=⟨_,rfl⟩
    rw[hacc] at hal⊢
    have hif:∀X:List UInt8,(if acc.length+[PV.str X].length≤4294967296∧[PV.str X].all (Zc3 1)=true then some (PV.lst (acc.map PV.str++[PV.str X])) else none)=some (PV.lst ((acc++[X]).map PV.str)):=fun X=>by
     rw[if_pos ⟨by simp;omega,rfl⟩,List.map_append];rfl
    have a5:Zg .add TD.str (.str (n.wires[j]).name) (.str [39])=some (.str ((n.wires[j]).name++[39])):=Zba (by simp;omega)
    cases cp:p.2<;>simp only[ZeO hi8,ZcL hi8 (show w.ins.length≤9223372036854775807 by omega),hpx,ZkE,hsp,hj,hjx,ZiK,a5,cp,List.drop_zero,List.length_map,Bool.false_eq_true,if_false,if_true,EVS]
    ·exact congrArg (fun m:Option PV=>m.bind fun x=>again' [x,PV.int IntKind.i64 ((i+1:Nat):Int)]) (hif _)
    ·exact congrArg (fun m:Option PV=>m.bind fun x=>again' [x,PV.int IntKind.i64 ((i+1:Nat):Int)]) (hif _)
   ·obtain ⟨hb1,hb2⟩:=hi
    have hLl:([ZkK n k w,w.name]++b).length=w.ins.length+2:=by simp;omega
    have hLm:∀x∈[ZkK n k w,w.name]++b,x.length≤8:=fun x hx=>by
     simp only[List.cons_append,List.nil_append,List.mem_cons] at hx
     rcases hx with rfl|rfl|hx
     ·omega
     ·omega
     ·have:=hb2 x hx;omega
    obtain ⟨LL,hLL⟩:∃LL,[ZkK n k w,w.name]++b=LL:=⟨_,rfl⟩
    try dsimp only
    rw[hLL] at hLm hLl⊢
    have fin:∀Z:List (List UInt8),Z.length≤90→(∀x∈Z,x.length≤8)→Z0 [.lst (Z.map PV.str),.str [32]]=some (.str (Lib.join Z [32]))∧Zg .add TD.str (.str (Lib.join Z [32])) (.str [10])=some (.str (Lib.join Z [32]++[10]))∧Zg .add TD.str (.str a) (.str (Lib.join Z [32]++[10]))=some (.str (a++(Lib.join Z [32]++[10]))):=fun Z h1 h2=>by
     have:=ZlJ Z h2
     exact ⟨Zqv Z (by omega) h2,Zba (by simp;omega),Zba (by simp;omega)⟩
    by_cases c5:m=5
    ·have hc5:decide ((m:Int)=5)=true:=by simp;omega
     have hcov:ZmT w=[61]::w.cover:=by unfold ZmT;rw[if_pos (by omega)]
     obtain ⟨v1,v2⟩:=hw5 (by omega)
     obtain ⟨f1,f2,f3⟩:=fin (LL++ZmT w) (by rw[hcov];simp;omega) (fun x hx=>by
      rcases List.mem_append.1 hx with hx|hx
      ·exact hLm x hx
      ·rw[hcov] at hx
       rcases List.mem_cons.1 hx with rfl|hx
       ·simp
       ·exact v2 x hx)
     have hif:(if LL.length+[PV.str [61]].length≤4294967296∧[PV.str [61]].all (Zc3 1)=true then some (PV.lst (LL.map PV.str++[PV.str [61]])) else none)=some (PV.lst ((LL++[[61]]).map PV.str)):=by
      rw[if_pos ⟨by simp;omega,rfl⟩,List.map_append];rfl
     have hif2:(if (LL++[[61]]).length+w.cover.length≤4294967296∧(w.cover.map PV.str).all (Zc3 1)=true then some (PV.lst ((LL++[[61]]).map PV.str++w.cover.map PV.str)) else none)=some (PV.lst ((LL++ZmT w).map PV.str)):=by
      rw[if_pos ⟨by simp;omega,List.all_eq_true.2 (fun y hy=>by obtain ⟨x,_,rfl⟩:=List.mem_map.1 hy;rfl)⟩,hcov,←List.map_append,List.append_assoc];rfl
     simp only[Zle,hc5,List.length_map,if_true,EVS]
     rw[hif]
     simp only[List.length_map,EVS]
     rw[hif2]
     simp only[f1,f2,f3,EVS]
    ·have hc5:decide ((m:Int)=5)=false:=by simp;omega
     have hcov:ZmT w=[]:=by unfold ZmT;rw[if_neg (by omega)]
     obtain ⟨f1,f2,f3⟩:=fin LL (by omega) hLm
     simp only[Zle,hc5,f1,f2,f3,hcov,List.append_nil,List.length_map,Bool.false_eq_true,if_false,EVS]
   ·unfold Znu ZmU
    simp only[List.nil_append,List.append_assoc]
 ·simp only[Zle,EVS]
 ·simp only[EVS]
  rfl
def ZkD (m:Nat) (a:List UInt8×Int):Prop:=(a.1).length≤m
theorem Zqd (a:List UInt8×Int) (l:Int) (hb:ZkD 9223372036854775807 a) (h0:0≤l) (h1:l≤1048576):ZbL (ZlC [Zj8 a,pI l]) l (ZkD 1048576 a):=by
 have b0:=hb
 unfold ZkD at b0
 unfold ZkD
 show ZbL ((fun x0 x1=>ZlC [x0,x1]) _ _) _ _
 rw[Zol]
 simp only[Zj8,EVS]
 have w0:IntKind.i64.wrap (l - (a.1.length:Int))=(l - (a.1.length:Int)):=ZdY (by omega) (by omega)
 simp only[w0,EVS]
 by_cases c0:(l - (a.1.length:Int))<0
 ·simp only[c0,EVS];exact ZbL.neg h0
 simp only[c0,EVS]
 have q0:0≤(l - (a.1.length:Int))∧(l - (a.1.length:Int))≤l:=by omega
 exact ZbL.pos (by omega) (by omega)
theorem Zqe (a:List UInt8×Int) (hb:ZkD 1048576 a):ZlD [Zj8 a]=some (Zj8 a):=by
 have b0:=hb
 unfold ZkD at b0
 show (fun x0=>ZlD [x0]) _=_
 rw[Zon]
 simp only[Zj8,EVS]
theorem Zqf (a:List UInt8×Int) (hb:ZkD 9223372036854775807 a):ZlF [Zj8 a,Zj8 a]=some (pB true):=by
 have b0:=hb
 unfold ZkD at b0
 show (fun x0 x1=>ZlF [x0,x1]) _ _=_
 rw[Zor]
 simp only[Zj8,beq_self_eq_true,EVS]
theorem ZpM (xs:List (List UInt8×Int)) (l:Int) (hb:((xs).length≤9223372036854775807∧∀x∈xs,ZkD 9223372036854775807 x)) (h0:0≤l) (h1:l≤1048576):ZbL (Zlq [.lst (xs.map Zj8),pI l]) l (((xs).length≤1048576∧∀x∈xs,ZkD 1048576 x)):=by
 have hx:xs.length≤9223372036854775807:=hb.1
 show ZbL ((fun x0 x1=>Zlq [x0,x1]) _ _) _ _
 rw[ZnX]
 have w1:IntKind.i64.wrap (l - (xs.length:Int))=l - (xs.length:Int):=ZdY (by omega) (by omega)
 simp only[w1,List.length_map,EVS]
 by_cases c:l - (xs.length:Int)<0
 ·simp only[c,EVS];exact ZbL.neg h0
 ·simp only[c,EVS]
  refine (ZbL.sc (ZpD xs (fun x=>ZkD 1048576 x) _ hx (fun again k x l' hk h2 h3=> ?_) (fun again l'=> ?_) (by omega) (by omega))).mono (by omega) (fun h=>⟨by omega,h⟩)
  ·have hi:ZaW (.lst (xs.map Zj8)) (.int .i64 (k:Int))=some ((Zj8 x)):=Za3 hk
   obtain ⟨r,g1,g2,g3⟩:=Zqd x l' (hb.2 x (List.mem_of_getElem? hk)) h2 h3
   refine ⟨r,g2,g3, ?_⟩
   simp only[Zj8] at g1 hi
   simp only[ZeO (ZK hk),ZcL (ZK hk) hx,hi,g1,EVS]
   by_cases c2:r<0<;>simp only[c2,EVS]
  ·simp only[Zle,EVS]
theorem ZpN (xs:List (List UInt8×Int)) (hb:((xs).length≤1048576∧∀x∈xs,ZkD 1048576 x)):Zlt [.lst (xs.map Zj8)]=some (.lst (xs.map Zj8)):=by
 have hx:xs.length≤1048576:=hb.1
 show (fun x0=>Zlt [x0]) _=_
 rw[Zn3]
 simp only[mk_v _ _ (show xs.length≤4294967296 by omega),List.length_map,EVS]
 refine ZoB xs Zj8 2 _ _ (by omega) ?_ (fun _=> ?_) (fun _=> ?_) (fun again k x row el hk hl he hs=> ?_) (fun again row=> ?_)
 ·rfl
 ·rfl
 ·exact ⟨fun _=>⟨_,rfl⟩,fun _=>⟨_,rfl⟩⟩
 ·have hi:ZaW (.lst (xs.map Zj8)) (.int .i64 (k:Int))=some ((Zj8 x)):=Za3 hk
  have hkr:k<row.length:=by rw[hl];exact ZK hk
  have g1:=Zqe x (hb.2 x (List.mem_of_getElem? hk))
  simp only[Zj8] at g1 hi hs
  simp only[Zj8,ZeO (ZK hk),ZcL (ZK hk) (show xs.length≤9223372036854775807 by omega),hi,g1,ZnJ hkr,he,hs,EVS]
 ·simp only[Zle,EVS]
theorem ZpO (xs:List (List UInt8×Int)) (hb:((xs).length≤9223372036854775807∧∀x∈xs,ZkD 9223372036854775807 x)):Zlx [.lst (xs.map Zj8),.lst (xs.map Zj8)]=some (pB true):=by
 have hx:xs.length≤9223372036854775807:=hb.1
 show (fun x0 x1=>Zlx [x0,x1]) _ _=_
 rw[Zod]
 simp only[List.length_map,EVS]
 refine (congrArg (fun m:Option PV=>m.bind fun r=>if r.sc=true then some r else none) (Zek (R:=PV) xs (fun _ _=>true) (some (pB false)) (some (pB true)) _ hx (fun again k x hk=> ?_) (fun again=> ?_))).trans ?_
 ·have hi:ZaW (.lst (xs.map Zj8)) (.int .i64 (k:Int))=some ((Zj8 x)):=Za3 hk
  have g1:=Zqf x (hb.2 x (List.mem_of_getElem? hk))
  simp only[Zj8] at g1 hi
  simp only[ZeO (ZK hk),ZcL (ZK hk) hx,hi,g1,EVS]
 ·simp only[Zle,EVS]
 ·rw[show ZdQ (fun (_:Nat) (_:List UInt8×Int)=>true) 0 xs=true from Zfl xs 0];rfl
theorem to_Pin (a:Int×Bool):ZmH [ZkE a]=some (ZkE a):=by
 show (fun x0=>ZmH [x0]) _=_
 rw[ZpW]
 simp only[ZkE,EVS]
theorem eq_Pin (a:Int×Bool):ZmI [ZkE a,ZkE a]=some (pB true):=by
 show (fun x0 x1=>ZmI [x0,x1]) _ _=_
 rw[ZpY]
 simp only[ZkE,beq_self_eq_true,EVS]
theorem ZqR (xs:List (Int×Bool)) (l:Int) (hb:(xs).length≤9223372036854775807) (h0:0≤l) (h1:l≤1048576):ZbL (Zmf [.lst (xs.map ZkE),pI l]) l ((xs).length≤1048576):=by
 have hx:xs.length≤9223372036854775807:=hb
 show ZbL ((fun x0 x1=>Zmf [x0,x1]) _ _) _ _
 rw[Zpf]
 have w1:IntKind.i64.wrap (l - (xs.length:Int))=l - (xs.length:Int):=ZdY (by omega) (by omega)
 simp only[w1,List.length_map,EVS]
 by_cases c:l - (xs.length:Int)<0
 ·simp only[c,EVS];exact ZbL.neg h0
 ·simp only[c,EVS];exact ZbL.pos (by omega) (by omega)
theorem ZqS (xs:List (Int×Bool)) (hb:(xs).length≤1048576):Zmi [.lst (xs.map ZkE)]=some (.lst (xs.map ZkE)):=by
 have hx:xs.length≤1048576:=hb
 show (fun x0=>Zmi [x0]) _=_
 rw[Zpj]
 simp only[mk_v _ _ (show xs.length≤4294967296 by omega),List.length_map,EVS]
 refine ZoB xs ZkE 2 _ _ (by omega) ?_ (fun _=> ?_) (fun _=> ?_) (fun again k x row el hk hl he hs=> ?_) (fun again row=> ?_)
 ·rfl
 ·rfl
 ·exact ⟨fun _=>⟨_,rfl⟩,fun _=>⟨_,rfl⟩⟩
 ·have hi:ZaW (.lst (xs.map ZkE)) (.int .i64 (k:Int))=some ((ZkE x)):=Za3 hk
  have hkr:k<row.length:=by rw[hl];exact ZK hk
  have g1:=to_Pin x
  simp only[ZkE] at g1 hi hs
  simp only[ZkE,ZeO (ZK hk),ZcL (ZK hk) (show xs.length≤9223372036854775807 by omega),hi,g1,ZnJ hkr,he,hs,EVS]
 ·simp only[Zle,EVS]
theorem ZqT (xs:List (Int×Bool)) (hb:(xs).length≤9223372036854775807):Zmr [.lst (xs.map ZkE),.lst (xs.map ZkE)]=some (pB true):=by
 have hx:xs.length≤9223372036854775807:=hb
 show (fun x0 x1=>Zmr [x0,x1]) _ _=_
 rw[Zpv]
 simp only[List.length_map,EVS]
 refine (congrArg (fun m:Option PV=>m.bind fun r=>if r.sc=true then some r else none) (Zek (R:=PV) xs (fun _ _=>true) (some (pB false)) (some (pB true)) _ hx (fun again k x hk=> ?_) (fun again=> ?_))).trans ?_
 ·have hi:ZaW (.lst (xs.map ZkE)) (.int .i64 (k:Int))=some ((ZkE x)):=Za3 hk
  have g1:=eq_Pin x
  simp only[ZkE] at g1 hi
  simp only[ZeO (ZK hk),ZcL (ZK hk) hx,hi,g1,EVS]
 ·simp only[Zle,EVS]
 ·rw[show ZdQ (fun (_:Nat) (_:Int×Bool)=>true) 0 xs=true from Zfl xs 0];rfl
theorem ZpP (xs:List (List UInt8)) (l:Int) (hb:((xs).length≤9223372036854775807∧∀x∈xs,(x).length≤9223372036854775807)) (h0:0≤l) (h1:l≤1048576):ZbL (Zlr [.lst (xs.map PV.str),pI l]) l (((xs).length≤1048576∧∀x∈xs,(x).length≤1048576)):=by
 have hx:xs.length≤9223372036854775807:=hb.1
 show ZbL ((fun x0 x1=>Zlr [x0,x1]) _ _) _ _
 rw[ZnZ]
 have w1:IntKind.i64.wrap (l - (xs.length:Int))=l - (xs.length:Int):=ZdY (by omega) (by omega)
 simp only[w1,List.length_map,EVS]
 by_cases c:l - (xs.length:Int)<0
 ·simp only[c,EVS];exact ZbL.neg h0
 ·simp only[c,EVS]
  refine (ZbL.sc (ZpD xs (fun x=>(x).length≤1048576) _ hx (fun again k x l' hk h2 h3=> ?_) (fun again l'=> ?_) (by omega) (by omega))).mono (by omega) (fun h=>⟨by omega,h⟩)
  ·have hi:ZaW (.lst (xs.map PV.str)) (.int .i64 (k:Int))=some ((.str x)):=Za3 hk
   have hxl:=hb.2 x (List.mem_of_getElem? hk)
   have w2:IntKind.i64.wrap (l' - (x.length:Int))=l' - (x.length:Int):=ZdY (by omega) (by omega)
   refine ⟨l' - (x.length:Int),by omega,fun h=>by omega, ?_⟩
   simp only[ZeO (ZK hk),ZcL (ZK hk) hx,hi,w2,EVS]
   by_cases c2:l' - (x.length:Int)<0<;>simp only[c2,EVS]
  ·simp only[Zle,EVS]
theorem ZpQ (xs:List (List UInt8)) (hb:((xs).length≤1048576∧∀x∈xs,(x).length≤1048576)):Zlu [.lst (xs.map PV.str)]=some (.lst (xs.map PV.str)):=by
 have hx:xs.length≤1048576:=hb.1
 show (fun x0=>Zlu [x0]) _=_
 rw[Zn5]
 simp only[mk_v _ _ (show xs.length≤4294967296 by omega),List.length_map,EVS]
 refine ZoB xs PV.str 1 _ _ (by omega) ?_ (fun _=> ?_) (fun _=> ?_) (fun again k x row el hk hl he hs=> ?_) (fun again row=> ?_)
 ·rfl
 ·rfl
 ·constructor<;>(rintro ⟨l,h⟩;cases h)
 ·have hi:ZaW (.lst (xs.map PV.str)) (.int .i64 (k:Int))=some ((.str x)):=Za3 hk
  have hkr:k<row.length:=by rw[hl];exact ZK hk
  simp only[ZeO (ZK hk),ZcL (ZK hk) (show xs.length≤9223372036854775807 by omega),hi,ZnJ hkr,he,hs,EVS]
 ·simp only[Zle,EVS]
theorem ZpR (xs:List (List UInt8)) (hb:((xs).length≤9223372036854775807∧∀x∈xs,(x).length≤9223372036854775807)):Zly [.lst (xs.map PV.str),.lst (xs.map PV.str)]=some (pB true):=by
 have hx:xs.length≤9223372036854775807:=hb.1
 show (fun x0 x1=>Zly [x0,x1]) _ _=_
 rw[Zof]
 simp only[List.length_map,EVS]
 refine (congrArg (fun m:Option PV=>m.bind fun r=>if r.sc=true then some r else none) (Zek (R:=PV) xs (fun _ _=>true) (some (pB false)) (some (pB true)) _ hx (fun again k x hk=> ?_) (fun again=> ?_))).trans ?_
 ·have hi:ZaW (.lst (xs.map PV.str)) (.int .i64 (k:Int))=some ((.str x)):=Za3 hk
  simp only[ZeO (ZK hk),ZcL (ZK hk) hx,hi,beq_self_eq_true,EVS]
 ·simp only[Zle,EVS]
 ·rw[show ZdQ (fun (_:Nat) (_:List UInt8)=>true) 0 xs=true from Zfl xs 0];rfl
def ZlB (m:Nat) (a:PWire):Prop:=(a.name).length≤m∧(a.ins).length≤m∧((a.cover).length≤m∧∀x∈a.cover,(x).length≤m)
theorem ZqU (a:PWire) (l:Int) (hb:ZlB 9223372036854775807 a) (h0:0≤l) (h1:l≤1048576):ZbL (Zmg [ZiK a,pI l]) l (ZlB 1048576 a):=by
 obtain ⟨b0,b1,b2⟩:=hb
 unfold ZlB
 show ZbL ((fun x0 x1=>Zmg [x0,x1]) _ _) _ _
 rw[Zph]
 simp only[ZiK,EVS]
 have w0:IntKind.i64.wrap (l - (a.name.length:Int))=(l - (a.name.length:Int)):=ZdY (by omega) (by omega)
 simp only[w0,EVS]
 by_cases c0:(l - (a.name.length:Int))<0
 ·simp only[c0,EVS];exact ZbL.neg h0
 simp only[c0,EVS]
 have q0:0≤(l - (a.name.length:Int))∧(l - (a.name.length:Int))≤l:=by omega
 obtain ⟨r1,g1,y1,z1⟩:=ZqR a.ins (l - (a.name.length:Int)) b1 (by omega) (by omega)
 try simp only[g1,EVS]
 by_cases c1:r1<0
 ·simp only[g1,c1,EVS];exact ZbL.neg h0
 try simp only[g1,c1,EVS]
 have q1:0≤r1∧r1≤l:=by omega
 obtain ⟨r2,g2,y2,z2⟩:=ZpP a.cover r1 b2 (by omega) (by omega)
 try simp only[g2,EVS]
 by_cases c2:r2<0
 ·simp only[g2,c2,EVS];exact ZbL.neg h0
 try simp only[g2,c2,EVS]
 have q2:0≤r2∧r2≤l:=by omega
 exact ZbL.pos (by omega) ⟨(by omega),(z1 (by omega)),(z2 (by omega))⟩
theorem ZqV (a:PWire) (hb:ZlB 1048576 a):Zmj [ZiK a]=some (ZiK a):=by
 obtain ⟨b0,b1,b2⟩:=hb
 have g0:=ZqS a.ins b1
 have g1:=ZpQ a.cover b2
 show (fun x0=>Zmj [x0]) _=_
 rw[Zpl]
 simp only[ZiK,g0,g1,EVS]
theorem ZqW (a:PWire) (hb:ZlB 9223372036854775807 a):Zms [ZiK a,ZiK a]=some (pB true):=by
 obtain ⟨b0,b1,b2⟩:=hb
 have g0:=ZqT a.ins b1
 have g1:=ZpR a.cover b2
 show (fun x0 x1=>Zms [x0,x1]) _ _=_
 rw[Zpx]
 simp only[ZiK,g0,g1,beq_self_eq_true,EVS]
theorem Zqw (xs:List (PWire)) (l:Int) (hb:((xs).length≤9223372036854775807∧∀x∈xs,ZlB 9223372036854775807 x)) (h0:0≤l) (h1:l≤1048576):ZbL (ZlP [.lst (xs.map ZiK),pI l]) l (((xs).length≤1048576∧∀x∈xs,ZlB 1048576 x)):=by
 have hx:xs.length≤9223372036854775807:=hb.1
 show ZbL ((fun x0 x1=>ZlP [x0,x1]) _ _) _ _
 rw[ZoG]
 have w1:IntKind.i64.wrap (l - (xs.length:Int))=l - (xs.length:Int):=ZdY (by omega) (by omega)
 simp only[w1,List.length_map,EVS]
 by_cases c:l - (xs.length:Int)<0
 ·simp only[c,EVS];exact ZbL.neg h0
 ·simp only[c,EVS]
  refine (ZbL.sc (ZpD xs (fun x=>ZlB 1048576 x) _ hx (fun again k x l' hk h2 h3=> ?_) (fun again l'=> ?_) (by omega) (by omega))).mono (by omega) (fun h=>⟨by omega,h⟩)
  ·have hi:ZaW (.lst (xs.map ZiK)) (.int .i64 (k:Int))=some ((ZiK x)):=Za3 hk
   obtain ⟨r,g1,g2,g3⟩:=ZqU x l' (hb.2 x (List.mem_of_getElem? hk)) h2 h3
   refine ⟨r,g2,g3, ?_⟩
   simp only[ZiK] at g1 hi
   simp only[ZeO (ZK hk),ZcL (ZK hk) hx,hi,g1,EVS]
   by_cases c2:r<0<;>simp only[c2,EVS]
  ·simp only[Zle,EVS]
theorem Zqx (xs:List (PWire)) (hb:((xs).length≤1048576∧∀x∈xs,ZlB 1048576 x)):ZlQ [.lst (xs.map ZiK)]=some (.lst (xs.map ZiK)):=by
 have hx:xs.length≤1048576:=hb.1
 show (fun x0=>ZlQ [x0]) _=_
 rw[ZoI]
 simp only[mk_v _ _ (show xs.length≤4294967296 by omega),List.length_map,EVS]
 refine ZoB xs ZiK 4 _ _ (by omega) ?_ (fun _=> ?_) (fun _=> ?_) (fun again k x row el hk hl he hs=> ?_) (fun again row=> ?_)
 ·rfl
 ·rfl
 ·exact ⟨fun _=>⟨_,rfl⟩,fun _=>⟨_,rfl⟩⟩
 ·have hi:ZaW (.lst (xs.map ZiK)) (.int .i64 (k:Int))=some ((ZiK x)):=Za3 hk
  have hkr:k<row.length:=by rw[hl];exact ZK hk
  have g1:=ZqV x (hb.2 x (List.mem_of_getElem? hk))
  simp only[ZiK] at g1 hi hs
  simp only[ZiK,ZeO (ZK hk),ZcL (ZK hk) (show xs.length≤9223372036854775807 by omega),hi,g1,ZnJ hkr,he,hs,EVS]
 ·simp only[Zle,EVS]
theorem Zqy (xs:List (PWire)) (hb:((xs).length≤9223372036854775807∧∀x∈xs,ZlB 9223372036854775807 x)):ZlX [.lst (xs.map ZiK),.lst (xs.map ZiK)]=some (pB true):=by
 have hx:xs.length≤9223372036854775807:=hb.1
 show (fun x0 x1=>ZlX [x0,x1]) _ _=_
 rw[ZoV]
 simp only[List.length_map,EVS]
 refine (congrArg (fun m:Option PV=>m.bind fun r=>if r.sc=true then some r else none) (Zek (R:=PV) xs (fun _ _=>true) (some (pB false)) (some (pB true)) _ hx (fun again k x hk=> ?_) (fun again=> ?_))).trans ?_
 ·have hi:ZaW (.lst (xs.map ZiK)) (.int .i64 (k:Int))=some ((ZiK x)):=Za3 hk
  have g1:=ZqW x (hb.2 x (List.mem_of_getElem? hk))
  simp only[ZiK] at g1 hi
  simp only[ZeO (ZK hk),ZcL (ZK hk) hx,hi,g1,EVS]
 ·simp only[Zle,EVS]
 ·rw[show ZdQ (fun (_:Nat) (_:PWire)=>true) 0 xs=true from Zfl xs 0];rfl
def Zli (m:Nat) (a:PNet):Prop:=((a.signals).length≤m∧∀x∈a.signals,ZkD m x)∧((a.wires).length≤m∧∀x∈a.wires,ZlB m x)
theorem ZpS (a:PNet) (l:Int) (hb:Zli 9223372036854775807 a) (h0:0≤l) (h1:l≤1048576):ZbL (Zls [Zla a,pI l]) l (Zli 1048576 a):=by
 obtain ⟨b0,b1⟩:=hb
 unfold Zli
 show ZbL ((fun x0 x1=>Zls [x0,x1]) _ _) _ _
 rw[Zn1]
 simp only[Zla,EVS]
 obtain ⟨r0,g0,y0,z0⟩:=ZpM a.signals l b0 (by omega) (by omega)
 try simp only[g0,EVS]
 by_cases c0:r0<0
 ·simp only[g0,c0,EVS];exact ZbL.neg h0
 try simp only[g0,c0,EVS]
 have q0:0≤r0∧r0≤l:=by omega
 obtain ⟨r1,g1,y1,z1⟩:=Zqw a.wires r0 b1 (by omega) (by omega)
 try simp only[g1,EVS]
 by_cases c1:r1<0
 ·simp only[g1,c1,EVS];exact ZbL.neg h0
 try simp only[g1,c1,EVS]
 have q1:0≤r1∧r1≤l:=by omega
 exact ZbL.pos (by omega) ⟨(z0 (by omega)),(z1 (by omega))⟩
theorem ZpT (a:PNet) (hb:Zli 1048576 a):Zk3 [Zla a]=some (Zla a):=by
 obtain ⟨b0,b1⟩:=hb
 have g0:=ZpN a.signals b0
 have g1:=Zqx a.wires b1
 show (fun x0=>Zk3 [x0]) _=_
 rw[Zn7]
 simp only[Zla,g0,g1,EVS]
theorem ZpU (a:PNet) (hb:Zli 9223372036854775807 a):Zlz [Zla a,Zla a]=some (pB true):=by
 obtain ⟨b0,b1⟩:=hb
 have g0:=ZpO a.signals b0
 have g1:=Zqy a.wires b1
 show (fun x0 x1=>Zlz [x0,x1]) _ _=_
 rw[Zoh]
 simp only[Zla,g0,g1,beq_self_eq_true,EVS]
theorem PNet.fit_of {n:PNet} (h:Zli 9223372036854775807 n):n.Fit:=by
 obtain ⟨⟨h1,h2⟩,h3,h4⟩:=h
 exact ⟨h1,fun s hs=>h2 s hs,h3,fun w hw=>⟨(h4 w hw).1,(h4 w hw).2.1,(h4 w hw).2.2.1,(h4 w hw).2.2.2⟩⟩
theorem ZmW (n:PNet) (hn:n.Fit):Zk4 [Zla n]=some (.tup [.str (fnP n).1,pB (fnP n).2]):=by
 have g1:=Zo7 n hn
 have g2:=Zpd n hn
 simp only[Zla] at g1 g2
 show (fun x0=>Zk4 [x0]) _=_
 rw[Zm7]
 unfold fnP
 simp only[Zla,Zov,g1,EVS]
 cases c:Zmd n
 ·simp only[Bool.false_eq_true,if_false,EVS]
  rfl
 ·simp only[g2 c,if_true,EVS]
  rfl
theorem Znc (n:PNet) (hn:Zli 9223372036854775807 n):Zkv [Zla n]=some (pB true):=by
 have a1:=ZmW n (PNet.fit_of hn)
 have a2:=ZmV n (PNet.fit_of hn)
 have a3:=ZpU n hn
 obtain ⟨r,a4,_,hz⟩:=ZpS n 1048576 hn (by omega) (by omega)
 simp only[Zla] at a1 a2 a3 a4
 show (fun x0=>Zkv [x0]) _=_
 rw[ZlN]
 simp only[Zla,Zov,a4,EVS]
 by_cases c2:r<0<;>simp only[c2,EVS]
 have a5:=ZpT n (hz (by omega))
 simp only[Zla] at a5
 simp only[Zov,a1,a2,a3,a5,beq_self_eq_true,EVS]
end Go.Proofs.YthobodfbjjjiiaaDoor
