import Derived.Test.YthobodfbjjjiiaaDoorFreshWireNameF
namespace Go.Proofs.YthobodfbjjjiiaaDoor
open Go.RowKit
set_option linter.unusedVariables false
set_option linter.unusedSimpArgs false
theorem Zkq (n lo hi:Int):Zdk [pI n,pI lo,pI hi]=some (pB (decide (lo≤n)&&decide (n≤hi))):=by
 show (fun x0 x1 x2=>Zdk [x0,x1,x2]) _ _ _=_
 rw[Zjf]
 by_cases h:lo≤n<;>simp only[h,EVS]
def Zp3 (first:Bool) (b:UInt8):Bool:=(decide ((97:Int)≤b.toNat)&&decide ((b.toNat:Int)≤122))||(!first&&(!decide ((b.toNat:Int)<48)&& !decide ((57:Int)<b.toNat)))
def ZmK :Bool→List UInt8→Bool
 |_,[]=>true
 |f,b::r=>Zp3 f b&&ZmK false r
def Zku (s:List UInt8):Bool:=ZmK true s&&(decide ((1:Int)≤s.length)&&decide ((s.length:Int)≤6))
theorem Znw (s:List UInt8) (hs:s.length≤9223372036854775807):ZlI [.str s]=some (pB (Zku s)):=by
 show (fun x0=>ZlI [x0]) _=_
 rw[Zo0]
 refine (congrArg (ZQ true) (Zej (R:=PV) (fun k:Nat=>[pI (Int.ofNat k)]) (fun k=>s.length+1 - k) (fun k=>some (pB (ZmK (k==0) (s.drop k)&&(decide ((1:Int)≤s.length)&&decide ((s.length:Int)≤6))))) _ (fun again k ih=> ?_) _ 0 (by omega))).trans ?_
 ·by_cases hk:k<s.length
  ·obtain ⟨b,hb⟩:∃b,s[k]?=some b:=⟨s[k],List.getElem?_eq_getElem hk⟩
   have hd:s.drop k=b::s.drop (k+1):=by
    obtain ⟨h1,rfl⟩:=List.getElem?_eq_some_iff.1 hb
    exact List.drop_eq_getElem_cons h1
   have hlt:decide ((k:Int)<s.length)=true:=by simpa using hk
   have hw:IntKind.i64.wrap ((k:Int)+1)=((k+1:Nat):Int):=by rw[ZdY (by omega) (by omega)];omega
   have hnext:=ih (k+1) (by omega)
   simp only[Int.ofNat_eq_natCast] at hnext
   have hk0:decide ((k:Int)=0)=(k==0):=by rw[Bool.eq_iff_iff];simp
   rw[hd]
   have hk1:(k+1==0)=false:=rfl
   rw[hk1] at hnext
   have ev1:=hlt
   have ev2:=ZkD (k:=.i64) hb
   simp only[ZmK,Zp3,hlt,ZkD hb,hk0,hw,hnext,EVS]
   by_cases c1:(97:Int)≤b.toNat
   all_goals simp only[c1,ZkD hb,EVS]
   by_cases c2:(b.toNat:Int)≤122
   all_goals try simp only[c2,ZkD hb,EVS]
   all_goals try simp only[hk0]
   all_goals try (cases c5:(k==0))
   all_goals try simp only[c5,ZkD hb,EVS]
   all_goals try (by_cases c3:(b.toNat:Int)<48)
   all_goals try simp only[c3,ZkD hb,EVS]
   all_goals try (by_cases c4:(57:Int)<b.toNat)
   all_goals try simp only[c4,ZkD hb,EVS]
  ·have hd:s.drop k=[]:=List.drop_eq_nil_of_le (by omega)
   have hlt:decide ((k:Int)<s.length)=false:=by simpa using hk
   rw[hd]
   simp only[ZmK,hlt,Zkq,EVS]
 ·simp only[Zku,List.drop_zero,beq_self_eq_true,EVS]
def Zni (b:UInt8):Bool:=decide ((b.toNat:Int)=48)||decide ((b.toNat:Int)=49)||decide ((b.toNat:Int)=45)
def Znj (s:List UInt8):Bool:=ZdQ (fun _ b=>Zni b) 0 s&&(decide ((1:Int)≤s.length)&&decide ((s.length:Int)≤8))
theorem ZK {α:Type} {l:List α} {k:Nat} {x:α} (h:l[k]?=some x):k<l.length:=(List.getElem?_eq_some_iff.1 h).1
theorem ZcL {k n:Nat} (h:k<n) (hn:n≤9223372036854775807):IntKind.i64.wrap ((k:Int)+1)=((k+1:Nat):Int):=by rw[ZdY (by omega) (by omega)];omega
theorem ZeO {k n:Nat} (h:k<n):decide ((k:Int)<(n:Int))=true:=by simpa using h
theorem Zlk {n:Nat}:decide ((n:Int)<(n:Int))=false:=by simp
theorem ZoL (s:List UInt8) (hs:s.length≤9223372036854775807):ZlP [.str s]=some (pB (Znj s)):=by
 show (fun x0=>ZlP [x0]) _=_
 rw[Zow]
 refine (congrArg (ZQ true) (Zek (R:=PV) s (fun _ b=>Zni b) (some (pB false)) (some (pB (decide ((1:Int)≤s.length)&&decide ((s.length:Int)≤8)))) _ hs (fun again k b hb=> ?_) (fun again=> ?_))).trans ?_
 ·have hk:=ZK hb
  cases c1:decide ((b.toNat:Int)=48)<;>cases c2:decide ((b.toNat:Int)=49)<;>cases c3:decide ((b.toNat:Int)=45)<;>
   simp only[Zni,ZeO hk,ZcL hk hs,ZkD hb,c1,c2,c3,EVS]
 ·simp only[Zlk,Zkq,EVS]
 ·unfold Znj
  cases ZdQ (fun _ b=>Zni b) 0 s<;>simp only[EVS]
abbrev Zkt (s:List UInt8×Int):PV:=.agg [.str s.1,pI s.2]
def inR (n lo hi:Int):Bool:=decide (lo≤n)&&decide (n≤hi)
def Zoc (l:List (List UInt8×Int)) (k:Nat) (s:List UInt8×Int):Bool:=(Zku s.1&&inR s.2 1 3)&&ZdQ (fun _ y=> !decide (s.1=y.1)) 0 (l.take k)
def Zod (l:List (List UInt8×Int)):Bool:=ZdQ (Zoc l) 0 l&&inR l.length 1 8
theorem Zoe (x:List UInt8×Int):Zc3 2 (Zkt x)=true:=rfl
theorem ZnZ (l:List (List UInt8×Int)) (hl:l.length≤9223372036854775807) (hs:∀s∈l,s.1.length≤9223372036854775807):Zlu [.lst (l.map Zkt)]=some (pB (Zod l)):=by
 show (fun x0=>Zlu [x0]) _=_
 rw[ZnO]
 simp only[EVS]
 refine (congrArg (ZQ true) (Zek (R:=PV) l (Zoc l) (some (pB false)) (some (pB (inR l.length 1 8))) _ hl (fun again k s hb=> ?_) (fun again=> ?_))).trans ?_
 ·have hk:=ZK hb
  have hi:ZaW (.lst (l.map Zkt)) (.int .i64 (k:Int))=some (Zkt s):=Za3 hb
  have hc:Znq 2 (.lst (l.map Zkt)) none (some (.int .i64 (k:Int)))=some (.lst ((l.take k).map Zkt)):=Znt Zoe (by omega)
  have hn:=Znw s.1 (hs s (List.mem_of_getElem? hb))
  simp only[ZeO hk,ZcL hk hl,hi,Zkt,hn,Zkq,Zoc,inR,EVS]
  obtain c1|c1:=(Bool.eq_false_or_eq_true (Zku s.1)).symm<;>simp only[c1,Zkq,EVS]
  obtain c2|c2:=(Bool.eq_false_or_eq_true (decide (1≤s.2)&&decide (s.2≤3))).symm<;>simp only[c2,EVS]
  simp only[hc,EVS]
  refine (Zek (R:=PV) (l.take k) (fun _ y=> !decide (s.1=y.1)) (some (pB false)) (again [pI ((k+1:Nat):Int)]) _ (by simp;omega) (fun again' j y hy=> ?_) (fun again'=> ?_)).trans ?_
  ·have hj:=ZK hy
   have hi':ZaW (.lst ((l.take k).map Zkt)) (.int .i64 (j:Int))=some (Zkt y):=Za3 hy
   simp only[ZeO hj,ZcL hj (by simp;omega),hi',Zkt,EVS]
   cases c3:decide (s.1=y.1)<;>simp only[c3,EVS]
  ·simp only[Zlk,ZcL hk hl,EVS]
  ·rfl
 ·simp only[Zlk,Zkq,inR,EVS]
 ·unfold Zod
  cases ZdQ (Zoc l) 0 l<;>simp only[EVS]
def Zon (n:Int) (l:List (List UInt8)):Bool:=ZdQ (fun _ c=>Znj c&&decide ((c.length:Int)=n)) 0 l
def Zof (n:Int) (l:List (List UInt8)):Bool:=Zon n l&&(inR n 1 8&&decide ((l.length:Int)≤60))
theorem ZoM (n:Int) (l:List (List UInt8)) (hl:l.length≤9223372036854775807) (hs:∀s∈l,s.length≤9223372036854775807):ZlQ [pI n,.lst (l.map PV.str)]=some (pB (Zof n l)):=by
 show (fun x0 x1=>ZlQ [x0,x1]) _ _=_
 rw[Zoy]
 simp only[EVS]
 refine (congrArg (ZQ true) (Zek (R:=PV) l (fun _ c=>Znj c&&decide ((c.length:Int)=n)) (some (pB false)) (some (pB (inR n 1 8&&decide ((l.length:Int)≤60)))) _ hl (fun again k s hb=> ?_) (fun again=> ?_))).trans ?_
 ·have hk:=ZK hb
  have hi:ZaW (.lst (l.map PV.str)) (.int .i64 (k:Int))=some (.str s):=Za3 hb
  have hn:=ZoL s (hs s (List.mem_of_getElem? hb))
  simp only[ZeO hk,ZcL hk hl,hi,hn,EVS]
  obtain c1|c1:=(Bool.eq_false_or_eq_true (Znj s)).symm<;>simp only[c1,EVS]
  obtain c2|c2:=(Bool.eq_false_or_eq_true (decide ((s.length:Int)=n))).symm<;>simp only[c2,EVS]
 ·simp only[Zlk,Zkq,inR,EVS]
  obtain c1|c1:=(Bool.eq_false_or_eq_true (decide (1≤n)&&decide (n≤8))).symm<;>simp only[c1,EVS]
 ·unfold Zof Zon
  cases ZdQ (fun _ c=>Znj c&&decide ((c.length:Int)=n)) 0 l<;>simp only[EVS]
structure PWire where
 name:List UInt8
 kind:Int
 ins:List (Int×Bool)
 cover:List (List UInt8)
structure PNet where
 signals:List (List UInt8×Int)
 wires:List PWire
abbrev ZkW (p:Int×Bool):PV:=.agg [pI p.1,pB p.2]
abbrev ZiU (w:PWire):PV:=.agg [.str w.name,pI w.kind,.lst (w.ins.map ZkW),.lst (w.cover.map PV.str)]
abbrev Zk5 (n:PNet):PV:=.agg [.lst (n.signals.map Zkt),.lst (n.wires.map ZiU)]
abbrev Zg8 {α:Type} (l:List α):Prop:=l.length≤9223372036854775807
structure PWire.Fit (w:PWire):Prop where
 name:Zg8 w.name
 ins:Zg8 w.ins
 cover:Zg8 w.cover
 cubes:∀c∈w.cover,Zg8 c
structure PNet.Fit (n:PNet):Prop where
 signals:Zg8 n.signals
 names:∀s∈n.signals,Zg8 s.1
 wires:Zg8 n.wires
 wire:∀w∈n.wires,w.Fit
def Znk (n:PNet) (k:Nat) (p:Int×Bool):Bool:=inR p.1 0 ((n.wires.length:Int) - 1)&& !(decide ((n.signals.length:Int)≤k)&&decide ((k:Int)≤p.1))
def Zmb (k:Nat) (kind:Int) (ins:List (Int×Bool)):Bool:=
 if decide (kind=1)=true then decide ((ins.length:Int)=0)
 else if decide (kind=4)=true then decide ((ins.length:Int)=2)
 else if decide (kind=5)=true then decide ((ins.length:Int)=0)||(match ins with|[p]=>decide (p.1=k)&& !p.2|_=>false)
 else inR ins.length 1 8
def Zpz (n:PNet) (k:Nat) (w:PWire):Bool:=ZdQ (fun _ p=>Znk n k p) 0 w.ins&&Zmb k w.kind w.ins
theorem ZoN (n:PNet) (k:Nat) (w:PWire) (hn:n.Fit) (hw:w.Fit):ZlR [Zk5 n,pI k,ZiU w]=some (pB (Zpz n k w)):=by
 show (fun x0 x1 x2=>ZlR [x0,x1,x2]) _ _ _=_
 rw[ZoA]
 simp only[Zk5,ZiU,EVS]
 have hwl:IntKind.i64.wrap ((n.wires.length:Int) - 1)=(n.wires.length:Int) - 1:=ZdY (by omega) (by have:=hn.wires;unfold Zg8 at this;omega)
 have hi0:=hw.ins
 unfold Zg8 at hi0
 refine (congrArg (ZQ true) (Zek (R:=PV) w.ins (fun _ p=>Znk n k p) (some (pB false)) (some (pB (Zmb k w.kind w.ins))) _ hi0 (fun again j p hb=> ?_) (fun again=> ?_))).trans ?_
 ·have hk:=ZK hb
  have hi:ZaW (.lst (w.ins.map ZkW)) (.int .i64 (j:Int))=some (ZkW p):=Za3 hb
  simp only[ZeO hk,ZcL hk hi0,hi,ZkW,hwl,Zkq,Znk,inR,EVS]
  obtain c1|c1:=(Bool.eq_false_or_eq_true (decide (0≤p.1)&&decide (p.1≤(n.wires.length:Int) - 1))).symm<;>simp only[c1,EVS]
  obtain c2|c2:=(Bool.eq_false_or_eq_true (decide ((n.signals.length:Int)≤(k:Int)))).symm<;>simp only[c2,EVS]
  obtain c3|c3:=(Bool.eq_false_or_eq_true (decide ((k:Int)≤p.1))).symm<;>simp only[c3,EVS]
 ·simp only[Zlk,Zmb,EVS]
  obtain c1|c1:=(Bool.eq_false_or_eq_true (decide (w.kind=1))).symm<;>simp only[c1,EVS]
  obtain c2|c2:=(Bool.eq_false_or_eq_true (decide (w.kind=4))).symm<;>simp only[c2,EVS]
  obtain c3|c3:=(Bool.eq_false_or_eq_true (decide (w.kind=5))).symm<;>simp only[c3,Zkq,inR,EVS]
  have h01:decide ((0:Int)=1)=false:=rfl
  have h00:decide ((0:Int)=0)=true:=rfl
  have h11:decide ((1:Int)=1)=true:=rfl
  have h10:decide ((1:Int)=0)=false:=rfl
  rcases hq:w.ins with _|⟨p,_|⟨q,r⟩⟩
  ·simp only[List.length_nil,h00,EVS]
  ·have hi:ZaW (.lst ([p].map ZkW)) (.int .i64 0)=some (ZkW p):=rfl
   simp only[List.length_cons,List.length_nil,Nat.zero_add,h11,h10,hi,ZkW,List.drop_zero,List.drop_succ_cons,EVS]
   obtain c4|c4:=(Bool.eq_false_or_eq_true (decide (p.1=(k:Int)))).symm<;>simp only[c4,h11,h10,hi,ZkW,List.drop_zero,List.drop_succ_cons,EVS]
  ·have h2:decide (((r.length+1+1:Nat):Int)=0)=false:=by simp;omega
   have h3:decide (((r.length+1+1:Nat):Int)=1)=false:=by simp;omega
   simp only[List.length_cons,h2,h3,EVS]
 ·unfold Zpz
  cases ZdQ (fun _ p=>Znk n k p) 0 w.ins<;>simp only[EVS]
def Zmr (n:PNet) (k:Nat) (w:PWire):Bool:=match n.signals[k]? with|some s=>decide (w.name=s.1)&&(decide (w.kind=1)==decide (s.2=1))|none=>false
def Zog (n:PNet) (k:Nat) (w:PWire):Bool:=
 let seen:=decide ((k:Int)<(n.signals.length:Int))
 (inR w.kind 1 5&&(seen||decide (w.kind=2)||decide (w.kind=3)))&&(!seen||Zmr n k w)&&(if decide (w.kind=5)=true then Zof n.signals.length w.cover else !decide ((0:Int)<w.cover.length))&&(Zku w.name&&Zpz n k w)
theorem ZoO (n:PNet) (k:Nat) (w:PWire) (hn:n.Fit) (hw:w.Fit):ZlS [Zk5 n,pI k,ZiU w]=some (pB (Zog n k w)):=by
 have g1:=ZoM n.signals.length w.cover hw.cover hw.cubes
 have g2:=Znw w.name hw.name
 have g3:=ZoN n k w hn hw
 have g4:=Zkq w.kind 1 5
 simp only[Zk5,ZiU] at g3
 show (fun x0 x1 x2=>ZlS [x0,x1,x2]) _ _ _=_
 rw[ZoC]
 simp only[Zk5,ZiU,g4,EVS]
 have fin:∀b:Bool,((some (pB (Zku w.name&&b))))=(some (pB (Zku w.name&&b))):=fun _=>rfl
 simp only[Zog,inR]
 obtain c1|c1:=(Bool.eq_false_or_eq_true (decide (1≤w.kind)&&decide (w.kind≤5))).symm<;>simp only[c1,EVS]
 obtain c2|c2:=(Bool.eq_false_or_eq_true (decide ((k:Int)<(n.signals.length:Int)))).symm<;>simp only[c2,EVS]
 ·obtain c3|c3:=(Bool.eq_false_or_eq_true (decide (w.kind=2))).symm<;>simp only[c3,EVS]
  ·obtain c4|c4:=(Bool.eq_false_or_eq_true (decide (w.kind=3))).symm<;>simp only[c4,EVS]
   have c5:decide (w.kind=5)=false:=by have:=of_decide_eq_true c4;simp;omega
   simp only[c5,EVS]
   obtain c6|c6:=(Bool.eq_false_or_eq_true (decide ((0:Int)<w.cover.length))).symm<;>simp only[c6,g2,EVS]
   obtain c7|c7:=(Bool.eq_false_or_eq_true (Zku w.name)).symm<;>simp only[c7,g3,EVS]
  ·have c4:decide (w.kind=3)=false:=by have:=of_decide_eq_true c3;simp;omega
   have c5:decide (w.kind=5)=false:=by have:=of_decide_eq_true c3;simp;omega
   simp only[c4,c5,EVS]
   obtain c6|c6:=(Bool.eq_false_or_eq_true (decide ((0:Int)<w.cover.length))).symm<;>simp only[c6,g2,EVS]
   obtain c7|c7:=(Bool.eq_false_or_eq_true (Zku w.name)).symm<;>simp only[c7,g3,EVS]
 ·have hk:k<n.signals.length:=by have:=of_decide_eq_true c2;omega
  have hs:n.signals[k]?=some n.signals[k]:=List.getElem?_eq_getElem hk
  have hi:ZaW (.lst (n.signals.map Zkt)) (.int .i64 (k:Int))=some (Zkt n.signals[k]):=Za3 hs
  simp only[Zmr,hs,hi,Zkt,List.drop_zero,List.drop_succ_cons,EVS]
  obtain c3|c3:=(Bool.eq_false_or_eq_true (decide (w.name=n.signals[k].1))).symm<;>simp only[c3,hi,Zkt,List.drop_zero,List.drop_succ_cons,EVS]
  obtain c4|c4:=(Bool.eq_false_or_eq_true (decide (w.kind=1)==decide (n.signals[k].2=1))).symm<;>simp only[bne,c4,hi,Zkt,List.drop_zero,List.drop_succ_cons,EVS]
  obtain c5|c5:=(Bool.eq_false_or_eq_true (decide (w.kind=5))).symm<;>simp only[c5,g1,g2,EVS]
  ·obtain c6|c6:=(Bool.eq_false_or_eq_true (decide ((0:Int)<w.cover.length))).symm<;>simp only[c6,g2,EVS]
   obtain c7|c7:=(Bool.eq_false_or_eq_true (Zku w.name)).symm<;>simp only[c7,g3,EVS]
  ·obtain c6|c6:=(Bool.eq_false_or_eq_true (Zof n.signals.length w.cover)).symm<;>simp only[c5,c6,g2,EVS]
   obtain c7|c7:=(Bool.eq_false_or_eq_true (Zku w.name)).symm<;>simp only[c5,c7,g3,EVS]
def Zlf (n:PNet) (k:Nat) (w:PWire):Bool:=Zog n k w&&ZdQ (fun _ v=> !decide (v.name=w.name)) 0 (n.wires.take k)
def Zm9 (n:PNet):Bool:=Zod n.signals&&(!decide ((n.wires.length:Int)<n.signals.length)&& !decide ((24:Int)<n.wires.length))&&ZdQ (Zlf n) 0 n.wires
theorem Znx (x:PWire):Zc3 4 (ZiU x)=true:=rfl
theorem ZoP (n:PNet) (hn:n.Fit):ZlT [Zk5 n]=some (pB (Zm9 n)):=by
 have g1:=ZnZ n.signals hn.signals hn.names
 have hwl:=hn.wires
 unfold Zg8 at hwl
 show (fun x0=>ZlT [x0]) _=_
 rw[ZoE]
 simp only[Zk5,g1,EVS]
 unfold Zm9
 obtain c1|c1:=(Bool.eq_false_or_eq_true (Zod n.signals)).symm<;>simp only[c1,EVS]
 obtain c2|c2:=(Bool.eq_false_or_eq_true (decide ((n.wires.length:Int)<n.signals.length))).symm<;>simp only[c2,EVS]
 obtain c3|c3:=(Bool.eq_false_or_eq_true (decide ((24:Int)<n.wires.length))).symm<;>simp only[c3,EVS]
 refine (congrArg (ZQ true) (Zek (R:=PV) n.wires (Zlf n) (some (pB false)) (some (pB true)) _ hwl (fun again k w hb=> ?_) (fun again=> ?_))).trans ?_
 ·have hk:=ZK hb
  have hi:ZaW (.lst (n.wires.map ZiU)) (.int .i64 (k:Int))=some (ZiU w):=Za3 hb
  have hc:Znq 4 (.lst (n.wires.map ZiU)) none (some (.int .i64 (k:Int)))=some (.lst ((n.wires.take k).map ZiU)):=Znt Znx (by omega)
  have g3:=ZoO n k w hn (hn.wire w (List.mem_of_getElem? hb))
  simp only[Zk5,ZiU] at g3
  simp only[ZeO hk,ZcL hk hwl,hi,ZiU,Zlf,g3,EVS]
  obtain c4|c4:=(Bool.eq_false_or_eq_true (Zog n k w)).symm<;>simp only[c4,hc,EVS]
  refine (Zek (R:=PV) (n.wires.take k) (fun _ v=> !decide (v.name=w.name)) (some (pB false)) (again [pI ((k+1:Nat):Int)]) _ (by simp;omega) (fun again' j y hy=> ?_) (fun again'=> ?_)).trans ?_
  ·have hj:=ZK hy
   have hi':ZaW (.lst ((n.wires.take k).map ZiU)) (.int .i64 (j:Int))=some (ZiU y):=Za3 hy
   simp only[ZeO hj,ZcL hj (by simp;omega),hi',ZiU,EVS]
   obtain c5|c5:=(Bool.eq_false_or_eq_true (decide (y.name=w.name))).symm<;>simp only[c5,EVS]
  ·simp only[Zlk,ZcL hk hwl,EVS]
  ·rfl
 ·simp only[Zlk,EVS]
 ·cases ZdQ (Zlf n) 0 n.wires<;>simp only[EVS]
theorem ZhT (n lo hi:Int):ZbF [pI n,pI lo,pI hi]=some (pB (inR n lo hi)):=by
 show (fun x0 x1 x2=>ZbF [x0,x1,x2]) _ _ _=_
 rw[Zhe]
 unfold inR
 by_cases h:lo≤n<;>simp only[h,EVS]
def Zna (k:Nat) (b:UInt8):Bool:=(decide ((97:Int)≤b.toNat)&&decide ((b.toNat:Int)≤122))||(!decide ((k:Int)=0)&&(decide ((48:Int)≤b.toNat)&&decide ((b.toNat:Int)≤57)))
def Zoo (s:List UInt8):Bool:=ZdQ Zna 0 s&&inR s.length 1 6
theorem Zph (s:List UInt8) (hs:s.length≤9223372036854775807):Zlm [.str s]=some (pB (Zoo s)):=by
 show (fun x0=>Zlm [x0]) _=_
 rw[Zo1]
 refine (congrArg (ZQ true) (Zek (R:=PV) s Zna (some (pB false)) (some (pB (inR s.length 1 6))) _ hs (fun again k b hb=> ?_) (fun again=> ?_))).trans ?_
 ·have hk:=ZK hb
  simp only[Zna,ZeO hk,ZcL hk hs,ZkD hb,EVS]
  obtain c1|c1:=(Bool.eq_false_or_eq_true (decide ((97:Int)≤b.toNat))).symm<;>simp only[c1,ZkD hb,EVS]
  all_goals (obtain c2|c2:=(Bool.eq_false_or_eq_true (decide ((b.toNat:Int)≤122))).symm<;>try simp only[c2,ZkD hb,EVS])
  all_goals (obtain c3|c3:=(Bool.eq_false_or_eq_true (decide ((48:Int)≤b.toNat))).symm<;>try simp only[c3,ZkD hb,EVS])
  all_goals (obtain c4|c4:=(Bool.eq_false_or_eq_true (decide ((b.toNat:Int)≤57))).symm<;>try simp only[c4,ZkD hb,EVS])
  all_goals (obtain c5|c5:=(Bool.eq_false_or_eq_true (decide ((k:Int)=0))).symm<;>try simp only[c5,EVS])
 ·simp only[Zlk,ZhT,EVS]
 ·unfold Zoo
  cases ZdQ Zna 0 s<;>simp only[EVS]
theorem Zny :∀(l:List UInt8) (k:Nat),ZmK (k==0) l=ZdQ Zna k l
 |[],_=>rfl
 | b::r,k=>by
  have h:=Zny r (k+1)
  have h1:(k+1==0)=false:=rfl
  rw[h1] at h
  unfold ZmK ZdQ
  rw[h]
  congr 1
  unfold Zp3 Zna
  have e1:decide ((48:Int)≤b.toNat)= !decide ((b.toNat:Int)<48):=by rw[Bool.eq_iff_iff];simp
  have e2:decide ((b.toNat:Int)≤57)= !decide ((57:Int)<b.toNat):=by rw[Bool.eq_iff_iff];simp
  have e3:decide ((k:Int)=0)=(k==0):=by rw[Bool.eq_iff_iff];simp
  rw[e1,e2,e3]
theorem Zqm (s:List UInt8):Zku s=Zoo s:=by
 unfold Zku Zoo inR
 rw[←Zny s 0]
 rfl
theorem Znl (s:List UInt8) (hs:s.length≤9223372036854775807):Zlm [.str s]=some (pB (Zku s)):=(Zph s hs).trans (by rw[Zqm])
def ZlX (s:List UInt8) (n:Int):Bool:=ZdQ (fun _ b=>Zni b) 0 s&&(decide ((s.length:Int)=n)&&inR n 1 8)
theorem Zpi (s:List UInt8) (n:Int) (hs:s.length≤9223372036854775807):Zmk [.str s,pI n]=some (pB (ZlX s n)):=by
 show (fun x0 x1=>Zmk [x0,x1]) _ _=_
 rw[Zo3]
 refine (congrArg (ZQ true) (Zek (R:=PV) s (fun _ b=>Zni b) (some (pB false)) (some (pB (decide ((s.length:Int)=n)&&inR n 1 8))) _ hs (fun again k b hb=> ?_) (fun again=> ?_))).trans ?_
 ·have hk:=ZK hb
  simp only[Zni,ZeO hk,ZcL hk hs,ZkD hb,EVS]
  obtain c1|c1:=(Bool.eq_false_or_eq_true (decide ((b.toNat:Int)=48))).symm<;>simp only[c1,ZkD hb,EVS]
  obtain c2|c2:=(Bool.eq_false_or_eq_true (decide ((b.toNat:Int)=49))).symm<;>simp only[c2,ZkD hb,EVS]
  obtain c3|c3:=(Bool.eq_false_or_eq_true (decide ((b.toNat:Int)=45))).symm<;>simp only[c3,ZkD hb,EVS]
 ·simp only[Zlk,EVS]
  obtain c1|c1:=(Bool.eq_false_or_eq_true (decide ((s.length:Int)=n))).symm<;>simp only[c1,ZhT,EVS]
 ·unfold ZlX
  cases ZdQ (fun _ b=>Zni b) 0 s<;>simp only[EVS]
def ixf {α:Type} (q:α→Bool):Nat→List α→Int
 |_,[]=> -1
 |k,x::r=>if q x=true then (k:Int) else ixf q (k+1) r
theorem ZpA {α:Type} (q:α→Bool):∀(l:List α) (k:Nat),rgo (fun k x=>if q x=true then some (some (pI (k:Int))) else none) (some (pI (-1))) k l=some (pI (ixf q k l))
 |[],k=>rfl
 | x::r,k=>by
  unfold rgo ixf
  cases q x
  ·simp[ZpA q r (k+1)]
  ·simp
theorem Znb {α:Type} (q:α→Bool):∀(l:List α) (k:Nat),decide ((0:Int)≤ixf q k l)= !ZdQ (fun _ x=> !q x) k l
 |[],k=>rfl
 | x::r,k=>by
  unfold ixf ZdQ
  cases q x
  ·simp[Znb q r (k+1)]
  ·simp
theorem Zm1 {α:Type} (l:List α) (q:α→Bool) (f:(List PV→Option PV)→List PV→Option PV) (hl:l.length≤9223372036854775807)
 (h1:∀again k x,l[k]?=some x→f again [pI (Int.ofNat k)]=if q x=true then some (pI (k:Int)) else again [pI (Int.ofNat (k+1))])
 (h2:∀again,f again [pI (Int.ofNat l.length)]=some (pI (-1))):Zar f 18446744073709551616 [pI (Int.ofNat 0)]=some (pI (ixf q 0 l)):=by
 rw[ZpX l (fun k x=>if q x=true then some (some (pI (k:Int))) else none) (some (pI (-1))) f hl (fun again k x hx=> ?_) h2,ZpA]
 rw[h1 again k x hx]
 cases q x<;>simp
theorem ZpB (l:List PV):Zj7 1 (.tup [.agg l])=some [.agg l]:=by simp[Zj7,PV.parts,PV.isU]
theorem Znc (a x:List UInt8×Int):Zlb [Zkt a,Zkt x]=some (pB (decide (a.1=x.1))):=by
 show (fun x0 x1=>Zlb [x0,x1]) _ _=_
 rw[Zm4]
 simp only[Zkt,List.drop_zero,EVS]
theorem ZkX (l:List (List UInt8×Int)) (x:List UInt8×Int) (hl:Zg8 l):ZiS [.lst (l.map Zkt),.tup [Zkt x]]=some (pI (ixf (fun a=>decide (a.1=x.1)) 0 l)):=by
 show (fun x0 x1=>ZiS [x0,x1]) _ _=_
 rw[ZkU]
 unfold Zg8 at hl
 simp only[EVS]
 refine (congrArg (ZQ true) (Zm1 l (fun a=>decide (a.1=x.1)) _ hl (fun again k a hb=> ?_) (fun again=> ?_))).trans ?_
 ·have hk:=ZK hb
  have hi:ZaW (.lst (l.map Zkt)) (.int .i64 (k:Int))=some (Zkt a):=Za3 hb
  have g:=Znc a x
  simp only[Zkt] at g
  simp only[ZeO hk,ZcL hk hl,hi,Zkt,ZpB,List.cons_append,List.nil_append,g,EVS]
 ·simp only[Zlk,EVS]
  rfl
 ·simp only[EVS]
theorem ZkP (l:List (List UInt8×Int)) (x:List UInt8×Int) (hl:Zg8 l):ZiK [.lst (l.map Zkt),.tup [Zkt x]]=some (pB (!ZdQ (fun _ a=> !decide (a.1=x.1)) 0 l)):=by
 show (fun x0 x1=>ZiK [x0,x1]) _ _=_
 rw[ZkL]
 simp only[ZkX l x hl,Znb (fun a:List UInt8×Int=>decide (a.1=x.1)) l 0,EVS]
theorem Zn0 (p:Int×Bool) (n:Nat) (hn:n≤9223372036854775807):Zlv [ZkW p,.agg [pI n]]=some (pB (!inR p.1 0 ((n:Int) - 1))):=by
 have hwl:IntKind.i64.wrap ((n:Int) - 1)=(n:Int) - 1:=ZdY (by omega) (by omega)
 show (fun x0 x1=>Zlv [x0,x1]) _ _=_
 rw[ZnQ]
 simp only[ZkW,hwl,ZhT,EVS]
theorem Zla (l:List (Int×Bool)) (n:Nat) (hn:n≤9223372036854775807) (hl:Zg8 l):Zjq [.lst (l.map ZkW),.tup [.agg [pI n]]]=some (pI (ixf (fun p=> !inR p.1 0 ((n:Int) - 1)) 0 l)):=by
 show (fun x0 x1=>Zjq [x0,x1]) _ _=_
 rw[Zk7]
 unfold Zg8 at hl
 simp only[EVS]
 refine (congrArg (ZQ true) (Zm1 l (fun p=> !inR p.1 0 ((n:Int) - 1)) _ hl (fun again k a hb=> ?_) (fun again=> ?_))).trans ?_
 ·have hk:=ZK hb
  have hi:ZaW (.lst (l.map ZkW)) (.int .i64 (k:Int))=some (ZkW a):=Za3 hb
  have g:=Zn0 a n hn
  simp only[ZkW] at g
  simp only[ZeO hk,ZcL hk hl,hi,ZkW,ZpB,List.cons_append,List.nil_append,g,EVS]
 ·simp only[Zlk,EVS]
  rfl
 ·simp only[EVS]
def Zlc (l:List (Int×Bool)) (n:Nat):Bool:=ZdQ (fun _ p=>inR p.1 0 ((n:Int) - 1)) 0 l
theorem Znm (l:List (Int×Bool)) (n:Nat) (hn:n≤9223372036854775807) (hl:Zg8 l):ZlA [.lst (l.map ZkW),pI n]=some (pB (Zlc l n)):=by
 have g:ZiT [.lst (l.map ZkW),.tup [.agg [pI n]]]=some (pB (!ZdQ (fun _ p=>inR p.1 0 ((n:Int) - 1)) 0 l)):=by
  show (fun x0 x1=>ZiT [x0,x1]) _ _=_
  rw[Zk1]
  simp only[Zla l n hn hl,Znb (fun p:Int×Bool=> !inR p.1 0 ((n:Int) - 1)) l 0,Bool.not_not,EVS]
 show (fun x0 x1=>ZlA [x0,x1]) _ _=_
 rw[ZoH]
 have lt:∀{R:Type} (l:List PV) (x:Option R),Zb [.tup l] x=x:=fun l x=>(Eq.refl _).trans (Eq.refl _)
 simp only[lt,g,List.drop_zero,Bool.not_not,Zlc,EVS]
theorem Zop (w:PWire) (x:List UInt8):ZlE [ZiU w,.agg [.str x]]=some (pB (decide (w.name=x))):=by
 show (fun x0 x1=>ZlE [x0,x1]) _ _=_
 rw[Zn7]
 simp only[ZiU,List.drop_zero,EVS]
theorem Znz (l:List PWire) (x:List UInt8) (hl:Zg8 l):ZlK [.lst (l.map ZiU),.str x]=some (pI (ixf (fun w:PWire=>decide (w.name=x)) 0 l)):=by
 unfold Zg8 at hl
 have g:ZjZ [.lst (l.map ZiU),.tup [.agg [.str x]]]=some (pI (ixf (fun w:PWire=>decide (w.name=x)) 0 l)):=by
  show (fun x0 x1=>ZjZ [x0,x1]) _ _=_
  rw[Zk9]
  simp only[EVS]
  refine (congrArg (ZQ true) (Zm1 l (fun w:PWire=>decide (w.name=x)) _ hl (fun again k a hb=> ?_) (fun again=> ?_))).trans ?_
  ·have hk:=ZK hb
   have hi:ZaW (.lst (l.map ZiU)) (.int .i64 (k:Int))=some (ZiU a):=Za3 hb
   have g:=Zop a x
   simp only[ZiU] at g
   simp only[ZeO hk,ZcL hk hl,hi,ZiU,ZpB,List.cons_append,List.nil_append,g,EVS]
  ·simp only[Zlk,EVS]
   rfl
  ·simp only[EVS]
 show (fun x0 x1=>ZlK [x0,x1]) _ _=_
 rw[Zo6]
 have lt:∀{R:Type} (l:List PV) (x:Option R),Zb [.tup l] x=x:=fun l x=>(Eq.refl _).trans (Eq.refl _)
 simp only[lt,g,List.drop_zero,Bool.not_not,EVS]
theorem ZmL (c:List UInt8) (n:Int) (hc:Zg8 c):ZkY [.str c,.agg [pI n]]=some (pB (!ZlX c n)):=by
 show (fun x0 x1=>ZkY [x0,x1]) _ _=_
 rw[ZmH]
 simp only[Zpi c n hc,EVS]
theorem ZkS (l:List (List UInt8)) (n:Int) (hl:Zg8 l) (hc:∀c∈l,Zg8 c):ZiL [.lst (l.map PV.str),.tup [.agg [pI n]]]=some (pI (ixf (fun c:List UInt8=> !ZlX c n) 0 l)):=by
 unfold Zg8 at hl
 show (fun x0 x1=>ZiL [x0,x1]) _ _=_
 rw[ZkR]
 simp only[EVS]
 refine (congrArg (ZQ true) (Zm1 l (fun c:List UInt8=> !ZlX c n) _ hl (fun again k a hb=> ?_) (fun again=> ?_))).trans ?_
 ·have hk:=ZK hb
  have hi:ZaW (.lst (l.map PV.str)) (.int .i64 (k:Int))=some (.str a):=Za3 hb
  have g:=ZmL a n (hc a (List.mem_of_getElem? hb))
  simp only[ZeO hk,ZcL hk hl,hi,ZpB,List.cons_append,List.nil_append,g,EVS]
 ·simp only[Zlk,EVS]
  rfl
 ·simp only[EVS]
theorem eqPin (a c:Int) (b d:Bool):eqV (some [(0,TD.int .i64),(1,TD.bool)]) .struct (.agg [pI a,pB b]) (.agg [pI c,pB d])=some (decide (a=c)&&(b==d)):=by
 simp[eqV,Ze4,scEq,Zcu]
theorem Zqn :ZC.bool.pv=pB false:=(Eq.refl _).trans (Eq.refl _)
theorem sp12 (a b c:PV):splice [a,b] 0 [c]=[c,b]:=(Eq.refl _).trans (Eq.refl _)
def ZlY (n:Int) (l:List (List UInt8)):Bool:=(inR n 1 8&&decide ((l.length:Int)≤60))&&ZdQ (fun _ c=>ZlX c n) 0 l
def ZlG (n:PNet) (k:Nat) (w:PWire):Bool:=
 if decide (w.kind=1)=true then decide ((w.ins.length:Int)=0)
 else if (decide (w.kind=2)||decide (w.kind=3))=true then inR w.ins.length 1 8
 else if decide (w.kind=4)=true then decide ((w.ins.length:Int)=2)
 else if decide (w.kind=5)=true then ZlY n.signals.length w.cover&&(decide ((w.ins.length:Int)=0)||(match w.ins with|[p]=>decide (p.1=(k:Int))&&(p.2==false)|_=>false))
 else false
def ZoQ (n:PNet) (k:Nat) (w:PWire):Bool:= !((!decide (w.kind=5)&&decide ((0:Int)<w.cover.length))|| !Zlc w.ins n.wires.length)&&ZlG n k w
theorem Zpj (h160:∀(n:Int) (l:List (List UInt8)),Zg8 l→(∀c∈l,Zg8 c)→ZkV [pI n,.lst (l.map PV.str)]=some (pB (ZlY n l))) (n:PNet) (k:Nat) (w:PWire) (hn:n.Fit) (hk:n.wires[k]?=some w):Zml [Zk5 n,pI k]=some (pB (ZoQ n k w)):=by
 have hw:=hn.wire w (List.mem_of_getElem? hk)
 have g1:=h160 n.signals.length w.cover hw.cover hw.cubes
 have hwl:=hn.wires
 unfold Zg8 at hwl
 have g2:=Znm w.ins n.wires.length hwl hw.ins
 have hi:ZaW (.lst (n.wires.map ZiU)) (.int .i64 (k:Int))=some (ZiU w):=Za3 hk
 show (fun x0 x1=>Zml [x0,x1]) _ _=_
 rw[Zo5]
 simp only[Zk5,hi,ZiU,EVS]
 unfold ZoQ
 obtain c1|c1:=(Bool.eq_false_or_eq_true (!decide (w.kind=5))).symm<;>simp only[c1,g2,EVS]
 ·obtain c2|c2:=(Bool.eq_false_or_eq_true (Zlc w.ins n.wires.length)).symm<;>simp only[c1,c2,g2,EVS]
  have c5:decide (w.kind=5)=true:=by simpa using c1
  have e1:decide (w.kind=1)=false:=by have:=of_decide_eq_true c5;simp;omega
  have e2:decide (w.kind=2)=false:=by have:=of_decide_eq_true c5;simp;omega
  have e3:decide (w.kind=3)=false:=by have:=of_decide_eq_true c5;simp;omega
  have e4:decide (w.kind=4)=false:=by have:=of_decide_eq_true c5;simp;omega
  simp only[Zeb,ZlG,e1,e2,e3,e4,c5,g1,EVS]
  obtain c3|c3:=(Bool.eq_false_or_eq_true (ZlY n.signals.length w.cover)).symm<;>simp only[c3,EVS]
  have h01:decide ((0:Int)=1)=false:=rfl
  have h00:decide ((0:Int)=0)=true:=rfl
  have h11:decide ((1:Int)=1)=true:=rfl
  have h10:decide ((1:Int)=0)=false:=rfl
  rcases hq:w.ins with _|⟨p,_|⟨q,r⟩⟩
  ·simp only[List.length_nil,h00,EVS]
  ·have hi:ZaW (.lst ([p].map ZkW)) (.int .i64 0)=some (ZkW p):=rfl
   simp only[List.length_cons,List.length_nil,Nat.zero_add,h11,h10,hi,ZkW,Zqn,sp12,eqPin,List.drop_zero,List.drop_succ_cons,EVS]
  ·have h2:decide (((r.length+1+1:Nat):Int)=0)=false:=by simp;omega
   have h3:decide (((r.length+1+1:Nat):Int)=1)=false:=by simp;omega
   simp only[List.length_cons,h2,h3,EVS]
 ·have c5:decide (w.kind=5)=false:=by simpa using c1
  obtain c2|c2:=(Bool.eq_false_or_eq_true (decide ((0:Int)<w.cover.length))).symm<;>simp only[c1,c2,g2,EVS]
  obtain c3|c3:=(Bool.eq_false_or_eq_true (Zlc w.ins n.wires.length)).symm<;>simp only[c3,EVS]
  simp only[Zeb,ZlG,c5,EVS]
  obtain e1|e1:=(Bool.eq_false_or_eq_true (decide (w.kind=1))).symm<;>simp only[e1,EVS]
  obtain e2|e2:=(Bool.eq_false_or_eq_true (decide (w.kind=2))).symm<;>simp only[e2,ZhT,EVS]
  obtain e3|e3:=(Bool.eq_false_or_eq_true (decide (w.kind=3))).symm<;>simp only[e3,ZhT,EVS]
  obtain e4|e4:=(Bool.eq_false_or_eq_true (decide (w.kind=4))).symm<;>simp only[e4,EVS]
theorem Znd (n:Int) (l:List (List UInt8)) (hl:Zg8 l) (hc:∀c∈l,Zg8 c):ZkV [pI n,.lst (l.map PV.str)]=some (pB (ZlY n l)):=by
 have g:ZiJ [.lst (l.map PV.str),.tup [.agg [pI n]]]=some (pB (!ZdQ (fun _ c=>ZlX c n) 0 l)):=by
  show (fun x0 x1=>ZiJ [x0,x1]) _ _=_
  rw[ZkH]
  simp only[ZkS l n hl hc,Znb (fun c:List UInt8=> !ZlX c n) l 0,Bool.not_not,EVS]
 show (fun x0 x1=>ZkV [x0,x1]) _ _=_
 rw[Zm7]
 simp only[ZhT,ZjU,List.drop_zero,ZlY,EVS]
 obtain c1|c1:=(Bool.eq_false_or_eq_true (inR n 1 8)).symm<;>simp only[c1,EVS]
 obtain c2|c2:=(Bool.eq_false_or_eq_true (decide ((l.length:Int)≤60))).symm<;>simp only[c2,ZjU,g,Bool.not_not,EVS]
def Zne (l:List (List UInt8×Int)) (k:Nat) (s:List UInt8×Int):Bool:=(Zku s.1&&inR s.2 1 3)&&ZdQ (fun _ a=> !decide (a.1=s.1)) 0 (l.take k)
def Zoh (l:List (List UInt8×Int)):Bool:=ZdQ (Zne l) 0 l&&inR l.length 1 8
theorem ZnA (l:List (List UInt8×Int)) (hl:Zg8 l) (hs:∀s∈l,Zg8 s.1):Zli [.lst (l.map Zkt)]=some (pB (Zoh l)):=by
 unfold Zg8 at hl
 show (fun x0=>Zli [x0]) _=_
 rw[Zns]
 simp only[EVS]
 refine (congrArg (ZQ true) (Zek (R:=PV) l (Zne l) (some (pB false)) (some (pB (inR l.length 1 8))) _ hl (fun again k s hb=> ?_) (fun again=> ?_))).trans ?_
 ·have hk:=ZK hb
  have hi:ZaW (.lst (l.map Zkt)) (.int .i64 (k:Int))=some (Zkt s):=Za3 hb
  have hc:Znq 2 (.lst (l.map Zkt)) none (some (.int .i64 (k:Int)))=some (.lst ((l.take k).map Zkt)):=Znt Zoe (by omega)
  have hn:=Znl s.1 (hs s (List.mem_of_getElem? hb))
  have g:=ZkP (l.take k) s (by show (l.take k).length≤_;simp;omega)
  simp only[Zkt] at g
  simp only[ZeO hk,ZcL hk hl,hi,Zkt,hn,Zne,EVS]
  obtain c1|c1:=(Bool.eq_false_or_eq_true (Zku s.1)).symm<;>simp only[c1,ZhT,EVS]
  obtain c2|c2:=(Bool.eq_false_or_eq_true (inR s.2 1 3)).symm<;>simp only[c2,EVS]
  simp only[hc,List.drop_zero,ZjU,g,EVS]
  obtain c3|c3:=(Bool.eq_false_or_eq_true (ZdQ (fun _ (a:List UInt8×Int)=> !decide (a.1=s.1)) 0 (l.take k))).symm<;>simp only[c3,EVS]
 ·simp only[Zlk,ZhT,EVS]
 ·unfold Zoh
  cases ZdQ (Zne l) 0 l<;>simp only[EVS]
def ZlH (n:PNet) (k:Nat) (w:PWire):Bool:=
 (ZoQ n k w&&Zku w.name&&ZdQ (fun _ v=> !decide (v.name=w.name)) 0 (n.wires.take k))&&
 (if decide ((k:Int)<(n.signals.length:Int))=true then Zmr n k w else (decide (w.kind=2)||decide (w.kind=3))&&Zlc w.ins k)
def netI (n:PNet):Bool:=(Zoh n.signals&&inR n.wires.length n.signals.length 24)&&ZdQ (ZlH n) 0 n.wires
theorem ZmM (n:PNet) (hn:n.Fit):ZkZ [Zk5 n]=some (pB (netI n)):=by
 have g1:=ZnA n.signals hn.signals hn.names
 have hwl:=hn.wires
 unfold Zg8 at hwl
 show (fun x0=>ZkZ [x0]) _=_
 rw[ZmJ]
 simp only[Zk5,g1,EVS]
 unfold netI
 obtain c1|c1:=(Bool.eq_false_or_eq_true (Zoh n.signals)).symm<;>simp only[c1,ZhT,EVS]
 obtain c2|c2:=(Bool.eq_false_or_eq_true (inR n.wires.length n.signals.length 24)).symm<;>simp only[c2,EVS]
 refine (congrArg (ZQ true) (Zek (R:=PV) n.wires (ZlH n) (some (pB false)) (some (pB true)) _ hwl (fun again k w hb=> ?_) (fun again=> ?_))).trans ?_
 ·have hk:=ZK hb
  have hw:=hn.wire w (List.mem_of_getElem? hb)
  have hi:ZaW (.lst (n.wires.map ZiU)) (.int .i64 (k:Int))=some (ZiU w):=Za3 hb
  have hc:Znq 4 (.lst (n.wires.map ZiU)) none (some (.int .i64 (k:Int)))=some (.lst ((n.wires.take k).map ZiU)):=Znt Znx (by omega)
  have g2:=Zpj Znd n k w hn hb
  have g3:=Znl w.name hw.name
  have g4:=Znz (n.wires.take k) w.name (by show (n.wires.take k).length≤_;simp;omega)
  have g5:=Znm w.ins k (by omega) hw.ins
  simp only[Zk5] at g2
  simp only[ZeO hk,ZcL hk hwl,hi,ZiU,ZlH,g2,EVS]
  obtain c1|c1:=(Bool.eq_false_or_eq_true (ZoQ n k w)).symm<;>simp only[c1,g3,EVS]
  obtain c2|c2:=(Bool.eq_false_or_eq_true (Zku w.name)).symm<;>simp only[c2,hc,g4,EVS]
  simp only[Znb (fun v:PWire=>decide (v.name=w.name)) (n.wires.take k) 0]
  obtain c3|c3:=(Bool.eq_false_or_eq_true (ZdQ (fun _ (v:PWire)=> !decide (v.name=w.name)) 0 (n.wires.take k))).symm<;>simp only[c3,Zeb,EVS]
  obtain c4|c4:=(Bool.eq_false_or_eq_true (decide ((k:Int)<(n.signals.length:Int)))).symm<;>simp only[c4,EVS]
  ·obtain c5|c5:=(Bool.eq_false_or_eq_true (decide (w.kind=2))).symm<;>simp only[c5,g5,EVS]
   ·obtain c6|c6:=(Bool.eq_false_or_eq_true (decide (w.kind=3))).symm<;>simp only[c6,g5,EVS]
    obtain c7|c7:=(Bool.eq_false_or_eq_true (Zlc w.ins k)).symm<;>simp only[c7,ZcL hk hwl,EVS]
   ·obtain c7|c7:=(Bool.eq_false_or_eq_true (Zlc w.ins k)).symm<;>simp only[c7,ZcL hk hwl,EVS]
  ·have hks:k<n.signals.length:=by have:=of_decide_eq_true c4;omega
   have hs:n.signals[k]?=some n.signals[k]:=List.getElem?_eq_getElem hks
   have hi2:ZaW (.lst (n.signals.map Zkt)) (.int .i64 (k:Int))=some (Zkt n.signals[k]):=Za3 hs
   simp only[Zmr,hs,hi2,Zkt,List.drop_zero,List.drop_succ_cons,EVS]
   obtain c5|c5:=(Bool.eq_false_or_eq_true (decide (w.name=n.signals[k].1))).symm<;>simp only[c5,hi2,Zkt,List.drop_zero,List.drop_succ_cons,EVS]
   obtain c6|c6:=(Bool.eq_false_or_eq_true (decide (w.kind=1)==decide (n.signals[k].2=1))).symm<;>simp only[bne,c6,ZcL hk hwl,EVS]
 ·simp only[Zlk,EVS]
 ·cases ZdQ (ZlH n) 0 n.wires<;>simp only[EVS]
theorem Zms {α:Type} (q:α→Bool):∀(l:List α) (k:Nat),ZdQ (fun _ x=>q x) k l=l.all q
 |[],_=>rfl
 |x::r,k=>by unfold ZdQ;rw[Zms q r (k+1),List.all_cons]
theorem Zll {α:Type} (f g:Nat→α→Bool) (h:∀k x,f k x=g k x):∀(l:List α) (k:Nat),ZdQ f k l=ZdQ g k l
 |[],_=>rfl
 |x::r,k=>by unfold ZdQ;rw[h k x,Zll f g h r (k+1)]
theorem Zqp (l:List (List UInt8×Int)):Zod l=Zoh l:=by
 unfold Zod Zoh
 rw[Zll (Zoc l) (Zne l) (fun k x=> ?_) l 0]
 unfold Zoc Zne
 rw[Zll (fun _ (y:List UInt8×Int)=> !decide (x.1=y.1)) (fun _ (y:List UInt8×Int)=> !decide (y.1=x.1)) (fun _ y=>by simp[eq_comm]) _ 0]
theorem Zp4 (n:Int) (l:List (List UInt8)):Zof n l=ZlY n l:=by
 unfold Zof ZlY Zon
 rw[Bool.and_comm,Bool.eq_iff_iff]
 simp only[Bool.and_eq_true]
 refine and_congr_right fun h=> ?_
 rw[Zll (fun _ c=>Znj c&&decide ((c.length:Int)=n)) (fun _ c=>ZlX c n) (fun _ c=> ?_) l 0]
 unfold Znj ZlX inR
 rw[Bool.eq_iff_iff]
 simp only[Bool.and_eq_true,decide_eq_true_eq]
 constructor
 ·rintro ⟨⟨h1,h2,h3⟩,h4⟩
  exact ⟨h1,h4,by omega,by omega⟩
 ·rintro ⟨h1,h2,h3,h4⟩
  exact ⟨⟨h1,by omega,by omega⟩,h2⟩
theorem ZpL (n:PNet) (k:Nat) (l:List (Int×Bool)) (h:k<n.signals.length):ZdQ (fun _ p=>Znk n k p) 0 l=Zlc l n.wires.length:=by
 unfold Zlc
 refine Zll _ _ (fun _ p=> ?_) l 0
 unfold Znk
 have:decide ((n.signals.length:Int)≤k)=false:=by simp;omega
 rw[this]
 simp
theorem ZpM (n:PNet) (k:Nat) (l:List (Int×Bool)) (h:¬k<n.signals.length):ZdQ (fun _ p=>Znk n k p) 0 l=(Zlc l n.wires.length&&Zlc l k):=by
 unfold Zlc
 rw[Zms,Zms,Zms,Bool.eq_iff_iff]
 have:decide ((n.signals.length:Int)≤k)=true:=by simp;omega
 simp only[Bool.and_eq_true,List.all_eq_true,Znk,inR,this,Bool.true_and,Bool.not_eq_true',decide_eq_true_eq,decide_eq_false_iff_not]
 constructor
 ·intro h
  exact ⟨fun p hp=>(h p hp).1,fun p hp=>⟨(h p hp).1.1,by have:=(h p hp).2;omega⟩⟩
 ·rintro ⟨h1,h2⟩ p hp
  exact ⟨h1 p hp,by have:=(h2 p hp).2;omega⟩
theorem Zqq (n:PNet) (k:Nat) (w:PWire):(inR w.kind 1 5&&((if decide (w.kind=5)=true then ZlY n.signals.length w.cover else !decide ((0:Int)<w.cover.length))&&Zmb k w.kind w.ins))=(!(!decide (w.kind=5)&&decide ((0:Int)<w.cover.length))&&ZlG n k w):=by
 unfold Zmb ZlG
 by_cases h1:w.kind=1
 ·simp[h1,inR]
 by_cases h2:w.kind=2
 ·simp[h2,inR]
 by_cases h3:w.kind=3
 ·simp[h3,inR]
 by_cases h4:w.kind=4
 ·simp[h4,inR]
 by_cases h5:w.kind=5
 ·obtain ⟨nm,kd,ins,cov⟩:=w
  simp only at h5
  rcases ins with _|⟨p,_|⟨q,r⟩⟩<;>simp[h5,inR]
 ·have:inR w.kind 1 5=false:=by
   unfold inR
   simp only[Bool.and_eq_false_iff,decide_eq_false_iff_not]
   omega
  simp[this,h1,h2,h3,h4,h5]
theorem Zqr (n:PNet) (k:Nat) (w:PWire):Zlf n k w=ZlH n k w:=by
 unfold Zlf ZlH Zog ZoQ Zpz
 have hf:=Zqq n k w
 rw[Zp4]
 by_cases hk:k<n.signals.length
 ·have hd:decide ((k:Int)<(n.signals.length:Int))=true:=by simpa using hk
  rw[ZpL n k w.ins hk]
  simp only[hd,if_true,Bool.true_or,Bool.not_true,Bool.false_or,Bool.not_false,Bool.false_eq_true,if_false,Bool.true_and]
  revert hf
  generalize inR w.kind 1 5=a1
  generalize (if decide (w.kind=5)=true then ZlY (↑n.signals.length) w.cover else !decide ((0:Int)<↑w.cover.length))=a2
  generalize Zmb k w.kind w.ins=a3
  generalize (!decide (w.kind=5)&&decide ((0:Int)<w.cover.length))=a4
  generalize ZlG n k w=a5
  generalize Zlc w.ins n.wires.length=a6
  generalize Zmr n k w=a7
  generalize Zku w.name=a8
  generalize ZdQ (fun _ (v:PWire)=> !decide (v.name=w.name)) 0 (n.wires.take k)=a9
  cases a1<;>cases a2<;>cases a3<;>cases a4<;>cases a5<;>cases a6<;>cases a7<;>cases a8<;>cases a9<;>decide
 ·have hd:decide ((k:Int)<(n.signals.length:Int))=false:=by simpa using hk
  rw[ZpM n k w.ins hk]
  simp only[hd,if_true,Bool.true_or,Bool.not_true,Bool.false_or,Bool.not_false,Bool.false_eq_true,if_false,Bool.true_and]
  revert hf
  generalize inR w.kind 1 5=a1
  generalize (if decide (w.kind=5)=true then ZlY (↑n.signals.length) w.cover else !decide ((0:Int)<↑w.cover.length))=a2
  generalize Zmb k w.kind w.ins=a3
  generalize (!decide (w.kind=5)&&decide ((0:Int)<w.cover.length))=a4
  generalize ZlG n k w=a5
  generalize Zlc w.ins n.wires.length=a6
  generalize Zku w.name=a8
  generalize Zlc w.ins k=a7
  generalize decide (w.kind=2)=b2
  generalize decide (w.kind=3)=b3
  generalize ZdQ (fun _ (v:PWire)=> !decide (v.name=w.name)) 0 (n.wires.take k)=a9
  cases a1<;>cases a2<;>cases a3<;>cases a4<;>cases a5<;>cases a6<;>cases a7<;>cases a8<;>cases a9<;>cases b2<;>cases b3<;>decide
theorem net_eq (n:PNet):Zm9 n=netI n:=by
 unfold Zm9 netI
 rw[Zqp,Zll (Zlf n) (ZlH n) (fun k x=>Zqr n k x) n.wires 0]
 congr 2
 unfold inR
 rw[Bool.eq_iff_iff]
 simp
theorem ZpC {α:Type} (q:Nat→α→Bool):∀(l:List α) (j:Nat),ZdQ q j l=true→∀(i:Nat) (x:α),l[i]?=some x→q (j+i) x=true
 |[],j,_,i,x,hx=>by simp at hx
 | y::r,j,h,i,x,hx=>by
  unfold ZdQ at h
  rw[Bool.and_eq_true] at h
  cases i with
  |zero=>simp at hx;subst hx;simpa using h.1
  | succ i=>
   have:=ZpC q r (j+1) h.2 i x (by simpa using hx)
   rw[show j+(i+1)=j+1+i by omega]
   exact this
theorem u8_dec :∀d:Fin 10,IntKind.u8.wrap (IntKind.i64.wrap (48+(d.1:Int)))=((UInt8.ofNat (48+d.1)).toNat:Int):=by decide
theorem dgt (d:Nat) (h:d<10):Zfp IntKind.u8 (.int .i64 (IntKind.i64.wrap (48+(d:Int))))=some (pU (UInt8.ofNat (48+d))):=congrArg (fun n=>some (PV.int .u8 n)) (u8_dec ⟨d,h⟩)
theorem quo10 (u:Nat) (h:u≤9223372036854775807):Zg .quo (TD.int .i64) (pI (u:Int)) (pI 10)=some (pI ((u / 10:Nat):Int)):=by
 show (if (10:Int)=0 then none else some (PV.int .i64 (IntKind.i64.wrap ((u:Int).tdiv 10))))=_
 have e:(u:Int).tdiv 10=((u / 10:Nat):Int):=rfl
 rw[if_neg (by omega),e,ZdY (by omega) (by omega)]
theorem rem10 (u:Nat):Zg .rem (TD.int .i64) (pI (u:Int)) (pI 10)=some (pI ((u % 10:Nat):Int)):=by
 show (if (10:Int)=0 then none else some (PV.int .i64 ((u:Int).tmod 10)))=_
 have e:(u:Int).tmod 10=((u % 10:Nat):Int):=rfl
 rw[if_neg (by omega),e]
theorem Zgb :∀(f u:Nat),u<10 ^ f→(Lib.decDigits u).length≤f+1
 | 0,u,h=>by
  have:u=0:=by simpa using h
  subst this
  rw[Lib.decDigits_one (by omega)];simp
 | f+1,u,h=>by
  by_cases c:u<10
  ·rw[Lib.decDigits_one c];simp
  ·rw[Lib.decDigits,dif_neg c,List.length_append]
   have:10 ^ (f+1)=10 * 10 ^ f:=by rw[Nat.pow_succ,Nat.mul_comm]
   have:=Zgb f (u / 10) (by omega)
   simp only[List.length_cons,List.length_nil];omega
theorem num_n (k:Nat):∀(f u:Nat),u<10 ^ (f+1)→u≤100000000→Zap (f+k+1) [pI (u:Int)]=some (.str (Lib.decDigits u)):=by
 intro f
 induction f with
 | zero=>
  intro u h _
  show (fun x0=>Zap (0+k+1) [x0]) _=_
  rw[ZeS]
  have hu:u<10:=by simpa using h
  have c:decide ((u:Int)<10)=true:=by simp;omega
  have g:=dgt u hu
  simp only[c,g,EVS]
  rw[Lib.decDigits_one hu]
 | succ f ih=>
  intro u h hu
  have hp:10 ^ (f+1+1)=10 * 10 ^ (f+1):=by rw[Nat.pow_succ,Nat.mul_comm]
  show (fun x0=>Zap (f+1+k+1) [x0]) _=_
  rw[ZeS,show f+1+k=f+k+1 by omega]
  by_cases c0:u<10
  ·have c:decide ((u:Int)<10)=true:=by simp;omega
   have g:=dgt u c0
   simp only[c,g,EVS]
   rw[Lib.decDigits_one c0]
  ·have c:decide ((u:Int)<10)=false:=by simp;omega
   have q:=quo10 u (by omega)
   have r:=rem10 u
   have g:=dgt (u % 10) (by omega)
   have i1:=ih (u / 10) (by omega) (by omega)
   have hl:=Zgb 8 (u / 10) (by omega)
   have ha:Zg .add TD.str (.str (Lib.decDigits (u / 10))) (.str [UInt8.ofNat (48+u % 10)])=some (.str (Lib.decDigits (u / 10)++[UInt8.ofNat (48+u % 10)])):=Zba (by simp;omega)
   simp only[c,q,r,g,i1,ha,EVS]
   rw[Lib.decDigits.eq_1 u,dif_neg c0]
theorem Zfy (u:Nat) (h:u≤9999999):Zcb [pI (u:Int)]=some (.str (Lib.itoa (u:Int))):=by
 rw[Lib.itoa,if_neg (by omega),Int.toNat_natCast]
 exact num_n 57 6 u (by omega) (by omega)
theorem Zg9 (u:Nat) (h:u≤9999999):ZD [pI (u:Int)]=some (.str (Lib.itoa (u:Int))):=if_pos (by omega)
theorem Zca (u:Nat) (h:u≤9999999):(Lib.itoa (u:Int)).length≤8:=by
 rw[Lib.itoa,if_neg (by omega),Int.toNat_natCast]
 exact Zgb 7 u (by omega)
def fnm (i:Nat):List UInt8:=120::Lib.itoa (i:Int)
def Zoq (n:PNet) (i:Nat):Bool:=n.wires.any fun w=>decide (w.name=fnm i)
def Zmt (p:Nat→Bool):Nat→Nat→Nat
 |0,k=>k
 |f+1,k=>if p k=true then k else Zmt p f (k+1)
theorem Zoi (p:Nat→Bool):∀(f k:Nat),p (k+f)=true→p (Zmt p f k)=true∧k≤Zmt p f k∧Zmt p f k≤k+f∧∀i,k≤i→i<Zmt p f k→p i=false
 |0,k,h=>⟨h,Nat.le_refl _,Nat.le_refl _,fun i h1 h2=>absurd h2 (by unfold Zmt;omega)⟩
 | f+1,k,h=>by
  unfold Zmt
  by_cases c:p k=true
  ·rw[if_pos c];exact ⟨c,Nat.le_refl _,by omega,fun i h1 h2=>by omega⟩
  ·rw[if_neg c]
   obtain ⟨a,b,d,e⟩:=Zoi p f (k+1) (by rw[show k+1+f=k+(f+1) by omega];exact h)
   refine ⟨a,by omega,by omega,fun i h1 h2=> ?_⟩
   by_cases ci:i=k
   ·subst ci;simpa using c
   ·exact e i (by omega) h2
def frN (n:PNet):Nat:=Zmt (fun i=> !Zoq n i) 100000 0
def fwP (n:PNet):List UInt8×Bool:=if Zm9 n=true then (fnm (frN n),true) else ([],false)
theorem Zqs {n:PNet} (h:Zm9 n=true):∀w∈n.wires,w.name.length≤6:=by
 intro w hw
 obtain ⟨k,hk⟩:=List.mem_iff_getElem?.1 hw
 unfold Zm9 at h
 simp only[Bool.and_eq_true] at h
 have:=ZpC _ _ _ h.2 k _ hk
 rw[Nat.zero_add] at this
 unfold Zlf Zog at this
 simp only[Bool.and_eq_true] at this
 have hn:=this.1.2.1
 unfold Zku at hn
 simp only[Bool.and_eq_true,decide_eq_true_eq] at hn
 omega
theorem Zp5 :∀(f u:Nat),10 ^ f≤u→f+1≤(Lib.decDigits u).length
 | 0,u,h=>by
  by_cases c:u<10
  ·rw[Lib.decDigits_one c];simp
  ·rw[Lib.decDigits,dif_neg c,List.length_append];simp
 | f+1,u,h=>by
  have:10 ^ (f+1)=10 * 10 ^ f:=by rw[Nat.pow_succ,Nat.mul_comm]
  have h1:1≤10 ^ f:=Nat.one_le_pow _ _ (by omega)
  have c:¬u<10:=by omega
  rw[Lib.decDigits,dif_neg c,List.length_append]
  have:=Zp5 f (u / 10) (by omega)
  simp only[List.length_cons,List.length_nil];omega
theorem ZpN {n:PNet} (h:Zm9 n=true):Zoq n 100000=false:=by
 unfold Zoq
 rw[List.any_eq_false]
 intro w hw he
 have h6:=Zqs h w hw
 simp only[decide_eq_true_eq] at he
 rw[he] at h6
 have:=Zp5 5 100000 (by omega)
 unfold fnm Lib.itoa at h6
 rw[if_neg (by omega)] at h6
 simp only[List.length_cons] at h6
 have e:((100000:Nat):Int).toNat=100000:=rfl
 rw[e] at h6
 omega
theorem Zp6 {n:PNet} (h:Zm9 n=true):Zoq n (frN n)=false∧frN n≤100000∧∀i,i<frN n→Zoq n i=true:=by
 obtain ⟨a,b,c,d⟩:=Zoi (fun i=> !Zoq n i) 100000 0 (by rw[Nat.zero_add];simp[ZpN h])
 have a':(!Zoq n (frN n))=true:=a
 exact ⟨by simpa using a',by rw[Nat.zero_add] at c;exact c,fun i hi=>by simpa using d i (Nat.zero_le _) hi⟩
theorem ZpD (n:PNet) (i:Nat):decide (ixf (fun w:PWire=>decide (w.name=fnm i)) 0 n.wires<0)= !Zoq n i:=by
 have h:=Znb (fun w:PWire=>decide (w.name=fnm i)) n.wires 0
 rw[Zms,List.not_all_eq_any_not] at h
 simp only[Bool.not_not] at h
 unfold Zoq
 rw[←h,Bool.eq_iff_iff]
 simp only[decide_eq_true_eq,Bool.not_eq_true',decide_eq_false_iff_not]
 omega
theorem ZpO (l:List PWire) (x:List UInt8) (hl:Zg8 l):ZmE [.lst (l.map ZiU),.str x]=some (pI (ixf (fun w:PWire=>decide (w.name=x)) 0 l)):=by
 unfold Zg8 at hl
 show (fun x0 x1=>ZmE [x0,x1]) _ _=_
 rw[Zpw]
 simp only[EVS]
 refine (congrArg (ZQ true) (Zm1 l (fun w:PWire=>decide (w.name=x)) _ hl (fun again k a hb=> ?_) (fun again=> ?_))).trans ?_
 ·have hk:=ZK hb
  have hi:ZaW (.lst (l.map ZiU)) (.int .i64 (k:Int))=some (ZiU a):=Za3 hb
  have hs:∀a b c d a' b' c' d':PV,splice [a,b,c,d] 0 [a',b',c',d']=[a',b',c',d']:=fun _ _ _ _ _ _ _ _=>rfl
  cases c:decide (a.name=x)<;>simp only[ZeO hk,ZcL hk hl,hi,ZiU,hs,c,Bool.false_eq_true,if_false,if_true,EVS]
 ·simp only[Zlk,EVS]
  rfl
 ·simp only[EVS]
theorem Zoj (i:Nat) (h:i≤100000):Zg .add TD.str (.str [120]) (.str (Lib.itoa (i:Int)))=some (.str (fnm i)):=by
 have:=Zca i (by omega)
 exact Zba (by simp;omega)
theorem ZoR (n:PNet) (hn:n.Fit) (h:Zm9 n=true):ZlU [Zk5 n]=some (.str (fnm (frN n))):=by
 obtain ⟨f1,f2,f3⟩:=Zp6 h
 show (fun x0=>ZlU [x0]) _=_
 rw[ZoG]
 simp only[Zk5,EVS]
 refine (congrArg (fun m:Option PV=>m.bind fun r=>if r.sc=true then some r else none) (Zej (R:=PV) (fun k:{k:Nat // k≤frN n}=>[pI (Int.ofNat k.1)]) (fun k=>frN n+1 - k.1) (fun _=>some (.str (fnm (frN n)))) _ (fun again k ih=> ?_) 18446744073709551616 ⟨0,Nat.zero_le _⟩ (by simp only;omega))).trans ?_
 ·obtain ⟨k,hk⟩:=k
  dsimp only at ih⊢
  have n1:=Zfy k (by omega)
  have a1:=Zoj k (by omega)
  have g:=ZpO n.wires (fnm k) hn.wires
  have hx:=ZpD n k
  have hw:IntKind.i64.wrap ((k:Int)+1)=((k+1:Nat):Int):=by rw[ZdY (by omega) (by omega)];omega
  by_cases c:k=frN n
  ·subst c
   rw[f1] at hx
   simp only[n1,a1,g,hx,Bool.not_false,EVS]
  ·have:=f3 k (by omega)
   rw[this] at hx
   simp only[n1,a1,g,hx,hw,Bool.not_true,EVS]
   exact ih ⟨k+1,by omega⟩ (by simp only;omega)
 ·simp only[EVS]
theorem Zn1 (n:PNet) (hn:n.Fit) (h:Zm9 n=true):Zlw [Zk5 n]=some (.str (fnm (frN n))):=by
 obtain ⟨f1,f2,f3⟩:=Zp6 h
 show (fun x0=>Zlw [x0]) _=_
 rw[ZnS]
 simp only[Zk5,EVS]
 refine (congrArg (fun m:Option PV=>m.bind fun r=>if r.sc=true then some r else none) (Zej (R:=PV) (fun k:{k:Nat // k≤frN n}=>[pI (Int.ofNat k.1)]) (fun k=>frN n+1 - k.1) (fun _=>some (.str (fnm (frN n)))) _ (fun again k ih=> ?_) 18446744073709551616 ⟨0,Nat.zero_le _⟩ (by simp only;omega))).trans ?_
 ·obtain ⟨k,hk⟩:=k
  dsimp only at ih⊢
  have n1:=Zg9 k (by omega)
  have a1:=Zoj k (by omega)
  have g:=Znz n.wires (fnm k) hn.wires
  have hx:=ZpD n k
  have hw:IntKind.i64.wrap ((k:Int)+1)=((k+1:Nat):Int):=by rw[ZdY (by omega) (by omega)];omega
  by_cases c:k=frN n
  ·subst c
   rw[f1] at hx
   simp only[n1,a1,g,hx,Bool.not_false,EVS]
  ·have:=f3 k (by omega)
   rw[this] at hx
   simp only[n1,a1,g,hx,hw,Bool.not_true,EVS]
   exact ih ⟨k+1,by omega⟩ (by simp only;omega)
 ·simp only[EVS]
theorem ZmN (n:PNet) (hn:n.Fit):Zk3 [Zk5 n]=some (.tup [.str (fwP n).1,pB (fwP n).2]):=by
 have g1:=ZoP n hn
 have g2:=ZoR n hn
 simp only[Zk5] at g1 g2
 show (fun x0=>Zk3 [x0]) _=_
 rw[ZmU]
 unfold fwP
 simp only[Zk5,Zob,g1,EVS]
 cases c:Zm9 n
 ·simp only[Bool.false_eq_true,if_false,EVS]
  rfl
 ·simp only[g2 c,if_true,EVS]
  rfl
theorem ZmO (n:PNet) (hn:n.Fit):Zk4 [Zk5 n]=some (.tup [.str (fwP n).1,pB (fwP n).2]):=by
 have g1:=ZmM n hn
 rw[←net_eq] at g1
 have g2:=Zn1 n hn
 simp only[Zk5] at g1 g2
 show (fun x0=>Zk4 [x0]) _=_
 rw[ZmY]
 unfold fwP
 simp only[Zk5,Zob,g1,EVS]
 cases c:Zm9 n
 ·simp only[Bool.false_eq_true,if_false,EVS]
  rfl
 ·simp only[g2 c,if_true,EVS]
  rfl
def ZkE (m:Nat) (a:List UInt8×Int):Prop:=(a.1).length≤m
theorem ZpP (a:List UInt8×Int) (l:Int) (hb:ZkE 9223372036854775807 a) (h0:0≤l) (h1:l≤1048576):ZbL (ZlC [Zkt a,pI l]) l (ZkE 1048576 a):=by
 have b0:=hb
 unfold ZkE at b0
 unfold ZkE
 show ZbL ((fun x0 x1=>ZlC [x0,x1]) _ _) _ _
 rw[Zn3]
 simp only[Zkt,EVS]
 have w0:IntKind.i64.wrap (l - (a.1.length:Int))=(l - (a.1.length:Int)):=ZdY (by omega) (by omega)
 simp only[w0,EVS]
 by_cases c0:(l - (a.1.length:Int))<0
 ·simp only[c0,EVS];exact ZbL.neg h0
 simp only[c0,EVS]
 have q0:0≤(l - (a.1.length:Int))∧(l - (a.1.length:Int))≤l:=by omega
 exact ZbL.pos (by omega) (by omega)
theorem ZpQ (a:List UInt8×Int) (hb:ZkE 1048576 a):ZlD [Zkt a]=some (Zkt a):=by
 have b0:=hb
 unfold ZkE at b0
 show (fun x0=>ZlD [x0]) _=_
 rw[Zn5]
 simp only[Zkt,EVS]
theorem ZpR (a:List UInt8×Int) (hb:ZkE 9223372036854775807 a):ZlF [Zkt a,Zkt a]=some (pB true):=by
 have b0:=hb
 unfold ZkE at b0
 show (fun x0 x1=>ZlF [x0,x1]) _ _=_
 rw[Zn9]
 simp only[Zkt,beq_self_eq_true,EVS]
theorem Zpk (xs:List (List UInt8×Int)) (l:Int) (hb:((xs).length≤9223372036854775807∧∀x∈xs,ZkE 9223372036854775807 x)) (h0:0≤l) (h1:l≤1048576):ZbL (Zlp [.lst (xs.map Zkt),pI l]) l (((xs).length≤1048576∧∀x∈xs,ZkE 1048576 x)):=by
 have hx:xs.length≤9223372036854775807:=hb.1
 show ZbL ((fun x0 x1=>Zlp [x0,x1]) _ _) _ _
 rw[ZnC]
 have w1:IntKind.i64.wrap (l - (xs.length:Int))=l - (xs.length:Int):=ZdY (by omega) (by omega)
 simp only[w1,List.length_map,EVS]
 by_cases c:l - (xs.length:Int)<0
 ·simp only[c,EVS];exact ZbL.neg h0
 ·simp only[c,EVS]
  refine (ZbL.sc (Zpg xs (fun x=>ZkE 1048576 x) _ hx (fun again k x l' hk h2 h3=> ?_) (fun again l'=> ?_) (by omega) (by omega))).mono (by omega) (fun h=>⟨by omega,h⟩)
  ·have hi:ZaW (.lst (xs.map Zkt)) (.int .i64 (k:Int))=some ((Zkt x)):=Za3 hk
   obtain ⟨r,g1,g2,g3⟩:=ZpP x l' (hb.2 x (List.mem_of_getElem? hk)) h2 h3
   refine ⟨r,g2,g3, ?_⟩
   simp only[Zkt] at g1 hi
   simp only[ZeO (ZK hk),ZcL (ZK hk) hx,hi,g1,EVS]
   by_cases c2:r<0<;>simp only[c2,EVS]
  ·simp only[Zlk,EVS]
theorem Zpl (xs:List (List UInt8×Int)) (hb:((xs).length≤1048576∧∀x∈xs,ZkE 1048576 x)):Zls [.lst (xs.map Zkt)]=some (.lst (xs.map Zkt)):=by
 have hx:xs.length≤1048576:=hb.1
 show (fun x0=>Zls [x0]) _=_
 rw[ZnI]
 simp only[mk_v _ _ (show xs.length≤4294967296 by omega),List.length_map,EVS]
 refine Zom xs Zkt 2 _ _ (by omega) ?_ (fun _=> ?_) (fun _=> ?_) (fun again k x row el hk hl he hs=> ?_) (fun again row=> ?_)
 ·rfl
 ·rfl
 ·exact ⟨fun _=>⟨_,rfl⟩,fun _=>⟨_,rfl⟩⟩
 ·have hi:ZaW (.lst (xs.map Zkt)) (.int .i64 (k:Int))=some ((Zkt x)):=Za3 hk
  have hkr:k<row.length:=by rw[hl];exact ZK hk
  have g1:=ZpQ x (hb.2 x (List.mem_of_getElem? hk))
  simp only[Zkt] at g1 hi hs
  simp only[Zkt,ZeO (ZK hk),ZcL (ZK hk) (show xs.length≤9223372036854775807 by omega),hi,g1,Zol hkr,he,hs,EVS]
 ·simp only[Zlk,EVS]
theorem Zpm (xs:List (List UInt8×Int)) (hb:((xs).length≤9223372036854775807∧∀x∈xs,ZkE 9223372036854775807 x)):Zlx [.lst (xs.map Zkt),.lst (xs.map Zkt)]=some (pB true):=by
 have hx:xs.length≤9223372036854775807:=hb.1
 show (fun x0 x1=>Zlx [x0,x1]) _ _=_
 rw[ZnU]
 simp only[List.length_map,EVS]
 refine (congrArg (fun m:Option PV=>m.bind fun r=>if r.sc=true then some r else none) (Zek (R:=PV) xs (fun _ _=>true) (some (pB false)) (some (pB true)) _ hx (fun again k x hk=> ?_) (fun again=> ?_))).trans ?_
 ·have hi:ZaW (.lst (xs.map Zkt)) (.int .i64 (k:Int))=some ((Zkt x)):=Za3 hk
  have g1:=ZpR x (hb.2 x (List.mem_of_getElem? hk))
  simp only[Zkt] at g1 hi
  simp only[ZeO (ZK hk),ZcL (ZK hk) hx,hi,g1,EVS]
 ·simp only[Zlk,EVS]
 ·rw[show ZdQ (fun (_:Nat) (_:List UInt8×Int)=>true) 0 xs=true from Zfl xs 0];rfl
theorem to_Pin (a:Int×Bool):ZmD [ZkW a]=some (ZkW a):=by
 show (fun x0=>ZmD [x0]) _=_
 rw[Zpu]
 simp only[ZkW,EVS]
theorem eq_Pin (a:Int×Bool):ZmF [ZkW a,ZkW a]=some (pB true):=by
 show (fun x0 x1=>ZmF [x0,x1]) _ _=_
 rw[Zpy]
 simp only[ZkW,beq_self_eq_true,EVS]
theorem Zqt (xs:List (Int×Bool)) (l:Int) (hb:(xs).length≤9223372036854775807) (h0:0≤l) (h1:l≤1048576):ZbL (Zmd [.lst (xs.map ZkW),pI l]) l ((xs).length≤1048576):=by
 have hx:xs.length≤9223372036854775807:=hb
 show ZbL ((fun x0 x1=>Zmd [x0,x1]) _ _) _ _
 rw[ZoT]
 have w1:IntKind.i64.wrap (l - (xs.length:Int))=l - (xs.length:Int):=ZdY (by omega) (by omega)
 simp only[w1,List.length_map,EVS]
 by_cases c:l - (xs.length:Int)<0
 ·simp only[c,EVS];exact ZbL.neg h0
 ·simp only[c,EVS];exact ZbL.pos (by omega) (by omega)
theorem Zqu (xs:List (Int×Bool)) (hb:(xs).length≤1048576):Zmg [.lst (xs.map ZkW)]=some (.lst (xs.map ZkW)):=by
 have hx:xs.length≤1048576:=hb
 show (fun x0=>Zmg [x0]) _=_
 rw[ZoX]
 simp only[mk_v _ _ (show xs.length≤4294967296 by omega),List.length_map,EVS]
 refine Zom xs ZkW 2 _ _ (by omega) ?_ (fun _=> ?_) (fun _=> ?_) (fun again k x row el hk hl he hs=> ?_) (fun again row=> ?_)
 ·rfl
 ·rfl
 ·exact ⟨fun _=>⟨_,rfl⟩,fun _=>⟨_,rfl⟩⟩
 ·have hi:ZaW (.lst (xs.map ZkW)) (.int .i64 (k:Int))=some ((ZkW x)):=Za3 hk
  have hkr:k<row.length:=by rw[hl];exact ZK hk
  have g1:=to_Pin x
  simp only[ZkW] at g1 hi hs
  simp only[ZkW,ZeO (ZK hk),ZcL (ZK hk) (show xs.length≤9223372036854775807 by omega),hi,g1,Zol hkr,he,hs,EVS]
 ·simp only[Zlk,EVS]
theorem Zqv (xs:List (Int×Bool)) (hb:(xs).length≤9223372036854775807):Zmp [.lst (xs.map ZkW),.lst (xs.map ZkW)]=some (pB true):=by
 have hx:xs.length≤9223372036854775807:=hb
 show (fun x0 x1=>Zmp [x0,x1]) _ _=_
 rw[Zo8]
 simp only[List.length_map,EVS]
 refine (congrArg (fun m:Option PV=>m.bind fun r=>if r.sc=true then some r else none) (Zek (R:=PV) xs (fun _ _=>true) (some (pB false)) (some (pB true)) _ hx (fun again k x hk=> ?_) (fun again=> ?_))).trans ?_
 ·have hi:ZaW (.lst (xs.map ZkW)) (.int .i64 (k:Int))=some ((ZkW x)):=Za3 hk
  have g1:=eq_Pin x
  simp only[ZkW] at g1 hi
  simp only[ZeO (ZK hk),ZcL (ZK hk) hx,hi,g1,EVS]
 ·simp only[Zlk,EVS]
 ·rw[show ZdQ (fun (_:Nat) (_:Int×Bool)=>true) 0 xs=true from Zfl xs 0];rfl
theorem Zpn (xs:List (List UInt8)) (l:Int) (hb:((xs).length≤9223372036854775807∧∀x∈xs,(x).length≤9223372036854775807)) (h0:0≤l) (h1:l≤1048576):ZbL (Zlq [.lst (xs.map PV.str),pI l]) l (((xs).length≤1048576∧∀x∈xs,(x).length≤1048576)):=by
 have hx:xs.length≤9223372036854775807:=hb.1
 show ZbL ((fun x0 x1=>Zlq [x0,x1]) _ _) _ _
 rw[ZnE]
 have w1:IntKind.i64.wrap (l - (xs.length:Int))=l - (xs.length:Int):=ZdY (by omega) (by omega)
 simp only[w1,List.length_map,EVS]
 by_cases c:l - (xs.length:Int)<0
 ·simp only[c,EVS];exact ZbL.neg h0
 ·simp only[c,EVS]
  refine (ZbL.sc (Zpg xs (fun x=>(x).length≤1048576) _ hx (fun again k x l' hk h2 h3=> ?_) (fun again l'=> ?_) (by omega) (by omega))).mono (by omega) (fun h=>⟨by omega,h⟩)
  ·have hi:ZaW (.lst (xs.map PV.str)) (.int .i64 (k:Int))=some ((.str x)):=Za3 hk
   have hxl:=hb.2 x (List.mem_of_getElem? hk)
   have w2:IntKind.i64.wrap (l' - (x.length:Int))=l' - (x.length:Int):=ZdY (by omega) (by omega)
   refine ⟨l' - (x.length:Int),by omega,fun h=>by omega, ?_⟩
   simp only[ZeO (ZK hk),ZcL (ZK hk) hx,hi,w2,EVS]
   by_cases c2:l' - (x.length:Int)<0<;>simp only[c2,EVS]
  ·simp only[Zlk,EVS]
theorem Zpo (xs:List (List UInt8)) (hb:((xs).length≤1048576∧∀x∈xs,(x).length≤1048576)):Zlt [.lst (xs.map PV.str)]=some (.lst (xs.map PV.str)):=by
 have hx:xs.length≤1048576:=hb.1
 show (fun x0=>Zlt [x0]) _=_
 rw[ZnK]
 simp only[mk_v _ _ (show xs.length≤4294967296 by omega),List.length_map,EVS]
 refine Zom xs PV.str 1 _ _ (by omega) ?_ (fun _=> ?_) (fun _=> ?_) (fun again k x row el hk hl he hs=> ?_) (fun again row=> ?_)
 ·rfl
 ·rfl
 ·constructor<;>(rintro ⟨l,h⟩;cases h)
 ·have hi:ZaW (.lst (xs.map PV.str)) (.int .i64 (k:Int))=some ((.str x)):=Za3 hk
  have hkr:k<row.length:=by rw[hl];exact ZK hk
  simp only[ZeO (ZK hk),ZcL (ZK hk) (show xs.length≤9223372036854775807 by omega),hi,Zol hkr,he,hs,EVS]
 ·simp only[Zlk,EVS]
theorem Zpp (xs:List (List UInt8)) (hb:((xs).length≤9223372036854775807∧∀x∈xs,(x).length≤9223372036854775807)):Zly [.lst (xs.map PV.str),.lst (xs.map PV.str)]=some (pB true):=by
 have hx:xs.length≤9223372036854775807:=hb.1
 show (fun x0 x1=>Zly [x0,x1]) _ _=_
 rw[ZnW]
 simp only[List.length_map,EVS]
 refine (congrArg (fun m:Option PV=>m.bind fun r=>if r.sc=true then some r else none) (Zek (R:=PV) xs (fun _ _=>true) (some (pB false)) (some (pB true)) _ hx (fun again k x hk=> ?_) (fun again=> ?_))).trans ?_
 ·have hi:ZaW (.lst (xs.map PV.str)) (.int .i64 (k:Int))=some ((.str x)):=Za3 hk
  simp only[ZeO (ZK hk),ZcL (ZK hk) hx,hi,beq_self_eq_true,EVS]
 ·simp only[Zlk,EVS]
 ·rw[show ZdQ (fun (_:Nat) (_:List UInt8)=>true) 0 xs=true from Zfl xs 0];rfl
def ZlB (m:Nat) (a:PWire):Prop:=(a.name).length≤m∧(a.ins).length≤m∧((a.cover).length≤m∧∀x∈a.cover,(x).length≤m)
theorem Zqw (a:PWire) (l:Int) (hb:ZlB 9223372036854775807 a) (h0:0≤l) (h1:l≤1048576):ZbL (Zme [ZiU a,pI l]) l (ZlB 1048576 a):=by
 obtain ⟨b0,b1,b2⟩:=hb
 unfold ZlB
 show ZbL ((fun x0 x1=>Zme [x0,x1]) _ _) _ _
 rw[ZoV]
 simp only[ZiU,EVS]
 have w0:IntKind.i64.wrap (l - (a.name.length:Int))=(l - (a.name.length:Int)):=ZdY (by omega) (by omega)
 simp only[w0,EVS]
 by_cases c0:(l - (a.name.length:Int))<0
 ·simp only[c0,EVS];exact ZbL.neg h0
 simp only[c0,EVS]
 have q0:0≤(l - (a.name.length:Int))∧(l - (a.name.length:Int))≤l:=by omega
 obtain ⟨r1,g1,y1,z1⟩:=Zqt a.ins (l - (a.name.length:Int)) b1 (by omega) (by omega)
 try simp only[g1,EVS]
 by_cases c1:r1<0
 ·simp only[g1,c1,EVS];exact ZbL.neg h0
 try simp only[g1,c1,EVS]
 have q1:0≤r1∧r1≤l:=by omega
 obtain ⟨r2,g2,y2,z2⟩:=Zpn a.cover r1 b2 (by omega) (by omega)
 try simp only[g2,EVS]
 by_cases c2:r2<0
 ·simp only[g2,c2,EVS];exact ZbL.neg h0
 try simp only[g2,c2,EVS]
 have q2:0≤r2∧r2≤l:=by omega
 exact ZbL.pos (by omega) ⟨(by omega),(z1 (by omega)),(z2 (by omega))⟩
theorem Zqx (a:PWire) (hb:ZlB 1048576 a):Zmh [ZiU a]=some (ZiU a):=by
 obtain ⟨b0,b1,b2⟩:=hb
 have g0:=Zqu a.ins b1
 have g1:=Zpo a.cover b2
 show (fun x0=>Zmh [x0]) _=_
 rw[ZoZ]
 simp only[ZiU,g0,g1,EVS]
theorem Zqy (a:PWire) (hb:ZlB 9223372036854775807 a):Zmq [ZiU a,ZiU a]=some (pB true):=by
 obtain ⟨b0,b1,b2⟩:=hb
 have g0:=Zqv a.ins b1
 have g1:=Zpp a.cover b2
 show (fun x0 x1=>Zmq [x0,x1]) _ _=_
 rw[Zpa]
 simp only[ZiU,g0,g1,beq_self_eq_true,EVS]
theorem Zp7 (xs:List (PWire)) (l:Int) (hb:((xs).length≤9223372036854775807∧∀x∈xs,ZlB 9223372036854775807 x)) (h0:0≤l) (h1:l≤1048576):ZbL (ZlN [.lst (xs.map ZiU),pI l]) l (((xs).length≤1048576∧∀x∈xs,ZlB 1048576 x)):=by
 have hx:xs.length≤9223372036854775807:=hb.1
 show ZbL ((fun x0 x1=>ZlN [x0,x1]) _ _) _ _
 rw[Zos]
 have w1:IntKind.i64.wrap (l - (xs.length:Int))=l - (xs.length:Int):=ZdY (by omega) (by omega)
 simp only[w1,List.length_map,EVS]
 by_cases c:l - (xs.length:Int)<0
 ·simp only[c,EVS];exact ZbL.neg h0
 ·simp only[c,EVS]
  refine (ZbL.sc (Zpg xs (fun x=>ZlB 1048576 x) _ hx (fun again k x l' hk h2 h3=> ?_) (fun again l'=> ?_) (by omega) (by omega))).mono (by omega) (fun h=>⟨by omega,h⟩)
  ·have hi:ZaW (.lst (xs.map ZiU)) (.int .i64 (k:Int))=some ((ZiU x)):=Za3 hk
   obtain ⟨r,g1,g2,g3⟩:=Zqw x l' (hb.2 x (List.mem_of_getElem? hk)) h2 h3
   refine ⟨r,g2,g3, ?_⟩
   simp only[ZiU] at g1 hi
   simp only[ZeO (ZK hk),ZcL (ZK hk) hx,hi,g1,EVS]
   by_cases c2:r<0<;>simp only[c2,EVS]
  ·simp only[Zlk,EVS]
theorem Zp8 (xs:List (PWire)) (hb:((xs).length≤1048576∧∀x∈xs,ZlB 1048576 x)):ZlO [.lst (xs.map ZiU)]=some (.lst (xs.map ZiU)):=by
 have hx:xs.length≤1048576:=hb.1
 show (fun x0=>ZlO [x0]) _=_
 rw[Zou]
 simp only[mk_v _ _ (show xs.length≤4294967296 by omega),List.length_map,EVS]
 refine Zom xs ZiU 4 _ _ (by omega) ?_ (fun _=> ?_) (fun _=> ?_) (fun again k x row el hk hl he hs=> ?_) (fun again row=> ?_)
 ·rfl
 ·rfl
 ·exact ⟨fun _=>⟨_,rfl⟩,fun _=>⟨_,rfl⟩⟩
 ·have hi:ZaW (.lst (xs.map ZiU)) (.int .i64 (k:Int))=some ((ZiU x)):=Za3 hk
  have hkr:k<row.length:=by rw[hl];exact ZK hk
  have g1:=Zqx x (hb.2 x (List.mem_of_getElem? hk))
  simp only[ZiU] at g1 hi hs
  simp only[ZiU,ZeO (ZK hk),ZcL (ZK hk) (show xs.length≤9223372036854775807 by omega),hi,g1,Zol hkr,he,hs,EVS]
 ·simp only[Zlk,EVS]
theorem Zp9 (xs:List (PWire)) (hb:((xs).length≤9223372036854775807∧∀x∈xs,ZlB 9223372036854775807 x)):ZlW [.lst (xs.map ZiU),.lst (xs.map ZiU)]=some (pB true):=by
 have hx:xs.length≤9223372036854775807:=hb.1
 show (fun x0 x1=>ZlW [x0,x1]) _ _=_
 rw[ZoJ]
 simp only[List.length_map,EVS]
 refine (congrArg (fun m:Option PV=>m.bind fun r=>if r.sc=true then some r else none) (Zek (R:=PV) xs (fun _ _=>true) (some (pB false)) (some (pB true)) _ hx (fun again k x hk=> ?_) (fun again=> ?_))).trans ?_
 ·have hi:ZaW (.lst (xs.map ZiU)) (.int .i64 (k:Int))=some ((ZiU x)):=Za3 hk
  have g1:=Zqy x (hb.2 x (List.mem_of_getElem? hk))
  simp only[ZiU] at g1 hi
  simp only[ZeO (ZK hk),ZcL (ZK hk) hx,hi,g1,EVS]
 ·simp only[Zlk,EVS]
 ·rw[show ZdQ (fun (_:Nat) (_:PWire)=>true) 0 xs=true from Zfl xs 0];rfl
def Zlg (m:Nat) (a:PNet):Prop:=((a.signals).length≤m∧∀x∈a.signals,ZkE m x)∧((a.wires).length≤m∧∀x∈a.wires,ZlB m x)
theorem Zpq (a:PNet) (l:Int) (hb:Zlg 9223372036854775807 a) (h0:0≤l) (h1:l≤1048576):ZbL (Zlr [Zk5 a,pI l]) l (Zlg 1048576 a):=by
 obtain ⟨b0,b1⟩:=hb
 unfold Zlg
 show ZbL ((fun x0 x1=>Zlr [x0,x1]) _ _) _ _
 rw[ZnG]
 simp only[Zk5,EVS]
 obtain ⟨r0,g0,y0,z0⟩:=Zpk a.signals l b0 (by omega) (by omega)
 try simp only[g0,EVS]
 by_cases c0:r0<0
 ·simp only[g0,c0,EVS];exact ZbL.neg h0
 try simp only[g0,c0,EVS]
 have q0:0≤r0∧r0≤l:=by omega
 obtain ⟨r1,g1,y1,z1⟩:=Zp7 a.wires r0 b1 (by omega) (by omega)
 try simp only[g1,EVS]
 by_cases c1:r1<0
 ·simp only[g1,c1,EVS];exact ZbL.neg h0
 try simp only[g1,c1,EVS]
 have q1:0≤r1∧r1≤l:=by omega
 exact ZbL.pos (by omega) ⟨(z0 (by omega)),(z1 (by omega))⟩
theorem Zpr (a:PNet) (hb:Zlg 1048576 a):Zk2 [Zk5 a]=some (Zk5 a):=by
 obtain ⟨b0,b1⟩:=hb
 have g0:=Zpl a.signals b0
 have g1:=Zp8 a.wires b1
 show (fun x0=>Zk2 [x0]) _=_
 rw[ZnM]
 simp only[Zk5,g0,g1,EVS]
theorem Zps (a:PNet) (hb:Zlg 9223372036854775807 a):Zlz [Zk5 a,Zk5 a]=some (pB true):=by
 obtain ⟨b0,b1⟩:=hb
 have g0:=Zpm a.signals b0
 have g1:=Zp9 a.wires b1
 show (fun x0 x1=>Zlz [x0,x1]) _ _=_
 rw[ZnY]
 simp only[Zk5,g0,g1,beq_self_eq_true,EVS]
theorem PNet.fit_of {n:PNet} (h:Zlg 9223372036854775807 n):n.Fit:=by
 obtain ⟨⟨h1,h2⟩,h3,h4⟩:=h
 exact ⟨h1,fun s hs=>h2 s hs,h3,fun w hw=>⟨(h4 w hw).1,(h4 w hw).2.1,(h4 w hw).2.2.1,(h4 w hw).2.2.2⟩⟩
theorem Zm2 (n:PNet) (hn:Zlg 9223372036854775807 n):ZkA [Zk5 n]=some (pB true):=by
 have a1:=ZmN n (PNet.fit_of hn)
 have a2:=ZmO n (PNet.fit_of hn)
 have a3:=Zps n hn
 obtain ⟨r,a4,_,hz⟩:=Zpq n 1048576 hn (by omega) (by omega)
 simp only[Zk5] at a1 a2 a3 a4
 show (fun x0=>ZkA [x0]) _=_
 rw[ZlM]
 simp only[Zk5,Zob,a4,EVS]
 by_cases c2:r<0<;>simp only[c2,EVS]
 have a5:=Zpr n (hz (by omega))
 simp only[Zk5] at a5
 simp only[Zob,a1,a2,a3,a5,beq_self_eq_true,EVS]
end Go.Proofs.YthobodfbjjjiiaaDoor
