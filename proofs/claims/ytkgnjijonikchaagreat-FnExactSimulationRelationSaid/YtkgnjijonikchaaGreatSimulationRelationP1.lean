import Derived.Test.YtkgnjijonikchaaGreatSimulationRelationF
import Derived.Test.YtkgnjijonikchaaGreatCmpPairs
import Derived.Test.YtkgnjijonikchaaGreatData
import Derived.Test.YtkgnjijonikchaaGreatDistPure
import Derived.Test.YtkgnjijonikchaaGreatSysPure
namespace Go.Proofs.YtkgnjijonikchaaGreat
open Go.RowKit
set_option linter.unusedVariables false
set_option linter.unusedSimpArgs false
theorem ZbE (n lo hi:Int):ZaY [pI n,pI lo,pI hi]=some (pB (decide (lo≤n)&&decide (n≤hi))):=by
 show (fun x0 x1 x2=>ZaY [x0,x1,x2]) _ _ _=_
 rw[Zwm]
 by_cases h:lo≤n<;>simp only[h,EVS]
def ZxP (first:Bool) (b:UInt8):Bool:=(decide ((97:Int)≤b.toNat)&&decide ((b.toNat:Int)≤122))||(!first&&(!decide ((b.toNat:Int)<48)&& !decide ((57:Int)<b.toNat)))
def ZjA :Bool→List UInt8→Bool
 |_,[]=>true
 |f,b::r=>ZxP f b&&ZjA false r
def ZaH (s:List UInt8):Bool:=ZjA true s&&(decide ((1:Int)≤s.length)&&decide ((s.length:Int)≤6))
theorem ZnD (s:List UInt8) (hs:s.length≤9223372036854775807):Ze9 [.str s]=some (pB (ZaH s)):=by
 show (fun x0=>Ze9 [x0]) _=_
 rw[Zsz]
 refine (congrArg (Zf true) (Zbb (R:=PV) (fun k:Nat=>[pI (Int.ofNat k)]) (fun k=>s.length+1 - k) (fun k=>some (pB (ZjA (k==0) (s.drop k)&&(decide ((1:Int)≤s.length)&&decide ((s.length:Int)≤6))))) _ (fun again k ih=> ?_) _ 0 (by omega))).trans ?_
 ·by_cases hk:k<s.length
  ·obtain ⟨b,hb⟩:∃b,s[k]?=some b:=⟨s[k],List.getElem?_eq_getElem hk⟩
   have hd:s.drop k=b::s.drop (k+1):=by
    obtain ⟨h1,rfl⟩:=List.getElem?_eq_some_iff.1 hb
    exact List.drop_eq_getElem_cons h1
   have hlt:decide ((k:Int)<s.length)=true:=by simpa using hk
   have hw:IntKind.i64.wrap ((k:Int)+1)=((k+1:Nat):Int):=by rw[Zda (by omega) (by omega)];omega
   have hnext:=ih (k+1) (by omega)
   simp only[Int.ofNat_eq_natCast] at hnext
   have hk0:decide ((k:Int)=0)=(k==0):=by rw[Bool.eq_iff_iff];simp
   rw[hd]
   have hk1:(k+1==0)=false:=rfl
   rw[hk1] at hnext
   have ev1:=hlt
   have ev2:=Zs (k:=.i64) hb
   simp only[ZjA,ZxP,hlt,Zs hb,hk0,hw,hnext,EVS]
   by_cases c1:(97:Int)≤b.toNat
   all_goals simp only[c1,Zs hb,EVS]
   by_cases c2:(b.toNat:Int)≤122
   all_goals try simp only[c2,Zs hb,EVS]
   all_goals try simp only[hk0]
   all_goals try (cases c5:(k==0))
   all_goals try simp only[c5,Zs hb,EVS]
   all_goals try (by_cases c3:(b.toNat:Int)<48)
   all_goals try simp only[c3,Zs hb,EVS]
   all_goals try (by_cases c4:(57:Int)<b.toNat)
   all_goals try simp only[c4,Zs hb,EVS]
  ·have hd:s.drop k=[]:=List.drop_eq_nil_of_le (by omega)
   have hlt:decide ((k:Int)<s.length)=false:=by simpa using hk
   rw[hd]
   simp only[ZjA,hlt,ZbE,EVS]
 ·simp only[ZaH,List.drop_zero,beq_self_eq_true,EVS]
def ZlQ (b:UInt8):Bool:=decide ((b.toNat:Int)=48)||decide ((b.toNat:Int)=49)||decide ((b.toNat:Int)=45)
def ZkC (s:List UInt8):Bool:=Z0 (fun _ b=>ZlQ b) 0 s&&(decide ((1:Int)≤s.length)&&decide ((s.length:Int)≤8))
theorem Zg {α:Type} {l:List α} {k:Nat} {x:α} (h:l[k]?=some x):k<l.length:=(List.getElem?_eq_some_iff.1 h).1
theorem Zk {k n:Nat} (h:k<n) (hn:n≤9223372036854775807):IntKind.i64.wrap ((k:Int)+1)=((k+1:Nat):Int):=by rw[Zda (by omega) (by omega)];omega
theorem ZY {k n:Nat} (h:k<n):decide ((k:Int)<(n:Int))=true:=by simpa using h
theorem Zav {n:Nat}:decide ((n:Int)<(n:Int))=false:=by simp
theorem Zsc (s:List UInt8) (hs:s.length≤9223372036854775807):Zfy [.str s]=some (pB (ZkC s)):=by
 show (fun x0=>Zfy [x0]) _=_
 rw[ZqE]
 refine (congrArg (Zf true) (Zab (R:=PV) s (fun _ b=>ZlQ b) (some (pB false)) (some (pB (decide ((1:Int)≤s.length)&&decide ((s.length:Int)≤8)))) _ hs (fun again k b hb=> ?_) (fun again=> ?_))).trans ?_
 ·have hk:=Zg hb
  cases c1:decide ((b.toNat:Int)=48)<;>cases c2:decide ((b.toNat:Int)=49)<;>cases c3:decide ((b.toNat:Int)=45)<;>
   simp only[ZlQ,ZY hk,Zk hk hs,Zs hb,c1,c2,c3,EVS]
 ·simp only[Zav,ZbE,EVS]
 ·unfold ZkC
  cases Z0 (fun _ b=>ZlQ b) 0 s<;>simp only[EVS]
abbrev Z6 (s:List UInt8×Int):PV:=.agg [.str s.1,pI s.2]
def inR (n lo hi:Int):Bool:=decide (lo≤n)&&decide (n≤hi)
def Zpq (l:List (List UInt8×Int)) (k:Nat) (s:List UInt8×Int):Bool:=(ZaH s.1&&inR s.2 1 3)&&Z0 (fun _ y=> !decide (s.1=y.1)) 0 (l.take k)
def Zi4 (l:List (List UInt8×Int)):Bool:=Z0 (Zpq l) 0 l&&inR l.length 1 8
theorem Zpr (x:List UInt8×Int):Zau 2 (Z6 x)=true:=rfl
theorem Zi5 (l:List (List UInt8×Int)) (hl:l.length≤9223372036854775807) (hs:∀s∈l,s.1.length≤9223372036854775807):Zc7 [.lst (l.map Z6)]=some (pB (Zi4 l)):=by
 show (fun x0=>Zc7 [x0]) _=_
 rw[ZnY]
 simp only[EVS]
 refine (congrArg (Zf true) (Zab (R:=PV) l (Zpq l) (some (pB false)) (some (pB (inR l.length 1 8))) _ hl (fun again k s hb=> ?_) (fun again=> ?_))).trans ?_
 ·have hk:=Zg hb
  have hi:Zm (.lst (l.map Z6)) (.int .i64 (k:Int))=some (Z6 s):=Zl hb
  have hc:Zl0 2 (.lst (l.map Z6)) none (some (.int .i64 (k:Int)))=some (.lst ((l.take k).map Z6)):=Zmj Zpr (by omega)
  have hn:=ZnD s.1 (hs s (List.mem_of_getElem? hb))
  simp only[ZY hk,Zk hk hl,hi,Z6,hn,ZbE,Zpq,inR,EVS]
  obtain c1|c1:=(Bool.eq_false_or_eq_true (ZaH s.1)).symm<;>simp only[c1,ZbE,EVS]
  obtain c2|c2:=(Bool.eq_false_or_eq_true (decide (1≤s.2)&&decide (s.2≤3))).symm<;>simp only[c2,EVS]
  simp only[hc,EVS]
  refine (Zab (R:=PV) (l.take k) (fun _ y=> !decide (s.1=y.1)) (some (pB false)) (again [pI ((k+1:Nat):Int)]) _ (by simp;omega) (fun again' j y hy=> ?_) (fun again'=> ?_)).trans ?_
  ·have hj:=Zg hy
   have hi':Zm (.lst ((l.take k).map Z6)) (.int .i64 (j:Int))=some (Z6 y):=Zl hy
   simp only[ZY hj,Zk hj (by simp;omega),hi',Z6,EVS]
   cases c3:decide (s.1=y.1)<;>simp only[c3,EVS]
  ·simp only[Zav,Zk hk hl,EVS]
  ·rfl
 ·simp only[Zav,ZbE,inR,EVS]
 ·unfold Zi4
  cases Z0 (Zpq l) 0 l<;>simp only[EVS]
def Zmt (n:Int) (l:List (List UInt8)):Bool:=Z0 (fun _ c=>ZkC c&&decide ((c.length:Int)=n)) 0 l
def ZnE (n:Int) (l:List (List UInt8)):Bool:=Zmt n l&&(inR n 1 8&&decide ((l.length:Int)≤60))
theorem Zsd (n:Int) (l:List (List UInt8)) (hl:l.length≤9223372036854775807) (hs:∀s∈l,s.length≤9223372036854775807):Zfz [pI n,.lst (l.map PV.str)]=some (pB (ZnE n l)):=by
 show (fun x0 x1=>Zfz [x0,x1]) _ _=_
 rw[ZqG]
 simp only[EVS]
 refine (congrArg (Zf true) (Zab (R:=PV) l (fun _ c=>ZkC c&&decide ((c.length:Int)=n)) (some (pB false)) (some (pB (inR n 1 8&&decide ((l.length:Int)≤60)))) _ hl (fun again k s hb=> ?_) (fun again=> ?_))).trans ?_
 ·have hk:=Zg hb
  have hi:Zm (.lst (l.map PV.str)) (.int .i64 (k:Int))=some (.str s):=Zl hb
  have hn:=Zsc s (hs s (List.mem_of_getElem? hb))
  simp only[ZY hk,Zk hk hl,hi,hn,EVS]
  obtain c1|c1:=(Bool.eq_false_or_eq_true (ZkC s)).symm<;>simp only[c1,EVS]
  obtain c2|c2:=(Bool.eq_false_or_eq_true (decide ((s.length:Int)=n))).symm<;>simp only[c2,EVS]
 ·simp only[Zav,ZbE,inR,EVS]
  obtain c1|c1:=(Bool.eq_false_or_eq_true (decide (1≤n)&&decide (n≤8))).symm<;>simp only[c1,EVS]
 ·unfold ZnE Zmt
  cases Z0 (fun _ c=>ZkC c&&decide ((c.length:Int)=n)) 0 l<;>simp only[EVS]
structure PWire where
 name:List UInt8
 kind:Int
 ins:List (Int×Bool)
 cover:List (List UInt8)
structure PNet where
 signals:List (List UInt8×Int)
 wires:List PWire
abbrev ZaB (p:Int×Bool):PV:=.agg [pI p.1,pB p.2]
abbrev Z9 (w:PWire):PV:=.agg [.str w.name,pI w.kind,.lst (w.ins.map ZaB),.lst (w.cover.map PV.str)]
abbrev Zz (n:PNet):PV:=.agg [.lst (n.signals.map Z6),.lst (n.wires.map Z9)]
abbrev ZH {α:Type} (l:List α):Prop:=l.length≤9223372036854775807
structure PWire.Fit (w:PWire):Prop where
 name:ZH w.name
 ins:ZH w.ins
 cover:ZH w.cover
 cubes:∀c∈w.cover,ZH c
structure PNet.Fit (n:PNet):Prop where
 signals:ZH n.signals
 names:∀s∈n.signals,ZH s.1
 wires:ZH n.wires
 wire:∀w∈n.wires,w.Fit
def Zi6 (n:PNet) (k:Nat) (p:Int×Bool):Bool:=inR p.1 0 ((n.wires.length:Int) - 1)&& !(decide ((n.signals.length:Int)≤k)&&decide ((k:Int)≤p.1))
def Zfs (k:Nat) (kind:Int) (ins:List (Int×Bool)):Bool:=
 if decide (kind=1)=true then decide ((ins.length:Int)=0)
 else if decide (kind=4)=true then decide ((ins.length:Int)=2)
 else if decide (kind=5)=true then decide ((ins.length:Int)=0)||(match ins with|[p]=>decide (p.1=k)&& !p.2|_=>false)
 else inR ins.length 1 8
def Zse (n:PNet) (k:Nat) (w:PWire):Bool:=Z0 (fun _ p=>Zi6 n k p) 0 w.ins&&Zfs k w.kind w.ins
theorem Zsf (n:PNet) (k:Nat) (w:PWire) (hn:n.Fit) (hw:w.Fit):ZfA [Zz n,pI k,Z9 w]=some (pB (Zse n k w)):=by
 show (fun x0 x1 x2=>ZfA [x0,x1,x2]) _ _ _=_
 rw[ZqI]
 simp only[Zz,Z9,EVS]
 have hwl:IntKind.i64.wrap ((n.wires.length:Int) - 1)=(n.wires.length:Int) - 1:=Zda (by omega) (by have:=hn.wires;unfold ZH at this;omega)
 have hi0:=hw.ins
 unfold ZH at hi0
 refine (congrArg (Zf true) (Zab (R:=PV) w.ins (fun _ p=>Zi6 n k p) (some (pB false)) (some (pB (Zfs k w.kind w.ins))) _ hi0 (fun again j p hb=> ?_) (fun again=> ?_))).trans ?_
 ·have hk:=Zg hb
  have hi:Zm (.lst (w.ins.map ZaB)) (.int .i64 (j:Int))=some (ZaB p):=Zl hb
  simp only[ZY hk,Zk hk hi0,hi,ZaB,hwl,ZbE,Zi6,inR,EVS]
  obtain c1|c1:=(Bool.eq_false_or_eq_true (decide (0≤p.1)&&decide (p.1≤(n.wires.length:Int) - 1))).symm<;>simp only[c1,EVS]
  obtain c2|c2:=(Bool.eq_false_or_eq_true (decide ((n.signals.length:Int)≤(k:Int)))).symm<;>simp only[c2,EVS]
  obtain c3|c3:=(Bool.eq_false_or_eq_true (decide ((k:Int)≤p.1))).symm<;>simp only[c3,EVS]
 ·simp only[Zav,Zfs,EVS]
  obtain c1|c1:=(Bool.eq_false_or_eq_true (decide (w.kind=1))).symm<;>simp only[c1,EVS]
  obtain c2|c2:=(Bool.eq_false_or_eq_true (decide (w.kind=4))).symm<;>simp only[c2,EVS]
  obtain c3|c3:=(Bool.eq_false_or_eq_true (decide (w.kind=5))).symm<;>simp only[c3,ZbE,inR,EVS]
  have h01:decide ((0:Int)=1)=false:=rfl
  have h00:decide ((0:Int)=0)=true:=rfl
  have h11:decide ((1:Int)=1)=true:=rfl
  have h10:decide ((1:Int)=0)=false:=rfl
  rcases hq:w.ins with _|⟨p,_|⟨q,r⟩⟩
  ·simp only[List.length_nil,h00,EVS]
  ·have hi:Zm (.lst ([p].map ZaB)) (.int .i64 0)=some (ZaB p):=rfl
   simp only[List.length_cons,List.length_nil,Nat.zero_add,h11,h10,hi,ZaB,List.drop_zero,List.drop_succ_cons,EVS]
   obtain c4|c4:=(Bool.eq_false_or_eq_true (decide (p.1=(k:Int)))).symm<;>simp only[c4,h11,h10,hi,ZaB,List.drop_zero,List.drop_succ_cons,EVS]
  ·have h2:decide (((r.length+1+1:Nat):Int)=0)=false:=by simp;omega
   have h3:decide (((r.length+1+1:Nat):Int)=1)=false:=by simp;omega
   simp only[List.length_cons,h2,h3,EVS]
 ·unfold Zse
  cases Z0 (fun _ p=>Zi6 n k p) 0 w.ins<;>simp only[EVS]
def Zgd (n:PNet) (k:Nat) (w:PWire):Bool:=match n.signals[k]? with|some s=>decide (w.name=s.1)&&(decide (w.kind=1)==decide (s.2=1))|none=>false
def ZnF (n:PNet) (k:Nat) (w:PWire):Bool:=
 let seen:=decide ((k:Int)<(n.signals.length:Int))
 (inR w.kind 1 5&&(seen||decide (w.kind=2)||decide (w.kind=3)))&&(!seen||Zgd n k w)&&(if decide (w.kind=5)=true then ZnE n.signals.length w.cover else !decide ((0:Int)<w.cover.length))&&(ZaH w.name&&Zse n k w)
theorem Zsg (n:PNet) (k:Nat) (w:PWire) (hn:n.Fit) (hw:w.Fit):ZfB [Zz n,pI k,Z9 w]=some (pB (ZnF n k w)):=by
 have g1:=Zsd n.signals.length w.cover hw.cover hw.cubes
 have g2:=ZnD w.name hw.name
 have g3:=Zsf n k w hn hw
 have g4:=ZbE w.kind 1 5
 simp only[Zz,Z9] at g3
 show (fun x0 x1 x2=>ZfB [x0,x1,x2]) _ _ _=_
 rw[ZqK]
 simp only[Zz,Z9,g4,EVS]
 have fin:∀b:Bool,((some (pB (ZaH w.name&&b))))=(some (pB (ZaH w.name&&b))):=fun _=>rfl
 simp only[ZnF,inR]
 obtain c1|c1:=(Bool.eq_false_or_eq_true (decide (1≤w.kind)&&decide (w.kind≤5))).symm<;>simp only[c1,EVS]
 obtain c2|c2:=(Bool.eq_false_or_eq_true (decide ((k:Int)<(n.signals.length:Int)))).symm<;>simp only[c2,EVS]
 ·obtain c3|c3:=(Bool.eq_false_or_eq_true (decide (w.kind=2))).symm<;>simp only[c3,EVS]
  ·obtain c4|c4:=(Bool.eq_false_or_eq_true (decide (w.kind=3))).symm<;>simp only[c4,EVS]
   have c5:decide (w.kind=5)=false:=by have:=of_decide_eq_true c4;simp;omega
   simp only[c5,EVS]
   obtain c6|c6:=(Bool.eq_false_or_eq_true (decide ((0:Int)<w.cover.length))).symm<;>simp only[c6,g2,EVS]
   obtain c7|c7:=(Bool.eq_false_or_eq_true (ZaH w.name)).symm<;>simp only[c7,g3,EVS]
  ·have c4:decide (w.kind=3)=false:=by have:=of_decide_eq_true c3;simp;omega
   have c5:decide (w.kind=5)=false:=by have:=of_decide_eq_true c3;simp;omega
   simp only[c4,c5,EVS]
   obtain c6|c6:=(Bool.eq_false_or_eq_true (decide ((0:Int)<w.cover.length))).symm<;>simp only[c6,g2,EVS]
   obtain c7|c7:=(Bool.eq_false_or_eq_true (ZaH w.name)).symm<;>simp only[c7,g3,EVS]
 ·have hk:k<n.signals.length:=by have:=of_decide_eq_true c2;omega
  have hs:n.signals[k]?=some n.signals[k]:=List.getElem?_eq_getElem hk
  have hi:Zm (.lst (n.signals.map Z6)) (.int .i64 (k:Int))=some (Z6 n.signals[k]):=Zl hs
  simp only[Zgd,hs,hi,Z6,List.drop_zero,List.drop_succ_cons,EVS]
  obtain c3|c3:=(Bool.eq_false_or_eq_true (decide (w.name=n.signals[k].1))).symm<;>simp only[c3,hi,Z6,List.drop_zero,List.drop_succ_cons,EVS]
  obtain c4|c4:=(Bool.eq_false_or_eq_true (decide (w.kind=1)==decide (n.signals[k].2=1))).symm<;>simp only[bne,c4,hi,Z6,List.drop_zero,List.drop_succ_cons,EVS]
  obtain c5|c5:=(Bool.eq_false_or_eq_true (decide (w.kind=5))).symm<;>simp only[c5,g1,g2,EVS]
  ·obtain c6|c6:=(Bool.eq_false_or_eq_true (decide ((0:Int)<w.cover.length))).symm<;>simp only[c6,g2,EVS]
   obtain c7|c7:=(Bool.eq_false_or_eq_true (ZaH w.name)).symm<;>simp only[c7,g3,EVS]
  ·obtain c6|c6:=(Bool.eq_false_or_eq_true (ZnE n.signals.length w.cover)).symm<;>simp only[c5,c6,g2,EVS]
   obtain c7|c7:=(Bool.eq_false_or_eq_true (ZaH w.name)).symm<;>simp only[c5,c7,g3,EVS]
def ZcO (n:PNet) (k:Nat) (w:PWire):Bool:=ZnF n k w&&Z0 (fun _ v=> !decide (v.name=w.name)) 0 (n.wires.take k)
def ZfP (n:PNet):Bool:=Zi4 n.signals&&(!decide ((n.wires.length:Int)<n.signals.length)&& !decide ((24:Int)<n.wires.length))&&Z0 (ZcO n) 0 n.wires
theorem ZnG (x:PWire):Zau 4 (Z9 x)=true:=rfl
theorem Zsh (n:PNet) (hn:n.Fit):ZfC [Zz n]=some (pB (ZfP n)):=by
 have g1:=Zi5 n.signals hn.signals hn.names
 have hwl:=hn.wires
 unfold ZH at hwl
 show (fun x0=>ZfC [x0]) _=_
 rw[ZqM]
 simp only[Zz,g1,EVS]
 unfold ZfP
 obtain c1|c1:=(Bool.eq_false_or_eq_true (Zi4 n.signals)).symm<;>simp only[c1,EVS]
 obtain c2|c2:=(Bool.eq_false_or_eq_true (decide ((n.wires.length:Int)<n.signals.length))).symm<;>simp only[c2,EVS]
 obtain c3|c3:=(Bool.eq_false_or_eq_true (decide ((24:Int)<n.wires.length))).symm<;>simp only[c3,EVS]
 refine (congrArg (Zf true) (Zab (R:=PV) n.wires (ZcO n) (some (pB false)) (some (pB true)) _ hwl (fun again k w hb=> ?_) (fun again=> ?_))).trans ?_
 ·have hk:=Zg hb
  have hi:Zm (.lst (n.wires.map Z9)) (.int .i64 (k:Int))=some (Z9 w):=Zl hb
  have hc:Zl0 4 (.lst (n.wires.map Z9)) none (some (.int .i64 (k:Int)))=some (.lst ((n.wires.take k).map Z9)):=Zmj ZnG (by omega)
  have g3:=Zsg n k w hn (hn.wire w (List.mem_of_getElem? hb))
  simp only[Zz,Z9] at g3
  simp only[ZY hk,Zk hk hwl,hi,Z9,ZcO,g3,EVS]
  obtain c4|c4:=(Bool.eq_false_or_eq_true (ZnF n k w)).symm<;>simp only[c4,hc,EVS]
  refine (Zab (R:=PV) (n.wires.take k) (fun _ v=> !decide (v.name=w.name)) (some (pB false)) (again [pI ((k+1:Nat):Int)]) _ (by simp;omega) (fun again' j y hy=> ?_) (fun again'=> ?_)).trans ?_
  ·have hj:=Zg hy
   have hi':Zm (.lst ((n.wires.take k).map Z9)) (.int .i64 (j:Int))=some (Z9 y):=Zl hy
   simp only[ZY hj,Zk hj (by simp;omega),hi',Z9,EVS]
   obtain c5|c5:=(Bool.eq_false_or_eq_true (decide (y.name=w.name))).symm<;>simp only[c5,EVS]
  ·simp only[Zav,Zk hk hwl,EVS]
  ·rfl
 ·simp only[Zav,EVS]
 ·cases Z0 (ZcO n) 0 n.wires<;>simp only[EVS]
theorem ZaE (n lo hi:Int):Zaw [pI n,pI lo,pI hi]=some (pB (inR n lo hi)):=by
 show (fun x0 x1 x2=>Zaw [x0,x1,x2]) _ _ _=_
 rw[Zsn]
 unfold inR
 by_cases h:lo≤n<;>simp only[h,EVS]
def Zlo (k:Nat) (b:UInt8):Bool:=(decide ((97:Int)≤b.toNat)&&decide ((b.toNat:Int)≤122))||(!decide ((k:Int)=0)&&(decide ((48:Int)≤b.toNat)&&decide ((b.toNat:Int)≤57)))
def Zqm (s:List UInt8):Bool:=Z0 Zlo 0 s&&inR s.length 1 6
theorem ZtP (s:List UInt8) (hs:s.length≤9223372036854775807):ZdZ [.str s]=some (pB (Zqm s)):=by
 show (fun x0=>ZdZ [x0]) _=_
 rw[Zsq]
 refine (congrArg (Zf true) (Zab (R:=PV) s Zlo (some (pB false)) (some (pB (inR s.length 1 6))) _ hs (fun again k b hb=> ?_) (fun again=> ?_))).trans ?_
 ·have hk:=Zg hb
  simp only[Zlo,ZY hk,Zk hk hs,Zs hb,EVS]
  obtain c1|c1:=(Bool.eq_false_or_eq_true (decide ((97:Int)≤b.toNat))).symm<;>simp only[c1,Zs hb,EVS]
  all_goals (obtain c2|c2:=(Bool.eq_false_or_eq_true (decide ((b.toNat:Int)≤122))).symm<;>try simp only[c2,Zs hb,EVS])
  all_goals (obtain c3|c3:=(Bool.eq_false_or_eq_true (decide ((48:Int)≤b.toNat))).symm<;>try simp only[c3,Zs hb,EVS])
  all_goals (obtain c4|c4:=(Bool.eq_false_or_eq_true (decide ((b.toNat:Int)≤57))).symm<;>try simp only[c4,Zs hb,EVS])
  all_goals (obtain c5|c5:=(Bool.eq_false_or_eq_true (decide ((k:Int)=0))).symm<;>try simp only[c5,EVS])
 ·simp only[Zav,ZaE,EVS]
 ·unfold Zqm
  cases Z0 Zlo 0 s<;>simp only[EVS]
theorem ZnH :∀(l:List UInt8) (k:Nat),ZjA (k==0) l=Z0 Zlo k l
 |[],_=>rfl
 | b::r,k=>by
  have h:=ZnH r (k+1)
  have h1:(k+1==0)=false:=rfl
  rw[h1] at h
  unfold ZjA Z0
  rw[h]
  congr 1
  unfold ZxP Zlo
  have e1:decide ((48:Int)≤b.toNat)= !decide ((b.toNat:Int)<48):=by rw[Bool.eq_iff_iff];simp
  have e2:decide ((b.toNat:Int)≤57)= !decide ((57:Int)<b.toNat):=by rw[Bool.eq_iff_iff];simp
  have e3:decide ((k:Int)=0)=(k==0):=by rw[Bool.eq_iff_iff];simp
  rw[e1,e2,e3]
theorem ZyC (s:List UInt8):ZaH s=Zqm s:=by
 unfold ZaH Zqm inR
 rw[←ZnH s 0]
 rfl
theorem ZlR (s:List UInt8) (hs:s.length≤9223372036854775807):ZdZ [.str s]=some (pB (ZaH s)):=(ZtP s hs).trans (by rw[ZyC])
def ZfQ (s:List UInt8) (n:Int):Bool:=Z0 (fun _ b=>ZlQ b) 0 s&&(decide ((s.length:Int)=n)&&inR n 1 8)
theorem ZtQ (s:List UInt8) (n:Int) (hs:s.length≤9223372036854775807):ZgT [.str s,pI n]=some (pB (ZfQ s n)):=by
 show (fun x0 x1=>ZgT [x0,x1]) _ _=_
 rw[Zss]
 refine (congrArg (Zf true) (Zab (R:=PV) s (fun _ b=>ZlQ b) (some (pB false)) (some (pB (decide ((s.length:Int)=n)&&inR n 1 8))) _ hs (fun again k b hb=> ?_) (fun again=> ?_))).trans ?_
 ·have hk:=Zg hb
  simp only[ZlQ,ZY hk,Zk hk hs,Zs hb,EVS]
  obtain c1|c1:=(Bool.eq_false_or_eq_true (decide ((b.toNat:Int)=48))).symm<;>simp only[c1,Zs hb,EVS]
  obtain c2|c2:=(Bool.eq_false_or_eq_true (decide ((b.toNat:Int)=49))).symm<;>simp only[c2,Zs hb,EVS]
  obtain c3|c3:=(Bool.eq_false_or_eq_true (decide ((b.toNat:Int)=45))).symm<;>simp only[c3,Zs hb,EVS]
 ·simp only[Zav,EVS]
  obtain c1|c1:=(Bool.eq_false_or_eq_true (decide ((s.length:Int)=n))).symm<;>simp only[c1,ZaE,EVS]
 ·unfold ZfQ
  cases Z0 (fun _ b=>ZlQ b) 0 s<;>simp only[EVS]
def ixf {α:Type} (q:α→Bool):Nat→List α→Int
 |_,[]=> -1
 |k,x::r=>if q x=true then (k:Int) else ixf q (k+1) r
theorem Zvf {α:Type} (q:α→Bool):∀(l:List α) (k:Nat),rgo (fun k x=>if q x=true then some (some (pI (k:Int))) else none) (some (pI (-1))) k l=some (pI (ixf q k l))
 |[],k=>rfl
 | x::r,k=>by
  unfold rgo ixf
  cases q x
  ·simp[Zvf q r (k+1)]
  ·simp
theorem Ze6 {α:Type} (q:α→Bool):∀(l:List α) (k:Nat),decide ((0:Int)≤ixf q k l)= !Z0 (fun _ x=> !q x) k l
 |[],k=>rfl
 | x::r,k=>by
  unfold ixf Z0
  cases q x
  ·simp[Ze6 q r (k+1)]
  ·simp
theorem ZdC {α:Type} (l:List α) (q:α→Bool) (f:(List PV→Option PV)→List PV→Option PV) (hl:l.length≤9223372036854775807)
 (h1:∀again k x,l[k]?=some x→f again [pI (Int.ofNat k)]=if q x=true then some (pI (k:Int)) else again [pI (Int.ofNat (k+1))])
 (h2:∀again,f again [pI (Int.ofNat l.length)]=some (pI (-1))):Zp f 18446744073709551616 [pI (Int.ofNat 0)]=some (pI (ixf q 0 l)):=by
 rw[Ztf l (fun k x=>if q x=true then some (some (pI (k:Int))) else none) (some (pI (-1))) f hl (fun again k x hx=> ?_) h2,Zvf]
 rw[h1 again k x hx]
 cases q x<;>simp
theorem ZnI (l:List PV):Zcz 1 (.tup [.agg l])=some [.agg l]:=by simp[Zcz,PV.parts,PV.isU]
theorem Zlp (a x:List UInt8×Int):ZcR [Z6 a,Z6 x]=some (pB (decide (a.1=x.1))):=by
 show (fun x0 x1=>ZcR [x0,x1]) _ _=_
 rw[ZkN]
 simp only[Z6,List.drop_zero,EVS]
theorem ZbQ (l:List (List UInt8×Int)) (x:List UInt8×Int) (hl:ZH l):ZB [.lst (l.map Z6),.tup [Z6 x]]=some (pI (ixf (fun a=>decide (a.1=x.1)) 0 l)):=by
 show (fun x0 x1=>ZB [x0,x1]) _ _=_
 rw[ZbK]
 unfold ZH at hl
 simp only[EVS]
 refine (congrArg (Zf true) (ZdC l (fun a=>decide (a.1=x.1)) _ hl (fun again k a hb=> ?_) (fun again=> ?_))).trans ?_
 ·have hk:=Zg hb
  have hi:Zm (.lst (l.map Z6)) (.int .i64 (k:Int))=some (Z6 a):=Zl hb
  have g:=Zlp a x
  simp only[Z6] at g
  simp only[ZY hk,Zk hk hl,hi,Z6,ZnI,List.cons_append,List.nil_append,g,EVS]
 ·simp only[Zav,EVS]
  rfl
 ·simp only[EVS]
theorem Zbo (l:List (List UInt8×Int)) (x:List UInt8×Int) (hl:ZH l):Zv [.lst (l.map Z6),.tup [Z6 x]]=some (pB (!Z0 (fun _ a=> !decide (a.1=x.1)) 0 l)):=by
 show (fun x0 x1=>Zv [x0,x1]) _ _=_
 rw[Zbh]
 simp only[ZbQ l x hl,Ze6 (fun a:List UInt8×Int=>decide (a.1=x.1)) l 0,EVS]
theorem Zow (p:Int×Bool) (n:Nat) (hn:n≤9223372036854775807):Zea [ZaB p,.agg [pI n]]=some (pB (!inR p.1 0 ((n:Int) - 1))):=by
 have hwl:IntKind.i64.wrap ((n:Int) - 1)=(n:Int) - 1:=Zda (by omega) (by omega)
 show (fun x0 x1=>Zea [x0,x1]) _ _=_
 rw[ZnU]
 simp only[ZaB,hwl,ZaE,EVS]
theorem ZcP (l:List (Int×Bool)) (n:Nat) (hn:n≤9223372036854775807) (hl:ZH l):ZV [.lst (l.map ZaB),.tup [.agg [pI n]]]=some (pI (ixf (fun p=> !inR p.1 0 ((n:Int) - 1)) 0 l)):=by
 show (fun x0 x1=>ZV [x0,x1]) _ _=_
 rw[ZcD]
 unfold ZH at hl
 simp only[EVS]
 refine (congrArg (Zf true) (ZdC l (fun p=> !inR p.1 0 ((n:Int) - 1)) _ hl (fun again k a hb=> ?_) (fun again=> ?_))).trans ?_
 ·have hk:=Zg hb
  have hi:Zm (.lst (l.map ZaB)) (.int .i64 (k:Int))=some (ZaB a):=Zl hb
  have g:=Zow a n hn
  simp only[ZaB] at g
  simp only[ZY hk,Zk hk hl,hi,ZaB,ZnI,List.cons_append,List.nil_append,g,EVS]
 ·simp only[Zav,EVS]
  rfl
 ·simp only[EVS]
def ZcW (l:List (Int×Bool)) (n:Nat):Bool:=Z0 (fun _ p=>inR p.1 0 ((n:Int) - 1)) 0 l
theorem ZlS (l:List (Int×Bool)) (n:Nat) (hn:n≤9223372036854775807) (hl:ZH l):Zeq [.lst (l.map ZaB),pI n]=some (pB (ZcW l n)):=by
 have g:ZL [.lst (l.map ZaB),.tup [.agg [pI n]]]=some (pB (!Z0 (fun _ p=>inR p.1 0 ((n:Int) - 1)) 0 l)):=by
  show (fun x0 x1=>ZL [x0,x1]) _ _=_
  rw[Zce]
  simp only[ZcP l n hn hl,Ze6 (fun p:Int×Bool=> !inR p.1 0 ((n:Int) - 1)) l 0,Bool.not_not,EVS]
 show (fun x0 x1=>Zeq [x0,x1]) _ _=_
 rw[Zqy]
 have lt:∀{R:Type} (l:List PV) (x:Option R),Za [.tup l] x=x:=fun l x=>(Eq.refl _).trans (Eq.refl _)
 simp only[lt,g,List.drop_zero,Bool.not_not,ZcW,EVS]
theorem Zqn (w:PWire) (x:List UInt8):ZeE [Z9 w,.agg [.str x]]=some (pB (decide (w.name=x))):=by
 show (fun x0 x1=>ZeE [x0,x1]) _ _=_
 rw[ZoA]
 simp only[Z9,List.drop_zero,EVS]
theorem ZtR (l:List PWire) (x:List UInt8) (hl:ZH l):ZgR [.lst (l.map Z9),.str x]=some (pI (ixf (fun w:PWire=>decide (w.name=x)) 0 l)):=by
 unfold ZH at hl
 have g:ZW [.lst (l.map Z9),.tup [.agg [.str x]]]=some (pI (ixf (fun w:PWire=>decide (w.name=x)) 0 l)):=by
  show (fun x0 x1=>ZW [x0,x1]) _ _=_
  rw[ZcF]
  simp only[EVS]
  refine (congrArg (Zf true) (ZdC l (fun w:PWire=>decide (w.name=x)) _ hl (fun again k a hb=> ?_) (fun again=> ?_))).trans ?_
  ·have hk:=Zg hb
   have hi:Zm (.lst (l.map Z9)) (.int .i64 (k:Int))=some (Z9 a):=Zl hb
   have g:=Zqn a x
   simp only[Z9] at g
   simp only[ZY hk,Zk hk hl,hi,Z9,ZnI,List.cons_append,List.nil_append,g,EVS]
  ·simp only[Zav,EVS]
   rfl
  ·simp only[EVS]
 show (fun x0 x1=>ZgR [x0,x1]) _ _=_
 rw[Zsp]
 have lt:∀{R:Type} (l:List PV) (x:Option R),Za [.tup l] x=x:=fun l x=>(Eq.refl _).trans (Eq.refl _)
 simp only[lt,g,List.drop_zero,Bool.not_not,EVS]
theorem ZjB (c:List UInt8) (n:Int) (hc:ZH c):ZbZ [.str c,.agg [pI n]]=some (pB (!ZfQ c n)):=by
 show (fun x0 x1=>ZbZ [x0,x1]) _ _=_
 rw[ZiN]
 simp only[ZtQ c n hc,EVS]
theorem Zbt (l:List (List UInt8)) (n:Int) (hl:ZH l) (hc:∀c∈l,ZH c):Zy [.lst (l.map PV.str),.tup [.agg [pI n]]]=some (pI (ixf (fun c:List UInt8=> !ZfQ c n) 0 l)):=by
 unfold ZH at hl
 show (fun x0 x1=>Zy [x0,x1]) _ _=_
 rw[Zbr]
 simp only[EVS]
 refine (congrArg (Zf true) (ZdC l (fun c:List UInt8=> !ZfQ c n) _ hl (fun again k a hb=> ?_) (fun again=> ?_))).trans ?_
 ·have hk:=Zg hb
  have hi:Zm (.lst (l.map PV.str)) (.int .i64 (k:Int))=some (.str a):=Zl hb
  have g:=ZjB a n (hc a (List.mem_of_getElem? hb))
  simp only[ZY hk,Zk hk hl,hi,ZnI,List.cons_append,List.nil_append,g,EVS]
 ·simp only[Zav,EVS]
  rfl
 ·simp only[EVS]
theorem eqPin (a c:Int) (b d:Bool):eqV (some [(0,TD.int .i64),(1,TD.bool)]) .struct (.agg [pI a,pB b]) (.agg [pI c,pB d])=some (decide (a=c)&&(b==d)):=by
 simp[eqV,ZmW,scEq,ZfK]
theorem ZyD :ZC.bool.pv=pB false:=(Eq.refl _).trans (Eq.refl _)
theorem sp12 (a b c:PV):splice [a,b] 0 [c]=[c,b]:=(Eq.refl _).trans (Eq.refl _)
def ZfR (n:Int) (l:List (List UInt8)):Bool:=(inR n 1 8&&decide ((l.length:Int)≤60))&&Z0 (fun _ c=>ZfQ c n) 0 l
def Ze7 (n:PNet) (k:Nat) (w:PWire):Bool:=
 if decide (w.kind=1)=true then decide ((w.ins.length:Int)=0)
 else if (decide (w.kind=2)||decide (w.kind=3))=true then inR w.ins.length 1 8
 else if decide (w.kind=4)=true then decide ((w.ins.length:Int)=2)
 else if decide (w.kind=5)=true then ZfR n.signals.length w.cover&&(decide ((w.ins.length:Int)=0)||(match w.ins with|[p]=>decide (p.1=(k:Int))&&(p.2==false)|_=>false))
 else false
def Zsi (n:PNet) (k:Nat) (w:PWire):Bool:= !((!decide (w.kind=5)&&decide ((0:Int)<w.cover.length))|| !ZcW w.ins n.wires.length)&&Ze7 n k w
theorem ZtS (h160:∀(n:Int) (l:List (List UInt8)),ZH l→(∀c∈l,ZH c)→ZbI [pI n,.lst (l.map PV.str)]=some (pB (ZfR n l))) (n:PNet) (k:Nat) (w:PWire) (hn:n.Fit) (hk:n.wires[k]?=some w):ZgU [Zz n,pI k]=some (pB (Zsi n k w)):=by
 have hw:=hn.wire w (List.mem_of_getElem? hk)
 have g1:=h160 n.signals.length w.cover hw.cover hw.cubes
 have hwl:=hn.wires
 unfold ZH at hwl
 have g2:=ZlS w.ins n.wires.length hwl hw.ins
 have hi:Zm (.lst (n.wires.map Z9)) (.int .i64 (k:Int))=some (Z9 w):=Zl hk
 show (fun x0 x1=>ZgU [x0,x1]) _ _=_
 rw[Zsu]
 simp only[Zz,hi,Z9,EVS]
 unfold Zsi
 obtain c1|c1:=(Bool.eq_false_or_eq_true (!decide (w.kind=5))).symm<;>simp only[c1,g2,EVS]
 ·obtain c2|c2:=(Bool.eq_false_or_eq_true (ZcW w.ins n.wires.length)).symm<;>simp only[c1,c2,g2,EVS]
  have c5:decide (w.kind=5)=true:=by simpa using c1
  have e1:decide (w.kind=1)=false:=by have:=of_decide_eq_true c5;simp;omega
  have e2:decide (w.kind=2)=false:=by have:=of_decide_eq_true c5;simp;omega
  have e3:decide (w.kind=3)=false:=by have:=of_decide_eq_true c5;simp;omega
  have e4:decide (w.kind=4)=false:=by have:=of_decide_eq_true c5;simp;omega
  simp only[Zeg,Ze7,e1,e2,e3,e4,c5,g1,EVS]
  obtain c3|c3:=(Bool.eq_false_or_eq_true (ZfR n.signals.length w.cover)).symm<;>simp only[c3,EVS]
  have h01:decide ((0:Int)=1)=false:=rfl
  have h00:decide ((0:Int)=0)=true:=rfl
  have h11:decide ((1:Int)=1)=true:=rfl
  have h10:decide ((1:Int)=0)=false:=rfl
  rcases hq:w.ins with _|⟨p,_|⟨q,r⟩⟩
  ·simp only[List.length_nil,h00,EVS]
  ·have hi:Zm (.lst ([p].map ZaB)) (.int .i64 0)=some (ZaB p):=rfl
   simp only[List.length_cons,List.length_nil,Nat.zero_add,h11,h10,hi,ZaB,ZyD,sp12,eqPin,List.drop_zero,List.drop_succ_cons,EVS]
  ·have h2:decide (((r.length+1+1:Nat):Int)=0)=false:=by simp;omega
   have h3:decide (((r.length+1+1:Nat):Int)=1)=false:=by simp;omega
   simp only[List.length_cons,h2,h3,EVS]
 ·have c5:decide (w.kind=5)=false:=by simpa using c1
  obtain c2|c2:=(Bool.eq_false_or_eq_true (decide ((0:Int)<w.cover.length))).symm<;>simp only[c1,c2,g2,EVS]
  obtain c3|c3:=(Bool.eq_false_or_eq_true (ZcW w.ins n.wires.length)).symm<;>simp only[c3,EVS]
  simp only[Zeg,Ze7,c5,EVS]
  obtain e1|e1:=(Bool.eq_false_or_eq_true (decide (w.kind=1))).symm<;>simp only[e1,EVS]
  obtain e2|e2:=(Bool.eq_false_or_eq_true (decide (w.kind=2))).symm<;>simp only[e2,ZaE,EVS]
  obtain e3|e3:=(Bool.eq_false_or_eq_true (decide (w.kind=3))).symm<;>simp only[e3,ZaE,EVS]
  obtain e4|e4:=(Bool.eq_false_or_eq_true (decide (w.kind=4))).symm<;>simp only[e4,EVS]
theorem Zlq (n:Int) (l:List (List UInt8)) (hl:ZH l) (hc:∀c∈l,ZH c):ZbI [pI n,.lst (l.map PV.str)]=some (pB (ZfR n l)):=by
 have g:Zt [.lst (l.map PV.str),.tup [.agg [pI n]]]=some (pB (!Z0 (fun _ c=>ZfQ c n) 0 l)):=by
  show (fun x0 x1=>Zt [x0,x1]) _ _=_
  rw[Za6]
  simp only[Zbt l n hl hc,Ze6 (fun c:List UInt8=> !ZfQ c n) l 0,Bool.not_not,EVS]
 show (fun x0 x1=>ZbI [x0,x1]) _ _=_
 rw[ZkL]
 simp only[ZaE,ZhF,List.drop_zero,ZfR,EVS]
 obtain c1|c1:=(Bool.eq_false_or_eq_true (inR n 1 8)).symm<;>simp only[c1,EVS]
 obtain c2|c2:=(Bool.eq_false_or_eq_true (decide ((l.length:Int)≤60))).symm<;>simp only[c2,ZhF,g,Bool.not_not,EVS]
def Zlr (l:List (List UInt8×Int)) (k:Nat) (s:List UInt8×Int):Bool:=(ZaH s.1&&inR s.2 1 3)&&Z0 (fun _ a=> !decide (a.1=s.1)) 0 (l.take k)
def Zps (l:List (List UInt8×Int)):Bool:=Z0 (Zlr l) 0 l&&inR l.length 1 8
theorem Zh0 (l:List (List UInt8×Int)) (hl:ZH l) (hs:∀s∈l,ZH s.1):ZcG [.lst (l.map Z6)]=some (pB (Zps l)):=by
 unfold ZH at hl
 show (fun x0=>ZcG [x0]) _=_
 rw[Zl4]
 simp only[EVS]
 refine (congrArg (Zf true) (Zab (R:=PV) l (Zlr l) (some (pB false)) (some (pB (inR l.length 1 8))) _ hl (fun again k s hb=> ?_) (fun again=> ?_))).trans ?_
 ·have hk:=Zg hb
  have hi:Zm (.lst (l.map Z6)) (.int .i64 (k:Int))=some (Z6 s):=Zl hb
  have hc:Zl0 2 (.lst (l.map Z6)) none (some (.int .i64 (k:Int)))=some (.lst ((l.take k).map Z6)):=Zmj Zpr (by omega)
  have hn:=ZlR s.1 (hs s (List.mem_of_getElem? hb))
  have g:=Zbo (l.take k) s (by show (l.take k).length≤_;simp;omega)
  simp only[Z6] at g
  simp only[ZY hk,Zk hk hl,hi,Z6,hn,Zlr,EVS]
  obtain c1|c1:=(Bool.eq_false_or_eq_true (ZaH s.1)).symm<;>simp only[c1,ZaE,EVS]
  obtain c2|c2:=(Bool.eq_false_or_eq_true (inR s.2 1 3)).symm<;>simp only[c2,EVS]
  simp only[hc,List.drop_zero,ZhF,g,EVS]
  obtain c3|c3:=(Bool.eq_false_or_eq_true (Z0 (fun _ (a:List UInt8×Int)=> !decide (a.1=s.1)) 0 (l.take k))).symm<;>simp only[c3,EVS]
 ·simp only[Zav,ZaE,EVS]
 ·unfold Zps
  cases Z0 (Zlr l) 0 l<;>simp only[EVS]
def Ze8 (n:PNet) (k:Nat) (w:PWire):Bool:=
 (Zsi n k w&&ZaH w.name&&Z0 (fun _ v=> !decide (v.name=w.name)) 0 (n.wires.take k))&&
 (if decide ((k:Int)<(n.signals.length:Int))=true then Zgd n k w else (decide (w.kind=2)||decide (w.kind=3))&&ZcW w.ins k)
def netI (n:PNet):Bool:=(Zps n.signals&&inR n.wires.length n.signals.length 24)&&Z0 (Ze8 n) 0 n.wires
theorem ZjC (n:PNet) (hn:n.Fit):Zb0 [Zz n]=some (pB (netI n)):=by
 have g1:=Zh0 n.signals hn.signals hn.names
 have hwl:=hn.wires
 unfold ZH at hwl
 show (fun x0=>Zb0 [x0]) _=_
 rw[ZiP]
 simp only[Zz,g1,EVS]
 unfold netI
 obtain c1|c1:=(Bool.eq_false_or_eq_true (Zps n.signals)).symm<;>simp only[c1,ZaE,EVS]
 obtain c2|c2:=(Bool.eq_false_or_eq_true (inR n.wires.length n.signals.length 24)).symm<;>simp only[c2,EVS]
 refine (congrArg (Zf true) (Zab (R:=PV) n.wires (Ze8 n) (some (pB false)) (some (pB true)) _ hwl (fun again k w hb=> ?_) (fun again=> ?_))).trans ?_
 ·have hk:=Zg hb
  have hw:=hn.wire w (List.mem_of_getElem? hb)
  have hi:Zm (.lst (n.wires.map Z9)) (.int .i64 (k:Int))=some (Z9 w):=Zl hb
  have hc:Zl0 4 (.lst (n.wires.map Z9)) none (some (.int .i64 (k:Int)))=some (.lst ((n.wires.take k).map Z9)):=Zmj ZnG (by omega)
  have g2:=ZtS Zlq n k w hn hb
  have g3:=ZlR w.name hw.name
  have g4:=ZtR (n.wires.take k) w.name (by show (n.wires.take k).length≤_;simp;omega)
  have g5:=ZlS w.ins k (by omega) hw.ins
  simp only[Zz] at g2
  simp only[ZY hk,Zk hk hwl,hi,Z9,Ze8,g2,EVS]
  obtain c1|c1:=(Bool.eq_false_or_eq_true (Zsi n k w)).symm<;>simp only[c1,g3,EVS]
  obtain c2|c2:=(Bool.eq_false_or_eq_true (ZaH w.name)).symm<;>simp only[c2,hc,g4,EVS]
  simp only[Ze6 (fun v:PWire=>decide (v.name=w.name)) (n.wires.take k) 0]
  obtain c3|c3:=(Bool.eq_false_or_eq_true (Z0 (fun _ (v:PWire)=> !decide (v.name=w.name)) 0 (n.wires.take k))).symm<;>simp only[c3,Zeg,EVS]
  obtain c4|c4:=(Bool.eq_false_or_eq_true (decide ((k:Int)<(n.signals.length:Int)))).symm<;>simp only[c4,EVS]
  ·obtain c5|c5:=(Bool.eq_false_or_eq_true (decide (w.kind=2))).symm<;>simp only[c5,g5,EVS]
   ·obtain c6|c6:=(Bool.eq_false_or_eq_true (decide (w.kind=3))).symm<;>simp only[c6,g5,EVS]
    obtain c7|c7:=(Bool.eq_false_or_eq_true (ZcW w.ins k)).symm<;>simp only[c7,Zk hk hwl,EVS]
   ·obtain c7|c7:=(Bool.eq_false_or_eq_true (ZcW w.ins k)).symm<;>simp only[c7,Zk hk hwl,EVS]
  ·have hks:k<n.signals.length:=by have:=of_decide_eq_true c4;omega
   have hs:n.signals[k]?=some n.signals[k]:=List.getElem?_eq_getElem hks
   have hi2:Zm (.lst (n.signals.map Z6)) (.int .i64 (k:Int))=some (Z6 n.signals[k]):=Zl hs
   simp only[Zgd,hs,hi2,Z6,List.drop_zero,List.drop_succ_cons,EVS]
   obtain c5|c5:=(Bool.eq_false_or_eq_true (decide (w.name=n.signals[k].1))).symm<;>simp only[c5,hi2,Z6,List.drop_zero,List.drop_succ_cons,EVS]
   obtain c6|c6:=(Bool.eq_false_or_eq_true (decide (w.kind=1)==decide (n.signals[k].2=1))).symm<;>simp only[bne,c6,Zk hk hwl,EVS]
 ·simp only[Zav,EVS]
 ·cases Z0 (Ze8 n) 0 n.wires<;>simp only[EVS]
theorem Zat {α:Type} (q:α→Bool):∀(l:List α) (k:Nat),Z0 (fun _ x=>q x) k l=l.all q
 |[],_=>rfl
 |x::r,k=>by unfold Z0;rw[Zat q r (k+1),List.all_cons]
theorem ZdY {α:Type} (f g:Nat→α→Bool) (h:∀k x,f k x=g k x):∀(l:List α) (k:Nat),Z0 f k l=Z0 g k l
 |[],_=>rfl
 |x::r,k=>by unfold Z0;rw[h k x,ZdY f g h r (k+1)]
theorem Zvg (l:List (List UInt8×Int)):Zi4 l=Zps l:=by
 unfold Zi4 Zps
 rw[ZdY (Zpq l) (Zlr l) (fun k x=> ?_) l 0]
 unfold Zpq Zlr
 rw[ZdY (fun _ (y:List UInt8×Int)=> !decide (x.1=y.1)) (fun _ (y:List UInt8×Int)=> !decide (y.1=x.1)) (fun _ y=>by simp[eq_comm]) _ 0]
theorem ZxQ (n:Int) (l:List (List UInt8)):ZnE n l=ZfR n l:=by
 unfold ZnE ZfR Zmt
 rw[Bool.and_comm,Bool.eq_iff_iff]
 simp only[Bool.and_eq_true]
 refine and_congr_right fun h=> ?_
 rw[ZdY (fun _ c=>ZkC c&&decide ((c.length:Int)=n)) (fun _ c=>ZfQ c n) (fun _ c=> ?_) l 0]
 unfold ZkC ZfQ inR
 rw[Bool.eq_iff_iff]
 simp only[Bool.and_eq_true,decide_eq_true_eq]
 constructor
 ·rintro ⟨⟨h1,h2,h3⟩,h4⟩
  exact ⟨h1,h4,by omega,by omega⟩
 ·rintro ⟨h1,h2,h3,h4⟩
  exact ⟨⟨h1,by omega,by omega⟩,h2⟩
theorem Zwf (n:PNet) (k:Nat) (l:List (Int×Bool)) (h:k<n.signals.length):Z0 (fun _ p=>Zi6 n k p) 0 l=ZcW l n.wires.length:=by
 unfold ZcW
 refine ZdY _ _ (fun _ p=> ?_) l 0
 unfold Zi6
 have:decide ((n.signals.length:Int)≤k)=false:=by simp;omega
 rw[this]
 simp
theorem Zwg (n:PNet) (k:Nat) (l:List (Int×Bool)) (h:¬k<n.signals.length):Z0 (fun _ p=>Zi6 n k p) 0 l=(ZcW l n.wires.length&&ZcW l k):=by
 unfold ZcW
 rw[Zat,Zat,Zat,Bool.eq_iff_iff]
 have:decide ((n.signals.length:Int)≤k)=true:=by simp;omega
 simp only[Bool.and_eq_true,List.all_eq_true,Zi6,inR,this,Bool.true_and,Bool.not_eq_true',decide_eq_true_eq,decide_eq_false_iff_not]
 constructor
 ·intro h
  exact ⟨fun p hp=>(h p hp).1,fun p hp=>⟨(h p hp).1.1,by have:=(h p hp).2;omega⟩⟩
 ·rintro ⟨h1,h2⟩ p hp
  exact ⟨h1 p hp,by have:=(h2 p hp).2;omega⟩
theorem ZyF (n:PNet) (k:Nat) (w:PWire):(inR w.kind 1 5&&((if decide (w.kind=5)=true then ZfR n.signals.length w.cover else !decide ((0:Int)<w.cover.length))&&Zfs k w.kind w.ins))=(!(!decide (w.kind=5)&&decide ((0:Int)<w.cover.length))&&Ze7 n k w):=by
 unfold Zfs Ze7
 by_cases h1:w.kind=1
 ·simp[h1,inR]
 by_cases h2:w.kind=2
 ·simp[h2,inR]
 by_cases h3:w.kind=3
 ·simp[h3,inR]
 by_cases h4:w.kind=4
 ·simp[h4,inR]
 by_cases h5:w.kind=5
 ·obtain ⟨nm,kd,ins,cov⟩:=w
  simp only at h5
  rcases ins with _|⟨p,_|⟨q,r⟩⟩<;>simp[h5,inR]
 ·have:inR w.kind 1 5=false:=by
   unfold inR
   simp only[Bool.and_eq_false_iff,decide_eq_false_iff_not]
   omega
  simp[this,h1,h2,h3,h4,h5]
theorem ZyG (n:PNet) (k:Nat) (w:PWire):ZcO n k w=Ze8 n k w:=by
 unfold ZcO Ze8 ZnF Zsi Zse
 have hf:=ZyF n k w
 rw[ZxQ]
 by_cases hk:k<n.signals.length
 ·have hd:decide ((k:Int)<(n.signals.length:Int))=true:=by simpa using hk
  rw[Zwf n k w.ins hk]
  simp only[hd,if_true,Bool.true_or,Bool.not_true,Bool.false_or,Bool.not_false,Bool.false_eq_true,if_false,Bool.true_and]
  revert hf
  generalize inR w.kind 1 5=a1
  generalize (if decide (w.kind=5)=true then ZfR (↑n.signals.length) w.cover else !decide ((0:Int)<↑w.cover.length))=a2
  generalize Zfs k w.kind w.ins=a3
  generalize (!decide (w.kind=5)&&decide ((0:Int)<w.cover.length))=a4
  generalize Ze7 n k w=a5
  generalize ZcW w.ins n.wires.length=a6
  generalize Zgd n k w=a7
  generalize ZaH w.name=a8
  generalize Z0 (fun _ (v:PWire)=> !decide (v.name=w.name)) 0 (n.wires.take k)=a9
  cases a1<;>cases a2<;>cases a3<;>cases a4<;>cases a5<;>cases a6<;>cases a7<;>cases a8<;>cases a9<;>decide
 ·have hd:decide ((k:Int)<(n.signals.length:Int))=false:=by simpa using hk
  rw[Zwg n k w.ins hk]
  simp only[hd,if_true,Bool.true_or,Bool.not_true,Bool.false_or,Bool.not_false,Bool.false_eq_true,if_false,Bool.true_and]
  revert hf
  generalize inR w.kind 1 5=a1
  generalize (if decide (w.kind=5)=true then ZfR (↑n.signals.length) w.cover else !decide ((0:Int)<↑w.cover.length))=a2
  generalize Zfs k w.kind w.ins=a3
  generalize (!decide (w.kind=5)&&decide ((0:Int)<w.cover.length))=a4
  generalize Ze7 n k w=a5
  generalize ZcW w.ins n.wires.length=a6
  generalize ZaH w.name=a8
  generalize ZcW w.ins k=a7
  generalize decide (w.kind=2)=b2
  generalize decide (w.kind=3)=b3
  generalize Z0 (fun _ (v:PWire)=> !decide (v.name=w.name)) 0 (n.wires.take k)=a9
  cases a1<;>cases a2<;>cases a3<;>cases a4<;>cases a5<;>cases a6<;>cases a7<;>cases a8<;>cases a9<;>cases b2<;>cases b3<;>decide
theorem net_eq (n:PNet):ZfP n=netI n:=by
 unfold ZfP netI
 rw[Zvg,ZdY (ZcO n) (Ze8 n) (fun k x=>ZyG n k x) n.wires 0]
 congr 2
 unfold inR
 rw[Bool.eq_iff_iff]
 simp
def ZgL (b:UInt8):Bool:=decide ((b.toNat:Int)=48)||decide ((b.toNat:Int)=49)
def ZZ (s:List UInt8) (n:Int):Bool:=Z0 (fun _ b=>ZgL b) 0 s&&decide ((s.length:Int)=n)
theorem ZtT (s:List UInt8) (n:Int) (hs:ZH s):Zg2 [.str s,pI n]=some (pB (ZZ s n)):=by
 unfold ZH at hs
 show (fun x0 x1=>Zg2 [x0,x1]) _ _=_
 rw[ZsB]
 refine (congrArg (Zf true) (Zab (R:=PV) s (fun _ b=>ZgL b) (some (pB false)) (some (pB (decide ((s.length:Int)=n)))) _ hs (fun again k b hb=> ?_) (fun again=> ?_))).trans ?_
 ·have hk:=Zg hb
  simp only[ZgL,ZY hk,Zk hk hs,Zs hb,EVS]
  obtain c1|c1:=(Bool.eq_false_or_eq_true (decide ((b.toNat:Int)=48))).symm<;>simp only[c1,Zs hb,EVS]
  obtain c2|c2:=(Bool.eq_false_or_eq_true (decide ((b.toNat:Int)=49))).symm<;>simp only[c2,Zs hb,EVS]
 ·simp only[Zav,EVS]
 ·unfold ZZ
  cases Z0 (fun _ b=>ZgL b) 0 s<;>simp only[EVS]
theorem ZtU (s:List UInt8) (n:Int) (hs:ZH s):ZgX [.str s,pI n]=some (pB (ZZ s n)):=by
 unfold ZH at hs
 show (fun x0 x1=>ZgX [x0,x1]) _ _=_
 rw[Zsy]
 refine (congrArg (Zf true) (Zab (R:=PV) s (fun _ b=>ZgL b) (some (pB false)) (some (pB (decide ((s.length:Int)=n)))) _ hs (fun again k b hb=> ?_) (fun again=> ?_))).trans ?_
 ·have hk:=Zg hb
  simp only[ZgL,ZY hk,Zk hk hs,Zs hb,EVS]
  obtain c1|c1:=(Bool.eq_false_or_eq_true (decide ((b.toNat:Int)=48))).symm<;>simp only[c1,Zs hb,EVS]
  obtain c2|c2:=(Bool.eq_false_or_eq_true (decide ((b.toNat:Int)=49))).symm<;>simp only[c2,Zs hb,EVS]
 ·simp only[Zav,EVS]
 ·unfold ZZ
  cases Z0 (fun _ b=>ZgL b) 0 s<;>simp only[EVS]
def ZeC (n:PNet) (s:List UInt8):Bool:=ZfP n&&ZZ s n.wires.length
def Zdv (p:Int×Bool) (s:List UInt8):Bool:=match s[p.1.toNat]? with|some b=>decide ((b.toNat:Int)=49) !=p.2|none=>false
theorem ZxR {p:Int×Bool} {s:List UInt8} (h0:0≤p.1) (h1:p.1<s.length):∃b:UInt8,s[p.1.toNat]?=some b∧Zaq (.str s) (pI p.1)=some (pU b):=by
 have h2:p.1.toNat<s.length:=by omega
 refine ⟨s[p.1.toNat],List.getElem?_eq_getElem h2, ?_⟩
 have:=Zs (k:=.i64) (List.getElem?_eq_getElem h2)
 rw[Int.toNat_of_nonneg h0] at this
 exact this
theorem ZjD (p:Int×Bool) (s:List UInt8) (h0:0≤p.1) (h1:p.1<s.length):Zd5 [ZaB p,.str s]=some (pB (Zdv p s)):=by
 obtain ⟨b,hb,hv⟩:=ZxR h0 h1
 show (fun x0 x1=>Zd5 [x0,x1]) _ _=_
 rw[ZsH]
 simp only[ZaB,hv,Zdv,hb,bne,EVS]
theorem ZeD (p:Int×Bool) (s:List UInt8) (h0:0≤p.1) (h1:p.1<s.length):Zb2 [ZaB p,.str s]=some (pB (Zdv p s)):=by
 obtain ⟨b,hb,hv⟩:=ZxR h0 h1
 show (fun x0 x1=>Zb2 [x0,x1]) _ _=_
 rw[ZoQ]
 simp only[ZaB,hv,Zdv,hb,bne,EVS]
def ZtV (code:List UInt8) (k:Nat) (b:UInt8):Bool:=decide ((b.toNat:Int)=45)||(match code[k]? with|some c=>decide ((b.toNat:Int)=c.toNat)|none=>false)
def Zl2 (cube code:List UInt8):Bool:=Z0 (ZtV code) 0 cube
theorem ZtW (cube code:List UInt8) (hs:ZH cube) (hl:cube.length≤code.length):Zg6 [.str cube,.str code]=some (pB (Zl2 cube code)):=by
 unfold ZH at hs
 show (fun x0 x1=>Zg6 [x0,x1]) _ _=_
 rw[ZsJ]
 refine (congrArg (Zf true) (Zab (R:=PV) cube (ZtV code) (some (pB false)) (some (pB true)) _ hs (fun again k b hb=> ?_) (fun again=> ?_))).trans ?_
 ·have hk:=Zg hb
  have hc:code[k]?=some code[k]:=List.getElem?_eq_getElem (by omega)
  simp only[ZtV,hc,ZY hk,Zk hk hs,Zs hb,Zs hc,EVS]
  obtain c1|c1:=(Bool.eq_false_or_eq_true (decide ((b.toNat:Int)=45))).symm<;>simp only[c1,Zs hb,Zs hc,EVS]
  obtain c2|c2:=(Bool.eq_false_or_eq_true (decide ((b.toNat:Int)=(code[k].toNat:Int)))).symm<;>simp only[c2,EVS]
 ·simp only[Zav,EVS]
 ·unfold Zl2
  cases Z0 (ZtV code) 0 cube<;>simp only[EVS]
theorem Zqo (cube code:List UInt8) (hs:ZH cube) (hl:cube.length≤code.length):ZeN [.str cube,.str code]=some (pB (Zl2 cube code)):=by
 unfold ZH at hs
 show (fun x0 x1=>ZeN [x0,x1]) _ _=_
 rw[ZoS]
 simp only[EVS]
 refine (congrArg (Zf true) (Zab (R:=PV) cube (ZtV code) (some (pB false)) (some (pB true)) _ hs (fun again k b hb=> ?_) (fun again=> ?_))).trans ?_
 ·have hk:=Zg hb
  have hc:code[k]?=some code[k]:=List.getElem?_eq_getElem (by omega)
  simp only[ZtV,hc,ZY hk,Zk hk hs,Zs hb,Zs hc,EVS]
  obtain c1|c1:=(Bool.eq_false_or_eq_true (decide ((b.toNat:Int)=45))).symm<;>simp only[c1,Zs hb,Zs hc,EVS]
  obtain c2|c2:=(Bool.eq_false_or_eq_true (decide ((b.toNat:Int)=(code[k].toNat:Int)))).symm<;>simp only[c2,EVS]
 ·simp only[Zav,EVS]
 ·unfold Zl2
  cases Z0 (ZtV code) 0 cube<;>simp only[EVS]
def inP (l:List (List UInt8)) (code:List UInt8):Bool:= !Z0 (fun _ c=> !Zl2 c code) 0 l
theorem Zwh (l:List (List UInt8)) (code:List UInt8) (hl:ZH l) (hc:∀c∈l,ZH c∧c.length≤code.length):ZiG [.lst (l.map PV.str),.str code]=some (pB (inP l code)):=by
 unfold ZH at hl
 show (fun x0 x1=>ZiG [x0,x1]) _ _=_
 rw[Zug]
 simp only[EVS]
 refine (congrArg (Zf true) (Zab (R:=PV) l (fun _ c=> !Zl2 c code) (some (pB true)) (some (pB false)) _ hl (fun again k s hb=> ?_) (fun again=> ?_))).trans ?_
 ·have hk:=Zg hb
  have hi:Zm (.lst (l.map PV.str)) (.int .i64 (k:Int))=some (.str s):=Zl hb
  have hh:=hc s (List.mem_of_getElem? hb)
  have g:=ZtW s code hh.1 hh.2
  simp only[ZY hk,Zk hk hl,hi,g,EVS]
  obtain c1|c1:=(Bool.eq_false_or_eq_true (Zl2 s code)).symm<;>simp only[c1,EVS]
 ·simp only[Zav,EVS]
 ·unfold inP
  cases Z0 (fun _ c=> !Zl2 c code) 0 l<;>simp only[EVS]
theorem ZtX (l:List (List UInt8)) (code:List UInt8) (hl:ZH l) (hc:∀c∈l,ZH c∧c.length≤code.length):Zhe [.lst (l.map PV.str),.str code]=some (pB (inP l code)):=by
 have g0:ZN [.lst (l.map PV.str),.tup [.agg [.str code]]]=some (pI (ixf (fun c:List UInt8=>Zl2 c code) 0 l)):=by
  unfold ZH at hl
  show (fun x0 x1=>ZN [x0,x1]) _ _=_
  rw[Zcn]
  simp only[EVS]
  refine (congrArg (Zf true) (ZdC l (fun c:List UInt8=>Zl2 c code) _ hl (fun again k a hb=> ?_) (fun again=> ?_))).trans ?_
  ·have hk:=Zg hb
   have hi:Zm (.lst (l.map PV.str)) (.int .i64 (k:Int))=some (.str a):=Zl hb
   have hh:=hc a (List.mem_of_getElem? hb)
   have g:ZeO [.str a,.agg [.str code]]=some (pB (Zl2 a code)):=by
    show (fun x0 x1=>ZeO [x0,x1]) _ _=_
    rw[ZoU]
    simp only[Zqo a code hh.1 hh.2,EVS]
   simp only[ZY hk,Zk hk hl,hi,ZnI,List.cons_append,List.nil_append,g,EVS]
  ·simp only[Zav,EVS]
   rfl
  ·simp only[EVS]
 have g1:ZF [.lst (l.map PV.str),.tup [.agg [.str code]]]=some (pB (inP l code)):=by
  show (fun x0 x1=>ZF [x0,x1]) _ _=_
  rw[ZbT]
  simp only[g0,inP,Ze6 (fun c:List UInt8=>Zl2 c code) l 0,EVS]
 show (fun x0 x1=>Zhe [x0,x1]) _ _=_
 rw[ZsN]
 simp only[ZhF,List.drop_zero,g1,EVS]
def ZtY (l:List (Int×Bool)) (s:List UInt8):Prop:=∀p∈l,0≤p.1∧p.1<s.length
theorem Zcb (l:List (Int×Bool)) (s:List UInt8) (hl:ZH l) (hp:ZtY l s):ZI [.lst (l.map ZaB),.tup [.agg [.str s]]]=some (pB (!Z0 (fun _ p=>Zdv p s) 0 l)):=by
 have g0:ZQ [.lst (l.map ZaB),.tup [.agg [.str s]]]=some (pI (ixf (fun p:Int×Bool=> !Zdv p s) 0 l)):=by
  unfold ZH at hl
  show (fun x0 x1=>ZQ [x0,x1]) _ _=_
  rw[Zcu]
  simp only[EVS]
  refine (congrArg (Zf true) (ZdC l (fun p:Int×Bool=> !Zdv p s) _ hl (fun again k a hb=> ?_) (fun again=> ?_))).trans ?_
  ·have hk:=Zg hb
   have hi:Zm (.lst (l.map ZaB)) (.int .i64 (k:Int))=some (ZaB a):=Zl hb
   have hh:=hp a (List.mem_of_getElem? hb)
   have g:=ZeD a s hh.1 hh.2
   simp only[ZaB] at g
   have g':ZdL [ZaB a,.agg [.str s]]=some (pB (!Zdv a s)):=by
    show (fun x0 x1=>ZdL [x0,x1]) _ _=_
    rw[Zmb]
    simp only[ZaB,g,EVS]
   simp only[ZaB] at g'
   simp only[ZY hk,Zk hk hl,hi,ZaB,ZnI,List.cons_append,List.nil_append,g',EVS]
  ·simp only[Zav,EVS]
   rfl
  ·simp only[EVS]
 show (fun x0 x1=>ZI [x0,x1]) _ _=_
 rw[Zb4]
 simp only[g0,Ze6 (fun p:Int×Bool=> !Zdv p s) l 0,Bool.not_not,EVS]
theorem Zcc (l:List (Int×Bool)) (s:List UInt8) (hl:ZH l) (hp:ZtY l s):ZJ [.lst (l.map ZaB),.tup [.agg [.str s]]]=some (pB (!Z0 (fun _ p=> !Zdv p s) 0 l)):=by
 have g0:ZR [.lst (l.map ZaB),.tup [.agg [.str s]]]=some (pI (ixf (fun p:Int×Bool=>Zdv p s) 0 l)):=by
  unfold ZH at hl
  show (fun x0 x1=>ZR [x0,x1]) _ _=_
  rw[Zcw]
  simp only[EVS]
  refine (congrArg (Zf true) (ZdC l (fun p:Int×Bool=>Zdv p s) _ hl (fun again k a hb=> ?_) (fun again=> ?_))).trans ?_
  ·have hk:=Zg hb
   have hi:Zm (.lst (l.map ZaB)) (.int .i64 (k:Int))=some (ZaB a):=Zl hb
   have hh:=hp a (List.mem_of_getElem? hb)
   have g:=ZeD a s hh.1 hh.2
   simp only[ZaB] at g
   have g':ZdM [ZaB a,.agg [.str s]]=some (pB (Zdv a s)):=by
    show (fun x0 x1=>ZdM [x0,x1]) _ _=_
    rw[Zmd]
    simp only[ZaB,g,EVS]
   simp only[ZaB] at g'
   simp only[ZY hk,Zk hk hl,hi,ZaB,ZnI,List.cons_append,List.nil_append,g',EVS]
  ·simp only[Zav,EVS]
   rfl
  ·simp only[EVS]
 show (fun x0 x1=>ZJ [x0,x1]) _ _=_
 rw[Zb6]
 simp only[g0,Ze6 (fun p:Int×Bool=>Zdv p s) l 0,EVS]
def Zl3 (s:List UInt8) (k:Nat):Bool:=match s[k]? with|some b=>decide ((b.toNat:Int)=49)|none=>false
def Zvh (n:PNet) (s:List UInt8) (k:Nat) (w:PWire):Bool:=
 if decide (w.kind=5)=true then inP w.cover (s.take n.signals.length)
 else if decide (w.kind=4)=true then (match w.ins with|[p,q]=>if (Zdv p s !=Zdv q s)=true then Zdv p s else Zl3 s k|_=>Zl3 s k)
 else Zl3 s k
def Zh1 (n:PNet) (s:List UInt8) (k:Nat) (w:PWire):Bool:=
 if decide (w.kind=2)=true then Z0 (fun _ p=>Zdv p s) 0 w.ins
 else if decide (w.kind=3)=true then !Z0 (fun _ p=> !Zdv p s) 0 w.ins
 else Zvh n s k w
theorem ZnJ (s:List UInt8) (k:Nat) (h:k≤s.length):Zhs (.str s) none (some (pI (k:Int)))=some (.str (s.take k)):=by
 have:(0:Int)≤(k:Int)∧(k:Int)≤(s.length:Int):=by omega
 simp[Zhs,Zk8,ZpP,this]
structure At (n:PNet) (s:List UInt8) (k:Nat) (w:PWire):Prop where
 fit:n.Fit
 here:n.wires[k]?=some w
 wire:w.Fit
 fits:ZH s
 lt:k<s.length
 sig:n.signals.length≤s.length
 pins:ZtY w.ins s
 cubes:w.kind=5→∀c∈w.cover,c.length≤n.signals.length
 two:w.kind=4→w.ins.length=2
theorem loop3 {l:List (Int×Bool)} (s:List UInt8) (E:Bool→Bool→Bool) (f:(List PV→Option PV)→List PV→Option PV) (hl:l.length≤9223372036854775807)
 (h1:∀again (a b:Bool) (k:Nat) x,l[k]?=some x→f again [pB a,pB b,pI (k:Int)]=again [pB (a&&Zdv x s),pB (b||Zdv x s),pI ((k+1:Nat):Int)])
 (h2:∀again (a b:Bool) (k:Nat),¬k<l.length→f again [pB a,pB b,pI (k:Int)]=some (pB (E a b))):
 Zp f 18446744073709551616 [pB true,pB false,pI (0:Int)]=some (pB (E (Z0 (fun _ p=>Zdv p s) 0 l) (!Z0 (fun _ p=> !Zdv p s) 0 l))):=by
 have key:=Zbb (R:=PV) (fun t:Bool×Bool×Nat=>[pB t.1,pB t.2.1,pI (t.2.2:Int)]) (fun t=>l.length+1 - t.2.2) (fun t=>some (pB (E (t.1&&(l.drop t.2.2).all fun p=>Zdv p s) (t.2.1|| !(l.drop t.2.2).all fun p=> !Zdv p s)))) f (fun again t ih=> ?_) 18446744073709551616 (true,false,0) (by simp only;omega)
 ·simp only[Bool.true_and,Bool.false_or,List.drop_zero] at key
  rw[Zat,Zat]
  exact key
 ·obtain ⟨a,b,k⟩:=t
  dsimp only at ih⊢
  by_cases hk:k<l.length
  ·have hx:l[k]?=some l[k]:=List.getElem?_eq_getElem hk
   rw[h1 again a b k _ hx,ih (_,_,k+1) (by simp only;omega),List.drop_eq_getElem_cons hk]
   simp only[List.all_cons,Bool.and_assoc]
   cases Zdv l[k] s<;>simp
  ·rw[h2 again a b k hk,List.drop_eq_nil_of_le (by omega)]
   simp
theorem ZlT (n:PNet) (s:List UInt8) (k:Nat) (w:PWire) (h:At n s k w):Zer [Zz n,.str s,pI k]=some (pB (Zh1 n s k w)):=by
 have hi:Zm (.lst (n.wires.map Z9)) (.int .i64 (k:Int))=some (Z9 w):=Zl h.here
 have hil:=h.wire.ins
 unfold ZH at hil
 show (fun x0 x1 x2=>Zer [x0,x1,x2]) _ _ _=_
 rw[ZqN]
 simp only[Zz,hi,Z9,EVS]
 refine (congrArg (Zf true) (loop3 (l:=w.ins) s (fun a b=>if decide (w.kind=2)=true then a else if decide (w.kind=3)=true then b else Zvh n s k w) _ hil (fun again a b j p hb=> ?_) (fun again a b j hj=> ?_))).trans ?_
 ·have hk:=Zg hb
  have hi2:Zm (.lst (w.ins.map ZaB)) (.int .i64 (j:Int))=some (ZaB p):=Zl hb
  have hp:=h.pins p (List.mem_of_getElem? hb)
  have g:=ZjD p s hp.1 hp.2
  simp only[ZaB] at g
  simp only[ZY hk,Zk hk hil,hi2,ZaB,g,EVS]
  cases a<;>cases b<;>simp only[EVS]
 ·have hlt:decide ((j:Int)<(w.ins.length:Int))=false:=by simp;omega
  simp only[hlt,EVS]
  obtain c1|c1:=(Bool.eq_false_or_eq_true (decide (w.kind=2))).symm<;>simp only[c1,EVS]
  obtain c2|c2:=(Bool.eq_false_or_eq_true (decide (w.kind=3))).symm<;>simp only[c2,EVS]
  have hone:Zl3 s k=decide ((s[k]'h.lt).toNat=(49:Int)):=by unfold Zl3;rw[List.getElem?_eq_getElem h.lt]
  have hbv:Zaq (.str s) (.int .i64 (k:Int))=some (pU (s[k]'h.lt)):=Zs (List.getElem?_eq_getElem h.lt)
  unfold Zvh
  obtain c5|c5:=(Bool.eq_false_or_eq_true (decide (w.kind=5))).symm<;>simp only[c5,EVS]
  ·obtain c4|c4:=(Bool.eq_false_or_eq_true (decide (w.kind=4))).symm<;>simp only[c4,Zeg,hbv,hone,EVS]
   have h2:=h.two (of_decide_eq_true c4)
   have hpins:=h.pins
   revert h2 hpins
   rcases w.ins with _|⟨p,_|⟨q,_|⟨r,t⟩⟩⟩
   ·intro h2;simp at h2
   ·intro h2;simp at h2
   ·intro _ hpins
    have i0:Zm (.lst ([p,q].map ZaB)) (.int .i64 0)=some (ZaB p):=rfl
    have i1:Zm (.lst ([p,q].map ZaB)) (.int .i64 1)=some (ZaB q):=rfl
    have hp:=hpins p (by simp)
    have hq:=hpins q (by simp)
    have g1:=ZjD p s hp.1 hp.2
    have g2:=ZjD q s hq.1 hq.2
    simp only[ZaB] at g1 g2
    simp only[i0,i1,ZaB,g1,g2,EVS]
    cases Zdv p s<;>cases Zdv q s<;>simp[bne,hbv,ZuC]
   ·intro h2;simp at h2
  ·have hc:=Zwh w.cover (s.take n.signals.length) h.wire.cover (fun c hc=>⟨h.wire.cubes c hc,by have:=h.cubes (of_decide_eq_true c5) c hc;have:=h.sig;simp;omega⟩)
   simp only[ZnJ s _ h.sig,hc,EVS]
 ·simp only[Zh1,EVS]
theorem ZkD (n:PNet) (s:List UInt8) (k:Nat) (w:PWire) (h:At n s k w):ZdN [Zz n,.str s,pI k]=some (pB (Zh1 n s k w)):=by
 have hi:Zm (.lst (n.wires.map Z9)) (.int .i64 (k:Int))=some (Z9 w):=Zl h.here
 have g2:=Zcb w.ins s h.wire.ins h.pins
 have g3:=Zcc w.ins s h.wire.ins h.pins
 have hone:Zl3 s k=decide ((s[k]'h.lt).toNat=(49:Int)):=by unfold Zl3;rw[List.getElem?_eq_getElem h.lt]
 have hbv:Zaq (.str s) (.int .i64 (k:Int))=some (pU (s[k]'h.lt)):=Zs (List.getElem?_eq_getElem h.lt)
 show (fun x0 x1 x2=>ZdN [x0,x1,x2]) _ _ _=_
 rw[ZoV]
 simp only[Zz,hi,Z9,EVS]
 unfold Zh1
 obtain c2|c2:=(Bool.eq_false_or_eq_true (decide (w.kind=2))).symm<;>simp only[c2,ZhF,List.drop_zero,g2,Bool.not_not,EVS]
 obtain c3|c3:=(Bool.eq_false_or_eq_true (decide (w.kind=3))).symm<;>simp only[c3,ZhF,List.drop_zero,g3,Bool.not_not,EVS]
 unfold Zvh
 obtain c4|c4:=(Bool.eq_false_or_eq_true (decide (w.kind=4))).symm<;>simp only[c4,Zeg,EVS]
 ·obtain c5|c5:=(Bool.eq_false_or_eq_true (decide (w.kind=5))).symm<;>simp only[c5,hbv,hone,EVS]
  have hc:=ZtX w.cover (s.take n.signals.length) h.wire.cover (fun c hc=>⟨h.wire.cubes c hc,by have:=h.cubes (of_decide_eq_true c5) c hc;have:=h.sig;simp;omega⟩)
  simp only[ZnJ s _ h.sig,hc,EVS]
 ·have c5:decide (w.kind=5)=false:=by have:=of_decide_eq_true c4;simp;omega
  have h2:=h.two (of_decide_eq_true c4)
  have hpins:=h.pins
  simp only[c5,hone,EVS]
  revert h2 hpins
  rcases w.ins with _|⟨p,_|⟨q,_|⟨r,t⟩⟩⟩
  ·intro h2;simp at h2
  ·intro h2;simp at h2
  ·intro _ hpins
   have i0:Zm (.lst ([p,q].map ZaB)) (.int .i64 0)=some (ZaB p):=rfl
   have i1:Zm (.lst ([p,q].map ZaB)) (.int .i64 1)=some (ZaB q):=rfl
   have hp:=hpins p (by simp)
   have hq:=hpins q (by simp)
   have g1:=ZeD p s hp.1 hp.2
   have g2:=ZeD q s hq.1 hq.2
   simp only[ZaB] at g1 g2
   simp only[i0,i1,ZaB,g1,g2,EVS]
   cases Zdv p s<;>cases Zdv q s<;>simp[bne,hbv,ZuC,ZpN]
  ·intro h2;simp at h2
theorem ZkE {α:Type} (q:Nat→α→Bool):∀(l:List α) (j:Nat),Z0 q j l=true→∀(i:Nat) (x:α),l[i]?=some x→q (j+i) x=true
 |[],j,_,i,x,hx=>by simp at hx
 | y::r,j,h,i,x,hx=>by
  unfold Z0 at h
  rw[Bool.and_eq_true] at h
  cases i with
  |zero=>simp at hx;subst hx;simpa using h.1
  | succ i=>
   have:=ZkE q r (j+1) h.2 i x (by simpa using hx)
   rw[show j+(i+1)=j+1+i by omega]
   exact this
theorem ZnK {α:Type} (q:α→Bool) {l:List α} (h:Z0 (fun _ x=>q x) 0 l=true) {x:α} (hx:x∈l):q x=true:=by
 rw[Zat] at h
 exact List.all_eq_true.1 h x hx
def Zfg (u:Bool):UInt8:=if u=true then 49 else 48
theorem Zwi (u:Bool):ZgL (Zfg u)=true:=by cases u<;>decide
theorem ZiA (u:Bool):Zd3 [pB u]=some (.str [Zfg u]):=by
 show (fun x0=>Zd3 [x0]) _=_
 rw[Zt7]
 cases u<;>simp only[EVS]<;>rfl
theorem Zvi (u:Bool):ZkT [pB u]=some (pU (Zfg u)):=by
 show (fun x0=>ZkT [x0]) _=_
 rw[ZxV]
 cases u<;>simp only[EVS]<;>rfl
theorem Zvj {α:Type} (c:List α) (i:Nat) (b:α) (h:i<c.length):c.take i++[b]++c.drop (i+1)=c.set i b:=by
 rw[List.set_eq_take_append_cons_drop,if_pos h,List.append_assoc]
 rfl
theorem ZiB (c:List UInt8) (i:Nat) (b:UInt8) (h:i<c.length) (hc:ZH c):Zd4 [.str c,pI i,.str [b]]=some (.str (c.set i b)):=by
 unfold ZH at hc
 have h1:Zhs (.str c) none (some (.int .i64 (i:Int)))=some (.str (c.take i)):=Zo1 (by omega)
 have h2:Zhs (.str c) (some (.int .i64 ((i+1:Nat):Int))) none=some (.str (c.drop (i+1))):=Zo2 (by omega)
 show (fun x0 x1 x2=>Zd4 [x0,x1,x2]) _ _ _=_
 rw[Zt8]
 have h3:Ze .add TD.str (.str (c.take i)) (.str [b])=some (.str (c.take i++[b])):=Zk2 (by simp;omega)
 have h4:Ze .add TD.str (.str (c.take i++[b])) (.str (c.drop (i+1)))=some (.str (c.take i++[b]++c.drop (i+1))):=Zk2 (by simp;omega)
 simp only[h1,Zk h hc,h2,h3,h4,Zvj c i b h,EVS]
theorem Zch {s:List UInt8} {n:Nat}:ZZ s n=true↔(∀b∈s,ZgL b=true)∧s.length=n:=by
 unfold ZZ
 rw[Zat,Bool.and_eq_true,List.all_eq_true,decide_eq_true_eq]
 constructor
 ·rintro ⟨h1,h2⟩;exact ⟨h1,by omega⟩
 ·rintro ⟨h1,h2⟩;exact ⟨h1,by omega⟩
theorem ZnL {v:List UInt8} {N k:Nat} (h:ZZ v N=true) (u:Bool):ZZ (v.set k (Zfg u)) N=true:=by
 rw[Zch] at h⊢
 refine ⟨fun b hb=> ?_,by simpa using h.2⟩
 rcases List.mem_or_eq_of_mem_set hb with hb|rfl
 ·exact h.1 b hb
 ·exact Zwi u
theorem ZnM {c:List UInt8} {m N:Nat} (h:ZZ c m=true) (hm:m≤N):ZZ (c++List.replicate (N - m) 48) N=true:=by
 rw[Zch] at h⊢
 refine ⟨fun b hb=> ?_,by simp[h.2];omega⟩
 rcases List.mem_append.1 hb with hb|hb
 ·exact h.1 b hb
 ·obtain ⟨_,rfl⟩:=List.mem_replicate.1 hb;decide
theorem ZxS (b:UInt8):ZgL b=true↔b=48∨b=49:=by
 unfold ZgL
 rw[Bool.or_eq_true,decide_eq_true_eq,decide_eq_true_eq]
 have h48:(48:UInt8).toNat=48:=rfl
 have h49:(49:UInt8).toNat=49:=rfl
 constructor
 ·rintro (h|h)
  ·exact .inl (UInt8.toNat_inj.1 (by omega))
  ·exact .inr (UInt8.toNat_inj.1 (by omega))
 ·rintro (rfl|rfl)
  ·exact .inl rfl
  ·exact .inr rfl
theorem ZxT (n:PNet) (s:List UInt8) (k:Nat) (hn:n.Fit) (hs:ZH s) (hv:ZeC n s=true) (hk:k<n.wires.length):At n s k n.wires[k]:=by
 unfold ZeC ZfP ZZ at hv
 simp only[Bool.and_eq_true,decide_eq_true_eq,Bool.not_eq_true',decide_eq_false_iff_not] at hv
 obtain ⟨⟨⟨h1,h2,h3⟩,h4⟩,h5,h6⟩:=hv
 have hx:n.wires[k]?=some n.wires[k]:=List.getElem?_eq_getElem hk
 have hw:=ZkE _ _ _ h4 k _ hx
 rw[Nat.zero_add] at hw
 unfold ZcO ZnF Zse at hw
 simp only[Bool.and_eq_true] at hw
 obtain ⟨⟨⟨⟨hkd,_⟩,hcov⟩,_,hpins,hform⟩,_⟩:=hw
 refine ⟨hn,hx,hn.wire _ (List.getElem_mem hk),hs,by omega,by omega,fun p hp=> ?_,fun hk5 c hc=> ?_,fun hk4=> ?_⟩
 ·have:=ZnK (fun p=>Zi6 n k p) hpins hp
  unfold Zi6 inR at this
  simp only[Bool.and_eq_true,decide_eq_true_eq] at this
  omega
 ·rw[if_pos (by simp[hk5])] at hcov
  unfold ZnE Zmt at hcov
  simp only[Bool.and_eq_true] at hcov
  have:=ZnK (fun c=>ZkC c&&decide ((c.length:Int)=n.signals.length)) hcov.1 hc
  simp only[Bool.and_eq_true,decide_eq_true_eq] at this
  omega
 ·unfold Zfs at hform
  rw[if_neg (by simp[hk4]),if_pos (by simp[hk4])] at hform
  simp only[decide_eq_true_eq] at hform
  omega
theorem ZyH (s:List UInt8) (h:s.length≤9223372036854775807):Zo8 (.str s)=some (.lst (s.map pU)):=by
 unfold Zo8
 simp only
 rw[if_pos h]
theorem Zqp {α:Type} (f:α→PV) (l:List α) (i:Nat) (x:α):(l.map f).set i (f x)=(l.set i x).map f:=by rw[List.map_set]
structure PArc where
 from_:Int
 sig:Int
 up:Bool
 to_:Int
structure PSG where
 signals:List (List UInt8×Int)
 codes:List (List UInt8)
 arcs:List PArc
def Zap (a:PArc):PV:=.agg [pI a.from_,pI a.sig,pB a.up,pI a.to_]
def eSG (c:PSG):PV:=.agg [.lst (c.signals.map Z6),.lst (c.codes.map PV.str),.lst (c.arcs.map Zap)]
structure SGFit (c:PSG):Prop where
 sigs:ZH c.signals
 names:∀s∈c.signals,ZH s.1
 codes:ZH c.codes
 each:∀x∈c.codes,ZH x
 arcs:ZH c.arcs
def Zft (n:Int) (sig:Int) (up:Bool):Bool:=inR sig 0 (n - 1)||(decide (sig= -1)&& !up)
theorem Zsj (sig:Int) (up:Bool) (n:Nat) (hn:n≤9223372036854775807):Zfx [.agg [pI sig,pB up],pI n]=some (pB (Zft n sig up)):=by
 have g:=ZbE sig 0 ((n:Int) - 1)
 have gi:inR sig 0 ((n:Int) - 1)=(decide ((0:Int)≤sig)&&decide (sig≤(n:Int) - 1)):=rfl
 rw[←gi] at g
 have hw:IntKind.i64.wrap ((n:Int) - 1)=(n:Int) - 1:=Zda (by omega) (by omega)
 show (fun x0 x1=>Zfx [x0,x1]) _ _=_
 rw[ZqC]
 unfold Zft
 simp only[hw,g,EVS]
 cases inR sig 0 ((n:Int) - 1)<;>simp only[EVS]
 rw[show Int.negSucc 0=(-1:Int) from rfl]
 cases decide (sig= -1)<;>simp only[EVS]
theorem ZtZ (sig:Int) (up:Bool) (n:Nat) (hn:n≤9223372036854775807):ZgW [.agg [pI sig,pB up],pI n]=some (pB (Zft n sig up)):=by
 have g:=ZaE sig 0 ((n:Int) - 1)
 have hw:IntKind.i64.wrap ((n:Int) - 1)=(n:Int) - 1:=Zda (by omega) (by omega)
 have he:eqV (some [(0,TD.int IntKind.i64),(1,TD.bool)]) TD.struct (.agg [pI sig,pB up]) (.agg [pI (-1),pB false])=some (decide (sig= -1)&& !up):=by
  rw[eqPin];cases up<;>rfl
 show (fun x0 x1=>ZgW [x0,x1]) _ _=_
 rw[Zsw]
 unfold Zft
 simp only[hw,g,EVS]
 cases inR sig 0 ((n:Int) - 1)<;>simp only[EVS]
 rw[show Int.negSucc 0=(-1:Int) from rfl]
 have hsp:splice [ZC.pv (.int .i64),ZC.pv .bool] 0 [pI (-1)]=[pI (-1),pB false]:=rfl
 simp only[hsp,he,EVS]
def ZkF (sig:Int) (up:Bool) (x y:List UInt8):Bool:=
 if decide (sig<0)=true then decide (x=y) else decide (x=y.set sig.toNat (Zfg (!up)))&&decide (y=x.set sig.toNat (Zfg up))
def Zi7 (sig:Int) (up:Bool) (y:List UInt8) (k:Nat) (b:UInt8):Bool:=
 if decide ((k:Int)=sig)=true then !(decide ((b.toNat:Int)=49)==up)&&decide (((y.getD k 0).toNat:Int)=49)==up else decide ((b.toNat:Int)=(y.getD k 0).toNat)
theorem Zt0 :(false==false)=true:=rfl
theorem Zt1 :(false==true)=false:=rfl
theorem Zt2 :(true==false)=false:=rfl
theorem Zt3 :(true==true)=true:=rfl
theorem bbn (a b:Bool):Ze .neq TD.bool (.bool a) (.bool b)=some (.bool (!(a==b))):=rfl
theorem Zox (a:PArc) (x y:List UInt8) (hx:ZH x) (hl:y.length=x.length):Zeb [Zap a,.str x,.str y]=some (pB (Z0 (Zi7 a.sig a.up y) 0 x)):=by
 unfold ZH at hx
 show (fun x0 x1 x2=>Zeb [x0,x1,x2]) _ _ _=_
 rw[ZnW]
 simp only[Zap,EVS]
 refine (congrArg (fun m:Option PV=>m.bind fun r=>if r.sc=true then some r else none) (Zab (R:=PV) x (Zi7 a.sig a.up y) (some (pB false)) (some (pB true)) _ hx (fun again k b hb=> ?_) (fun again=> ?_))).trans ?_
 ·have hk:=Zg hb
  have hy:y[k]?=some (y.getD k 0):=by rw[List.getD_eq_getElem?_getD,List.getElem?_eq_getElem (by omega)];rfl
  have b1:=Zs (k:=.i64) hb
  have b2:=Zs (k:=.i64) hy
  unfold Zi7
  simp only[ZY hk,Zk hk hx,b1,b2,EVS]
  cases c1:decide ((k:Int)=a.sig)
  ·simp only[c1,ZY hk,Zk hk hx,b1,b2,EVS]
   cases decide ((b.toNat:Int)=(y.getD k 0).toNat)<;>simp only[EVS]
  ·simp only[c1,ZY hk,Zk hk hx,b1,b2,EVS]
   cases decide ((b.toNat:Int)=49)<;>cases c3:decide (((y.getD k 0).toNat:Int)=49)<;>cases a.up<;>first|rfl|(simp only[Zt0,Zt1,Zt2,Zt3,b1,b2,EVS];done)|(simp only[Zt0,Zt1,Zt2,Zt3,b1,b2,EVS];rfl)|(simp only[Zt0,Zt1,Zt2,Zt3,bbn,b1,b2,c3,EVS];done)
 ·simp only[Zav,EVS]
 ·cases Z0 (Zi7 a.sig a.up y) 0 x<;>simp only[EVS]<;>rfl
theorem ZnN {α:Type} (q:Nat→α→Bool):∀(l:List α) (j:Nat),Z0 q j l=true↔∀(i:Nat) (x:α),l[i]?=some x→q (j+i) x=true
 |[],j=>by simp[Z0]
 | y::r,j=>by
  refine ⟨fun h=>ZkE q (y::r) j h,fun h=> ?_⟩
  unfold Z0
  rw[Bool.and_eq_true]
  refine ⟨by simpa using h 0 y rfl,(ZnN q r (j+1)).2 fun i x hx=> ?_⟩
  have:=h (i+1) x (by simpa using hx)
  rw[show j+(i+1)=j+1+i by omega] at this
  exact this
theorem Zvk {b:UInt8} (h:ZgL b=true):b=Zfg (decide ((b.toNat:Int)=49)):=by
 unfold ZgL at h
 simp only[Bool.or_eq_true,decide_eq_true_eq,Bool.and_eq_true,Bool.not_eq_true',decide_eq_false_iff_not] at h
 by_cases c:(b.toNat:Int)=49
 ·simp only[c,decide_true]
  apply UInt8.toNat_inj.1
  show b.toNat=49
  omega
 ·simp only[c,decide_false]
  apply UInt8.toNat_inj.1
  show b.toNat=48
  omega
theorem Zvl {x:List UInt8} {n:Int} (h:ZZ x n=true) {i:Nat} {b:UInt8} (hi:x[i]?=some b):ZgL b=true:=by
 unfold ZZ at h
 rw[Bool.and_eq_true] at h
 exact ZnK ZgL h.1 (List.mem_of_getElem? hi)
theorem Zge {x:List UInt8} {n:Nat} (h:ZZ x n=true):x.length=n:=by
 unfold ZZ at h
 rw[Bool.and_eq_true,decide_eq_true_eq] at h
 omega
theorem Zqq {a b:UInt8}:(a.toNat:Int)=b.toNat↔a=b:=by
 rw[Int.ofNat_inj,UInt8.toNat_inj]
theorem ZyI (sig:Int) (up:Bool) (x y:List UInt8) (n:Nat) (hx:ZZ x n=true) (hy:ZZ y n=true) (he:Zft n sig up=true):Z0 (Zi7 sig up y) 0 x=ZkF sig up x y:=by
 have lx:=Zge hx
 have ly:=Zge hy
 rw[Bool.eq_iff_iff,ZnN]
 unfold Zft inR at he
 simp only[Bool.or_eq_true,Bool.and_eq_true,decide_eq_true_eq,Bool.not_eq_true'] at he
 have gy:∀i b,x[i]?=some b→y[i]?=some (y.getD i 0):=fun i b hb=>by
  have:=(List.getElem?_eq_some_iff.1 hb).1
  rw[List.getD_eq_getElem?_getD,List.getElem?_eq_getElem (by omega)];rfl
 unfold ZkF
 by_cases c:sig<0
 ·simp only[c,decide_true,if_true,decide_eq_true_eq]
  constructor
  ·intro h
   apply List.ext_getElem (by omega)
   intro i h1 h2
   have:=h i x[i] (List.getElem?_eq_getElem h1)
   unfold Zi7 at this
   have d:decide (((0+i:Nat):Int)=sig)=false:=by simp only[decide_eq_false_iff_not];omega
   rw[d] at this
   simp only[Nat.zero_add,Bool.false_eq_true,if_false,decide_eq_true_eq,Zqq] at this
   rw[this,List.getD_eq_getElem?_getD,List.getElem?_eq_getElem h2];rfl
  ·rintro rfl i b hb
   unfold Zi7
   have d:decide (((0+i:Nat):Int)=sig)=false:=by simp only[decide_eq_false_iff_not];omega
   rw[d]
   simp only[Nat.zero_add,Bool.false_eq_true,if_false,decide_eq_true_eq,Zqq]
   rw[List.getD_eq_getElem?_getD,hb];rfl
 ·obtain ⟨s,rfl⟩:=Int.eq_ofNat_of_zero_le (show 0≤sig by omega)
  have hs:s<n:=by omega
  simp only[c,decide_false,Bool.false_eq_true,if_false,Bool.and_eq_true,decide_eq_true_eq,Int.toNat_natCast]
  have hxs:x[s]?=some (x[s]'(by omega)):=List.getElem?_eq_getElem _
  have hys:y[s]?=some (y[s]'(by omega)):=List.getElem?_eq_getElem _
  have gs:y.getD s 0=y[s]'(by omega):=by rw[List.getD_eq_getElem?_getD,hys];rfl
  constructor
  ·intro h
   have h0:=h s _ hxs
   unfold Zi7 at h0
   simp only[Nat.zero_add,decide_true,if_true,gs] at h0
   have bx:=Zvk (Zvl hx hxs)
   have by_:=Zvk (Zvl hy hys)
   have ho:∀i (h1:i<x.length) (h2:i<y.length),i≠s→x[i]=y[i]:=fun i h1 h2 hn=>by
    have:=h i x[i] (List.getElem?_eq_getElem h1)
    unfold Zi7 at this
    have d:decide (((0+i:Nat):Int)=(s:Int))=false:=by simp only[decide_eq_false_iff_not];omega
    rw[d] at this
    simp only[Nat.zero_add,Bool.false_eq_true,if_false,decide_eq_true_eq,Zqq] at this
    rw[this,List.getD_eq_getElem?_getD,List.getElem?_eq_getElem h2];rfl
   generalize decide (((x[s]'(by omega)).toNat:Int)=49)=p at h0 bx
   generalize decide (((y[s]'(by omega)).toNat:Int)=49)=q at h0 by_
   have hp:p= !up:=by revert h0;cases p<;>cases q<;>cases up<;>decide
   have hq:q=up:=by revert h0;cases p<;>cases q<;>cases up<;>decide
   refine ⟨List.ext_getElem (by simp;omega) fun i h1 h2=> ?_,List.ext_getElem (by simp;omega) fun i h1 h2=> ?_⟩
   ·rw[List.getElem_set]
    split
    ·rename_i e;subst e;rw[bx,hp]
    ·rename_i e;exact ho i h1 (by simpa using h2) (Ne.symm e)
   ·rw[List.getElem_set]
    split
    ·rename_i e;subst e;rw[by_,hq]
    ·rename_i e;exact (ho i (by simpa using h2) h1 (Ne.symm e)).symm
  ·rintro ⟨e1,e2⟩ i b hb
   unfold Zi7
   have hi:=(List.getElem?_eq_some_iff.1 hb).1
   by_cases cs:i=s
   ·subst cs
    simp only[Nat.zero_add,decide_true,if_true,gs]
    have hbx:x[i]?=some (Zfg (!up)):=by rw[e1,List.getElem?_set];simp;omega
    have hby:y[i]?=some (Zfg up):=by rw[e2,List.getElem?_set];simp;omega
    rw[hb] at hbx
    rw[hys] at hby
    rw[Option.some.inj hbx,Option.some.inj hby]
    cases up<;>decide
   ·have d:decide (((0+i:Nat):Int)=(s:Int))=false:=by simp only[decide_eq_false_iff_not];omega
    rw[d]
    simp only[Nat.zero_add,Bool.false_eq_true,if_false,decide_eq_true_eq,Zqq]
    have:y[i]?=x[i]?:=by
     conv=>lhs;rw[e2]
     rw[List.getElem?_set,if_neg (Ne.symm cs)]
    rw[List.getD_eq_getElem?_getD,this,hb];rfl
theorem ZnO (s u:PV):splice (splice [ZC.pv (.int .i64),ZC.pv .bool] 0 [s]) 1 [u]=[s,u]:=rfl
def ZcQ (n:Nat) (last:Int) (a:PArc):Bool:=(inR a.from_ 0 last&&inR a.to_ 0 last)&&Zft n a.sig a.up
def ZjE (c:PSG) (a:PArc):Bool:=ZcQ c.signals.length ((c.codes.length:Int) - 1) a&&ZkF a.sig a.up (c.codes.getD a.from_.toNat []) (c.codes.getD a.to_.toNat [])
structure CodesP (c:PSG):Prop where
 one:1≤c.codes.length
 many:c.codes.length≤300
 bits:∀x∈c.codes,ZZ x c.signals.length=true
 arcs:c.arcs.length≤4000
theorem ZnP {c:PSG} {a:PArc} (h:ZcQ c.signals.length ((c.codes.length:Int) - 1) a=true):∃f t x y,a.from_=((f:Nat):Int)∧a.to_=((t:Nat):Int)∧f<c.codes.length∧t<c.codes.length∧c.codes[f]?=some x∧c.codes[t]?=some y∧Zft c.signals.length a.sig a.up=true:=by
 unfold ZcQ inR at h
 simp only[Bool.and_eq_true,decide_eq_true_eq] at h
 obtain ⟨⟨⟨h1,h2⟩,h3,h4⟩,h5⟩:=h
 obtain ⟨f,hf⟩:=Int.eq_ofNat_of_zero_le h1
 obtain ⟨t,ht⟩:=Int.eq_ofNat_of_zero_le h3
 have l1:f<c.codes.length:=by omega
 have l2:t<c.codes.length:=by omega
 exact ⟨f,t,_,_,hf,ht,l1,l2,List.getElem?_eq_getElem l1,List.getElem?_eq_getElem l2,h5⟩
theorem Zwj (c:PSG) (a:PArc) (hc:SGFit c) (hp:CodesP c):ZiD [eSG c,Zap a]=some (pB (ZjE c a)):=by
 have hsl:=hc.sigs
 unfold ZH at hsl
 have hm:=hp.many
 have g1:=ZbE a.from_ 0 ((c.codes.length:Int) - 1)
 have g2:=ZbE a.to_ 0 ((c.codes.length:Int) - 1)
 have gi:∀z:Int,inR z 0 ((c.codes.length:Int) - 1)=(decide ((0:Int)≤z)&&decide (z≤(c.codes.length:Int) - 1)):=fun _=>rfl
 rw[←gi] at g1 g2
 have g3:=Zsj a.sig a.up c.signals.length hsl
 have hw:IntKind.i64.wrap ((c.codes.length:Int) - 1)=(c.codes.length:Int) - 1:=Zda (by omega) (by omega)
 show (fun x0 x1=>ZiD [x0,x1]) _ _=_
 rw[Zua]
 unfold ZjE
 cases hg:ZcQ c.signals.length ((c.codes.length:Int) - 1) a
 ·unfold ZcQ at hg
  cases c1:inR a.from_ 0 ((c.codes.length:Int) - 1)
  ·simp only[eSG,Zap,List.length_map,hw,g1,c1,EVS]
  cases c2:inR a.to_ 0 ((c.codes.length:Int) - 1)
  ·simp only[eSG,Zap,List.length_map,hw,g1,g2,c1,c2,EVS]
  cases c3:Zft c.signals.length a.sig a.up
  ·simp only[eSG,Zap,List.length_map,hw,g1,g2,g3,c1,c2,c3,ZnO,EVS]
  ·rw[c1,c2,c3] at hg;cases hg
 ·obtain ⟨f,t,x,y,hf,ht,l1,l2,hx,hy,he⟩:=ZnP hg
  unfold ZcQ at hg
  simp only[Bool.and_eq_true] at hg
  have bx:=hp.bits x (List.mem_of_getElem? hx)
  have by_:=hp.bits y (List.mem_of_getElem? hy)
  have i1:Zm (.lst (c.codes.map PV.str)) (.int .i64 (f:Int))=some (.str x):=Zl hx
  have i2:Zm (.lst (c.codes.map PV.str)) (.int .i64 (t:Int))=some (.str y):=Zl hy
  have e1:c.codes.getD f []=x:=by rw[List.getD_eq_getElem?_getD,hx];rfl
  have e2:c.codes.getD t []=y:=by rw[List.getD_eq_getElem?_getD,hy];rfl
  have c1:=hg.1.1
  have c2:=hg.1.2
  simp only[hf] at g1 c1
  simp only[ht] at g2 c2
  rw[hf,ht,Int.toNat_natCast,Int.toNat_natCast,e1,e2]
  unfold ZkF
  have lx:=Zge bx
  have ly:=Zge by_
  by_cases cs:a.sig<0
  ·have d:decide (a.sig<0)=true:=by simpa using cs
   simp only[eSG,Zap,hf,ht,List.length_map,hw,g1,g2,g3,c1,c2,he,ZnO,i1,i2,d,EVS]
  ·have d:decide (a.sig<0)=false:=by simpa using cs
   obtain ⟨s,hs⟩:=Int.eq_ofNat_of_zero_le (show 0≤a.sig by omega)
   have hsn:s<c.signals.length:=by
    unfold Zft inR at he
    simp only[Bool.or_eq_true,Bool.and_eq_true,decide_eq_true_eq] at he
    omega
   have s1:=ZiB y s (Zfg (!a.up)) (by omega) (hc.each y (List.mem_of_getElem? hy))
   have s2:=ZiB x s (Zfg a.up) (by omega) (hc.each x (List.mem_of_getElem? hx))
   have b1:=ZiA (!a.up)
   have b2:=ZiA a.up
   rw[hs] at d g3 he
   simp only[eSG,Zap,hf,ht,hs,List.length_map,hw,g1,g2,g3,c1,c2,he,ZnO,i1,i2,d,s1,b1,Int.toNat_natCast,Bool.false_eq_true,if_false,EVS]
   cases c4:decide (x=y.set s (Zfg (!a.up)))
   ·simp only[EVS]
   ·simp only[s2,b2,EVS]
def ZnQ (c:PSG):List (Nat×Nat):=c.arcs.map fun a=>(a.from_.toNat,a.to_.toNat)
def ZnR (n:Nat) (l:List PArc):Prop:=∀a∈l,inR a.from_ 0 ((n:Int) - 1)=true∧inR a.to_ 0 ((n:Int) - 1)=true
theorem Zls {n:Nat} {l:List PArc} (h:ZnR n l) {a:PArc} (ha:a∈l):∃f t:Nat,a.from_=f∧a.to_=t∧f<n∧t<n:=by
 obtain ⟨h1,h2⟩:=h a ha
 unfold inR at h1 h2
 simp only[Bool.and_eq_true,decide_eq_true_eq] at h1 h2
 obtain ⟨f,hf⟩:=Int.eq_ofNat_of_zero_le h1.1
 obtain ⟨t,ht⟩:=Int.eq_ofNat_of_zero_le h2.1
 exact ⟨f,t,hf,ht,by omega,by omega⟩
theorem ZlU :∀(r:List (Nat×Nat)) (m:List Bool),(ZeQ r m).length=m.length
 |[],_=>rfl
 | e::r,m=>by
  unfold ZeQ
  rw[ZlU r]
  split<;>simp
theorem se_b (a b:Bool):Za1 0 1 [.bool a] (.bool a) (.bool b)=some (.bool b):=rfl
theorem Zvm {R:Type} (e:List Bool→Option R):∀(l:List PArc) (k:Nat) (m:List Bool),Zax (fun (m:List Bool) (_:Nat) (a:PArc)=>.inl (if m.getD a.from_.toNat false=true then m.set a.to_.toNat true else m)) e k m l=e (ZeQ (l.map fun a=>(a.from_.toNat,a.to_.toNat)) m)
 |[],k,m=>rfl
 |a::l,k,m=>Zvm e l (k+1) _
theorem Zpt {R:Type} (es:List (Nat×Nat)) (e:List Bool→Option R):∀(l:List (List UInt8)) (k:Nat) (m:List Bool),Zax (fun (m:List Bool) (_:Nat) (_:List UInt8)=>.inl (ZeQ es m)) e k m l=e (metG es l.length m)
 |[],k,m=>rfl
 |a::l,k,m=>Zpt es e l (k+1) _
theorem Zwk (c:PSG) (hc:SGFit c) (hp:CodesP c) (ha:ZnR c.codes.length c.arcs):ZiE [eSG c]=some (pB ((Zum c.codes.length (ZnQ c) 0).all id)):=by
 have h1:=hp.one
 have h2:=hp.many
 have h3:=hp.arcs
 have hmk:=mk_v (TI.mk 1 1 TD.bool [ZC.bool] [] false) c.codes.length (by omega)
 have hz:ZaW (TI.mk 1 1 TD.bool [ZC.bool] [] false)=.bool false:=rfl
 rw[hz] at hmk
 have hp0:ZcN (List.replicate c.codes.length (PV.bool false)) (.int .i64 ((0:Nat):Int))=some (.int .i64 ((0:Nat):Int)):=Zet (by simp;omega)
 have hg0:(List.replicate c.codes.length (PV.bool false))[0]?=some (.bool false):=by rw[List.getElem?_replicate,if_pos (by omega)]
 have hs0:(List.replicate c.codes.length (PV.bool false)).set 0 (.bool true)=((List.replicate c.codes.length false).set 0 true).map PV.bool:=by rw[←Zqp,List.map_replicate]
 simp only[Int.natCast_zero] at hp0
 have ht0:Int.toNat 0=0:=rfl
 show (fun x0=>ZiE [x0]) _=_
 rw[Zuc]
 simp only[eSG,List.length_map,hmk,hp0,ht0,hg0,se_b,hs0,EVS]
 obtain ⟨m0,hm0⟩:∃m0,(List.replicate c.codes.length false).set 0 true=m0:=⟨_,rfl⟩
 have hl0:m0.length=c.codes.length:=by rw[←hm0];simp
 unfold Zum
 rw[hm0]
 refine (congrArg (fun m:Option PV=>m.bind fun r=>if r.sc=true then some r else none) ((ZbD (R:=PV) c.codes (fun (m:List Bool) k=>[.lst (m.map PV.bool),pI (Int.ofNat k)]) (fun _ m=>m.length=c.codes.length) (fun (m:List Bool) _ _=>.inl (ZeQ (ZnQ c) m)) (fun m=>some (pB (m.all id))) _ (by omega) (fun m k x m' hm hx he=> ?_) (fun again m k x hm hx=> ?_) (fun again m hm=> ?_) hl0).trans (Zpt _ _ _ _ _))).trans ?_
 ·cases he;rw[ZlU];exact hm
 ·have hk:=Zg hx
  simp only[ZY hk,EVS]
  refine (ZbD (R:=PV) c.arcs (fun (m:List Bool) k=>[.lst (m.map PV.bool),pI (Int.ofNat k)]) (fun _ m=>m.length=c.codes.length) (fun (m:List Bool) _ a=>.inl (if m.getD a.from_.toNat false=true then m.set a.to_.toNat true else m)) (fun m=>again [.lst (m.map PV.bool),pI (Int.ofNat (k+1))]) _ (by omega) (fun m j a m' hm ha' he=> ?_) (fun again' m j a hm ha'=> ?_) (fun again' m hm=> ?_) hm).trans (Zvm _ _ _ _)
  ·cases he;split<;>simp[hm]
  ·have hj:=Zg ha'
   obtain ⟨f,t,hf,ht,l1,l2⟩:=Zls ha (List.mem_of_getElem? ha')
   have hi:Zm (.lst (c.arcs.map Zap)) (.int .i64 (j:Int))=some (Zap a):=Zl ha'
   have p1:ZcN (m.map PV.bool) (.int .i64 (f:Int))=some (.int .i64 (f:Int)):=Zet (by rw[List.length_map];omega)
   have p2:ZcN (m.map PV.bool) (.int .i64 (t:Int))=some (.int .i64 (t:Int)):=Zet (by rw[List.length_map];omega)
   have q1:(m.map PV.bool)[f]?=some (.bool (m.getD f false)):=by rw[List.getElem?_map,List.getD_eq_getElem?_getD,List.getElem?_eq_getElem (by omega)];rfl
   have q2:(m.map PV.bool)[t]?=some (.bool (m.getD t false)):=by rw[List.getElem?_map,List.getD_eq_getElem?_getD,List.getElem?_eq_getElem (by omega)];rfl
   have st:(m.map PV.bool).set t (.bool true)=(m.set t true).map PV.bool:=Zqp PV.bool m t true
   rw[hf,ht,Int.toNat_natCast,Int.toNat_natCast]
   cases hb:m.getD f false<;>simp only[ZY hj,Zk hj (show c.arcs.length≤9223372036854775807 by omega),hi,Zap,hf,ht,p1,p2,q1,q2,hb,se_b,st,Bool.false_eq_true,if_false,if_true,EVS]
  ·simp only[Zav,Zk hk (show c.codes.length≤9223372036854775807 by omega),EVS]
 ·simp only[Zav,EVS]
  refine (Zab (R:=PV) m (fun _ b=>b) (some (pB false)) (some (pB true)) _ (by omega) (fun again k b hb=> ?_) (fun again=> ?_)).trans ?_
  ·have hk:=Zg hb
   have p1:ZcN (m.map PV.bool) (.int .i64 (k:Int))=some (.int .i64 (k:Int)):=Zet (by rw[List.length_map];omega)
   have q1:(m.map PV.bool)[k]?=some (.bool b):=by rw[List.getElem?_map,hb];rfl
   cases b<;>simp only[List.length_map,ZY hk,Zk hk (show m.length≤9223372036854775807 by omega),p1,q1,Bool.false_eq_true,if_false,if_true,EVS]
  ·simp only[List.length_map,Zav,EVS]
  ·rw[Zat]
   show _=some (pB (m.all fun b=>b))
   cases m.all (fun b=>b)<;>rfl
 ·simp only[EVS]
theorem Zoy (n s:Nat) (es:List (Nat×Nat)) (hn:n≤1000) (hs:s<n) (hl:es.length≤100000) (hes:∀e∈es,e.1<n∧e.2<n):Zef [pI (n:Int),.lst (es.map pSt),pI (s:Int)]=some (.lst ((ZdO n es s).map pI)):=by
 have hc:(0:Int)≤(n:Int)∧(n:Int)≤1000∧(0:Int)≤(s:Int)∧(s:Int)<(n:Int)∧es.length≤100000∧(es.all fun e=>decide (e.1<(n:Int).toNat∧e.2<(n:Int).toNat))=true:=by
  refine ⟨by omega,by omega,by omega,by omega,hl,List.all_eq_true.2 fun e he=> ?_⟩
  rw[Int.toNat_natCast]
  exact decide_eq_true (hes e he)
 show (match Zn7 (es.map pSt) with
  |some es=>if (0:Int)≤(n:Int)∧(n:Int)≤1000∧(0:Int)≤(s:Int)∧(s:Int)<(n:Int)∧es.length≤100000∧(es.all fun e=>decide (e.1<(n:Int).toNat∧e.2<(n:Int).toNat))=true then some (PV.lst ((ZdO (n:Int).toNat es (s:Int).toNat).map pI)) else none
  |none=>none)=_
 rw[ZpA]
 show (if _ then _ else _)=_
 rw[if_pos hc,Int.toNat_natCast,Int.toNat_natCast]
def Zgf (c:PSG):Bool:=(Zi4 c.signals&&inR c.codes.length 1 300)&& !decide ((4000:Int)<c.arcs.length)
def Zqr (c:PSG):Bool:=c.codes.all fun x=>ZZ x c.signals.length
def ZgM (c:PSG):Bool:=c.arcs.all (ZjE c)
def Zh2 (c:PSG):Bool:=(Zum c.codes.length (ZnQ c) 0).all id
def sgV (c:PSG):Bool:=(Zgf c&&Zqr c)&&(ZgM c&&Zh2 c)
theorem Zh3 {c:PSG} (h1:Zgf c=true) (h2:Zqr c=true):CodesP c:=by
 unfold Zgf inR at h1
 simp only[Bool.and_eq_true,Bool.not_eq_true',decide_eq_true_eq,decide_eq_false_iff_not] at h1
 unfold Zqr at h2
 exact ⟨by omega,by omega,fun x hx=>List.all_eq_true.1 h2 x hx,by omega⟩
theorem Zpu {c:PSG} (h:ZgM c=true):ZnR c.codes.length c.arcs:=fun a ha=>by
 have:=List.all_eq_true.1 h a ha
 unfold ZjE ZcQ at this
 simp only[Bool.and_eq_true] at this
 exact this.1.1
theorem Zt4 (c:PSG) (hc:SGFit c):Zg3 [eSG c]=some (pB (sgV c)):=by
 have hcl:=hc.codes
 have hal:=hc.arcs
 unfold ZH at hcl hal
 have g1:=Zi5 c.signals hc.sigs hc.names
 have g2:=ZbE (c.codes.length:Int) 1 300
 have gi:inR (c.codes.length:Int) 1 300=(decide ((1:Int)≤c.codes.length)&&decide ((c.codes.length:Int)≤300)):=rfl
 rw[←gi] at g2
 show (fun x0=>Zg3 [x0]) _=_
 rw[ZsD]
 unfold sgV
 cases hpre:Zgf c
 ·unfold Zgf at hpre
  cases c1:Zi4 c.signals
  ·simp only[eSG,List.length_map,g1,c1,EVS]
  cases c2:inR (c.codes.length:Int) 1 300
  ·simp only[eSG,List.length_map,g1,g2,c1,c2,EVS]
  cases c3:decide ((4000:Int)<c.arcs.length)
  ·rw[c1,c2,c3] at hpre;cases hpre
  ·simp only[eSG,List.length_map,g1,g2,c1,c2,c3,EVS]
 have hpre':=hpre
 unfold Zgf at hpre'
 simp only[Bool.and_eq_true,Bool.not_eq_true'] at hpre'
 obtain ⟨⟨c1,c2⟩,c3⟩:=hpre'
 simp only[eSG,List.length_map,g1,g2,c1,c2,c3,EVS]
 refine (congrArg (fun m:Option PV=>m.bind fun r=>if r.sc=true then some r else none) (Ziv (R:=PV) c.codes (fun _ x=>ZZ x c.signals.length) (some (pB false)) (some (pB (ZgM c&&Zh2 c))) _ hcl (fun again k x hx=> ?_) (fun hall again=> ?_))).trans ?_
 ·have hk:=Zg hx
  have hi:Zm (.lst (c.codes.map PV.str)) (.int .i64 (k:Int))=some (.str x):=Zl hx
  have g:=ZtT x c.signals.length (hc.each x (List.mem_of_getElem? hx))
  cases cb:ZZ x c.signals.length<;>simp only[ZY hk,Zk hk hcl,hi,g,cb,Bool.false_eq_true,if_false,if_true,EVS]
 ·rw[Zat] at hall
  have hp:=Zh3 hpre hall
  simp only[Zav,EVS]
  refine (Ziv (R:=PV) c.arcs (fun _ a=>ZjE c a) (some (pB false)) (some (pB (Zh2 c))) _ hal (fun again k a hx=> ?_) (fun hall' again=> ?_)).trans ?_
  ·have hk:=Zg hx
   have hi:Zm (.lst (c.arcs.map Zap)) (.int .i64 (k:Int))=some (Zap a):=Zl hx
   have g:=Zwj c a hc hp
   simp only[eSG,Zap] at g
   cases cb:ZjE c a<;>simp only[Zap,ZY hk,Zk hk hal,hi,g,cb,Zak,ZuK,Bool.false_eq_true,if_false,if_true,EVS]
  ·rw[Zat] at hall'
   have g:=Zwk c hc hp (Zpu hall')
   simp only[eSG] at g
   simp only[Zav,Zak,g,EVS]
   rfl
  ·rw[Zat]
   show _=some (pB (c.arcs.all (ZjE c)&&Zh2 c))
   cases c.arcs.all (ZjE c)<;>rfl
 ·rw[Zat]
  show _=some (pB ((true&&c.codes.all (fun x=>ZZ x c.signals.length))&&(ZgM c&&Zh2 c)))
  cases c.codes.all (fun x=>ZZ x c.signals.length)<;>simp only[Bool.false_eq_true,if_false,if_true,EVS]<;>rfl
theorem Zh4 (l:List Int) (x:Int) (hl:ZH l):Zbi [.lst (l.map pI),pI x]=some (pI (ixf (fun a=>decide (x=a)) 0 l)):=by
 show (fun x0 x1=>Zbi [x0,x1]) _ _=_
 rw[Zhx]
 unfold ZH at hl
 simp only[EVS]
 refine (congrArg (fun m:Option PV=>m.bind fun r=>if r.sc=true then some r else none) (ZdC l (fun a=>decide (x=a)) _ hl (fun again k a hb=> ?_) (fun again=> ?_))).trans ?_
 ·have hk:=Zg hb
  have hi:Zm (.lst (l.map pI)) (.int .i64 (k:Int))=some (pI a):=Zl hb
  simp only[ZY hk,Zk hk hl,hi,EVS]
 ·simp only[Zav,EVS]
  rfl
 ·simp only[EVS]
theorem Zgg (l:List Int) (x:Int) (hl:ZH l):ZaJ [.lst (l.map pI),pI x]=some (pB (!Z0 (fun _ a=> !decide (x=a)) 0 l)):=by
 have g:=Zh4 l x hl
 show (fun x0 x1=>ZaJ [x0,x1]) _ _=_
 rw[ZfW]
 simp only[g,Ze6 (fun a=>decide (x=a)) l 0,EVS]
theorem ZnS {R:Type} (e:List (Nat×Nat)→Option R):∀(l:List PArc) (k:Nat) (acc:List (Nat×Nat)),Zax (fun (acc:List (Nat×Nat)) (_:Nat) (a:PArc)=>.inl (acc++[(a.from_.toNat,a.to_.toNat)])) e k acc l=e (acc++l.map fun a=>(a.from_.toNat,a.to_.toNat))
 |[],k,acc=>by simp[Zax]
 | a::l,k,acc=>by
  show Zax _ e (k+1) (acc++[(a.from_.toNat,a.to_.toNat)]) l=_
  rw[ZnS e l]
  simp
theorem ZyJ (a b:PV):splice (splice [ZC.pv (.int .i64),ZC.pv (.int .i64)] 0 [a]) 1 [b]=[a,b]:=rfl
theorem Zqs (n:Nat) (l:List PArc) (ha:ZnR n l) (hl:l.length≤4000):ZeF [.lst (l.map Zap)]=some (.lst ((l.map fun a=>(a.from_.toNat,a.to_.toNat)).map pSt)):=by
 show (fun x0=>ZeF [x0]) _=_
 rw[ZoC]
 simp only[List.length_map,EVS]
 refine (ZbD (R:=PV) l (fun (acc:List (Nat×Nat)) k=>[.lst (acc.map pSt),pI (Int.ofNat k)]) (fun k acc=>acc.length=k) (fun (acc:List (Nat×Nat)) _ a=>.inl (acc++[(a.from_.toNat,a.to_.toNat)])) (fun acc=>some (.lst (acc.map pSt))) _ (by omega) (fun acc k x acc' hi hx he=> ?_) (fun again acc k a hi hx=> ?_) (fun again acc hi=> ?_) (b:=[]) rfl).trans ((ZnS _ _ _ _).trans ?_)
 ·cases he;simp;omega
 ·have hk:=Zg hx
  obtain ⟨f,t,hf,ht,l1,l2⟩:=Zls ha (List.mem_of_getElem? hx)
  have hi':Zm (.lst (l.map Zap)) (.int .i64 (k:Int))=some (Zap a):=Zl hx
  have hla:acc.length+[PV.agg [pI (f:Int),pI (t:Int)]].length≤4294967296∧[PV.agg [pI (f:Int),pI (t:Int)]].all (Zau 2)=true:=⟨by simp;omega,rfl⟩
  have hps:acc.map pSt++[PV.agg [pI (f:Int),pI (t:Int)]]=(acc++[(f,t)]).map pSt:=by simp[pSt]
  simp only[ZY hk,Zk hk (show l.length≤9223372036854775807 by omega),hi',Zap,hf,ht,Int.toNat_natCast,ZyJ,List.length_map,if_pos hla,hps,EVS]
 ·simp only[Zav,EVS]
 ·rfl
theorem Zh5 (x:Int):∀(l:List Int) (k:Nat),Z0 (fun _ a=> !decide (x=a)) k l= !decide (x∈l)
 |[],k=>by simp[Z0]
 | a::l,k=>by
  unfold Z0
  rw[Zh5 x l (k+1),Bool.eq_iff_iff]
  simp only[Bool.and_eq_true,Bool.not_eq_true',decide_eq_false_iff_not,List.mem_cons,not_or]
theorem Zqt {c:PSG} (h:ZnR c.codes.length c.arcs):∀e∈ZnQ c,e.1<c.codes.length∧e.2<c.codes.length:=fun e he=>by
 unfold ZnQ at he
 obtain ⟨a,ha,rfl⟩:=List.mem_map.1 he
 obtain ⟨f,t,hf,ht,l1,l2⟩:=Zls h ha
 simp only[hf,ht,Int.toNat_natCast]
 exact ⟨l1,l2⟩
theorem Zhv (c:PSG) (hc:SGFit c):Za2 [eSG c]=some (pB (sgV c)):=by
 have hcl:=hc.codes
 have hal:=hc.arcs
 have hsl:=hc.sigs
 unfold ZH at hcl hal hsl
 have g1:=Zh0 c.signals hc.sigs hc.names
 rw[←Zvg] at g1
 have g2:=ZaE (c.codes.length:Int) 1 300
 show (fun x0=>Za2 [x0]) _=_
 rw[ZgZ]
 unfold sgV
 cases hpre:Zgf c
 ·unfold Zgf at hpre
  cases c1:Zi4 c.signals
  ·simp only[eSG,List.length_map,g1,c1,EVS]
  cases c2:inR (c.codes.length:Int) 1 300
  ·simp only[eSG,List.length_map,g1,g2,c1,c2,EVS]
  cases c3:decide ((4000:Int)<c.arcs.length)
  ·rw[c1,c2,c3] at hpre;cases hpre
  ·simp only[eSG,List.length_map,g1,g2,c1,c2,c3,EVS]
 have hpre':=hpre
 unfold Zgf at hpre'
 simp only[Bool.and_eq_true,Bool.not_eq_true'] at hpre'
 obtain ⟨⟨c1,c2⟩,c3⟩:=hpre'
 have hw:IntKind.i64.wrap ((c.codes.length:Int) - 1)=(c.codes.length:Int) - 1:=Zda (by omega) (by omega)
 simp only[eSG,List.length_map,g1,g2,c1,c2,c3,hw,EVS]
 refine (congrArg (fun m:Option PV=>m.bind fun r=>if r.sc=true then some r else none) (Ziv (R:=PV) c.codes (fun _ x=>ZZ x c.signals.length) (some (pB false)) (some (pB (ZgM c&&Zh2 c))) _ hcl (fun again k x hx=> ?_) (fun hall again=> ?_))).trans ?_
 ·have hk:=Zg hx
  have hi:Zm (.lst (c.codes.map PV.str)) (.int .i64 (k:Int))=some (.str x):=Zl hx
  have g:=ZtU x c.signals.length (hc.each x (List.mem_of_getElem? hx))
  cases cb:ZZ x c.signals.length<;>simp only[ZY hk,Zk hk hcl,hi,g,cb,Bool.false_eq_true,if_false,if_true,EVS]
 ·rw [Zat] at hall
  have hp:=Zh3 hpre hall
  simp only[Zav,EVS]
  refine (Ziv (R:=PV) c.arcs (fun _ a=>ZjE c a) (some (pB false)) (some (pB (Zh2 c))) _ hal (fun again k a hx=> ?_) (fun hall' again=> ?_)).trans ?_
  ·have hk:=Zg hx
   have hi:Zm (.lst (c.arcs.map Zap)) (.int .i64 (k:Int))=some (Zap a):=Zl hx
   have g3:=ZaE a.from_ 0 ((c.codes.length:Int) - 1)
   have g4:=ZaE a.to_ 0 ((c.codes.length:Int) - 1)
   have g5:=ZtZ a.sig a.up c.signals.length hsl
   unfold ZjE
   cases hg:ZcQ c.signals.length ((c.codes.length:Int) - 1) a
   ·unfold ZcQ at hg
    cases d1:inR a.from_ 0 ((c.codes.length:Int) - 1)
    ·simp only[Zap,ZY hk,Zk hk hal,hi,List.length_map,g3,d1,Bool.false_eq_true,if_false,if_true,EVS]
    cases d2:inR a.to_ 0 ((c.codes.length:Int) - 1)
    ·simp only[Zap,ZY hk,Zk hk hal,hi,List.length_map,g3,g4,d1,d2,Bool.false_eq_true,if_false,if_true,EVS]
    cases d3:Zft c.signals.length a.sig a.up
    ·simp only[Zap,ZY hk,Zk hk hal,hi,List.length_map,g3,g4,g5,d1,d2,d3,ZnO,Bool.false_eq_true,if_false,if_true,EVS]
    ·rw[d1,d2,d3] at hg;cases hg
   ·obtain ⟨f,t,x,y,hf,ht,l1,l2,hx',hy',he⟩:=ZnP hg
    unfold ZcQ at hg
    simp only[Bool.and_eq_true] at hg
    have bx:=hp.bits x (List.mem_of_getElem? hx')
    have by_:=hp.bits y (List.mem_of_getElem? hy')
    have i1:Zm (.lst (c.codes.map PV.str)) (.int .i64 (f:Int))=some (.str x):=Zl hx'
    have i2:Zm (.lst (c.codes.map PV.str)) (.int .i64 (t:Int))=some (.str y):=Zl hy'
    have e1:c.codes.getD f []=x:=by rw[List.getD_eq_getElem?_getD,hx'];rfl
    have e2:c.codes.getD t []=y:=by rw[List.getD_eq_getElem?_getD,hy'];rfl
    have d1:=hg.1.1
    have d2:=hg.1.2
    have lx:=Zge bx
    have ly:=Zge by_
    have g6:=Zox a x y (hc.each x (List.mem_of_getElem? hx')) (by omega)
    rw[ZyI a.sig a.up x y _ bx by_ he] at g6
    simp only[Zap,hf,ht] at g3 g4 g6 d1 d2
    rw[hf,ht,Int.toNat_natCast,Int.toNat_natCast,e1,e2]
    cases d4:ZkF a.sig a.up x y<;>simp only[Zap,hf,ht,ZY hk,Zk hk hal,hi,List.length_map,g3,g4,g5,g6,d1,d2,he,d4,i1,i2,ZnO,ZuK,Bool.false_eq_true,if_false,if_true,EVS]
  ·rw[Zat] at hall'
   have hin:=Zpu hall'
   have g7:=Zqs c.codes.length c.arcs hin hp.arcs
   have g8:=Zoy c.codes.length 0 (ZnQ c) (by have:=hp.many;omega) hp.one (by have:=hp.arcs;unfold ZnQ;rw[List.length_map];omega) (Zqt hin)
   have hd:=Zn6 hp.one (Zqt hin)
   have g9:=Zgg (ZdO c.codes.length (ZnQ c) 0) (-1) (by unfold ZH;rw[hd.len];omega)
   have hme:Zh2 c= !decide ((-1:Int)∈ZdO c.codes.length (ZnQ c) 0):=Zx1 hp.one (Zqt hin)
   rw[Zh5] at g9
   unfold ZnQ at g8
   simp only[Zav,List.length_map,g7,EVS]
   rw[show (Int.negSucc 0)=(-1:Int) from rfl]
   simp only[Int.natCast_zero] at g8
   simp only[g8,EVS]
   unfold ZnQ at g9 hme
   simp only[g9,hme,Bool.not_not,EVS]
  ·rw[Zat]
   show _=some (pB (c.arcs.all (ZjE c)&&Zh2 c))
   cases c.arcs.all (ZjE c)<;>rfl
 ·rw[Zat]
  show _=some (pB ((true&&c.codes.all (fun x=>ZZ x c.signals.length))&&(ZgM c&&Zh2 c)))
  cases c.codes.all (fun x=>ZZ x c.signals.length)<;>simp only[Bool.false_eq_true,if_false,if_true,EVS]<;>rfl
theorem Zsk {R α β:Type} (l:List α) (J:β→Nat→List PV) (Inv:Nat→β→Prop) (step:β→Nat→α→Sum β (Option R)) (e:β→Option R) (f:(List PV→Option R)→List PV→Option R) (hl:l.length≤9223372036854775807)
 (hs:∀b k x b',Inv k b→l[k]?=some x→step b k x=.inl b'→Inv (k+1) b')
 (h1:∀again b k x,Inv k b→l[k]?=some x→f again (J b k)=match step b k x with|.inl b'=>again (J b' (k+1))|.inr z=>z)
 (h2:∀again b,Inv l.length b→f again (J b l.length)=e b) {b:β} {k:Nat} (hk:k≤l.length) (hb:Inv k b):Zp f 18446744073709551616 (J b k)=Zax step e k b (l.drop k):=by
 have key:=Zbb (R:=R) (fun q:{q:β×Nat // Inv q.2 q.1∧q.2≤l.length}=>J q.1.1 q.1.2) (fun q=>l.length+1 - q.1.2) (fun q=>Zax step e q.1.2 q.1.1 (l.drop q.1.2)) f (fun again q ih=> ?_) 18446744073709551616 ⟨(b,k),hb,hk⟩ (by simp only;omega)
 ·exact key
 ·obtain ⟨⟨b,k⟩,hi,hk⟩:=q
  dsimp only at ih hi hk⊢
  by_cases hlt:k<l.length
  ·have hx:l[k]?=some l[k]:=List.getElem?_eq_getElem hlt
   rw[h1 again b k _ hi hx,List.drop_eq_getElem_cons hlt]
   unfold Zax
   cases hst:step b k l[k] with
   |inl b'=>exact ih ⟨(b',k+1),hs _ _ _ _ hi hx hst,hlt⟩ (by simp only;omega)
   |inr z=>rfl
  ·obtain rfl:k=l.length:=by omega
   rw[h2 again b hi,List.drop_length]
   rfl
theorem capsA0 :Zcz 0 (.tup [])=some []:=by simp[Zcz,PV.parts]
theorem ZiL (a:PArc):Zbw [Zap a]=some (pB (decide (a.sig= -1))):=by
 show (fun x0=>Zbw [x0]) _=_
 rw[Zid]
 simp only[Zap,EVS]
 rfl
theorem ZbR (l:List PArc) (hl:ZH l):ZA [.lst (l.map Zap),.tup []]=some (pI (ixf (fun a=>decide (a.sig= -1)) 0 l)):=by
 show (fun x0 x1=>ZA [x0,x1]) _ _=_
 rw[ZbH]
 unfold ZH at hl
 simp only[EVS]
 refine (congrArg (fun m:Option PV=>m.bind fun r=>if r.sc=true then some r else none) (ZdC l (fun a=>decide (a.sig= -1)) _ hl (fun again k a hb=> ?_) (fun again=> ?_))).trans ?_
 ·have hk:=Zg hb
  have hi:Zm (.lst (l.map Zap)) (.int .i64 (k:Int))=some (Zap a):=Zl hb
  have g:=ZiL a
  simp only[Zap] at g
  cases hc:decide (a.sig= -1)<;>simp only[ZY hk,Zk hk hl,hi,Zap,g,hc,capsA0,List.append_nil,List.cons_append,List.nil_append,Bool.false_eq_true,if_false,if_true,EVS]
 ·simp only[Zav,EVS]
  rfl
 ·simp only[EVS]
def ZgN (l:List PArc):Bool:=l.any fun a=>decide (a.sig= -1)
theorem Zbp (l:List PArc) (hl:ZH l):Zu [.lst (l.map Zap),.tup []]=some (pB (ZgN l)):=by
 have g:=ZbR l hl
 show (fun x0 x1=>Zu [x0,x1]) _ _=_
 rw[Zbe]
 simp only[g,Ze6 (fun a:PArc=>decide (a.sig= -1)) l 0,EVS]
 rw[Zat,List.all_eq_not_any_not]
 simp only[Bool.not_not]
 rfl
theorem Zqu (c:PSG) (hl:ZH c.arcs):ZeI [eSG c]=some (pB (c.arcs.any fun a=>decide (a.sig<0))):=by
 unfold ZH at hl
 show (fun x0=>ZeI [x0]) _=_
 rw[ZoH]
 simp only[eSG,EVS]
 refine (congrArg (fun m:Option PV=>m.bind fun r=>if r.sc=true then some r else none) (Zab (R:=PV) c.arcs (fun _ a=> !decide (a.sig<0)) (some (pB true)) (some (pB false)) _ hl (fun again k a hx=> ?_) (fun again=> ?_))).trans ?_
 ·have hk:=Zg hx
  have hi:Zm (.lst (c.arcs.map Zap)) (.int .i64 (k:Int))=some (Zap a):=Zl hx
  cases hc:decide (a.sig<0)<;>simp only[List.length_map,ZY hk,Zk hk hl,hi,Zap,hc,Bool.not_true,Bool.not_false,Bool.false_eq_true,if_false,if_true,EVS]
 ·simp only[List.length_map,Zav,EVS]
 ·rw[Zat,List.any_eq_not_all_not]
  cases c.arcs.all (fun a=> !decide (a.sig<0))<;>simp only[Bool.not_true,Bool.not_false,Bool.false_eq_true,if_false,if_true,EVS]
theorem Zt5 {c:PSG} (h:ZgM c=true):(c.arcs.any fun a=>decide (a.sig<0))=ZgN c.arcs:=by
 unfold ZgN
 rw[Bool.eq_iff_iff,List.any_eq_true,List.any_eq_true]
 constructor
 ·rintro ⟨a,ha,h1⟩
  refine ⟨a,ha, ?_⟩
  have:=List.all_eq_true.1 h a ha
  unfold ZjE ZcQ Zft inR at this
  simp only[Bool.and_eq_true,Bool.or_eq_true,decide_eq_true_eq] at this h1⊢
  omega
 ·rintro ⟨a,ha,h1⟩
  refine ⟨a,ha, ?_⟩
  simp only[decide_eq_true_eq] at h1⊢
  omega
theorem ZxU (x y:List UInt8×Int):eqV (some [(0,TD.str),(1,TD.int IntKind.i64)]) TD.struct (.agg [.str x.1,pI x.2]) (.agg [.str y.1,pI y.2])=some (decide (x=y)):=by
 have e:decide (x=y)=((x.1==y.1)&&((x.2==y.2)&&true)):=by
  rw[Bool.eq_iff_iff]
  simp only[decide_eq_true_eq,Bool.and_eq_true,Prod.ext_iff,beq_iff_eq,and_true]
 rw[e]
 show (some (x.1==y.1)).bind (fun b=>(some ((x.2==y.2)&&true)).map fun c=>b&&c)=_
 rfl
def ZgO (l:List (List UInt8×Int)) (k:Nat) (x:List UInt8×Int):Bool:=match l[k]? with|some y=>decide (x=y)|none=>false
theorem Zvn (l m:List (List UInt8×Int)) (h:l.length=m.length):Z0 (ZgO m) 0 l=decide (l=m):=by
 rw[Bool.eq_iff_iff,ZnN,decide_eq_true_eq]
 constructor
 ·intro hx
  apply List.ext_getElem h
  intro i h1 h2
  have:=hx i l[i] (List.getElem?_eq_getElem h1)
  unfold ZgO at this
  rw[Nat.zero_add,List.getElem?_eq_getElem h2] at this
  simpa using this
 ·rintro rfl i x hi
  unfold ZgO
  rw[Nat.zero_add,hi]
  simp
theorem Zgh (l m:List (List UInt8×Int)) (hl:ZH l):ZaI [.lst (l.map Z6),.lst (m.map Z6)]=some (pB (decide (l=m))):=by
 unfold ZH at hl
 show (fun x0 x1=>ZaI [x0,x1]) _ _=_
 rw[ZfT]
 by_cases hlen:l.length=m.length
 ·have d:decide ((l.length:Int)=(m.length:Int))=true:=by rw[decide_eq_true_eq];omega
  simp only[List.length_map,d,EVS]
  refine (congrArg (fun m:Option PV=>m.bind fun r=>if r.sc=true then some r else none) (Zab (R:=PV) l (ZgO m) (some (pB false)) (some (pB true)) _ hl (fun again k x hx=> ?_) (fun again=> ?_))).trans ?_
  ·have hk:=Zg hx
   have hy:m[k]?=some (m[k]'(by omega)):=List.getElem?_eq_getElem _
   have hi:Zm (.lst (l.map Z6)) (.int .i64 (k:Int))=some (Z6 x):=Zl hx
   have hj:Zm (.lst (m.map Z6)) (.int .i64 (k:Int))=some (Z6 (m[k]'(by omega))):=Zl hy
   have hs:ZgO m k x=decide (x=m[k]'(by omega)):=by unfold ZgO;rw[hy]
   have he:=ZxU x (m[k]'(by omega))
   rw[hs]
   cases hc:decide (x=m[k]'(by omega))<;>simp only[List.length_map,ZY hk,Zk hk hl,hi,hj,Z6,Z5,he,hc,Bool.not_true,Bool.not_false,Bool.false_eq_true,if_false,if_true,EVS]
  ·simp only[List.length_map,Zav,EVS]
  ·rw[Zvn l m hlen]
   cases decide (l=m)<;>simp only[Bool.false_eq_true,if_false,if_true,EVS]
 ·have d:decide ((l.length:Int)=(m.length:Int))=false:=by simp only[decide_eq_false_iff_not];omega
  have hne:decide (l=m)=false:=by simp only[decide_eq_false_iff_not];rintro rfl;exact hlen rfl
  simp only[List.length_map,d,hne,EVS]
theorem ZkG (l m:List (List UInt8×Int)) (hl:ZH l):Zcs [.lst (l.map Z6),.lst (m.map Z6)]=some (pB (decide (l=m))):=by
 unfold ZH at hl
 show (fun x0 x1=>Zcs [x0,x1]) _ _=_
 rw[ZjX]
 by_cases hlen:l.length=m.length
 ·have d:decide ((l.length:Int)=(m.length:Int))=true:=by rw[decide_eq_true_eq];omega
  simp only[List.length_map,d,EVS]
  refine (congrArg (fun m:Option PV=>m.bind fun r=>if r.sc=true then some r else none) (Zab (R:=PV) l (ZgO m) (some (pB false)) (some (pB true)) _ hl (fun again k x hx=> ?_) (fun again=> ?_))).trans ?_
  ·have hk:=Zg hx
   have hy:m[k]?=some (m[k]'(by omega)):=List.getElem?_eq_getElem _
   have hi:Zm (.lst (l.map Z6)) (.int .i64 (k:Int))=some (Z6 x):=Zl hx
   have hj:Zm (.lst (m.map Z6)) (.int .i64 (k:Int))=some (Z6 (m[k]'(by omega))):=Zl hy
   have hs:ZgO m k x=decide (x=m[k]'(by omega)):=by unfold ZgO;rw[hy]
   have he:=ZxU x (m[k]'(by omega))
   rw[hs]
   cases hc:decide (x=m[k]'(by omega))<;>simp only[List.length_map,ZY hk,Zk hk hl,hi,hj,Z6,Z5,he,hc,Bool.not_true,Bool.not_false,Bool.false_eq_true,if_false,if_true,EVS]
  ·simp only[List.length_map,Zav,EVS]
  ·rw[Zvn l m hlen]
   cases decide (l=m)<;>simp only[Bool.false_eq_true,if_false,if_true,EVS]
 ·have d:decide ((l.length:Int)=(m.length:Int))=false:=by simp only[decide_eq_false_iff_not];omega
  have hne:decide (l=m)=false:=by simp only[decide_eq_false_iff_not];rintro rfl;exact hlen rfl
  simp only[List.length_map,d,hne,EVS]
def ZjF (a b:PArc):Bool:=(((!decide (a.sig= -1))&&decide (b.from_=a.from_))&&decide (b.sig=a.sig))&& !decide (b.to_=a.to_)
def Zqv (a b:PArc):Bool:=((decide (a.from_=b.from_)&&decide (a.sig=b.sig))&&decide (0≤a.sig))&& !decide (a.to_=b.to_)
def wE (p:Nat×Nat):PV:=.lst [pI p.1,pI p.2]
def Zdj (w:PArc→PArc→Bool) (i:Nat) (a:PArc):Nat→List (Nat×Nat)→List PArc→List (Nat×Nat)
 |_,acc,[]=>acc
 |k,acc,b::l=>Zdj w i a (k+1) (if w a b=true then acc++[(i,k)] else acc) l
def ZgP (w:PArc→PArc→Bool) (arcs:List PArc):Nat→List (Nat×Nat)→List PArc→List (Nat×Nat)
 |_,acc,[]=>acc
 |i,acc,a::l=>ZgP w arcs (i+1) (Zdj w i a (i+1) acc (arcs.drop (i+1))) l
theorem Zh6 {R:Type} (w:PArc→PArc→Bool) (i:Nat) (a:PArc) (e:List (Nat×Nat)→Option R):∀(l:List PArc) (k:Nat) (acc:List (Nat×Nat)),Zax (fun (acc:List (Nat×Nat)) k b=>.inl (if w a b=true then acc++[(i,k)] else acc)) e k acc l=e (Zdj w i a k acc l)
 |[],k,acc=>rfl
 |b::l,k,acc=>by unfold Zax Zdj;exact Zh6 w i a e l (k+1) _
theorem Zh7 {R:Type} (w:PArc→PArc→Bool) (arcs:List PArc) (e:List (Nat×Nat)→Option R):∀(l:List PArc) (k:Nat) (acc:List (Nat×Nat)),Zax (fun (acc:List (Nat×Nat)) i a=>.inl (Zdj w i a (i+1) acc (arcs.drop (i+1)))) e k acc l=e (ZgP w arcs k acc l)
 |[],k,acc=>rfl
 |b::l,k,acc=>by unfold Zax ZgP;exact Zh7 w arcs e l (k+1) _
theorem ZjG (w:PArc→PArc→Bool) (i:Nat) (a:PArc):∀(l:List PArc) (k:Nat) (acc:List (Nat×Nat)),(Zdj w i a k acc l).length≤acc.length+l.length
 |[],k,acc=>by simp[Zdj]
 | b::l,k,acc=>by
  have:=ZjG w i a l (k+1) (if w a b=true then acc++[(i,k)] else acc)
  unfold Zdj
  split at this<;>rename_i h
  ·rw[if_pos h];simp at this⊢;omega
  ·rw[if_neg h];simp at this⊢;omega
theorem ZkH {w w':PArc→PArc→Bool} (i:Nat) (a:PArc):∀(l:List PArc) (k:Nat) (acc:List (Nat×Nat)),(∀b∈l,w a b=w' a b)→Zdj w i a k acc l=Zdj w' i a k acc l
 |[],k,acc,h=>rfl
 |b::l,k,acc,h=>by unfold Zdj;rw[h b List.mem_cons_self];exact ZkH i a l _ _ fun b hb=>h b (List.mem_cons_of_mem _ hb)
theorem ZkI {w w':PArc→PArc→Bool} (arcs:List PArc):∀(l:List PArc) (k:Nat) (acc:List (Nat×Nat)),(∀a∈l,∀b∈arcs,w a b=w' a b)→ZgP w arcs k acc l=ZgP w' arcs k acc l
 |[],k,acc,h=>rfl
 | a::l,k,acc,h=>by
  unfold ZgP
  rw[ZkH k a _ _ _ fun b hb=>h a List.mem_cons_self b (List.mem_of_mem_drop hb)]
  exact ZkI arcs l _ _ fun a ha=>h a (List.mem_cons_of_mem _ ha)
def Zh8 (w:PArc→PArc→Bool) (c:PSG):List (Nat×Nat):=ZgP w c.arcs 0 [] c.arcs
theorem ZyK {c:PSG} (h:ZgM c=true):Zh8 Zqv c=Zh8 ZjF c:=ZkI _ _ _ _ fun a ha b hb=>by
 have:=List.all_eq_true.1 h a ha
 unfold ZjE ZcQ Zft inR at this
 simp only[Bool.and_eq_true,Bool.or_eq_true,decide_eq_true_eq] at this
 have h1:a.sig= -1∨0≤a.sig:=by omega
 unfold Zqv ZjF
 rw[Bool.eq_iff_iff]
 simp only[Bool.and_eq_true,Bool.not_eq_true',decide_eq_true_eq,decide_eq_false_iff_not]
 omega
theorem Zsl (c:PSG) (hl:c.arcs.length≤4000):Zfu [eSG c]=some (.lst ((Zh8 ZjF c).map wE)):=by
 show (fun x0=>Zfu [x0]) _=_
 rw[Zqx]
 simp only[eSG,EVS]
 refine (ZbD (R:=PV) c.arcs (fun (acc:List (Nat×Nat)) i=>[.lst (acc.map wE),pI (Int.ofNat i)]) (fun i acc=>acc.length≤i * 4000) (fun acc i a=>.inl (Zdj ZjF i a (i+1) acc (c.arcs.drop (i+1)))) (fun acc=>some (.lst (acc.map wE))) _ (by omega) (fun acc i a acc' hi hx he=> ?_) (fun again acc i a hi hx=> ?_) (fun again acc hi=> ?_) (b:=[]) (by simp)).trans (Zh7 _ _ _ _ _ _)
 ·cases he
  have:=ZjG ZjF i a (c.arcs.drop (i+1)) (i+1) acc
  simp at this
  omega
 ·have hk:=Zg hx
  have hi':Zm (.lst (c.arcs.map Zap)) (.int .i64 (i:Int))=some (Zap a):=Zl hx
  have hnx:=Zk hk (show c.arcs.length≤9223372036854775807 by omega)
  simp only[List.length_map,ZY hk,hnx,hi',Zap,EVS]
  refine (Zsk (R:=PV) c.arcs (fun (acc:List (Nat×Nat)) k=>[.lst (acc.map wE),pI (Int.ofNat k)]) (fun k acc=>acc.length≤i * 4000+k) (fun acc k b=>.inl (if ZjF a b=true then acc++[(i,k)] else acc)) (fun acc=>again [.lst (acc.map wE),pI (Int.ofNat (i+1))]) _ (by omega) (fun acc k b acc' hi hx he=> ?_) (fun again' acc k b hi2 hx2=> ?_) (fun again' acc hi=> ?_) (b:=acc) (k:=i+1) (show i+1≤c.arcs.length from hk) (show acc.length≤i * 4000+(i+1) from Nat.le_trans hi (Nat.le_add_right _ _))).trans (Zh6 _ _ _ _ _ _ _)
  ·cases he
   show (if ZjF a b=true then acc++[(i,k)] else acc).length≤i * 4000+(k+1)
   have hi:acc.length≤i * 4000+k:=hi
   cases ZjF a b
   ·rw[if_neg (by decide)];omega
   ·rw[if_pos rfl,List.length_append,List.length_singleton];omega
  ·have hk2:=Zg hx2
   have hj:Zm (.lst (c.arcs.map Zap)) (.int .i64 (k:Int))=some (Zap b):=Zl hx2
   have hla:acc.length+[PV.lst [pI (i:Int),pI (k:Int)]].length≤4294967296∧[PV.lst [pI (i:Int),pI (k:Int)]].all (Zau 1)=true:=⟨by simp;omega,rfl⟩
   have hps:acc.map wE++[PV.lst [pI (i:Int),pI (k:Int)]]=(acc++[(i,k)]).map wE:=by simp[wE]
   unfold ZjF
   simp only[List.length_map,ZY hk2,Zk hk2 (show c.arcs.length≤9223372036854775807 by omega),hj,Zap,EVS]
   rw[show Int.negSucc 0=(-1:Int) from rfl]
   have hok:([PV.lst [pI (i:Int),pI (k:Int)]].all fun x=>Zau 1 x)=true:=rfl
   cases c1:decide (a.sig= -1)<;>cases c2:decide (b.from_=a.from_)<;>cases c3:decide (b.sig=a.sig)<;>cases c4:decide (b.to_=a.to_)<;>simp only[c1,c2,c3,c4,if_pos hla,hps,if_pos hok,EVS]
  ·simp only[List.length_map,Zav,hnx,EVS]
 ·simp only[List.length_map,Zav,EVS]
theorem Zt6 (c:PSG) (hl:c.arcs.length≤4000):Zg5 [eSG c]=some (.lst ((Zh8 Zqv c).map wE)):=by
 show (fun x0=>Zg5 [x0]) _=_
 rw[ZsF]
 simp only[eSG,EVS]
 refine (ZbD (R:=PV) c.arcs (fun (acc:List (Nat×Nat)) i=>[.lst (acc.map wE),pI (Int.ofNat i)]) (fun i acc=>acc.length≤i * 4000) (fun acc i a=>.inl (Zdj Zqv i a (i+1) acc (c.arcs.drop (i+1)))) (fun acc=>some (.lst (acc.map wE))) _ (by omega) (fun acc i a acc' hi hx he=> ?_) (fun again acc i a hi hx=> ?_) (fun again acc hi=> ?_) (b:=[]) (by simp)).trans (Zh7 _ _ _ _ _ _)
 ·cases he
  have:=ZjG Zqv i a (c.arcs.drop (i+1)) (i+1) acc
  simp at this
  omega
 ·have hk:=Zg hx
  have hi':Zm (.lst (c.arcs.map Zap)) (.int .i64 (i:Int))=some (Zap a):=Zl hx
  have hnx:=Zk hk (show c.arcs.length≤9223372036854775807 by omega)
  simp only[List.length_map,ZY hk,hnx,hi',Zap,EVS]
  refine (Zsk (R:=PV) c.arcs (fun (acc:List (Nat×Nat)) k=>[.lst (acc.map wE),pI (Int.ofNat k)]) (fun k acc=>acc.length≤i * 4000+k) (fun acc k b=>.inl (if Zqv a b=true then acc++[(i,k)] else acc)) (fun acc=>again [.lst (acc.map wE),pI (Int.ofNat (i+1))]) _ (by omega) (fun acc k b acc' hi hx he=> ?_) (fun again' acc k b hi2 hx2=> ?_) (fun again' acc hi=> ?_) (b:=acc) (k:=i+1) (show i+1≤c.arcs.length from hk) (show acc.length≤i * 4000+(i+1) from Nat.le_trans hi (Nat.le_add_right _ _))).trans (Zh6 _ _ _ _ _ _ _)
  ·cases he
   show (if Zqv a b=true then acc++[(i,k)] else acc).length≤i * 4000+(k+1)
   have hi:acc.length≤i * 4000+k:=hi
   cases Zqv a b
   ·rw[if_neg (by decide)];omega
   ·rw[if_pos rfl,List.length_append,List.length_singleton];omega
  ·have hk2:=Zg hx2
   have hj:Zm (.lst (c.arcs.map Zap)) (.int .i64 (k:Int))=some (Zap b):=Zl hx2
   have hla:acc.length+[PV.lst [pI (i:Int),pI (k:Int)]].length≤4294967296∧[PV.lst [pI (i:Int),pI (k:Int)]].all (Zau 1)=true:=⟨by simp;omega,rfl⟩
   have hps:acc.map wE++[PV.lst [pI (i:Int),pI (k:Int)]]=(acc++[(i,k)]).map wE:=by simp[wE]
   unfold Zqv
   simp only[List.length_map,ZY hk2,Zk hk2 (show c.arcs.length≤9223372036854775807 by omega),hj,Zap,EVS]
   have hok:([PV.lst [pI (i:Int),pI (k:Int)]].all fun x=>Zau 1 x)=true:=rfl
   cases c1:decide (a.from_=b.from_)<;>cases c2:decide (a.sig=b.sig)<;>cases c3:decide (0≤a.sig)<;>cases c4:decide (a.to_=b.to_)<;>simp only[c1,c2,c3,c4,if_pos hla,hps,if_pos hok,EVS]
  ·simp only[List.length_map,Zav,hnx,EVS]
 ·simp only[List.length_map,Zav,EVS]
theorem ZiC {c:PSG} (h:sgV c=true):Zgf c=true∧Zqr c=true∧ZgM c=true∧Zh2 c=true:=by
 unfold sgV at h
 simp only[Bool.and_eq_true] at h
 exact ⟨h.1.1,h.1.2,h.2.1,h.2.2⟩
theorem Zsm {c:PSG} (h:sgV c=true):c.arcs.length≤4000:=by
 have:=(ZiC h).1
 unfold Zgf at this
 simp only[Bool.and_eq_true,Bool.not_eq_true',decide_eq_false_iff_not] at this
 omega
def Zvo (c:PSG) (n:PNet):Bool:=((!ZgN c.arcs)&&decide (((Zh8 ZjF c).length:Int)=0))&&decide (c.signals=n.signals)
def goP (c:PSG) (n:PNet):Bool:=(sgV c&&ZfP n)&&Zvo c n
theorem Zwl (c:PSG) (n:PNet) (hc:SGFit c) (hn:n.Fit):ZiF [eSG c,Zz n]=some (pB (goP c n)):=by
 have g1:=Zt4 c hc
 have g2:=Zsh n hn
 show (fun x0 x1=>ZiF [x0,x1]) _ _=_
 rw[Zue]
 unfold goP Zvo
 simp only[eSG,Zz] at g1 g2
 cases c1:sgV c
 ·rw[c1] at g1;simp only[eSG,Zz,Z5,Zak,g1,EVS]
 cases c2:ZfP n
 ·rw[c1] at g1;rw[c2] at g2;simp only[eSG,Zz,Z5,Zak,g1,g2,EVS]
 rw[c1] at g1;rw[c2] at g2
 have g3:=Zqu c hc.arcs
 rw[Zt5 (ZiC c1).2.2.1] at g3
 have g4:=Zt6 c (Zsm c1)
 rw[ZyK (ZiC c1).2.2.1] at g4
 have g5:=ZkG c.signals n.signals hc.sigs
 simp only[eSG] at g3 g4
 cases c3:ZgN c.arcs
 ·rw[c3] at g3
  cases c4:decide (((Zh8 ZjF c).length:Int)=0)
  ·simp only[eSG,Zz,Z5,Zak,g1,g2,g3,g4,c4,List.length_map,EVS]
  ·simp only[eSG,Zz,Z5,Zak,g1,g2,g3,g4,g5,c4,List.length_map,EVS]
 ·rw[c3] at g3;simp only[eSG,Zz,Z5,Zak,g1,g2,g3,EVS]
theorem ZjH (c:PSG) (n:PNet) (hc:SGFit c) (hn:n.Fit):Zbj [eSG c,Zz n]=some (.tup [pB (goP c n),pB (sgV c&&ZfP n)]):=by
 have g1:=Zhv c hc
 have g2:=ZjC n hn
 rw[←net_eq] at g2
 have g3:=Zbp c.arcs hc.arcs
 have g5:=Zgh c.signals n.signals hc.sigs
 show (fun x0 x1=>Zbj [x0,x1]) _ _=_
 rw[ZjO]
 unfold goP Zvo
 simp only[eSG,Zz] at g1 g2
 cases c1:sgV c
 ·rw[c1] at g1;simp only[eSG,Zz,Z5,Zak,g1,EVS];rfl
 cases c2:ZfP n
 ·rw[c1] at g1;rw[c2] at g2;simp only[eSG,Zz,Z5,Zak,g1,g2,EVS];rfl
 rw[c1] at g1;rw[c2] at g2
 have g4:=Zsl c (Zsm c1)
 simp only[eSG] at g4
 cases c3:ZgN c.arcs
 ·rw[c3] at g3
  cases c4:decide (((Zh8 ZjF c).length:Int)=0)
  ·simp only[eSG,Zz,Z5,Zak,g1,g2,g3,g4,c4,List.length_map,EVS];rfl
  ·simp only[eSG,Zz,Z5,Zak,g1,g2,g3,g4,g5,c4,List.length_map,EVS];rfl
 ·rw[c3] at g3;simp only[eSG,Zz,Z5,Zak,g1,g2,g3,EVS];rfl
end Go.Proofs.YtkgnjijonikchaaGreat
