import Derived.Test.YtjjobbamoeaogaaDoorParseNetlistF
namespace Go.Proofs.YtjjobbamoeaogaaDoor
open Go.RowKit
set_option linter.unusedVariables false
set_option linter.unusedSimpArgs false
theorem ZcB (n lo hi:Int):ZbN [pI n,pI lo,pI hi]=some (pB (decide (lo≤n)&&decide (n≤hi))):=by
 show (fun x0 x1 x2=>ZbN [x0,x1,x2]) _ _ _=_
 rw[Zrc]
 by_cases h:lo≤n<;>simp only[h,EVS]
def Zp8 (first:Bool) (b:UInt8):Bool:=(decide ((97:Int)≤b.toNat)&&decide ((b.toNat:Int)≤122))||(!first&&(!decide ((b.toNat:Int)<48)&& !decide ((57:Int)<b.toNat)))
def ZeY :Bool→List UInt8→Bool
 |_,[]=>true
 |f,b::r=>Zp8 f b&&ZeY false r
def ZQ (s:List UInt8):Bool:=ZeY true s&&(decide ((1:Int)≤s.length)&&decide ((s.length:Int)≤6))
theorem Zj1 (s:List UInt8) (hs:s.length≤9223372036854775807):ZdN [.str s]=some (pB (ZQ s)):=by
 show (fun x0=>ZdN [x0]) _=_
 rw[Zn6]
 refine (congrArg (Zk true) (Zet (R:=PV) (fun k:Nat=>[pI (Int.ofNat k)]) (fun k=>s.length+1 - k) (fun k=>some (pB (ZeY (k==0) (s.drop k)&&(decide ((1:Int)≤s.length)&&decide ((s.length:Int)≤6))))) _ (fun again k ih=> ?_) _ 0 (by omega))).trans ?_
 ·by_cases hk:k<s.length
  ·obtain ⟨b,hb⟩:∃b,s[k]?=some b:=⟨s[k],List.getElem?_eq_getElem hk⟩
   have hd:s.drop k=b::s.drop (k+1):=by
    obtain ⟨h1,rfl⟩:=List.getElem?_eq_some_iff.1 hb
    exact List.drop_eq_getElem_cons h1
   have hlt:decide ((k:Int)<s.length)=true:=by simpa using hk
   have hw:IntKind.i64.wrap ((k:Int)+1)=((k+1:Nat):Int):=by rw[ZbT (by omega) (by omega)];omega
   have hnext:=ih (k+1) (by omega)
   simp only[Int.ofNat_eq_natCast] at hnext
   have hk0:decide ((k:Int)=0)=(k==0):=by rw[Bool.eq_iff_iff];simp
   rw[hd]
   have hk1:(k+1==0)=false:=rfl
   rw[hk1] at hnext
   have ev1:=hlt
   have ev2:=Z9 (k:=.i64) hb
   simp only[ZeY,Zp8,hlt,Z9 hb,hk0,hw,hnext,EVS]
   by_cases c1:(97:Int)≤b.toNat
   all_goals simp only[c1,Z9 hb,EVS]
   by_cases c2:(b.toNat:Int)≤122
   all_goals try simp only[c2,Z9 hb,EVS]
   all_goals try simp only[hk0]
   all_goals try (cases c5:(k==0))
   all_goals try simp only[c5,Z9 hb,EVS]
   all_goals try (by_cases c3:(b.toNat:Int)<48)
   all_goals try simp only[c3,Z9 hb,EVS]
   all_goals try (by_cases c4:(57:Int)<b.toNat)
   all_goals try simp only[c4,Z9 hb,EVS]
  ·have hd:s.drop k=[]:=List.drop_eq_nil_of_le (by omega)
   have hlt:decide ((k:Int)<s.length)=false:=by simpa using hk
   rw[hd]
   simp only[ZeY,hlt,ZcB,EVS]
 ·simp only[ZQ,List.drop_zero,beq_self_eq_true,EVS]
def Zgn (b:UInt8):Bool:=decide ((b.toNat:Int)=48)||decide ((b.toNat:Int)=49)||decide ((b.toNat:Int)=45)
def Zd3 (s:List UInt8):Bool:=Zar (fun _ b=>Zgn b) 0 s&&(decide ((1:Int)≤s.length)&&decide ((s.length:Int)≤8))
theorem Zi {α:Type} {l:List α} {k:Nat} {x:α} (h:l[k]?=some x):k<l.length:=(List.getElem?_eq_some_iff.1 h).1
theorem ZH {k n:Nat} (h:k<n) (hn:n≤9223372036854775807):IntKind.i64.wrap ((k:Int)+1)=((k+1:Nat):Int):=by rw[ZbT (by omega) (by omega)];omega
theorem Zbx {k n:Nat} (h:k<n):decide ((k:Int)<(n:Int))=true:=by simpa using h
theorem Zbs {n:Nat}:decide ((n:Int)<(n:Int))=false:=by simp
theorem ZnJ (s:List UInt8) (hs:s.length≤9223372036854775807):Zd6 [.str s]=some (pB (Zd3 s)):=by
 show (fun x0=>Zd6 [x0]) _=_
 rw[Zms]
 refine (congrArg (Zk true) (ZbF (R:=PV) s (fun _ b=>Zgn b) (some (pB false)) (some (pB (decide ((1:Int)≤s.length)&&decide ((s.length:Int)≤8)))) _ hs (fun again k b hb=> ?_) (fun again=> ?_))).trans ?_
 ·have hk:=Zi hb
  cases c1:decide ((b.toNat:Int)=48)<;>cases c2:decide ((b.toNat:Int)=49)<;>cases c3:decide ((b.toNat:Int)=45)<;>
   simp only[Zgn,Zbx hk,ZH hk hs,Z9 hb,c1,c2,c3,EVS]
 ·simp only[Zbs,ZcB,EVS]
 ·unfold Zd3
  cases Zar (fun _ b=>Zgn b) 0 s<;>simp only[EVS]
abbrev Zah (s:List UInt8×Int):PV:=.agg [.str s.1,pI s.2]
def inR (n lo hi:Int):Bool:=decide (lo≤n)&&decide (n≤hi)
def Zhu (l:List (List UInt8×Int)) (k:Nat) (s:List UInt8×Int):Bool:=(ZQ s.1&&inR s.2 1 3)&&Zar (fun _ y=> !decide (s.1=y.1)) 0 (l.take k)
def Zhv (l:List (List UInt8×Int)):Bool:=Zar (Zhu l) 0 l&&inR l.length 1 8
theorem Zlp (x:List UInt8×Int):Zag 2 (Zah x)=true:=rfl
theorem ZkN (l:List (List UInt8×Int)) (hl:l.length≤9223372036854775807) (hs:∀s∈l,s.1.length≤9223372036854775807):Zc0 [.lst (l.map Zah)]=some (pB (Zhv l)):=by
 show (fun x0=>Zc0 [x0]) _=_
 rw[Zkn]
 simp only[EVS]
 refine (congrArg (Zk true) (ZbF (R:=PV) l (Zhu l) (some (pB false)) (some (pB (inR l.length 1 8))) _ hl (fun again k s hb=> ?_) (fun again=> ?_))).trans ?_
 ·have hk:=Zi hb
  have hi:Zz (.lst (l.map Zah)) (.int .i64 (k:Int))=some (Zah s):=ZI hb
  have hc:Zdc 2 (.lst (l.map Zah)) none (some (.int .i64 (k:Int)))=some (.lst ((l.take k).map Zah)):=ZiW Zlp (by omega)
  have hn:=Zj1 s.1 (hs s (List.mem_of_getElem? hb))
  simp only[Zbx hk,ZH hk hl,hi,Zah,hn,ZcB,Zhu,inR,EVS]
  obtain c1|c1:=(Bool.eq_false_or_eq_true (ZQ s.1)).symm<;>simp only[c1,ZcB,EVS]
  obtain c2|c2:=(Bool.eq_false_or_eq_true (decide (1≤s.2)&&decide (s.2≤3))).symm<;>simp only[c2,EVS]
  simp only[hc,EVS]
  refine (ZbF (R:=PV) (l.take k) (fun _ y=> !decide (s.1=y.1)) (some (pB false)) (again [pI ((k+1:Nat):Int)]) _ (by simp;omega) (fun again' j y hy=> ?_) (fun again'=> ?_)).trans ?_
  ·have hj:=Zi hy
   have hi':Zz (.lst ((l.take k).map Zah)) (.int .i64 (j:Int))=some (Zah y):=ZI hy
   simp only[Zbx hj,ZH hj (by simp;omega),hi',Zah,EVS]
   cases c3:decide (s.1=y.1)<;>simp only[c3,EVS]
  ·simp only[Zbs,ZH hk hl,EVS]
  ·rfl
 ·simp only[Zbs,ZcB,inR,EVS]
 ·unfold Zhv
  cases Zar (Zhu l) 0 l<;>simp only[EVS]
def Zf2 (n:Int) (l:List (List UInt8)):Bool:=Zar (fun _ c=>Zd3 c&&decide ((c.length:Int)=n)) 0 l
def Zhw (n:Int) (l:List (List UInt8)):Bool:=Zf2 n l&&(inR n 1 8&&decide ((l.length:Int)≤60))
theorem ZnK (n:Int) (l:List (List UInt8)) (hl:l.length≤9223372036854775807) (hs:∀s∈l,s.length≤9223372036854775807):Zd7 [pI n,.lst (l.map PV.str)]=some (pB (Zhw n l)):=by
 show (fun x0 x1=>Zd7 [x0,x1]) _ _=_
 rw[Zmu]
 simp only[EVS]
 refine (congrArg (Zk true) (ZbF (R:=PV) l (fun _ c=>Zd3 c&&decide ((c.length:Int)=n)) (some (pB false)) (some (pB (inR n 1 8&&decide ((l.length:Int)≤60)))) _ hl (fun again k s hb=> ?_) (fun again=> ?_))).trans ?_
 ·have hk:=Zi hb
  have hi:Zz (.lst (l.map PV.str)) (.int .i64 (k:Int))=some (.str s):=ZI hb
  have hn:=ZnJ s (hs s (List.mem_of_getElem? hb))
  simp only[Zbx hk,ZH hk hl,hi,hn,EVS]
  obtain c1|c1:=(Bool.eq_false_or_eq_true (Zd3 s)).symm<;>simp only[c1,EVS]
  obtain c2|c2:=(Bool.eq_false_or_eq_true (decide ((s.length:Int)=n))).symm<;>simp only[c2,EVS]
 ·simp only[Zbs,ZcB,inR,EVS]
  obtain c1|c1:=(Bool.eq_false_or_eq_true (decide (1≤n)&&decide (n≤8))).symm<;>simp only[c1,EVS]
 ·unfold Zhw Zf2
  cases Zar (fun _ c=>Zd3 c&&decide ((c.length:Int)=n)) 0 l<;>simp only[EVS]
structure PWire where
 name:List UInt8
 kind:Int
 ins:List (Int×Bool)
 cover:List (List UInt8)
structure PNet where
 signals:List (List UInt8×Int)
 wires:List PWire
abbrev ZbJ (p:Int×Bool):PV:=.agg [pI p.1,pB p.2]
abbrev Zv (w:PWire):PV:=.agg [.str w.name,pI w.kind,.lst (w.ins.map ZbJ),.lst (w.cover.map PV.str)]
abbrev Za0 (n:PNet):PV:=.agg [.lst (n.signals.map Zah),.lst (n.wires.map Zv)]
abbrev ZR {α:Type} (l:List α):Prop:=l.length≤9223372036854775807
structure PWire.Fit (w:PWire):Prop where
 name:ZR w.name
 ins:ZR w.ins
 cover:ZR w.cover
 cubes:∀c∈w.cover,ZR c
structure PNet.Fit (n:PNet):Prop where
 signals:ZR n.signals
 names:∀s∈n.signals,ZR s.1
 wires:ZR n.wires
 wire:∀w∈n.wires,w.Fit
def Zd4 (n:PNet) (k:Nat) (p:Int×Bool):Bool:=inR p.1 0 ((n.wires.length:Int) - 1)&& !(decide ((n.signals.length:Int)≤k)&&decide ((k:Int)≤p.1))
def Zdj (k:Nat) (kind:Int) (ins:List (Int×Bool)):Bool:=
 if decide (kind=1)=true then decide ((ins.length:Int)=0)
 else if decide (kind=4)=true then decide ((ins.length:Int)=2)
 else if decide (kind=5)=true then decide ((ins.length:Int)=0)||(match ins with|[p]=>decide (p.1=k)&& !p.2|_=>false)
 else inR ins.length 1 8
def Zj2 (n:PNet) (k:Nat) (w:PWire):Bool:=Zar (fun _ p=>Zd4 n k p) 0 w.ins&&Zdj k w.kind w.ins
theorem ZnL (n:PNet) (k:Nat) (w:PWire) (hn:n.Fit) (hw:w.Fit):Zd8 [Za0 n,pI k,Zv w]=some (pB (Zj2 n k w)):=by
 show (fun x0 x1 x2=>Zd8 [x0,x1,x2]) _ _ _=_
 rw[Zmw]
 simp only[Za0,Zv,EVS]
 have hwl:IntKind.i64.wrap ((n.wires.length:Int) - 1)=(n.wires.length:Int) - 1:=ZbT (by omega) (by have:=hn.wires;unfold ZR at this;omega)
 have hi0:=hw.ins
 unfold ZR at hi0
 refine (congrArg (Zk true) (ZbF (R:=PV) w.ins (fun _ p=>Zd4 n k p) (some (pB false)) (some (pB (Zdj k w.kind w.ins))) _ hi0 (fun again j p hb=> ?_) (fun again=> ?_))).trans ?_
 ·have hk:=Zi hb
  have hi:Zz (.lst (w.ins.map ZbJ)) (.int .i64 (j:Int))=some (ZbJ p):=ZI hb
  simp only[Zbx hk,ZH hk hi0,hi,ZbJ,hwl,ZcB,Zd4,inR,EVS]
  obtain c1|c1:=(Bool.eq_false_or_eq_true (decide (0≤p.1)&&decide (p.1≤(n.wires.length:Int) - 1))).symm<;>simp only[c1,EVS]
  obtain c2|c2:=(Bool.eq_false_or_eq_true (decide ((n.signals.length:Int)≤(k:Int)))).symm<;>simp only[c2,EVS]
  obtain c3|c3:=(Bool.eq_false_or_eq_true (decide ((k:Int)≤p.1))).symm<;>simp only[c3,EVS]
 ·simp only[Zbs,Zdj,EVS]
  obtain c1|c1:=(Bool.eq_false_or_eq_true (decide (w.kind=1))).symm<;>simp only[c1,EVS]
  obtain c2|c2:=(Bool.eq_false_or_eq_true (decide (w.kind=4))).symm<;>simp only[c2,EVS]
  obtain c3|c3:=(Bool.eq_false_or_eq_true (decide (w.kind=5))).symm<;>simp only[c3,ZcB,inR,EVS]
  have h01:decide ((0:Int)=1)=false:=rfl
  have h00:decide ((0:Int)=0)=true:=rfl
  have h11:decide ((1:Int)=1)=true:=rfl
  have h10:decide ((1:Int)=0)=false:=rfl
  rcases hq:w.ins with _|⟨p,_|⟨q,r⟩⟩
  ·simp only[List.length_nil,h00,EVS]
  ·have hi:Zz (.lst ([p].map ZbJ)) (.int .i64 0)=some (ZbJ p):=rfl
   simp only[List.length_cons,List.length_nil,Nat.zero_add,h11,h10,hi,ZbJ,List.drop_zero,List.drop_succ_cons,EVS]
   obtain c4|c4:=(Bool.eq_false_or_eq_true (decide (p.1=(k:Int)))).symm<;>simp only[c4,h11,h10,hi,ZbJ,List.drop_zero,List.drop_succ_cons,EVS]
  ·have h2:decide (((r.length+1+1:Nat):Int)=0)=false:=by simp;omega
   have h3:decide (((r.length+1+1:Nat):Int)=1)=false:=by simp;omega
   simp only[List.length_cons,h2,h3,EVS]
 ·unfold Zj2
  cases Zar (fun _ p=>Zd4 n k p) 0 w.ins<;>simp only[EVS]
def ZdH (n:PNet) (k:Nat) (w:PWire):Bool:=match n.signals[k]? with|some s=>decide (w.name=s.1)&&(decide (w.kind=1)==decide (s.2=1))|none=>false
def Zhx (n:PNet) (k:Nat) (w:PWire):Bool:=
 let seen:=decide ((k:Int)<(n.signals.length:Int))
 (inR w.kind 1 5&&(seen||decide (w.kind=2)||decide (w.kind=3)))&&(!seen||ZdH n k w)&&(if decide (w.kind=5)=true then Zhw n.signals.length w.cover else !decide ((0:Int)<w.cover.length))&&(ZQ w.name&&Zj2 n k w)
theorem ZnM (n:PNet) (k:Nat) (w:PWire) (hn:n.Fit) (hw:w.Fit):Zd9 [Za0 n,pI k,Zv w]=some (pB (Zhx n k w)):=by
 have g1:=ZnK n.signals.length w.cover hw.cover hw.cubes
 have g2:=Zj1 w.name hw.name
 have g3:=ZnL n k w hn hw
 have g4:=ZcB w.kind 1 5
 simp only[Za0,Zv] at g3
 show (fun x0 x1 x2=>Zd9 [x0,x1,x2]) _ _ _=_
 rw[Zmy]
 simp only[Za0,Zv,g4,EVS]
 have fin:∀b:Bool,((some (pB (ZQ w.name&&b))))=(some (pB (ZQ w.name&&b))):=fun _=>rfl
 simp only[Zhx,inR]
 obtain c1|c1:=(Bool.eq_false_or_eq_true (decide (1≤w.kind)&&decide (w.kind≤5))).symm<;>simp only[c1,EVS]
 obtain c2|c2:=(Bool.eq_false_or_eq_true (decide ((k:Int)<(n.signals.length:Int)))).symm<;>simp only[c2,EVS]
 ·obtain c3|c3:=(Bool.eq_false_or_eq_true (decide (w.kind=2))).symm<;>simp only[c3,EVS]
  ·obtain c4|c4:=(Bool.eq_false_or_eq_true (decide (w.kind=3))).symm<;>simp only[c4,EVS]
   have c5:decide (w.kind=5)=false:=by have:=of_decide_eq_true c4;simp;omega
   simp only[c5,EVS]
   obtain c6|c6:=(Bool.eq_false_or_eq_true (decide ((0:Int)<w.cover.length))).symm<;>simp only[c6,g2,EVS]
   obtain c7|c7:=(Bool.eq_false_or_eq_true (ZQ w.name)).symm<;>simp only[c7,g3,EVS]
  ·have c4:decide (w.kind=3)=false:=by have:=of_decide_eq_true c3;simp;omega
   have c5:decide (w.kind=5)=false:=by have:=of_decide_eq_true c3;simp;omega
   simp only[c4,c5,EVS]
   obtain c6|c6:=(Bool.eq_false_or_eq_true (decide ((0:Int)<w.cover.length))).symm<;>simp only[c6,g2,EVS]
   obtain c7|c7:=(Bool.eq_false_or_eq_true (ZQ w.name)).symm<;>simp only[c7,g3,EVS]
 ·have hk:k<n.signals.length:=by have:=of_decide_eq_true c2;omega
  have hs:n.signals[k]?=some n.signals[k]:=List.getElem?_eq_getElem hk
  have hi:Zz (.lst (n.signals.map Zah)) (.int .i64 (k:Int))=some (Zah n.signals[k]):=ZI hs
  simp only[ZdH,hs,hi,Zah,List.drop_zero,List.drop_succ_cons,EVS]
  obtain c3|c3:=(Bool.eq_false_or_eq_true (decide (w.name=n.signals[k].1))).symm<;>simp only[c3,hi,Zah,List.drop_zero,List.drop_succ_cons,EVS]
  obtain c4|c4:=(Bool.eq_false_or_eq_true (decide (w.kind=1)==decide (n.signals[k].2=1))).symm<;>simp only[bne,c4,hi,Zah,List.drop_zero,List.drop_succ_cons,EVS]
  obtain c5|c5:=(Bool.eq_false_or_eq_true (decide (w.kind=5))).symm<;>simp only[c5,g1,g2,EVS]
  ·obtain c6|c6:=(Bool.eq_false_or_eq_true (decide ((0:Int)<w.cover.length))).symm<;>simp only[c6,g2,EVS]
   obtain c7|c7:=(Bool.eq_false_or_eq_true (ZQ w.name)).symm<;>simp only[c7,g3,EVS]
  ·obtain c6|c6:=(Bool.eq_false_or_eq_true (Zhw n.signals.length w.cover)).symm<;>simp only[c5,c6,g2,EVS]
   obtain c7|c7:=(Bool.eq_false_or_eq_true (ZQ w.name)).symm<;>simp only[c5,c7,g3,EVS]
def ZaP (n:PNet) (k:Nat) (w:PWire):Bool:=Zhx n k w&&Zar (fun _ v=> !decide (v.name=w.name)) 0 (n.wires.take k)
def Zbt (n:PNet):Bool:=Zhv n.signals&&(!decide ((n.wires.length:Int)<n.signals.length)&& !decide ((24:Int)<n.wires.length))&&Zar (ZaP n) 0 n.wires
theorem Zj3 (x:PWire):Zag 4 (Zv x)=true:=rfl
theorem ZnN (n:PNet) (hn:n.Fit):Zea [Za0 n]=some (pB (Zbt n)):=by
 have g1:=ZkN n.signals hn.signals hn.names
 have hwl:=hn.wires
 unfold ZR at hwl
 show (fun x0=>Zea [x0]) _=_
 rw[ZmA]
 simp only[Za0,g1,EVS]
 unfold Zbt
 obtain c1|c1:=(Bool.eq_false_or_eq_true (Zhv n.signals)).symm<;>simp only[c1,EVS]
 obtain c2|c2:=(Bool.eq_false_or_eq_true (decide ((n.wires.length:Int)<n.signals.length))).symm<;>simp only[c2,EVS]
 obtain c3|c3:=(Bool.eq_false_or_eq_true (decide ((24:Int)<n.wires.length))).symm<;>simp only[c3,EVS]
 refine (congrArg (Zk true) (ZbF (R:=PV) n.wires (ZaP n) (some (pB false)) (some (pB true)) _ hwl (fun again k w hb=> ?_) (fun again=> ?_))).trans ?_
 ·have hk:=Zi hb
  have hi:Zz (.lst (n.wires.map Zv)) (.int .i64 (k:Int))=some (Zv w):=ZI hb
  have hc:Zdc 4 (.lst (n.wires.map Zv)) none (some (.int .i64 (k:Int)))=some (.lst ((n.wires.take k).map Zv)):=ZiW Zj3 (by omega)
  have g3:=ZnM n k w hn (hn.wire w (List.mem_of_getElem? hb))
  simp only[Za0,Zv] at g3
  simp only[Zbx hk,ZH hk hwl,hi,Zv,ZaP,g3,EVS]
  obtain c4|c4:=(Bool.eq_false_or_eq_true (Zhx n k w)).symm<;>simp only[c4,hc,EVS]
  refine (ZbF (R:=PV) (n.wires.take k) (fun _ v=> !decide (v.name=w.name)) (some (pB false)) (again [pI ((k+1:Nat):Int)]) _ (by simp;omega) (fun again' j y hy=> ?_) (fun again'=> ?_)).trans ?_
  ·have hj:=Zi hy
   have hi':Zz (.lst ((n.wires.take k).map Zv)) (.int .i64 (j:Int))=some (Zv y):=ZI hy
   simp only[Zbx hj,ZH hj (by simp;omega),hi',Zv,EVS]
   obtain c5|c5:=(Bool.eq_false_or_eq_true (decide (y.name=w.name))).symm<;>simp only[c5,EVS]
  ·simp only[Zbs,ZH hk hwl,EVS]
  ·rfl
 ·simp only[Zbs,EVS]
 ·cases Zar (ZaP n) 0 n.wires<;>simp only[EVS]
theorem Zbm (n lo hi:Int):ZaE [pI n,pI lo,pI hi]=some (pB (inR n lo hi)):=by
 show (fun x0 x1 x2=>ZaE [x0,x1,x2]) _ _ _=_
 rw[Zn9]
 unfold inR
 by_cases h:lo≤n<;>simp only[h,EVS]
def Zic (k:Nat) (b:UInt8):Bool:=(decide ((97:Int)≤b.toNat)&&decide ((b.toNat:Int)≤122))||(!decide ((k:Int)=0)&&(decide ((48:Int)≤b.toNat)&&decide ((b.toNat:Int)≤57)))
def Zmf (s:List UInt8):Bool:=Zar Zic 0 s&&inR s.length 1 6
theorem Zo2 (s:List UInt8) (hs:s.length≤9223372036854775807):ZcV [.str s]=some (pB (Zmf s)):=by
 show (fun x0=>ZcV [x0]) _=_
 rw[Zoa]
 refine (congrArg (Zk true) (ZbF (R:=PV) s Zic (some (pB false)) (some (pB (inR s.length 1 6))) _ hs (fun again k b hb=> ?_) (fun again=> ?_))).trans ?_
 ·have hk:=Zi hb
  simp only[Zic,Zbx hk,ZH hk hs,Z9 hb,EVS]
  obtain c1|c1:=(Bool.eq_false_or_eq_true (decide ((97:Int)≤b.toNat))).symm<;>simp only[c1,Z9 hb,EVS]
  all_goals (obtain c2|c2:=(Bool.eq_false_or_eq_true (decide ((b.toNat:Int)≤122))).symm<;>try simp only[c2,Z9 hb,EVS])
  all_goals (obtain c3|c3:=(Bool.eq_false_or_eq_true (decide ((48:Int)≤b.toNat))).symm<;>try simp only[c3,Z9 hb,EVS])
  all_goals (obtain c4|c4:=(Bool.eq_false_or_eq_true (decide ((b.toNat:Int)≤57))).symm<;>try simp only[c4,Z9 hb,EVS])
  all_goals (obtain c5|c5:=(Bool.eq_false_or_eq_true (decide ((k:Int)=0))).symm<;>try simp only[c5,EVS])
 ·simp only[Zbs,Zbm,EVS]
 ·unfold Zmf
  cases Zar Zic 0 s<;>simp only[EVS]
theorem Zj4 :∀(l:List UInt8) (k:Nat),ZeY (k==0) l=Zar Zic k l
 |[],_=>rfl
 | b::r,k=>by
  have h:=Zj4 r (k+1)
  have h1:(k+1==0)=false:=rfl
  rw[h1] at h
  unfold ZeY Zar
  rw[h]
  congr 1
  unfold Zp8 Zic
  have e1:decide ((48:Int)≤b.toNat)= !decide ((b.toNat:Int)<48):=by rw[Bool.eq_iff_iff];simp
  have e2:decide ((b.toNat:Int)≤57)= !decide ((57:Int)<b.toNat):=by rw[Bool.eq_iff_iff];simp
  have e3:decide ((k:Int)=0)=(k==0):=by rw[Bool.eq_iff_iff];simp
  rw[e1,e2,e3]
theorem Ztt (s:List UInt8):ZQ s=Zmf s:=by
 unfold ZQ Zmf inR
 rw[←Zj4 s 0]
 rfl
theorem ZiB (s:List UInt8) (hs:s.length≤9223372036854775807):ZcV [.str s]=some (pB (ZQ s)):=(Zo2 s hs).trans (by rw[Ztt])
def Zel (s:List UInt8) (n:Int):Bool:=Zar (fun _ b=>Zgn b) 0 s&&(decide ((s.length:Int)=n)&&inR n 1 8)
theorem Zo3 (s:List UInt8) (n:Int) (hs:s.length≤9223372036854775807):Ze8 [.str s,pI n]=some (pB (Zel s n)):=by
 show (fun x0 x1=>Ze8 [x0,x1]) _ _=_
 rw[Zoc]
 refine (congrArg (Zk true) (ZbF (R:=PV) s (fun _ b=>Zgn b) (some (pB false)) (some (pB (decide ((s.length:Int)=n)&&inR n 1 8))) _ hs (fun again k b hb=> ?_) (fun again=> ?_))).trans ?_
 ·have hk:=Zi hb
  simp only[Zgn,Zbx hk,ZH hk hs,Z9 hb,EVS]
  obtain c1|c1:=(Bool.eq_false_or_eq_true (decide ((b.toNat:Int)=48))).symm<;>simp only[c1,Z9 hb,EVS]
  obtain c2|c2:=(Bool.eq_false_or_eq_true (decide ((b.toNat:Int)=49))).symm<;>simp only[c2,Z9 hb,EVS]
  obtain c3|c3:=(Bool.eq_false_or_eq_true (decide ((b.toNat:Int)=45))).symm<;>simp only[c3,Z9 hb,EVS]
 ·simp only[Zbs,EVS]
  obtain c1|c1:=(Bool.eq_false_or_eq_true (decide ((s.length:Int)=n))).symm<;>simp only[c1,Zbm,EVS]
 ·unfold Zel
  cases Zar (fun _ b=>Zgn b) 0 s<;>simp only[EVS]
def ixf {α:Type} (q:α→Bool):Nat→List α→Int
 |_,[]=> -1
 |k,x::r=>if q x=true then (k:Int) else ixf q (k+1) r
theorem Zp9 {α:Type} (q:α→Bool):∀(l:List α) (k:Nat),rgo (fun k x=>if q x=true then some (some (pI (k:Int))) else none) (some (pI (-1))) k l=some (pI (ixf q k l))
 |[],k=>rfl
 | x::r,k=>by
  unfold rgo ixf
  cases q x
  ·simp[Zp9 q r (k+1)]
  ·simp
theorem Zj5 {α:Type} (q:α→Bool):∀(l:List α) (k:Nat),decide ((0:Int)≤ixf q k l)= !Zar (fun _ x=> !q x) k l
 |[],k=>rfl
 | x::r,k=>by
  unfold ixf Zar
  cases q x
  ·simp[Zj5 q r (k+1)]
  ·simp
theorem Zf3 {α:Type} (l:List α) (q:α→Bool) (f:(List PV→Option PV)→List PV→Option PV) (hl:l.length≤9223372036854775807)
 (h1:∀again k x,l[k]?=some x→f again [pI (Int.ofNat k)]=if q x=true then some (pI (k:Int)) else again [pI (Int.ofNat (k+1))])
 (h2:∀again,f again [pI (Int.ofNat l.length)]=some (pI (-1))):Z0 f 18446744073709551616 [pI (Int.ofNat 0)]=some (pI (ixf q 0 l)):=by
 rw[Zov l (fun k x=>if q x=true then some (some (pI (k:Int))) else none) (some (pI (-1))) f hl (fun again k x hx=> ?_) h2,Zp9]
 rw[h1 again k x hx]
 cases q x<;>simp
theorem Zqa (l:List PV):Zfr 1 (.tup [.agg l])=some [.agg l]:=by simp[Zfr,PV.parts,PV.isU]
theorem Zid (a x:List UInt8×Int):Zb1 [Zah a,Zah x]=some (pB (decide (a.1=x.1))):=by
 show (fun x0 x1=>Zb1 [x0,x1]) _ _=_
 rw[ZhF]
 simp only[Zah,List.drop_zero,EVS]
theorem Zbg (l:List (List UInt8×Int)) (x:List UInt8×Int) (hl:ZR l):Zu [.lst (l.map Zah),.tup [Zah x]]=some (pI (ixf (fun a=>decide (a.1=x.1)) 0 l)):=by
 show (fun x0 x1=>Zu [x0,x1]) _ _=_
 rw[Zbc]
 unfold ZR at hl
 simp only[EVS]
 refine (congrArg (Zk true) (Zf3 l (fun a=>decide (a.1=x.1)) _ hl (fun again k a hb=> ?_) (fun again=> ?_))).trans ?_
 ·have hk:=Zi hb
  have hi:Zz (.lst (l.map Zah)) (.int .i64 (k:Int))=some (Zah a):=ZI hb
  have g:=Zid a x
  simp only[Zah] at g
  simp only[Zbx hk,ZH hk hl,hi,Zah,Zqa,List.cons_append,List.nil_append,g,EVS]
 ·simp only[Zbs,EVS]
  rfl
 ·simp only[EVS]
theorem ZaW (l:List (List UInt8×Int)) (x:List UInt8×Int) (hl:ZR l):Zq [.lst (l.map Zah),.tup [Zah x]]=some (pB (!Zar (fun _ a=> !decide (a.1=x.1)) 0 l)):=by
 show (fun x0 x1=>Zq [x0,x1]) _ _=_
 rw[ZaS]
 simp only[Zbg l x hl,Zj5 (fun a:List UInt8×Int=>decide (a.1=x.1)) l 0,EVS]
theorem ZkO (p:Int×Bool) (n:Nat) (hn:n≤9223372036854775807):Zc1 [ZbJ p,.agg [pI n]]=some (pB (!inR p.1 0 ((n:Int) - 1))):=by
 have hwl:IntKind.i64.wrap ((n:Int) - 1)=(n:Int) - 1:=ZbT (by omega) (by omega)
 show (fun x0 x1=>Zc1 [x0,x1]) _ _=_
 rw[Zkp]
 simp only[ZbJ,hwl,Zbm,EVS]
theorem ZbZ (l:List (Int×Bool)) (n:Nat) (hn:n≤9223372036854775807) (hl:ZR l):ZE [.lst (l.map ZbJ),.tup [.agg [pI n]]]=some (pI (ixf (fun p=> !inR p.1 0 ((n:Int) - 1)) 0 l)):=by
 show (fun x0 x1=>ZE [x0,x1]) _ _=_
 rw[ZbQ]
 unfold ZR at hl
 simp only[EVS]
 refine (congrArg (Zk true) (Zf3 l (fun p=> !inR p.1 0 ((n:Int) - 1)) _ hl (fun again k a hb=> ?_) (fun again=> ?_))).trans ?_
 ·have hk:=Zi hb
  have hi:Zz (.lst (l.map ZbJ)) (.int .i64 (k:Int))=some (ZbJ a):=ZI hb
  have g:=ZkO a n hn
  simp only[ZbJ] at g
  simp only[Zbx hk,ZH hk hl,hi,ZbJ,Zqa,List.cons_append,List.nil_append,g,EVS]
 ·simp only[Zbs,EVS]
  rfl
 ·simp only[EVS]
def Zb6 (l:List (Int×Bool)) (n:Nat):Bool:=Zar (fun _ p=>inR p.1 0 ((n:Int) - 1)) 0 l
theorem ZiC (l:List (Int×Bool)) (n:Nat) (hn:n≤9223372036854775807) (hl:ZR l):Zc9 [.lst (l.map ZbJ),pI n]=some (pB (Zb6 l n)):=by
 have g:Zw [.lst (l.map ZbJ),.tup [.agg [pI n]]]=some (pB (!Zar (fun _ p=>inR p.1 0 ((n:Int) - 1)) 0 l)):=by
  show (fun x0 x1=>Zw [x0,x1]) _ _=_
  rw[Zbv]
  simp only[ZbZ l n hn hl,Zj5 (fun p:Int×Bool=> !inR p.1 0 ((n:Int) - 1)) l 0,Bool.not_not,EVS]
 show (fun x0 x1=>Zc9 [x0,x1]) _ _=_
 rw[ZmF]
 have lt:∀{R:Type} (l:List PV) (x:Option R),Za [.tup l] x=x:=fun l x=>(Eq.refl _).trans (Eq.refl _)
 simp only[lt,g,List.drop_zero,Bool.not_not,Zb6,EVS]
theorem Zmg (w:PWire) (x:List UInt8):Zdp [Zv w,.agg [.str x]]=some (pB (decide (w.name=x))):=by
 show (fun x0 x1=>Zdp [x0,x1]) _ _=_
 rw[ZkW]
 simp only[Zv,List.drop_zero,EVS]
theorem Zo4 (l:List PWire) (x:List UInt8) (hl:ZR l):Zfb [.lst (l.map Zv),.str x]=some (pI (ixf (fun w:PWire=>decide (w.name=x)) 0 l)):=by
 unfold ZR at hl
 have g:ZF [.lst (l.map Zv),.tup [.agg [.str x]]]=some (pI (ixf (fun w:PWire=>decide (w.name=x)) 0 l)):=by
  show (fun x0 x1=>ZF [x0,x1]) _ _=_
  rw[ZbS]
  simp only[EVS]
  refine (congrArg (Zk true) (Zf3 l (fun w:PWire=>decide (w.name=x)) _ hl (fun again k a hb=> ?_) (fun again=> ?_))).trans ?_
  ·have hk:=Zi hb
   have hi:Zz (.lst (l.map Zv)) (.int .i64 (k:Int))=some (Zv a):=ZI hb
   have g:=Zmg a x
   simp only[Zv] at g
   simp only[Zbx hk,ZH hk hl,hi,Zv,Zqa,List.cons_append,List.nil_append,g,EVS]
  ·simp only[Zbs,EVS]
   rfl
  ·simp only[EVS]
 show (fun x0 x1=>Zfb [x0,x1]) _ _=_
 rw[Zog]
 have lt:∀{R:Type} (l:List PV) (x:Option R),Za [.tup l] x=x:=fun l x=>(Eq.refl _).trans (Eq.refl _)
 simp only[lt,g,List.drop_zero,Bool.not_not,EVS]
theorem ZgI (c:List UInt8) (n:Int) (hc:ZR c):Zbo [.str c,.agg [pI n]]=some (pB (!Zel c n)):=by
 show (fun x0 x1=>Zbo [x0,x1]) _ _=_
 rw[Zgd]
 simp only[Zo3 c n hc,EVS]
theorem Za1 (l:List (List UInt8)) (n:Int) (hl:ZR l) (hc:∀c∈l,ZR c):Zs [.lst (l.map PV.str),.tup [.agg [pI n]]]=some (pI (ixf (fun c:List UInt8=> !Zel c n) 0 l)):=by
 unfold ZR at hl
 show (fun x0 x1=>Zs [x0,x1]) _ _=_
 rw[ZaY]
 simp only[EVS]
 refine (congrArg (Zk true) (Zf3 l (fun c:List UInt8=> !Zel c n) _ hl (fun again k a hb=> ?_) (fun again=> ?_))).trans ?_
 ·have hk:=Zi hb
  have hi:Zz (.lst (l.map PV.str)) (.int .i64 (k:Int))=some (.str a):=ZI hb
  have g:=ZgI a n (hc a (List.mem_of_getElem? hb))
  simp only[Zbx hk,ZH hk hl,hi,Zqa,List.cons_append,List.nil_append,g,EVS]
 ·simp only[Zbs,EVS]
  rfl
 ·simp only[EVS]
theorem eqPin (a c:Int) (b d:Bool):eqV (some [(0,TD.int .i64),(1,TD.bool)]) .struct (.agg [pI a,pB b]) (.agg [pI c,pB d])=some (decide (a=c)&&(b==d)):=by
 simp[eqV,Zjq,scEq,Zei]
theorem Ztu :ZC.bool.pv=pB false:=(Eq.refl _).trans (Eq.refl _)
theorem sp12 (a b c:PV):splice [a,b] 0 [c]=[c,b]:=(Eq.refl _).trans (Eq.refl _)
def Zem (n:Int) (l:List (List UInt8)):Bool:=(inR n 1 8&&decide ((l.length:Int)≤60))&&Zar (fun _ c=>Zel c n) 0 l
def ZdI (n:PNet) (k:Nat) (w:PWire):Bool:=
 if decide (w.kind=1)=true then decide ((w.ins.length:Int)=0)
 else if (decide (w.kind=2)||decide (w.kind=3))=true then inR w.ins.length 1 8
 else if decide (w.kind=4)=true then decide ((w.ins.length:Int)=2)
 else if decide (w.kind=5)=true then Zem n.signals.length w.cover&&(decide ((w.ins.length:Int)=0)||(match w.ins with|[p]=>decide (p.1=(k:Int))&&(p.2==false)|_=>false))
 else false
def ZnO (n:PNet) (k:Nat) (w:PWire):Bool:= !((!decide (w.kind=5)&&decide ((0:Int)<w.cover.length))|| !Zb6 w.ins n.wires.length)&&ZdI n k w
theorem Zo5 (h160:∀(n:Int) (l:List (List UInt8)),ZR l→(∀c∈l,ZR c)→Zbd [pI n,.lst (l.map PV.str)]=some (pB (Zem n l))) (n:PNet) (k:Nat) (w:PWire) (hn:n.Fit) (hk:n.wires[k]?=some w):Ze9 [Za0 n,pI k]=some (pB (ZnO n k w)):=by
 have hw:=hn.wire w (List.mem_of_getElem? hk)
 have g1:=h160 n.signals.length w.cover hw.cover hw.cubes
 have hwl:=hn.wires
 unfold ZR at hwl
 have g2:=ZiC w.ins n.wires.length hwl hw.ins
 have hi:Zz (.lst (n.wires.map Zv)) (.int .i64 (k:Int))=some (Zv w):=ZI hk
 show (fun x0 x1=>Ze9 [x0,x1]) _ _=_
 rw[Zoe]
 simp only[Za0,hi,Zv,EVS]
 unfold ZnO
 obtain c1|c1:=(Bool.eq_false_or_eq_true (!decide (w.kind=5))).symm<;>simp only[c1,g2,EVS]
 ·obtain c2|c2:=(Bool.eq_false_or_eq_true (Zb6 w.ins n.wires.length)).symm<;>simp only[c1,c2,g2,EVS]
  have c5:decide (w.kind=5)=true:=by simpa using c1
  have e1:decide (w.kind=1)=false:=by have:=of_decide_eq_true c5;simp;omega
  have e2:decide (w.kind=2)=false:=by have:=of_decide_eq_true c5;simp;omega
  have e3:decide (w.kind=3)=false:=by have:=of_decide_eq_true c5;simp;omega
  have e4:decide (w.kind=4)=false:=by have:=of_decide_eq_true c5;simp;omega
  simp only[Zer,ZdI,e1,e2,e3,e4,c5,g1,EVS]
  obtain c3|c3:=(Bool.eq_false_or_eq_true (Zem n.signals.length w.cover)).symm<;>simp only[c3,EVS]
  have h01:decide ((0:Int)=1)=false:=rfl
  have h00:decide ((0:Int)=0)=true:=rfl
  have h11:decide ((1:Int)=1)=true:=rfl
  have h10:decide ((1:Int)=0)=false:=rfl
  rcases hq:w.ins with _|⟨p,_|⟨q,r⟩⟩
  ·simp only[List.length_nil,h00,EVS]
  ·have hi:Zz (.lst ([p].map ZbJ)) (.int .i64 0)=some (ZbJ p):=rfl
   simp only[List.length_cons,List.length_nil,Nat.zero_add,h11,h10,hi,ZbJ,Ztu,sp12,eqPin,List.drop_zero,List.drop_succ_cons,EVS]
  ·have h2:decide (((r.length+1+1:Nat):Int)=0)=false:=by simp;omega
   have h3:decide (((r.length+1+1:Nat):Int)=1)=false:=by simp;omega
   simp only[List.length_cons,h2,h3,EVS]
 ·have c5:decide (w.kind=5)=false:=by simpa using c1
  obtain c2|c2:=(Bool.eq_false_or_eq_true (decide ((0:Int)<w.cover.length))).symm<;>simp only[c1,c2,g2,EVS]
  obtain c3|c3:=(Bool.eq_false_or_eq_true (Zb6 w.ins n.wires.length)).symm<;>simp only[c3,EVS]
  simp only[Zer,ZdI,c5,EVS]
  obtain e1|e1:=(Bool.eq_false_or_eq_true (decide (w.kind=1))).symm<;>simp only[e1,EVS]
  obtain e2|e2:=(Bool.eq_false_or_eq_true (decide (w.kind=2))).symm<;>simp only[e2,Zbm,EVS]
  obtain e3|e3:=(Bool.eq_false_or_eq_true (decide (w.kind=3))).symm<;>simp only[e3,Zbm,EVS]
  obtain e4|e4:=(Bool.eq_false_or_eq_true (decide (w.kind=4))).symm<;>simp only[e4,EVS]
theorem Zie (n:Int) (l:List (List UInt8)) (hl:ZR l) (hc:∀c∈l,ZR c):Zbd [pI n,.lst (l.map PV.str)]=some (pB (Zem n l)):=by
 have g:Zo [.lst (l.map PV.str),.tup [.agg [pI n]]]=some (pB (!Zar (fun _ c=>Zel c n) 0 l)):=by
  show (fun x0 x1=>Zo [x0,x1]) _ _=_
  rw[ZaI]
  simp only[Za1 l n hl hc,Zj5 (fun c:List UInt8=> !Zel c n) l 0,Bool.not_not,EVS]
 show (fun x0 x1=>Zbd [x0,x1]) _ _=_
 rw[ZhI]
 simp only[Zbm,Zjn,List.drop_zero,Zem,EVS]
 obtain c1|c1:=(Bool.eq_false_or_eq_true (inR n 1 8)).symm<;>simp only[c1,EVS]
 obtain c2|c2:=(Bool.eq_false_or_eq_true (decide ((l.length:Int)≤60))).symm<;>simp only[c2,Zjn,g,Bool.not_not,EVS]
def Zif (l:List (List UInt8×Int)) (k:Nat) (s:List UInt8×Int):Bool:=(ZQ s.1&&inR s.2 1 3)&&Zar (fun _ a=> !decide (a.1=s.1)) 0 (l.take k)
def Zlq (l:List (List UInt8×Int)):Bool:=Zar (Zif l) 0 l&&inR l.length 1 8
theorem Zj6 (l:List (List UInt8×Int)) (hl:ZR l) (hs:∀s∈l,ZR s.1):ZcH [.lst (l.map Zah)]=some (pB (Zlq l)):=by
 unfold ZR at hl
 show (fun x0=>ZcH [x0]) _=_
 rw[ZiR]
 simp only[EVS]
 refine (congrArg (Zk true) (ZbF (R:=PV) l (Zif l) (some (pB false)) (some (pB (inR l.length 1 8))) _ hl (fun again k s hb=> ?_) (fun again=> ?_))).trans ?_
 ·have hk:=Zi hb
  have hi:Zz (.lst (l.map Zah)) (.int .i64 (k:Int))=some (Zah s):=ZI hb
  have hc:Zdc 2 (.lst (l.map Zah)) none (some (.int .i64 (k:Int)))=some (.lst ((l.take k).map Zah)):=ZiW Zlp (by omega)
  have hn:=ZiB s.1 (hs s (List.mem_of_getElem? hb))
  have g:=ZaW (l.take k) s (by show (l.take k).length≤_;simp;omega)
  simp only[Zah] at g
  simp only[Zbx hk,ZH hk hl,hi,Zah,hn,Zif,EVS]
  obtain c1|c1:=(Bool.eq_false_or_eq_true (ZQ s.1)).symm<;>simp only[c1,Zbm,EVS]
  obtain c2|c2:=(Bool.eq_false_or_eq_true (inR s.2 1 3)).symm<;>simp only[c2,EVS]
  simp only[hc,List.drop_zero,Zjn,g,EVS]
  obtain c3|c3:=(Bool.eq_false_or_eq_true (Zar (fun _ (a:List UInt8×Int)=> !decide (a.1=s.1)) 0 (l.take k))).symm<;>simp only[c3,EVS]
 ·simp only[Zbs,Zbm,EVS]
 ·unfold Zlq
  cases Zar (Zif l) 0 l<;>simp only[EVS]
def ZdJ (n:PNet) (k:Nat) (w:PWire):Bool:=
 (ZnO n k w&&ZQ w.name&&Zar (fun _ v=> !decide (v.name=w.name)) 0 (n.wires.take k))&&
 (if decide ((k:Int)<(n.signals.length:Int))=true then ZdH n k w else (decide (w.kind=2)||decide (w.kind=3))&&Zb6 w.ins k)
def netI (n:PNet):Bool:=(Zlq n.signals&&inR n.wires.length n.signals.length 24)&&Zar (ZdJ n) 0 n.wires
theorem ZgJ (n:PNet) (hn:n.Fit):Zbp [Za0 n]=some (pB (netI n)):=by
 have g1:=Zj6 n.signals hn.signals hn.names
 have hwl:=hn.wires
 unfold ZR at hwl
 show (fun x0=>Zbp [x0]) _=_
 rw[Zgf]
 simp only[Za0,g1,EVS]
 unfold netI
 obtain c1|c1:=(Bool.eq_false_or_eq_true (Zlq n.signals)).symm<;>simp only[c1,Zbm,EVS]
 obtain c2|c2:=(Bool.eq_false_or_eq_true (inR n.wires.length n.signals.length 24)).symm<;>simp only[c2,EVS]
 refine (congrArg (Zk true) (ZbF (R:=PV) n.wires (ZdJ n) (some (pB false)) (some (pB true)) _ hwl (fun again k w hb=> ?_) (fun again=> ?_))).trans ?_
 ·have hk:=Zi hb
  have hw:=hn.wire w (List.mem_of_getElem? hb)
  have hi:Zz (.lst (n.wires.map Zv)) (.int .i64 (k:Int))=some (Zv w):=ZI hb
  have hc:Zdc 4 (.lst (n.wires.map Zv)) none (some (.int .i64 (k:Int)))=some (.lst ((n.wires.take k).map Zv)):=ZiW Zj3 (by omega)
  have g2:=Zo5 Zie n k w hn hb
  have g3:=ZiB w.name hw.name
  have g4:=Zo4 (n.wires.take k) w.name (by show (n.wires.take k).length≤_;simp;omega)
  have g5:=ZiC w.ins k (by omega) hw.ins
  simp only[Za0] at g2
  simp only[Zbx hk,ZH hk hwl,hi,Zv,ZdJ,g2,EVS]
  obtain c1|c1:=(Bool.eq_false_or_eq_true (ZnO n k w)).symm<;>simp only[c1,g3,EVS]
  obtain c2|c2:=(Bool.eq_false_or_eq_true (ZQ w.name)).symm<;>simp only[c2,hc,g4,EVS]
  simp only[Zj5 (fun v:PWire=>decide (v.name=w.name)) (n.wires.take k) 0]
  obtain c3|c3:=(Bool.eq_false_or_eq_true (Zar (fun _ (v:PWire)=> !decide (v.name=w.name)) 0 (n.wires.take k))).symm<;>simp only[c3,Zer,EVS]
  obtain c4|c4:=(Bool.eq_false_or_eq_true (decide ((k:Int)<(n.signals.length:Int)))).symm<;>simp only[c4,EVS]
  ·obtain c5|c5:=(Bool.eq_false_or_eq_true (decide (w.kind=2))).symm<;>simp only[c5,g5,EVS]
   ·obtain c6|c6:=(Bool.eq_false_or_eq_true (decide (w.kind=3))).symm<;>simp only[c6,g5,EVS]
    obtain c7|c7:=(Bool.eq_false_or_eq_true (Zb6 w.ins k)).symm<;>simp only[c7,ZH hk hwl,EVS]
   ·obtain c7|c7:=(Bool.eq_false_or_eq_true (Zb6 w.ins k)).symm<;>simp only[c7,ZH hk hwl,EVS]
  ·have hks:k<n.signals.length:=by have:=of_decide_eq_true c4;omega
   have hs:n.signals[k]?=some n.signals[k]:=List.getElem?_eq_getElem hks
   have hi2:Zz (.lst (n.signals.map Zah)) (.int .i64 (k:Int))=some (Zah n.signals[k]):=ZI hs
   simp only[ZdH,hs,hi2,Zah,List.drop_zero,List.drop_succ_cons,EVS]
   obtain c5|c5:=(Bool.eq_false_or_eq_true (decide (w.name=n.signals[k].1))).symm<;>simp only[c5,hi2,Zah,List.drop_zero,List.drop_succ_cons,EVS]
   obtain c6|c6:=(Bool.eq_false_or_eq_true (decide (w.kind=1)==decide (n.signals[k].2=1))).symm<;>simp only[bne,c6,ZH hk hwl,EVS]
 ·simp only[Zbs,EVS]
 ·cases Zar (ZdJ n) 0 n.wires<;>simp only[EVS]
theorem ZfH {α:Type} (q:α→Bool):∀(l:List α) (k:Nat),Zar (fun _ x=>q x) k l=l.all q
 |[],_=>rfl
 |x::r,k=>by unfold Zar;rw[ZfH q r (k+1),List.all_cons]
theorem ZcU {α:Type} (f g:Nat→α→Bool) (h:∀k x,f k x=g k x):∀(l:List α) (k:Nat),Zar f k l=Zar g k l
 |[],_=>rfl
 |x::r,k=>by unfold Zar;rw[h k x,ZcU f g h r (k+1)]
theorem Ztw (l:List (List UInt8×Int)):Zhv l=Zlq l:=by
 unfold Zhv Zlq
 rw[ZcU (Zhu l) (Zif l) (fun k x=> ?_) l 0]
 unfold Zhu Zif
 rw[ZcU (fun _ (y:List UInt8×Int)=> !decide (x.1=y.1)) (fun _ (y:List UInt8×Int)=> !decide (y.1=x.1)) (fun _ y=>by simp[eq_comm]) _ 0]
theorem ZsH (n:Int) (l:List (List UInt8)):Zhw n l=Zem n l:=by
 unfold Zhw Zem Zf2
 rw[Bool.and_comm,Bool.eq_iff_iff]
 simp only[Bool.and_eq_true]
 refine and_congr_right fun h=> ?_
 rw[ZcU (fun _ c=>Zd3 c&&decide ((c.length:Int)=n)) (fun _ c=>Zel c n) (fun _ c=> ?_) l 0]
 unfold Zd3 Zel inR
 rw[Bool.eq_iff_iff]
 simp only[Bool.and_eq_true,decide_eq_true_eq]
 constructor
 ·rintro ⟨⟨h1,h2,h3⟩,h4⟩
  exact ⟨h1,h4,by omega,by omega⟩
 ·rintro ⟨h1,h2,h3,h4⟩
  exact ⟨⟨h1,by omega,by omega⟩,h2⟩
theorem Zq6 (n:PNet) (k:Nat) (l:List (Int×Bool)) (h:k<n.signals.length):Zar (fun _ p=>Zd4 n k p) 0 l=Zb6 l n.wires.length:=by
 unfold Zb6
 refine ZcU _ _ (fun _ p=> ?_) l 0
 unfold Zd4
 have:decide ((n.signals.length:Int)≤k)=false:=by simp;omega
 rw[this]
 simp
theorem Zq7 (n:PNet) (k:Nat) (l:List (Int×Bool)) (h:¬k<n.signals.length):Zar (fun _ p=>Zd4 n k p) 0 l=(Zb6 l n.wires.length&&Zb6 l k):=by
 unfold Zb6
 rw[ZfH,ZfH,ZfH,Bool.eq_iff_iff]
 have:decide ((n.signals.length:Int)≤k)=true:=by simp;omega
 simp only[Bool.and_eq_true,List.all_eq_true,Zd4,inR,this,Bool.true_and,Bool.not_eq_true',decide_eq_true_eq,decide_eq_false_iff_not]
 constructor
 ·intro h
  exact ⟨fun p hp=>(h p hp).1,fun p hp=>⟨(h p hp).1.1,by have:=(h p hp).2;omega⟩⟩
 ·rintro ⟨h1,h2⟩ p hp
  exact ⟨h1 p hp,by have:=(h2 p hp).2;omega⟩
theorem Ztx (n:PNet) (k:Nat) (w:PWire):(inR w.kind 1 5&&((if decide (w.kind=5)=true then Zem n.signals.length w.cover else !decide ((0:Int)<w.cover.length))&&Zdj k w.kind w.ins))=(!(!decide (w.kind=5)&&decide ((0:Int)<w.cover.length))&&ZdI n k w):=by
 unfold Zdj ZdI
 by_cases h1:w.kind=1
 ·simp[h1,inR]
 by_cases h2:w.kind=2
 ·simp[h2,inR]
 by_cases h3:w.kind=3
 ·simp[h3,inR]
 by_cases h4:w.kind=4
 ·simp[h4,inR]
 by_cases h5:w.kind=5
 ·obtain ⟨nm,kd,ins,cov⟩:=w
  simp only at h5
  rcases ins with _|⟨p,_|⟨q,r⟩⟩<;>simp[h5,inR]
 ·have:inR w.kind 1 5=false:=by
   unfold inR
   simp only[Bool.and_eq_false_iff,decide_eq_false_iff_not]
   omega
  simp[this,h1,h2,h3,h4,h5]
theorem Zty (n:PNet) (k:Nat) (w:PWire):ZaP n k w=ZdJ n k w:=by
 unfold ZaP ZdJ Zhx ZnO Zj2
 have hf:=Ztx n k w
 rw[ZsH]
 by_cases hk:k<n.signals.length
 ·have hd:decide ((k:Int)<(n.signals.length:Int))=true:=by simpa using hk
  rw[Zq6 n k w.ins hk]
  simp only[hd,if_true,Bool.true_or,Bool.not_true,Bool.false_or,Bool.not_false,Bool.false_eq_true,if_false,Bool.true_and]
  revert hf
  generalize inR w.kind 1 5=a1
  generalize (if decide (w.kind=5)=true then Zem (↑n.signals.length) w.cover else !decide ((0:Int)<↑w.cover.length))=a2
  generalize Zdj k w.kind w.ins=a3
  generalize (!decide (w.kind=5)&&decide ((0:Int)<w.cover.length))=a4
  generalize ZdI n k w=a5
  generalize Zb6 w.ins n.wires.length=a6
  generalize ZdH n k w=a7
  generalize ZQ w.name=a8
  generalize Zar (fun _ (v:PWire)=> !decide (v.name=w.name)) 0 (n.wires.take k)=a9
  cases a1<;>cases a2<;>cases a3<;>cases a4<;>cases a5<;>cases a6<;>cases a7<;>cases a8<;>cases a9<;>decide
 ·have hd:decide ((k:Int)<(n.signals.length:Int))=false:=by simpa using hk
  rw[Zq7 n k w.ins hk]
  simp only[hd,if_true,Bool.true_or,Bool.not_true,Bool.false_or,Bool.not_false,Bool.false_eq_true,if_false,Bool.true_and]
  revert hf
  generalize inR w.kind 1 5=a1
  generalize (if decide (w.kind=5)=true then Zem (↑n.signals.length) w.cover else !decide ((0:Int)<↑w.cover.length))=a2
  generalize Zdj k w.kind w.ins=a3
  generalize (!decide (w.kind=5)&&decide ((0:Int)<w.cover.length))=a4
  generalize ZdI n k w=a5
  generalize Zb6 w.ins n.wires.length=a6
  generalize ZQ w.name=a8
  generalize Zb6 w.ins k=a7
  generalize decide (w.kind=2)=b2
  generalize decide (w.kind=3)=b3
  generalize Zar (fun _ (v:PWire)=> !decide (v.name=w.name)) 0 (n.wires.take k)=a9
  cases a1<;>cases a2<;>cases a3<;>cases a4<;>cases a5<;>cases a6<;>cases a7<;>cases a8<;>cases a9<;>cases b2<;>cases b3<;>decide
theorem net_eq (n:PNet):Zbt n=netI n:=by
 unfold Zbt netI
 rw[Ztw,ZcU (ZaP n) (ZdJ n) (fun k x=>Zty n k x) n.wires 0]
 congr 2
 unfold inR
 rw[Bool.eq_iff_iff]
 simp
theorem Zdk {α:Type} (q:Nat→α→Bool):∀(l:List α) (j:Nat),Zar q j l=true→∀(i:Nat) (x:α),l[i]?=some x→q (j+i) x=true
 |[],j,_,i,x,hx=>by simp at hx
 | y::r,j,h,i,x,hx=>by
  unfold Zar at h
  rw[Bool.and_eq_true] at h
  cases i with
  |zero=>simp at hx;subst hx;simpa using h.1
  | succ i=>
   have:=Zdk q r (j+1) h.2 i x (by simpa using hx)
   rw[show j+(i+1)=j+1+i by omega]
   exact this
theorem Zc6 {α:Type} (q:α→Bool) {l:List α} (h:Zar (fun _ x=>q x) 0 l=true) {x:α} (hx:x∈l):q x=true:=by
 rw[ZfH] at h
 exact List.all_eq_true.1 h x hx
theorem Zi4 {n:PNet} (h:Zbt n=true):∀w∈n.wires,w.name.length≤6:=by
 intro w hw
 obtain ⟨k,hk⟩:=List.mem_iff_getElem?.1 hw
 unfold Zbt at h
 simp only[Bool.and_eq_true] at h
 have:=Zdk _ _ _ h.2 k _ hk
 rw[Nat.zero_add] at this
 unfold ZaP Zhx at this
 simp only[Bool.and_eq_true] at this
 have hn:=this.1.2.1
 unfold ZQ at hn
 simp only[Bool.and_eq_true,decide_eq_true_eq] at hn
 omega
theorem ZgK {l:List (List UInt8)} (h:l≠[]) (x:List UInt8):Lib.join (l++[x]) [32]=Lib.join l [32]++32::x:=by
 cases l with
 |nil=>exact absurd rfl h
 | cons a r=>
  simp only[List.cons_append,Lib.join_cons,Lib.joinTail,List.map_append,List.flatten_append,List.map_cons,List.map_nil,List.flatten_cons,List.flatten_nil,List.append_nil,List.append_assoc,List.nil_append]
theorem ZdK (l:List (List UInt8)) (h:∀x∈l,x.length≤8):(Lib.join l [32]).length≤9 * l.length:=by
 cases l with
 |nil=>simp[Lib.join_nil]
 | cons a r=>
  rw[Lib.join_cons]
  have h1:=h a List.mem_cons_self
  have h2:(Lib.joinTail [32] r).length≤9 * r.length:=by
   have hr:∀x∈r,x.length≤8:=fun x hx=>h x (List.mem_cons_of_mem _ hx)
   clear h
   induction r with
   |nil=>simp[Lib.joinTail]
   | cons b r ih=>
    have:=ih fun x hx=>hr x (List.mem_cons_of_mem _ hx)
    have hb:=hr b List.mem_cons_self
    unfold Lib.joinTail at this⊢
    simp only[List.map_cons,List.flatten_cons,List.length_append,List.length_cons,List.length_nil] at this⊢
    omega
  simp only[List.length_append,List.length_cons]
  omega
def ZA :List (List UInt8):=[[],[105,110],[97,110,100],[111,114],[104,111,108,100],[99,111,118,101,114]]
def Zc7 :List (List UInt8):=[[],[],[33],[63]]
def ZeB (n:PNet) (i:Int):List UInt8:=match n.wires[i.toNat]? with|some w=>w.name|none=>[]
def Zb9 (n:PNet) (p:Int×Bool):List UInt8:=if p.2=true then ZeB n p.1++[39] else ZeB n p.1
def Zaj (n:PNet) (k:Nat) (w:PWire):List UInt8:=match n.signals[k]? with
 |some s=>ZA.getD w.kind.toNat []++Zc7.getD s.2.toNat []
 |none=>ZA.getD w.kind.toNat []
def ZdQ (w:PWire):List (List UInt8):=if w.kind=5 then [61]::w.cover else []
def ZaD (n:PNet) (k:Nat) (w:PWire):List (List UInt8):=[Zaj n k w,w.name]++w.ins.map (Zb9 n)++ZdQ w
def ZiD (n:PNet) (k:Nat) (w:PWire):List UInt8:=Lib.join (ZaD n k w) [32]++[10]
def Zcl (n:PNet):Nat→List PWire→List UInt8→List UInt8
 |_,[],a=>a
 |k,w::r,a=>Zcl n (k+1) r (a++ZiD n k w)
def fnP (n:PNet):List UInt8×Bool:=if Zbt n=true then (Zcl n 0 n.wires [],true) else ([],false)
theorem Zig {R:Type} (n:PNet) (e:List UInt8→Option R):∀(l:List PWire) (k:Nat) (a:List UInt8),Zcr (R:=R) (fun a k w=>.inl (a++ZiD n k w)) e k a l=e (Zcl n k l a)
 |[],k,a=>rfl
 | w::r,k,a=>by
  unfold Zcr Zcl
  exact Zig n e r (k+1) _
structure WOk (n:PNet) (k:Nat) (w:PWire):Prop where
 kind:1≤w.kind∧w.kind≤5
 name:w.name.length≤6
 ins:w.ins.length≤8
 pin:∀p∈w.ins,0≤p.1∧p.1<n.wires.length
 cover:w.kind=5→w.cover.length≤60∧∀c∈w.cover,c.length≤8
 sig:∀s,n.signals[k]?=some s→1≤s.2∧s.2≤3
theorem w_ok {n:PNet} (h:Zbt n=true) {k:Nat} {w:PWire} (hw:n.wires[k]?=some w):WOk n k w:=by
 have h6:=Zi4 h w (List.mem_of_getElem? hw)
 unfold Zbt at h
 simp only[Bool.and_eq_true] at h
 have hk:=Zdk _ _ _ h.2 k _ hw
 rw[Nat.zero_add] at hk
 unfold ZaP Zhx Zj2 inR at hk
 simp only[Bool.and_eq_true,decide_eq_true_eq] at hk
 obtain ⟨⟨⟨⟨⟨hkd,_⟩,_⟩,hcov⟩,_,hpins,hform⟩,_⟩:=hk
 refine ⟨hkd,h6, ?_,fun p hp=> ?_,fun h5=> ?_,fun s hs=> ?_⟩
 ·unfold Zdj inR at hform
  split at hform
  ·simp only[decide_eq_true_eq] at hform;omega
  ·split at hform
   ·simp only[decide_eq_true_eq] at hform;omega
   ·split at hform
    ·simp only[Bool.or_eq_true,decide_eq_true_eq] at hform
     rcases hform with h0|h1
     ·omega
     ·split at h1
      ·rename_i he;rw[he];simp
      ·cases h1
    ·simp only[Bool.and_eq_true,decide_eq_true_eq] at hform;omega
 ·have:=Zc6 (fun p=>Zd4 n k p) hpins hp
  unfold Zd4 inR at this
  simp only[Bool.and_eq_true,decide_eq_true_eq] at this
  omega
 ·rw[if_pos h5] at hcov
  unfold Zhw Zf2 inR at hcov
  simp only[Bool.and_eq_true,decide_eq_true_eq] at hcov
  refine ⟨by omega,fun c hc=> ?_⟩
  have:=Zc6 (fun c=>Zd3 c&&decide ((c.length:Int)=n.signals.length)) hcov.1 hc
  simp only[Bool.and_eq_true,decide_eq_true_eq] at this
  omega
 ·have hsg:=h.1.1
  unfold Zhv at hsg
  rw[Bool.and_eq_true] at hsg
  have:=Zdk _ _ _ hsg.1 k _ hs
  rw[Nat.zero_add] at this
  unfold Zhu inR at this
  simp only[Bool.and_eq_true,decide_eq_true_eq] at this
  omega
theorem Zo6 :∀i:Fin 6,(ZA.getD i.1 []).length≤5:=by decide
theorem Zo7 :∀i:Fin 4,(Zc7.getD i.1 []).length≤1:=by decide
theorem Zq9 {n:PNet} (h:Zbt n=true) (i:Int):(ZeB n i).length≤6:=by
 unfold ZeB
 split
 ·rename_i w hw;exact Zi4 h w (List.mem_of_getElem? hw)
 ·simp
theorem Zj7 {n:PNet} (h:Zbt n=true) (p:Int×Bool):(Zb9 n p).length≤7:=by
 have:=Zq9 h p.1
 unfold Zb9
 split<;>simp<;>omega
theorem Zih {n:PNet} {k:Nat} {w:PWire} (h:WOk n k w):(Zaj n k w).length≤6:=by
 have hk:=Zo6 ⟨w.kind.toNat,by have:=h.kind;omega⟩
 dsimp only at hk
 unfold Zaj
 split
 ·rename_i s hs
  have:=h.sig s hs
  have hm:=Zo7 ⟨s.2.toNat,by omega⟩
  dsimp only at hm
  rw[List.length_append];omega
 ·omega
theorem Zlr {n:PNet} (hn:Zbt n=true) {k:Nat} {w:PWire} (h:WOk n k w):(∀x∈ZaD n k w,x.length≤8)∧(ZaD n k w).length≤71:=by
 have hh:=Zih h
 have h1:=h.name
 have h2:=h.ins
 constructor
 ·intro x hx
  unfold ZaD at hx
  simp only[List.cons_append,List.nil_append,List.mem_cons,List.mem_append,List.mem_map] at hx
  rcases hx with rfl|rfl|⟨p,_,rfl⟩|hx
  ·omega
  ·omega
  ·have:=Zj7 hn p;omega
  ·unfold ZdQ at hx
   split at hx
   ·rename_i h5
    rcases List.mem_cons.1 hx with rfl|hx
    ·simp
    ·exact (h.cover h5).2 x hx
   ·cases hx
 ·unfold ZaD ZdQ
  simp only[List.length_append,List.length_cons,List.length_nil,List.length_map]
  split
  ·rename_i h5
   have:=(h.cover h5).1
   simp only[List.length_cons];omega
  ·simp only[List.length_nil];omega
theorem ZnP {n:PNet} (hn:Zbt n=true) {k:Nat} {w:PWire} (h:WOk n k w):(ZiD n k w).length≤640:=by
 obtain ⟨h1,h2⟩:=Zlr hn h
 have:=ZdK _ h1
 unfold ZiD
 simp only[List.length_append,List.length_cons,List.length_nil]
 omega
def Zj8 (c:UInt8):List (List UInt8)→List (List UInt8)
 |[]=>[[c]]
 |x::xs=>(c::x)::xs
def Zf (b:UInt8):List UInt8→List (List UInt8)
 |[]=>[[]]
 |c::r=>if c=b then []::Zf b r else Zj8 c (Zf b r)
theorem ZdL {b:UInt8}:∀{x:List UInt8},b∉x→Zf b x=[x]
 |[],_=>rfl
 | c::r,h=>by
  rw[List.mem_cons,not_or] at h
  unfold Zf
  rw[if_neg (fun e=>h.1 e.symm),ZdL h.2]
  rfl
theorem ZgL {b:UInt8} (y:List UInt8):∀{x:List UInt8},b∉x→Zf b (x++b::y)=x::Zf b y
 | [],_=>by
  show Zf b (b::y)=_
  rw[Zf,if_pos rfl]
 | c::r,h=>by
  rw[List.mem_cons,not_or] at h
  show Zf b (c::(r++b::y))=_
  rw[Zf,if_neg (fun e=>h.1 e.symm),ZgL y h.2]
  rfl
theorem ZiE {b:UInt8}:∀(r:List (List UInt8)) (a:List UInt8),b∉a→(∀x∈r,b∉x)→Zf b (a++Lib.joinTail [b] r)=a::r
 | [],a,h,_=>by
  unfold Lib.joinTail
  simp only[List.map_nil,List.flatten_nil,List.append_nil]
  exact ZdL h
 | x::r,a,h,hr=>by
  have e:Lib.joinTail [b] (x::r)=b::(x++Lib.joinTail [b] r):=by
   unfold Lib.joinTail
   simp
  rw[e,ZgL _ h,ZiE r x (hr x List.mem_cons_self) fun y hy=>hr y (List.mem_cons_of_mem _ hy)]
theorem ZiF {b:UInt8} {l:List (List UInt8)} (hl:l≠[]) (h:∀x∈l,b∉x):Zf b (Lib.join l [b])=l:=by
 cases l with
 |nil=>exact absurd rfl hl
 |cons a r=>rw[Lib.join_cons];exact ZiE r a (h a List.mem_cons_self) fun y hy=>h y (List.mem_cons_of_mem _ hy)
theorem Zf4 (b:UInt8):∀s:List UInt8,Zf b s≠[]
 |[]=>by simp[Zf]
 | c::r=>by
  unfold Zf
  split
  ·simp
  ·unfold Zj8;split<;>simp
def ZaO (n:PNet):Nat→List PWire→List (List (List UInt8))
 |_,[]=>[]
 |k,w::r=>ZaD n k w::ZaO n (k+1) r
theorem Zhy (n:PNet):∀(l:List PWire) (k:Nat) (a:List UInt8),Zcl n k l a=a++((ZaO n k l).map fun ws=>Lib.join ws [32]++[10]).flatten
 |[],k,a=>by simp[Zcl,ZaO]
 | w::r,k,a=>by
  unfold Zcl ZaO
  rw[Zhy n r (k+1),List.append_assoc]
  rfl
theorem Zj9 :∀(l:List (List UInt8)),l≠[]→(l.map fun x=>x++[10]).flatten=Lib.join l [10]++[10]
 |[],h=>absurd rfl h
 |[a],_=>by simp[Lib.join_cons,Lib.joinTail]
 | a::b::r,_=>by
  rw[List.map_cons,List.flatten_cons,Zj9 (b::r) (by simp),Lib.join_cons,Lib.join_cons]
  unfold Lib.joinTail
  simp
def Zg (s:List UInt8):List (List (List UInt8)):=(Zf 10 s.dropLast).map (Zf 32)
structure WGood (n:PNet) (k:Nat) (w:PWire):Prop where
 kind:1≤w.kind∧w.kind≤5
 name:ZQ w.name=true
 pin:∀p∈w.ins,0≤p.1∧p.1<n.wires.length
 cov5:w.kind=5→∀c∈w.cover,Zd3 c=true
 cov:w.kind≠5→w.cover=[]
 sig:∀s,n.signals[k]?=some s→w.name=s.1∧(w.kind=1↔s.2=1)∧1≤s.2∧s.2≤3
 hid:n.signals[k]?=none→w.kind=2∨w.kind=3
theorem ZnQ {n:PNet} (h:Zbt n=true) {k:Nat} {w:PWire} (hw:n.wires[k]?=some w):WGood n k w:=by
 unfold Zbt at h
 simp only[Bool.and_eq_true] at h
 have hk:=Zdk _ _ _ h.2 k _ hw
 rw[Nat.zero_add] at hk
 unfold ZaP Zhx Zj2 inR at hk
 simp only[Bool.and_eq_true,decide_eq_true_eq,Bool.or_eq_true,Bool.not_eq_true',decide_eq_false_iff_not] at hk
 obtain ⟨⟨⟨⟨⟨hkd,hs⟩,hseen⟩,hcov⟩,hnm,hpins,hform⟩,_⟩:=hk
 refine ⟨hkd,hnm,fun p hp=> ?_,fun h5 c hc=> ?_,fun h5=> ?_,fun s hs'=> ?_,fun hn=> ?_⟩
 ·have:=Zc6 (fun p=>Zd4 n k p) hpins hp
  unfold Zd4 inR at this
  simp only[Bool.and_eq_true,decide_eq_true_eq] at this
  omega
 ·rw[if_pos h5] at hcov
  unfold Zhw Zf2 inR at hcov
  simp only[Bool.and_eq_true,decide_eq_true_eq] at hcov
  have:=Zc6 (fun c=>Zd3 c&&decide ((c.length:Int)=n.signals.length)) hcov.1 hc
  simp only[Bool.and_eq_true,decide_eq_true_eq] at this
  exact this.1
 ·rw[if_neg h5] at hcov
  simp only[Bool.not_eq_true',decide_eq_false_iff_not] at hcov
  exact List.eq_nil_of_length_eq_zero (by omega)
 ·have hkl:=Zi hs'
  have hsn:ZdH n k w=true:=by
   rcases hseen with hq|hq
   ·omega
   ·exact hq
  unfold ZdH at hsn
  rw[hs'] at hsn
  simp only[Bool.and_eq_true,decide_eq_true_eq,beq_iff_eq] at hsn
  have hsg:=h.1.1
  unfold Zhv at hsg
  rw[Bool.and_eq_true] at hsg
  have:=Zdk _ _ _ hsg.1 k _ hs'
  rw[Nat.zero_add] at this
  unfold Zhu inR at this
  simp only[Bool.and_eq_true,decide_eq_true_eq] at this
  refine ⟨hsn.1, ?_,by omega,by omega⟩
  exact decide_eq_decide.1 hsn.2
 ·have:¬k<n.signals.length:=fun hl=>by rw[List.getElem?_eq_getElem hl] at hn;cases hn
  rcases hs with (hq|hq)|hq
  ·omega
  ·exact .inl hq
  ·exact .inr hq
theorem Zka :∀(s:List UInt8) (f:Bool),ZeY f s=true→∀b∈s,(97≤b.toNat∧b.toNat≤122)∨(48≤b.toNat∧b.toNat≤57)
 |[],f,_,b,hb=>by cases hb
 | c::r,f,h,b,hb=>by
  unfold ZeY at h
  rw[Bool.and_eq_true] at h
  rcases List.mem_cons.1 hb with rfl|hb
  ·have h1:=h.1
   unfold Zp8 at h1
   simp only[Bool.or_eq_true,Bool.and_eq_true,decide_eq_true_eq,Bool.not_eq_true',decide_eq_false_iff_not] at h1
   omega
  ·exact Zka r false h.2 b hb
theorem Zmh {s:List UInt8} (h:ZQ s=true) {c:UInt8} (hc:c.toNat<48∨(57<c.toNat∧c.toNat<97)):c∉s:=fun hm=>by
 unfold ZQ at h
 rw[Bool.and_eq_true] at h
 have:=Zka s true h.1 c hm
 omega
theorem Ztz {s:List UInt8} (h:Zd3 s=true) {c:UInt8} (hc:c.toNat≠48∧c.toNat≠49∧c.toNat≠45):c∉s:=fun hm=>by
 unfold Zd3 at h
 rw[Bool.and_eq_true] at h
 have:=Zc6 (fun b=>Zgn b) h.1 hm
 unfold Zgn at this
 simp only[Bool.or_eq_true,decide_eq_true_eq] at this
 omega
theorem Zls {n:PNet} {i:Nat} {w:PWire} (h:n.wires[i]?=some w):ZeB n (i:Int)=w.name:=by
 unfold ZeB;rw[Int.toNat_natCast,h]
theorem ZgM {n:PNet} (h:Zbt n=true) {i:Int} (h0:0≤i) (h1:i<n.wires.length):ZQ (ZeB n i)=true:=by
 obtain ⟨j,rfl⟩:=Int.eq_ofNat_of_zero_le h0
 have hj:n.wires[j]?=some n.wires[j]:=List.getElem?_eq_getElem (by omega)
 have:=(ZnQ h hj).name
 rw[show ((j:Int))=((j:Nat):Int) from rfl,Zls hj]
 exact this
theorem kw_no :∀(m:Fin 6) (q:Fin 5),(10:UInt8)∉ZA.getD m.1 []++Zc7.getD q.1 []∧(32:UInt8)∉ZA.getD m.1 []++Zc7.getD q.1 []:=by decide
theorem ZnR {n:PNet} (h:Zbt n=true) {k:Nat} {w:PWire} (hw:n.wires[k]?=some w) {c:UInt8} (hc:c=10∨c=32):∀x∈ZaD n k w,c∉x:=by
 have g:=ZnQ h hw
 have hnm:∀{s:List UInt8},ZQ s=true→c∉s:=fun hs=>Zmh hs (by rcases hc with rfl|rfl<;>decide)
 intro x hx
 unfold ZaD at hx
 simp only[List.cons_append,List.nil_append,List.mem_cons,List.mem_append,List.mem_map] at hx
 rcases hx with rfl|rfl|⟨p,hp,rfl⟩|hx
 ·unfold Zaj
  split
  ·rename_i s hs
   have:=kw_no ⟨w.kind.toNat,by have:=g.kind;omega⟩ ⟨s.2.toNat,by have:=(g.sig s hs).2.2;omega⟩
   rcases hc with rfl|rfl
   ·exact this.1
   ·exact this.2
  ·have:=kw_no ⟨w.kind.toNat,by have:=g.kind;omega⟩ ⟨0,by omega⟩
   simp only[show Zc7.getD 0 []=[] from rfl,List.append_nil] at this
   rcases hc with rfl|rfl
   ·exact this.1
   ·exact this.2
 ·exact hnm g.name
 ·have hp':=g.pin p hp
  have h1:=hnm (ZgM h hp'.1 hp'.2)
  unfold Zb9
  split
  ·rw[List.mem_append,not_or]
   exact ⟨h1,by rcases hc with rfl|rfl<;>decide⟩
  ·exact h1
 ·unfold ZdQ at hx
  split at hx
  ·rename_i h5
   rcases List.mem_cons.1 hx with rfl|hx
   ·rcases hc with rfl|rfl<;>decide
   ·exact Ztz (g.cov5 h5 x hx) (by rcases hc with rfl|rfl<;>decide)
  ·cases hx
theorem ZtA {c b:UInt8} (hcb:c≠b) {l:List (List UInt8)} (h:∀x∈l,c∉x):c∉Lib.join l [b]:=by
 cases l with
 |nil=>rw[Lib.join_nil];simp
 | cons a r=>
  rw[Lib.join_cons,List.mem_append,not_or]
  refine ⟨h a List.mem_cons_self,fun hm=> ?_⟩
  unfold Lib.joinTail at hm
  simp only[List.mem_flatten,List.mem_map] at hm
  obtain ⟨_,⟨y,hy,rfl⟩,hm⟩:=hm
  rcases List.mem_append.1 hm with hm|hm
  ·exact hcb (by simpa using hm)
  ·exact h y (List.mem_cons_of_mem _ hy) hm
theorem Zkb {n:PNet}:∀(l:List PWire) (k:Nat),(∀i w,l[i]?=some w→n.wires[k+i]?=some w)→∀ws∈ZaO n k l,∃i w,n.wires[i]?=some w∧ws=ZaD n i w
 |[],k,_,ws,hm=>by cases hm
 | w::r,k,h,ws,hm=>by
  unfold ZaO at hm
  rcases List.mem_cons.1 hm with rfl|hm
  ·exact ⟨k,w,by simpa using h 0 w rfl,rfl⟩
  ·exact Zkb r (k+1) (fun i v hi=>by have:=h (i+1) v (by simpa using hi);rwa[show k+(i+1)=k+1+i by omega] at this) ws hm
theorem Zkc (n:PNet):∀(l:List PWire) (k:Nat),(ZaO n k l).length=l.length
 |[],k=>rfl
 |w::r,k=>by unfold ZaO;rw[List.length_cons,Zkc n r,List.length_cons]
theorem ZiG {n:PNet} (h:Zbt n=true) (hne:n.wires≠[]):Zg (Zcl n 0 n.wires [])=ZaO n 0 n.wires:=by
 have hmem:=Zkb (n:=n) n.wires 0 fun i w hi=>by rwa[Nat.zero_add]
 have hL:(ZaO n 0 n.wires).map (fun ws=>Lib.join ws [32])≠[]:=by
  intro e
  rw[List.map_eq_nil_iff] at e
  have:=Zkc n n.wires 0
  rw[e] at this
  exact hne (List.eq_nil_of_length_eq_zero this.symm)
 have e1:Zcl n 0 n.wires []=Lib.join ((ZaO n 0 n.wires).map fun ws=>Lib.join ws [32]) [10]++[10]:=by
  rw[Zhy,List.nil_append,←Zj9 _ hL,List.map_map]
  rfl
 unfold Zg
 rw[e1,List.dropLast_concat,ZiF hL (fun x hx=>by
  obtain ⟨ws,hws,rfl⟩:=List.mem_map.1 hx
  obtain ⟨i,w,hw,rfl⟩:=hmem ws hws
  exact ZtA (by decide) (ZnR h hw (.inl rfl))),List.map_map]
 refine (List.map_congr_left fun ws hws=> ?_).trans (List.map_id _)
 obtain ⟨i,w,hw,rfl⟩:=hmem ws hws
 exact ZiF (by unfold ZaD;simp) (ZnR h hw (.inr rfl))
def Z4 (b:UInt8) (s:List UInt8):Bool:=decide (s.getLast?=some b)
theorem Zo8 (b:UInt8) (s:List UInt8):Z4 b (s++[b])=true:=by simp[Z4]
theorem ZsI {b:UInt8} {s:List UInt8} (h:b∉s):Z4 b s=false:=by
 unfold Z4
 rw[decide_eq_false_iff_not]
 exact fun e=>h (List.mem_of_getLast? e)
def ZbC (x:List UInt8):Int:=ixf (fun y=>decide (y=x)) 0 (ZA.drop 1)
def Zb4 (x:List UInt8):Int×Int:=
 if 0≤ZbC x then (ZbC x+1,if ZbC x+1=1 then 1 else 0)
 else if (Z4 33 x&&decide (0≤ZbC x.dropLast))=true then (ZbC x.dropLast+1,2)
 else if (Z4 63 x&&decide (0≤ZbC x.dropLast))=true then (ZbC x.dropLast+1,3)
 else (0,0)
def ZaK (x:List UInt8):Int×Int:=
 let p:Int×List UInt8:=if Z4 33 x=true then (2,x.dropLast) else if Z4 63 x=true then (3,x.dropLast) else (0,x)
 if 0≤ZbC p.2 then (ZbC p.2+1,if ZbC p.2+1=1 then 1 else p.1) else (0,0)
def kwSig (m q:Nat):Bool:= !(decide (1≤m)&&decide (1≤q)&&(decide (m=1)==decide (q=1)))
theorem ZsJ :∀(m:Fin 6) (q:Fin 4),kwSig m.1 q.1=true∨(Zb4 (ZA.getD m.1 []++Zc7.getD q.1 [])=((m.1:Int),(q.1:Int))∧ZaK (ZA.getD m.1 []++Zc7.getD q.1 [])=((m.1:Int),(q.1:Int))):=by decide
theorem ZnS :(Zb4 (ZA.getD 2 [])=(2,0)∧ZaK (ZA.getD 2 [])=(2,0))∧Zb4 (ZA.getD 3 [])=(3,0)∧ZaK (ZA.getD 3 [])=(3,0):=by decide
theorem Zf5 {n:PNet} (h:Zbt n=true) {k:Nat} {w:PWire} (hw:n.wires[k]?=some w):Zb4 (Zaj n k w)=(w.kind,match n.signals[k]? with|some s=>s.2|none=>0)∧ZaK (Zaj n k w)=(w.kind,match n.signals[k]? with|some s=>s.2|none=>0):=by
 have g:=ZnQ h hw
 unfold Zaj
 cases hs:n.signals[k]? with
 | some s=>
  obtain ⟨g1,g2,g3,g4⟩:=g.sig s hs
  dsimp only
  obtain ⟨m,hm⟩:=Int.eq_ofNat_of_zero_le (show 0≤w.kind by have:=g.kind;omega)
  obtain ⟨q,hq⟩:=Int.eq_ofNat_of_zero_le (show 0≤s.2 by omega)
  have gk:=g.kind
  have g2':w.kind=1↔s.2=1:=g2
  rw[hm] at gk g2'⊢
  rw[hq] at g3 g4 g2'⊢
  simp only[Int.toNat_natCast]
  have:=ZsJ ⟨m,by omega⟩ ⟨q,by omega⟩
  dsimp only at this
  rcases this with hbad|hgood
  ·exfalso
   have:(decide (m=1)==decide (q=1))=true:=by
    rw[beq_iff_eq,decide_eq_decide]
    omega
   unfold kwSig at hbad
   rw[this] at hbad
   simp only[Bool.and_true,Bool.not_eq_true',Bool.and_eq_false_iff,decide_eq_false_iff_not] at hbad
   omega
  ·exact hgood
 | none=>
  dsimp only
  rcases g.hid hs with e|e<;>rw[e]
  ·exact ZnS.1
  ·exact ZnS.2
def pinI (names:List (List UInt8)) (x:List UInt8):Int×Bool:=(ixf (fun y=>decide (y=if Z4 39 x=true then x.dropLast else x)) 0 names,Z4 39 x)
def Zkd (names:List (List UInt8)) (x:List UInt8):Int×Bool:=
 if (decide (1<x.length)&&Z4 39 x)=true then (ixf (fun y=>decide (y=x.dropLast)) 0 names,true) else (ixf (fun y=>decide (y=x)) 0 names,false)
theorem ZnT {α:Type} (q:α→Bool):∀(l:List α) (k i:Nat) (x:α),l[i]?=some x→q x=true→(∀j y,j<i→l[j]?=some y→q y=false)→ixf q k l=((k+i:Nat):Int)
 |[],k,i,x,h,_,_=>by simp at h
 | y::r,k,0,x,h,hq,_=>by
  simp at h;subst h
  unfold ixf
  rw[if_pos hq];rfl
 | y::r,k,i+1,x,h,hq,hn=>by
  unfold ixf
  rw[if_neg (by rw[hn 0 y (by omega) rfl];decide),ZnT q r (k+1) i x (by simpa using h) hq fun j z hj hz=>hn (j+1) z (by omega) (by simpa using hz)]
  congr 1;omega
theorem ZtB {n:PNet} (h:Zbt n=true) {i:Int} (h0:0≤i) (h1:i<n.wires.length):ixf (fun y=>decide (y=ZeB n i)) 0 (n.wires.map (·.name))=i:=by
 obtain ⟨j,rfl⟩:=Int.eq_ofNat_of_zero_le h0
 have hj:n.wires[j]?=some n.wires[j]:=List.getElem?_eq_getElem (by omega)
 rw[Zls hj]
 have:=ZnT (fun y=>decide (y=(n.wires[j]).name)) (n.wires.map (·.name)) 0 j (n.wires[j]).name (by rw[List.getElem?_map,hj];rfl) (by simp) fun i y hi hy=>by
  rw[List.getElem?_map,Option.map_eq_some_iff] at hy
  obtain ⟨v,hv,rfl⟩:=hy
  unfold Zbt at h
  simp only[Bool.and_eq_true] at h
  have hk:=Zdk _ _ _ h.2 j _ hj
  rw[Nat.zero_add] at hk
  unfold ZaP at hk
  rw[Bool.and_eq_true] at hk
  have hv':v∈n.wires.take j:=List.mem_iff_getElem?.2 ⟨i,by rw[List.getElem?_take,if_pos hi];exact hv⟩
  have:=Zc6 (fun v:PWire=> !decide (v.name=(n.wires[j]).name)) hk.2 hv'
  simpa using this
 rw[this,Nat.zero_add]
theorem ZnU {n:PNet} (h:Zbt n=true) {p:Int×Bool} (h0:0≤p.1) (h1:p.1<n.wires.length):pinI (n.wires.map (·.name)) (Zb9 n p)=p∧Zkd (n.wires.map (·.name)) (Zb9 n p)=p:=by
 have hx:=ZtB h h0 h1
 have hg:=ZgM h h0 h1
 have hno:(39:UInt8)∉ZeB n p.1:=Zmh hg (by decide)
 have hlen:0<(ZeB n p.1).length:=by
  unfold ZQ at hg
  simp only[Bool.and_eq_true,decide_eq_true_eq] at hg
  omega
 obtain ⟨i,b⟩:=p
 dsimp only at *
 unfold pinI Zkd Zb9
 cases b
 ·simp only[Bool.false_eq_true,if_false,ZsI hno,Bool.and_false,hx,and_self]
 ·simp only[if_true,Zo8,List.dropLast_concat,hx,List.length_append,List.length_cons,List.length_nil,Bool.and_true,true_and]
  rw[if_pos (by simpa using hlen)]
def ZeZ (x:List UInt8):Bool:=decide (x=[61])
def ZiO (l:List (List UInt8)):Int:=ixf ZeZ 0 l
def Zmi (names:List (List UInt8)) (l:List (List UInt8)):List (Int×Bool):=(if 0≤ZiO l then l.take (ZiO l).toNat else l).map (pinI names)
def ZkP (l:List (List UInt8)):List (List UInt8):=if 0≤ZiO l then l.drop ((ZiO l).toNat+1) else []
def goR (names:List (List UInt8)):List (List UInt8)→List (Int×Bool)→List (Int×Bool)×List (List UInt8)
 |[],a=>(a,[])
 |x::r,a=>if ZeZ x=true then (a,r) else goR names r (a++[Zkd names x])
theorem ZnV (cov:List (List UInt8)):∀(l:List (List UInt8)) (k:Nat),(∀x∈l,ZeZ x=false)→ixf ZeZ k (l++[61]::cov)=((k+l.length:Nat):Int)
 | [],k,_=>by
  show ixf ZeZ k ([61]::cov)=_
  unfold ixf
  rw[if_pos (by decide)];rfl
 | x::r,k,h=>by
  show ixf ZeZ k (x::(r++[61]::cov))=_
  unfold ixf
  rw[if_neg (by rw[h x List.mem_cons_self];decide),ZnV cov r (k+1) fun y hy=>h y (List.mem_cons_of_mem _ hy),List.length_cons]
  congr 1;omega
theorem Zlt :∀(l:List (List UInt8)) (k:Nat),(∀x∈l,ZeZ x=false)→ixf ZeZ k l= -1
 |[],k,_=>rfl
 | x::r,k,h=>by
  unfold ixf
  rw[if_neg (by rw[h x List.mem_cons_self];decide)]
  exact Zlt r (k+1) fun y hy=>h y (List.mem_cons_of_mem _ hy)
theorem Zqb (names:List (List UInt8)) (cov:List (List UInt8)):∀(l:List (List UInt8)) (a:List (Int×Bool)),(∀x∈l,ZeZ x=false)→goR names (l++[61]::cov) a=(a++l.map (Zkd names),cov)
 | [],a,_=>by
  show goR names ([61]::cov) a=_
  unfold goR
  rw[if_pos (by decide)];simp
 | x::r,a,h=>by
  show goR names (x::(r++[61]::cov)) a=_
  unfold goR
  rw[if_neg (by rw[h x List.mem_cons_self];decide),Zqb names cov r _ fun y hy=>h y (List.mem_cons_of_mem _ hy)]
  simp
theorem ZnW (names:List (List UInt8)):∀(l:List (List UInt8)) (a:List (Int×Bool)),(∀x∈l,ZeZ x=false)→goR names l a=(a++l.map (Zkd names),[])
 |[],a,_=>by simp[goR]
 | x::r,a,h=>by
  unfold goR
  rw[if_neg (by rw[h x List.mem_cons_self];decide),ZnW names r _ fun y hy=>h y (List.mem_cons_of_mem _ hy)]
  simp
theorem ZtC {n:PNet} (h:Zbt n=true) {p:Int×Bool} (h0:0≤p.1) (h1:p.1<n.wires.length):ZeZ (Zb9 n p)=false:=by
 have hno:(61:UInt8)∉ZeB n p.1:=Zmh (ZgM h h0 h1) (by decide)
 have:(61:UInt8)∉Zb9 n p:=by
  unfold Zb9
  split
  ·rw[List.mem_append,not_or];exact ⟨hno,by decide⟩
  ·exact hno
 unfold ZeZ
 rw[decide_eq_false_iff_not]
 exact fun e=>this (by rw[e];simp)
theorem Zlu {n:PNet} (h:Zbt n=true) {k:Nat} {w:PWire} (hw:n.wires[k]?=some w):
 Zmi (n.wires.map (·.name)) (w.ins.map (Zb9 n)++ZdQ w)=w.ins∧ZkP (w.ins.map (Zb9 n)++ZdQ w)=w.cover∧goR (n.wires.map (·.name)) (w.ins.map (Zb9 n)++ZdQ w) []=(w.ins,w.cover):=by
 have g:=ZnQ h hw
 have hE:∀x∈w.ins.map (Zb9 n),ZeZ x=false:=fun x hx=>by
  obtain ⟨p,hp,rfl⟩:=List.mem_map.1 hx
  exact ZtC h (g.pin p hp).1 (g.pin p hp).2
 have hI:(w.ins.map (Zb9 n)).map (pinI (n.wires.map (·.name)))=w.ins:=by
  rw[List.map_map]
  refine (List.map_congr_left fun p hp=> ?_).trans (List.map_id _)
  exact (ZnU h (g.pin p hp).1 (g.pin p hp).2).1
 have hR:(w.ins.map (Zb9 n)).map (Zkd (n.wires.map (·.name)))=w.ins:=by
  rw[List.map_map]
  refine (List.map_congr_left fun p hp=> ?_).trans (List.map_id _)
  exact (ZnU h (g.pin p hp).1 (g.pin p hp).2).2
 unfold Zmi ZkP ZiO ZdQ
 split
 ·have e:=ZnV w.cover (w.ins.map (Zb9 n)) 0 hE
  rw[Nat.zero_add] at e
  rw[e,if_pos (by omega),if_pos (by omega),Int.toNat_natCast,List.take_left' rfl,Zqb _ _ _ _ hE,hI,hR]
  refine ⟨rfl, ?_,rfl⟩
  rw[show ((w.ins.map (Zb9 n)).length+1)=(w.ins.map (Zb9 n)++[[61]]).length by simp,show w.ins.map (Zb9 n)++[61]::w.cover=(w.ins.map (Zb9 n)++[[61]])++w.cover by simp,List.drop_left' rfl]
 ·rename_i h5
  rw[List.append_nil,Zlt _ _ hE,if_neg (by omega),if_neg (by omega),ZnW _ _ _ hE,hI,hR,g.cov h5]
  exact ⟨rfl,rfl,rfl⟩
def Zo9 (names:List (List UInt8)) (ws:List (List UInt8)):PWire:=⟨ws.getD 1 [],(Zb4 (ws.getD 0 [])).1,Zmi names (ws.drop 2),ZkP (ws.drop 2)⟩
def Zad (W:List (List (List UInt8))):List (List UInt8):=W.map fun ws=>ws.getD 1 []
def ZcK (kd:List UInt8→Int×Int):List (List (List UInt8))→List (List UInt8×Int)
 |[]=>[]
 |ws::r=>if 0<(kd (ws.getD 0 [])).2 then (ws.getD 1 [],(kd (ws.getD 0 [])).2)::ZcK kd r else ZcK kd r
def Za9 (W:List (List (List UInt8))):PNet:=⟨ZcK Zb4 W,W.map (Zo9 (Zad W))⟩
def ZnX (names:List (List UInt8)) (ws:List (List UInt8)):PWire:=⟨ws.getD 1 [],(ZaK (ws.getD 0 [])).1,(goR names (ws.drop 2) []).1,(goR names (ws.drop 2) []).2⟩
def ZcC (W:List (List (List UInt8))):PNet:=⟨ZcK ZaK W,W.map (ZnX (Zad W))⟩
theorem Zqc (n:PNet):∀(l:List PWire) (k:Nat),Zad (ZaO n k l)=l.map (·.name)
 |[],k=>rfl
 | w::r,k=>by
  unfold ZaO
  show (ZaD n k w).getD 1 []::Zad (ZaO n (k+1) r)=_
  rw[Zqc n r (k+1)]
  rfl
theorem Zpa {n:PNet} (h:Zbt n=true) (kd:List UInt8→Int×Int) (hkd:∀k w,n.wires[k]?=some w→(kd (Zaj n k w)).2=match n.signals[k]? with|some s=>s.2|none=>0):
 ∀(l:List PWire) (k:Nat),l=n.wires.drop k→k≤n.wires.length→ZcK kd (ZaO n k l)=n.signals.drop k
 | [],k,hl,hk=>by
  have h1:n.signals.length≤n.wires.length:=by
   unfold Zbt at h
   simp only[Bool.and_eq_true,Bool.not_eq_true',decide_eq_false_iff_not] at h
   omega
  have h2:n.wires.length≤k:=by
   have:=congrArg List.length hl
   rw[List.length_drop] at this
   simp at this
   omega
  rw[List.drop_eq_nil_of_le (by omega)]
  rfl
 | w ::r,k,hl,hk=>by
  have hkl:k<n.wires.length:=by
   have:=congrArg List.length hl
   rw[List.length_drop,List.length_cons] at this
   omega
  have hw:n.wires[k]?=some w:=by
   have:=congrArg (fun l:List PWire=>l[0]?) hl
   simpa using this.symm
  have hr:r=n.wires.drop (k+1):=by
   have:=congrArg List.tail hl
   simpa using this
  have ih:=Zpa h kd hkd r (k+1) hr (by omega)
  have e:=hkd k w hw
  unfold ZaO ZcK
  have e0:(ZaD n k w).getD 0 []=Zaj n k w:=rfl
  have e1:(ZaD n k w).getD 1 []=w.name:=rfl
  rw[e0,e1,e,ih]
  have g:=ZnQ h hw
  cases hs:n.signals[k]? with
  | some s=>
   obtain ⟨g1,g2,g3,g4⟩:=g.sig s hs
   dsimp only
   rw[if_pos (by omega),g1]
   obtain ⟨hl',rfl⟩:=List.getElem?_eq_some_iff.1 hs
   exact (List.drop_eq_getElem_cons hl').symm
  | none=>
   dsimp only
   rw[if_neg (by omega)]
   have:n.signals.length≤k:=by
    rcases Nat.lt_or_ge k n.signals.length with hlt|hge
    ·rw[List.getElem?_eq_getElem hlt] at hs;cases hs
    ·exact hge
   rw[List.drop_eq_nil_of_le this,List.drop_eq_nil_of_le (by omega)]
theorem Zmj {n:PNet} (f:List (List UInt8)→PWire) (hf:∀k w,n.wires[k]?=some w→f (ZaD n k w)=w):∀(l:List PWire) (k:Nat),(∀i w,l[i]?=some w→n.wires[k+i]?=some w)→(ZaO n k l).map f=l
 |[],k,_=>rfl
 | w::r,k,h=>by
  unfold ZaO
  rw[List.map_cons,hf k w (by simpa using h 0 w rfl),Zmj f hf r (k+1) fun i v hi=>by have:=h (i+1) v (by simpa using hi);rwa[show k+(i+1)=k+1+i by omega] at this]
theorem Zpb {n:PNet} (h:Zbt n=true) (hne:n.wires≠[]):Za9 (Zg (Zcl n 0 n.wires []))=n∧ZcC (Zg (Zcl n 0 n.wires []))=n:=by
 rw[ZiG h hne]
 unfold Za9 ZcC
 rw[Zqc,Zpa h Zb4 (fun k w hw=>by rw[(Zf5 h hw).1]) n.wires 0 rfl (Nat.zero_le _),Zpa h ZaK (fun k w hw=>by rw[(Zf5 h hw).2]) n.wires 0 rfl (Nat.zero_le _),List.drop_zero,
  Zmj (Zo9 (n.wires.map (·.name))) (fun k w hw=> ?_) n.wires 0 (fun i w hi=>by rwa[Nat.zero_add]),
  Zmj (ZnX (n.wires.map (·.name))) (fun k w hw=> ?_) n.wires 0 (fun i w hi=>by rwa[Nat.zero_add])]
 ·exact ⟨rfl,rfl⟩
 ·obtain ⟨l1,l2,l3⟩:=Zlu h hw
  unfold ZnX
  have e0:(ZaD n k w).getD 0 []=Zaj n k w:=rfl
  have e1:(ZaD n k w).getD 1 []=w.name:=rfl
  have e2:(ZaD n k w).drop 2=w.ins.map (Zb9 n)++ZdQ w:=rfl
  rw[e0,e1,e2,l3,(Zf5 h hw).2]
 ·obtain ⟨l1,l2,l3⟩:=Zlu h hw
  unfold Zo9
  have e0:(ZaD n k w).getD 0 []=Zaj n k w:=rfl
  have e1:(ZaD n k w).getD 1 []=w.name:=rfl
  have e2:(ZaD n k w).drop 2=w.ins.map (Zb9 n)++ZdQ w:=rfl
  rw[e0,e1,e2,l1,l2,(Zf5 h hw).1]
theorem Zke {c:UInt8}:∀(s:List UInt8) (i:Nat),Lib.indexByte s c=(i:Int)→Zf c s=s.take i::Zf c (s.drop (i+1))∧s.count c=(s.drop (i+1)).count c+1
 |[],i,h=>by unfold Lib.indexByte at h;omega
 | b ::l,i,h=>by
  unfold Lib.indexByte at h
  by_cases hb:b=c
  ·subst hb
   rw[if_pos (by simp)] at h
   obtain rfl:i=0:=by omega
   have e:Zf b (b::l)=[]::Zf b l:=by rw[Zf,if_pos rfl]
   rw[e]
   simp
  ·rw[if_neg (by simpa using hb)] at h
   split at h
   ·omega
   ·rename_i hm
    have hge:=Lib.indexByte_ge l c
    have hne:Lib.indexByte l c≠ -1:=by simpa using hm
    obtain ⟨j,rfl⟩:∃j,i=j+1:=⟨i - 1,by omega⟩
    obtain ⟨h1,h2⟩:=Zke (c:=c) l j (by omega)
    have e:Zf c (b::l)=Zj8 b (Zf c l):=by rw[Zf,if_neg hb]
    rw[e,h1]
    refine ⟨by simp[Zj8], ?_⟩
    rw[List.count_cons_of_ne (by simpa using hb)]
    simpa using h2
theorem ZnY {c:UInt8} {s:List UInt8} (h:Lib.indexByte s c= -1):Zf c s=[s]:=
 ZdL fun hm=>by
  obtain ⟨k,hk⟩:=List.mem_iff_getElem?.1 hm
  exact Lib.indexByte_none h k hk
theorem ZnZ (c:UInt8):∀(k:Nat) (s:List UInt8),s.count c=k→Lib.splitK [c] 0 k s=Zf c s
 | 0,s,h=>by
  unfold Lib.splitK
  exact (ZdL (by rw[List.count_eq_zero] at h;exact h)).symm
 | k+1,s,h=>by
  unfold Lib.splitK
  rw[Lib.index_one]
  have hge:=Lib.indexByte_ge s c
  by_cases hm:Lib.indexByte s c= -1
  ·rw[if_pos (by simp[hm]),ZnY hm]
  ·obtain ⟨i,hi⟩:=Int.eq_ofNat_of_zero_le (show 0≤Lib.indexByte s c by omega)
   obtain ⟨h1,h2⟩:=Zke s i hi
   rw[if_neg (by rw[hi];simp),hi,h1]
   simp only[Int.toNat_natCast,Nat.add_zero,List.length_cons,List.length_nil,Nat.zero_add]
   rw[ZnZ c k _ (by omega)]
theorem ZtD (s:List UInt8) (c:UInt8):Lib.split s [c]=Zf c s:=ZnZ c _ s (by rw[Lib.count_one])
theorem Zlv (s:List UInt8) (c:UInt8) (h:s.length<4294967281):ZaT [.str s,.str [c]]=some (.lst ((Zf c s).map .str)):=by
 show (if s.length<4294967281 then some (PV.lst ((Lib.split s [c]).map .str)) else none)=_
 rw[if_pos h,ZtD]
theorem ZbK (c:UInt8):∀s:List UInt8,(Zf c s).length≤s.length+1
 |[]=>by simp[Zf]
 | b::r=>by
  have ih:=ZbK c r
  unfold Zf
  split
  ·simp;omega
  ·cases hs:Zf c r with
   |nil=>exact absurd hs (Zf4 c r)
   |cons x xs=>rw[hs] at ih;simp[Zj8] at ih⊢;omega
theorem ZbL (c:UInt8):∀(s:List UInt8),∀x∈Zf c s,x.length≤s.length
 |[],x,hx=>by simp[Zf] at hx;subst hx;simp
 | b ::r,x,hx=>by
  have ih:=ZbL c r
  unfold Zf at hx
  split at hx
  ·rcases List.mem_cons.1 hx with rfl|hx
   ·simp
   ·have:=ih x hx;simp;omega
  ·cases hs:Zf c r with
   |nil=>exact absurd hs (Zf4 c r)
   | cons y ys=>
    rw[hs] at hx ih
    rcases List.mem_cons.1 hx with rfl|hx
    ·have:=ih y List.mem_cons_self;simp;omega
    ·have:=ih x (List.mem_cons_of_mem _ hx);simp;omega
theorem Zpc {s:List UInt8} (hs:s≠[]):s.drop (s.length - 1)=[s.getLast hs]:=by
 obtain ⟨l,a,rfl⟩:∃l a,s=l++[a]:=⟨s.dropLast,s.getLast hs,(List.dropLast_concat_getLast hs).symm⟩
 simp
theorem ZdM (s:List UInt8):s.take (s.length - 1)=s.dropLast:=by rw[List.dropLast_eq_take]
theorem Zrb {s:List UInt8} (c:UInt8) (hs:s≠[]):decide (s.drop (s.length - 1)=[c])=Z4 c s:=by
 unfold Z4
 rw[Zpc hs,List.getLast?_eq_some_getLast hs]
 simp
theorem ZfI (s:List UInt8) (c:UInt8) (h:ZR s):Zl [.str s,.str [c]]=some (pB (Z4 c s)):=by
 show (fun x0 x1=>Zl [x0,x1]) _ _=_
 rw[Zaz]
 unfold ZR at h
 by_cases hs:s=[]
 ·subst hs
  simp only[List.length_nil,List.length_cons,EVS]
  rfl
 ·have hl:0<s.length:=List.length_pos_iff.2 hs
  have d1:decide ((1:Int)≤(s.length:Int))=true:=by rw[decide_eq_true_eq];omega
  have hw:IntKind.i64.wrap ((s.length:Int) - 1)=((s.length - 1:Nat):Int):=by rw[ZbT (by omega) (by omega)];omega
  have hc:Zc5 (.str s) (some (.int .i64 ((s.length - 1:Nat):Int))) none=some (.str (s.drop (s.length - 1))):=ZhQ (by omega)
  simp only[List.length_nil,List.length_cons,Nat.zero_add,ge_iff_le,d1,hw,hc,EVS,Zrb c hs]
theorem Zkf (s:List UInt8) (h:ZR s):Zl [.str s,.str []]=some (pB true):=by
 show (fun x0 x1=>Zl [x0,x1]) _ _=_
 rw[Zaz]
 unfold ZR at h
 have d1:decide ((0:Int)≤(s.length:Int))=true:=by simp
 have hw:IntKind.i64.wrap ((s.length:Int) - 0)=((s.length:Nat):Int):=by rw[ZbT (by omega) (by omega)];omega
 have hc:Zc5 (.str s) (some (.int .i64 ((s.length:Nat):Int))) none=some (.str (s.drop s.length)):=ZhQ (by omega)
 simp only[List.length_nil,ge_iff_le,d1,hw,hc,EVS,List.drop_length]
theorem Ze0 (s:List UInt8) (c:UInt8) (h:ZR s):ZaF [.str s,.str [c]]=some (pB (Z4 c s)):=by
 show (fun x0 x1=>ZaF [x0,x1]) _ _=_
 rw[Ze4]
 simp only[ZfI s c h,EVS]
theorem ZcD (s:List UInt8) (c:UInt8) (h:ZR s):ZO [.str s,.str [c]]=some (.tup [.str (if Z4 c s=true then s.dropLast else s),pB (Z4 c s)]):=by
 have h1:Zp [.str s,.str [c]]=some (.tup [.str (if Z4 c s=true then s.dropLast else s),pB (Z4 c s)]):=by
  show (fun x0 x1=>Zp [x0,x1]) _ _=_
  rw[ZaA]
  unfold ZR at h
  simp only[ZfI s c h,EVS]
  cases he:Z4 c s
  ·simp only[EVS]
   rfl
  ·have hs:s≠[]:=by rintro rfl;cases he
   have hl:0<s.length:=List.length_pos_iff.2 hs
   have hw:IntKind.i64.wrap ((s.length:Int) - 1)=((s.length - 1:Nat):Int):=by rw[ZbT (by omega) (by omega)];omega
   have hc:Zc5 (.str s) none (some (.int .i64 ((s.length - 1:Nat):Int)))=some (.str (s.take (s.length - 1))):=Zdq (by omega)
   simp only[List.length_nil,List.length_cons,Nat.zero_add,hw,hc,EVS,ZdM]
   rfl
 show (fun x0 x1=>ZO [x0,x1]) _ _=_
 rw[ZcG]
 simp only[h1,EVS]
 rfl
theorem Zkg (s:List UInt8) (h:ZR s):ZO [.str s,.str []]=some (.tup [.str s,pB true]):=by
 have h1:Zp [.str s,.str []]=some (.tup [.str s,pB true]):=by
  show (fun x0 x1=>Zp [x0,x1]) _ _=_
  rw[ZaA]
  unfold ZR at h
  have hw:IntKind.i64.wrap ((s.length:Int) - 0)=((s.length:Nat):Int):=by rw[ZbT (by omega) (by omega)];omega
  have hc:Zc5 (.str s) none (some (.int .i64 ((s.length:Nat):Int)))=some (.str (s.take s.length)):=Zdq (by omega)
  simp only[Zkf s h,List.length_nil,hw,hc,EVS,List.take_length]
  rfl
 show (fun x0 x1=>ZO [x0,x1]) _ _=_
 rw[ZcG]
 simp only[h1,EVS]
 rfl
theorem ZbM (l:List (List UInt8)) (x:List UInt8) (hl:ZR l):Zt [.lst (l.map PV.str),PV.str x]=some (pI (ixf (fun a=>decide (x=a)) 0 l)):=by
 show (fun x0 x1=>Zt [x0,x1]) _ _=_
 rw[Zeo]
 unfold ZR at hl
 simp only[EVS]
 refine (congrArg (fun m:Option PV=>m.bind fun r=>if r.sc=true then some r else none) (Zf3 l (fun a=>decide (x=a)) _ hl (fun again k a hb=> ?_) (fun again=> ?_))).trans ?_
 ·have hk:=Zi hb
  have hi:Zz (.lst (l.map PV.str)) (.int .i64 (k:Int))=some (PV.str a):=ZI hb
  simp only[Zbx hk,ZH hk hl,hi,EVS]
 ·simp only[Zbs,EVS]
  rfl
 ·simp only[EVS]
theorem Zf6 {α:Type} {q q':α→Bool} (h:∀x,q x=q' x):∀(l:List α) (k:Nat),ixf q k l=ixf q' k l
 |[],_=>rfl
 |x::r,k=>by unfold ixf;rw[h x,Zf6 h r (k+1)]
theorem Zmk {α:Type} (q:α→Bool):∀(l:List α) (k:Nat),ixf q k l<((k+l.length:Nat):Int)∧ -1≤ixf q k l
 |[],k=>by unfold ixf;constructor<;>omega
 | x::r,k=>by
  unfold ixf
  split
  ·simp only[List.length_cons];constructor<;>omega
  ·have:=Zmk q r (k+1)
   simp only[List.length_cons]
   constructor<;>omega
theorem Zpd (x:List UInt8): -1≤ZbC x∧ZbC x<5:=by
 have:=Zmk (fun y=>decide (y=x)) (ZA.drop 1) 0
 unfold ZbC
 have h5:(ZA.drop 1).length=5:=rfl
 omega
theorem ZgN (x:List UInt8):Zt [.lst [.str [105,110],.str [97,110,100],.str [111,114],.str [104,111,108,100],.str [99,111,118,101,114]],.str x]=some (pI (ZbC x)):=by
 have h:=ZbM (ZA.drop 1) x (by decide)
 refine (show _=_ from h).trans ?_
 unfold ZbC
 rw[Zf6 (q':=fun y=>decide (y=x)) fun y=>by rw[decide_eq_decide];exact eq_comm]
def kC (x:List UInt8):Int×Int:=if (Z4 63 x&&decide (0≤ZbC x.dropLast))=true then (ZbC x.dropLast+1,3) else (0,0)
def kB (x:List UInt8):Int×Int:=if (Z4 33 x&&decide (0≤ZbC x.dropLast))=true then (ZbC x.dropLast+1,2) else kC x
def eKK (p:Int×Int):PV:=.tup [pI p.1,pI p.2]
theorem Zpe (x:List UInt8) (hx:ZR x):Ze5 [.str x]=some (eKK (Zb4 x)):=by
 show (fun x0=>Ze5 [x0]) _=_
 rw[Zn8]
 have hb:=Zpd x
 have hb':=Zpd x.dropLast
 have t1:ZiK 0 (.int .i64 1)=some (.str []):=rfl
 have t2:ZiK 0 (.int .i64 2)=some (.str [33]):=rfl
 have t3:ZiK 0 (.int .i64 3)=some (.str [63]):=rfl
 have w1:IntKind.i64.wrap (1+1)=2:=by decide
 have w2:IntKind.i64.wrap (2+1)=3:=by decide
 have w3:IntKind.i64.wrap (3+1)=4:=by decide
 have wk:∀y,IntKind.i64.wrap (ZbC y+1)=ZbC y+1:=fun y=>by have:=Zpd y;exact ZbT (by omega) (by omega)
 simp only[EVS]
 refine (congrArg (fun m:Option PV=>m.bind fun r=>if r.sc=true then some r else none) (Zet (R:=PV) (fun k:{k:Nat // 1≤k∧k≤4}=>[pI (k.1:Int)]) (fun k=>5 - k.1) (fun k=>some (eKK (if k.1=1 then Zb4 x else if k.1=2 then kB x else if k.1=3 then kC x else (0,0)))) _ (fun again k ih=> ?_) 18446744073709551616 ⟨1,by omega⟩ (by simp only;omega))).trans ?_
 ·obtain ⟨k,hk⟩:=k
  obtain rfl|rfl|rfl|rfl:k=1∨k=2∨k=3∨k=4:=by omega
  ·have hn:again [.int .i64 2]=some (eKK (kB x)):=ih ⟨2,by omega⟩ (by simp only;omega)
   have d:decide ((1:Int)≤3)=true:=by decide
   dsimp only
   simp only[t1,Zkg x hx,ZgN,wk,w1,d,EVS]
   obtain c1|c1:=(Bool.eq_false_or_eq_true (decide (0≤ZbC x))).symm<;>simp only[c1,EVS]
   ·rw[hn]
    have:¬0≤ZbC x:=by simpa using c1
    unfold Zb4
    rw[if_neg this]
    rfl
   ·have c1':0≤ZbC x:=by simpa using c1
    obtain c2|c2:=(Bool.eq_false_or_eq_true (decide (ZbC x+1=1))).symm<;>simp only[c2,EVS]<;>unfold Zb4 eKK<;>rw[if_pos c1']<;>dsimp only
    ·rw[if_neg (by simpa using c2)]
    ·rw[if_pos (by simpa using c2)]
  ·have hn:again [.int .i64 3]=some (eKK (kC x)):=ih ⟨3,by omega⟩ (by simp only;omega)
   have d:decide ((2:Int)≤3)=true:=by decide
   have d2:decide ((2:Int)=1)=false:=by decide
   dsimp only
   simp only[t2,ZcD x 33 hx,ZgN,wk,w2,d,d2,EVS]
   obtain c0|c0:=(Bool.eq_false_or_eq_true (Z4 33 x)).symm
   ·simp only[c0,ZgN,EVS]
    have e:(if (2:Nat)=1 then Zb4 x else if (2:Nat)=2 then kB x else if (2:Nat)=3 then kC x else (0,0))=kB x:=rfl
    obtain c1|c1:=(Bool.eq_false_or_eq_true (decide (0≤ZbC x))).symm<;>simp only[c1,EVS]<;>rw[hn]<;>unfold kB<;>rw[c0]<;>rfl
   ·simp only[c0,ZgN,EVS]
    obtain c1|c1:=(Bool.eq_false_or_eq_true (decide (0≤ZbC x.dropLast))).symm<;>simp only[c1,EVS]
    ·rw[hn];unfold kB;rw[c0,c1];rfl
    ·unfold kB eKK;rw[c0,c1];rfl
  ·have hn:again [.int .i64 4]=some (eKK (0,0)):=ih ⟨4,by omega⟩ (by simp only;omega)
   have d:decide ((3:Int)≤3)=true:=by decide
   have d2:decide ((3:Int)=1)=false:=by decide
   dsimp only
   simp only[t3,ZcD x 63 hx,ZgN,wk,w3,d,d2,EVS]
   obtain c0|c0:=(Bool.eq_false_or_eq_true (Z4 63 x)).symm
   ·simp only[c0,ZgN,EVS]
    obtain c1|c1:=(Bool.eq_false_or_eq_true (decide (0≤ZbC x))).symm<;>simp only[c1,EVS]<;>rw[hn]<;>unfold kC<;>rw[c0]<;>rfl
   ·simp only[c0,ZgN,EVS]
    obtain c1|c1:=(Bool.eq_false_or_eq_true (decide (0≤ZbC x.dropLast))).symm<;>simp only[c1,EVS]
    ·rw[hn];unfold kC;rw[c0,c1];rfl
    ·unfold kC eKK;rw[c0,c1];rfl
  ·have d:decide ((4:Int)≤3)=false:=by decide
   dsimp only
   simp only[d,EVS]
   rfl
 ·simp only[EVS]
  rfl
structure PGate where
 sig:Int
 kind:Int
 set:List (List UInt8)
 reset:List (List UInt8)
structure PCirc where
 signals:List (List UInt8×Int)
 gates:List PGate
structure PGate.Fit (g:PGate):Prop where
 set:ZR g.set
 sets:∀c∈g.set,ZR c
 reset:ZR g.reset
 resets:∀c∈g.reset,ZR c
structure PCirc.Fit (c:PCirc):Prop where
 signals:ZR c.signals
 names:∀s∈c.signals,ZR s.1
 gates:ZR c.gates
 gate:∀g∈c.gates,g.Fit
theorem Zcq {R:Type} (b:Nat) (st:Nat→List PV) (e:Option R) (f:(List PV→Option R)→List PV→Option R) (hm:b≤9223372036854775807) (h1:∀again k,k<b→f again (st k)=again (st (k+1))) (h2:∀again,f again (st b)=e) (J:List PV) (hJ:st 0=J):Z0 f 18446744073709551616 J=e:=by
 subst hJ
 exact Zet (R:=R) (fun k:{k:Nat // k≤b}=>st k.1) (fun k=>b+1 - k.1) (fun _=>e) f (fun again k ih=>by
  obtain ⟨k,hk⟩:=k
  dsimp only at ih⊢
  by_cases c:k<b
  ·rw[h1 again k c];exact ih ⟨k+1,c⟩ (by simp only;omega)
  ·obtain rfl:k=b:=by omega
   exact h2 again) 18446744073709551616 ⟨0,Nat.zero_le _⟩ (by simp only;omega)
theorem ag4 (a b c d:PV):aggL 4 (.agg [a,b,c,d])=some (.lst [.agg [a,b,c,d]]):=(Eq.refl _).trans (Eq.refl _)
theorem ne1 (x:PV):neL [x]=some [x]:=(Eq.refl _).trans (Eq.refl _)
theorem ZsK (cs l:List PV) (n:Nat):Zfx cs n (.agg l)=some (.agg (splice cs n l)):=(Eq.refl _).trans (Eq.refl _)
theorem len1 (x:PV):[x].length=1:=(Eq.refl _).trans (Eq.refl _)
structure NetIn (n:PNet):Prop where
 s8:n.signals.length≤8
 sig:∀s∈n.signals,s.1.length≤6∧1≤s.2∧s.2≤3
 w24:n.wires.length≤24
 wire:∀w∈n.wires,w.name.length≤6∧(1≤w.kind∧w.kind≤5)∧w.ins.length≤8∧(∀p∈w.ins,0≤p.1∧p.1<24)∧w.cover.length≤60∧∀c∈w.cover,c.length≤8
theorem NetIn.nil :NetIn ⟨[],[]⟩:=⟨by simp,by simp,by simp,by simp⟩
theorem nm6 {s:List UInt8} (h:ZQ s=true):s.length≤6:=by
 unfold ZQ at h
 simp only[Bool.and_eq_true,decide_eq_true_eq] at h
 omega
theorem netIn {n:PNet} (h:Zbt n=true):NetIn n:=by
 unfold Zbt at h
 simp only[Bool.and_eq_true,Bool.not_eq_true',decide_eq_false_iff_not] at h
 obtain ⟨⟨h1,h2,h3⟩,h4⟩:=h
 unfold Zhv at h1
 simp only[Bool.and_eq_true] at h1
 obtain ⟨hs1,hs2⟩:=h1
 unfold inR at hs2
 simp only[Bool.and_eq_true,decide_eq_true_eq] at hs2
 refine ⟨by omega,fun s hs=> ?_,by omega,fun w hw=> ?_⟩
 ·obtain ⟨k,hk⟩:=List.getElem?_of_mem hs
  have hsk:=Zdk _ n.signals 0 hs1 k s hk
  unfold Zhu inR at hsk
  simp only[Bool.and_eq_true,decide_eq_true_eq] at hsk
  exact ⟨nm6 hsk.1.1,hsk.1.2⟩
 ·obtain ⟨k,hk⟩:=List.getElem?_of_mem hw
  have hk:=Zdk _ _ _ h4 k _ hk
  rw[Nat.zero_add] at hk
  unfold ZaP Zhx Zj2 inR at hk
  simp only[Bool.and_eq_true,decide_eq_true_eq] at hk
  obtain ⟨⟨⟨⟨⟨hkd,_⟩,_⟩,hcov⟩,hnm,hpins,hform⟩,_⟩:=hk
  refine ⟨nm6 hnm,hkd, ?_,fun p hp=> ?_, ?_⟩
  ·unfold Zdj inR at hform
   split at hform
   ·simp only[decide_eq_true_eq] at hform;omega
   ·split at hform
    ·simp only[decide_eq_true_eq] at hform;omega
    ·split at hform
     ·simp only[Bool.or_eq_true,decide_eq_true_eq] at hform
      rcases hform with h0|h1
      ·omega
      ·split at h1
       ·rename_i he;rw[he];simp
       ·cases h1
     ·simp only[Bool.and_eq_true,decide_eq_true_eq] at hform;omega
  ·have:=Zc6 (fun p=>Zd4 n k p) hpins hp
   unfold Zd4 inR at this
   simp only[Bool.and_eq_true,decide_eq_true_eq] at this
   omega
  ·split at hcov
   ·unfold Zhw Zf2 inR at hcov
    simp only[Bool.and_eq_true,decide_eq_true_eq] at hcov
    refine ⟨by omega,fun c hc=> ?_⟩
    have:=Zc6 (fun c=>Zd3 c&&decide ((c.length:Int)=n.signals.length)) hcov.1 hc
    simp only[Bool.and_eq_true,decide_eq_true_eq] at this
    omega
   ·simp only[Bool.not_eq_true',decide_eq_false_iff_not] at hcov
    have:w.cover=[]:=List.eq_nil_of_length_eq_zero (by omega)
    rw[this]
    simp
theorem okPin (l:List (Int×Bool)):(l.map ZbJ).all (Zag 2)=true:=by
 rw[List.all_eq_true]
 intro x hx
 obtain ⟨p,_,rfl⟩:=List.mem_map.1 hx
 rfl
theorem Zqd (l:List (List UInt8)):(l.map PV.str).all (Zag 1)=true:=by
 rw[List.all_eq_true]
 intro x hx
 obtain ⟨p,_,rfl⟩:=List.mem_map.1 hx
 rfl
theorem okSigE (l:List (List UInt8×Int)):(l.map Zah).all (Zag 2)=true:=by
 rw[List.all_eq_true]
 intro x hx
 obtain ⟨p,_,rfl⟩:=List.mem_map.1 hx
 rfl
theorem ZiP (n:PNet) (hn:NetIn n):Zch [Za0 n]=some (Za0 n):=by
 show (fun x0=>Zch [x0]) _=_
 rw[Zin]
 obtain ⟨h1,h2,h3,h4⟩:=hn
 have hls:([]:List PV).length+n.signals.length≤4294967296∧(n.signals.map Zah).all (Zag 2)=true:=⟨by simp;omega,okSigE _⟩
 have hp1:∀a b a':PV,splice [a,b] 0 [a']=[a',b]:=fun _ _ _=>rfl
 have hs4:∀a b c d a' b' c' d':PV,splice (splice (splice (splice [a,b,c,d] 0 [a']) 1 [b']) 2 [c']) 3 [d']=[a',b',c',d']:=fun _ _ _ _ _ _ _ _=>rfl
 have hst2:∀a b b':PV,[a,b].set 1 b'=[a,b']:=fun _ _ _=>rfl
 simp only[Za0,if_pos hls,hp1,ZsK,List.nil_append,EVS]
 refine Zcq (R:=PV) n.wires.length (fun k=>[Za0 ⟨n.signals,n.wires.take k⟩,pI (Int.ofNat k)]) _ _ (by omega) (fun again k k2=> ?_) (fun again=> ?_) _ (by rw[List.take_zero];rfl)
 ·have hck:n.wires[k]?=some n.wires[k]:=List.getElem?_eq_getElem k2
  have hx:Zz (.lst (n.wires.map Zv)) (.int .i64 (k:Int))=some (Zv n.wires[k]):=ZI hck
  have hwl:=h4 _ (List.getElem_mem k2)
  have hnx:=ZH k2 (show n.wires.length≤9223372036854775807 by omega)
  have hlp:([]:List PV).length+n.wires[k].ins.length≤4294967296∧(n.wires[k].ins.map ZbJ).all (Zag 2)=true:=⟨by simp;omega,okPin _⟩
  have hlc:([]:List PV).length+n.wires[k].cover.length≤4294967296∧(n.wires[k].cover.map PV.str).all (Zag 1)=true:=⟨by simp;omega,Zqd _⟩
  have htl:(n.wires.take k).length=k:=by simp;omega
  have hlb:(n.wires.take k).length+1≤4294967296:=by omega
  have htk:n.wires.take (k+1)=n.wires.take k++[n.wires[k]]:=List.take_succ_eq_append_getElem k2
  simp only[Zbx k2,hx,Za0,Zv,if_pos hlp,if_pos hlc,hs4,ZrD,ag4,ne1,len1,List.length_map,if_pos hlb,hst2,hnx,List.nil_append,EVS]
  rw[htk]
  simp only[List.map_append,List.map_cons,List.map_nil,EVS]
 ·simp only[Zbs,List.take_length,Za0,hp1,ZsK,EVS]
theorem Zii {l:List (List UInt8)} {n:Nat} (h:n≤l.length):Zdc 1 (.lst (l.map PV.str)) (some (.int .i64 (n:Int))) none=some (.lst ((l.drop n).map PV.str)):=by
 unfold Zdc
 have e:Zh8 (l.map PV.str).length (some (.int .i64 (n:Int)))=some n:=by
  show (if (0:Int)≤(n:Int)∧(n:Int)≤((l.map PV.str).length:Int) then some (n:Int).toNat else none)=_
  rw[if_pos (by rw[List.length_map];omega)];rfl
 dsimp only[ZfE]
 rw[Option.bind_some,e,Option.bind_some,if_pos (Zqd l),List.take_length,List.map_drop]
theorem ZtE {l:List (List UInt8)} {n:Nat} (h:n≤l.length):Zdc 1 (.lst (l.map PV.str)) none (some (.int .i64 (n:Int)))=some (.lst ((l.take n).map PV.str)):=by
 unfold Zdc
 have e:ZfE (l.map PV.str).length (some (.int .i64 (n:Int)))=some n:=by
  show (if (0:Int)≤(n:Int)∧(n:Int)≤((l.map PV.str).length:Int) then some (n:Int).toNat else none)=_
  rw[if_pos (by rw[List.length_map];omega)];rfl
 dsimp only[Zh8]
 rw[e,Option.bind_some,Option.bind_some,if_pos (Zqd l),List.drop_zero,List.map_take]
theorem ZsL (l:List (List UInt8)) (h:ZR l):Zt [.lst (l.map PV.str),.str [61]]=some (pI (ZiO l)):=by
 rw[ZbM l [61] h]
 unfold ZiO
 rw[Zf6 (q':=ZeZ) fun y=>by unfold ZeZ;rw[decide_eq_decide];exact eq_comm]
theorem ZsM (names:List (List UInt8)) (x:List UInt8) (h:ZR names):Zt [.lst (names.map PV.str),.str x]=some (pI (ixf (fun y=>decide (y=x)) 0 names)):=by
 rw[ZbM names x h,Zf6 (q':=fun y=>decide (y=x)) fun y=>by rw[decide_eq_decide];exact eq_comm]
def wirL (names l:List (List UInt8)) (kd:Int):PWire:=⟨l.getD 0 [],kd,Zmi names (l.drop 1),ZkP (l.drop 1)⟩
theorem Zml (names l : List (List UInt8)) (kd:Int) (hn:names.length≤1000000) (hl:l.length≤1000000) (hx:∀x∈l,x.length≤1000000):
 Zdo [.lst (names.map .str),.lst (l.map .str),pI kd]=some (Zv (wirL names l kd)):=by
 show (fun x0 x1 x2=>Zdo [x0,x1,x2]) _ _ _=_
 rw[ZkU]
 have hs1:∀a b c d x:PV,splice [a,b,c,d] 1 [x]=[a,x,c,d]:=fun _ _ _ _ _=>rfl
 have hs0:∀a b c d x:PV,splice [a,b,c,d] 0 [x]=[x,b,c,d]:=fun _ _ _ _ _=>rfl
 have hs3:∀a b c d x:PV,splice [a,b,c,d] 3 [x]=[a,b,c,x]:=fun _ _ _ _ _=>rfl
 have hs4:∀a b c d a' b' c' d':PV,splice [a,b,c,d] 0 [a',b',c',d']=[a',b',c',d']:=fun _ _ _ _ _ _ _ _=>rfl
 have hp0:∀a b x:PV,splice [a,b] 0 [x]=[x,b]:=fun _ _ _=>rfl
 have hp1:∀a b x:PV,splice [a,b] 1 [x]=[a,x]:=fun _ _ _=>rfl
 have hnf:ZR names:=by unfold ZR;omega
 simp only[hs1,hs4,Zfx,EVS]
 cases l with
 | nil=>
  have d0:decide ((0:Int)<(([]:List (List UInt8)).length:Int))=false:=rfl
  have he:=ZsL [] (by decide)
  have e1:ZiO []= -1:=rfl
  rw[e1] at he
  have d1:decide ((0:Int)≤ -1)=false:=rfl
  simp only[d0,List.map_nil,EVS]
  rw[show (PV.lst [])=.lst (([]:List (List UInt8)).map PV.str) from rfl,he]
  have d2:decide ((0:Int)<0)=false:=rfl
  simp only[d1,List.map_nil,List.length_nil,EVS]
  refine Zcq (R:=PV) 0 (fun _=>[.agg [.str [],pI kd,.lst [],.lst []],pI 0]) _ _ (by omega) (fun again k hk=>absurd hk (by omega)) (fun again=> ?_) _ rfl
  simp only[d2,hs4,EVS]
  rfl
 | cons a r =>
  have hr:r.length≤1000000:=by simp only[List.length_cons] at hl;omega
  have d0:decide ((0:Int)<((a::r).length:Int))=true:=by rw[decide_eq_true_eq];simp only[List.length_cons];omega
  have hi0:Zz (.lst ((a::r).map PV.str)) (.int .i64 0)=some (.str a):=ZeN (i:=0) rfl
  have hc1:Zdc 1 (.lst ((a::r).map PV.str)) (some (.int .i64 1)) none=some (.lst (r.map PV.str)):=Zii (l:=a::r) (n:=1) (by simp)
  have he:=ZsL r (by unfold ZR;omega)
  have hb:=Zmk ZeZ r 0
  simp only[d0,hi0,hc1,he,hs0,EVS]
  obtain c1|c1:=(Bool.eq_false_or_eq_true (decide (0≤ZiO r))).symm
  ·have c1' : ¬ 0 ≤ ZiO r := of_decide_eq_false c1
   simp only[c1,List.length_map,EVS]
   refine Zcq (R:=PV) (r).length (fun k=>[.agg [.str a,pI kd,.lst (((r).take k).map fun x=>ZbJ (pinI names x)),.lst ([])],pI (Int.ofNat k)]) _ _ (by omega) (fun again k hk=> ?_) (fun again=> ?_) _ (by rw[List.take_zero];rfl)
   ·have hf : (r)[k]? = some (r)[k]:=List.getElem?_eq_getElem hk
    have hkl : k ≤ 1000000 := by have:(r).length≤1000000:=by omega
                                 omega
    have hxl:=hx _ (List.mem_cons_of_mem _ (List.mem_of_getElem? hf))
    have hxi:Zz (.lst ((r).map PV.str)) (.int .i64 (k:Int))=some (.str (r)[k]):=ZI hf
    have hw:IntKind.i64.wrap ((k:Int)+1)=((k+1:Nat):Int):=ZH hk (by omega)
    have hc:=ZcD (r)[k] 39 (by unfold ZR;omega)
    have hN:=ZsM names (if Z4 39 (r)[k]=true then (r)[k].dropLast else (r)[k]) hnf
    have hins:∀a b:PV,(((r).take k).length+[PV.agg [a,b]].length≤4294967296∧[PV.agg [a,b]].all (Zag 2)=true)=True:=fun a b=>eq_true ⟨by rw[List.length_take];simp only[List.length_cons,List.length_nil];omega,rfl⟩
    simp only[Zbx hk,hxi,hc,hN,hw,hp0,hp1,hins,if_true,List.length_map,EVS]
    rw[List.take_succ_eq_append_getElem hk,List.map_append]
    rfl
   ·simp only[Zbs,hs4,List.take_length,EVS]
    unfold wirL Zmi ZkP Zv;simp[c1',Zv,List.map_map,Function.comp_def]
  ·have c1' : 0 ≤ ZiO r := of_decide_eq_true c1
   obtain ⟨e,hee⟩:=Int.eq_ofNat_of_zero_le c1'
   have hel:e<r.length:=by unfold ZiO at hee;omega
   rw[hee] at c1 c1'⊢
   have hw1:IntKind.i64.wrap ((e:Int)+1)=((e+1:Nat):Int):=ZH hel (by omega)
   have hcf:=Zii (l:=r) (n:=e+1) (by omega)
   have hct:=ZtE (l:=r) (n:=e) (by omega)
   simp only[c1,hw1,hcf,hct,hs3,List.length_map,EVS]
   refine Zcq (R:=PV) (r.take e).length (fun k=>[.agg [.str a,pI kd,.lst (((r.take e).take k).map fun x=>ZbJ (pinI names x)),.lst ((r.drop (e+1)).map PV.str)],pI (Int.ofNat k)]) _ _ (by rw[List.length_take];omega) (fun again k hk=> ?_) (fun again=> ?_) _ (by rw[List.take_zero];rfl)
   ·have hf : (r.take e)[k]? = some (r.take e)[k]:=List.getElem?_eq_getElem hk
    have hkl : k ≤ 1000000 := by have:(r.take e).length≤1000000:=by rw[List.length_take];omega
                                 omega
    have hxl:=hx _ ((fun h=>List.mem_cons_of_mem _ (List.mem_of_mem_take h)) (List.mem_of_getElem? hf))
    have hxi:Zz (.lst ((r.take e).map PV.str)) (.int .i64 (k:Int))=some (.str (r.take e)[k]):=ZI hf
    have hw:IntKind.i64.wrap ((k:Int)+1)=((k+1:Nat):Int):=ZH hk (by rw[List.length_take];omega)
    have hc:=ZcD (r.take e)[k] 39 (by unfold ZR;omega)
    have hN:=ZsM names (if Z4 39 (r.take e)[k]=true then (r.take e)[k].dropLast else (r.take e)[k]) hnf
    have hins:∀a b:PV,(((r.take e).take k).length+[PV.agg [a,b]].length≤4294967296∧[PV.agg [a,b]].all (Zag 2)=true)=True:=fun a b=>eq_true ⟨by rw[List.length_take];simp only[List.length_cons,List.length_nil];omega,rfl⟩
    simp only[Zbx hk,hxi,hc,hN,hw,hp0,hp1,hins,if_true,List.length_map,EVS]
    rw[List.take_succ_eq_append_getElem hk,List.map_append]
    rfl
   ·simp only[Zbs,hs4,List.take_length,EVS]
    unfold wirL Zmi ZkP Zv;simp[hee,Zv,List.map_map,Function.comp_def]
theorem Zn0 {m:Nat} (h:m<6):Zfw (ZA.map PV.str) (.int .i64 (m:Int))=some (.int .i64 (m:Int))∧(ZA.map PV.str)[m]?=some (.str (ZA.getD m [])):=by
 constructor
 ·exact ZlM (by rw[List.length_map];exact h)
 ·rw[List.getElem?_map]
  have:ZA[m]?=some (ZA.getD m []):=by
   rw[List.getD_eq_getElem?_getD,List.getElem?_eq_getElem (show m<ZA.length from h)];rfl
  rw[this];rfl
theorem Zdl :ZcE []=some (.lst (ZA.map PV.str)):=by
 rw[show ZcE []=_ from ZkQ]
 rfl
theorem Zn1 (m:Nat) (h:m<4):Zeb [pI (m:Int)]=some (.str (Zc7.getD m [])):=by
 show (fun x0=>Zeb [x0]) _=_
 rw[ZmC]
 match m,h with
 |0,_=>rfl
 |1,_=>rfl
 |2,_=>rfl
 |3,_=>rfl
theorem Zn2 {n:PNet} {i:Nat} {w:PWire} (h:n.wires[i]?=some w):ZeB n (i:Int)=w.name:=by
 unfold ZeB;rw[Int.toNat_natCast,h]
theorem Zi5 {R α:Type} (g:α→List UInt8) (e:List (List UInt8)→Option R):∀(l:List α) (k:Nat) (a:List (List UInt8)),Zcr (R:=R) (fun a _ x=>.inl (a++[g x])) e k a l=e (a++l.map g)
 |[],k,a=>by simp[Zcr]
 | x::r,k,a=>by
  unfold Zcr
  dsimp only
  rw[Zi5 g e r (k+1) _,List.append_assoc]
  rfl
theorem Zn3 (n:PNet) (hn:n.Fit) (h:Zbt n=true):Zec [Za0 n]=some (.str (Zcl n 0 n.wires [])):=by
 have h24:n.wires.length≤24:=by
  unfold Zbt at h;simp only[Bool.and_eq_true,Bool.not_eq_true',decide_eq_false_iff_not] at h;omega
 have hsl:n.signals.length≤24:=by
  unfold Zbt at h;simp only[Bool.and_eq_true,Bool.not_eq_true',decide_eq_false_iff_not] at h;omega
 show (fun x0=>Zec [x0]) _=_
 rw[ZmE]
 simp only[Za0,List.length_map,EVS]
 refine (congrArg (fun m:Option PV=>m.bind fun r=>if r.sc=true then some r else none) ((Zdw (R:=PV) n.wires (fun (a:List UInt8) k=>[.str a,pI (Int.ofNat k)]) (fun k a=>a.length≤640 * k) (fun (a:List UInt8) k w=>.inl (a++ZiD n k w)) (fun a=>some (.str a)) _ (by omega) (fun a k w a' hi hf he=> ?_) (fun again a k w hi hf=> ?_) (fun again a hi=> ?_) (b:=[]) (by simp)).trans (Zig n _ _ _ _))).trans ?_
 ·cases he
  have:=ZnP h (w_ok h hf)
  rw[List.length_append];omega
 ·have hk:=Zi hf
  have hw:=w_ok h hf
  have hix:Zz (.lst (n.wires.map Zv)) (.int .i64 (k:Int))=some (Zv w):=ZI hf
  have hs4:∀a b c d a' b' c' d':PV,splice [a,b,c,d] 0 [a',b',c',d']=[a',b',c',d']:=fun _ _ _ _ _ _ _ _=>rfl
  obtain ⟨hw1,hw2,hw3,hw4,hw5,hw6⟩:=hw
  obtain ⟨m,hm⟩:∃m:Nat,w.kind=m:=⟨w.kind.toNat,by omega⟩
  obtain ⟨q1,q2⟩:=Zn0 (m:=m) (by omega)
  have hkl:=Zo6 ⟨m,by omega⟩
  dsimp only at hkl
  have a1:Ze .add TD.str (.str a) (.str (ZA.getD m []))=some (.str (a++ZA.getD m [])):=ZbG (by omega)
  have a2:Ze .add TD.str (.str [32]) (.str w.name)=some (.str (32::w.name)):=ZbG (by simp;omega)
  dsimp only
  have hwr:IntKind.i64.wrap ((k:Int)+1)=((k+1:Nat):Int):=ZH hk (by omega)
  have hsp:∀a b a' b':PV,splice [a,b] 0 [a',b']=[a',b']:=fun _ _ _ _=>rfl
  have hhl:=Zih (w_ok h hf)
  have hj0:∀X:List UInt8,X=Zaj n k w→a++X++32::w.name=a++Lib.join ([Zaj n k w,w.name]++[]) [32]:=fun X e=>by
   rw[e]
   simp[Lib.join_cons,Lib.joinTail]
  by_cases c:k<n.signals.length
  case' pos=>
   have hsk:n.signals[k]?=some n.signals[k]:=List.getElem?_eq_getElem c
   obtain ⟨s1,s2⟩:=hw6 _ hsk
   obtain ⟨q,hq⟩:∃q:Nat,(n.signals[k]).2=q:=⟨(n.signals[k]).2.toNat,by omega⟩
   have hsx:Zz (.lst (n.signals.map Zah)) (.int .i64 (k:Int))=some (Zah n.signals[k]):=ZI hsk
   have g1:=Zn1 q (by omega)
   have hml:=Zo7 ⟨q,by omega⟩
   dsimp only at hml
   have hd:Zaj n k w=ZA.getD m []++Zc7.getD q []:=by
    unfold Zaj;rw[hsk];dsimp only;rw[hq,hm,Int.toNat_natCast,Int.toNat_natCast]
   have a3:Ze .add TD.str (.str (a++ZA.getD m [])) (.str (Zc7.getD q []))=some (.str (a++ZA.getD m []++Zc7.getD q [])):=ZbG (by simp only[List.length_append];omega)
   have a4:Ze .add TD.str (.str (a++ZA.getD m []++Zc7.getD q [])) (.str (32::w.name))=some (.str (a++ZA.getD m []++Zc7.getD q []++32::w.name)):=ZbG (by simp only[List.length_append,List.length_cons];omega)
   have hc:decide ((k:Int)<(n.signals.length:Int))=true:=by simpa using c
   simp only[Zbx hk,hix,Zv,hs4,Zdl,hm,q1,q2,a1,a2,hc,hsx,Zah,hq,g1,a3,a4,hwr,List.length_map,List.drop_succ_cons,List.drop_zero,if_true,EVS]
   rw[List.append_assoc a (ZA.getD m []),hj0 _ hd.symm]
  case' neg=>
   have hsk:n.signals[k]?=none:=List.getElem?_eq_none (by omega)
   have hd:Zaj n k w=ZA.getD m []:=by
    unfold Zaj;rw[hsk];dsimp only;rw[hm,Int.toNat_natCast]
   have a4:Ze .add TD.str (.str (a++ZA.getD m [])) (.str (32::w.name))=some (.str (a++ZA.getD m []++32::w.name)):=ZbG (by simp only[List.length_append,List.length_cons];omega)
   have hc:decide ((k:Int)<(n.signals.length:Int))=false:=by simpa using c
   simp only[Zbx hk,hix,Zv,hs4,Zdl,hm,q1,q2,a1,a2,hc,a4,hwr,List.length_map,Bool.false_eq_true,if_false,EVS]
   rw[hj0 _ hd.symm]
  all_goals
   refine ((Zdw (R:=PV) w.ins (fun (b:List (List UInt8)) i=>[.str (a++Lib.join ([Zaj n k w,w.name]++b) [32]),pI (Int.ofNat i)]) (fun i b=>b.length=i∧∀x∈b,x.length≤7) (fun (b:List (List UInt8)) _ p=>.inl (b++[Zb9 n p])) (fun b=>again [.str (a++Lib.join ([Zaj n k w,w.name]++b++ZdQ w) [32]++[10]),pI ((k+1:Nat):Int)]) _ (by omega) (fun b i p b' hi hf he=> ?_) (fun again' b i p hi hf=> ?_) (fun again' b hi=> ?_) (b:=[]) ⟨rfl,by simp⟩).trans (Zi5 (Zb9 n) _ _ _ _)).trans ?_
   ·cases he
    refine ⟨by simp[hi.1],fun y hy=> ?_⟩
    rcases List.mem_append.1 hy with hy|hy
    ·exact hi.2 y hy
    ·rw[List.mem_singleton] at hy;subst hy;exact Zj7 h p
   ·have hi8:i<w.ins.length:=Zi hf
    have hpx:Zz (.lst (w.ins.map ZbJ)) (.int .i64 (i:Int))=some (ZbJ p):=ZI hf
    obtain ⟨p0,p1⟩:=hw4 p (List.mem_of_getElem? hf)
    obtain ⟨j,hj⟩:∃j:Nat,p.1=j:=⟨p.1.toNat,by omega⟩
    have hjl:j<n.wires.length:=by omega
    have hjw:n.wires[j]?=some n.wires[j]:=List.getElem?_eq_getElem hjl
    have hjx:Zz (.lst (n.wires.map Zv)) (.int .i64 (j:Int))=some (Zv n.wires[j]):=ZI hjw
    have hnl:=Zi4 h _ (List.mem_of_getElem? hjw)
    have hLl:([Zaj n k w,w.name]++b).length=i+2:=by have:=hi.1;simp;omega
    have hLe:=ZdK ([Zaj n k w,w.name]++b) (fun x hx=>by
     simp only[List.cons_append,List.nil_append,List.mem_cons] at hx
     rcases hx with rfl|rfl|hx
     ·omega
     ·omega
     ·have:=hi.2 x hx;omega)
    rw[hLl] at hLe
    have hsn:=ZgK (l:=[Zaj n k w,w.name]++b) (by simp) (Zb9 n p)
    have hpw:Zb9 n p=if p.2=true then (n.wires[j]).name++[39] else (n.wires[j]).name:=by
     unfold Zb9;rw[hj,Zn2 hjw]
    obtain ⟨L,hL⟩:∃L,Lib.join ([Zaj n k w,w.name]++b) [32]=L:=⟨_,rfl⟩
    rw[hL] at hsn hLe
    dsimp only
    rw[←List.append_assoc,hsn,hpw,hL]
    have a5:Ze .add TD.str (.str [32]) (.str (n.wires[j]).name)=some (.str (32::(n.wires[j]).name)):=ZbG (by simp;omega)
    have a6:Ze .add TD.str (.str (a++L)) (.str (32::(n.wires[j]).name))=some (.str (a++L++32::(n.wires[j]).name)):=ZbG (by simp only[List.length_append,List.length_cons];omega)
    have a7:Ze .add TD.str (.str (a++(L++32::(n.wires[j]).name))) (.str [39])=some (.str (a++(L++32::((n.wires[j]).name++[39])))):=by
     rw[ZbG (by simp only[List.length_append,List.length_cons,List.length_nil];omega)]
     simp
    cases cp:p.2<;>simp only[Zbx hi8,ZH hi8 (show w.ins.length≤9223372036854775807 by omega),hpx,ZbJ,hsp,hj,hjx,Zv,a5,a6,a7,cp,List.drop_zero,Bool.false_eq_true,if_false,if_true,List.append_assoc,List.cons_append,EVS]
   ·obtain ⟨hb1,hb2⟩:=hi
    have hLl:([Zaj n k w,w.name]++b).length=w.ins.length+2:=by simp;omega
    have hLm:∀x∈[Zaj n k w,w.name]++b,x.length≤8:=fun x hx=>by
     simp only[List.cons_append,List.nil_append,List.mem_cons] at hx
     rcases hx with rfl|rfl|hx
     ·omega
     ·omega
     ·have:=hb2 x hx;omega
    have hLe:=ZdK ([Zaj n k w,w.name]++b) hLm
    rw[hLl] at hLe
    obtain ⟨LL,hLL⟩:∃LL,[Zaj n k w,w.name]++b=LL:=⟨_,rfl⟩
    have hne:LL≠[]:=by rw[←hLL];simp
    rw[hLL] at hLe hLm hLl⊢
    by_cases c5:m=5
    ·have hc5:decide ((m:Int)=5)=true:=by simp;omega
     have hcov:ZdQ w=[61]::w.cover:=by unfold ZdQ;rw[if_pos (by omega)]
     obtain ⟨v1,v2⟩:=hw5 (by omega)
     have hsn:=ZgK hne [61]
     have a5:Ze .add TD.str (.str (a++Lib.join LL [32])) (.str [32,61])=some (.str (a++Lib.join (LL++[[61]]++[]) [32])):=by
      rw[List.append_nil,hsn,ZbG (by simp only[List.length_append,List.length_cons,List.length_nil];omega),List.append_assoc]
     simp only[Zbs,hc5,a5,if_true,EVS]
     refine ((Zdw (R:=PV) w.cover (fun (v:List (List UInt8)) i=>[.str (a++Lib.join (LL++[[61]]++v) [32]),pI (Int.ofNat i)]) (fun i v=>v.length=i∧∀x∈v,x.length≤8) (fun (v:List (List UInt8)) _ x=>.inl (v++[x])) (fun v=>again [.str (a++Lib.join (LL++[[61]]++v) [32]++[10]),pI ((k+1:Nat):Int)]) _ (by omega) (fun v i x v' hi hf he=> ?_) (fun again'' v i x hi hf=> ?_) (fun again'' v hi=> ?_) (b:=[]) ⟨rfl,by simp⟩).trans (Zi5 id _ _ _ _)).trans ?_
     ·cases he
      refine ⟨by simp[hi.1],fun y hy=> ?_⟩
      rcases List.mem_append.1 hy with hy|hy
      ·exact hi.2 y hy
      ·rw[List.mem_singleton] at hy;subst hy;exact v2 _ (List.mem_of_getElem? hf)
     ·have hi8:i<w.cover.length:=Zi hf
      have hpx:Zz (.lst (w.cover.map PV.str)) (.int .i64 (i:Int))=some (.str x):=ZI hf
      have hxl:=v2 _ (List.mem_of_getElem? hf)
      have hVe:=ZdK (LL++[[61]]++v) (fun y hy=>by
       rcases List.mem_append.1 hy with hy|hy
       ·rcases List.mem_append.1 hy with hy|hy
        ·exact hLm y hy
        ·rw[List.mem_singleton] at hy;subst hy;simp
       ·exact hi.2 y hy)
      have hVl:(LL++[[61]]++v).length=w.ins.length+3+i:=by have:=hi.1;simp only[List.length_append,List.length_cons,List.length_nil];omega
      rw[hVl] at hVe
      have hsx:=ZgK (l:=LL++[[61]]++v) (by simp) x
      obtain ⟨V,hV⟩:∃V,Lib.join (LL++[[61]]++v) [32]=V:=⟨_,rfl⟩
      rw[hV] at hsx hVe
      dsimp only
      rw[←List.append_assoc,hsx,hV]
      have a6:Ze .add TD.str (.str [32]) (.str x)=some (.str (32::x)):=ZbG (by simp;omega)
      have a7:Ze .add TD.str (.str (a++V)) (.str (32::x))=some (.str (a++(V++32::x))):=by
       rw[ZbG (by simp only[List.length_append,List.length_cons];omega),List.append_assoc]
      simp only[Zbx hi8,ZH hi8 (show w.cover.length≤9223372036854775807 by omega),hpx,a6,a7,EVS]
     ·have hVe:=ZdK (LL++[[61]]++v) (fun y hy=>by
       rcases List.mem_append.1 hy with hy|hy
       ·rcases List.mem_append.1 hy with hy|hy
        ·exact hLm y hy
        ·rw[List.mem_singleton] at hy;subst hy;simp
       ·exact hi.2 y hy)
      have hVl:(LL++[[61]]++v).length=w.ins.length+3+w.cover.length:=by have:=hi.1;simp only[List.length_append,List.length_cons,List.length_nil];omega
      rw[hVl] at hVe
      have a6:Ze .add TD.str (.str (a++Lib.join (LL++[[61]]++v) [32])) (.str [10])=some (.str (a++Lib.join (LL++[[61]]++v) [32]++[10])):=ZbG (by simp only[List.length_append,List.length_cons,List.length_nil];omega)
      simp only[Zbs,a6,EVS]
     ·rw[hcov]
      simp only[List.map_id,List.nil_append,List.append_assoc,List.cons_append]
    ·have hc5:decide ((m:Int)=5)=false:=by simp;omega
     have hcov:ZdQ w=[]:=by unfold ZdQ;rw[if_neg (by omega)]
     have a6:Ze .add TD.str (.str (a++Lib.join LL [32])) (.str [10])=some (.str (a++Lib.join LL [32]++[10])):=ZbG (by simp only[List.length_append,List.length_cons,List.length_nil];omega)
     simp only[Zbs,hc5,a6,hcov,List.append_nil,Bool.false_eq_true,if_false,EVS]
   ·unfold ZiD ZaD
    simp only[List.nil_append,List.append_assoc]
 ·simp only[Zbs,EVS]
 ·simp only[EVS]
theorem tab_0 {m:Nat} (h:m<6):ZiK 1 (.int .i64 (m:Int))=some (.str (ZA.getD m [])):=by
 match m,h with
 |0,_=>rfl
 |1,_=>rfl
 |2,_=>rfl
 |3,_=>rfl
 |4,_=>rfl
 |5,_=>rfl
theorem tab_1 {m:Nat} (h:m<4):ZiK 0 (.int .i64 (m:Int))=some (.str (Zc7.getD m [])):=by
 match m,h with
 |0,_=>rfl
 |1,_=>rfl
 |2,_=>rfl
 |3,_=>rfl
theorem ZsO (acc:List (List UInt8)) (hn:acc.length≤100) (hi:∀x∈acc,x.length≤8):Zbf [.lst (acc.map PV.str),.str [32]]=some (.str (Lib.join acc [32])):=by
 have hj:=ZdK acc hi
 show (match ZgW (acc.map PV.str) with
  |some xs=>if xs.length≤140737488355328∧(Lib.join xs [32]).length≤140737488355328 then some (PV.str (Lib.join xs [32])) else none
  |none=>none)=_
 rw[Zkq]
 show (if _ then _ else _)=_
 rw[if_pos ⟨by omega,by omega⟩]
theorem ZgO (n:PNet) (hn:n.Fit):ZbB [Za0 n]=some (.tup [.str (fnP n).1,pB (fnP n).2]):=by
 have g1:=ZgJ n hn
 rw[←net_eq] at g1
 simp only[Za0] at g1
 show (fun x0=>ZbB [x0]) _=_
 rw[ZgU]
 unfold fnP
 simp only[Za0,ZrC,g1,List.length_map,EVS]
 obtain h|h:=(Bool.eq_false_or_eq_true (Zbt n)).symm
 ·simp only[h,Bool.not_false,Bool.false_eq_true,if_false,if_true,EVS]
  rfl
 have h24:n.wires.length≤24:=by
  have h:=h
  unfold Zbt at h;simp only[Bool.and_eq_true,Bool.not_eq_true',decide_eq_false_iff_not] at h;omega
 have hsl:n.signals.length≤24:=by
  have h:=h
  unfold Zbt at h;simp only[Bool.and_eq_true,Bool.not_eq_true',decide_eq_false_iff_not] at h;omega
 simp only[h,Bool.not_true,Bool.false_eq_true,if_false,if_true,EVS]
 refine (congrArg (fun m:Option PV=>m.bind fun r=>if r.sc=true then some r else none) ((Zdw (R:=PV) n.wires (fun (a:List UInt8) k=>[.str a,pI (Int.ofNat k)]) (fun k a=>a.length≤640 * k) (fun (a:List UInt8) k w=>.inl (a++ZiD n k w)) (fun a=>some (.tup [.str a,pB true])) _ (by omega) (fun a k w a' hi hf he=> ?_) (fun again a k w hi hf=> ?_) (fun again a hi=> ?_) (b:=[]) (by simp)).trans (Zig n _ _ _ _))).trans ?_
 ·cases he
  have:=ZnP h (w_ok h hf)
  rw[List.length_append];omega
 ·have hk:=Zi hf
  have hw:=w_ok h hf
  have hix:Zz (.lst (n.wires.map Zv)) (.int .i64 (k:Int))=some (Zv w):=ZI hf
  have hs4:∀a b c d a' b' c' d':PV,splice [a,b,c,d] 0 [a',b',c',d']=[a',b',c',d']:=fun _ _ _ _ _ _ _ _=>rfl
  have hwl:=Zlr h hw
  obtain ⟨hw1,hw2,hw3,hw4,hw5,hw6⟩:=hw
  obtain ⟨m,hm⟩:∃m:Nat,w.kind=m:=⟨w.kind.toNat,by omega⟩
  have q1:=tab_0 (m:=m) (by omega)
  have hkl:=Zo6 ⟨m,by omega⟩
  dsimp only at hkl
  dsimp only
  have hwr:IntKind.i64.wrap ((k:Int)+1)=((k+1:Nat):Int):=ZH hk (by omega)
  have hsp:∀a b a' b':PV,splice [a,b] 0 [a',b']=[a',b']:=fun _ _ _ _=>rfl
  have hhl:=Zih (w_ok h hf)
  by_cases c:k<n.signals.length
  case' pos=>
   have hsk:n.signals[k]?=some n.signals[k]:=List.getElem?_eq_getElem c
   obtain ⟨s1,s2⟩:=hw6 _ hsk
   obtain ⟨q,hq⟩:∃q:Nat,(n.signals[k]).2=q:=⟨(n.signals[k]).2.toNat,by omega⟩
   have hsx:Zz (.lst (n.signals.map Zah)) (.int .i64 (k:Int))=some (Zah n.signals[k]):=ZI hsk
   have g1:=tab_1 (m:=q) (by omega)
   have hml:=Zo7 ⟨q,by omega⟩
   dsimp only at hml
   have hd:Zaj n k w=ZA.getD m []++Zc7.getD q []:=by
    unfold Zaj;rw[hsk];dsimp only;rw[hq,hm,Int.toNat_natCast,Int.toNat_natCast]
   have a3:Ze .add TD.str (.str (ZA.getD m [])) (.str (Zc7.getD q []))=some (.str (ZA.getD m []++Zc7.getD q [])):=ZbG (by omega)
   have hc:decide ((k:Int)<(n.signals.length:Int))=true:=by simpa using c
   simp only[Zbx hk,hix,Zv,hs4,hm,q1,hc,hsx,Zah,hq,g1,a3,hwr,List.length_map,List.drop_succ_cons,List.drop_zero,if_true,EVS]
   rw[←hd]
  case' neg=>
   have hsk:n.signals[k]?=none:=List.getElem?_eq_none (by omega)
   have hd:Zaj n k w=ZA.getD m []:=by
    unfold Zaj;rw[hsk];dsimp only;rw[hm,Int.toNat_natCast]
   have hc:decide ((k:Int)<(n.signals.length:Int))=false:=by simpa using c
   simp only[Zbx hk,hix,Zv,hs4,hm,q1,hc,hwr,List.length_map,Bool.false_eq_true,if_false,EVS]
   rw[←hd]
  all_goals
   refine ((Zdw (R:=PV) w.ins (fun (b:List (List UInt8)) i=>[.lst (([Zaj n k w,w.name]++b).map PV.str),pI (Int.ofNat i)]) (fun i b=>b.length=i∧∀x∈b,x.length≤7) (fun (b:List (List UInt8)) _ p=>.inl (b++[Zb9 n p])) (fun b=>again [.str (a++(Lib.join ([Zaj n k w,w.name]++b++ZdQ w) [32]++[10])),pI ((k+1:Nat):Int)]) _ (by omega) (fun b i p b' hi hf he=> ?_) (fun again' b i p hi hf=> ?_) (fun again' b hi=> ?_) (b:=[]) ⟨rfl,by simp⟩).trans (Zi5 (Zb9 n) _ _ _ _)).trans ?_
   ·cases he
    refine ⟨by simp[hi.1],fun y hy=> ?_⟩
    rcases List.mem_append.1 hy with hy|hy
    ·exact hi.2 y hy
    ·rw[List.mem_singleton] at hy;subst hy;exact Zj7 h p
   ·have hi8:i<w.ins.length:=Zi hf
    have hpx:Zz (.lst (w.ins.map ZbJ)) (.int .i64 (i:Int))=some (ZbJ p):=ZI hf
    obtain ⟨p0,p1⟩:=hw4 p (List.mem_of_getElem? hf)
    obtain ⟨j,hj⟩:∃j:Nat,p.1=j:=⟨p.1.toNat,by omega⟩
    have hjl:j<n.wires.length:=by omega
    have hjw:n.wires[j]?=some n.wires[j]:=List.getElem?_eq_getElem hjl
    have hjx:Zz (.lst (n.wires.map Zv)) (.int .i64 (j:Int))=some (Zv n.wires[j]):=ZI hjw
    have hnl:=Zi4 h _ (List.mem_of_getElem? hjw)
    have hpw:Zb9 n p=if p.2=true then (n.wires[j]).name++[39] else (n.wires[j]).name:=by
     unfold Zb9;rw[hj,Zn2 hjw]
    have hal:([Zaj n k w,w.name]++b).length=i+2:=by have:=hi.1;simp;omega
    dsimp only
    rw[←List.append_assoc,hpw]
    obtain ⟨acc,hacc⟩:∃acc,[Zaj n k w,w.name]++b=acc:=⟨_,rfl⟩
    rw[hacc] at hal⊢
    have hif:∀X:List UInt8,(if acc.length+[PV.str X].length≤4294967296∧[PV.str X].all (Zag 1)=true then some (PV.lst (acc.map PV.str++[PV.str X])) else none)=some (PV.lst ((acc++[X]).map PV.str)):=fun X=>by
     rw[if_pos ⟨by simp;omega,rfl⟩,List.map_append];rfl
    have a5:Ze .add TD.str (.str (n.wires[j]).name) (.str [39])=some (.str ((n.wires[j]).name++[39])):=ZbG (by simp;omega)
    cases cp:p.2<;>simp only[Zbx hi8,ZH hi8 (show w.ins.length≤9223372036854775807 by omega),hpx,ZbJ,hsp,hj,hjx,Zv,a5,cp,List.drop_zero,List.length_map,Bool.false_eq_true,if_false,if_true,EVS]
    ·exact congrArg (fun m:Option PV=>m.bind fun x=>again' [x,PV.int IntKind.i64 ((i+1:Nat):Int)]) (hif _)
    ·exact congrArg (fun m:Option PV=>m.bind fun x=>again' [x,PV.int IntKind.i64 ((i+1:Nat):Int)]) (hif _)
   ·obtain ⟨hb1,hb2⟩:=hi
    have hLl:([Zaj n k w,w.name]++b).length=w.ins.length+2:=by simp;omega
    have hLm:∀x∈[Zaj n k w,w.name]++b,x.length≤8:=fun x hx=>by
     simp only[List.cons_append,List.nil_append,List.mem_cons] at hx
     rcases hx with rfl|rfl|hx
     ·omega
     ·omega
     ·have:=hb2 x hx;omega
    obtain ⟨LL,hLL⟩:∃LL,[Zaj n k w,w.name]++b=LL:=⟨_,rfl⟩
    try dsimp only
    rw[hLL] at hLm hLl⊢
    have fin:∀Z:List (List UInt8),Z.length≤90→(∀x∈Z,x.length≤8)→Zbf [.lst (Z.map PV.str),.str [32]]=some (.str (Lib.join Z [32]))∧Ze .add TD.str (.str (Lib.join Z [32])) (.str [10])=some (.str (Lib.join Z [32]++[10]))∧Ze .add TD.str (.str a) (.str (Lib.join Z [32]++[10]))=some (.str (a++(Lib.join Z [32]++[10]))):=fun Z h1 h2=>by
     have:=ZdK Z h2
     exact ⟨ZsO Z (by omega) h2,ZbG (by simp;omega),ZbG (by simp;omega)⟩
    by_cases c5:m=5
    ·have hc5:decide ((m:Int)=5)=true:=by simp;omega
     have hcov:ZdQ w=[61]::w.cover:=by unfold ZdQ;rw[if_pos (by omega)]
     obtain ⟨v1,v2⟩:=hw5 (by omega)
     obtain ⟨f1,f2,f3⟩:=fin (LL++ZdQ w) (by rw[hcov];simp;omega) (fun x hx=>by
      rcases List.mem_append.1 hx with hx|hx
      ·exact hLm x hx
      ·rw[hcov] at hx
       rcases List.mem_cons.1 hx with rfl|hx
       ·simp
       ·exact v2 x hx)
     have hif:(if LL.length+[PV.str [61]].length≤4294967296∧[PV.str [61]].all (Zag 1)=true then some (PV.lst (LL.map PV.str++[PV.str [61]])) else none)=some (PV.lst ((LL++[[61]]).map PV.str)):=by
      rw[if_pos ⟨by simp;omega,rfl⟩,List.map_append];rfl
     have hif2:(if (LL++[[61]]).length+w.cover.length≤4294967296∧(w.cover.map PV.str).all (Zag 1)=true then some (PV.lst ((LL++[[61]]).map PV.str++w.cover.map PV.str)) else none)=some (PV.lst ((LL++ZdQ w).map PV.str)):=by
      rw[if_pos ⟨by simp;omega,List.all_eq_true.2 (fun y hy=>by obtain ⟨x,_,rfl⟩:=List.mem_map.1 hy;rfl)⟩,hcov,←List.map_append,List.append_assoc];rfl
     simp only[Zbs,hc5,List.length_map,if_true,EVS]
     rw[hif]
     simp only[List.length_map,EVS]
     rw[hif2]
     simp only[f1,f2,f3,EVS]
    ·have hc5:decide ((m:Int)=5)=false:=by simp;omega
     have hcov:ZdQ w=[]:=by unfold ZdQ;rw[if_neg (by omega)]
     obtain ⟨f1,f2,f3⟩:=fin LL (by omega) hLm
     simp only[Zbs,hc5,f1,f2,f3,hcov,List.append_nil,List.length_map,Bool.false_eq_true,if_false,EVS]
   ·unfold ZiD ZaD
    simp only[List.nil_append,List.append_assoc]
 ·simp only[Zbs,EVS]
 ·simp only[EVS]
  rfl
theorem Zij {s:List UInt8} {c:UInt8} (hs:s≠[]):Zbi (.str s) (.int .i64 ((s.length - 1:Nat):Int))=some (.int .u8 ((s.getLast hs).toNat:Int)):=by
 have hl:0<s.length:=List.length_pos_iff.2 hs
 have h:s[s.length - 1]?=some (s.getLast hs):=by rw[List.getLast_eq_getElem];exact List.getElem?_eq_getElem _
 exact Z9 h
theorem Zf7 {s:List UInt8} {c:UInt8} (hs:s≠[]):decide (((s.getLast hs).toNat:Int)=(c.toNat:Int))=Z4 c s:=by
 unfold Z4
 rw[List.getLast?_eq_some_getLast hs,decide_eq_decide,Option.some.injEq,Int.natCast_inj]
 exact UInt8.toNat_inj
def hR (x:List UInt8):Int×List UInt8:=if Z4 33 x=true then (2,x.dropLast) else if Z4 63 x=true then (3,x.dropLast) else (0,x)
theorem ZsP (x:List UInt8):ZaK x=if 0≤ZbC (hR x).2 then (ZbC (hR x).2+1,if ZbC (hR x).2+1=1 then 1 else (hR x).1) else (0,0):=rfl
theorem ZsQ (y:List UInt8) (g:Int):∀(l:List (List UInt8)) (k:Nat),0<k→rgo (R:=PV) (fun k x=>if (decide (0<k)&&decide (x=y))=true then some (some (eKK ((k:Int),if (k:Int)=1 then 1 else g))) else none) (some (eKK (0,0))) k l
 =some (eKK (if 0≤ixf (fun x=>decide (x=y)) k l then (ixf (fun x=>decide (x=y)) k l,if ixf (fun x=>decide (x=y)) k l=1 then 1 else g) else (0,0)))
 | [],k,hk=>by
  unfold rgo ixf
  rw[if_neg (by omega)]
 | x::r,k,hk=>by
  unfold rgo ixf
  have d:decide (0<k)=true:=by simpa using hk
  cases hx:decide (x=y)
  ·simp only[d,Bool.and_false,Bool.false_eq_true,if_false]
   exact ZsQ y g r (k+1) (by omega)
  ·simp only[d,Bool.and_true,if_true]
   rw[if_pos (show (0:Int)≤(k:Int) by omega)]
theorem Zlw {α:Type} (q:α→Bool):∀(l:List α) (k:Nat),ixf q (k+1) l=if 0≤ixf q k l then ixf q k l+1 else -1
 |[],k=>by unfold ixf;rw[if_neg (by omega)]
 | x::r,k=>by
  unfold ixf
  split
  ·rw[if_pos (by omega)];omega
  ·exact Zlw q r (k+1)
theorem Zf8 (y:List UInt8) (g:Int) (f:(List PV→Option PV)→List PV→Option PV)
 (h1:∀again k x,ZA[k]?=some x→f again [pI (Int.ofNat k)]=if (decide ((0:Int)<(k:Int))&&decide (x=y))=true then some (eKK ((k:Int),if (k:Int)=1 then 1 else g)) else again [pI (Int.ofNat (k+1))])
 (h2:∀again,f again [pI (Int.ofNat ZA.length)]=some (eKK (0,0))):Z0 f 18446744073709551616 [pI (Int.ofNat 0)]=some (eKK (if 0≤ZbC y then (ZbC y+1,if ZbC y+1=1 then 1 else g) else (0,0))):=by
 refine (Zov (R:=PV) ZA (fun k x=>if (decide (0<k)&&decide (x=y))=true then some (some (eKK ((k:Int),if (k:Int)=1 then 1 else g))) else none) (some (eKK (0,0))) f (by decide) (fun again k x hf=> ?_) h2).trans ?_
 ·rw[h1 again k x hf]
  have e:decide ((0:Int)<(k:Int))=decide (0<k):=by rw[decide_eq_decide];omega
  rw[e]
  cases (decide (0<k)&&decide (x=y))<;>simp
 ·have e:ZA=[]::ZA.drop 1:=rfl
  rw[e]
  unfold rgo
  simp only[Nat.lt_irrefl,decide_false,Bool.false_and,Bool.false_eq_true,if_false]
  rw[ZsQ y g (ZA.drop 1) 1 (by decide),Zlw _ (ZA.drop 1) 0]
  unfold ZbC
  have hb:=Zmk (fun y_1=>decide (y_1=y)) (ZA.drop 1) 0
  by_cases h:0≤ixf (fun x=>decide (x=y)) 0 (ZA.drop 1)
  ·rw[if_pos h,if_pos (by omega),if_pos h]
  ·rw[if_neg h,if_neg (by omega),if_neg h]
theorem Zn4 (x:List UInt8) (hx:ZR x):Zd5 [.str x]=some (eKK (ZaK x)):=by
 show (fun x0=>Zd5 [x0]) _=_
 rw[Zmq]
 unfold ZR at hx
 rw[ZsP]
 unfold hR
 have hsc:∀p,(eKK p).sc=true:=fun p=>rfl
 by_cases hs:x=[]
 ·subst hs
  have d0:decide ((0:Int)>0)=false:=by decide
  simp only[Zdl,List.length_nil,d0,EVS]
  refine (congrArg (fun m:Option PV=>m.bind fun r=>if r.sc=true then some r else none) (Zf8 [] 0 _ (fun again k z hf=> ?_) (fun again=> ?_))).trans ?_
  ·have hk:=Zi hf
   have hp:=(Zn0 (m:=k) hk).1
   have hq:(ZA.map PV.str)[k]?=some (.str z):=by rw[List.getElem?_map,hf];rfl
   have hw:IntKind.i64.wrap ((k:Int)+1)=((k+1:Nat):Int):=ZH hk (by decide)
   simp only[Zbx hk,hp,hq,hw,EVS]
   obtain c1|c1:=(Bool.eq_false_or_eq_true (decide ((0:Int)<(k:Int)))).symm<;>simp only[c1,EVS]
   obtain c2|c2:=(Bool.eq_false_or_eq_true (decide (z=[]))).symm<;>simp only[c2,EVS]
   obtain c3|c3:=(Bool.eq_false_or_eq_true (decide ((k:Int)=1))).symm<;>simp only[c3,EVS]
   ·rw[if_neg (by simpa using c3)];rfl
   ·rw[if_pos (by simpa using c3)];rfl
  ·have d6:decide ((ZA.length:Int)<(ZA.length:Int))=false:=Zbs
   simp only[d6,EVS]
   rfl
  ·rw[Option.bind_some,if_pos (hsc _)];rfl
 ·have hl:0<x.length:=List.length_pos_iff.2 hs
  have d0:decide ((x.length:Int)>0)=true:=by rw[decide_eq_true_eq];omega
  have hw1:IntKind.i64.wrap ((x.length:Int) - 1)=((x.length - 1:Nat):Int):=by rw[ZbT (by omega) (by omega)];omega
  have hb:=Zij (c:=0) hs
  have e33:decide (((x.getLast hs).toNat:Int)=33)=Z4 33 x:=Zf7 (c:=33) hs
  have e63:decide (((x.getLast hs).toNat:Int)=63)=Z4 63 x:=Zf7 (c:=63) hs
  have hc:Zc5 (.str x) none (some (.int .i64 ((x.length - 1:Nat):Int)))=some (.str (x.take (x.length - 1))):=Zdq (by omega)
  rw[ZdM] at hc
  simp only[Zdl,d0,hw1,hb,e33,e63,hc,EVS]
  obtain c1|c1:=(Bool.eq_false_or_eq_true (Z4 33 x)).symm<;>simp only[c1,EVS]
  ·obtain c2|c2:=(Bool.eq_false_or_eq_true (Z4 63 x)).symm<;>simp only[c2,EVS]
   ·refine (congrArg (fun m:Option PV=>m.bind fun r=>if r.sc=true then some r else none) (Zf8 x 0 _ (fun again k z hf=> ?_) (fun again=> ?_))).trans ?_
    ·have hk:=Zi hf
     have hp:=(Zn0 (m:=k) hk).1
     have hq:(ZA.map PV.str)[k]?=some (.str z):=by rw[List.getElem?_map,hf];rfl
     have hw:IntKind.i64.wrap ((k:Int)+1)=((k+1:Nat):Int):=ZH hk (by decide)
     simp only[Zbx hk,hp,hq,hw,EVS]
     obtain c1|c1:=(Bool.eq_false_or_eq_true (decide ((0:Int)<(k:Int)))).symm<;>simp only[c1,EVS]
     obtain c2|c2:=(Bool.eq_false_or_eq_true (decide (z=x))).symm<;>simp only[c2,EVS]
     obtain c3|c3:=(Bool.eq_false_or_eq_true (decide ((k:Int)=1))).symm<;>simp only[c3,EVS]
     ·rw[if_neg (by simpa using c3)];rfl
     ·rw[if_pos (by simpa using c3)];rfl
    ·have d6:decide ((ZA.length:Int)<(ZA.length:Int))=false:=Zbs
     simp only[d6,EVS]
     rfl
    ·rw[Option.bind_some,if_pos (hsc _)]
   ·refine (congrArg (fun m:Option PV=>m.bind fun r=>if r.sc=true then some r else none) (Zf8 x.dropLast 3 _ (fun again k z hf=> ?_) (fun again=> ?_))).trans ?_
    ·have hk:=Zi hf
     have hp:=(Zn0 (m:=k) hk).1
     have hq:(ZA.map PV.str)[k]?=some (.str z):=by rw[List.getElem?_map,hf];rfl
     have hw:IntKind.i64.wrap ((k:Int)+1)=((k+1:Nat):Int):=ZH hk (by decide)
     simp only[Zbx hk,hp,hq,hw,EVS]
     obtain c1|c1:=(Bool.eq_false_or_eq_true (decide ((0:Int)<(k:Int)))).symm<;>simp only[c1,EVS]
     obtain c2|c2:=(Bool.eq_false_or_eq_true (decide (z=x.dropLast))).symm<;>simp only[c2,EVS]
     obtain c3|c3:=(Bool.eq_false_or_eq_true (decide ((k:Int)=1))).symm<;>simp only[c3,EVS]
     ·rw[if_neg (by simpa using c3)];rfl
     ·rw[if_pos (by simpa using c3)];rfl
    ·have d6:decide ((ZA.length:Int)<(ZA.length:Int))=false:=Zbs
     simp only[d6,EVS]
     rfl
    ·rw[Option.bind_some,if_pos (hsc _)]
  ·refine (congrArg (fun m:Option PV=>m.bind fun r=>if r.sc=true then some r else none) (Zf8 x.dropLast 2 _ (fun again k z hf=> ?_) (fun again=> ?_))).trans ?_
   ·have hk:=Zi hf
    have hp:=(Zn0 (m:=k) hk).1
    have hq:(ZA.map PV.str)[k]?=some (.str z):=by rw[List.getElem?_map,hf];rfl
    have hw:IntKind.i64.wrap ((k:Int)+1)=((k+1:Nat):Int):=ZH hk (by decide)
    simp only[Zbx hk,hp,hq,hw,EVS]
    obtain c1|c1:=(Bool.eq_false_or_eq_true (decide ((0:Int)<(k:Int)))).symm<;>simp only[c1,EVS]
    obtain c2|c2:=(Bool.eq_false_or_eq_true (decide (z=x.dropLast))).symm<;>simp only[c2,EVS]
    obtain c3|c3:=(Bool.eq_false_or_eq_true (decide ((k:Int)=1))).symm<;>simp only[c3,EVS]
    ·rw[if_neg (by simpa using c3)];rfl
    ·rw[if_pos (by simpa using c3)];rfl
   ·have d6:decide ((ZA.length:Int)<(ZA.length:Int))=false:=Zbs
    simp only[d6,EVS]
    rfl
   ·rw[Option.bind_some,if_pos (hsc _)]
theorem Zqe {R:Type} (b:Nat) (st:Nat→List PV) (e:Option R) (f:(List PV→Option R)→List PV→Option R) (hm:b≤9223372036854775807) (h1:∀again k,k<b→f again (st k)=again (st (k+1))) (h2:∀again,f again (st b)=e) (J:List PV) (hJ:st 0=J):Z0 f 18446744073709551616 J=e:=by
 subst hJ
 exact Zet (R:=R) (fun k:{k:Nat // k≤b}=>st k.1) (fun k=>b+1 - k.1) (fun _=>e) f (fun again k ih=>by
  obtain ⟨k,hk⟩:=k
  dsimp only at ih⊢
  by_cases c:k<b
  ·rw[h1 again k c];exact ih ⟨k+1,c⟩ (by simp only;omega)
  ·obtain rfl:k=b:=by omega
   exact h2 again) 18446744073709551616 ⟨0,Nat.zero_le _⟩ (by simp only;omega)
def ZaZ (b:UInt8) (s:List UInt8):Nat→List (List UInt8)×Nat
 |0=>([],0)
 |k+1=>if s[k]?=some b then ((ZaZ b s k).1++[(s.take k).drop (ZaZ b s k).2],k+1) else ZaZ b s k
theorem Zkh (b:UInt8) (s:List UInt8):∀k,k≤s.length→(ZaZ b s k).2≤k∧(ZaZ b s k).1.length≤k∧b∉(s.take k).drop (ZaZ b s k).2∧Zf b s=(ZaZ b s k).1++Zf b (s.drop (ZaZ b s k).2)
 |0,_=>by simp[ZaZ]
 | k +1,h=>by
  obtain ⟨h1,h2,h3,h4⟩:=Zkh b s k (by omega)
  have hk:k<s.length:=by omega
  have hdd:∀q,q≤k→s.drop q=(s.take k).drop q++s[k]::s.drop (k+1):=fun q hq=>by
   have e:s=s.take k++s[k]::s.drop (k+1):=by rw[←List.drop_eq_getElem_cons hk,List.take_append_drop]
   conv=>lhs;rw[e]
   rw[List.drop_append_of_le_length (by rw[List.length_take];omega)]
  have hd:=hdd _ h1
  unfold ZaZ
  split
  ·rename_i hb
   have hb':s[k]=b:=by rw[List.getElem?_eq_getElem hk] at hb;exact Option.some.inj hb
   refine ⟨by simp,by simp;omega, ?_, ?_⟩
   ·rw[List.drop_eq_nil_of_le (by rw[List.length_take];omega)];simp
   ·rw[h4,hd,hb',ZgL _ h3]
    simp
  ·rename_i hb
   have hb':s[k]≠b:=fun e=>hb (by rw[List.getElem?_eq_getElem hk,e])
   refine ⟨by omega,by omega, ?_,h4⟩
   rw[List.take_succ_eq_append_getElem hk,List.drop_append_of_le_length (by rw[List.length_take];omega),List.mem_append,not_or]
   exact ⟨h3,by simpa using fun e=>hb' e.symm⟩
theorem ZfJ (s:List UInt8) (b:UInt8) (h:s.length≤1000000):ZaQ [.str s,.int .u8 (b.toNat:Int)]=some (.lst ((Zf b s).map .str)):=by
 show (fun x0 x1=>ZaQ [x0,x1]) _ _=_
 rw[Zmo]
 simp only[EVS]
 refine Zqe (R:=PV) s.length (fun k=>[pI ((ZaZ b s k).2:Int),.lst ((ZaZ b s k).1.map .str),pI (k:Int)]) _ _ (by omega) (fun again k hk=> ?_) (fun again=> ?_) _ rfl
 ·obtain ⟨h1,h2,h3,h4⟩:=Zkh b s k (by omega)
  have hx:s[k]?=some s[k]:=List.getElem?_eq_getElem hk
  have hb:Zbi (.str s) (.int .i64 (k:Int))=some (pU s[k]):=Z9 hx
  have hw:IntKind.i64.wrap ((k:Int)+1)=((k+1:Nat):Int):=ZH hk (by omega)
  have hc:Zc5 (.str s) (some (.int .i64 ((ZaZ b s k).2:Int))) (some (.int .i64 (k:Int)))=some (.str ((s.take k).drop (ZaZ b s k).2)):=by
   have e1:(k:Int)≤(s.length:Int):=by omega
   have e2:((ZaZ b s k).2:Int)≤(k:Int):=by omega
   simp[Zc5,ZfE,Zh8,e1,h1]
  simp only[Zbx hk,hb,hw,hc,EVS]
  have hok:∀z:List UInt8,(ZaZ b s k).1.length+[PV.str z].length≤4294967296∧[PV.str z].all (Zag 1)=true:=fun z=>⟨by simp;omega,rfl⟩
  rw[if_pos (hok _),Option.bind_some]
  by_cases hbb:s[k]=b
  ·have d:decide (((s[k]).toNat:Int)=(b.toNat:Int))=true:=by rw[hbb];simp
   have e:ZaZ b s (k+1)=((ZaZ b s k).1++[(s.take k).drop (ZaZ b s k).2],k+1):=by rw[ZaZ,if_pos (by rw[hx,hbb])]
   rw[d,if_pos rfl,e]
   simp
  ·have d:decide (((s[k]).toNat:Int)=(b.toNat:Int))=false:=by
    rw[decide_eq_false_iff_not,Int.natCast_inj]
    exact fun e=>hbb (UInt8.toNat_inj.1 e)
   have e:ZaZ b s (k+1)=ZaZ b s k:=by rw[ZaZ,if_neg (by rw[hx];exact fun e=>hbb (Option.some.inj e))]
   rw[d,if_neg (by simp),e]
 ·obtain ⟨h1,h2,h3,h4⟩:=Zkh b s s.length (Nat.le_refl _)
  rw[List.take_length] at h3
  have hc:Zc5 (.str s) (some (.int .i64 ((ZaZ b s s.length).2:Int))) none=some (.str (s.drop (ZaZ b s s.length).2)):=ZhQ (by omega)
  have hl:((ZaZ b s s.length).1.map PV.str).length+1≤4294967296:=by simp;omega
  simp only[Zbs,hc,EVS]
  have hok:∀z:List UInt8,(ZaZ b s s.length).1.length+[PV.str z].length≤4294967296∧[PV.str z].all (Zag 1)=true:=fun z=>⟨by simp;omega,rfl⟩
  have h3':b∉s.drop (ZaZ b s s.length).2:=h3
  rw[if_pos (hok _),Option.bind_some,h4,ZdL h3',List.map_append]
  rfl
def ZsR (l:List PV) (nm:List (List UInt8)):Prop:=l.length=nm.length∧∀(i:Nat) (s:List UInt8),nm[i]?=some s→∃a b c,l[i]?=some (.agg [.str s,a,b,c])
theorem Zpf (l:List PV) (nm:List (List UInt8)) (h:ZsR l nm) (x:List UInt8) (hl:ZR nm):ZeD [.lst l,.str x]=some (pI (ixf (fun s=>decide (s=x)) 0 nm)):=by
 unfold ZR at hl
 show (fun x0 x1=>ZeD [x0,x1]) _ _=_
 rw[Zpk]
 simp only[h.1,EVS]
 refine (congrArg (Zk true) (Zf3 nm (fun s=>decide (s=x)) _ hl (fun again k s hb=> ?_) (fun again=> ?_))).trans ?_
 ·have hk:=Zi hb
  obtain ⟨a,b,c,hi'⟩:=h.2 k s hb
  have hi:Zz (.lst l) (.int .i64 (k:Int))=some (.agg [.str s,a,b,c]):=ZeN hi'
  have hs:∀a b c d a' b' c' d':PV,splice [a,b,c,d] 0 [a',b',c',d']=[a',b',c',d']:=fun _ _ _ _ _ _ _ _=>rfl
  cases cc:decide (s=x)<;>simp only[Zbx hk,ZH hk hl,hi,hs,cc,Bool.false_eq_true,if_false,if_true,EVS]
 ·simp only[Zbs,EVS]
  rfl
 ·simp only[EVS]
structure LnSt where
 ins:List (Int×Bool)
 cov:List (List UInt8)
 on:Bool
def Zca (nm:List (List UInt8)) (b:LnSt) (x:List UInt8):LnSt:=if (ZeZ x&& !b.on)=true then ⟨b.ins,b.cov,true⟩ else if b.on=true then ⟨b.ins,b.cov++[x],true⟩ else ⟨b.ins++[Zkd nm x],b.cov,false⟩
theorem ZsS (nm:List (List UInt8)):∀(l:List (List UInt8)) (i:List (Int×Bool)) (c:List (List UInt8)),l.foldl (Zca nm) ⟨i,c,true⟩=⟨i,c++l,true⟩
 |[],i,c=>by simp
 | x::r,i,c=>by
  rw[List.foldl_cons]
  have:Zca nm ⟨i,c,true⟩ x=⟨i,c++[x],true⟩:=by
   unfold Zca
   rw[if_neg (by simp),if_pos rfl]
  rw[this,ZsS nm r]
  simp
theorem ZsT (nm:List (List UInt8)):∀(l:List (List UInt8)) (i:List (Int×Bool)),((l.foldl (Zca nm) ⟨i,[],false⟩).ins,(l.foldl (Zca nm) ⟨i,[],false⟩).cov)=goR nm l i
 |[],i=>rfl
 | x ::r,i=>by
  rw[List.foldl_cons]
  unfold goR
  by_cases hx:ZeZ x=true
  ·have:Zca nm ⟨i,[],false⟩ x=⟨i,[],true⟩:=by
    unfold Zca
    rw[if_pos (by simpa using hx)]
   rw[this,ZsS,if_pos hx]
   simp
  ·have:Zca nm ⟨i,[],false⟩ x=⟨i++[Zkd nm x],[],false⟩:=by
    unfold Zca
    rw[if_neg (by simpa using hx),if_neg (by simp)]
   rw[this,if_neg hx]
   exact ZsT nm r _
theorem Zn5 {R:Type} (nm:List (List UInt8)) (e:LnSt→Option R):∀(l:List (List UInt8)) (k:Nat) (b:LnSt),Zcr (R:=R) (fun b _ x=>.inl (Zca nm b x)) e k b l=e (l.foldl (Zca nm) b)
 |[],k,b=>rfl
 | x::r,k,b=>by
  unfold Zcr
  dsimp only
  rw[Zn5 nm e r (k+1)]
  rfl
theorem Zmm (sg:PV) (l:List PV) (nm:List (List UInt8)) (h:ZsR l nm) (hl:nm.length≤1000000) (k:Nat) (s:List UInt8) (kd:Int) (hk:l[k]?=some (.agg [.str s,pI kd,.nl,.nl])) (L:List (List UInt8)) (hL:L.length≤1000000) (hx:∀x∈L,x.length≤1000000):
 Zdn [.agg [sg,.lst l],pI (k:Int),.lst (L.map .str)]=some (Zv ⟨s,kd,(goR nm L []).1,(goR nm L []).2⟩):=by
 show (fun x0 x1 x2=>Zdn [x0,x1,x2]) _ _ _=_
 rw[ZkS]
 have hi:Zz (.lst l) (.int .i64 (k:Int))=some (.agg [.str s,pI kd,.nl,.nl]):=ZeN hk
 have hnl:ZgX [ZC.str,ZC.int .i64,ZC.nil,ZC.nil] [.str s,pI kd,.nl,.nl]=true:=rfl
 have hnp:ZiJ [ZC.str,ZC.int .i64,ZC.nil,ZC.nil] [.str s,pI kd,.nl,.nl]=[.str s,pI kd,.lst [],.lst []]:=rfl
 simp only[hi,hnl,hnp,EVS]
 refine (congrArg (Zpw _) ((Zdw (R:=PV) L (fun (b:LnSt) k=>[.agg [.str s,pI kd,.lst (b.ins.map ZbJ),.lst (b.cov.map .str)],.bool b.on,pI (Int.ofNat k)]) (fun k b=>b.ins.length≤k∧b.cov.length≤k) (fun b _ x=>.inl (Zca nm b x)) (fun b=>some (.agg [.str s,pI kd,.lst (b.ins.map ZbJ),.lst (b.cov.map .str)])) _ (by omega) (fun b k x b' hb hf he=> ?_) (fun again b k x hb hf=> ?_) (fun again b hb=> ?_) (b:=⟨[],[],false⟩) (by simp)).trans (Zn5 nm _ _ _ _))).trans ?_
 ·cases he
  unfold Zca
  split
  ·exact ⟨by simp only;omega,by simp only;omega⟩
  ·split
   ·exact ⟨by simp only;omega,by simp only[List.length_append,List.length_cons,List.length_nil];omega⟩
   ·exact ⟨by simp only[List.length_append,List.length_cons,List.length_nil];omega,by simp only;omega⟩
 ·have hk':=Zi hf
  have hxi:Zz (.lst (L.map PV.str)) (.int .i64 (k:Int))=some (.str x):=ZI hf
  have hw:IntKind.i64.wrap ((k:Int)+1)=((k+1:Nat):Int):=ZH hk' (by omega)
  have hxl:=hx x (List.mem_of_getElem? hf)
  obtain ⟨ins,cov,on⟩:=b
  obtain ⟨hb1,hb2⟩:=hb
  dsimp only at hb1 hb2⊢
  have hN:=Zpf l nm h
  have hnm:ZR nm:=by unfold ZR;omega
  have hs1:∀a b c:PV,splice [a,b] 0 [c]=[c,b]:=fun _ _ _=>rfl
  have hs2:∀a b c:PV,splice [a,b] 1 [c]=[a,c]:=fun _ _ _=>rfl
  have hs3:∀a b c d:PV,splice [a,b] 0 [c,d]=[c,d]:=fun _ _ _ _=>rfl
  have hins:∀a b:PV,(ins.length+[PV.agg [a,b]].length≤4294967296∧[PV.agg [a,b]].all (Zag 2)=true)=True:=fun a b=>eq_true ⟨by simp;omega,rfl⟩
  have hcov:∀a:List UInt8,(cov.length+[PV.str a].length≤4294967296∧[PV.str a].all (Zag 1)=true)=True:=fun a=>eq_true ⟨by simp;omega,rfl⟩
  simp only[Zbx hk',hxi,hw,EVS]
  obtain c1|c1:=(Bool.eq_false_or_eq_true (ZeZ x)).symm
  ·have c1':decide (x=[61])=false:=c1
   cases on
   ·simp only[c1',EVS]
    have hp:Zca nm ⟨ins,cov,false⟩ x=⟨ins++[Zkd nm x],cov,false⟩:=by unfold Zca;rw[c1];rfl
    rw[hp]
    dsimp only
    rw[List.map_append]
    unfold Zkd
    by_cases hs:1<x.length
    ·have d0:decide ((1:Int)<(x.length:Int))=true:=by rw[decide_eq_true_eq];omega
     have d1:decide (1<x.length)=true:=by rw[decide_eq_true_eq];omega
     have hne:x≠[]:=by rintro rfl;simp at hs
     have hw1:IntKind.i64.wrap ((x.length:Int) - 1)=((x.length - 1:Nat):Int):=by rw[ZbT (by omega) (by omega)];omega
     have hb:=Zij (c:=0) hne
     have e39:decide (((x.getLast hne).toNat:Int)=39)=Z4 39 x:=Zf7 (c:=39) hne
     have hc:Zc5 (.str x) none (some (.int .i64 ((x.length - 1:Nat):Int)))=some (.str (x.take (x.length - 1))):=Zdq (by omega)
     rw[ZdM] at hc
     rw[d1,Bool.true_and]
     simp only[hN _ hnm,d0,hw1,hb,e39,hc,hs1,hs2,hs3,EVS]
     obtain c2|c2:=(Bool.eq_false_or_eq_true (Z4 39 x)).symm<;>simp only[c2,hN _ hnm,hs1,hs2,hs3,hins,if_true,Bool.false_eq_true,if_false,EVS]
     ·rfl
     ·rfl
    ·have d0:decide ((1:Int)<(x.length:Int))=false:=by rw[decide_eq_false_iff_not];omega
     have d1:decide (1<x.length)=false:=by rw[decide_eq_false_iff_not];omega
     rw[d1,Bool.false_and]
     simp only[hN _ hnm,d0,hs1,hs2,hs3,hins,if_true,Bool.false_eq_true,if_false,EVS]
     rfl
   ·simp only[c1',hcov,if_true,EVS]
    have hp:Zca nm ⟨ins,cov,true⟩ x=⟨ins,cov++[x],true⟩:=by unfold Zca;rw[c1];rfl
    rw[hp]
    dsimp only
    rw[List.map_append]
    rfl
  ·have c1':decide (x=[61])=true:=c1
   cases on
   ·simp only[c1',EVS]
    have hp:Zca nm ⟨ins,cov,false⟩ x=⟨ins,cov,true⟩:=by unfold Zca;rw[c1];rfl
    rw[hp]
   ·simp only[c1',hcov,if_true,EVS]
    have hp:Zca nm ⟨ins,cov,true⟩ x=⟨ins,cov++[x],true⟩:=by unfold Zca;rw[c1];rfl
    rw[hp]
    dsimp only
    rw[List.map_append]
    rfl
 ·have hs4:∀a b c d a' b' c' d':PV,splice [a,b,c,d] 0 [a',b',c',d']=[a',b',c',d']:=fun _ _ _ _ _ _ _ _=>rfl
  simp only[Zbs,Zfx,hs4,EVS]
 ·have e:=ZsT nm L []
  rw[←e]
  unfold Zpw
  rw[Option.bind_some,if_pos]
  simp[Kd.scv,scvs,CK.scv,PV.sc1,PV.cells]
def Zlx (ws:List (List UInt8)):PV:=.agg [.str (ws.getD 1 []),pI (ZaK (ws.getD 0 [])).1,.nl,.nl]
def Zgb (W:List (List (List UInt8))) (k:Nat):List PV:=(W.take k).map (fun ws=>Zv (ZnX (Zad W) ws))++(W.drop k).map Zlx
theorem Zpg (W:List (List (List UInt8))) (k:Nat):ZsR (Zgb W k) (Zad W):=by
 constructor
 ·unfold Zgb Zad
  simp only[List.length_append,List.length_map,List.length_take,List.length_drop]
  omega
 ·intro i s hs
  unfold Zad at hs
  rw[List.getElem?_map,Option.map_eq_some_iff] at hs
  obtain ⟨ws,hw,rfl⟩:=hs
  unfold Zgb
  rw[List.getElem?_append]
  have hlt:=Zi hw
  split
  ·rename_i h
   simp only[List.length_map,List.length_take] at h
   rw[List.getElem?_map,List.getElem?_take,if_pos (by omega),hw]
   exact ⟨_,_,_,rfl⟩
  ·rename_i h
   simp only[List.length_map,List.length_take] at h⊢
   rw[List.getElem?_map,List.getElem?_drop,show k+(i - min k W.length)=i by omega,hw]
   exact ⟨_,_,_,rfl⟩
theorem Zqf {W:List (List (List UInt8))} {k:Nat} {ws:List (List UInt8)} (h:W[k]?=some ws):(Zgb W k)[k]?=some (Zlx ws):=by
 have hlt:=Zi h
 unfold Zgb
 rw[List.getElem?_append_right (by simp only[List.length_map,List.length_take];omega)]
 simp only[List.length_map,List.length_take]
 rw[List.getElem?_map,List.getElem?_drop,show k+(k - min k W.length)=k by omega,h]
 rfl
theorem ZsU {W:List (List (List UInt8))} {k:Nat} {ws:List (List UInt8)} (h:W[k]?=some ws):(Zgb W k).set k (Zv (ZnX (Zad W) ws))=Zgb W (k+1):=by
 have hlt:=Zi h
 have h1:((W.take k).map (fun ws=>Zv (ZnX (Zad W) ws))).length=k:=by simp only[List.length_map,List.length_take];omega
 unfold Zgb
 rw[List.set_append_right _ _ (by omega),h1,Nat.sub_self,List.drop_eq_getElem_cons hlt,List.map_cons,List.set_cons_zero,List.take_succ_eq_append_getElem hlt,List.map_append]
 have:W[k]=ws:=by rw[List.getElem?_eq_getElem hlt] at h;exact Option.some.inj h
 rw[this]
 simp
theorem mixW_0 (W:List (List (List UInt8))):Zgb W 0=W.map Zlx:=by simp[Zgb]
theorem ZsV (W:List (List (List UInt8))):Zgb W W.length=(W.map (ZnX (Zad W))).map Zv:=by simp[Zgb,Function.comp_def]
theorem Zik (kd:List UInt8→Int×Int) (ws:List (List UInt8)):∀W:List (List (List UInt8)),ZcK kd (W++[ws])=ZcK kd W++(if 0<(kd (ws.getD 0 [])).2 then [(ws.getD 1 [],(kd (ws.getD 0 [])).2)] else [])
 |[]=>by simp only[List.nil_append,ZcK]
 | v::r=>by
  rw[List.cons_append]
  unfold ZcK
  rw[Zik kd ws r]
  split<;>simp
theorem ZeC (kd:List UInt8→Int×Int):∀W:List (List (List UInt8)),(ZcK kd W).length≤W.length
 |[]=>by simp[ZcK]
 | v::r=>by
  have:=ZeC kd r
  unfold ZcK
  split<;>simp<;>omega
theorem Zki {R:Type} (e:List (List (List UInt8))→Option R) (bad:Option R):∀(l:List (List UInt8)) (k:Nat) (b:List (List (List UInt8))),
 Zcr (R:=R) (fun b _ x=>if (Zf 32 x).length<2 then .inr bad else .inl (b++[Zf 32 x])) e k b l=if (l.all fun x=>decide (2≤(Zf 32 x).length))=true then e (b++l.map (Zf 32)) else bad
 |[],k,b=>by simp[Zcr]
 | x::r,k,b=>by
  unfold Zcr
  by_cases h:(Zf 32 x).length<2
  ·have d:decide (2≤(Zf 32 x).length)=false:=by rw[decide_eq_false_iff_not];omega
   rw[if_pos h,List.all_cons,d,Bool.false_and,if_neg (by simp)]
  ·have d:decide (2≤(Zf 32 x).length)=true:=by rw[decide_eq_true_eq];omega
   rw[if_neg h,List.all_cons,d,Bool.true_and]
   refine (Zki e bad r (k+1) _).trans ?_
   rw[List.append_assoc]
   rfl
theorem drowF (l:List PV) (k:Nat) (sg el:PV) (a b c d:PV) (hl:l[k]?=some (.agg [a,b,c,d])) (a' b' c' d':PV):
 Zdi (SV.mk (.elm (.cell 4 1) 4 0) (.box 25 [.own true 36 2,.own true 39 4]) (some 93)) (SV.mk (.grp false [.val,.val,.own true 57 2,.own true 9 1]) (.ck .none) (some 92)) 0 4 (DV.mk (.int .i64 (k:Int)) (.agg [sg,.lst l])) (DV.mk (.agg [a',b',c',d']) .undef)=some (.lst (l.set k (.agg [a',b',c',d']))):=by
 unfold Zdi
 have e:Zbw (SV.mk (.elm (.cell 4 1) 4 0) (.box 25 [.own true 36 2,.own true 39 4]) (some 93)) (DV.mk (.int .i64 (k:Int)) (.agg [sg,.lst l]))=some l:=rfl
 dsimp only
 rw[e,Option.bind_some,Int.toNat_natCast,hl,Option.bind_some]
 rfl
def Zkj (s:List UInt8) (n:PNet):Bool:=Zbt n&&decide (Zcl n 0 n.wires []=s)
def Zqg (s:List UInt8) (W:List (List (List UInt8))):PV:=if Zkj s (ZcC W)=true then .tup [Za0 (ZcC W),pB true] else .tup [Za0 ⟨[],[]⟩,pB false]
def prL (s:List UInt8):List (List UInt8):=Zf 10 s.dropLast
def prR (s:List UInt8):PV:=
 if (decide (s=[])||decide ((s.length:Int)>4000)|| !Z4 10 s)=true then .tup [Za0 ⟨[],[]⟩,pB false]
 else if ((prL s).all fun x=>decide (2≤(Zf 32 x).length))=true then Zqg s (Zg s) else .tup [Za0 ⟨[],[]⟩,pB false]
structure TxOk (W:List (List (List UInt8))):Prop where
 len:W.length≤5000
 words:∀ws∈W,ws.length≤5000
 word:∀ws∈W,∀x∈ws,x.length≤5000
theorem Zqh (nm:List (List UInt8)):∀(l:List (List UInt8)) (a:List (Int×Bool)),(goR nm l a).1.length≤a.length+l.length∧(goR nm l a).2.length≤l.length∧∀x∈(goR nm l a).2,x∈l
 |[],a=>by simp[goR]
 | x::r,a=>by
  unfold goR
  split
  ·refine ⟨by simp,by simp,fun y hy=>List.mem_cons_of_mem _ hy⟩
  ·obtain ⟨h1,h2,h3⟩:=Zqh nm r (a++[Zkd nm x])
   simp only[List.length_append,List.length_cons,List.length_nil] at h1⊢
   exact ⟨by omega,by omega,fun y hy=>List.mem_cons_of_mem _ (h3 y hy)⟩
theorem ZfK {ws:List (List UInt8)} (h:∀x∈ws,x.length≤5000) (i:Nat):(ws.getD i []).length≤5000:=by
 rw[List.getD_eq_getElem?_getD]
 cases hx:ws[i]? with
 |none=>simp
 |some x=>exact h x (List.mem_of_getElem? hx)
theorem Zhz (kd:List UInt8→Int×Int):∀(W:List (List (List UInt8))),∀p∈ZcK kd W,∃ws∈W,p.1=ws.getD 1 []
 |[],p,hp=>by simp[ZcK] at hp
 | v ::r,p,hp=>by
  unfold ZcK at hp
  split at hp
  ·rcases List.mem_cons.1 hp with rfl|hp
   ·exact ⟨v,List.mem_cons_self,rfl⟩
   ·obtain ⟨ws,h1,h2⟩:=Zhz kd r p hp
    exact ⟨ws,List.mem_cons_of_mem _ h1,h2⟩
  ·obtain ⟨ws,h1,h2⟩:=Zhz kd r p hp
   exact ⟨ws,List.mem_cons_of_mem _ h1,h2⟩
theorem Zkk {W:List (List (List UInt8))} (h:TxOk W):(ZcC W).Fit:=by
 refine ⟨?_,fun s hs=> ?_, ?_,fun w hw=> ?_⟩
 ·have:=ZeC ZaK W
  have:=h.len
  unfold ZR ZcC
  dsimp only
  omega
 ·obtain ⟨ws,h1,h2⟩:=Zhz ZaK W s hs
  have:=ZfK (h.word ws h1) 1
  unfold ZR
  rw[h2];omega
 ·have:=h.len
  unfold ZR ZcC
  simp only[List.length_map]
  omega
 ·obtain ⟨ws,h1,rfl⟩:=List.mem_map.1 hw
  have h2:=h.words ws h1
  have h3:=ZfK (h.word ws h1) 1
  obtain ⟨g1,g2,g3⟩:=Zqh (Zad W) (ws.drop 2) []
  simp only[List.length_nil,List.length_drop] at g1 g2
  refine ⟨?_, ?_, ?_,fun c hc=> ?_⟩
  ·show (ws.getD 1 []).length≤_;omega
  ·show (goR (Zad W) (ws.drop 2) []).1.length≤_;omega
  ·show (goR (Zad W) (ws.drop 2) []).2.length≤_;omega
  ·have:=h.word ws h1 c (List.mem_of_mem_drop (g3 c hc))
   unfold ZR;omega
theorem txOk {s:List UInt8} (h:s.length≤4000):TxOk (Zg s):=by
 have hd:s.dropLast.length≤4000:=by rw[List.length_dropLast];omega
 refine ⟨?_,fun ws hw=> ?_,fun ws hw x hx=> ?_⟩
 ·have:=ZbK 10 s.dropLast
  unfold Zg
  rw[List.length_map];omega
 ·obtain ⟨l,hl,rfl⟩:=List.mem_map.1 hw
  have:=ZbL 10 _ l hl
  have:=ZbK 32 l
  omega
 ·obtain ⟨l,hl,rfl⟩:=List.mem_map.1 hw
  have:=ZbL 10 _ l hl
  have:=ZbL 32 l x hx
  omega
theorem ZhA (s:List UInt8) (h:s.length≤1048576):Zba [.str s]=some (prR s):=by
 show (fun x0=>Zba [x0]) _=_
 rw[ZhD]
 unfold prR
 by_cases hs:s=[]
 ·subst hs
  have d0:decide (([]:List UInt8)=[])=true:=rfl
  simp only[d0,EVS]
  rfl
 have d0:decide (s=[])=false:=by simpa using hs
 have hl:0<s.length:=List.length_pos_iff.2 hs
 have hw1:IntKind.i64.wrap ((s.length:Int) - 1)=((s.length - 1:Nat):Int):=by rw[ZbT (by omega) (by omega)];omega
 have hb:=Zij (c:=0) hs
 have e10:decide (((s.getLast hs).toNat:Int)=10)=Z4 10 s:=Zf7 (c:=10) hs
 have hc:Zc5 (.str s) none (some (.int .i64 ((s.length - 1:Nat):Int)))=some (.str (s.take (s.length - 1))):=Zdq (by omega)
 rw[ZdM] at hc
 simp only[d0,EVS]
 obtain c1|c1:=(Bool.eq_false_or_eq_true (decide ((s.length:Int)>4000))).symm
 case inr=>simp only[c1,EVS];rfl
 have h4:s.length≤4000:=by have:=of_decide_eq_false c1;omega
 have htx:=txOk h4
 have hdl:s.dropLast.length≤4000:=by rw[List.length_dropLast];omega
 have hsp:ZaQ [.str s.dropLast,.int .u8 10]=some (.lst ((prL s).map .str)):=ZfJ s.dropLast 10 (by omega)
 have hLl:(prL s).length≤5000:=by have:=ZbK 10 s.dropLast;unfold prL;omega
 have hLm:∀x∈prL s,x.length≤4000:=fun x hx=>by have:=ZbL 10 _ x hx;omega
 have hWm:Zg s=(prL s).map (Zf 32):=rfl
 simp only[c1,hw1,hb,e10,hc,hsp,EVS]
 obtain c2|c2:=(Bool.eq_false_or_eq_true (Z4 10 s)).symm
 case inl=>simp only[c2,EVS];rfl
 simp only[c2,List.length_map,EVS]
 clear hb e10 hc hw1 c2 c1
 refine (congrArg (Zk false) ((Zdw (R:=PV) (prL s) (fun (b:List (List (List UInt8))) k=>[.agg [.lst ((ZcK ZaK b).map Zah),.lst (b.map Zlx)],pI (Int.ofNat k)]) (fun k b=>b=((prL s).take k).map (Zf 32)∧∀ws∈b,2≤ws.length)
  (fun b _ x=>if (Zf 32 x).length<2 then .inr (some (.tup [Za0 ⟨[],[]⟩,pB false])) else .inl (b++[Zf 32 x])) (fun b=>some (Zqg s b)) _ (by omega) (fun b k x b' hb hf he=> ?_) (fun again b k x hb hf=> ?_) (fun again b hb=> ?_) (b:=[]) ⟨rfl,by simp⟩).trans (Zki _ _ _ _ _))).trans ?_
 ·obtain ⟨hb1,hb2⟩:=hb
  split at he
  ·cases he
  ·rename_i hge
   cases he
   have hk:=Zi hf
   refine ⟨?_,fun ws hw=> ?_⟩
   ·have:(prL s)[k]=x:=by rw[List.getElem?_eq_getElem hk] at hf;exact Option.some.inj hf
    rw[List.take_succ_eq_append_getElem hk,List.map_append,hb1,this]
    rfl
   ·rcases List.mem_append.1 hw with hw|hw
    ·exact hb2 ws hw
    ·rw[List.mem_singleton] at hw;subst hw;omega
 ·have hk:=Zi hf
  have hxi:Zz (.lst ((prL s).map PV.str)) (.int .i64 (k:Int))=some (.str x):=ZI hf
  have hxl:=hLm x (List.mem_of_getElem? hf)
  have hw:IntKind.i64.wrap ((k:Int)+1)=((k+1:Nat):Int):=ZH hk (by omega)
  have hs2:ZaQ [.str x,.int .u8 32]=some (.lst ((Zf 32 x).map .str)):=ZfJ x 32 (by omega)
  have hwl:=ZbK 32 x
  simp only[Zbx hk,hxi,hs2,List.length_map,EVS]
  by_cases h2:(Zf 32 x).length<2
  ·have d2:decide (((Zf 32 x).length:Int)<2)=true:=by rw[decide_eq_true_eq];omega
   rw[if_pos h2]
   simp only[d2,EVS]
   rfl
  ·have d2:decide (((Zf 32 x).length:Int)<2)=false:=by rw[decide_eq_false_iff_not];omega
   rw[if_neg h2]
   obtain ⟨w0,w1,r,hW⟩:∃w0 w1 r,Zf 32 x=w0::w1::r:=by
    match hh:Zf 32 x with
    |[]=>rw[hh] at h2;simp at h2
    |[a]=>rw[hh] at h2;simp at h2
    |a::c::r=>exact ⟨a,c,r,rfl⟩
   have hbl:b.length≤5000:=by rw[hb.1,List.length_map,List.length_take];omega
   have hsl:=ZeC ZaK b
   have hw0:w0.length≤4000:=by have:=ZbL 32 x w0 (by rw[hW];simp);omega
   have hh:=Zn4 w0 (by unfold ZR;omega)
   unfold eKK at hh
   have hs1:∀a b c:PV,splice [a,b] 0 [c]=[c,b]:=fun _ _ _=>rfl
   have hs2:∀a b c:PV,splice [a,b] 1 [c]=[a,c]:=fun _ _ _=>rfl
   have hs3:∀a b c d e:PV,splice [a,b,c,d] 0 [e]=[e,b,c,d]:=fun _ _ _ _ _=>rfl
   have hs4:∀a b c d e:PV,splice [a,b,c,d] 1 [e]=[a,e,c,d]:=fun _ _ _ _ _=>rfl
   have hmk:∀a b c d:PV,ZgY [.val,.val,.nil,.nil] [a,b,c,d]=[a,b,.nl,.nl]:=fun _ _ _ _=>rfl
   have hag:∀l:List PV,agL (.agg l)=some l:=fun _=>rfl
   have hsg:∀a c:PV,((ZcK ZaK b).length+[PV.agg [a,c]].length≤4294967296∧[PV.agg [a,c]].all (Zag 2)=true)=True:=fun a c=>eq_true ⟨by simp;omega,rfl⟩
   have hwr:∀a c d e:PV,(b.length+[PV.agg [a,c,d,e]].length≤4294967296∧[PV.agg [a,c,d,e]].all (Zag 4)=true)=True:=fun a c d e=>eq_true ⟨by simp;omega,rfl⟩
   have hi0:Zz (.lst (PV.str w0::PV.str w1::r.map PV.str)) (.int .i64 0)=some (.str w0):=ZeN (i:=0) rfl
   have hi1:Zz (.lst (PV.str w0::PV.str w1::r.map PV.str)) (.int .i64 1)=some (.str w1):=ZeN (i:=1) rfl
   have hst:b.map Zlx++[.agg [.str w1,pI (ZaK w0).1,.nl,.nl]]=(b++[Zf 32 x]).map Zlx:=by rw[List.map_append,hW];rfl
   have hsn:ZcK ZaK (b++[w0::w1::r])=ZcK ZaK b++(if 0<(ZaK w0).2 then [(w1,(ZaK w0).2)] else []):=Zik ZaK (w0::w1::r) b
   rw[hW] at hst d2⊢
   simp only[d2,hi0,hi1,hh,hs1,hs2,List.map_cons,EVS]
   obtain c3|c3:=(Bool.eq_false_or_eq_true (decide (0<(ZaK w0).2))).symm
   ·simp only[c3,hi0,hi1,hs1,hs2,hs3,hs4,hmk,hag,hsg,hwr,hw,if_true,List.map_cons,EVS]
    rw[hst,hsn,if_neg (by simpa using c3),List.append_nil]
   ·simp only[c3,hi0,hi1,hs1,hs2,hs3,hs4,hmk,hag,hsg,hwr,hw,if_true,List.map_cons,EVS]
    rw[hst,hsn,if_pos (by simpa using c3),List.map_append (f:=Zah)]
    rfl
 ·obtain ⟨hb1,hb2⟩:=hb
  rw[List.take_length,←hWm] at hb1
  subst hb1
  have hsl:=ZeC ZaK (Zg s)
  have hWl:(Zg s).length=(prL s).length:=by rw[hWm,List.length_map]
  simp only[Zbs,List.length_map,EVS]
  refine Zqe (R:=PV) (prL s).length (fun k=>[.agg [.lst ((ZcK ZaK (Zg s)).map Zah),.lst (Zgb (Zg s) k)],pI (Int.ofNat k)]) _ _ (by omega) (fun again k hk=> ?_) (fun again=> ?_) _ (by rw[mixW_0];rfl)
  ·have hf:(prL s)[k]?=some (prL s)[k]:=List.getElem?_eq_getElem hk
   have hxi:Zz (.lst ((prL s).map PV.str)) (.int .i64 (k:Int))=some (.str (prL s)[k]):=ZI hf
   have hxl:=hLm _ (List.mem_of_getElem? hf)
   have hw:IntKind.i64.wrap ((k:Int)+1)=((k+1:Nat):Int):=ZH hk (by omega)
   have hs2:ZaQ [.str (prL s)[k],.int .u8 32]=some (.lst ((Zf 32 (prL s)[k]).map .str)):=ZfJ _ 32 (by omega)
   have hWk:(Zg s)[k]?=some (Zf 32 (prL s)[k]):=by rw[hWm,List.getElem?_map,hf];rfl
   have h2:=hb2 _ (List.mem_of_getElem? hWk)
   have hall:((Zf 32 (prL s)[k]).map PV.str).all (Zag 1)=true:=by rw[List.all_map,List.all_eq_true];intro y _;rfl
   have hcut:Zdc 1 (.lst ((Zf 32 (prL s)[k]).map PV.str)) (some (.int .i64 2)) none=some (.lst (((Zf 32 (prL s)[k]).drop 2).map PV.str)):=by
    unfold Zdc
    have e:Zh8 ((Zf 32 (prL s)[k]).map PV.str).length (some (.int .i64 2))=some 2:=by
     show (if (0:Int)≤2∧(2:Int)≤(((Zf 32 (prL s)[k]).map PV.str).length:Int) then some (2:Int).toNat else none)=_
     rw[if_pos (by rw[List.length_map];omega)];rfl
    dsimp only[ZfE]
    rw[Option.bind_some,e,Option.bind_some,if_pos hall,List.take_length,List.map_drop]
   have hN:=Zpg (Zg s) k
   have hwl:=ZbK 32 (prL s)[k]
   have hP:=Zmm (.lst ((ZcK ZaK (Zg s)).map Zah)) _ _ hN (by unfold Zad;rw[List.length_map];omega) k _ _ (Zqf hWk) ((Zf 32 (prL s)[k]).drop 2) (by rw[List.length_drop];omega) (fun y hy=>by have:=ZbL 32 _ y (List.mem_of_mem_drop hy);omega)
   have hml:=hN.1
   have hpl:Zfw (Zgb (Zg s) k) (.int .i64 (k:Int))=some (.int .i64 (k:Int)):=ZlM (by rw[hml];unfold Zad;rw[List.length_map];omega)
   have hD:=fun a' b' c' d'=>drowF (Zgb (Zg s) k) k (.lst ((ZcK ZaK (Zg s)).map Zah)) .undef _ _ _ _ (Zqf hWk) a' b' c' d'
   have hset:=ZsU hWk
   have he:Zv (ZnX (Zad (Zg s)) (Zf 32 (prL s)[k]))=.agg [.str ((Zf 32 (prL s)[k]).getD 1 []),pI (ZaK ((Zf 32 (prL s)[k]).getD 0 [])).1,.lst ((goR (Zad (Zg s)) ((Zf 32 (prL s)[k]).drop 2) []).1.map ZbJ),.lst ((goR (Zad (Zg s)) ((Zf 32 (prL s)[k]).drop 2) []).2.map PV.str)]:=rfl
   rw[he] at hset
   simp only[Zbx hk,hxi,hs2,hcut,hw,hpl,EVS]
   rw[hP,Option.bind_some,Option.bind_some]
   have hD':=hD (.str ((Zf 32 (prL s)[k]).getD 1 [])) (pI (ZaK ((Zf 32 (prL s)[k]).getD 0 [])).1) (.lst ((goR (Zad (Zg s)) ((Zf 32 (prL s)[k]).drop 2) []).1.map ZbJ)) (.lst ((goR (Zad (Zg s)) ((Zf 32 (prL s)[k]).drop 2) []).2.map PV.str))
   rw[hset] at hD'
   refine (congrArg (fun m:Option PV=>(((m.map fun x=>PV.agg [.lst ((ZcK ZaK (Zg s)).map Zah),x]).bind fun x=>some x).bind fun x=>again [x,.int .i64 ((k+1:Nat):Int)])) hD').trans ?_
   rfl
  ·have hn:[PV.lst ((ZcK ZaK (Zg s)).map Zah),.lst (Zgb (Zg s) (prL s).length)]=[.lst ((ZcC (Zg s)).signals.map Zah),.lst ((ZcC (Zg s)).wires.map Zv)]:=by
    rw[←hWl,ZsV];rfl
   have hg:=ZnN _ (Zkk htx)
   have ht:=Zn3 _ (Zkk htx)
   unfold Zqg Zkj
   simp only[Zbs,hn,hg,EVS]
   obtain c4|c4:=(Bool.eq_false_or_eq_true (Zbt (ZcC (Zg s)))).symm
   ·simp only[c4,EVS]
    rfl
   ·simp only[c4,ht c4,EVS]
    obtain c5|c5:=(Bool.eq_false_or_eq_true (decide (Zcl (ZcC (Zg s)) 0 (ZcC (Zg s)).wires []=s))).symm<;>simp only[c5,EVS]
    ·rfl
 ·rw[List.nil_append,←hWm,Zdh]
  split<;>rfl
def piR (s:List UInt8):PV:=
 if (decide ((s.length:Int)>4000)|| !Z4 10 s)=true then .tup [Za0 ⟨[],[]⟩,pB false]
 else if Zkj s (Za9 (Zg s))=true then .tup [Za0 (Za9 (Zg s)),pB true] else .tup [Za0 ⟨[],[]⟩,pB false]
theorem ZsW (nm l:List (List UInt8)):(Zmi nm l).length≤l.length:=by
 unfold Zmi
 rw[List.length_map]
 split
 ·rw[List.length_take];omega
 ·exact Nat.le_refl _
theorem ZsX (l:List (List UInt8)):(ZkP l).length≤l.length∧∀x∈ZkP l,x∈l:=by
 unfold ZkP
 split
 ·exact ⟨by rw[List.length_drop];omega,fun x hx=>List.mem_of_mem_drop hx⟩
 ·simp
theorem Zph {W:List (List (List UInt8))} (h:TxOk W):(Za9 W).Fit:=by
 refine ⟨?_,fun s hs=> ?_, ?_,fun w hw=> ?_⟩
 ·have:=ZeC Zb4 W
  have:=h.len
  unfold ZR Za9
  dsimp only
  omega
 ·obtain ⟨ws,h1,h2⟩:=Zhz Zb4 W s hs
  have:=ZfK (h.word ws h1) 1
  unfold ZR
  rw[h2];omega
 ·have:=h.len
  unfold ZR Za9
  simp only[List.length_map]
  omega
 ·obtain ⟨ws,h1,rfl⟩:=List.mem_map.1 hw
  have h2:=h.words ws h1
  have h3:=ZfK (h.word ws h1) 1
  have g1:=ZsW (Zad W) (ws.drop 2)
  obtain ⟨g2,g3⟩:=ZsX (ws.drop 2)
  simp only[List.length_drop] at g1 g2
  refine ⟨?_, ?_, ?_,fun c hc=> ?_⟩
  ·show (ws.getD 1 []).length≤_;omega
  ·show (Zmi (Zad W) (ws.drop 2)).length≤_;omega
  ·show (ZkP (ws.drop 2)).length≤_;omega
  ·have:=h.word ws h1 c (List.mem_of_mem_drop (g3 c hc))
   unfold ZR;omega
theorem wirL_I (nm ws:List (List UInt8)):wirL nm (ws.drop 1) (Zb4 (ws.getD 0 [])).1=Zo9 nm ws:=by
 unfold wirL Zo9
 rw[List.drop_drop]
 have:(ws.drop 1).getD 0 []=ws.getD 1 []:=by
  rw[List.getD_eq_getElem?_getD,List.getD_eq_getElem?_getD,List.getElem?_drop]
 rw[this]
def ZsY (ws:List (List UInt8)):PV:=.lst (ws.map PV.str)
theorem ZhB (s:List UInt8) (h:s.length≤1048576):Zbe [.str s]=some (piR s):=by
 show (fun x0=>Zbe [x0]) _=_
 rw[ZhK]
 unfold piR
 have hsf:=Ze0 s 10 (by unfold ZR;omega)
 obtain c1|c1:=(Bool.eq_false_or_eq_true (decide ((s.length:Int)>4000))).symm
 case inr=>simp only[c1,EVS];rfl
 have h4:s.length≤4000:=by have:=of_decide_eq_false c1;omega
 obtain c2|c2:=(Bool.eq_false_or_eq_true (Z4 10 s)).symm
 case inl=>simp only[c1,c2,hsf,EVS];rfl
 have hs:s≠[]:=by rintro rfl;cases c2
 have hl:0<s.length:=List.length_pos_iff.2 hs
 have hw1:IntKind.i64.wrap ((s.length:Int) - 1)=((s.length - 1:Nat):Int):=by rw[ZbT (by omega) (by omega)];omega
 have hc:Zc5 (.str s) none (some (.int .i64 ((s.length - 1:Nat):Int)))=some (.str (s.take (s.length - 1))):=Zdq (by omega)
 rw[ZdM] at hc
 have htx:=txOk h4
 have hdl:s.dropLast.length≤4000:=by rw[List.length_dropLast];omega
 have hsp:=Zlv s.dropLast 10 (by omega)
 have hLl:(prL s).length≤5000:=by have:=ZbK 10 s.dropLast;unfold prL;omega
 have hLm:∀x∈prL s,x.length≤4000:=fun x hx=>by have:=ZbL 10 _ x hx;omega
 have hWm:Zg s=(prL s).map (Zf 32):=rfl
 have hWl:(Zg s).length=(prL s).length:=by rw[hWm,List.length_map]
 have hpr:Zf 10 s.dropLast=prL s:=rfl
 rw[hpr] at hsp
 simp only[c1,c2,hsf,hw1,hc,hsp,List.length_map,EVS]
 clear c1 c2 hsf hc hw1
 refine (congrArg (Zk false) (Zcq (R:=PV) (prL s).length (fun k=>[.lst (((Zg s).take k).map ZsY),.lst (((Zg s).take k).map fun ws=>.str (ws.getD 1 [])),pI (Int.ofNat k)]) (some (if Zkj s (Za9 (Zg s))=true then .tup [Za0 (Za9 (Zg s)),pB true] else .tup [Za0 ⟨[],[]⟩,pB false])) _ (by omega) (fun again k hk=> ?_) (fun again=> ?_) _ rfl)).trans ?_
 ·have hf:(prL s)[k]?=some (prL s)[k]:=List.getElem?_eq_getElem hk
  have hxi:Zz (.lst ((prL s).map PV.str)) (.int .i64 (k:Int))=some (.str (prL s)[k]):=ZI hf
  have hxl:=hLm _ (List.mem_of_getElem? hf)
  have hw:IntKind.i64.wrap ((k:Int)+1)=((k+1:Nat):Int):=ZH hk (by omega)
  have hs2:=Zlv (prL s)[k] 32 (by omega)
  have hWk:(Zg s)[k]=Zf 32 (prL s)[k]:=by simp[hWm]
  have hne:=Zf4 32 (prL s)[k]
  have hwl:=ZbK 32 (prL s)[k]
  have hpos:0<(Zf 32 (prL s)[k]).length:=List.length_pos_iff.2 hne
  have hldt:∀(k:Kd) (sl:Option Nat) (l:List PV) (y:PV),Zh ⟨.tt,k,sl⟩ ⟨.lst l,y⟩=some l:=fun _ _ _ _=>rfl
  have hl1:((List.take k (Zg s)).length+[PV.lst ((Zf 32 (prL s)[k]).map PV.str)].length≤4294967296∧[PV.lst ((Zf 32 (prL s)[k]).map PV.str)].all (Zag 1)=true)=True:=eq_true ⟨by rw[List.length_take];simp only[List.length_cons,List.length_nil];omega,rfl⟩
  have hl2:∀z:List UInt8,((List.take k (Zg s)).length+[PV.str z].length≤4294967296∧[PV.str z].all (Zag 1)=true)=True:=fun z=>eq_true ⟨by rw[List.length_take];simp only[List.length_cons,List.length_nil];omega,rfl⟩
  have happ:((Zf 32 (prL s)[k]).length+[PV.str []].length≤4294967296∧([PV.str []].all (Zag 1)=true∧((Zf 32 (prL s)[k]).map PV.str).all (Zag 1)=true)∧0<(Zf 32 (prL s)[k]).length∧0<[PV.str []].length)=True:=eq_true ⟨by simp only[List.length_cons,List.length_nil];omega,⟨rfl,Zqd _⟩,hpos,by decide⟩
  have hpl:Zfw ((Zf 32 (prL s)[k]).map PV.str++[.str []]) (.int .i64 1)=some (.int .i64 1):=ZlM (k:=1) (by simp;omega)
  have hel:((Zf 32 (prL s)[k]).map PV.str++[.str []])[1]?=some (.str ((Zf 32 (prL s)[k]).getD 1 [])):=by
   rw[List.getD_eq_getElem?_getD]
   by_cases h2:1<(Zf 32 (prL s)[k]).length
   ·rw[List.getElem?_append_left (by simpa using h2),List.getElem?_map,List.getElem?_eq_getElem h2];rfl
   ·rw[List.getElem?_append_right (by simp;omega),List.getElem?_eq_none (l:=Zf 32 (prL s)[k]) (by omega),List.length_map,show 1 - (Zf 32 (prL s)[k]).length=0 by omega];rfl
  have t1:Int.toNat 1=1:=rfl
  simp only[Zbx hk,hxi,hs2,hw,hldt,hl1,hl2,happ,hpl,t1,hel,if_true,List.length_map,EVS]
  have hkW:k<(Zg s).length:=by omega
  rw[List.take_succ_eq_append_getElem hkW,hWk,List.map_append,List.map_append]
  rfl
 ·have htk:List.take (prL s).length (Zg s)=Zg s:=List.take_of_length_le (by omega)
  have hnm:(Zg s).map (fun ws=>PV.str (ws.getD 1 []))=(Zad (Zg s)).map PV.str:=by simp[Zad,Function.comp_def]
  have hWl':((Zg s).length:Int)=((prL s).length:Int):=by omega
  simp only[Zbs,htk,hnm,List.length_map,EVS]
  refine Zcq (R:=PV) (Zg s).length (fun k=>[.agg [.lst ((ZcK Zb4 ((Zg s).take k)).map Zah),.lst (((Zg s).take k).map fun ws=>Zv (Zo9 (Zad (Zg s)) ws))],pI (Int.ofNat k)]) _ _ (by omega) (fun again k hk=> ?_) (fun again=> ?_) _ rfl
  ·have hWk:(Zg s)[k]?=some (Zg s)[k]:=List.getElem?_eq_getElem hk
   obtain ⟨ws,hws⟩:∃ws,(Zg s)[k]=ws:=⟨_,rfl⟩
   rw[hws] at hWk
   have hmem:=List.mem_of_getElem? hWk
   have hwsl:=htx.words ws hmem
   have hwsm:=htx.word ws hmem
   have hpos:0<ws.length:=by
    rw[hWm,List.mem_map] at hmem
    obtain ⟨l,_,rfl⟩:=hmem
    exact List.length_pos_iff.2 (Zf4 32 l)
   have hw:IntKind.i64.wrap ((k:Int)+1)=((k+1:Nat):Int):=ZH hk (by omega)
   have hpl:Zfw ((Zg s).map ZsY) (.int .i64 (k:Int))=some (.int .i64 (k:Int)):=ZlM (by rw[List.length_map];exact hk)
   have hel:((Zg s).map ZsY)[k]?=some (.lst (ws.map PV.str)):=by rw[List.getElem?_map,hWk];rfl
   have hi0:Zz (.lst (ws.map PV.str)) (.int .i64 0)=some (.str (ws.getD 0 [])):=ZeN (i:=0) (by rw[List.getElem?_map,List.getElem?_eq_getElem hpos,List.getD_eq_getElem?_getD,List.getElem?_eq_getElem hpos];rfl)
   have hcu:Zdc 1 (.lst (ws.map PV.str)) (some (.int .i64 1)) none=some (.lst ((ws.drop 1).map PV.str)):=Zii (n:=1) (by omega)
   have h0l:=ZfK hwsm 0
   have hkd:=Zpe (ws.getD 0 []) (by unfold ZR;omega)
   unfold eKK at hkd
   have hrw:=Zml (Zad (Zg s)) (ws.drop 1) (Zb4 (ws.getD 0 [])).1 (by unfold Zad;rw[List.length_map];have:=htx.len;omega) (by rw[List.length_drop];omega) (fun y hy=>by have:=hwsm y (List.mem_of_mem_drop hy);omega)
   rw[wirL_I] at hrw
   have htl:(List.take k (Zg s)).length=k:=by rw[List.length_take];omega
   have hsl:=ZeC Zb4 (List.take k (Zg s))
   have hsg:∀a c:PV,((ZcK Zb4 (List.take k (Zg s))).length+[PV.agg [a,c]].length≤4294967296∧[PV.agg [a,c]].all (Zag 2)=true)=True:=fun a c=>eq_true ⟨by simp only[List.length_cons,List.length_nil];omega,rfl⟩
   have hwr:∀a c d e:PV,((List.take k (Zg s)).length+[PV.agg [a,c,d,e]].length≤4294967296∧[PV.agg [a,c,d,e]].all (Zag 4)=true)=True:=fun a c d e=>eq_true ⟨by simp only[List.length_cons,List.length_nil];omega,rfl⟩
   have hsn:=Zik Zb4 ws (List.take k (Zg s))
   have hts:List.take (k+1) (Zg s)=List.take k (Zg s)++[ws]:=by rw[List.take_succ_eq_append_getElem hk,hws]
   have hs2:∀a b c d:PV,splice [a,b,c,d] 1 [c]=[a,c,c,d]:=fun _ _ _ _=>rfl
   simp only[Zbx hk,hpl,hel,hi0,hkd,hcu,hrw,hw,EVS]
   rw[hts,hsn,List.map_append (l₁:=List.take k (Zg s))]
   obtain c3|c3:=(Bool.eq_false_or_eq_true (decide (0<(Zb4 (ws.getD 0 [])).2))).symm
   ·simp only[c3,hsg,hwr,if_true,List.length_map,EVS]
    rw[if_neg (of_decide_eq_false c3),List.append_nil]
    rfl
   ·simp only[c3,hsg,hwr,if_true,List.length_map,EVS]
    rw[if_pos (of_decide_eq_true c3),List.map_append (f:=Zah)]
    rfl
  ·have hpi:Za0 (Za9 (Zg s))=.agg [.lst ((ZcK Zb4 (Zg s)).map Zah),.lst ((Zg s).map fun ws=>Zv (Zo9 (Zad (Zg s)) ws))]:=by
    unfold Za9 Za0
    simp only[List.map_map,Function.comp_def]
   have hF:=ZgO _ (Zph htx)
   rw[hpi] at hF
   unfold fnP at hF
   unfold Zkj
   obtain c4|c4:=(Bool.eq_false_or_eq_true (Zbt (Za9 (Zg s)))).symm
   ·simp only[c4,Bool.false_eq_true,if_false] at hF⊢
    simp only[Zbs,hF,List.take_length,EVS]
    rfl
   ·have hC:=ZiP _ (netIn c4)
    rw[hpi] at hC
    simp only[c4,if_true] at hF⊢
    simp only[Zbs,hF,List.take_length,EVS]
    obtain c5|c5:=(Bool.eq_false_or_eq_true (decide (Zcl (Za9 (Zg s)) 0 (Za9 (Zg s)).wires []=s))).symm
    ·simp only[c5,EVS]
     rfl
    ·simp only[c5,hC,Zfx,EVS]
     rw[hpi]
 ·rw[Zdh]
theorem Zqi {s:List UInt8} {n:PNet} (hs:s≠[]) (h:Zkj s n=true):Za9 (Zg s)=n∧ZcC (Zg s)=n∧Zg s=ZaO n 0 n.wires:=by
 unfold Zkj at h
 rw[Bool.and_eq_true,decide_eq_true_eq] at h
 obtain ⟨h1,h2⟩:=h
 have hne:n.wires≠[]:=by
  intro e
  rw[e] at h2
  exact hs (by rw[←h2];rfl)
 have hp:=Zpb h1 hne
 have hw:=ZiG h1 hne
 rw[h2] at hp hw
 exact ⟨hp.1,hp.2,hw⟩
theorem Zkl (n:PNet):∀(l:List PWire) (k:Nat),∀ws∈ZaO n k l,2≤ws.length
 |[],k,ws,h=>by simp[ZaO] at h
 | w::r,k,ws,h=>by
  unfold ZaO at h
  rcases List.mem_cons.1 h with rfl|h
  ·unfold ZaD
   simp only[List.length_append,List.length_cons]
   omega
  ·exact Zkl n r (k+1) ws h
def pnP (s:List UInt8):PNet×Bool:=if (decide ((s.length:Int)>4000)|| !Z4 10 s)=true then (⟨[],[]⟩,false) else if Zkj s (Za9 (Zg s))=true then (Za9 (Zg s),true) else (⟨[],[]⟩,false)
theorem ZsZ (s:List UInt8):piR s=.tup [Za0 (pnP s).1,pB (pnP s).2]:=by
 unfold piR pnP
 split
 ·rfl
 ·split<;>rfl
theorem prR_eq (s:List UInt8):prR s=.tup [Za0 (pnP s).1,pB (pnP s).2]:=by
 rw[←ZsZ]
 unfold prR piR
 by_cases hs:s=[]
 ·subst hs
  rfl
 have d0:decide (s=[])=false:=by simpa using hs
 rw[d0,Bool.false_or]
 split
 ·rfl
 ·unfold Zqg
  by_cases hI:Zkj s (Za9 (Zg s))=true
  ·obtain ⟨e1,e2,e3⟩:=Zqi hs hI
   have hall:((prL s).all fun x=>decide (2≤(Zf 32 x).length))=true:=by
    rw[List.all_eq_true]
    intro x hx
    rw[decide_eq_true_eq]
    refine Zkl (Za9 (Zg s)) (Za9 (Zg s)).wires 0 (Zf 32 x) ?_
    rw[←e3]
    exact List.mem_map.2 ⟨x,hx,rfl⟩
   rw[if_pos hall,e2,if_pos hI]
  ·have hR:¬Zkj s (ZcC (Zg s))=true:=fun hR=>by
    obtain ⟨e1,e2,e3⟩:=Zqi hs hR
    rw[e1] at hI
    exact hI hR
   rw[if_neg hR,if_neg hI]
   split<;>rfl
theorem Zpi (s:List UInt8):NetIn (pnP s).1:=by
 unfold pnP
 split
 ·exact NetIn.nil
 ·split
  ·rename_i h
   unfold Zkj at h
   rw[Bool.and_eq_true] at h
   exact netIn h.1
  ·exact NetIn.nil
theorem ZtF (s:List UInt8) (h:s.length≤1048576):Zbe [.str s]=some (.tup [Za0 (pnP s).1,pB (pnP s).2]):=by rw[ZhB s h,ZsZ]
theorem ZtG (s:List UInt8) (h:s.length≤1048576):Zba [.str s]=some (.tup [Za0 (pnP s).1,pB (pnP s).2]):=by rw[ZhA s h,prR_eq]
end Go.Proofs.YtjjobbamoeaogaaDoor
